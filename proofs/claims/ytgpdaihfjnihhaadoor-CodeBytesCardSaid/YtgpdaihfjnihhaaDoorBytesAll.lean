/- Texts of this claim, joined: TablePure, HandLent, HandApart, HandRefGet, LebGet, LebGetS, CodePut, HandCodeBytes, WalkCodeBytes. -/
import Derived.Test.YtgpdaihfjnihhaaDoorPJx3
import Derived.Test.YtgpdaihfjnihhaaDoorHandCode6
import Derived.Test.YtgpdaihfjnihhaaDoorPJx0
import Derived.Test.YtgpdaihfjnihhaaDoorPJx8
import Derived.WalkKit
import Derived.Test.YtgpdaihfjnihhaaDoorAppendFull
import Derived.Test.YtgpdaihfjnihhaaDoorPJx7
import Derived.Test.YtgpdaihfjnihhaaDoorHandCode3
import Derived.Test.YtgpdaihfjnihhaaDoorPJx4
import Derived.Test.YtgpdaihfjnihhaaDoorPJx6
import Derived.Test.YtgpdaihfjnihhaaDoorLebPure
import Derived.Lib.Bytes
import Derived.Test.YtgpdaihfjnihhaaDoorPJx5
import Derived.Test.YtgpdaihfjnihhaaDoorPJx10
import Derived.Test.YtgpdaihfjnihhaaDoorPJx1
import Derived.Test.YtgpdaihfjnihhaaDoorHandTab
import Derived.Test.YtgpdaihfjnihhaaDoorOpenCode
namespace Go.Proofs.YtgpdaihfjnihhaaDoor.PJ
open Go.RowKit Go.Proofs.YtgpdaihfjnihhaaDoorW.PrintWords Go.Proofs.YtgpdaihfjnihhaaDoorW.PrintLast Go.Proofs.YtgpdaihfjnihhaaDoorW.PrintMore
set_option linter.unusedSimpArgs false
set_option maxRecDepth 100000
def rowOk (op : Int) : Bool := match louverref10_Table.f 3 op with
  | some (nm, _, _, kd, ok) => decide (nm.data = (nameOf op).data) && (ok == validOp op) && (operandOp op == (ok && decide (0 < kd))) && ((ok && kd == 1) == (op == 32)) && decide (0 ≤ kd)
  | none => false
theorem row_small : (List.range 48).all (fun n => rowOk (n : Int)) = true := by kernel_rfl
theorem table_far (op : Int) (h : op < 1 ∨ 47 < op) : louverref10_Table.f 3 op = some (ByteArray.empty, 0, 0, 0, false) := by
  unfold louverref10_Table.f
  by_cases h1 : op ≥ 1
  · rw [if_pos h1, decide_eq_false (show ¬ op ≤ 17 by omega)]
    unfold louverref10_Table.j0
    simp only [show ¬ op = 32 by omega, show ¬ op = 33 by omega, show ¬ op = 34 by omega, show ¬ op = 35 by omega, show ¬ op = 36 by omega, show ¬ op = 37 by omega, show ¬ op = 38 by omega, show ¬ op = 39 by omega, show ¬ op = 40 by omega, show ¬ op = 41 by omega, show ¬ op = 42 by omega, show ¬ op = 43 by omega, show ¬ op = 44 by omega, show ¬ op = 45 by omega, show ¬ op = 46 by omega, show ¬ op = 47 by omega, if_false, Bool.false_eq_true]
    rfl
  · rw [if_neg h1]
    unfold louverref10_Table.j0
    simp only [show ¬ op = 32 by omega, show ¬ op = 33 by omega, show ¬ op = 34 by omega, show ¬ op = 35 by omega, show ¬ op = 36 by omega, show ¬ op = 37 by omega, show ¬ op = 38 by omega, show ¬ op = 39 by omega, show ¬ op = 40 by omega, show ¬ op = 41 by omega, show ¬ op = 42 by omega, show ¬ op = 43 by omega, show ¬ op = 44 by omega, show ¬ op = 45 by omega, show ¬ op = 46 by omega, show ¬ op = 47 by omega, if_false, Bool.false_eq_true]
    rfl
theorem table_all (op : Int) : ∃ p q kd, louverref10_Table.f 3 op = some (nameOf op, p, q, kd, validOp op) ∧ operandOp op = (validOp op && decide (0 < kd)) ∧ (validOp op = true → (kd = 1 ↔ op = 32)) ∧ 0 ≤ kd := by
  by_cases h : op < 1 ∨ 47 < op
  · refine ⟨0, 0, 0, ?_, ?_, ?_, by decide⟩
    · rw [table_far op h, show nameOf op = ByteArray.empty by unfold nameOf; rw [if_neg (by omega), if_neg (by omega)], show validOp op = false by unfold validOp; exact decide_eq_false (by omega)]
    · rw [show validOp op = false by unfold validOp; exact decide_eq_false (by omega), show operandOp op = false by unfold operandOp; exact decide_eq_false (by omega)]
      rfl
    · intro hv
      rw [show validOp op = false by unfold validOp; exact decide_eq_false (by omega)] at hv
      cases hv
  · obtain ⟨n, rfl⟩ : ∃ n : Nat, op = (n : Int) := ⟨op.toNat, by omega⟩
    have hr := List.all_eq_true.mp row_small n (List.mem_range.mpr (by omega))
    unfold rowOk at hr
    cases hT : louverref10_Table.f 3 (n : Int) with
    | none => rw [hT] at hr; cases hr
    | some v =>
      obtain ⟨nm, p, q, kd, ok⟩ := v
      rw [hT] at hr
      simp only [Bool.and_eq_true, decide_eq_true_eq] at hr
      obtain ⟨⟨⟨⟨h1, h2⟩, h3⟩, h4⟩, h5⟩ := hr
      have h1 : nm = nameOf (n : Int) := by
        cases nm
        cases hq : nameOf (n : Int)
        rw [hq] at h1
        simp only at h1
        rw [h1]
      have h2 : ok = validOp (n : Int) := eq_of_beq h2
      have h3 := eq_of_beq h3
      have h4 := eq_of_beq h4
      refine ⟨p, q, kd, by rw [h1, h2], by rw [h3, h2], fun hv => ?_, h5⟩
      rw [h2, hv, Bool.true_and] at h4
      constructor
      · intro e
        rw [e] at h4
        exact eq_of_beq h4.symm
      · intro e
        rw [e] at h4
        exact eq_of_beq h4
theorem refMay_f (op a : Int) : louverref10_May.f 3 op a = some (mayOf op a) := by
  obtain ⟨p, q, kd, hT, ho, h32, h0⟩ := table_all op
  unfold louverref10_May.f mayOf
  rw [hT, Option.bind_some, ho]
  by_cases hv : validOp op = true
  · have e32 := h32 hv
    rw [hv]
    by_cases hk : kd = 0
    · subst hk
      simp
      by_cases ha : a = 0 <;> simp [ha]
    · have hk2 : 0 < kd := by omega
      by_cases h1 : kd = 1
      · have := e32.mp h1
        simp [h1, this]
      · have : ¬ op = 32 := fun e => h1 (e32.mpr e)
        simp [hk, h1, hk2, this]
  · have hv2 : validOp op = false := by simpa using hv
    rw [hv2]
    simp
end Go.Proofs.YtgpdaihfjnihhaaDoor.PJ

namespace Go.Proofs.YtgpdaihfjnihhaaDoor.PJ
open Go.RowKit Go.Proofs.YtgpdaihfjnihhaaDoorW.PrintWords Go.Proofs.YtgpdaihfjnihhaaDoorW.PrintLast Go.Proofs.YtgpdaihfjnihhaaDoorW.PrintMore

/-- The slice v holds l, and m stands behind it in the same new row. -/
def Lent (k : IntKind) (e : Nat) (W : World) (base : Nat) (v : Value) (l : List Int) (m : Int) : Prop :=
  ∃ A c, v = .slice A l.length c ∧ Kd.R (Kd.int k) e W base (fun _ => True) (.slice A (l ++ [m]).length c) (l ++ [m])
theorem Lent.below {k : IntKind} {e : Nat} {W W1 : World} {base : Nat} {v : Value} {l : List Int} {m : Int} (h : Lent k e W base v l m) (hb : Below W.heap.size W W1) : Lent k e W1 base v l m := by
  obtain ⟨A, c, rfl, hR⟩ := h
  exact ⟨A, c, rfl, Kd.R_below hR hb⟩
theorem Lent.reads {k : IntKind} {e : Nat} {W : World} {base : Nat} {v : Value} {l : List Int} {m : Int} (h : Lent k e W base v l m) :
    ∃ ad c, v = .slice (some ad) l.length c ∧ l.length + 1 ≤ c ∧ Kd.C (Kd.int k) W (some ad) l.length l ∧ W.cell? (ad.add l.length) = some (.int k m) := by
  obtain ⟨A, c, rfl, hR⟩ := h
  obtain ⟨_, hc, hC⟩ := Kd.R_reads' hR
  have hlen : (l ++ [m]).length = l.length + 1 := by simp
  obtain ⟨ad, rfl, hcell⟩ := hC.2.2 (by omega)
  refine ⟨ad, c, rfl, by omega, ?_, ?_⟩
  · have := Kd.C_take (m := l.length) hC (by omega)
    rw [List.take_left'] at this
    · exact this
    · rfl
  · obtain ⟨cs, h1, h2, h3⟩ := hcell l.length m (by simp)
    have e2 : cs = [.int k m] := h2
    have := h3 0 (.int k m) (by rw [e2]; rfl)
    have e3 : l.length * (Kd.int k).sz + 0 = l.length := by show l.length * 1 + 0 = l.length; omega
    rw [e3] at this
    exact this

/-- 'x[:n]' where n lies within the capacity. -/
theorem cut_up {P : Program} (t e : TypeId) {i : TypeInfo} (ht : P.underlying t = some (.slice e)) (hi : P.info? e = some i) (A : Option Addr) (n c : Nat) (j : Int) (h0 : 0 ≤ j) (hc : j ≤ c) :
    ∀ W : World, (Instr.slice t (.slice A n c) none (some (.int .i64 j)) none).run P W = .ok (.slice A j.toNat c) W := by
  intro W
  have hel : P.elem t = e := by simp [Program.elem, ht]
  have hu : P.underlying t = some (.slice (P.elem t)) := by rw [hel]; exact ht
  have ha : (A.map fun x => x.add 0) = A := by cases A <;> simp [Addr.add]
  rw [run_slice_h W t A n c hu .i64 j h0 hc, hel]
  simp [sizeOf, typeInfo, hi, sliced, Result.andThen, ha]

set_option maxHeartbeats 8000000 in
set_option maxRecDepth 100000 in
theorem louverkit_LentBytes.calls (A0 : Option Addr) (c0 : Nat) (l0 : List Int) (w : World) (hr0 : Kd.C (Kd.int .u8) w A0 l0.length l0) (hl : (l0.length + 1) * 1 ≤ 140737488355328) :
    Calls Tryd.prog 20 #[.slice A0 l0.length c0] w fun e w' => ∃ v0_ : Value, e = .returned (v0_) ∧ Lent .u8 5 w' w.heap.size v0_ l0 201 ∧ Below w.heap.size w w' := by
  have HR0 := Aside0.mk hr0
  have HL := Aside0.mk hl
  clear hr0 hl
  have HB := Aside0.mk (Below.refl w.heap.size w)
  go_enter Tryd.func20, Tryd.ntmps20
  go_wp2_with (first | ((with_reducible refine gate_builtin (b := .append) (xs := #[.tmp 4, .tmp 5]) rfl ?_); at_builtin; refine Kd.R_append_rows (Kd.int .u8) (w0 := w) w.heap.size rfl (.tmp 4) (.tmp 5) 27 5 (.int .u8 0) 1 rfl Tryd.underlying27 info5 rfl (by decide) (by omega) (.slice none 0 0) ([] : List Int) l0 _ _ _ (fun _ => True) (fun _ => False) rfl rfl ?aO ?aR (fun _ _ h => h) (fun _ h => h.elim) ?aF ?aB ?aS ?aL ?_; (case aR => exact HR0.out); (case aB => exact HB.out); (case aF => exact (fun _ _ => trivial)); (case aO => exact Kd.R_nil _ _ _ _ _); (case aS => exact (below_size HB.out)); (case aL => have := HL.out; simp only [List.length_nil]; omega); intro v102 w6 ho hb hg hat; rw [List.nil_append] at ho; have n0_ := Aside0.mk (hb); have n1_ := Aside0.mk (ho); clear HB; have HB := n0_; have HO103 := n1_; clear n0_ n1_; clear ho hb hg hat) | ((with_reducible refine gate_builtin (b := .append) (xs := #[.tmp 7, .tmp 8]) rfl ?_); at_builtin; refine Kd.R_append (Kd.int .u8) (w0 := w) w.heap.size rfl (.tmp 7) (.tmp 8) 27 5 (.int .u8 0) 1 rfl Tryd.underlying27 info5 rfl (by decide) (by omega) v102 l0 201 [.int .u8 201] (fun _ => True) (fun _ => False) rfl rfl ?aP (fun _ hk => hk.elim) ?aF ?aO ?aB ?aS ?aL ?_; (case aP => exact rfl); (case aB => exact (by repeat (first | (with_reducible first | exact HB.out | apply below_alloc | apply pw_below_drewN | apply below_drew1) | exact HB.out))); (case aF => exact (fun _ _ => trivial)); (case aO => exact (by (with_reducible repeat (first | apply Kd.R_alloc | apply Kd.R_drewN | apply Kd.R_drew)); exact HO103.out)); (case aS => exact (below_size (by repeat (first | (with_reducible first | exact HB.out | apply below_alloc | apply pw_below_drewN | apply below_drew1) | exact HB.out)))); (case aL => have := HL.out; omega); intro v105 w7 ho hb hg hat; have n0_ := Aside0.mk (hb); have n1_ := Aside0.mk (ho); clear HB; clear HO103; have HB := n0_; have HO106 := n1_; clear n0_ n1_; clear ho hb hg hat; obtain ⟨Ao8, co8, eo8⟩ := Kd.R_slice HO106.out; subst eo8; obtain ⟨i09, hi09, _, hsz9, _⟩ := info_parts info5; have hcut9 := cut_up (P := Tryd.prog) 27 5 Tryd.underlying27 hi09 Ao8 (l0 ++ [201]).length co8 (l0.length : Int) (by omega) (by have := (Kd.R_reads' HO106.out).2.1; simp only [List.length_append, List.length_singleton] at this; omega); clear hi09 hsz9; simp only [List.length_append, List.length_cons, List.length_nil, Int.toNat_natCast] at hcut9))
  go_ret
  exact ⟨_, rfl, ⟨Ao8, co8, rfl, HO106.out⟩, HB.out⟩

set_option maxHeartbeats 8000000 in
set_option maxRecDepth 100000 in
theorem louverkit_KeptBytes.calls (k : Nat) (v : Value) (l0 : List Int) (base : Nat) (A1 : Option Addr) (c1 : Nat) (l1 : List Int) (w : World) (hL : Lent .u8 5 w base v l0 201) (hr1 : Kd.C (Kd.int .u8) w A1 l1.length l1) (hc1 : l1.length ≤ c1) (hn : l0.length < 9223372036854775807) (h : louverkit_Bytes.f k l0 l1 = some true) :
    Calls Tryd.prog 26 #[v, .slice A1 l1.length c1] w fun e w' => e = .returned (.bool true) ∧ Drawn0 w w' := by
  obtain ⟨ad, c, rfl, hcap, hC, hcell⟩ := hL.reads
  have HC := Aside0.mk hC
  have HR1 := Aside0.mk hr1
  have HC1 := Aside0.mk hc1
  have HH := Aside0.mk h
  have HN := Aside0.mk hcap
  clear hL hC hr1 hc1 h
  have w1 : wrap64 ((l0.length : Int) + 1) = (l0.length : Int) + 1 := by
    unfold wrap64
    omega
  obtain ⟨i09, hi09, _, hsz9, _⟩ := info_parts info5
  have hcut9 := cut_up (P := Tryd.prog) 27 5 Tryd.underlying27 hi09 (some ad) l0.length c ((l0.length : Int) + 1) (by omega) (by omega)
  clear hi09 hsz9 hcap hn
  go_enter Tryd.func26, Tryd.ntmps26
  go_wp2_with (first | (go_at_call 25; (with_reducible refine (louverkit_Bytes.calls k _ _ l0 _ _ l1 true _ ?s1 ?s2 ?s3 ?s4 HH.out).mono ?_); (case s1 => exact HC.out); (case s2 => have := HN.out; omega); (case s3 => exact HR1.out); (case s4 => exact HC1.out); rintro e w' ⟨rfl, ⟨nd, rfl⟩⟩))
  go_ret
  exact ⟨rfl, by repeat (first | exact Drawn0.refl _ | apply Drawn0.step)⟩
end Go.Proofs.YtgpdaihfjnihhaaDoor.PJ

namespace Go.Proofs.YtgpdaihfjnihhaaDoor.PJ
open Go.RowKit Go.Proofs.YtgpdaihfjnihhaaDoorW.PrintWords Go.Proofs.YtgpdaihfjnihhaaDoorW.PrintLast Go.Proofs.YtgpdaihfjnihhaaDoorW.PrintMore
set_option linter.unusedSimpArgs false
set_option linter.unusedVariables false

/-- Of the blocks that were there, only those of S were written. -/
structure Wrote (S : Nat → Prop) (w w' : World) : Prop where
  os : w'.os = w.os
  tape : w'.tape = w.tape
  output : w'.output = w.output
  size : w.heap.size ≤ w'.heap.size
  block : ∀ k, k < w.heap.size → ¬ S k → w'.heap[k]? = w.heap[k]?
theorem Wrote.refl (S : Nat → Prop) (w : World) : Wrote S w w := ⟨rfl, rfl, rfl, Nat.le_refl _, fun _ _ _ => rfl⟩
theorem Wrote.grown {S : Nat → Prop} {w w1 w2 : World} {row : Option Nat} (h : Wrote S w w1) (hg : w1.grownBy w2 row) (hs : ∀ g, row = some g → S g ∨ w.heap.size ≤ g) : Wrote S w w2 :=
  ⟨hg.os.trans h.os, hg.tape.trans h.tape, hg.output.trans h.output, Nat.le_trans h.size hg.size, fun k hk hn => (hg.block k (Nat.lt_of_lt_of_le hk h.size) (fun he => by
    rcases hs k he.symm with h1 | h1
    · exact hn h1
    · omega)).trans (h.block k hk hn)⟩
theorem Wrote.below {S : Nat → Prop} {w w1 w2 : World} (h : Wrote S w w1) (hb : Below w1.heap.size w1 w2) : Wrote S w w2 := h.grown (row := none) (grown_of_below hb none) (fun g hg => by cases hg)
theorem Wrote.toBelow {S : Nat → Prop} {w w' : World} (h : Wrote S w w') (B : Nat) (hB : B ≤ w.heap.size) (hS : ∀ k, S k → B ≤ k) : Below B w w' :=
  ⟨h.os, h.tape, h.output, h.size, fun k hk => h.block k (by omega) (fun hs => by have := hS k hs; omega)⟩
theorem Wrote.cell {S : Nat → Prop} {w w' : World} (h : Wrote S w w') {a : Addr} {v : Value} (hc : w.cell? a = some v) (hn : ¬ S a.block) : w'.cell? a = some v := by
  have hlt := World.block_lt_of_cell? _ _ hc
  have := h.block _ hlt hn
  unfold World.cell? at hc ⊢
  rw [this]
  exact hc
/-- append(x, y) where x has no room: a new row. -/
theorem append_one_full {P : Program} {ops : Array Oper} {rest : List Oper} {o : Oper} {a : Act} {Q : Exit → Act → World → Prop} {k : IntKind} {W : World} (hgd : o.guard = none) (s x : Operand) (t e : TypeId) (bytes : Nat)
    (ho : o.op = .call { callee := .builtin .append, args := #[s, x], argTypes := #[t, t] })
    (ht : P.underlying t = some (.slice e)) (hinfo : (P.info? e).map (fun i => (i.zero, i.size, i.bytes)) = some (some (.int k 0), 1, bytes)) (hb0 : 0 < bytes)
    (xs : List Int) (y : Int) (A : Option Addr) (hs : a.eval s = .slice A xs.length xs.length) (hx : a.eval x = .slice (some ⟨W.heap.size, 0, none⟩) 1 1)
    (HX : Kd.C (Kd.int k) W A xs.length xs) (hl : (xs.length + 1) * bytes ≤ 140737488355328)
    (h : ∀ v1 w1, Kd.R (Kd.int k) e w1 W.heap.size (fun j => W.heap.size ≤ j) v1 (xs ++ [y]) → Below W.heap.size W w1 → wpList P ops Q rest (a.put o.dst v1) w1) :
    wpList P ops Q (o :: rest) a (W.alloc (.cells #[.int k y] e)) := by
  cases A with
  | none =>
    obtain ⟨rfl, _⟩ := C_none HX
    refine print_append_num (w0 := W) W.heap.size hgd s x t e k bytes ho ht hinfo hb0 (.slice none 0 0) [] y hs hx (own_nil _ _ _ _) (Below.refl _ _) (Nat.le_refl _) (by simpa using hl) ?_
    intro v1 w1 hown hb hg hat
    exact h v1 w1 (Kd.R_of_own hown (fun j hj => own_base hown j hj)) hb
  | some b =>
    obtain ⟨i0, hi, hzz⟩ := Option.map_eq_some_iff.1 hinfo
    simp only [Prod.mk.injEq] at hzz
    obtain ⟨hz0, hz1, hz2⟩ := hzz
    have hlen : xs.length + 1 ≤ 140737488355328 := Nat.le_trans (Nat.le_mul_of_pos_right _ hb0) hl
    have HX' : Kd.C (Kd.int k) (W.alloc (.cells #[.int k y] e)) (some b) xs.length xs := Kd.C_below HX (below_alloc (Below.refl _ _) _)
    obtain ⟨v1, w1, hr, ho', hg⟩ := run_append_arg_grows (P := P) (w := W.alloc (.cells #[.int k y] e)) t o.type e i0 (.int k 0) 1 bytes ht hi hz0 hz1 hz2 rfl (by omega) b xs.length xs.length (xs.map (Value.int k)) (by rw [List.length_map, Nat.mul_one]) (C_cells HX') ⟨W.heap.size, 0, none⟩ 1 1 [.int k y] rfl
      (World.news_of_block (cs := #[.int k y]) (t := e) (fr := (0, 0)) (heap_alloc_new W _)) (by omega) (by simp only [maxLen]; omega) hl
    have hb1 : Below W.heap.size W w1 := by
      have h0 : Below W.heap.size W (W.alloc (.cells #[.int k y] e)) := below_alloc (Below.refl _ _) _
      exact h0.grown hg (by simp) (fun q hq => by cases hq)
    have hown : w1.ownsRow W.heap.size e 1 v1 (xs ++ [y]).length (nums k (xs ++ [y])) := by
      have h2 := own_weaken ho' (base' := W.heap.size) (by simp)
      simpa [nums] using h2
    refine wpList_plain hgd fun K hK => ?_
    unfold Oper.wp execOp
    simp only [ho, resolve, invoke, builtin, Sem.run_bind, Sem.run_pure, Result.andThen_ok, List.map_toArray, List.map_cons, List.map_nil, hs, hx, hr]
    exact hK _ _ (h v1 w1 (Kd.R_of_own hown (fun j hj => own_base hown j hj)) hb1)

def mk8 (c : Int) (i k : Nat) : Int := (wrap64 (wrap64 (c * (i : Int)) + (k : Int))) % 256
def tl8 (c : Int) (i q : Nat) : List Int := (List.range q).map (mk8 c i)
theorem tl8_length (c : Int) (i q : Nat) : (tl8 c i q).length = q := by simp [tl8]
theorem tl8_succ (c : Int) (i q : Nat) : tl8 c i (q + 1) = tl8 c i q ++ [mk8 c i q] := by simp [tl8, List.range_succ]
theorem tl8_rd (c : Int) (i q k : Nat) (h : k < q) : rd (tl8 c i q) (k : Int) = mk8 c i k := by
  simp [rd, tl8, List.getElem?_range h]
theorem rd_left (xs ys : List Int) (k : Nat) (h : k < xs.length) : rd (xs ++ ys) (k : Int) = rd xs (k : Int) := by
  simp [rd, List.getElem?_append_left h]
theorem rd_right (xs ys : List Int) (k : Nat) : rd (xs ++ ys) ((xs.length + k : Nat) : Int) = rd ys (k : Int) := by
  simp only [rd, Int.toNat_natCast, List.getD_eq_getElem?_getD]
  rw [List.getElem?_append_right (by omega)]
  simp
theorem rd_set (xs : List Int) (k j : Nat) (y : Int) (h : k < xs.length) : rd (xs.set k y) (j : Int) = if j = k then y else rd xs (j : Int) := by
  simp only [rd, Int.toNat_natCast, List.getD_eq_getElem?_getD, List.getElem?_set]
  by_cases e : k = j
  · subst e
    simp [h]
  · rw [if_neg e, if_neg (Ne.symm e)]
theorem ext_rd (xs ys : List Int) (hl : xs.length = ys.length) (h : ∀ k : Nat, k < xs.length → rd xs (k : Int) = rd ys (k : Int)) : xs = ys := by
  apply List.ext_getElem hl
  intro i h1 h2
  have := h i h1
  simpa [rd, List.getElem?_eq_getElem h1, List.getElem?_eq_getElem h2] using this

/-- Rows i < n at V i, m i long, in blocks of ok i. -/
structure Rws (n : Nat) (V : Nat → Option Addr) (m cc : Nat → Nat) (ok : Nat → Nat → Prop) (base : Nat) (W : World) (xs : Nat → List Int) : Prop where
  len : ∀ i, i < n → (xs i).length = m i
  row : ∀ i, i < n → Kd.R (Kd.int .u8) 5 W base (ok i) (.slice (V i) (m i) (cc i)) (xs i)
section
variable {n : Nat} {V : Nat → Option Addr} {m cc : Nat → Nat} {ok : Nat → Nat → Prop} {base : Nat} {W W' : World} {xs ys : Nat → List Int}
theorem Rws.step (h : Rws n V m cc ok base W xs) (hm : ∀ i k, i < n → ok i k → k < W.heap.size → W'.heap[k]? = W.heap[k]?) : Rws n V m cc ok base W' xs :=
  ⟨h.len, fun i hi => Kd.R_step (h.row i hi) (fun k hk hlt => hm i k hi hk hlt)⟩
theorem Rws.below (h : Rws n V m cc ok base W xs) (hb : Below W.heap.size W W') : Rws n V m cc ok base W' xs := h.step (fun i k _ _ hk => hb.block k hk)
theorem Rws.congr (h : Rws n V m cc ok base W xs) (he : ∀ i, i < n → xs i = ys i) : Rws n V m cc ok base W ys := ⟨fun i hi => by rw [← he i hi]; exact h.len i hi, fun i hi => by rw [← he i hi]; exact h.row i hi⟩
theorem Rws.bound (h : Rws n V m cc ok base W xs) : Rws n V m cc (fun i k => ok i k ∧ k < W.heap.size) base W xs := ⟨h.len, fun i hi => Kd.R_mono (Kd.R_bound (h.row i hi)) (fun k hk => ⟨hk.1, hk.2.2.1⟩)⟩
theorem Rws.reads (h : Rws n V m cc ok base W xs) (i : Nat) (hi : i < n) : Kd.C (Kd.int .u8) W (V i) (xs i).length (xs i) := by
  obtain ⟨h1, _, h2⟩ := Kd.R_reads' (h.row i hi)
  exact h2
theorem Rws.at_ (h : Rws n V m cc ok base W xs) (i k : Nat) (hi : i < n) (hk : k < m i) : ∃ g, V i = some ⟨g, 0, none⟩ ∧ ok i g ∧ g < W.heap.size ∧ W.cell? ⟨g, k, none⟩ = some (.int .u8 (rd (xs i) (k : Int))) ∧ W.frozen? ⟨g, k, none⟩ = false := by
  have hR := h.row i hi
  have hl := h.len i hi
  have ho := Kd.own_of_R hR
  rcases id ho.2 with ⟨h', _⟩ | ⟨g, cap, cur, h', hg, hh, _⟩
  · injection h' with _ h' _
    omega
  · injection h' with h' _ _
    rw [h'] at hR ho
    obtain ⟨c1, c2⟩ := Kd.R_celln (0 : Int) hR (k : Int) (by omega) (by omega)
    rw [Int.toNat_natCast] at c1 c2
    exact ⟨g, h', hR.1 g rfl, own_lt ho g rfl, c1, c2⟩
theorem Rws.put (h : Rws n V m cc ok base W xs) (hd : ∀ i j k, i < n → j < n → ok i k → ok j k → i = j) (i k g : Nat) (hi : i < n) (hV : V i = some ⟨g, 0, none⟩) (hok : ok i g) (y : Int) :
    Rws n V m cc ok base (W.setCell ⟨g, k, none⟩ (.int .u8 y)) (fun j => if j = i then (xs i).set k y else xs j) ∧ W.grownBy (W.setCell ⟨g, k, none⟩ (.int .u8 y)) (some g) := by
  have hR := h.row i hi
  rw [hV] at hR
  obtain ⟨h1, h2⟩ := Kd.R_putg hR (k : Int) y
  rw [Int.toNat_natCast] at h1 h2
  refine ⟨⟨fun j hj => ?_, fun j hj => ?_⟩, h2⟩
  · by_cases e : j = i
    · subst e
      simp [h.len j hj]
    · simp [e, h.len j hj]
  · by_cases e : j = i
    · subst e
      show Kd.R _ _ _ _ _ _ (if j = j then _ else _)
      rw [if_pos rfl, hV]
      exact h1
    · simp only [e, if_false]
      exact Kd.R_grown (h.row j hj) h2 (fun q hq he => e (by injection he with he; subst he; exact hd j i q hj hi hq hok))
end

set_option maxHeartbeats 16000000 in
set_option maxRecDepth 100000 in
theorem apartBytes.calls (n : Nat) (V : Nat → Option Addr) (m cc : Nat → Nat) (ok0 : Nat → Nat → Prop) (xs0 : Nat → List Int) (ad : Addr) (c : Nat) (w : World)
    (hn : n ≤ 1000) (hm : ∀ i, i < n → m i + 80 ≤ 140737488355328) (hall : ∀ i, i < n → w.cell? (ad.add i) = some (.slice (V i) (m i) (m i))) (hab : ∀ i, (ad.add i).block = ad.block)
    (hr : Rws n V m cc ok0 0 w xs0) (hd0 : ∀ i j k, i < n → j < n → ok0 i k → ok0 j k → i = j) (ha0 : ∀ i, i < n → ¬ ok0 i ad.block) :
    Calls Tryd.prog 27 #[.slice (some ad) n c] w fun e w' => e = .returned (.bool true) ∧ Wrote (fun k => ∃ i, i < n ∧ ok0 i k) w w' := by
  obtain ⟨ok, hok⟩ : ∃ ok : Nat → Nat → Prop, ok = fun i k => ok0 i k ∧ k < w.heap.size := ⟨_, rfl⟩
  obtain ⟨S, hS⟩ : ∃ S : Nat → Prop, S = fun k => ∃ i, i < n ∧ ok0 i k := ⟨_, rfl⟩
  rw [← hS]
  have hSi : ∀ i k, i < n → ok i k → S k := fun i k hi hk => by rw [hS]; rw [hok] at hk; exact ⟨i, hi, hk.1⟩
  have hSa : ¬ S ad.block := by
    rw [hS]
    rintro ⟨i, hi, h⟩
    exact ha0 i hi h
  have hlt : ∀ i k, ok i k → k < w.heap.size := fun i k hk => by rw [hok] at hk; exact hk.2
  have hd : ∀ i j k, i < n → j < n → ok i k → ok j k → i = j := fun i j k hi hj h1 h2 => by rw [hok] at h1 h2; exact hd0 i j k hi hj h1.1 h2.1
  have hr1 : Rws n V m cc ok 0 w xs0 := by rw [hok]; exact hr.bound
  have HALL := Aside0.mk (show ∀ W, Wrote S w W → ∀ i, i < n → W.cell? (ad.add i) = some (.slice (V i) (m i) (m i)) from fun W hW i hi => hW.cell (hall i hi) (by rw [hab i]; exact hSa))
  have HN := Aside0.mk hn
  have HM := Aside0.mk hm
  have HSI := Aside0.mk hSi
  have HLT := Aside0.mk hlt
  have HD := Aside0.mk hd
  have HR := Aside0.mk hr1
  have HW := Aside0.mk (Wrote.refl S w)
  clear hr hd0 ha0 hall hab hS hok hSi hSa hlt hd hr1 hn hm
  go_enter Tryd.func27, Tryd.ntmps27
  go_wp2
  go_loopg [3] (n + 1) (fun kq v3 w' => ∃ (i : Nat) (xs : Nat → List Int), v3 = .int .i64 (i : Int) ∧ Aside0 (i + kq = n + 1) ∧ Aside0 (1 ≤ kq) ∧ Aside0 (Rws n V m cc ok 0 w' xs) ∧ Aside0 (∀ j, j < i → j < n → ∀ k, k < m j → rd (xs j) (k : Int) = mk8 37 j k) ∧ Aside0 (Wrote S w w'))
  case atStart => exact ⟨0, xs0, rfl, ⟨by omega⟩, ⟨by omega⟩, HR, ⟨fun j hj => by omega⟩, HW⟩
  case round =>
    clear HR HW
    obtain ⟨i, xs, rfl, HI, HI1, HR, HX, HW⟩ := hrel
    cases gk with
    | zero => exact absurd HI1.out (by omega)
    | succ k1 =>
      by_cases ci : i < n
      · have cib : decide ((i : Int) < (n : Int)) = true := decide_eq_true (by omega)
        have hw2 : wrap64 ((i : Int) + 1) = (i : Int) + 1 := by have := HN.out; unfold wrap64; omega
        go_wp2
        go_loopg [4] (m i + 1) (fun kq v4 w' => ∃ (k : Nat) (xs : Nat → List Int), v4 = .int .i64 (k : Int) ∧ Aside0 (k + kq = m i + 1) ∧ Aside0 (1 ≤ kq) ∧ Aside0 (Rws n V m cc ok 0 w' xs) ∧ Aside0 (∀ j, j < i → j < n → ∀ k, k < m j → rd (xs j) (k : Int) = mk8 37 j k) ∧ Aside0 (∀ k', k' < k → rd (xs i) (k' : Int) = mk8 37 i k') ∧ Aside0 (Wrote S w w'))
        case atStart => exact ⟨0, xs, rfl, ⟨by omega⟩, ⟨by omega⟩, HR, HX, ⟨fun j hj => by omega⟩, HW⟩
        case round =>
          clear HR HX HW
          obtain ⟨k, xs, rfl, HK, HK1, HR, HX, HY, HW⟩ := hrel
          have hcA := HALL.out _ HW.out i ci
          have hii : (i : Int) < (n : Int) := by omega
          cases gk with
          | zero => exact absurd HK1.out (by omega)
          | succ k2 =>
            by_cases ck : k < m i
            · have ckb : decide ((k : Int) < (m i : Int)) = true := decide_eq_true (by omega)
              have hki : (k : Int) < (m i : Int) := by omega
              have hw3 : wrap64 ((k : Int) + 1) = (k : Int) + 1 := by have := HM.out i ci; unfold wrap64; omega
              obtain ⟨g, hV, hokg, hgl, hc1, hf1⟩ := HR.out.at_ i k ci ck
              rw [hV] at hcA
              have HV := Aside0.mk hV
              have HOK := Aside0.mk hokg
              clear hV hokg hgl
              go_wp2
              obtain ⟨hP, hG⟩ := HR.out.put HD.out i k g ci HV.out HOK.out (mk8 37 i k)
              go_roundg k2
              case measure => omega
              case rel =>
                refine ⟨k + 1, _, by simp [hw3], ⟨by have := HK.out; omega⟩, ⟨by have := HK.out; omega⟩, ⟨hP⟩, ⟨fun j hj hjn q hq => ?_⟩, ⟨fun q hq => ?_⟩, ⟨HW.out.grown hG (fun q hq => by injection hq with hq; subst hq; exact .inl (HSI.out i g ci HOK.out))⟩⟩
                · simp only [show j ≠ i by omega, if_false]
                  exact HX.out j hj hjn q hq
                · simp only [if_true]
                  rw [rd_set _ _ _ _ (by rw [HR.out.len i ci]; exact ck)]
                  by_cases e : q = k
                  · subst e
                    simp
                  · simp only [e, if_false]
                    exact HY.out q (by omega)
            · have ckb : decide ((k : Int) < (m i : Int)) = false := decide_eq_false (by omega)
              go_wp2
              go_roundg k1
              case measure => omega
              case rel =>
                refine ⟨i + 1, xs, by simp [hw2], ⟨by have := HI.out; omega⟩, ⟨by have := HI.out; omega⟩, HR, ⟨fun j hj hjn q hq => ?_⟩, HW⟩
                by_cases e : j = i
                · subst e
                  exact HY.out q (by have := HK.out; omega)
                · exact HX.out j (by omega) hjn q hq
      · have cib : decide ((i : Int) < (n : Int)) = false := decide_eq_false (by omega)
        have hi : i = n := by have := HI.out; omega
        subst hi
        obtain ⟨n0, hn0⟩ : ∃ n0, n0 = i := ⟨i, rfl⟩
        have HRM := Aside0.mk (HR.out.congr (ys := fun j => tl8 37 j (m j)) (fun j hj => ext_rd _ _ (by rw [HR.out.len j hj, tl8_length]) (fun q hq => by rw [HR.out.len j hj] at hq; rw [HX.out j hj hj q hq, tl8_rd _ _ _ _ hq])))
        clear HR HX HI HI1 hn0
        go_wp2
        go_loopg [5, 6] (i + 1) (fun kq v5 v6 w' => ∃ (j : Nat), v6 = .int .i64 (j : Int) ∧ Aside0 (j + kq = i + 1) ∧ Aside0 (1 ≤ kq) ∧ Aside0 (Rws i V m cc ok 0 w' (fun j => tl8 37 j (m j))) ∧ Aside0 (Kd.R (Kd.slice 5 (Kd.int .u8)) 27 w' w.heap.size (fun k => w.heap.size ≤ k) v5 ((List.range j).map fun q => tl8 37 q (m q) ++ tl8 11 q 70)) ∧ Aside0 (Wrote S w w'))
        case atStart => exact ⟨0, rfl, ⟨by omega⟩, ⟨by omega⟩, HRM, ⟨Kd.R_nil _ _ _ _ _⟩, HW⟩
        case round =>
          clear HRM HW
          obtain ⟨j, rfl, HJ, HJ1, HR, HE, HW⟩ := hrel
          cases gk with
          | zero => exact absurd HJ1.out (by omega)
          | succ k1 =>
            by_cases cj : j < i
            · have cjb : decide ((j : Int) < (i : Int)) = true := decide_eq_true (by omega)
              have hji : (j : Int) < (i : Int) := by omega
              have hw2 : wrap64 ((j : Int) + 1) = (j : Int) + 1 := by have := HN.out; unfold wrap64; omega
              have hcA := HALL.out _ HW.out j cj
              go_wp2
              obtain ⟨wi, hwi⟩ : ∃ wi : World, wi = wr := ⟨_, rfl⟩
              rw [← hwi] at HR HE HW
              go_loopg [7, 8] 71 (fun kq v7 v8 w' => ∃ (q : Nat), v8 = .int .i64 (q : Int) ∧ Aside0 (q + kq = 71) ∧ Aside0 (1 ≤ kq) ∧ Aside0 ((q = 0 ∧ v7 = .slice (V j) (m j) (m j)) ∨ (1 ≤ q ∧ Kd.R (Kd.int .u8) 5 w' wi.heap.size (fun k => wi.heap.size ≤ k) v7 (tl8 37 j (m j) ++ tl8 11 j q))) ∧ Aside0 (Below wi.heap.size wi w'))
              case atStart => exact ⟨0, rfl, ⟨by omega⟩, ⟨by omega⟩, ⟨.inl ⟨rfl, rfl⟩⟩, ⟨by rw [hwi]; exact Below.refl _ _⟩⟩
              case round =>
                obtain ⟨q, rfl, HQ, HQ1, HV, HB⟩ := hrel
                cases gk with
                | zero => exact absurd HQ1.out (by omega)
                | succ k2 =>
                  by_cases cq : q < 70
                  · have cqb : decide ((q : Int) < 70) = true := decide_eq_true (by omega)
                    have hw3 : wrap64 ((q : Int) + 1) = (q : Int) + 1 := by unfold wrap64; omega
                    rcases HV.out with ⟨hq0, hv7⟩ | ⟨hq1, hR7⟩
                    · subst hq0
                      subst hv7
                      clear HV
                      have hC7 := (HR.out.below HB.out).reads j cj
                      have HC7 := Aside0.mk hC7
                      clear hC7
                      go_wp2_with (first | ((with_reducible refine gate_builtin (b := .append) (xs := #[.tmp 53, .tmp 59]) rfl ?_); at_builtin; refine append_one_full rfl (.tmp 53) (.tmp 59) 27 5 1 rfl Tryd.underlying27 info5 (by decide) (tl8 37 j (m j)) (wrap64 (wrap64 (11 * (j : Int))) % 256) (V j) ?hs rfl ?hC ?hl ?_; (case hs => rw [tl8_length]; rfl); (case hC => exact HC7.out); (case hl => have := HM.out j cj; rw [tl8_length]; omega); intro v1 w1 hR1 hb1; have HR1 := Aside0.mk hR1; have HB1 := Aside0.mk hb1; clear hR1 hb1))
                      go_roundg k2
                      case measure => omega
                      case rel => exact ⟨1, by simp, ⟨by have := HQ.out; omega⟩, ⟨by have := HQ.out; omega⟩, ⟨.inr ⟨Nat.le_refl _, by rw [show tl8 11 j 1 = [wrap64 (wrap64 (11 * (j : Int))) % 256] by simp [tl8, mk8]]; exact Kd.R_lower (Kd.R_mono HR1.out (fun k hk => Nat.le_trans HB.out.size hk)) HB.out.size⟩⟩, ⟨below_step HB.out HB1.out⟩⟩
                    · have HR7 := Aside0.mk hR7
                      have HQ2 := Aside0.mk hq1
                      clear HV hR7 hq1
                      go_wp2_with (first | ((with_reducible refine gate_builtin (b := .append) (xs := #[.tmp 53, .tmp 59]) rfl ?_); at_builtin; refine Kd.R_append (Kd.int .u8) (w0 := wi) wi.heap.size rfl (.tmp 53) (.tmp 59) 27 5 (.int .u8 0) 1 rfl Tryd.underlying27 info5 rfl (by decide) (by omega) u7 (tl8 37 j (m j) ++ tl8 11 j q) (mk8 11 j q) [.int .u8 (mk8 11 j q)] (fun k_ => wi.heap.size ≤ k_) (fun _ => False) rfl rfl ?aP (fun _ hk => hk.elim) ?aF ?aO ?aB ?aS ?aL ?_; (case aP => exact rfl); (case aB => exact HB.out); (case aF => exact (fun k_ hk => Nat.le_trans HB.out.size hk)); (case aO => exact HR7.out); (case aS => exact HB.out.size); (case aL => have := HM.out j cj; rw [List.length_append, tl8_length, tl8_length]; omega); intro v1 w1 ho hb hg hat; have HR1 := Aside0.mk ho; have HB1 := Aside0.mk hb; clear ho hb hg hat))
                      go_roundg k2
                      case measure => omega
                      case rel => exact ⟨q + 1, by simp [hw3], ⟨by have := HQ.out; omega⟩, ⟨by have := HQ.out; omega⟩, ⟨.inr ⟨by omega, by rw [tl8_succ, ← List.append_assoc]; exact HR1.out⟩⟩, HB1⟩
                  · have cqb : decide ((q : Int) < 70) = false := decide_eq_false (by omega)
                    obtain rfl : q = 70 := by have := HQ.out; omega
                    obtain ⟨L7, hL7⟩ : ∃ L7, tl8 37 j (m j) ++ tl8 11 j 70 = L7 := ⟨_, rfl⟩
                    have hR7 := (HV.out.resolve_left (by omega)).2
                    rw [hL7] at hR7
                    obtain ⟨A7, c7, rfl⟩ := Kd.R_slice hR7
                    have HR7 := Aside0.mk hR7
                    have HL7 := Aside0.mk hL7
                    clear HV hR7 hL7
                    have HEr := Aside0.mk (Kd.R_below HE.out HB.out)
                    have HRr := Aside0.mk (HR.out.below HB.out)
                    have HWr := Aside0.mk (HW.out.below HB.out)
                    have HOL := Aside0.mk (show ∀ k, u5.ownBlock = some k → w.heap.size ≤ k ∧ k < wi.heap.size from fun k hk => by
                      obtain ⟨inner, ho⟩ := Kd.R_own HE.out
                      exact ⟨own_base ho k hk, own_lt ho k hk⟩)
                    go_wp2_with (first | ((with_reducible refine gate_builtin (b := .append) (xs := #[.tmp 61, .tmp 63]) rfl ?_); at_builtin; refine Kd.R_append (Kd.slice 5 (Kd.int .u8)) (w0 := wr) w.heap.size rfl (.tmp 61) (.tmp 63) 54 27 (.slice none 0 0) 24 rfl Tryd.underlying54 (by kernel_rfl) rfl (by decide) (by omega) u5 ((List.range j).map fun q => tl8 37 q (m q) ++ tl8 11 q 70) L7 [.slice A7 L7.length c7] (fun k_ => w.heap.size ≤ k_) (fun k_ => wi.heap.size ≤ k_) rfl rfl ?aP ?aK ?aF ?aO ?aB ?aS ?aL ?_; (case aP => exact ⟨_, rfl, Kd.R_lower HR7.out HW.out.size⟩); (case aK => exact (fun k_ hk => ⟨Nat.le_trans HW.out.size hk, fun he => by have := (HOL.out k_ he.symm).2; omega⟩)); (case aB => exact Below.refl _ _); (case aF => exact (fun k_ hk => Nat.le_trans HWr.out.size hk)); (case aO => exact HEr.out); (case aS => exact HWr.out.size); (case aL => have := HN.out; rw [List.length_map, List.length_range]; omega); intro v1 w1 ho hb hg hat; have HE1 := Aside0.mk ho; have HG1 := Aside0.mk hg; clear ho hb hg hat))
                    go_roundg k1
                    case measure => omega
                    case rel =>
                      refine ⟨j + 1, by simp [hw2], ⟨by have := HJ.out; omega⟩, ⟨by have := HJ.out; omega⟩, ⟨HRr.out.step (fun x k hx hk hlt => HG1.out.block k hlt (fun he => by have := (HOL.out k he.symm).1; have := HLT.out x k hk; omega))⟩, ⟨by rw [List.range_succ, List.map_append, List.map_singleton, HL7.out]; exact HE1.out⟩, ⟨HWr.out.grown HG1.out (fun g hg => .inr (HOL.out g hg).1)⟩⟩
            · have cjb : decide ((j : Int) < (i : Int)) = false := decide_eq_false (by omega)
              obtain rfl : j = i := by have := HJ.out; omega
              clear HJ HJ1 cj cjb
              obtain ⟨w9, hw9⟩ : ∃ w9 : World, w9 = wr := ⟨_, rfl⟩
              rw [← hw9] at HR HE HW
              have H9 := Aside0.mk hw9
              clear hw9
              obtain ⟨AM, cM, hu5, _, hCM⟩ := Kd.R_reads HE.out
              rw [List.length_map, List.length_range] at hu5 hCM
              subst hu5
              have FA := Aside0.mk (HALL.out w9 HW.out)
              have FR := Aside0.mk (show ∀ q, q < j → ∀ k, k < m q → ∃ g, V q = some ⟨g, 0, none⟩ ∧ w9.cell? ⟨g, k, none⟩ = some (.int .u8 ((wrap64 (wrap64 (37 * (q : Int)) + (k : Int))) % 256)) from fun q hq k hk => by
                obtain ⟨g, h1, _, _, h2, _⟩ := HR.out.at_ q k hq hk
                rw [tl8_rd _ _ _ _ hk] at h2
                exact ⟨g, h1, h2⟩)
              have FM := Aside0.mk (show ∀ q, q < j → ∃ (am : Addr) (a' : Addr) (c' : Nat), AM = some am ∧ w9.cell? (am.add q) = some (.slice (some a') (m q + 70) c') ∧ (∀ k, k < m q → w9.cell? (a'.add k) = some (.int .u8 ((wrap64 (wrap64 (37 * (q : Int)) + (k : Int))) % 256))) ∧ ∀ k, k < 70 → w9.cell? (a'.add (m q + k)) = some (.int .u8 ((wrap64 (wrap64 (11 * (q : Int)) + (k : Int))) % 256)) from fun q hq => by
                obtain ⟨am, cs, e1, _, hK, hc⟩ := Kd.C_get hCM [] (q : Int) (by omega) (by omega)
                obtain ⟨A', c', rfl, hl', hC'⟩ := hK
                have h0 := hc 0 _ rfl
                rw [Int.toNat_natCast, show q * (Kd.slice 5 (Kd.int .u8)).sz + 0 = q by show q * 1 + 0 = q; omega] at h0
                have hel : (List.map (fun q => tl8 37 q (m q) ++ tl8 11 q 70) (List.range j)).getD q [] = tl8 37 q (m q) ++ tl8 11 q 70 := by
                  simp [List.getElem?_range hq]
                rw [Int.toNat_natCast] at hC'
                rw [hel] at h0 hC'
                rw [List.length_append, tl8_length, tl8_length] at h0
                rw [List.length_append, tl8_length, tl8_length] at hC'
                obtain ⟨a', e2, _⟩ := Kd.at_int hC' 0 (by omega) (by omega)
                subst e2
                refine ⟨am, a', c', e1, h0, fun k hk => ?_, fun k hk => ?_⟩
                · obtain ⟨a2, e3, h3⟩ := Kd.at_int hC' (k : Int) (by omega) (by omega)
                  injection e3 with e3
                  subst e3
                  rw [Int.toNat_natCast, rd_left _ _ _ (by rw [tl8_length]; exact hk), tl8_rd _ _ _ _ hk] at h3
                  exact h3
                · obtain ⟨a2, e3, h3⟩ := Kd.at_int hC' ((m q + k : Nat) : Int) (by omega) (by omega)
                  injection e3 with e3
                  subst e3
                  have e4 := rd_right (tl8 37 q (m q)) (tl8 11 q 70) k
                  rw [tl8_length] at e4
                  rw [Int.toNat_natCast, e4, tl8_rd _ _ _ _ hk] at h3
                  exact h3)
              clear HR HE hCM
              go_wp2
              go_loopg [9] (j + 1) (fun kq v9 w' => ∃ (x : Nat), v9 = .int .i64 (x : Int) ∧ Aside0 (x + kq = j + 1) ∧ Aside0 (1 ≤ kq) ∧ Aside0 (w' = w9))
              case atStart => exact ⟨0, rfl, ⟨by omega⟩, ⟨by omega⟩, ⟨H9.out.symm⟩⟩
              case round =>
                clear H9
                obtain ⟨x, rfl, HI, HI1, H9⟩ := hrel
                cases gk with
                | zero => exact absurd HI1.out (by omega)
                | succ k1 =>
                  by_cases cx : x < j
                  · have cxb : decide ((x : Int) < (j : Int)) = true := decide_eq_true (by omega)
                    have hxj : (x : Int) < (j : Int) := by omega
                    have hw2 : wrap64 ((x : Int) + 1) = (x : Int) + 1 := by have := HN.out; unfold wrap64; omega
                    have hcA := FA.out x cx
                    obtain ⟨am, a', c', e1, hcM, hM1, hM2⟩ := FM.out x cx
                    subst e1
                    rw [← H9.out] at hcA hcM
                    have HM1 := Aside0.mk hM1
                    have HM2 := Aside0.mk hM2
                    have HCA := Aside0.mk (FA.out x cx)
                    have HCM := Aside0.mk (show w9.cell? (am.add x) = some (.slice (some a') (m x + 70) c') by rw [← H9.out]; exact hcM)
                    clear hM1 hM2
                    go_wp2
                    go_loopg [11] (m x + 1) (fun kq v11 w' => ∃ (k : Nat), v11 = .int .i64 (k : Int) ∧ Aside0 (k + kq = m x + 1) ∧ Aside0 (1 ≤ kq) ∧ Aside0 (w' = w9))
                    case atStart => exact ⟨0, rfl, ⟨by omega⟩, ⟨by omega⟩, H9⟩
                    case round =>
                      clear H9 hcA hcM
                      obtain ⟨k, rfl, HK, HK1, H9⟩ := hrel
                      cases gk with
                      | zero => exact absurd HK1.out (by omega)
                      | succ k2 =>
                        have hcA := HCA.out
                        have hcM := HCM.out
                        rw [← H9.out] at hcA hcM
                        by_cases ck : k < m x
                        · have ckb : decide ((k : Int) < (m x : Int)) = true := decide_eq_true (by omega)
                          have hki : (k : Int) < (m x : Int) := by omega
                          have hki2 : (k : Int) < (m x : Int) + 70 := by omega
                          have hki3 : (k : Int) < ((m x + 70 : Nat) : Int) := by omega
                          have hw3 : wrap64 ((k : Int) + 1) = (k : Int) + 1 := by have := HM.out x cx; unfold wrap64; omega
                          obtain ⟨g, hV, hc1⟩ := FR.out x cx k ck
                          have hc2 := HM1.out k ck
                          rw [← H9.out] at hc1 hc2
                          rw [hV] at hcA
                          have HV := Aside0.mk hV
                          clear hV
                          go_wp2
                          go_roundg k2
                          case measure => omega
                          case rel => exact ⟨k + 1, by simp [hw3], ⟨by have := HK.out; omega⟩, ⟨by have := HK.out; omega⟩, H9⟩
                        · have ckb : decide ((k : Int) < (m x : Int)) = false := decide_eq_false (by omega)
                          go_wp2
                          go_loopg [12] 71 (fun kq v12 w' => ∃ (q : Nat), v12 = .int .i64 (q : Int) ∧ Aside0 (q + kq = 71) ∧ Aside0 (1 ≤ kq) ∧ Aside0 (w' = w9))
                          case atStart => exact ⟨0, rfl, ⟨by omega⟩, ⟨by omega⟩, H9⟩
                          case round =>
                            clear H9 hcA hcM
                            obtain ⟨q, rfl, HQ, HQ1, H9⟩ := hrel
                            cases gk with
                            | zero => exact absurd HQ1.out (by omega)
                            | succ k3 =>
                              have hcM := HCM.out
                              rw [← H9.out] at hcM
                              by_cases cq : q < 70
                              · have cqb : decide ((q : Int) < 70) = true := decide_eq_true (by omega)
                                have HQ3 := Aside0.mk (show q + 1 + k3 = 71 ∧ 1 ≤ k3 from by have := HQ.out; omega)
                                have hq1 : (m x : Int) + (q : Int) < (m x : Int) + 70 := by omega
                                have hq2 : 0 ≤ (m x : Int) + (q : Int) := by omega
                                have hq3 : ((m x : Int) + (q : Int)).toNat = m x + q := by omega
                                have hw4 : wrap64 ((m x : Int) + (q : Int)) = (m x : Int) + (q : Int) := by have := HM.out x cx; unfold wrap64; omega
                                have hw3 : wrap64 ((q : Int) + 1) = (q : Int) + 1 := by unfold wrap64; omega
                                have hc2 := HM2.out q cq
                                rw [← H9.out] at hc2
                                go_wp2
                                go_roundg k3
                                case measure => omega
                                case rel => exact ⟨q + 1, by simp [hw3], ⟨HQ3.out.1⟩, ⟨HQ3.out.2⟩, H9⟩
                              · have cqb : decide ((q : Int) < 70) = false := decide_eq_false (by omega)
                                go_wp2
                                go_roundg k1
                                case measure => omega
                                case rel => exact ⟨x + 1, by simp [hw2], ⟨by have := HI.out; omega⟩, ⟨by have := HI.out; omega⟩, H9⟩
                  · have cxb : decide ((x : Int) < (j : Int)) = false := decide_eq_false (by omega)
                    go_wp2
                    go_ret
                    exact ⟨rfl, by rw [H9.out]; exact HW.out⟩
end Go.Proofs.YtgpdaihfjnihhaaDoor.PJ

namespace Go.Proofs.YtgpdaihfjnihhaaDoor.PJ
open Go.RowKit Go.Proofs.YtgpdaihfjnihhaaDoorW.PrintWords Go.Proofs.YtgpdaihfjnihhaaDoorW.PrintLast Go.Proofs.YtgpdaihfjnihhaaDoorW.PrintMore
set_option linter.unusedSimpArgs false
set_option linter.unusedVariables false
set_option maxHeartbeats 16000000 in
set_option maxRecDepth 100000 in
theorem louverref10_Get.calls (k : Nat) (A0 : Option Addr) (c0 : Nat) (l0 : List Int) (U S : Int × Int × Int) (w : World) (hr0 : Kd.C (Kd.int .u8) w A0 l0.length l0) (hc0 : l0.length ≤ c0) (hbt : ∀ x ∈ l0, 0 ≤ x ∧ x ≤ 255)
    (hU : 0 ≤ U.1 ∧ U.1 ≤ 18446744073709551615) (hT : ∀ op, ∃ nm p q kd, louverref10_Table.f 3 op = some (nm, p, q, kd, validOp op) ∧ operandOp op = (validOp op && decide (0 < kd)) ∧ (validOp op = true → (kd = 1 ↔ op = 32)) ∧ 0 ≤ kd)
    (h1 : louverref03_Get.f k l0.tail = some U) (h2 : louverref03_GetSigned.f k l0.tail = some S) :
    Calls Tryd.prog 24 #[.slice A0 l0.length c0] w fun e w' => e = .returned (.tuple #[.agg #[.int .i64 (codeGet l0 U S).1, .int .i64 (codeGet l0 U S).2.1], .int .i64 (codeGet l0 U S).2.2.1, .int .i64 (codeGet l0 U S).2.2.2]) ∧ Below w.heap.size w w' := by
  cases l0 with
  | nil =>
    have HG := Aside0.mk (heap_alloc_new w (.cells #[.int .i64 0, .int .i64 0] 44))
    clear h1 h2 hT
    show Calls _ _ _ _ fun e w' => e = .returned (.tuple #[.agg #[.int .i64 0, .int .i64 0], .int .i64 0, .int .i64 30]) ∧ _
    go_enter Tryd.func24, Tryd.ntmps24
    go_wp2
    refine bodyPost_ret (results_ctt rfl _ _ w.heap.size 44 #[.int .i64 0, .int .i64 0] (0, 0) _ rfl HG.out Tryd.underlying44 rfl (by kernel_rfl)) rfl ?_
    exact ⟨rfl, below_alloc (Below.refl _ _) _⟩
  | cons b t =>
    obtain ⟨nm, p, q, kd, hTb, hop, hkd, hk0⟩ := hT b
    obtain ⟨ad, rfl, hx⟩ := Kd.at_int hr0 0 (by omega) (by simp)
    have hx0 : w.cell? ad = some (.int .u8 b) := by
      have := hx
      simpa [rd, Addr.add] using this
    have hbb := hbt b (by simp)
    have hwb : wrap64 b = b := by unfold wrap64; omega
    obtain ⟨A4, hcut, hR4, hc4⟩ := cut_drop_int (P := Tryd.prog) (k := .u8) 27 5 Tryd.underlying27 info5 (some ad) c0 (b :: t) t 1 (by simp) hc0 rfl
    have hcut1 : ∀ W : World, (Instr.slice 27 (.slice (some ad) (t.length + 1) c0) (some (.int .i64 1)) none none).run Tryd.prog W = .ok (.slice A4 t.length (c0 - 1)) W := hcut
    have HR4 := Aside0.mk hR4
    have HC4 := Aside0.mk hc4
    have H1 := Aside0.mk (show louverref03_Get.f k t = some U from h1)
    have H2 := Aside0.mk (show louverref03_GetSigned.f k t = some S from h2)
    have HR0 := Aside0.mk hr0
    have HX0 := Aside0.mk hx0
    have HTb := Aside0.mk hTb
    have hx1 : ∀ o, (w.alloc o).cell? ad = some (.int .u8 b) := fun o => pw_cell_below (below_alloc (Below.refl _ _) o) hx0
    have hn : ¬ ((t.length : Int) + 1 = 0) := by omega
    clear hr0 hc0 hx hx0 hcut hR4 hc4 h1 h2 hbt hbb hT hTb
    obtain ⟨R, hRq⟩ : ∃ R, codeGet (b :: t) U S = R := ⟨_, rfl⟩
    rw [hRq]
    have HB0 := Aside0.mk (below_alloc (Below.refl w.heap.size w) (.cells #[.int .i64 0, .int .i64 0] 44))
    have HG0 := Aside0.mk (heap_alloc_new w (.cells #[.int .i64 0, .int .i64 0] 44))
    by_cases hv : validOp b = true
    · rw [hv] at HTb
      have hk := hkd hv
      rw [hv, Bool.true_and] at hop
      by_cases h32 : b = 32
      · obtain rfl : kd = 1 := hk.mpr h32
        have HRq := Aside0.mk (show instrErr b S S.1 false = R by rw [← hRq, codeGet_cons, if_pos hv, if_pos h32])
        clear hRq hv hop hk hkd h32 hk0
        obtain ⟨s1, s2, s3⟩ := S
        by_cases he : s3 = 0
        · subst he
          obtain rfl : (b, s1, wrap64 (s2 + 1), 0) = R := by rw [← HRq.out]; simp [instrErr]
          clear HRq
          go_enter Tryd.func24, Tryd.ntmps24
          go_wp2_with fail
          refine (louverref10_Table.calls 3 b nm p q 1 true _ HTb.out).mono ?_
          rintro e w1 ⟨rfl, hb⟩
          have HB1 := Aside0.mk (below_alloc (below_step HB0.out hb) (.cells #[.string nm, .int .i64 p, .int .i64 q, .int .i64 1] 62))
          have HG1 := Aside0.mk (blk_alloc (blk_below HG0.out hb) (.cells #[.string nm, .int .i64 p, .int .i64 q, .int .i64 1] 62))
          have HW1 := Aside0.mk (heap_alloc_new w1 (.cells #[.string nm, .int .i64 p, .int .i64 q, .int .i64 1] 62))
          have hx2 : ∀ o, (w1.alloc o).cell? ad = some (.int .u8 b) := fun o => pw_cell_below (below_alloc (below_step HB0.out hb) o) HX0.out
          have HB2 := Aside0.mk (below_alloc HB1.out (.cells #[.int .i64 b, .int .i64 0] 44))
          have HG2 := Aside0.mk (blk_alloc HG1.out (.cells #[.int .i64 b, .int .i64 0] 44))
          have HW2 := Aside0.mk (blk_alloc HW1.out (.cells #[.int .i64 b, .int .i64 0] 44))
          have HI2 := Aside0.mk (show ((w1.alloc (.cells #[.string nm, .int .i64 p, .int .i64 q, .int .i64 1] 62)).alloc (.cells #[.int .i64 b, .int .i64 0] 44)).heap[w1.heap.size + 1]? = some (.cells #[.int .i64 b, .int .i64 0] 44 (0, 0)) by
            have := heap_alloc_new (w1.alloc (.cells #[.string nm, .int .i64 p, .int .i64 q, .int .i64 1] 62)) (.cells #[.int .i64 b, .int .i64 0] 44)
            simpa using this)
          have d3 : ((w1.alloc (.cells #[.string nm, .int .i64 p, .int .i64 q, .int .i64 1] 62)).alloc (.cells #[.int .i64 b, .int .i64 0] 44)).cell? ⟨w1.heap.size, 3, none⟩ = some (.int .i64 1) := blk_cell HW2.out 3
          have hlt : w.heap.size < w1.heap.size := by have := below_size (below_step HB0.out hb); have := blk_lt (blk_below HG0.out hb); omega
          obtain ⟨i0, i1, _, _⟩ := facts2 HI2.out
          obtain ⟨c20, c21, f20, f21⟩ := facts2 HG2.out
          clear hb
          go_wp2_with fail
          refine (louverref03_GetSigned.calls k A4 _ t s1 s2 0 _ (HR4.out _ (Kd.C_below HR0.out HB2.out)) HC4.out H2.out).mono ?_
          rintro e w4 ⟨rfl, hb⟩
          clear c20 c21 f20 f21 i0 i1 d3
          have HB4 := Aside0.mk (below_step HB2.out hb)
          have HG4 := Aside0.mk (blk_below HG2.out hb)
          have HW4 := Aside0.mk (blk_below HW2.out hb)
          have HI4 := Aside0.mk (blk_below HI2.out hb)
          obtain ⟨c20, c21, f20, f21⟩ := facts2 HG4.out
          obtain ⟨i0, i1, fi0, fi1⟩ := facts2 HI4.out
          have d3 : w4.cell? ⟨w1.heap.size, 3, none⟩ = some (.int .i64 1) := blk_cell HW4.out 3
          have HG5 := Aside0.mk (blk_far (p := ⟨w1.heap.size + 1, 1, none⟩) HG4.out (show w.heap.size ≠ w1.heap.size + 1 by omega) (.int .i64 s1))
          have HW5 := Aside0.mk (blk_far (p := ⟨w1.heap.size + 1, 1, none⟩) HW4.out (show w1.heap.size ≠ w1.heap.size + 1 by omega) (.int .i64 s1))
          have HI5 := Aside0.mk (blk_set HI4.out 1 (.int .i64 s1))
          have HB5 := Aside0.mk (below_set (j := 1) (v := .int .i64 s1) HB4.out (show w.heap.size ≤ w1.heap.size + 1 by omega))
          obtain ⟨g20, g21, h20, h21⟩ := facts2 HG5.out
          obtain ⟨j0, j1, _, _⟩ := facts2 (x := .int .i64 b) (y := .int .i64 s1) HI5.out
          have e3 : (w4.setCell ⟨w1.heap.size + 1, 1, none⟩ (.int .i64 s1)).cell? ⟨w1.heap.size, 3, none⟩ = some (.int .i64 1) := blk_cell HW5.out 3
          clear hb
          go_wp2
          refine bodyPost_ret (results_ctt rfl _ _ w.heap.size 44 #[.int .i64 b, .int .i64 s1] (0, 0) _ rfl (put2 HG5.out _ _) Tryd.underlying44 rfl (by kernel_rfl)) rfl ?_
          exact ⟨rfl, below_set (below_set HB5.out (Nat.le_refl _)) (Nat.le_refl _)⟩
        · have heb : (s3 == 0) = false := beq_eq_false_iff_ne.mpr he
          have hec : (s3 != 0) = true := bne_iff_ne.mpr he
          obtain rfl : (0, 0, 0, s3) = R := by rw [← HRq.out]; simp [instrErr, he]
          clear HRq
          go_enter Tryd.func24, Tryd.ntmps24
          go_wp2_with fail
          refine (louverref10_Table.calls 3 b nm p q 1 true _ HTb.out).mono ?_
          rintro e w1 ⟨rfl, hb⟩
          have HB1 := Aside0.mk (below_alloc (below_step HB0.out hb) (.cells #[.string nm, .int .i64 p, .int .i64 q, .int .i64 1] 62))
          have HG1 := Aside0.mk (blk_alloc (blk_below HG0.out hb) (.cells #[.string nm, .int .i64 p, .int .i64 q, .int .i64 1] 62))
          have HW1 := Aside0.mk (heap_alloc_new w1 (.cells #[.string nm, .int .i64 p, .int .i64 q, .int .i64 1] 62))
          have hx2 : ∀ o, (w1.alloc o).cell? ad = some (.int .u8 b) := fun o => pw_cell_below (below_alloc (below_step HB0.out hb) o) HX0.out
          have HB2 := Aside0.mk (below_alloc HB1.out (.cells #[.int .i64 b, .int .i64 0] 44))
          have HG2 := Aside0.mk (blk_alloc HG1.out (.cells #[.int .i64 b, .int .i64 0] 44))
          have HW2 := Aside0.mk (blk_alloc HW1.out (.cells #[.int .i64 b, .int .i64 0] 44))
          have HI2 := Aside0.mk (show ((w1.alloc (.cells #[.string nm, .int .i64 p, .int .i64 q, .int .i64 1] 62)).alloc (.cells #[.int .i64 b, .int .i64 0] 44)).heap[w1.heap.size + 1]? = some (.cells #[.int .i64 b, .int .i64 0] 44 (0, 0)) by
            have := heap_alloc_new (w1.alloc (.cells #[.string nm, .int .i64 p, .int .i64 q, .int .i64 1] 62)) (.cells #[.int .i64 b, .int .i64 0] 44)
            simpa using this)
          have d3 : ((w1.alloc (.cells #[.string nm, .int .i64 p, .int .i64 q, .int .i64 1] 62)).alloc (.cells #[.int .i64 b, .int .i64 0] 44)).cell? ⟨w1.heap.size, 3, none⟩ = some (.int .i64 1) := blk_cell HW2.out 3
          have hlt : w.heap.size < w1.heap.size := by have := below_size (below_step HB0.out hb); have := blk_lt (blk_below HG0.out hb); omega
          obtain ⟨i0, i1, _, _⟩ := facts2 HI2.out
          obtain ⟨c20, c21, f20, f21⟩ := facts2 HG2.out
          clear hb
          go_wp2_with fail
          refine (louverref03_GetSigned.calls k A4 _ t s1 s2 s3 _ (HR4.out _ (Kd.C_below HR0.out HB2.out)) HC4.out H2.out).mono ?_
          rintro e w4 ⟨rfl, hb⟩
          clear c20 c21 f20 f21 i0 i1 d3
          have HB4 := Aside0.mk (below_step HB2.out hb)
          have HG4 := Aside0.mk (blk_below HG2.out hb)
          have HW4 := Aside0.mk (blk_below HW2.out hb)
          have HI4 := Aside0.mk (blk_below HI2.out hb)
          obtain ⟨c20, c21, f20, f21⟩ := facts2 HG4.out
          obtain ⟨i0, i1, fi0, fi1⟩ := facts2 HI4.out
          have d3 : w4.cell? ⟨w1.heap.size, 3, none⟩ = some (.int .i64 1) := blk_cell HW4.out 3
          clear hb
          go_wp2
          refine bodyPost_ret (results_ctt rfl _ _ w.heap.size 44 #[.int .i64 0, .int .i64 0] (0, 0) _ rfl (put2 HG4.out _ _) Tryd.underlying44 rfl (by kernel_rfl)) rfl ?_
          exact ⟨rfl, below_set (below_set HB4.out (Nat.le_refl _)) (Nat.le_refl _)⟩
      have hk1 : ¬ (kd = 1) := fun h => h32 (hk.mp h)
      have hk1b : (kd == 1) = false := beq_eq_false_iff_ne.mpr hk1
      by_cases ho : operandOp b = true
      · have hk2 : 1 < kd := by have := of_decide_eq_true (hop.symm.trans ho); omega
        have hk2b : decide (1 < kd) = true := decide_eq_true hk2
        have HRq := Aside0.mk (show instrErr b U (wrap64 U.1) (decide (wrap64 U.1 < 0)) = R by rw [← hRq, codeGet_cons, if_pos hv, if_neg h32, if_pos ho])
        clear hRq hv ho hop hk hkd h32 hk0
        obtain ⟨u1, u2, u3⟩ := U
        obtain ⟨a1, ha1⟩ : ∃ a1, wrap64 u1 = a1 := ⟨_, rfl⟩
        simp only [ha1] at HRq hU
        by_cases he : u3 = 0
        · subst he
          by_cases hneg : a1 < 0
          · have hbig : 9223372036854775807 < u1 := by rw [← ha1] at hneg; unfold wrap64 at hneg; omega
            have hbigb : decide (9223372036854775807 < u1) = true := decide_eq_true hbig
            obtain rfl : (0, 0, 0, 100) = R := by rw [← HRq.out]; simp [instrErr, hneg]
            clear HRq hU hneg
            go_enter Tryd.func24, Tryd.ntmps24
            go_wp2_with fail
            refine (louverref10_Table.calls 3 b nm p q kd true _ HTb.out).mono ?_
            rintro e w1 ⟨rfl, hb⟩
            have HB1 := Aside0.mk (below_alloc (below_step HB0.out hb) (.cells #[.string nm, .int .i64 p, .int .i64 q, .int .i64 kd] 62))
            have HG1 := Aside0.mk (blk_alloc (blk_below HG0.out hb) (.cells #[.string nm, .int .i64 p, .int .i64 q, .int .i64 kd] 62))
            have HW1 := Aside0.mk (heap_alloc_new w1 (.cells #[.string nm, .int .i64 p, .int .i64 q, .int .i64 kd] 62))
            have hx2 : ∀ o, (w1.alloc o).cell? ad = some (.int .u8 b) := fun o => pw_cell_below (below_alloc (below_step HB0.out hb) o) HX0.out
            have HB2 := Aside0.mk (below_alloc HB1.out (.cells #[.int .i64 b, .int .i64 0] 44))
            have HG2 := Aside0.mk (blk_alloc HG1.out (.cells #[.int .i64 b, .int .i64 0] 44))
            have HW2 := Aside0.mk (blk_alloc HW1.out (.cells #[.int .i64 b, .int .i64 0] 44))
            have HI2 := Aside0.mk (show ((w1.alloc (.cells #[.string nm, .int .i64 p, .int .i64 q, .int .i64 kd] 62)).alloc (.cells #[.int .i64 b, .int .i64 0] 44)).heap[w1.heap.size + 1]? = some (.cells #[.int .i64 b, .int .i64 0] 44 (0, 0)) by
              have := heap_alloc_new (w1.alloc (.cells #[.string nm, .int .i64 p, .int .i64 q, .int .i64 kd] 62)) (.cells #[.int .i64 b, .int .i64 0] 44)
              simpa using this)
            have d3 : ((w1.alloc (.cells #[.string nm, .int .i64 p, .int .i64 q, .int .i64 kd] 62)).alloc (.cells #[.int .i64 b, .int .i64 0] 44)).cell? ⟨w1.heap.size, 3, none⟩ = some (.int .i64 kd) := blk_cell HW2.out 3
            have hlt : w.heap.size < w1.heap.size := by have := below_size (below_step HB0.out hb); have := blk_lt (blk_below HG0.out hb); omega
            obtain ⟨i0, i1, _, _⟩ := facts2 HI2.out
            obtain ⟨c20, c21, f20, f21⟩ := facts2 HG2.out
            clear hb
            go_wp2_with fail
            refine (louverref03_Get.calls k A4 _ t u1 u2 0 _ (HR4.out _ (Kd.C_below HR0.out HB2.out)) HC4.out H1.out).mono ?_
            rintro e w4 ⟨rfl, hb⟩
            clear c20 c21 f20 f21 i0 i1 d3
            have HB4 := Aside0.mk (below_step HB2.out hb)
            have HG4 := Aside0.mk (blk_below HG2.out hb)
            have HW4 := Aside0.mk (blk_below HW2.out hb)
            have HI4 := Aside0.mk (blk_below HI2.out hb)
            obtain ⟨c20, c21, f20, f21⟩ := facts2 HG4.out
            obtain ⟨i0, i1, fi0, fi1⟩ := facts2 HI4.out
            have d3 : w4.cell? ⟨w1.heap.size, 3, none⟩ = some (.int .i64 kd) := blk_cell HW4.out 3
            clear hb
            go_wp2
            refine bodyPost_ret (results_ctt rfl _ _ w.heap.size 44 #[.int .i64 0, .int .i64 0] (0, 0) _ rfl (put2 HG4.out _ _) Tryd.underlying44 rfl (by kernel_rfl)) rfl ?_
            exact ⟨rfl, below_set (below_set HB4.out (Nat.le_refl _)) (Nat.le_refl _)⟩
          · have hbig : ¬ (9223372036854775807 < u1) := by rw [← ha1] at hneg; unfold wrap64 at hneg; omega
            have hbigb : decide (9223372036854775807 < u1) = false := decide_eq_false hbig
            obtain rfl : (b, a1, wrap64 (u2 + 1), 0) = R := by rw [← HRq.out]; simp [instrErr, hneg]
            clear HRq hU hneg
            go_enter Tryd.func24, Tryd.ntmps24
            go_wp2_with fail
            refine (louverref10_Table.calls 3 b nm p q kd true _ HTb.out).mono ?_
            rintro e w1 ⟨rfl, hb⟩
            have HB1 := Aside0.mk (below_alloc (below_step HB0.out hb) (.cells #[.string nm, .int .i64 p, .int .i64 q, .int .i64 kd] 62))
            have HG1 := Aside0.mk (blk_alloc (blk_below HG0.out hb) (.cells #[.string nm, .int .i64 p, .int .i64 q, .int .i64 kd] 62))
            have HW1 := Aside0.mk (heap_alloc_new w1 (.cells #[.string nm, .int .i64 p, .int .i64 q, .int .i64 kd] 62))
            have hx2 : ∀ o, (w1.alloc o).cell? ad = some (.int .u8 b) := fun o => pw_cell_below (below_alloc (below_step HB0.out hb) o) HX0.out
            have HB2 := Aside0.mk (below_alloc HB1.out (.cells #[.int .i64 b, .int .i64 0] 44))
            have HG2 := Aside0.mk (blk_alloc HG1.out (.cells #[.int .i64 b, .int .i64 0] 44))
            have HW2 := Aside0.mk (blk_alloc HW1.out (.cells #[.int .i64 b, .int .i64 0] 44))
            have HI2 := Aside0.mk (show ((w1.alloc (.cells #[.string nm, .int .i64 p, .int .i64 q, .int .i64 kd] 62)).alloc (.cells #[.int .i64 b, .int .i64 0] 44)).heap[w1.heap.size + 1]? = some (.cells #[.int .i64 b, .int .i64 0] 44 (0, 0)) by
              have := heap_alloc_new (w1.alloc (.cells #[.string nm, .int .i64 p, .int .i64 q, .int .i64 kd] 62)) (.cells #[.int .i64 b, .int .i64 0] 44)
              simpa using this)
            have d3 : ((w1.alloc (.cells #[.string nm, .int .i64 p, .int .i64 q, .int .i64 kd] 62)).alloc (.cells #[.int .i64 b, .int .i64 0] 44)).cell? ⟨w1.heap.size, 3, none⟩ = some (.int .i64 kd) := blk_cell HW2.out 3
            have hlt : w.heap.size < w1.heap.size := by have := below_size (below_step HB0.out hb); have := blk_lt (blk_below HG0.out hb); omega
            obtain ⟨i0, i1, _, _⟩ := facts2 HI2.out
            obtain ⟨c20, c21, f20, f21⟩ := facts2 HG2.out
            clear hb
            go_wp2_with fail
            refine (louverref03_Get.calls k A4 _ t u1 u2 0 _ (HR4.out _ (Kd.C_below HR0.out HB2.out)) HC4.out H1.out).mono ?_
            rintro e w4 ⟨rfl, hb⟩
            clear c20 c21 f20 f21 i0 i1 d3
            have HB4 := Aside0.mk (below_step HB2.out hb)
            have HG4 := Aside0.mk (blk_below HG2.out hb)
            have HW4 := Aside0.mk (blk_below HW2.out hb)
            have HI4 := Aside0.mk (blk_below HI2.out hb)
            obtain ⟨c20, c21, f20, f21⟩ := facts2 HG4.out
            obtain ⟨i0, i1, fi0, fi1⟩ := facts2 HI4.out
            have d3 : w4.cell? ⟨w1.heap.size, 3, none⟩ = some (.int .i64 kd) := blk_cell HW4.out 3
            have HG5 := Aside0.mk (blk_far (p := ⟨w1.heap.size + 1, 1, none⟩) HG4.out (show w.heap.size ≠ w1.heap.size + 1 by omega) (.int .i64 a1))
            have HW5 := Aside0.mk (blk_far (p := ⟨w1.heap.size + 1, 1, none⟩) HW4.out (show w1.heap.size ≠ w1.heap.size + 1 by omega) (.int .i64 a1))
            have HI5 := Aside0.mk (blk_set HI4.out 1 (.int .i64 a1))
            have HB5 := Aside0.mk (below_set (j := 1) (v := .int .i64 a1) HB4.out (show w.heap.size ≤ w1.heap.size + 1 by omega))
            obtain ⟨g20, g21, h20, h21⟩ := facts2 HG5.out
            obtain ⟨j0, j1, _, _⟩ := facts2 (x := .int .i64 b) (y := .int .i64 a1) HI5.out
            have e3 : (w4.setCell ⟨w1.heap.size + 1, 1, none⟩ (.int .i64 a1)).cell? ⟨w1.heap.size, 3, none⟩ = some (.int .i64 kd) := blk_cell HW5.out 3
            clear hb
            go_wp2
            refine bodyPost_ret (results_ctt rfl _ _ w.heap.size 44 #[.int .i64 b, .int .i64 a1] (0, 0) _ rfl (put2 HG5.out _ _) Tryd.underlying44 rfl (by kernel_rfl)) rfl ?_
            exact ⟨rfl, below_set (below_set HB5.out (Nat.le_refl _)) (Nat.le_refl _)⟩
        · have heb : (u3 == 0) = false := beq_eq_false_iff_ne.mpr he
          have hec : (u3 != 0) = true := bne_iff_ne.mpr he
          obtain rfl : (0, 0, 0, u3) = R := by rw [← HRq.out]; simp [instrErr, he]
          clear HRq hU
          go_enter Tryd.func24, Tryd.ntmps24
          go_wp2_with fail
          refine (louverref10_Table.calls 3 b nm p q kd true _ HTb.out).mono ?_
          rintro e w1 ⟨rfl, hb⟩
          have HB1 := Aside0.mk (below_alloc (below_step HB0.out hb) (.cells #[.string nm, .int .i64 p, .int .i64 q, .int .i64 kd] 62))
          have HG1 := Aside0.mk (blk_alloc (blk_below HG0.out hb) (.cells #[.string nm, .int .i64 p, .int .i64 q, .int .i64 kd] 62))
          have HW1 := Aside0.mk (heap_alloc_new w1 (.cells #[.string nm, .int .i64 p, .int .i64 q, .int .i64 kd] 62))
          have hx2 : ∀ o, (w1.alloc o).cell? ad = some (.int .u8 b) := fun o => pw_cell_below (below_alloc (below_step HB0.out hb) o) HX0.out
          have HB2 := Aside0.mk (below_alloc HB1.out (.cells #[.int .i64 b, .int .i64 0] 44))
          have HG2 := Aside0.mk (blk_alloc HG1.out (.cells #[.int .i64 b, .int .i64 0] 44))
          have HW2 := Aside0.mk (blk_alloc HW1.out (.cells #[.int .i64 b, .int .i64 0] 44))
          have HI2 := Aside0.mk (show ((w1.alloc (.cells #[.string nm, .int .i64 p, .int .i64 q, .int .i64 kd] 62)).alloc (.cells #[.int .i64 b, .int .i64 0] 44)).heap[w1.heap.size + 1]? = some (.cells #[.int .i64 b, .int .i64 0] 44 (0, 0)) by
            have := heap_alloc_new (w1.alloc (.cells #[.string nm, .int .i64 p, .int .i64 q, .int .i64 kd] 62)) (.cells #[.int .i64 b, .int .i64 0] 44)
            simpa using this)
          have d3 : ((w1.alloc (.cells #[.string nm, .int .i64 p, .int .i64 q, .int .i64 kd] 62)).alloc (.cells #[.int .i64 b, .int .i64 0] 44)).cell? ⟨w1.heap.size, 3, none⟩ = some (.int .i64 kd) := blk_cell HW2.out 3
          have hlt : w.heap.size < w1.heap.size := by have := below_size (below_step HB0.out hb); have := blk_lt (blk_below HG0.out hb); omega
          obtain ⟨i0, i1, _, _⟩ := facts2 HI2.out
          obtain ⟨c20, c21, f20, f21⟩ := facts2 HG2.out
          clear hb
          go_wp2_with fail
          refine (louverref03_Get.calls k A4 _ t u1 u2 u3 _ (HR4.out _ (Kd.C_below HR0.out HB2.out)) HC4.out H1.out).mono ?_
          rintro e w4 ⟨rfl, hb⟩
          clear c20 c21 f20 f21 i0 i1 d3
          have HB4 := Aside0.mk (below_step HB2.out hb)
          have HG4 := Aside0.mk (blk_below HG2.out hb)
          have HW4 := Aside0.mk (blk_below HW2.out hb)
          have HI4 := Aside0.mk (blk_below HI2.out hb)
          obtain ⟨c20, c21, f20, f21⟩ := facts2 HG4.out
          obtain ⟨i0, i1, fi0, fi1⟩ := facts2 HI4.out
          have d3 : w4.cell? ⟨w1.heap.size, 3, none⟩ = some (.int .i64 kd) := blk_cell HW4.out 3
          clear hb
          go_wp2
          refine bodyPost_ret (results_ctt rfl _ _ w.heap.size 44 #[.int .i64 0, .int .i64 0] (0, 0) _ rfl (put2 HG4.out _ _) Tryd.underlying44 rfl (by kernel_rfl)) rfl ?_
          exact ⟨rfl, below_set (below_set HB4.out (Nat.le_refl _)) (Nat.le_refl _)⟩
      · have ho2 : operandOp b = false := by simpa using ho
        obtain rfl : kd = 0 := by have := of_decide_eq_false (hop.symm.trans ho2); omega
        obtain rfl : (b, 0, 1, 0) = R := by rw [← hRq, codeGet_cons, if_pos hv, if_neg h32, if_neg ho]
        have hw1 : wrap64 1 = 1 := by kernel_rfl
        clear hRq hv ho ho2 hop hk hkd h32 hk0 hk1 hk1b
        go_enter Tryd.func24, Tryd.ntmps24
        go_wp2_with fail
        refine (louverref10_Table.calls 3 b nm p q 0 true _ HTb.out).mono ?_
        rintro e w1 ⟨rfl, hb⟩
        have HB1 := Aside0.mk (below_alloc (below_step HB0.out hb) (.cells #[.string nm, .int .i64 p, .int .i64 q, .int .i64 0] 62))
        have HG1 := Aside0.mk (blk_alloc (blk_below HG0.out hb) (.cells #[.string nm, .int .i64 p, .int .i64 q, .int .i64 0] 62))
        have HW1 := Aside0.mk (heap_alloc_new w1 (.cells #[.string nm, .int .i64 p, .int .i64 q, .int .i64 0] 62))
        have hx2 : ∀ o, (w1.alloc o).cell? ad = some (.int .u8 b) := fun o => pw_cell_below (below_alloc (below_step HB0.out hb) o) HX0.out
        have HB2 := Aside0.mk (below_alloc HB1.out (.cells #[.int .i64 b, .int .i64 0] 44))
        have HG2 := Aside0.mk (blk_alloc HG1.out (.cells #[.int .i64 b, .int .i64 0] 44))
        have HW2 := Aside0.mk (blk_alloc HW1.out (.cells #[.int .i64 b, .int .i64 0] 44))
        have HI2 := Aside0.mk (show ((w1.alloc (.cells #[.string nm, .int .i64 p, .int .i64 q, .int .i64 0] 62)).alloc (.cells #[.int .i64 b, .int .i64 0] 44)).heap[w1.heap.size + 1]? = some (.cells #[.int .i64 b, .int .i64 0] 44 (0, 0)) by
          have := heap_alloc_new (w1.alloc (.cells #[.string nm, .int .i64 p, .int .i64 q, .int .i64 0] 62)) (.cells #[.int .i64 b, .int .i64 0] 44)
          simpa using this)
        have d3 : ((w1.alloc (.cells #[.string nm, .int .i64 p, .int .i64 q, .int .i64 0] 62)).alloc (.cells #[.int .i64 b, .int .i64 0] 44)).cell? ⟨w1.heap.size, 3, none⟩ = some (.int .i64 0) := blk_cell HW2.out 3
        have hlt : w.heap.size < w1.heap.size := by have := below_size (below_step HB0.out hb); have := blk_lt (blk_below HG0.out hb); omega
        obtain ⟨i0, i1, _, _⟩ := facts2 HI2.out
        obtain ⟨c20, c21, f20, f21⟩ := facts2 HG2.out
        clear hb
        clear hlt
        go_wp2
        refine bodyPost_ret (results_ctt rfl _ _ w.heap.size 44 #[.int .i64 b, .int .i64 0] (0, 0) _ rfl (put2 HG2.out _ _) Tryd.underlying44 rfl (by kernel_rfl)) rfl ?_
        exact ⟨rfl, below_set (below_set HB2.out (Nat.le_refl _)) (Nat.le_refl _)⟩
    · have hv2 : validOp b = false := by simpa using hv
      rw [hv2] at HTb
      obtain rfl : (0, 0, 0, 100) = R := by rw [← hRq, codeGet_cons, if_neg hv]
      clear hRq hv hv2 hop hkd hk0
      go_enter Tryd.func24, Tryd.ntmps24
      go_wp2_with fail
      refine (louverref10_Table.calls 3 b nm p q kd false _ HTb.out).mono ?_
      rintro e w1 ⟨rfl, hb⟩
      have HB1 := Aside0.mk (below_alloc (below_step HB0.out hb) (.cells #[.string nm, .int .i64 p, .int .i64 q, .int .i64 kd] 62))
      have HG1 := Aside0.mk (blk_alloc (blk_below HG0.out hb) (.cells #[.string nm, .int .i64 p, .int .i64 q, .int .i64 kd] 62))
      have HW1 := Aside0.mk (heap_alloc_new w1 (.cells #[.string nm, .int .i64 p, .int .i64 q, .int .i64 kd] 62))
      have hx2 : ∀ o, (w1.alloc o).cell? ad = some (.int .u8 b) := fun o => pw_cell_below (below_alloc (below_step HB0.out hb) o) HX0.out
      obtain ⟨c20, c21, f20, f21⟩ := facts2 HG1.out
      clear hb
      go_wp2
      refine bodyPost_ret (results_ctt rfl _ _ w.heap.size 44 #[.int .i64 0, .int .i64 0] (0, 0) _ rfl (put2 HG1.out _ _) Tryd.underlying44 rfl (by kernel_rfl)) rfl ?_
      exact ⟨rfl, below_set (below_set HB1.out (Nat.le_refl _)) (Nat.le_refl _)⟩
end Go.Proofs.YtgpdaihfjnihhaaDoor.PJ

namespace Go.Proofs.YtgpdaihfjnihhaaDoor.LebPure
open Go.RowKit Go.Proofs.YtgpdaihfjnihhaaDoor.PJ Go.Proofs.YtgpdaihfjnihhaaDoorW.PrintWords Go.Proofs.YtgpdaihfjnihhaaDoorW.PrintLast Go.Proofs.YtgpdaihfjnihhaaDoorW.PrintMore Go.Proofs.YtgpdaihfjnihhaaDoor.B64 Go.Proofs.YtgpdaihfjnihhaaDoor.LebForm

theorem Equal_f (a b : List Int) (ha : Bts a) (hb : Bts b) : bytes_Equal.f a b = some (decide (a = b)) := by
  unfold bytes_Equal.f
  congr 1
  have inj : ∀ a b : List Int, Bts a → Bts b → (strOfNums a).toList = (strOfNums b).toList → a = b := by
    intro a
    induction a with
    | nil =>
      intro b _ _ h
      rw [Lib.strOfNums_toList, Lib.strOfNums_toList] at h
      cases b with
      | nil => rfl
      | cons y t => simp [Lib.bytesOf] at h
    | cons x s ih =>
      intro b ha hb h
      rw [Lib.strOfNums_toList, Lib.strOfNums_toList] at h
      cases b with
      | nil => simp [Lib.bytesOf] at h
      | cons y t =>
        simp only [Lib.bytesOf, List.map_cons, List.cons.injEq] at h
        have hx := ha x List.mem_cons_self
        have hy := hb y List.mem_cons_self
        have e : x = y := by
          have := congrArg UInt8.toNat h.1
          simp at this
          omega
        have := ih t (fun z hz => ha z (List.mem_cons_of_mem _ hz)) (fun z hz => hb z (List.mem_cons_of_mem _ hz)) (by rw [Lib.strOfNums_toList, Lib.strOfNums_toList]; exact h.2)
        rw [e, this]
  by_cases h : a = b
  · simp [h]
  · rw [decide_eq_false h]
    exact beq_eq_false_iff_ne.mpr (fun e => h (inj a b ha hb e))

/-! ### the number of groups -/
/-- A word with a group laid above its low j bits. -/
theorem or_above (s c : BitVec 64) (j : Nat) (hj : j ≤ 64) (hs : s.toNat < 2 ^ j) : (s ||| (c <<< j)).toNat = (s.toNat + 2 ^ j * c.toNat) % 2 ^ 64 := by
  rw [BitVec.toNat_or, BitVec.toNat_shiftLeft, Nat.shiftLeft_eq]
  have e0 : 2 ^ 64 = 2 ^ j * 2 ^ (64 - j) := by rw [← Nat.pow_add]; congr 1; omega
  have hp := Nat.two_pow_pos j
  have e1 : c.toNat * 2 ^ j % 2 ^ 64 = 2 ^ j * (c.toNat % 2 ^ (64 - j)) := by
    rw [e0, Nat.mul_comm c.toNat, Nat.mul_mod_mul_left]
  rw [e1, Nat.or_comm, ← Nat.two_pow_add_eq_or_of_lt hs]
  have h2 := Nat.mod_lt c.toNat (Nat.two_pow_pos (64 - j))
  have h3 : 2 ^ j * (c.toNat % 2 ^ (64 - j)) + s.toNat < 2 ^ 64 := by
    rw [e0]
    have : 2 ^ j * (c.toNat % 2 ^ (64 - j)) + 2 ^ j ≤ 2 ^ j * 2 ^ (64 - j) := by
      rw [← Nat.mul_succ]
      exact Nat.mul_le_mul_left _ h2
    omega
  have h4 : s.toNat + 2 ^ j * c.toNat = (2 ^ j * (c.toNat % 2 ^ (64 - j)) + s.toNat) + 2 ^ 64 * (c.toNat / 2 ^ (64 - j)) := by
    have h5 := Nat.div_add_mod c.toNat (2 ^ (64 - j))
    have h6 : 2 ^ j * c.toNat = 2 ^ j * (2 ^ (64 - j) * (c.toNat / 2 ^ (64 - j))) + 2 ^ j * (c.toNat % 2 ^ (64 - j)) := by
      rw [← Nat.mul_add, h5]
    rw [← Nat.mul_assoc, ← e0] at h6
    omega
  rw [h4, Nat.add_mul_mod_self_left, Nat.mod_eq_of_lt h3]
def low (c : Int) : BitVec 64 := BitVec.ofNat 64 (c % 128).toNat
theorem low_toNat (c : Int) : (low c).toNat = (c % 128).toNat := by
  unfold low
  rw [BitVec.toNat_ofNat]
  omega
theorem take_snoc {l : List Int} {i : Nat} (hi : i < l.length) : l.take (i + 1) = l.take i ++ [l[i]] := by
  rw [List.take_succ_eq_append_getElem hi]
theorem value_take_succ {l : List Int} {i : Nat} (hi : i < l.length) : value (l.take (i + 1)) = value (l.take i) + 128 ^ i * (l[i] % 128).toNat := by
  rw [take_snoc hi, value_snoc, List.length_take, Nat.min_eq_left (by omega)]

/-- What leb.Get does behind its loop. -/
theorem get_end (k : Nat) (l : List Int) (K : Nat) (n : Nat) (hb : Bts l) (hK : K ≤ l.length) (hn : n < 2 ^ 64) (hk : 10 ≤ k) :
    leb_Get.l0 (k + 1) l K n K K = some (if form n = l.take K then ((n : Int), (K : Int), 0) else (0, 0, 31)) := by
  rw [leb_Get.l0, if_neg (by omega), Put_f k [] n hn (by simp) hk, Option.bind_some, if_pos (by omega), if_pos (by omega), Int.toNat_natCast, List.nil_append,
    Equal_f _ _ (form_byte n) (hb.take K), Option.bind_some]
  by_cases h : form n = l.take K
  · rw [decide_eq_true h, if_pos rfl, if_pos h]
  · rw [decide_eq_false h, if_neg (by decide), if_neg h]
theorem get_l0 (l : List Int) (K : Nat) (hb : Bts l) (hK : K ≤ l.length) (h10 : K ≤ 10) (d : Nat) : ∀ (k i : Nat) (s : BitVec 64), i + d = K → d + 11 < k → s.toNat = value (l.take i) % 2 ^ 64 →
    leb_Get.l0 k l K s.toNat K i = some (if form (value (l.take K) % 2 ^ 64) = l.take K then (((value (l.take K) % 2 ^ 64 : Nat) : Int), (K : Int), 0) else (0, 0, 31)) := by
  induction d with
  | zero =>
    intro k i s hi hk hs
    obtain ⟨k, rfl⟩ : ∃ m, k = m + 1 := ⟨k - 1, by omega⟩
    obtain rfl : i = K := by omega
    rw [hs]
    exact get_end k l i _ hb hK (Nat.mod_lt _ (by decide)) (by omega)
  | succ d ih =>
    intro k i s hi hk hs
    obtain ⟨k, rfl⟩ : ∃ m, k = m + 1 := ⟨k - 1, by omega⟩
    have hil : i < l.length := by omega
    have hx := hb.get hil
    rw [leb_Get.l0, if_pos (by omega), if_pos (by omega), if_pos (by omega), rd_get hil, and127 hx.1 hx.2, wrap_small (by omega) (by omega), if_pos (by omega), wrap_small (by omega) (by omega)]
    have e1 : IntKind.u64.wrap (l[i] % 128) = ((low l[i]).toNat : Int) := by
      rw [u64_small (by omega) (by omega), low_toNat]
      omega
    rw [e1, shl_u64 _ _ (by omega), or_u64]
    refine ih k (i + 1) _ (by omega) (by omega) ?_
    have hvl : value (l.take i) < 2 ^ (7 * i) := by
      have := value_lt (l.take i)
      rw [List.length_take, Nat.min_eq_left (by omega), pow128] at this
      exact this
    have hle : 2 ^ (7 * i) ≤ 2 ^ 64 := Nat.pow_le_pow_right (by omega) (by omega)
    have hs' : s.toNat = value (l.take i) := by rw [hs, Nat.mod_eq_of_lt (by omega)]
    have ej : (7 * (i : Int)).toNat = 7 * i := by omega
    rw [ej, or_above _ _ _ (by omega) (by rw [hs']; exact hvl), value_take_succ hil, hs', low_toNat, pow128]
theorem refget_end (k : Nat) (l : List Int) (K : Nat) (n : Nat) (hK : K ≤ l.length) (h10 : K ≤ 10) (hn : n < 2 ^ 64) (hk : 30 ≤ k) :
    louverref03_Get.l0 (k + 1) l K n (-1) = some (if form n = l.take K then ((n : Int), (K : Int), 0) else (0, 0, 31)) := by
  have hu := ulen_u64 hn
  rw [louverref03_Get.l0, if_neg (by omega), refPut_f k n hn hk, Option.bind_some, if_pos (by omega), if_pos (by omega), Int.toNat_natCast,
    same_f _ _ _ (by rw [form_length]; omega) (by rw [form_length]; omega), Option.bind_some]
  by_cases h : form n = l.take K
  · rw [decide_eq_true h, if_pos rfl, if_pos h]
  · rw [decide_eq_false h, if_neg (by decide), if_neg h]
/-- The groups from i on, of the first K. -/
def part (l : List Int) (K i : Nat) : Nat := value ((l.take K).drop i)
theorem part_step {l : List Int} {K i : Nat} (hK : K ≤ l.length) (hi : i < K) : part l K i = (l[i]'(by omega) % 128).toNat + 128 * part l K (i + 1) := by
  unfold part
  have hil : i < (l.take K).length := by rw [List.length_take]; omega
  rw [List.drop_eq_getElem_cons hil, value, List.getElem_take]
theorem low_or (s : BitVec 64) (c : Int) : ((s <<< 7) ||| low c).toNat = (128 * s.toNat + (c % 128).toNat) % 2 ^ 64 := by
  have h := or_above (low c) s 7 (by omega) (by rw [low_toNat]; omega)
  rw [BitVec.or_comm, h, low_toNat]
  congr 1
  omega
theorem tmod_byte {c : Int} (h0 : 0 ≤ c) : Int.tmod c 128 = c % 128 := Int.tmod_eq_emod_of_nonneg h0
theorem refget_l0 (l : List Int) (K : Nat) (hb : Bts l) (hK : K ≤ l.length) (h10 : K ≤ 10) (i : Nat) : ∀ (k : Nat) (s : BitVec 64), i ≤ K → i + 31 < k → s.toNat = part l K i % 2 ^ 64 →
    louverref03_Get.l0 k l K s.toNat ((i : Int) - 1) = some (if form (value (l.take K) % 2 ^ 64) = l.take K then (((value (l.take K) % 2 ^ 64 : Nat) : Int), (K : Int), 0) else (0, 0, 31)) := by
  induction i with
  | zero =>
    intro k s hi hk hs
    obtain ⟨k, rfl⟩ : ∃ m, k = m + 1 := ⟨k - 1, by omega⟩
    have e : part l K 0 = value (l.take K) := rfl
    rw [hs, e]
    exact refget_end k l K _ hK h10 (Nat.mod_lt _ (by decide)) (by omega)
  | succ i ih =>
    intro k s hi hk hs
    obtain ⟨k, rfl⟩ : ∃ m, k = m + 1 := ⟨k - 1, by omega⟩
    have hil : i < l.length := by omega
    have hx := hb.get hil
    have ei : (((i + 1 : Nat) : Int) - 1) = (i : Int) := by omega
    rw [louverref03_Get.l0, ei, if_pos (by omega), if_pos (by omega), if_pos (by omega), rd_get hil, tmod_byte hx.1]
    have e1 : IntKind.u64.wrap (l[i] % 128) = ((low l[i]).toNat : Int) := by
      rw [u64_small (by omega) (by omega), low_toNat]
      omega
    have e2 : IntKind.u64.wrap ((s.toNat : Int) * 128) = ((s <<< 7).toNat : Int) := by
      have := u64_mul s 128#64
      have e3 : ((128#64).toNat : Int) = 128 := rfl
      rw [e3] at this
      rw [this, BitVec.shiftLeft_eq_mul_twoPow]
      rfl
    have hw : wrap64 ((i : Int) - 1) = (i : Int) - 1 := by unfold wrap64; omega
    rw [e1, e2, or_u64, hw]
    refine ih k _ (by omega) (by omega) ?_
    rw [low_or, part_step hK (by omega), hs]
    omega

/-- The number at the head of bytes, how many they are, the error. -/
def getU (l : List Int) : Int × Int × Int :=
  if (grs l 0).2 = 0 then
    (if form (value (l.take (grs l 0).1.toNat) % 2 ^ 64) = l.take (grs l 0).1.toNat then (((value (l.take (grs l 0).1.toNat) % 2 ^ 64 : Nat) : Int), (grs l 0).1, 0) else (0, 0, 31))
  else (0, 0, (grs l 0).2)
theorem Get_f (k : Nat) (l : List Int) (hb : Bts l) (hl : l.length < 9223372036854775807) (hk : l.length + 40 < k) : leb_Get.f k l = some (getU l) := by
  unfold leb_Get.f getU
  rw [groups_f k l hl (by omega), Option.bind_some]
  by_cases h : (grs l 0).2 = 0
  · rw [if_pos h, if_pos h]
    obtain ⟨j, h1, h2, h3, -, -⟩ := grs_spec l 0 (grs l 0).1 (by rw [← h]) (by omega)
    obtain ⟨K, hK⟩ : ∃ K : Nat, (grs l 0).1 = (K : Int) := ⟨j + 1, by omega⟩
    rw [hK, Int.toNat_natCast]
    exact get_l0 l K hb (by omega) (by omega) K k 0 0#64 (by omega) (by omega) (by simp [value])
  · rw [if_neg h, if_neg h]
theorem refGet_f (k : Nat) (l : List Int) (hb : Bts l) (hl : l.length < 9223372036854775807) (hk : 2 * l.length + 60 < k) : louverref03_Get.f k l = some (getU l) := by
  unfold louverref03_Get.f getU
  rw [size_f k l hl (by omega), Option.bind_some]
  by_cases h : (grs l 0).2 = 0
  · rw [if_pos h, if_pos h]
    obtain ⟨j, h1, h2, h3, -, -⟩ := grs_spec l 0 (grs l 0).1 (by rw [← h]) (by omega)
    obtain ⟨K, hK⟩ : ∃ K : Nat, (grs l 0).1 = (K : Int) := ⟨j + 1, by omega⟩
    have hw : wrap64 ((K : Int) - 1) = (K : Int) - 1 := by unfold wrap64; omega
    rw [hK, Int.toNat_natCast, hw]
    exact refget_l0 l K hb (by omega) (by omega) K k 0#64 (by omega) (by omega) (by
      unfold part
      rw [List.drop_of_length_le (by rw [List.length_take]; omega)]
      simp [value])
  · rw [if_neg h, if_neg h]
end Go.Proofs.YtgpdaihfjnihhaaDoor.LebPure

namespace Go.Proofs.YtgpdaihfjnihhaaDoor.LebPure
open Go.RowKit Go.Proofs.YtgpdaihfjnihhaaDoor.PJ Go.Proofs.YtgpdaihfjnihhaaDoorW.PrintWords Go.Proofs.YtgpdaihfjnihhaaDoorW.PrintLast Go.Proofs.YtgpdaihfjnihhaaDoorW.PrintMore Go.Proofs.YtgpdaihfjnihhaaDoor.B64 Go.Proofs.YtgpdaihfjnihhaaDoor.LebForm

theorem toInt_of_mod (s : BitVec 64) (z : Int) (h : (s.toNat : Int) = z % 18446744073709551616) : s.toInt = wrap64 z := by
  rw [← wrap_toNat, h]
  unfold wrap64
  omega
/-- Is the last group's high bit set? -/
def neg? (p : List Int) : Bool := decide (p.getLastD 0 % 128 ≥ 64)
/-- The number that groups are in two's complement, as a word of 64 bits. -/
def sval (p : List Int) : Int := wrap64 ((value p : Int) - (if neg? p = true then 128 ^ p.length else 0))
theorem last_take {l : List Int} {K : Nat} (h1 : 1 ≤ K) (hK : K ≤ l.length) : (l.take K).getLastD 0 = l[K - 1]'(by omega) := by
  obtain ⟨j, rfl⟩ : ∃ j, K = j + 1 := ⟨K - 1, by omega⟩
  have hj : j < l.length := by omega
  rw [take_snoc hj, List.getLastD_eq_getLast?, List.getLast?_append]
  rfl
theorem sval_range (p : List Int) : -9223372036854775808 ≤ sval p ∧ sval p ≤ 9223372036854775807 := by
  unfold sval wrap64
  omega

theorem sget_j2 (k : Nat) (l : List Int) (K : Nat) (n : Int) (hb : Bts l) (hK : K ≤ l.length) (hn : -9223372036854775808 ≤ n ∧ n ≤ 9223372036854775807) (hk : 10 ≤ k) :
    leb_GetSigned.j2 (k + 1) l K n = some (if sform n = l.take K then (n, (K : Int), 0) else (0, 0, 31)) := by
  rw [leb_GetSigned.j2, PutSigned_f k [] n hn (by simp) hk, Option.bind_some, if_pos (by omega), if_pos (by omega), Int.toNat_natCast, List.nil_append,
    Equal_f _ _ (sform_byte n) (hb.take K), Option.bind_some]
  by_cases h : sform n = l.take K
  · rw [decide_eq_true h, if_pos rfl, if_pos h]
  · rw [decide_eq_false h, if_neg (by decide), if_neg h]
theorem sget_end (k : Nat) (l : List Int) (K : Nat) (hb : Bts l) (h1 : 1 ≤ K) (hK : K ≤ l.length) (h10 : K ≤ 10) (s : BitVec 64) (hs : s.toNat = value (l.take K) % 2 ^ 64) (hk : 10 ≤ k) :
    leb_GetSigned.l0 (k + 3) l K s.toInt K K = some (if sform (sval (l.take K)) = l.take K then (sval (l.take K), (K : Int), 0) else (0, 0, 31)) := by
  have hil : K - 1 < l.length := by omega
  have hx := hb.get hil
  have hlast := last_take h1 hK
  have hlen : (l.take K).length = K := by rw [List.length_take]; omega
  have hneg : neg? (l.take K) = decide (l[K - 1] % 128 ≥ 64) := by unfold neg?; rw [hlast]
  have hw : wrap64 ((K : Int) - 1) = ((K - 1 : Nat) : Int) := by
    rw [wrap_small (by omega) (by omega)]
    omega
  have plain : ∀ (h : neg? (l.take K) = false ∨ K = 10), s.toInt = sval (l.take K) := by
    intro h
    refine (toInt_of_mod s (value (l.take K)) (by rw [hs]; omega)).trans ?_
    unfold sval
    rcases h with h | h
    · rw [h, if_neg (by decide)]
      simp
    · rw [hlen]
      split
      · rw [h]
        unfold wrap64
        omega
      · simp
  rw [leb_GetSigned.l0, if_neg (by omega)]
  by_cases h9 : K < 10
  · rw [if_pos (by omega), hw, if_pos (by omega), if_pos (by omega), rd_get hil, and64 hx.1 hx.2, ← hneg]
    cases hn : neg? (l.take K) with
    | false =>
      rw [leb_GetSigned.j1, if_neg (by decide), plain (.inl hn)]
      exact sget_j2 (k) l K _ hb hK (sval_range _) hk
    | true =>
      rw [leb_GetSigned.j1, if_pos rfl, wrap_small (by omega) (by omega), if_pos (by omega)]
      have em : (-1 : Int) = (BitVec.allOnes 64).toInt := by decide
      rw [em, shl_i64 _ _ (by omega), or_i64]
      have ej : (7 * (K : Int)).toNat = 7 * K := by omega
      rw [ej]
      have hvl : value (l.take K) < 2 ^ (7 * K) := by
        have := value_lt (l.take K)
        rw [hlen, pow128] at this
        exact this
      have hle : 2 ^ (7 * K) ≤ 2 ^ 63 := Nat.pow_le_pow_right (by omega) (by omega)
      have hs' : s.toNat = value (l.take K) := by rw [hs, Nat.mod_eq_of_lt (by omega)]
      have ho := or_above s (BitVec.allOnes 64) (7 * K) (by omega) (by rw [hs']; exact hvl)
      have eall : (BitVec.allOnes 64).toNat = 18446744073709551615 := by decide
      rw [eall, hs'] at ho
      have e : (s ||| BitVec.allOnes 64 <<< (7 * K)).toInt = sval (l.take K) := by
        refine (toInt_of_mod _ ((value (l.take K) : Int) - 128 ^ K) ?_).trans ?_
        · rw [ho]
          have hp : (128 : Int) ^ K = ((2 ^ (7 * K) : Nat) : Int) := by rw [← pow128]; simp
          rw [hp]
          omega
        · unfold sval
          rw [hn, if_pos rfl, hlen]
      rw [e]
      exact sget_j2 k l K _ hb hK (sval_range _) hk
  · rw [if_neg (by omega), leb_GetSigned.j1, if_neg (by decide), plain (.inr (by omega))]
    exact sget_j2 k l K _ hb hK (sval_range _) hk
theorem sget_l0 (l : List Int) (K : Nat) (hb : Bts l) (h1 : 1 ≤ K) (hK : K ≤ l.length) (h10 : K ≤ 10) (d : Nat) : ∀ (k i : Nat) (s : BitVec 64), i + d = K → d + 13 < k → s.toNat = value (l.take i) % 2 ^ 64 →
    leb_GetSigned.l0 k l K s.toInt K i = some (if sform (sval (l.take K)) = l.take K then (sval (l.take K), (K : Int), 0) else (0, 0, 31)) := by
  induction d with
  | zero =>
    intro k i s hi hk hs
    obtain ⟨k, rfl⟩ : ∃ m, k = m + 3 := ⟨k - 3, by omega⟩
    obtain rfl : i = K := by omega
    exact sget_end k l i hb h1 hK h10 s hs (by omega)
  | succ d ih =>
    intro k i s hi hk hs
    obtain ⟨k, rfl⟩ : ∃ m, k = m + 1 := ⟨k - 1, by omega⟩
    have hil : i < l.length := by omega
    have hx := hb.get hil
    rw [leb_GetSigned.l0, if_pos (by omega), if_pos (by omega), if_pos (by omega), rd_get hil, and127 hx.1 hx.2, wrap_small (i := 7 * (i : Int)) (by omega) (by omega), if_pos (by omega), wrap_small (i := (i : Int) + 1) (by omega) (by omega)]
    have e1 : wrap64 (l[i] % 128) = (low l[i]).toInt := by
      rw [← wrap_toNat, low_toNat]
      congr 1
      omega
    rw [e1, shl_i64 _ _ (by omega), or_i64]
    refine ih k (i + 1) _ (by omega) (by omega) ?_
    have hvl : value (l.take i) < 2 ^ (7 * i) := by
      have := value_lt (l.take i)
      rw [List.length_take, Nat.min_eq_left (by omega), pow128] at this
      exact this
    have hle : 2 ^ (7 * i) ≤ 2 ^ 64 := Nat.pow_le_pow_right (by omega) (by omega)
    have hs' : s.toNat = value (l.take i) := by rw [hs, Nat.mod_eq_of_lt (by omega)]
    have ej : (7 * (i : Int)).toNat = 7 * i := by omega
    rw [ej, or_above _ _ _ (by omega) (by rw [hs']; exact hvl), value_take_succ hil, hs', low_toNat, pow128]
theorem srefget_end (k : Nat) (l : List Int) (K : Nat) (n : Int) (hK : K ≤ l.length) (h10 : K ≤ 10) (hn : -9223372036854775808 ≤ n ∧ n ≤ 9223372036854775807) (hk : 30 ≤ k) :
    louverref03_GetSigned.l0 (k + 1) l K n (-1) = some (if sform n = l.take K then (n, (K : Int), 0) else (0, 0, 31)) := by
  have hu := slen_i64 hn
  rw [louverref03_GetSigned.l0, if_neg (by omega), refPutSigned_f k n hn hk, Option.bind_some, if_pos (by omega), if_pos (by omega), Int.toNat_natCast,
    same_f _ _ _ (by rw [sform_length]; omega) (by rw [sform_length]; omega), Option.bind_some]
  by_cases h : sform n = l.take K
  · rw [decide_eq_true h, if_pos rfl, if_pos h]
  · rw [decide_eq_false h, if_neg (by decide), if_neg h]
theorem srefget_l0 (l : List Int) (K : Nat) (hb : Bts l) (hK : K ≤ l.length) (h10 : K ≤ 10) (i : Nat) : ∀ (k : Nat) (s : BitVec 64), i ≤ K → i + 31 < k →
    (s.toNat : Int) = ((part l K i : Int) - (if neg? (l.take K) = true then 128 ^ (K - i) else 0)) % 18446744073709551616 →
    louverref03_GetSigned.l0 k l K s.toInt ((i : Int) - 1) = some (if sform (sval (l.take K)) = l.take K then (sval (l.take K), (K : Int), 0) else (0, 0, 31)) := by
  have hlen : (l.take K).length = K := by rw [List.length_take]; omega
  induction i with
  | zero =>
    intro k s hi hk hs
    obtain ⟨k, rfl⟩ : ∃ m, k = m + 1 := ⟨k - 1, by omega⟩
    have e : part l K 0 = value (l.take K) := rfl
    have hv := toInt_of_mod s _ hs
    rw [hv, e, Nat.sub_zero]
    have es : wrap64 ((value (l.take K) : Int) - (if neg? (l.take K) = true then 128 ^ K else 0)) = sval (l.take K) := by unfold sval; rw [hlen]
    rw [es]
    exact srefget_end k l K _ hK h10 (sval_range _) (by omega)
  | succ i ih =>
    intro k s hi hk hs
    obtain ⟨k, rfl⟩ : ∃ m, k = m + 1 := ⟨k - 1, by omega⟩
    have hil : i < l.length := by omega
    have hx := hb.get hil
    have ei : (((i + 1 : Nat) : Int) - 1) = (i : Int) := by omega
    rw [louverref03_GetSigned.l0, ei, if_pos (by omega), if_pos (by omega), if_pos (by omega), rd_get hil, tmod_byte hx.1]
    have e1 : wrap64 (l[i] % 128) = (low l[i]).toInt := by
      rw [← wrap_toNat, low_toNat]
      congr 1
      omega
    have e2 : wrap64 (s.toInt * 128) = (s <<< 7).toInt := by
      have := wrap_mul s 128#64
      have e3 : (128#64).toInt = 128 := by decide
      rw [e3] at this
      rw [this, BitVec.shiftLeft_eq_mul_twoPow]
      rfl
    have hw : wrap64 ((i : Int) - 1) = (i : Int) - 1 := by unfold wrap64; omega
    rw [e1, e2, or_i64, hw]
    refine ih k _ (by omega) (by omega) ?_
    rw [low_or, part_step hK (by omega)]
    have ep : (128 : Int) ^ (K - i) = 128 ^ (K - (i + 1)) * 128 := by
      rw [← Int.pow_succ]
      congr 1
      omega
    rw [ep]
    split at hs
    · rename_i hn
      rw [if_pos hn]
      omega
    · rename_i hn
      rw [if_neg hn]
      omega

/-- The signed number at the head of bytes, how many they are, the error. -/
def getS (l : List Int) : Int × Int × Int :=
  if (grs l 0).2 = 0 then
    (if sform (sval (l.take (grs l 0).1.toNat)) = l.take (grs l 0).1.toNat then (sval (l.take (grs l 0).1.toNat), (grs l 0).1, 0) else (0, 0, 31))
  else (0, 0, (grs l 0).2)
theorem GetSigned_f (k : Nat) (l : List Int) (hb : Bts l) (hl : l.length < 9223372036854775807) (hk : l.length + 40 < k) : leb_GetSigned.f k l = some (getS l) := by
  unfold leb_GetSigned.f getS
  rw [groups_f k l hl (by omega), Option.bind_some]
  by_cases h : (grs l 0).2 = 0
  · rw [if_pos h, if_pos h]
    obtain ⟨j, h1, h2, h3, -, -⟩ := grs_spec l 0 (grs l 0).1 (by rw [← h]) (by omega)
    obtain ⟨K, hK⟩ : ∃ K : Nat, (grs l 0).1 = (K : Int) := ⟨j + 1, by omega⟩
    rw [hK, Int.toNat_natCast]
    exact sget_l0 l K hb (by omega) (by omega) (by omega) K k 0 0#64 (by omega) (by omega) (by simp [value])
  · rw [if_neg h, if_neg h]
theorem refGetSigned_f (k : Nat) (l : List Int) (hb : Bts l) (hl : l.length < 9223372036854775807) (hk : 2 * l.length + 60 < k) : louverref03_GetSigned.f k l = some (getS l) := by
  unfold louverref03_GetSigned.f getS
  rw [size_f k l hl (by omega), Option.bind_some]
  by_cases h : (grs l 0).2 = 0
  · rw [if_pos h, if_pos h]
    obtain ⟨j, h1, h2, h3, -, -⟩ := grs_spec l 0 (grs l 0).1 (by rw [← h]) (by omega)
    obtain ⟨K, hK⟩ : ∃ K : Nat, (grs l 0).1 = (K : Int) := ⟨j + 1, by omega⟩
    have hw : wrap64 ((K : Int) - 1) = ((K - 1 : Nat) : Int) := by
      rw [wrap_small (by omega) (by omega)]
      omega
    have hil : K - 1 < l.length := by omega
    have hx := hb.get hil
    have hneg : neg? (l.take K) = decide (l[K - 1] % 128 ≥ 64) := by unfold neg?; rw [last_take (by omega) (by omega)]
    obtain ⟨k, rfl⟩ : ∃ m, k = m + 1 := ⟨k - 1, by omega⟩
    have hpart : part l K K = 0 := by
      unfold part
      rw [List.drop_of_length_le (by rw [List.length_take]; omega)]
      rfl
    have ek : (((K - 1 : Nat) : Int)) = (K : Int) - 1 := by omega
    rw [hK, Int.toNat_natCast, hw, if_pos (by omega), if_pos (by omega), rd_get hil, tmod_byte hx.1]
    by_cases hs : l[K - 1] % 128 ≥ 64
    · rw [if_pos hs, louverref03_GetSigned.j0, hw, ek]
      have em : (-1 : Int) = (BitVec.allOnes 64).toInt := by decide
      rw [em]
      refine srefget_l0 l K hb (by omega) (by omega) K k _ (by omega) (by omega) ?_
      rw [hneg, decide_eq_true hs, if_pos rfl, hpart, Nat.sub_self]
      decide
    · rw [if_neg hs, louverref03_GetSigned.j0, hw, ek]
      have em : (0 : Int) = (0#64).toInt := by decide
      rw [em]
      refine srefget_l0 l K hb (by omega) (by omega) K k _ (by omega) (by omega) ?_
      rw [hneg, decide_eq_false hs, if_neg (by decide), hpart]
      rfl
  · rw [if_neg h, if_neg h]

/-! ### there and back -/
theorem getU_form (n : Nat) (hn : n < 2 ^ 64) (rest : List Int) : getU (form n ++ rest) = ((n : Int), (ulen n : Int), 0) := by
  have h10 := ulen_u64 hn
  have hg := grs_form n 0 rest (by omega)
  have e1 : (grs (form n ++ rest) 0).2 = 0 := by rw [hg]
  have e2 : (grs (form n ++ rest) 0).1 = (ulen n : Int) := by rw [hg]; simp
  have e3 : (form n ++ rest).take (ulen n) = form n := by rw [← form_length, List.take_left']; rfl
  unfold getU
  rw [if_pos e1, e2, Int.toNat_natCast, e3, value_form, Nat.mod_eq_of_lt hn, if_pos rfl]
theorem getU_cut (n : Nat) (hn : n < 2 ^ 64) (c : Nat) (hc : c < ulen n) : getU ((form n).take c) = (0, 0, 30) := by
  have h10 := ulen_u64 hn
  unfold getU
  rw [grs_form_cut n 0 c (by omega) hc]
  rfl
theorem getU_back (l : List Int) (h : (getU l).2.2 = 0) : ∃ K u : Nat, getU l = ((u : Int), (K : Int), 0) ∧ u < 2 ^ 64 ∧ form u = l.take K ∧ K ≤ l.length := by
  unfold getU at h ⊢
  by_cases h0 : (grs l 0).2 = 0
  · obtain ⟨j, h1, h2, h3, -, -⟩ := grs_spec l 0 (grs l 0).1 (by rw [← h0]) (by omega)
    obtain ⟨K, hK⟩ : ∃ K : Nat, (grs l 0).1 = (K : Int) := ⟨j + 1, by omega⟩
    rw [if_pos h0, hK, Int.toNat_natCast] at h
    rw [if_pos h0, hK, Int.toNat_natCast]
    by_cases hf : form (value (l.take K) % 2 ^ 64) = l.take K
    · rw [if_pos hf]
      exact ⟨K, _, rfl, Nat.mod_lt _ (by decide), hf, by omega⟩
    · rw [if_neg hf] at h
      exact absurd h (by decide)
  · rw [if_neg h0] at h
    exact absurd h h0
theorem sval_sform (n : Int) (hn : -9223372036854775808 ≤ n ∧ n ≤ 9223372036854775807) : sval (sform n) = n := by
  obtain ⟨⟨h1, h2⟩, -⟩ := slen_spec n
  have hp := slen_pos n
  have hg := sform_get n (slen n - 1) (by omega)
  rw [if_neg (by omega), Int.add_zero] at hg
  have hlast : (sform n).getLastD 0 = n / 128 ^ (slen n - 1) % 128 := by
    rw [List.getLastD_eq_getLast?, List.getLast?_eq_getElem?, sform_length, hg]
    rfl
  have e : (128 : Int) ^ slen n = 128 ^ (slen n - 1) * 128 := by
    rw [← Int.pow_succ]
    congr 1
    omega
  have hv := value_sform n
  have pp := pow128_pos (slen n - 1)
  unfold sval neg?
  rw [hlast, sform_length, hv, e]
  generalize (128 : Int) ^ (slen n - 1) = p at *
  have hd1 : -64 ≤ n / p := (Int.le_ediv_iff_mul_le pp).mpr (by omega)
  have hd2 : n / p < 64 := (Int.ediv_lt_iff_lt_mul pp).mpr (by omega)
  by_cases h0 : 0 ≤ n
  · have h3 : 0 ≤ n / p := Int.ediv_nonneg h0 (by omega)
    have h4 : ¬ (n / p % 128 % 128 ≥ 64) := by omega
    rw [decide_eq_false h4, if_neg (by decide), Int.emod_eq_of_lt h0 (by omega)]
    unfold wrap64
    omega
  · have h3 : n / p < 0 := Int.ediv_neg_of_neg_of_pos (by omega) pp
    have h4 : n / p % 128 % 128 ≥ 64 := by omega
    have h5 : n % (p * 128) = n + p * 128 := by
      have := Int.add_mul_emod_self_left n (p * 128) 1
      rw [← this, Int.mul_one]
      exact Int.emod_eq_of_lt (by omega) (by omega)
    rw [decide_eq_true h4, if_pos rfl, h5]
    unfold wrap64
    omega
theorem getS_form (n : Int) (hn : -9223372036854775808 ≤ n ∧ n ≤ 9223372036854775807) (rest : List Int) : getS (sform n ++ rest) = (n, (slen n : Int), 0) := by
  have h10 := slen_i64 hn
  have hg := grs_sform n 0 rest (by omega)
  have e1 : (grs (sform n ++ rest) 0).2 = 0 := by rw [hg]
  have e2 : (grs (sform n ++ rest) 0).1 = (slen n : Int) := by rw [hg]; simp
  have e3 : (sform n ++ rest).take (slen n) = sform n := by rw [← sform_length, List.take_left']; rfl
  unfold getS
  rw [if_pos e1, e2, Int.toNat_natCast, e3, sval_sform n hn, if_pos rfl]
theorem getS_cut (n : Int) (hn : -9223372036854775808 ≤ n ∧ n ≤ 9223372036854775807) (c : Nat) (hc : c < slen n) : getS ((sform n).take c) = (0, 0, 30) := by
  have h10 := slen_i64 hn
  unfold getS
  rw [grs_sform_cut n 0 c (by omega) hc]
  rfl
theorem getS_back (l : List Int) (h : (getS l).2.2 = 0) : ∃ (K : Nat) (u : Int), getS l = (u, (K : Int), 0) ∧ (-9223372036854775808 ≤ u ∧ u ≤ 9223372036854775807) ∧ sform u = l.take K ∧ K ≤ l.length := by
  unfold getS at h ⊢
  by_cases h0 : (grs l 0).2 = 0
  · obtain ⟨j, h1, h2, h3, -, -⟩ := grs_spec l 0 (grs l 0).1 (by rw [← h0]) (by omega)
    obtain ⟨K, hK⟩ : ∃ K : Nat, (grs l 0).1 = (K : Int) := ⟨j + 1, by omega⟩
    rw [if_pos h0, hK, Int.toNat_natCast] at h
    rw [if_pos h0, hK, Int.toNat_natCast]
    by_cases hf : sform (sval (l.take K)) = l.take K
    · rw [if_pos hf]
      exact ⟨K, _, rfl, sval_range _, hf, by omega⟩
    · rw [if_neg hf] at h
      exact absurd h (by decide)
  · rw [if_neg h0] at h
    exact absurd h h0

/-! ### the chapter's answers -/
end Go.Proofs.YtgpdaihfjnihhaaDoor.LebPure

namespace Go.Proofs.YtgpdaihfjnihhaaDoor.PJ
open Go.RowKit Go.Proofs.YtgpdaihfjnihhaaDoorW.PrintWords Go.Proofs.YtgpdaihfjnihhaaDoorW.PrintLast Go.Proofs.YtgpdaihfjnihhaaDoorW.PrintMore Go.Proofs.YtgpdaihfjnihhaaDoor.LebPure Go.Proofs.YtgpdaihfjnihhaaDoor.LebForm Go.Proofs.YtgpdaihfjnihhaaDoor.B64
theorem w64s {i : Int} (h0 : 0 ≤ i) (h : i ≤ 9223372036854775807) : wrap64 i = i := by unfold wrap64; omega
def nameBackOk (op : Int) : Bool := !validOp op || match slices_Index_string_string.f 60 opL (nameOf op), slices_Index_string_string.f 60 inL (nameOf op) with
  | some q1, some q2 => byName q1 q2 == (op, true)
  | _, _ => false
set_option maxRecDepth 100000 in
theorem valid_range {op : Int} (h : validOp op = true) : 1 ≤ op ∧ op ≤ 47 := by
  unfold validOp at h
  have := of_decide_eq_true h
  omega
theorem may_parts {op a : Int} (h : mayOf op a = true) : validOp op = true ∧ (operandOp op = true → op = 32 ∨ 0 ≤ a) ∧ (operandOp op = false → a = 0) := by
  unfold mayOf at h
  rw [Bool.and_eq_true] at h
  refine ⟨h.1, fun ho => ?_, fun ho => ?_⟩
  · have := h.2
    rw [ho, if_pos rfl] at this
    exact of_decide_eq_true this
  · have := h.2
    rw [ho, if_neg (by decide)] at this
    exact of_decide_eq_true this
theorem may_of {op a : Int} (hv : validOp op = true) (h1 : operandOp op = true → op = 32 ∨ 0 ≤ a) (h2 : operandOp op = false → a = 0) : mayOf op a = true := by
  unfold mayOf
  rw [hv, Bool.true_and]
  by_cases ho : operandOp op = true
  · rw [if_pos ho]
    exact decide_eq_true (h1 ho)
  · rw [if_neg ho]
    exact decide_eq_true (h2 (by simpa using ho))
/-- The bytes of an instruction. -/
def putOf (op a : Int) : List Int := op :: (if op = 32 then sform a else if operandOp op = true then form a.toNat else [])
theorem put_is_k (k : Nat) (op a : Int) (ha : -9223372036854775808 ≤ a ∧ a ≤ 9223372036854775807) (h : mayOf op a = true) (hk : 100 ≤ k) : PutIs k op a (putOf op a) := by
  obtain ⟨hv, h1, h2⟩ := may_parts h
  have hr := valid_range hv
  have hm : op % 256 = op := by omega
  refine ⟨fun h' => absurd (h.symm.trans h') (by decide), fun _ he => ?_, fun _ hne ho => ?_, fun _ ho => ?_⟩
  · rw [PutSigned_f _ _ _ ha (by simp) (by omega), hm]
    simp [putOf, he]
  · have h0 : 0 ≤ a := (h1 ho).resolve_left hne
    have hp := Put_f k [op % 256] a.toNat (by omega) (by simp) (by omega)
    rw [show ((a.toNat : Nat) : Int) = a by omega, hm] at hp
    rw [u64_small h0 (by omega), hm, hp]
    simp [putOf, hne, ho]
  · have hne : op ≠ 32 := fun he => by subst he; revert ho; decide
    simp [putOf, hne, ho, hm]
theorem put_len (op a : Int) (ha : -9223372036854775808 ≤ a ∧ a ≤ 9223372036854775807) : (putOf op a).length ≤ 100 := by
  unfold putOf
  have h1 := slen_i64 ha
  have h2 := ulen_u64 (n := a.toNat) (by omega)
  split
  · rw [List.length_cons, sform_length]; omega
  · split
    · rw [List.length_cons, form_length]; omega
    · simp
theorem put_bytes (op a : Int) (h : mayOf op a = true) : Bts (putOf op a) := by
  have hr := valid_range (may_parts h).1
  intro x hx
  unfold putOf at hx
  rcases List.mem_cons.mp hx with rfl | hx
  · omega
  · split at hx
    · exact sform_byte _ _ hx
    · split at hx
      · exact form_byte _ _ hx
      · cases hx
end Go.Proofs.YtgpdaihfjnihhaaDoor.PJ

namespace Go.Proofs.YtgpdaihfjnihhaaDoor.PJ
open Go.RowKit Go.Proofs.YtgpdaihfjnihhaaDoorW.PrintWords Go.Proofs.YtgpdaihfjnihhaaDoorW.PrintLast Go.Proofs.YtgpdaihfjnihhaaDoorW.PrintMore
set_option linter.unusedSimpArgs false
set_option linter.unusedVariables false
def sel2 {α : Type} (a b : α) : Nat → α
  | 0 => a
  | _ => b
theorem clipped_in2 {W w : World} {v : Value} {l : List Int} (h : Clipped W w.heap.size v l) : ∃ A c, v = .slice A l.length l.length ∧ Kd.R (Kd.int .u8) 5 W 0 (fun k => w.heap.size ≤ k ∧ k < W.heap.size) (.slice A l.length c) l := by
  obtain ⟨A, c, rfl, hR⟩ := h
  exact ⟨A, c, rfl, Kd.R_lower (Kd.R_mono (Kd.R_bound hR) (fun k hk => ⟨hk.1, hk.2.2.1⟩)) (Nat.zero_le _)⟩
set_option maxHeartbeats 16000000 in
set_option maxRecDepth 100000 in
theorem codeBytes.calls (k : Nat) (op a jo ja n er : Int) (A1 : Option Addr) (c1 : Nat) (l1 r : List Int) (U S : Int × Int × Int) (w : World) (ht : Lib.TabIs Tryd.prog w "strings.asciiSpace" .u8 Lib.asciiSpaceTab) (hr1 : Kd.C (Kd.int .u8) w A1 l1.length l1) (hc1 : l1.length ≤ c1) (hl : l1.length ≤ 140737488351232) (hbt : ∀ x ∈ l1, 0 ≤ x ∧ x ≤ 255)
    (hrl : r.length ≤ 100) (hp : PutIs k op a r) (hp2 : louverref10_Put.f k op a = some r) (hg1 : leb_Get.f k l1.tail = some U) (hg2 : leb_GetSigned.f k l1.tail = some S) (hg3 : louverref03_Get.f k l1.tail = some U) (hg4 : louverref03_GetSigned.f k l1.tail = some S)
    (hU : 0 ≤ U.1 ∧ U.1 ≤ 18446744073709551615) (hT : ∀ op, ∃ nm p q kd, louverref10_Table.f 3 op = some (nm, p, q, kd, validOp op) ∧ operandOp op = (validOp op && decide (0 < kd)) ∧ (validOp op = true → (kd = 1 ↔ op = 32)) ∧ 0 ≤ kd)
    (hg : codeGet l1 U S = (jo, ja, n, er)) (h5 : louverkit_Bytes.f k r r = some true) (h6 : louverkit_Bytes.f k l1 l1 = some true) :
    Calls Tryd.prog 5 #[.agg #[.int .i64 op, .int .i64 a], .slice A1 l1.length c1] w fun e w' => e = .returned (.bool true) ∧ Below w.heap.size w w' := by
  have Zht := Aside0.mk ht
  have Zhr1 := Aside0.mk hr1
  have Zhc1 := Aside0.mk hc1
  have Zhl := Aside0.mk hl
  have Zhbt := Aside0.mk hbt
  have Zhrl := Aside0.mk hrl
  have Zhp := Aside0.mk hp
  have Zhp2 := Aside0.mk hp2
  have Zhg1 := Aside0.mk hg1
  have Zhg2 := Aside0.mk hg2
  have Zhg3 := Aside0.mk hg3
  have Zhg4 := Aside0.mk hg4
  have ZhU := Aside0.mk hU
  have ZhT := Aside0.mk hT
  have Zhg := Aside0.mk hg
  have Zh5 := Aside0.mk h5
  have Zh6 := Aside0.mk h6
  clear ht hr1 hc1 hl hbt hrl hp hp2 hg1 hg2 hg3 hg4 hU hT hg h5 h6
  have HG := Aside0.mk (heap_alloc_new w (.cells #[.int .i64 op, .int .i64 a] 44))
  have HB := Aside0.mk (below_alloc (Below.refl w.heap.size w) (.cells #[.int .i64 op, .int .i64 a] 44))
  go_enter Tryd.func5, Tryd.ntmps5
  go_wp2_with fail
  refine (louverkit_LentBytes.calls _ _ l1 _ (Kd.C_below Zhr1.out HB.out) (by have := Zhl.out; omega)).mono ?_
  rintro e w1 ⟨v, rfl, hL, hb⟩
  obtain ⟨ad, c, rfl, hcap, hC, _⟩ := hL.reads
  have HLent := Aside0.mk hL
  have HC := Aside0.mk hC
  have HCAP := Aside0.mk (show l1.length ≤ c by omega)
  replace HG := Aside0.mk (blk_below HG.out hb)
  have HB1 := Aside0.mk (below_step HB.out hb)
  clear hL hC hcap hb HB
  obtain ⟨b0, b1, _, _⟩ := facts2 HG.out
  go_wp2_with fail
  refine (code_Put.callsC k op a r _ (tab_below Zht.out HB1.out) Zhp.out.1 Zhp.out.2.1 Zhp.out.2.2.1 Zhp.out.2.2.2).mono ?_
  rintro e w2 ⟨vx, rfl, hX, hb⟩
  obtain ⟨Ax, cx, rfl, hXr⟩ := clipped_in2 hX
  have HX := Aside0.mk hXr
  have HB2 := Aside0.mk hb
  replace HG := Aside0.mk (blk_below HG.out hb)
  clear hX hXr hb b0 b1
  obtain ⟨b0, b1, _, _⟩ := facts2 HG.out
  go_wp2_with fail
  refine (code_Put.callsC k op a r _ (tab_below Zht.out (below_step HB1.out HB2.out)) Zhp.out.1 Zhp.out.2.1 Zhp.out.2.2.1 Zhp.out.2.2.2).mono ?_
  rintro e w3 ⟨vy, rfl, hY, hb⟩
  obtain ⟨Ay, cy, rfl, hYr⟩ := clipped_in2 hY
  have HY := Aside0.mk hYr
  have HB3 := Aside0.mk hb
  replace HG := Aside0.mk (blk_below HG.out hb)
  clear hY hYr hb b0 b1
  obtain ⟨b0, b1, _, _⟩ := facts2 HG.out
  go_wp2_with fail
  refine (louverref10_Put.calls k op a r _ Zhp2.out).mono ?_
  rintro e w4 ⟨vp, rfl, hp, hb⟩
  obtain ⟨Ap, cp, rfl, hcp, hCp⟩ := Kd.R_reads hp
  have HP := Aside0.mk hCp
  have HPc := Aside0.mk hcp
  have HB := Aside0.mk (below_step (Below.refl w3.heap.size w3) hb)
  clear hp hb hcp hCp b0 b1
  go_wp2_with fail
  have HB13 := Aside0.mk (below_step HB2.out HB3.out)
  refine (code_Get.calls k _ _ l1 U S _ (tab_below Zht.out (below_step (below_step HB1.out HB13.out) HB.out)) (Kd.C_below HC.out (below_step HB13.out HB.out)) HCAP.out Zhbt.out Zhg1.out Zhg2.out).mono ?_
  rintro e w5 ⟨rfl, hb⟩
  rw [Zhg.out]
  have HJ := Aside0.mk (heap_alloc_new w5 (.cells #[.int .i64 jo, .int .i64 ja] 44))
  replace HP := Aside0.mk (Kd.C_below HP.out (below_step hb (below_alloc (Below.refl w5.heap.size w5) (.cells #[.int .i64 jo, .int .i64 ja] 44))))
  replace HB := Aside0.mk (below_alloc (below_step HB.out hb) (.cells #[.int .i64 jo, .int .i64 ja] 44))
  clear hb
  go_wp2_with fail
  refine (louverref10_Get.calls k A1 c1 l1 U S _ (Kd.C_below Zhr1.out (below_step (below_step HB1.out HB13.out) HB.out)) Zhc1.out Zhbt.out ZhU.out ZhT.out Zhg3.out Zhg4.out).mono ?_
  rintro e w6 ⟨rfl, hb⟩
  rw [Zhg.out]
  replace HJ := Aside0.mk (blk_alloc (blk_below HJ.out hb) (.cells #[.int .i64 jo, .int .i64 ja] 44))
  have HK := Aside0.mk (heap_alloc_new w6 (.cells #[.int .i64 jo, .int .i64 ja] 44))
  replace HP := Aside0.mk (Kd.C_below HP.out (below_step hb (below_alloc (Below.refl w6.heap.size w6) (.cells #[.int .i64 jo, .int .i64 ja] 44))))
  replace HB := Aside0.mk (below_alloc (below_step HB.out hb) (.cells #[.int .i64 jo, .int .i64 ja] 44))
  clear hb
  replace HX := Aside0.mk (Kd.R_below HX.out HB3.out)
  go_wp2_with fail
  refine (louverkit_Bytes.calls k _ _ r _ _ r true _ ?b1 (Nat.le_refl _) HP.out HPc.out Zh5.out).mono ?_
  case b1 => obtain ⟨_, _, h⟩ := Kd.R_reads' (Kd.R_below HX.out HB.out); exact h
  rintro e w7 ⟨rfl, hd⟩
  have hb := hd.below
  replace HP := Aside0.mk (Kd.C_below HP.out hb)
  replace HJ := Aside0.mk (blk_below HJ.out hb)
  replace HK := Aside0.mk (blk_below HK.out hb)
  replace HB := Aside0.mk (below_step HB.out hb)
  clear hb hd
  go_wp2_with fail
  refine (louverkit_Bytes.calls k _ _ r _ _ r true _ ?b1 (Nat.le_refl _) HP.out HPc.out Zh5.out).mono ?_
  case b1 => obtain ⟨_, _, h⟩ := Kd.R_reads' (Kd.R_below HY.out HB.out); exact h
  rintro e w8 ⟨rfl, hd⟩
  have hb := hd.below
  replace HP := Aside0.mk (Kd.C_below HP.out hb)
  replace HJ := Aside0.mk (blk_below HJ.out hb)
  replace HK := Aside0.mk (blk_below HK.out hb)
  replace HB := Aside0.mk (below_step HB.out hb)
  clear hb hd
  obtain ⟨j0, j1, _, _⟩ := facts2 HJ.out
  obtain ⟨k0, k1, _, _⟩ := facts2 HK.out
  have heq : ∀ W : World, (Op.equalIn 10000 44 (.agg #[.int .i64 jo, .int .i64 ja]) (.agg #[.int .i64 jo, .int .i64 ja])).run Tryd.prog W = .ok true W := fun W => by
    have := eqA44 9998 W jo jo ja ja
    simpa using this
  go_wp2_with fail
  have HB110 := Aside0.mk (below_step HB13.out HB.out)
  refine (louverkit_KeptBytes.calls k _ l1 _ _ _ l1 _ (HLent.out.below HB110.out) (Kd.C_below Zhr1.out (below_step HB1.out HB110.out)) Zhc1.out (by have := Zhl.out; omega) Zh6.out).mono ?_
  rintro e w9 ⟨rfl, hd⟩
  have hb := hd.below
  replace HB := Aside0.mk (below_step HB.out hb)
  replace HB110 := Aside0.mk (below_step HB110.out hb)
  clear hb hd j0 j1 k0 k1
  have HXa := Aside0.mk (Kd.R_below HX.out HB.out)
  have HYa := Aside0.mk (Kd.R_below HY.out HB.out)
  have S2 := Aside0.mk (show w1.heap.size ≤ w2.heap.size ∧ w2.heap.size ≤ w3.heap.size ∧ w3.heap.size ≤ w9.heap.size from ⟨below_size HB2.out, below_size HB3.out, below_size HB.out⟩)
  go_wp2_with fail
  refine (apartBytes.calls 2 (sel2 Ax Ay) (sel2 r.length r.length) (sel2 cx cy) (sel2 (fun k => w1.heap.size ≤ k ∧ k < w2.heap.size) (fun k => w2.heap.size ≤ k ∧ k < w3.heap.size)) (sel2 r r) _ _ _ (by decide) ?g1 ?g2 ?g3 ?g4 ?g5 ?g6).mono ?_
  case g1 =>
    have := Zhrl.out
    intro i hi
    match i, hi with
    | 0, _ => show r.length + 80 ≤ _; omega
    | 1, _ => show r.length + 80 ≤ _; omega
  case g2 =>
    intro i hi
    rw [add_plain]
    refine (blk_cell (heap_alloc_new w9 _) i).trans ?_
    match i, hi with
    | 0, _ => rfl
    | 1, _ => rfl
  case g3 =>
    intro i
    rw [add_plain]
  case g4 =>
    refine ⟨fun i hi => ?_, fun i hi => ?_⟩
    · match i, hi with
      | 0, _ => rfl
      | 1, _ => rfl
    · match i, hi with
      | 0, _ => exact Kd.R_below HXa.out (below_alloc (Below.refl _ _) _)
      | 1, _ => exact Kd.R_below HYa.out (below_alloc (Below.refl _ _) _)
  case g5 =>
    intro i j k hi hj h1 h2
    match i, j, hi, hj, h1, h2 with
    | 0, 0, _, _, _, _ => rfl
    | 1, 1, _, _, _, _ => rfl
    | 0, 1, _, _, h1, h2 => exact absurd (Nat.lt_of_lt_of_le h1.2 h2.1) (Nat.lt_irrefl _)
    | 1, 0, _, _, h1, h2 => exact absurd (Nat.lt_of_lt_of_le h2.2 h1.1) (Nat.lt_irrefl _)
  case g6 =>
    have hS := S2.out
    intro i hi h
    match i, hi, h with
    | 0, _, h => have := h.2; simp at this hS; omega
    | 1, _, h => have := h.2; simp at this hS; omega
  rintro e w10 ⟨rfl, hw⟩
  have HBa := Aside0.mk (hw.toBelow w1.heap.size (by have := S2.out; simp at *; omega) (by
    have hS := S2.out
    rintro k ⟨i, hi, h⟩
    match i, hi, h with
    | 0, _, h => exact h.1
    | 1, _, h => have := h.1; omega))
  clear hw
  have HB114 := Aside0.mk (Below.trans (below_step HB110.out (below_alloc (Below.refl _ _) (.cells #[.slice Ax r.length r.length, .slice Ay r.length r.length] 27))) HBa.out)
  clear HBa
  go_wp2_with fail
  refine (code_awake.calls _ (tab_below Zht.out (below_step HB1.out HB114.out))).mono ?_
  rintro e w11 ⟨rfl, hb⟩
  go_wp2_with fail
  go_ret
  exact ⟨rfl, below_step (below_step HB1.out HB114.out) hb⟩
end Go.Proofs.YtgpdaihfjnihhaaDoor.PJ

namespace Go.Proofs.YtgpdaihfjnihhaaDoor.PJ
open Go.RowKit Go.Proofs.YtgpdaihfjnihhaaDoorW.PrintWords Go.Proofs.YtgpdaihfjnihhaaDoorW.PrintLast Go.Proofs.YtgpdaihfjnihhaaDoorW.PrintMore Go.Proofs.YtgpdaihfjnihhaaDoor.LebPure Go.Proofs.YtgpdaihfjnihhaaDoor.LebForm Go.Proofs.YtgpdaihfjnihhaaDoor.B64
theorem lift3 {α : Type} (f : Nat → Option α) (hm : ∀ k, LeO (f k) (f (k + 1))) {r : α} (h : f 3 = some r) (k : Nat) (hk : 3 ≤ k) : f k = some r := by
  obtain ⟨d, rfl⟩ := Nat.exists_eq_add_of_le hk
  clear hk
  induction d with
  | zero => exact h
  | succ d ih => exact hm _ _ ih
theorem getU_range (l : List Int) : 0 ≤ (getU l).1 ∧ (getU l).1 ≤ 18446744073709551615 := by
  unfold getU
  split
  · split
    · show 0 ≤ ((_ : Nat) : Int) ∧ ((_ : Nat) : Int) ≤ _
      omega
    · exact ⟨by decide, by decide⟩
  · show (0 : Int) ≤ 0 ∧ (0 : Int) ≤ 18446744073709551615
    omega
def putAll_ (op a : Int) : List Int := if mayOf op a = true then putOf op a else []
theorem refPut10 (k : Nat) (hk : 100 ≤ k) (op a : Int) (ha : -9223372036854775808 ≤ a ∧ a ≤ 9223372036854775807) : louverref10_Put.f k op a = some (putAll_ op a) := by
  obtain ⟨p, q, kd, hT, ho, h32, h0⟩ := table_all op
  have hM := lift3 (fun k => louverref10_May.f k op a) (fun k => louverref10_May.mono op a k) (refMay_f op a) k (by omega)
  have hT := lift3 (fun k => louverref10_Table.f k op) (fun k => louverref10_Table.mono op k) hT k (by omega)
  unfold louverref10_Put.f putAll_
  rw [show louverref10_May.f k op a = some (mayOf op a) from hM, Option.bind_some]
  by_cases hm : mayOf op a = true
  · rw [if_pos hm, if_pos hm, show louverref10_Table.f k op = _ from hT, Option.bind_some, Option.bind_some]
    obtain ⟨hv, h1, h2⟩ := may_parts hm
    have hr := valid_range hv
    have h256 : op % 256 = op := by omega
    have hk1 := h32 hv
    rw [hv, Bool.true_and] at ho
    rw [h256]
    by_cases he : op = 32
    · obtain rfl : kd = 1 := hk1.mpr he
      have hs := slen_i64 ha
      rw [if_pos rfl, refPutSigned_f k a ha (by omega), Option.bind_some, if_pos (by rw [sform_length]; simp only [List.length_cons, List.length_nil]; omega), Option.bind_some, if_neg (show ¬ ((1 : Int) > 1) by decide)]
      simp [putOf, he]
    · rw [if_neg (fun h => he (hk1.mp h))]
      by_cases hop : operandOp op = true
      · have hkd : 0 < kd := of_decide_eq_true (ho.symm.trans hop)
        have hkn : ¬ (kd = 1) := fun h => he (hk1.mp h)
        have h0 : 0 ≤ a := (h1 hop).resolve_left he
        have hu := ulen_u64 (n := a.toNat) (by omega)
        have hp := refPut_f k a.toNat (by omega) (by omega)
        rw [show ((a.toNat : Nat) : Int) = a by omega] at hp
        rw [if_pos (show kd > 1 by omega), u64_small h0 (by omega), hp, Option.bind_some, if_pos (by rw [form_length]; simp only [List.length_cons, List.length_nil]; omega)]
        simp [putOf, he, hop]
      · have hkd : ¬ (0 < kd) := fun h => hop (ho.trans (decide_eq_true h))
        rw [if_neg (show ¬ (kd > 1) by omega)]
        simp [putOf, he, hop]
  · rw [if_neg hm, if_neg hm]
theorem louverlaw10_CodeBytes.walk (cs0 : Array Value) (z0 : S44) (a1 : Option Addr) (len1 cap1 : Nat) (z1 : List Int) (w : World) (w0 : k44.K w z0 cs0.toList) (y0 : (Lit.int .i64 z0.f0).wf = true ∧ (Lit.int .i64 z0.f1).wf = true)
    (w1 : (a1 = none ∧ len1 = 0 ∧ cap1 = 0 ∧ z1 = []) ∨ ∃ x, a1 = some x ∧ len1 ≤ cap1 ∧ cap1 ≤ maxLen ∧ z1.length = cap1 ∧ (∀ i, i < z1.length → w.cell? (x.add i) = some (.int .u8 (z1.getD i 0))) ∧ ∀ n ∈ z1, (Lit.int .u8 n).wf = true) (y1 : len1 * 1 ≤ 140737488351232) (hL : laidMetH Tryd.prog Rows.codeBytesRow.laid w) :
    Calls Tryd.prog 5 #[.agg cs0, .slice a1 len1 cap1] w fun e w' => e = .returned (.bool true) ∧ Below w.heap.size w w' := by
  have e0 := k44_open w0
  obtain rfl : cs0 = #[.int .i64 z0.f0, .int .i64 z0.f1] := by
    apply Array.toList_inj.mp
    simpa using e0
  obtain ⟨l1, rfl, hr1, hm1, hw1, hc1⟩ := ReadsInt.ofRowC w1
  have hb1 := bts_of_wf hw1
  have hC := Kd.C_of_reads (d := (0 : Int)) (h1 := fun _ => rfl) hr1
  have ha := B64.wf_i64 y0.2
  have htl1 : Bts l1.tail := fun x hx => hb1 x (List.mem_of_mem_tail hx)
  have hlt : l1.tail.length ≤ l1.length := by rw [List.length_tail]; omega
  have hpl : (putAll_ z0.f0 z0.f1).length ≤ 100 := by
    unfold putAll_
    split
    · exact put_len _ _ ha
    · exact Nat.zero_le _
  have hp : PutIs (2 * l1.length + 2000) z0.f0 z0.f1 (putAll_ z0.f0 z0.f1) := by
    unfold putAll_
    by_cases hm : mayOf z0.f0 z0.f1 = true
    · rw [if_pos hm]
      exact put_is_k _ z0.f0 z0.f1 ha hm (by omega)
    · rw [if_neg hm]
      exact ⟨fun _ => rfl, fun h => absurd h hm, fun h => absurd h hm, fun h => absurd h hm⟩
  have b1 := Bytes_f (2 * l1.length + 2000) (putAll_ z0.f0 z0.f1) (putAll_ z0.f0 z0.f1) (by omega) (by omega)
  have b2 := Bytes_f (2 * l1.length + 2000) l1 l1 (by omega) (by omega)
  rw [decide_eq_true rfl] at b1 b2
  obtain ⟨jo, ja, n, er, hg⟩ : ∃ jo ja n er, codeGet l1 (getU l1.tail) (getS l1.tail) = (jo, ja, n, er) := ⟨_, _, _, _, rfl⟩
  exact codeBytes.calls (2 * l1.length + 2000) z0.f0 z0.f1 jo ja n er a1 cap1 l1 _ _ _ w (tab_of_laid hL) hC hc1 (by omega) hb1 hpl hp (refPut10 _ (by omega) _ _ ha) (Get_f _ _ htl1 (by omega) (by omega)) (GetSigned_f _ _ htl1 (by omega) (by omega)) (refGet_f _ _ htl1 (by omega) (by omega)) (refGetSigned_f _ _ htl1 (by omega) (by omega))
    (getU_range _) (fun op => by obtain ⟨p, q, kd, h⟩ := table_all op; exact ⟨_, p, q, kd, h⟩) hg b1 b2
end Go.Proofs.YtgpdaihfjnihhaaDoor.PJ
