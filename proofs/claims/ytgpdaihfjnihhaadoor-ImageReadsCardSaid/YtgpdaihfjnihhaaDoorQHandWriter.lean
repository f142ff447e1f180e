/- image's writer: its methods, and list, by hand. -/
import Derived.Test.YtgpdaihfjnihhaaDoorQPJx0
import Derived.Test.YtgpdaihfjnihhaaDoorQHandCode2
import Derived.Test.YtgpdaihfjnihhaaDoorQHandApart
import Derived.Test.YtgpdaihfjnihhaaDoorQHandHeapy
import Derived.Test.YtgpdaihfjnihhaaDoorQImagePure
namespace Go.Proofs.YtgpdaihfjnihhaaDoor.PJ
open Go.RowKit Go.Proofs.YtgpdaihfjnihhaaDoorW.PrintWords Go.Proofs.YtgpdaihfjnihhaaDoorW.PrintLast Go.Proofs.YtgpdaihfjnihhaaDoorW.PrintMore Go.Proofs.YtgpdaihfjnihhaaDoor.LebPure Go.Proofs.YtgpdaihfjnihhaaDoor.LebForm Go.Proofs.YtgpdaihfjnihhaaDoor.B64
set_option linter.unusedSimpArgs false
set_option linter.unusedVariables false
theorem winfo8 : (Tryd.prog.info? 5).map (fun i => (i.zero, i.size, i.bytes)) = some (some (.int .u8 0), 1, 1) := by kernel_rfl
def RowSt (P : Nat → Prop) (w : World) (q : Nat) (v : Value) (xs : List Int) : Prop :=
 Kd.R (Kd.int .u8) 5 w 0 P v xs ∨ ∃ g fr, v = .slice (some ⟨g, 0, none⟩) xs.length xs.length ∧ w.heap[g]? = some (.cells (xs.map (Value.int .u8)).toArray 5 fr) ∧ g ≠ q ∧ xs.length ≤ 1000
theorem RowSt.below {P : Nat → Prop} {w w1 : World} {q : Nat} {v : Value} {xs : List Int} (h : RowSt P w q v xs) (hb : Below w.heap.size w w1) : RowSt P w1 q v xs := by
 rcases h with h | ⟨g, fr, e, hh, hq⟩
 ·
  exact .inl (Kd.R_below h hb)
 ·
  exact .inr ⟨g, fr, e, blk_below hh hb, hq⟩
theorem RowSt.far {P : Nat → Prop} {w : World} {q : Nat} {v : Value} {xs : List Int} (h : RowSt P w q v xs) (hP : ∀ k, P k → k ≠ q) (i : Nat) (u : Value) : RowSt P (w.setCell ⟨q, i, none⟩ u) q v xs := by
 rcases h with h | ⟨g, fr, e, hh, hq⟩
 ·
  exact .inl (Kd.R_far h hP u)
 ·
  exact .inr ⟨g, fr, e, (Below.heap_setCell w ⟨q, i, none⟩ u g hq.1).trans hh, hq⟩
theorem RowSt.slice {P : Nat → Prop} {w : World} {q : Nat} {v : Value} {xs : List Int} (h : RowSt P w q v xs) : ∃ A c, v = .slice A xs.length c := by
 rcases h with h | ⟨g, fr, e, _⟩
 ·
  exact Kd.R_slice h
 ·
  exact ⟨_, _, e⟩
theorem RowSt.reads {P : Nat → Prop} {w : World} {q : Nat} {A : Option Addr} {c : Nat} {xs : List Int} (h : RowSt P w q (.slice A xs.length c) xs) : xs.length ≤ c ∧ Kd.C (Kd.int .u8) w A xs.length xs := by
 rcases h with h | ⟨g, fr, e, hh, hq, hl⟩
 ·
  exact (Kd.R_reads' h).2
 ·
  injection e with e1 e2 e3
  subst e1 e3
  refine ⟨Nat.le_refl _, rfl, by omega, fun _ => ⟨_, rfl, fun j p hj => ⟨[.int .u8 p], rfl, rfl, fun i u hu => ?_⟩⟩⟩
  match i, hu with
  | 0, hu =>
   obtain rfl : Value.int .u8 p = u := by simpa using hu
   show w.cell? ((⟨g, 0, none⟩ : Addr).add (j * 1 + 0)) = _
   rw [add_plain, Nat.mul_one, Nat.add_zero]
   refine (cell_of_row w g j _ _ fr hh).trans ?_
   simp [hj]
  | i + 1, hu => simp at hu
theorem rowSt_append_step {ops : Array Oper} {o : Oper} {a : Act} {W : World} {Kc : Act → World → Prop} {Q : Exit → Act → World → Prop} {P : Nat → Prop} {q : Nat} (hw : Region.wanted o (yielded ops a.tmps) = true) (s x : Operand)
  (ho : o.op = .call { callee := .builtin .append, args := #[s, x], argTypes := #[27, 27] }) (A : Option Addr) (c : Nat) (xs ys : List Int) (A3 : Option Addr) (c3 : Nat) (hs : a.eval s = .slice A xs.length c) (hx : a.eval x = .slice A3 ys.length c3)
  (h : RowSt P W q (.slice A xs.length c) xs) (hD : Kd.C (Kd.int .u8) W A3 ys.length ys) (hl : xs.length + ys.length ≤ 1000000000)
  (k : ∀ v1 w1 row, RowSt (fun k => P k ∨ W.heap.size ≤ k) w1 q v1 (xs ++ ys) → W.grownBy w1 row → (∀ g, row = some g → P g) → Kc (a.put o.dst v1) w1) :
  if Region.wanted o (yielded ops a.tmps) = true then Oper.wp Tryd.prog o a W Kc Q else Kc (a.put o.dst undef) W := by
 rcases h with hR | ⟨g, fr, e, hh, hq, hlx⟩
 ·
  exact Kd.R_append_rows_step (Kd.int .u8) (w0 := W) 0 hw s x 27 5 (.int .u8 0) 1 ho Tryd.underlying27 winfo8 rfl (by decide) (by omega) (.slice A xs.length c) xs ys A3 _ c3 (fun k => P k ∨ W.heap.size ≤ k) (fun _ => False) hs hx (Kd.R_mono hR (fun _ hk => .inl hk)) hD (fun _ _ h => h) (fun _ h => h.elim) (fun k hk => .inr hk) (below_low (Below.refl W.heap.size W) (Nat.zero_le _)) (Nat.zero_le _) (by omega)
   (fun v1 w1 hR1 _ hg _ => k v1 w1 _ (.inl hR1) hg (fun g e => hR.1 g e))
 ·
  injection e with e1 e2 e3
  subst e1 e3
  have hrun : ∃ v1 w1 row, (Builtin.append_ #[27, 27] o.type #[.slice (some ⟨g, 0, none⟩) xs.length xs.length, .slice A3 ys.length c3]).run Tryd.prog W = .ok v1 w1 ∧ RowSt (fun k => P k ∨ W.heap.size ≤ k) w1 q v1 (xs ++ ys) ∧ W.grownBy w1 row ∧ ∀ g, row = some g → P g := by
   obtain ⟨i0, hi, hz0, hz1, hz2⟩ := info_parts winfo8
   by_cases h0 : ys.length = 0
   ·
    obtain rfl : ys = [] := List.eq_nil_of_length_eq_zero h0
    refine ⟨.slice (some ⟨g, 0, none⟩) xs.length xs.length, W, none, ?_, .inr ⟨g, fr, by rw [List.append_nil], by rw [List.append_nil]; exact hh, hq, by rw [List.append_nil]; exact hlx⟩, World.grownBy.refl W _, fun g e => by cases e⟩
    cases A3 <;> simp [Builtin.append_, run_underlying Tryd.underlying27, sizeOf, typeInfo, hi, Builtin.lenOf, Builtin.firstCells, storeCells, loadCells, loadCellsFrom, Result.andThen]
   ·
    cases A3 with
    | none => exact absurd (C_none hD).2 h0
    | some b' =>
     have hX := (RowSt.reads (P := P) (w := W) (q := q) (c := xs.length) (A := some ⟨g, 0, none⟩) (xs := xs) (.inr ⟨g, fr, rfl, hh, hq, hlx⟩)).2
     obtain ⟨v1, w1, hr, ho', hg⟩ := run_append_arg_grows (P := Tryd.prog) (w := W) 27 o.type 5 i0 (.int .u8 0) 1 1 Tryd.underlying27 hi hz0 hz1 hz2 rfl (by omega) ⟨g, 0, none⟩ xs.length xs.length (xs.map (Value.int .u8)) (by rw [List.length_map, Nat.mul_one]) (C_cells hX) b' ys.length c3 (ys.map (Value.int .u8)) (by rw [List.length_map, Nat.mul_one]) (C_cells hD) (by omega) (by simp only [maxLen]; omega) (by omega)
     refine ⟨v1, w1, none, hr, .inl ?_, hg, fun g e => by cases e⟩
     rw [← List.length_append, ← List.map_append] at ho'
     exact Kd.R_lower (Kd.R_of_own (enc := Value.int .u8) (h1 := fun _ => rfl) ho' (fun j hj => .inr (own_base ho' j hj))) (Nat.zero_le _)
  obtain ⟨v1, w1, row, hr, h1, h2, h3⟩ := hrun
  rw [if_pos hw]
  unfold Oper.wp execOp
  simp only [ho, resolve, invoke, builtin, Sem.run_bind, Sem.run_pure, Result.andThen_ok, List.map_toArray, List.map_cons, List.map_nil, hs, hx, hr]
  exact k v1 w1 row h1 h2 h3
structure Wr (w0 : World) (P : Nat → Prop) (w : World) (q : Nat) (xs : List Int) (β : Bool) : Prop where
 below : Below w0.heap.size w0 w
 base : w0.heap.size ≤ q
 lo : ∀ k, P k → w0.heap.size ≤ k ∧ k < w.heap.size ∧ k ≠ q
 st : ∃ v, w.heap[q]? = some (.cells #[v, .bool β] 90 (0, 0)) ∧ RowSt P w q v xs
structure Adv (q : Nat) (P : Nat → Prop) (w : World) (P' : Nat → Prop) (w' : World) : Prop where
 wrote : Wrote (fun k => k = q ∨ P k) w w'
 own : ∀ k, P' k → P k ∨ w.heap.size ≤ k
theorem Wrote.trans {S S' : Nat → Prop} {w w1 w2 : World} (h : Wrote S w w1) (h' : Wrote S' w1 w2) (hs : ∀ k, S' k → S k ∨ w.heap.size ≤ k) : Wrote S w w2 :=
 ⟨h'.os.trans h.os, h'.tape.trans h.tape, h'.output.trans h.output, Nat.le_trans h.size h'.size, fun k hk hn => (h'.block k (Nat.lt_of_lt_of_le hk h.size) (fun hs' => by
  rcases hs k hs' with h1 | h1
  ·
   exact hn h1
  ·
   omega)).trans (h.block k hk hn)⟩
theorem Wrote.set {S : Nat → Prop} {w w1 : World} (h : Wrote S w w1) (p : Addr) (u : Value) (hp : S p.block) : Wrote S w (w1.setCell p u) :=
 ⟨h.os, h.tape, h.output, by have := h.size; simpa [World.setCell] using this, fun k hk hn => (Below.heap_setCell w1 p u k (fun e => hn (by rw [e]; exact hp))).trans (h.block k hk hn)⟩
theorem Adv.refl (q : Nat) (P : Nat → Prop) (w : World) : Adv q P w P w := ⟨Wrote.refl _ _, fun _ h => .inl h⟩
theorem Adv.trans {q : Nat} {P P1 P2 : Nat → Prop} {w w1 w2 : World} (h : Adv q P w P1 w1) (h' : Adv q P1 w1 P2 w2) : Adv q P w P2 w2 :=
 ⟨h.wrote.trans h'.wrote (fun k hk => by
  rcases hk with hk | hk
  ·
   exact .inl (.inl hk)
  ·
   rcases h.own k hk with h1 | h1
   ·
    exact .inl (.inr h1)
   ·
    exact .inr h1), fun k hk => by
  rcases h'.own k hk with h1 | h1
  ·
   exact h.own k h1
  ·
   exact .inr (Nat.le_trans h.wrote.size h1)⟩
theorem Adv.below {q : Nat} {P P1 : Nat → Prop} {w w1 w2 : World} (h : Adv q P w P1 w1) (hb : Below w1.heap.size w1 w2) : Adv q P w P1 w2 := ⟨h.wrote.below hb, h.own⟩
theorem Adv.blk {q : Nat} {P P1 : Nat → Prop} {w w1 : World} (h : Adv q P w P1 w1) {g : Nat} {ob : Obj} (hg : w.heap[g]? = some ob) (hq : g ≠ q) (hP : ¬ P g) : w1.heap[g]? = some ob ∧ ¬ P1 g :=
 ⟨(h.wrote.block g (blk_lt hg) (fun hh => by rcases hh with hh | hh <;> contradiction)).trans hg, fun h1 => by
  rcases h.own g h1 with h2 | h2
  ·
   exact hP h2
  ·
   have := blk_lt hg
   omega⟩
theorem Wr.step {w0 w w1 : World} {P : Nat → Prop} {q : Nat} {xs : List Int} {β : Bool} (h : Wr w0 P w q xs β) (hb : Below w.heap.size w w1) : Wr w0 P w1 q xs β := by
 obtain ⟨v, hq, hR⟩ := h.st
 exact ⟨below_step h.below hb, h.base, fun k hk => ⟨(h.lo k hk).1, Nat.lt_of_lt_of_le (h.lo k hk).2.1 hb.size, (h.lo k hk).2.2⟩, v, blk_below hq hb, hR.below hb⟩
theorem Wr.qlt {w0 w : World} {P : Nat → Prop} {q : Nat} {xs : List Int} {β : Bool} (h : Wr w0 P w q xs β) : q < w.heap.size := by
 obtain ⟨v, hq, _⟩ := h.st
 exact blk_lt hq
theorem Adv.old {q : Nat} {P P1 : Nat → Prop} {w0 w w1 : World} (h : Adv q P w P1 w1) (hq : w0.heap.size ≤ q) (hP : ∀ k, P k → w0.heap.size ≤ k) (hw : w0.heap.size ≤ w.heap.size) : Below w0.heap.size w w1 :=
 h.wrote.toBelow _ hw (fun k hk => by
  rcases hk with hk | hk
  ·
   omega
  ·
   exact hP k hk)
theorem wr_append {w0 w w3 w4 : World} {P : Nat → Prop} {q : Nat} {xs ys : List Int} {β : Bool} {v v4 : Value} (h : Wr w0 P w q xs β) (hb3 : Below w.heap.size w w3) (hQ4 : w4.heap[q]? = some (.cells #[v, .bool β] 90 (0, 0)))
  (hR4 : RowSt (fun k => P k ∨ w3.heap.size ≤ k) w4 q v4 (xs ++ ys)) {row : Option Nat} (hg4 : w3.grownBy w4 row) (hrow : ∀ g, row = some g → P g) :
  ∃ P', Wr w0 P' (w4.setCell ⟨q, 0, none⟩ v4) q (xs ++ ys) β ∧ Adv q P w P' (w4.setCell ⟨q, 0, none⟩ v4) := by
 have hqlt := h.qlt
 have hlo : ∀ k, (P k ∨ w.heap.size ≤ k) → w0.heap.size ≤ k ∧ k ≠ q := fun k hk => by
  rcases hk with hk | hk
  ·
   exact ⟨(h.lo k hk).1, (h.lo k hk).2.2⟩
  ·
   have := h.base
   exact ⟨by omega, by omega⟩
 have hwr : Wrote (fun k => k = q ∨ P k) w (w4.setCell ⟨q, 0, none⟩ v4) := (((Wrote.refl _ w).below hb3).grown hg4 (fun g hg => .inl (.inr (hrow g hg)))).set _ _ (.inl rfl)
 refine ⟨fun k => (P k ∨ w.heap.size ≤ k) ∧ k < w4.heap.size, ⟨?_, h.base, fun k hk => ⟨(hlo k hk.1).1, by simpa [World.setCell] using hk.2, (hlo k hk.1).2⟩, v4, blk_put hQ4 0 v4 rfl, ?_⟩, hwr, fun k hk => hk.1⟩
 ·
  refine Below.trans h.below (hwr.toBelow _ h.below.size (fun k hk => ?_))
  rcases hk with hk | hk
  ·
   have := h.base
   omega
  ·
   exact (h.lo k hk).1
 ·
  have hR5 : RowSt (fun k => (P k ∨ w.heap.size ≤ k) ∧ k < w4.heap.size) w4 q v4 (xs ++ ys) := by
   rcases hR4 with hR | hR
   ·
    exact .inl (Kd.R_mono (Kd.R_bound hR) (fun k hk => ⟨hk.1.imp id (fun h => Nat.le_trans hb3.size h), hk.2.2.1⟩))
   ·
    exact .inr hR
  exact hR5.far (fun k hk => (hlo k hk.1).2) 0 v4
theorem wrF {w : World} {g t : Nat} {x y : Value} (h : w.heap[g]? = some (.cells #[x, y] t (0, 0))) : w.cell? ⟨g, 0, none⟩ = some x ∧ w.cell? ⟨g, 1, none⟩ = some y ∧ w.frozen? ⟨g, 0, none⟩ = false ∧ w.frozen? ⟨g, 1, none⟩ = false :=
 ⟨blk_cell h 0, blk_cell h 1, blk_frozen h 0, blk_frozen h 1⟩
theorem leb_PutN.calls (n : Int) (hn : okU n) (w : World) : Calls Tryd.prog 65 #[.slice none 0 0, .int .u64 n] w fun e w' => ∃ v, e = .returned v ∧ Clipped w' w.heap.size v (form n.toNat) ∧ Below w.heap.size w w' := by
 have hf := Put_f 20 [] n.toNat (by unfold okU at hn; omega) (by simp) (by omega)
 rw [show ((n.toNat : Nat) : Int) = n by unfold okU at hn; omega] at hf
 exact leb_Put.callsC 20 none 0 [] n (form n.toNat) w (Kd.C_nil _ _) (Nat.le_refl _) hf
set_option maxHeartbeats 8000000 in
set_option maxRecDepth 100000 in
theorem writer_number.calls (q : Nat) (xs : List Int) (β : Bool) (n : Int) (hn : okU n) (w0 : World) (P : Nat → Prop) (w : World) (h : Wr w0 P w q xs β) :
  Calls Tryd.prog 93 #[.pointer (some ⟨q, 0, none⟩), .int .u64 n] w fun e w' => e = .returned (.tuple #[]) ∧ ∃ P', Wr w0 P' w' q (emit1 xs (form n.toNat)) (β) ∧ Adv q P w P' w' := by
 obtain ⟨v, hq, hR⟩ := h.st
 obtain ⟨A, c, rfl⟩ := hR.slice
 obtain ⟨q0, q1, z0, z1⟩ := wrF hq
 have HW := Aside0.mk h
 have HQ := Aside0.mk hq
 have HR := Aside0.mk hR
 have HN := Aside0.mk hn
 clear h hq hR hn
 by_cases hl : xs.length ≤ 262144
 ·
  have hlb : decide ((xs.length : Int) ≤ 262144) = true := decide_eq_true (by omega)
  have HL := Aside0.mk hl
  have HU : n.toNat < 2 ^ 64 := by have := HN.out; unfold okU at this; omega
  have HE := Aside0.mk (show (form n.toNat).length ≤ 10 by rw [form_length]; exact ulen_u64 HU)
  clear hl HU
  go_enter Tryd.func93, Tryd.ntmps93
  go_wp2_with fail
  refine start_ (n := 11) (S := fun w' => w'.cell? ⟨q, 0, none⟩ = some (.slice A xs.length c)) (ds := [10]) #[false, false, false, false, false, false, false, false, false, false, false] (by kernel_rfl) rfl rfl (q0) (fun hHeld => ?_)
  refine pure_ (i := 0) (N := some 10) (v := ?_) (a' := ?_) #[true, false, false, false, false, false, false, false, false, false, false] rfl rfl (by kernel_rfl) (fun _ _ _ h => h) (Or.inl ⟨by rfl, ?_⟩) ?_ ?_
  rotate_left
  ·
   intro w'
   go_simp
   with_reducible rfl
  rotate_left
  ·
   simp only [Act.put, List.setIfInBounds_toArray, List.set_cons_zero, List.set_cons_succ, i64_w, i32_w]
   rfl
  refine pure_ (i := 1) (N := some 11) (v := ?_) (a' := ?_) #[true, true, false, false, false, false, false, false, false, false, false] rfl rfl (by kernel_rfl) (fun _ _ _ h => h) (Or.inl ⟨by rfl, ?_⟩) ?_ ?_
  rotate_left
  ·
   intro w'
   go_simp
   with_reducible rfl
  rotate_left
  ·
   simp only [Act.put, List.setIfInBounds_toArray, List.set_cons_zero, List.set_cons_succ, i64_w, i32_w]
   rfl
  refine pure_ (i := 2) (N := some 12) (v := ?_) (a' := ?_) #[true, true, true, false, false, false, false, false, false, false, false] rfl rfl (by kernel_rfl) (fun _ _ _ h => h) (Or.inl ⟨by rfl, ?_⟩) ?_ ?_
  rotate_left
  ·
   intro w'
   go_simp
   with_reducible rfl
  rotate_left
  ·
   simp only [Act.put, List.setIfInBounds_toArray, List.set_cons_zero, List.set_cons_succ, i64_w, i32_w]
   rfl
  refine pure_ (i := 3) (N := some 13) (v := ?_) (a' := ?_) #[true, true, true, true, false, false, false, false, false, false, false] rfl rfl (by kernel_rfl) (fun _ _ _ h => h) (Or.inl ⟨by rfl, ?_⟩) ?_ ?_
  rotate_left
  ·
   intro w'
   go_simp
   with_reducible rfl
  rotate_left
  ·
   simp only [Act.put, List.setIfInBounds_toArray, List.set_cons_zero, List.set_cons_succ, i64_w, i32_w]
   rfl
  refine pure_ (i := 5) (N := some 15) (v := ?_) (a' := ?_) #[true, true, true, true, false, true, false, false, false, false, false] rfl rfl (by kernel_rfl) (fun _ _ _ h => h) (Or.inl ⟨by rfl, ?_⟩) ?_ ?_
  rotate_left
  ·
   intro w'
   go_simp
   with_reducible rfl
  rotate_left
  ·
   simp only [Act.put, List.setIfInBounds_toArray, List.set_cons_zero, List.set_cons_succ, i64_w, i32_w]
   rfl
  refine take_ (i := 4) (N := some 14) (v := ?_) (a' := ?_) #[true, true, true, true, true, true, false, false, false, false, false] rfl rfl (by kernel_rfl) (fun _ _ _ h => h) (Or.inl ⟨by rfl, ?_⟩) hHeld ?_ ?_
  rotate_left
  ·
   intro w' s0
   go_simp
   with_reducible rfl
  rotate_left
  ·
   simp only [Act.put, List.setIfInBounds_toArray, List.set_cons_zero, List.set_cons_succ, i64_w, i32_w]
   rfl
  refine one_ (i := 6) (N := some 16) #[true, true, true, true, true, true, true, false, false, false, false] rfl rfl (by kernel_rfl) (by decide) (fun K hK => ?_)
  refine goes_ Tryd.func65 (by kernel_rfl) rfl #[.slice none 0 0, .int .u64 n] (by rfl) rfl rfl (by simp only [List.map_toArray, List.map_cons, List.map_nil]; rfl) ?_
  with_reducible refine (leb_PutN.calls n HN.out _).mono ?_
  rintro e w3 ⟨v3, rfl, hC3, hb3⟩
  refine ⟨_, rfl, ?_⟩
  replace hb3 : Below w.heap.size w w3 := ⟨hb3.os, hb3.tape, hb3.output, hb3.size, hb3.block⟩
  obtain ⟨A3, rfl, hD3⟩ := hC3.reads
  have hQ3 := blk_below HQ.out hb3
  refine hK.out _ _ ((pw_cell_below hb3 hHeld)) (fun hHeld => ?_)
  clear hK K
  refine norm_ (a' := ?_) ?_ ?_
  rotate_left
  ·
   show Act.put _ (some 16) _ = _
   simp only [Act.put, List.setIfInBounds_toArray, List.set_cons_zero, List.set_cons_succ, i64_w, i32_w]
   rfl
  refine one_ (i := 7) (N := some 17) #[true, true, true, true, true, true, true, true, false, false, false] rfl rfl (by kernel_rfl) (by decide) (fun K hK => ?_)
  refine rowSt_append_step rfl (.tmp 14) (.tmp 16) rfl A c xs (form n.toNat) A3 _ rfl rfl (HR.out.below hb3) hD3 (by have := HL.out; have := HE.out; omega) ?_
  intro v4 w4 row hR4 hg4 hrow
  obtain ⟨A4, c4, rfl⟩ := hR4.slice
  have hne : some q ≠ row := fun e => (HW.out.lo q (hrow q e.symm)).2.2 rfl
  have hQ4 := blk_grown hQ3 hg4 hne
  have z4 := blk_frozen hQ4 0
  refine hK.out _ _ ((blk_cell hQ4 0)) (fun hHeld => ?_)
  clear hK K
  refine norm_ (a' := ?_) ?_ ?_
  rotate_left
  ·
   show Act.put _ (some 17) _ = _
   simp only [Act.put, List.setIfInBounds_toArray, List.set_cons_zero, List.set_cons_succ, i64_w, i32_w]
   rfl
  refine pure_ (i := 8) (N := some 18) (v := ?_) (a' := ?_) #[true, true, true, true, true, true, true, true, true, false, false] rfl rfl (by kernel_rfl) (fun _ _ _ h => h) (Or.inl ⟨by rfl, ?_⟩) ?_ ?_
  rotate_left
  ·
   intro w'
   go_simp
   with_reducible rfl
  rotate_left
  ·
   simp only [Act.put, List.setIfInBounds_toArray, List.set_cons_zero, List.set_cons_succ, i64_w, i32_w]
   rfl
  refine pure_ (i := 9) (N := some 19) (v := ?_) (a' := ?_) #[true, true, true, true, true, true, true, true, true, true, false] rfl rfl (by kernel_rfl) (fun _ _ _ h => h) (Or.inl ⟨by rfl, ?_⟩) ?_ ?_
  rotate_left
  ·
   intro w'
   go_simp
   with_reducible rfl
  rotate_left
  ·
   simp only [Act.put, List.setIfInBounds_toArray, List.set_cons_zero, List.set_cons_succ, i64_w, i32_w]
   rfl
  refine last_ (i := 10) (N := none) #[true, true, true, true, true, true, true, true, true, true, true] rfl rfl (by kernel_rfl) (by decide) (fun K hK => ?_)
  refine skip_ (w1 := ?_) (by rfl) rfl ?_ ?_
  rotate_left
  ·
   go_simp
   rfl
  refine hK.out _ _ ?_
  clear hK K
  refine done_ (by kernel_rfl) ?_
  obtain ⟨P', hW', hA'⟩ := wr_append HW.out hb3 hQ4 hR4 hg4 hrow
  rw [List.length_append] at hW' hA'
  have HW' := Aside0.mk hW'
  have HA' := Aside0.mk hA'
  clear hW' hA'
  go_wp2
  go_end0
  refine ⟨rfl, P', ?_, HA'.out⟩
  rw [show emit1 xs (form n.toNat) = xs ++ form n.toNat from if_pos HL.out]
  exact HW'.out
 ·
  have hlb : decide ((xs.length : Int) ≤ 262144) = false := decide_eq_false (by omega)
  have HL := Aside0.mk hl
  clear hl
  go_enter Tryd.func93, Tryd.ntmps93
  go_wp2
  go_end0
  refine ⟨rfl, P, ?_, Adv.refl _ _ _⟩
  rw [show emit1 xs (form n.toNat) = xs from if_neg HL.out]
  exact HW.out
theorem u64_emod (n : Int) : IntKind.u64.wrap n = n % 18446744073709551616 := by
 rw [u64_wrap, BitVec.toNat_ofInt]
 have h : 0 ≤ n % ((2 ^ 64 : Nat) : Int) := Int.emod_nonneg _ (by decide)
 rw [Int.toNat_of_nonneg h]
 rfl
theorem Wr.bad {w0 w : World} {P : Nat → Prop} {q : Nat} {xs : List Int} {β : Bool} (h : Wr w0 P w q xs β) (β' : Bool) : Wr w0 P (w.setCell ⟨q, 1, none⟩ (.bool β')) q xs β' ∧ Adv q P w P (w.setCell ⟨q, 1, none⟩ (.bool β')) := by
 obtain ⟨v, hq, hR⟩ := h.st
 have hwr : Wrote (fun k => k = q ∨ P k) w (w.setCell ⟨q, 1, none⟩ (.bool β')) := (Wrote.refl _ w).set _ _ (.inl rfl)
 refine ⟨⟨?_, h.base, fun k hk => by simpa [World.setCell] using h.lo k hk, v, blk_put hq 1 _ rfl, hR.far (fun k hk => (h.lo k hk).2.2) 1 _⟩, hwr, fun k hk => .inl hk⟩
 refine Below.trans h.below (hwr.toBelow _ h.below.size (fun k hk => ?_))
 rcases hk with hk | hk
 ·
  have := h.base
  omega
 ·
  exact (h.lo k hk).1
set_option maxHeartbeats 8000000 in
set_option maxRecDepth 100000 in
theorem writer_int.calls (q : Nat) (xs : List Int) (β : Bool) (n : Int) (w0 : World) (P : Nat → Prop) (w : World) (h : Wr w0 P w q xs β) :
  Calls Tryd.prog 92 #[.pointer (some ⟨q, 0, none⟩), .int .i64 n] w fun e w' => e = .returned (.tuple #[]) ∧ ∃ P', Wr w0 P' w' q (emit1 xs (cNum n)) (β || decide (n < 0)) ∧ Adv q P w P' w' := by
 have HN := Aside0.mk (show okU (n % 18446744073709551616) from ⟨by omega, by omega⟩)
 have HWB := Aside0.mk (h.bad (β || decide (n < 0)))
 have hcv := u64_emod n
 obtain ⟨v, hq, hR⟩ := h.st
 obtain ⟨A, c, rfl⟩ := hR.slice
 obtain ⟨q0, q1, z0, z1⟩ := wrF hq
 clear h hq hR
 obtain ⟨B, hB⟩ : ∃ B, (β || decide (n < 0)) = B := ⟨_, rfl⟩
 rw [hB] at HWB
 have hstep : ∀ {K : Prop}, K → K := fun k => k
 have hcall := fun (w1 : World) (hW1 : Wr w0 P w1 q xs B) => writer_number.calls q xs B (n % 18446744073709551616) HN.out w0 P w1 hW1
 have HC := Aside0.mk hcall
 clear hcall hstep
 cases β with
 | true =>
  obtain rfl : true = B := by simpa using hB
  clear hB
  go_enter Tryd.func92, Tryd.ntmps92
  go_wp2_with fail
  refine (HC.out _ HWB.out.1).mono ?_
  rintro e w2 ⟨rfl, P', hW', hA'⟩
  have HW' := Aside0.mk hW'
  have HA' := Aside0.mk (HWB.out.2.trans hA')
  clear hW' hA'
  go_wp2
  go_end0
  exact ⟨rfl, P', HW'.out, HA'.out⟩
 | false =>
  have hd : decide (n < 0) = B := by simpa using hB
  have HD := Aside0.mk hd
  by_cases hn : n < 0
  ·
   have hnb : decide (n < 0) = true := decide_eq_true hn
   obtain rfl : true = B := hnb.symm.trans hd
   clear hB hd hn
   go_enter Tryd.func92, Tryd.ntmps92
   go_wp2_with fail
   refine (HC.out _ HWB.out.1).mono ?_
   rintro e w2 ⟨rfl, P', hW', hA'⟩
   have HW' := Aside0.mk hW'
   have HA' := Aside0.mk (HWB.out.2.trans hA')
   clear hW' hA'
   go_wp2
   go_end0
   refine ⟨rfl, P', ?_, HA'.out⟩
   rw [HD.out]
   exact HW'.out
  ·
   have hnb : decide (n < 0) = false := decide_eq_false hn
   obtain rfl : false = B := hnb.symm.trans hd
   clear hB hd hn
   go_enter Tryd.func92, Tryd.ntmps92
   go_wp2_with fail
   refine (HC.out _ HWB.out.1).mono ?_
   rintro e w2 ⟨rfl, P', hW', hA'⟩
   have HW' := Aside0.mk hW'
   have HA' := Aside0.mk (HWB.out.2.trans hA')
   clear hW' hA'
   go_wp2
   go_end0
   refine ⟨rfl, P', ?_, HA'.out⟩
   rw [HD.out]
   exact HW'.out
set_option maxHeartbeats 8000000 in
set_option maxRecDepth 100000 in
theorem writer_label.calls (q : Nat) (xs : List Int) (β : Bool) (n : Int) (hn : okU n) (w0 : World) (P : Nat → Prop) (w : World) (h : Wr w0 P w q xs β) :
  Calls Tryd.prog 53 #[.pointer (some ⟨q, 0, none⟩), .int .u64 n] w fun e w' => e = .returned (.tuple #[]) ∧ ∃ P', Wr w0 P' w' q (emit1 xs (cNum n)) (β) ∧ Adv q P w P' w' := by
 have HC := Aside0.mk (writer_number.calls q xs β n hn w0 P w h)
 have HE := Aside0.mk (cNum_small hn)
 clear h hn
 go_enter Tryd.func53, Tryd.ntmps53
 go_wp2_with fail
 refine HC.out.mono ?_
 rintro e w2 ⟨rfl, P', hW', hA'⟩
 have HW' := Aside0.mk hW'
 have HA' := Aside0.mk hA'
 clear hW' hA'
 go_wp2
 go_end0
 refine ⟨rfl, P', ?_, HA'.out⟩
 rw [HE.out]
 exact HW'.out
theorem code_PutN.calls (i : S44) (ha : -9223372036854775808 ≤ i.f1 ∧ i.f1 ≤ 9223372036854775807) (w : World) (ht : Lib.TabIs Tryd.prog w "strings.asciiSpace" .u8 Lib.asciiSpaceTab) :
  Calls Tryd.prog 21 #[.agg #[.int .i64 i.f0, .int .i64 i.f1]] w fun e w' => ∃ v, e = .returned v ∧ Clipped w' w.heap.size v (cInstr i) ∧ Below w.heap.size w w' := by
 unfold cInstr
 by_cases hm : mayOf i.f0 i.f1 = true
 ·
  rw [if_pos hm]
  obtain ⟨h0, h1, h2, h3⟩ := put_is_k 100 i.f0 i.f1 ha hm (Nat.le_refl _)
  exact code_Put.callsC 100 i.f0 i.f1 _ w ht h0 h1 h2 h3
 ·
  rw [if_neg hm]
  exact code_Put.callsC 100 i.f0 i.f1 _ w ht (fun _ => rfl) (fun h => absurd h hm) (fun h => absurd h hm) (fun h => absurd h hm)
theorem cInstr_len (i : S44) (ha : -9223372036854775808 ≤ i.f1 ∧ i.f1 ≤ 9223372036854775807) : (cInstr i).length ≤ 100 := by
 unfold cInstr
 split
 ·
  exact put_len _ _ ha
 ·
  simp
set_option maxHeartbeats 16000000 in
set_option maxRecDepth 100000 in
theorem writer_instr.calls (q : Nat) (xs : List Int) (β : Bool) (i : S44) (ha : -9223372036854775808 ≤ i.f1 ∧ i.f1 ≤ 9223372036854775807) (w0 : World) (ht : Lib.TabIs Tryd.prog w0 "strings.asciiSpace" .u8 Lib.asciiSpaceTab) (P : Nat → Prop) (w : World) (h : Wr w0 P w q xs β) :
  Calls Tryd.prog 95 #[.pointer (some ⟨q, 0, none⟩), .agg #[.int .i64 i.f0, .int .i64 i.f1]] w fun e w' => e = .returned (.tuple #[]) ∧ ∃ P', Wr w0 P' w' q (emit1 xs (cInstr i)) (β || badI i) ∧ Adv q P w P' w' := by
 have HA := Aside0.mk ha
 have HT := Aside0.mk ht
 have hbA := below_alloc (Below.refl w.heap.size w) (.cells #[.int .i64 i.f0, .int .i64 i.f1] 44)
 have HBA := Aside0.mk hbA
 have HNB := Aside0.mk (show w.heap.size ≠ q ∧ ¬ P w.heap.size from ⟨by have := h.qlt; omega, fun hp => by have := (h.lo _ hp).2.1; omega⟩)
 have HG1 := Aside0.mk (heap_alloc_new w (.cells #[.int .i64 i.f0, .int .i64 i.f1] 44))
 have HW1 := Aside0.mk (h.step hbA)
 obtain ⟨v, hq, hR⟩ := HW1.out.st
 obtain ⟨A, c, rfl⟩ := hR.slice
 obtain ⟨q0, q1, z0, z1⟩ := wrF hq
 have HQ1 := Aside0.mk hq
 have HR1 := Aside0.mk hR
 have HCL := Aside0.mk (cInstr_len i ha)
 clear h hq hR ha ht hbA
 obtain ⟨b0, b1⟩ := cell_at2 HG1.out
 cases β with
 | true =>
  have hbadeq : (true || badI i) = true := rfl
  have HBE := Aside0.mk hbadeq
  clear hbadeq
  obtain ⟨hWs, hAs⟩ := HW1.out.bad true
  have hq2 := blk_put HQ1.out 1 (.bool true) rfl
  have hR2 := HR1.out.far (fun k hk => (HW1.out.lo k hk).2.2) 1 (.bool true)
  have hG2 := blk_far (p := ⟨q, 1, none⟩) HG1.out HNB.out.1 (.bool true)
  obtain ⟨w2, hw2⟩ : ∃ W, (w.alloc (.cells #[.int .i64 i.f0, .int .i64 i.f1] 44)).setCell ⟨q, 1, none⟩ (.bool true) = W := ⟨_, rfl⟩
  have HWS := Aside0.mk hWs
  have HAS := Aside0.mk hAs
  have HQS := Aside0.mk hq2
  have HRS := Aside0.mk hR2
  have HGS := Aside0.mk hG2
  have HW2 := Aside0.mk hw2
  clear hWs hAs hq2 hR2 hG2 hw2
  try clear q0 q1 z0 z1 b0 b1
  obtain ⟨q0, q1, z0, z1⟩ := wrF HQS.out
  obtain ⟨b0, b1⟩ := cell_at2 HGS.out
  go_enter Tryd.func95, Tryd.ntmps95
  obtain ⟨q0, q1, z0, z1⟩ := wrF HQ1.out
  obtain ⟨b0, b1⟩ := cell_at2 HG1.out
  by_cases hl : xs.length ≤ 262144
  ·
   have hlb : decide ((xs.length : Int) ≤ 262144) = true := decide_eq_true (by omega)
   have HL := Aside0.mk hl
   clear hl
   go_wp2_with fail
   rw [HW2.out] at HWS HAS HQS HRS HGS ⊢
   have HW := HWS
   have HQ := HQS
   have HR := HRS
   try clear q0 q1 z0 z1 b0 b1
   obtain ⟨q0, q1, z0, z1⟩ := wrF HQ.out
   obtain ⟨b0, b1⟩ := cell_at2 HGS.out
   refine start_ (n := 11) (S := fun w' => w'.cell? ⟨q, 0, none⟩ = some (.slice A xs.length c) ∧ w'.cell? ⟨w.heap.size, 0, none⟩ = some (.int .i64 i.f0) ∧ w'.cell? ⟨w.heap.size, 1, none⟩ = some (.int .i64 i.f1)) (ds := [10]) #[false, false, false, false, false, false, false, false, false, false, false] (by kernel_rfl) rfl rfl ⟨q0, b0, b1⟩ (fun hHeld => ?_)
   refine pure_ (i := 0) (N := some 22) (v := ?_) (a' := ?_) #[true, false, false, false, false, false, false, false, false, false, false] rfl rfl (by kernel_rfl) (fun _ _ _ h => h) (Or.inl ⟨by rfl, ?_⟩) ?_ ?_
   rotate_left
   ·
    intro w'
    go_simp
    with_reducible rfl
   rotate_left
   ·
    simp only [Act.put, List.setIfInBounds_toArray, List.set_cons_zero, List.set_cons_succ, i64_w, i32_w]
    rfl
   refine pure_ (i := 1) (N := some 23) (v := ?_) (a' := ?_) #[true, true, false, false, false, false, false, false, false, false, false] rfl rfl (by kernel_rfl) (fun _ _ _ h => h) (Or.inl ⟨by rfl, ?_⟩) ?_ ?_
   rotate_left
   ·
    intro w'
    go_simp
    with_reducible rfl
   rotate_left
   ·
    simp only [Act.put, List.setIfInBounds_toArray, List.set_cons_zero, List.set_cons_succ, i64_w, i32_w]
    rfl
   refine pure_ (i := 2) (N := some 24) (v := ?_) (a' := ?_) #[true, true, true, false, false, false, false, false, false, false, false] rfl rfl (by kernel_rfl) (fun _ _ _ h => h) (Or.inl ⟨by rfl, ?_⟩) ?_ ?_
   rotate_left
   ·
    intro w'
    go_simp
    with_reducible rfl
   rotate_left
   ·
    simp only [Act.put, List.setIfInBounds_toArray, List.set_cons_zero, List.set_cons_succ, i64_w, i32_w]
    rfl
   refine pure_ (i := 3) (N := some 25) (v := ?_) (a' := ?_) #[true, true, true, true, false, false, false, false, false, false, false] rfl rfl (by kernel_rfl) (fun _ _ _ h => h) (Or.inl ⟨by rfl, ?_⟩) ?_ ?_
   rotate_left
   ·
    intro w'
    go_simp
    with_reducible rfl
   rotate_left
   ·
    simp only [Act.put, List.setIfInBounds_toArray, List.set_cons_zero, List.set_cons_succ, i64_w, i32_w]
    rfl
   refine take_ (i := 4) (N := some 26) (v := ?_) (a' := ?_) #[true, true, true, true, true, false, false, false, false, false, false] rfl rfl (by kernel_rfl) (fun _ _ _ h => h) (Or.inl ⟨by rfl, ?_⟩) hHeld ?_ ?_
   rotate_left
   ·
    rintro w' ⟨s0, s1, s2⟩
    go_simp
    with_reducible rfl
   rotate_left
   ·
    simp only [Act.put, List.setIfInBounds_toArray, List.set_cons_zero, List.set_cons_succ, i64_w, i32_w]
    rfl
   refine take_ (i := 5) (N := some 27) (v := ?_) (a' := ?_) #[true, true, true, true, true, true, false, false, false, false, false] rfl rfl (by kernel_rfl) (fun _ _ _ h => h) (Or.inl ⟨by rfl, ?_⟩) hHeld ?_ ?_
   rotate_left
   ·
    rintro w' ⟨s0, s1, s2⟩
    go_simp
    with_reducible rfl
   rotate_left
   ·
    simp only [Act.put, List.setIfInBounds_toArray, List.set_cons_zero, List.set_cons_succ, i64_w, i32_w]
    rfl
   refine one_ (i := 6) (N := some 28) #[true, true, true, true, true, true, true, false, false, false, false] rfl rfl (by kernel_rfl) (by decide) (fun K hK => ?_)
   refine goes_ Tryd.func21 (by kernel_rfl) rfl #[.agg #[.int .i64 i.f0, .int .i64 i.f1]] (by rfl) rfl rfl (by simp only [List.map_toArray, List.map_cons, List.map_nil]; rfl) ?_
   with_reducible refine (code_PutN.calls i HA.out _ (tab_below HT.out (below_step HW.out.below (below_drew1 (Below.refl _ _))))).mono ?_
   rintro e w3 ⟨v3, rfl, hC3, hb3⟩
   refine ⟨_, rfl, ?_⟩
   replace hb3 : Below w2.heap.size w2 w3 := ⟨hb3.os, hb3.tape, hb3.output, hb3.size, hb3.block⟩
   obtain ⟨A3, rfl, hD3⟩ := hC3.reads
   have hQ3 := blk_below HQ.out hb3
   have hG3 := blk_below HGS.out hb3
   refine hK.out _ _ ⟨(pw_cell_below hb3 hHeld.1), (pw_cell_below hb3 hHeld.2.1), (pw_cell_below hb3 hHeld.2.2)⟩ (fun hHeld => ?_)
   clear hK K
   refine norm_ (a' := ?_) ?_ ?_
   rotate_left
   ·
    show Act.put _ (some 28) _ = _
    simp only [Act.put, List.setIfInBounds_toArray, List.set_cons_zero, List.set_cons_succ, i64_w, i32_w]
    rfl
   refine one_ (i := 7) (N := some 29) #[true, true, true, true, true, true, true, true, false, false, false] rfl rfl (by kernel_rfl) (by decide) (fun K hK => ?_)
   refine rowSt_append_step rfl (.tmp 26) (.tmp 28) rfl A c xs (cInstr i) A3 _ rfl rfl (HR.out.below hb3) hD3 (by have := HL.out; have := HCL.out; omega) ?_
   intro v4 w4 row hR4 hg4 hrow
   obtain ⟨A4, c4, rfl⟩ := hR4.slice
   have hne : some q ≠ row := fun e => (HW.out.lo q (hrow q e.symm)).2.2 rfl
   have hQ4 := blk_grown hQ3 hg4 hne
   have z4 := blk_frozen hQ4 0
   have hG4 := blk_grown hG3 hg4 (fun e => HNB.out.2 (hrow _ e.symm))
   refine hK.out _ _ ⟨(blk_cell hQ4 0), (blk_cell hG4 0), (blk_cell hG4 1)⟩ (fun hHeld => ?_)
   clear hK K
   refine norm_ (a' := ?_) ?_ ?_
   rotate_left
   ·
    show Act.put _ (some 29) _ = _
    simp only [Act.put, List.setIfInBounds_toArray, List.set_cons_zero, List.set_cons_succ, i64_w, i32_w]
    rfl
   refine pure_ (i := 8) (N := some 30) (v := ?_) (a' := ?_) #[true, true, true, true, true, true, true, true, true, false, false] rfl rfl (by kernel_rfl) (fun _ _ _ h => h) (Or.inl ⟨by rfl, ?_⟩) ?_ ?_
   rotate_left
   ·
    intro w'
    go_simp
    with_reducible rfl
   rotate_left
   ·
    simp only [Act.put, List.setIfInBounds_toArray, List.set_cons_zero, List.set_cons_succ, i64_w, i32_w]
    rfl
   refine pure_ (i := 9) (N := some 31) (v := ?_) (a' := ?_) #[true, true, true, true, true, true, true, true, true, true, false] rfl rfl (by kernel_rfl) (fun _ _ _ h => h) (Or.inl ⟨by rfl, ?_⟩) ?_ ?_
   rotate_left
   ·
    intro w'
    go_simp
    with_reducible rfl
   rotate_left
   ·
    simp only [Act.put, List.setIfInBounds_toArray, List.set_cons_zero, List.set_cons_succ, i64_w, i32_w]
    rfl
   refine last_ (i := 10) (N := none) #[true, true, true, true, true, true, true, true, true, true, true] rfl rfl (by kernel_rfl) (by decide) (fun K hK => ?_)
   refine skip_ (w1 := ?_) (by rfl) rfl ?_ ?_
   rotate_left
   ·
    go_simp
    rfl
   refine hK.out _ _ ?_
   clear hK K
   refine done_ (by kernel_rfl) ?_
   obtain ⟨P', hW', hA'⟩ := wr_append HW.out hb3 hQ4 hR4 hg4 hrow
   rw [List.length_append] at hW' hA'
   have HWF := Aside0.mk hW'
   have HAF := Aside0.mk ((((Adv.refl q P w).below HBA.out).trans HAS.out).trans hA')
   clear hW' hA'
   go_wp2
   go_end0
   refine ⟨rfl, P', ?_, HAF.out⟩
   rw [show emit1 xs (cInstr i) = xs ++ cInstr i from if_pos HL.out, HBE.out]
   exact HWF.out
  ·
   have hlb : decide ((xs.length : Int) ≤ 262144) = false := decide_eq_false (by omega)
   have HL := Aside0.mk hl
   clear hl
   go_wp2
   go_end0
   rw [HW2.out] at HWS HAS ⊢
   refine ⟨rfl, P, ?_, (((Adv.refl q P w).below HBA.out).trans HAS.out)⟩
   rw [show emit1 xs (cInstr i) = xs from if_neg HL.out, HBE.out]
   exact HWS.out
 | false =>
  go_enter Tryd.func95, Tryd.ntmps95
  go_wp2_with fail
  refine (code_May.calls i.f0 i.f1 _ (tab_below HT.out HW1.out.below)).mono ?_
  rintro e w1 ⟨rfl, hb⟩
  clear q0 q1 z0 z1 b0 b1
  replace HW1 := Aside0.mk (HW1.out.step hb)
  replace HQ1 := Aside0.mk (blk_below HQ1.out hb)
  replace HR1 := Aside0.mk (HR1.out.below hb)
  replace HG1 := Aside0.mk (blk_below HG1.out hb)
  have HBB := Aside0.mk (below_step HBA.out hb)
  clear hb
  have HBE := Aside0.mk (show (false || badI i) = !mayOf i.f0 i.f1 from rfl)
  obtain ⟨mb, hmb⟩ : ∃ m, mayOf i.f0 i.f1 = m := ⟨_, rfl⟩
  rw [hmb] at HBE ⊢
  clear hmb
  cases mb with
  | true =>
   have HBF := Aside0.mk (show (false || badI i) = false from HBE.out)
   clear HBE
   obtain ⟨q0, q1, z0, z1⟩ := wrF HQ1.out
   obtain ⟨b0, b1⟩ := cell_at2 HG1.out
   obtain ⟨hWs, hAs⟩ := HW1.out.bad false
   have hq2 := blk_put HQ1.out 1 (.bool false) rfl
   have hR2 := HR1.out.far (fun k hk => (HW1.out.lo k hk).2.2) 1 (.bool false)
   have hG2 := blk_far (p := ⟨q, 1, none⟩) HG1.out HNB.out.1 (.bool false)
   obtain ⟨w2, hw2⟩ : ∃ W, w1.setCell ⟨q, 1, none⟩ (.bool false) = W := ⟨_, rfl⟩
   have HWS := Aside0.mk hWs
   have HAS := Aside0.mk hAs
   have HQS := Aside0.mk hq2
   have HRS := Aside0.mk hR2
   have HGS := Aside0.mk hG2
   have HW2 := Aside0.mk hw2
   clear hWs hAs hq2 hR2 hG2 hw2
   try clear q0 q1 z0 z1 b0 b1
   obtain ⟨q0, q1, z0, z1⟩ := wrF HQS.out
   obtain ⟨b0, b1⟩ := cell_at2 HGS.out
   clear q0 q1 z0 z1 b0 b1
   obtain ⟨q0, q1, z0, z1⟩ := wrF HQ1.out
   obtain ⟨b0, b1⟩ := cell_at2 HG1.out
   by_cases hl : xs.length ≤ 262144
   ·
    have hlb : decide ((xs.length : Int) ≤ 262144) = true := decide_eq_true (by omega)
    have HL := Aside0.mk hl
    clear hl
    go_wp2_with fail
    rw [HW2.out] at HWS HAS HQS HRS HGS ⊢
    have HW := HWS
    have HQ := HQS
    have HR := HRS
    try clear q0 q1 z0 z1 b0 b1
    obtain ⟨q0, q1, z0, z1⟩ := wrF HQ.out
    obtain ⟨b0, b1⟩ := cell_at2 HGS.out
    refine start_ (n := 11) (S := fun w' => w'.cell? ⟨q, 0, none⟩ = some (.slice A xs.length c) ∧ w'.cell? ⟨w.heap.size, 0, none⟩ = some (.int .i64 i.f0) ∧ w'.cell? ⟨w.heap.size, 1, none⟩ = some (.int .i64 i.f1)) (ds := [10]) #[false, false, false, false, false, false, false, false, false, false, false] (by kernel_rfl) rfl rfl ⟨q0, b0, b1⟩ (fun hHeld => ?_)
    refine pure_ (i := 0) (N := some 22) (v := ?_) (a' := ?_) #[true, false, false, false, false, false, false, false, false, false, false] rfl rfl (by kernel_rfl) (fun _ _ _ h => h) (Or.inl ⟨by rfl, ?_⟩) ?_ ?_
    rotate_left
    ·
     intro w'
     go_simp
     with_reducible rfl
    rotate_left
    ·
     simp only [Act.put, List.setIfInBounds_toArray, List.set_cons_zero, List.set_cons_succ, i64_w, i32_w]
     rfl
    refine pure_ (i := 1) (N := some 23) (v := ?_) (a' := ?_) #[true, true, false, false, false, false, false, false, false, false, false] rfl rfl (by kernel_rfl) (fun _ _ _ h => h) (Or.inl ⟨by rfl, ?_⟩) ?_ ?_
    rotate_left
    ·
     intro w'
     go_simp
     with_reducible rfl
    rotate_left
    ·
     simp only [Act.put, List.setIfInBounds_toArray, List.set_cons_zero, List.set_cons_succ, i64_w, i32_w]
     rfl
    refine pure_ (i := 2) (N := some 24) (v := ?_) (a' := ?_) #[true, true, true, false, false, false, false, false, false, false, false] rfl rfl (by kernel_rfl) (fun _ _ _ h => h) (Or.inl ⟨by rfl, ?_⟩) ?_ ?_
    rotate_left
    ·
     intro w'
     go_simp
     with_reducible rfl
    rotate_left
    ·
     simp only [Act.put, List.setIfInBounds_toArray, List.set_cons_zero, List.set_cons_succ, i64_w, i32_w]
     rfl
    refine pure_ (i := 3) (N := some 25) (v := ?_) (a' := ?_) #[true, true, true, true, false, false, false, false, false, false, false] rfl rfl (by kernel_rfl) (fun _ _ _ h => h) (Or.inl ⟨by rfl, ?_⟩) ?_ ?_
    rotate_left
    ·
     intro w'
     go_simp
     with_reducible rfl
    rotate_left
    ·
     simp only [Act.put, List.setIfInBounds_toArray, List.set_cons_zero, List.set_cons_succ, i64_w, i32_w]
     rfl
    refine take_ (i := 4) (N := some 26) (v := ?_) (a' := ?_) #[true, true, true, true, true, false, false, false, false, false, false] rfl rfl (by kernel_rfl) (fun _ _ _ h => h) (Or.inl ⟨by rfl, ?_⟩) hHeld ?_ ?_
    rotate_left
    ·
     rintro w' ⟨s0, s1, s2⟩
     go_simp
     with_reducible rfl
    rotate_left
    ·
     simp only [Act.put, List.setIfInBounds_toArray, List.set_cons_zero, List.set_cons_succ, i64_w, i32_w]
     rfl
    refine take_ (i := 5) (N := some 27) (v := ?_) (a' := ?_) #[true, true, true, true, true, true, false, false, false, false, false] rfl rfl (by kernel_rfl) (fun _ _ _ h => h) (Or.inl ⟨by rfl, ?_⟩) hHeld ?_ ?_
    rotate_left
    ·
     rintro w' ⟨s0, s1, s2⟩
     go_simp
     with_reducible rfl
    rotate_left
    ·
     simp only [Act.put, List.setIfInBounds_toArray, List.set_cons_zero, List.set_cons_succ, i64_w, i32_w]
     rfl
    refine one_ (i := 6) (N := some 28) #[true, true, true, true, true, true, true, false, false, false, false] rfl rfl (by kernel_rfl) (by decide) (fun K hK => ?_)
    refine goes_ Tryd.func21 (by kernel_rfl) rfl #[.agg #[.int .i64 i.f0, .int .i64 i.f1]] (by rfl) rfl rfl (by simp only [List.map_toArray, List.map_cons, List.map_nil]; rfl) ?_
    with_reducible refine (code_PutN.calls i HA.out _ (tab_below HT.out (below_step HW.out.below (below_drew1 (Below.refl _ _))))).mono ?_
    rintro e w3 ⟨v3, rfl, hC3, hb3⟩
    refine ⟨_, rfl, ?_⟩
    replace hb3 : Below w2.heap.size w2 w3 := ⟨hb3.os, hb3.tape, hb3.output, hb3.size, hb3.block⟩
    obtain ⟨A3, rfl, hD3⟩ := hC3.reads
    have hQ3 := blk_below HQ.out hb3
    have hG3 := blk_below HGS.out hb3
    refine hK.out _ _ ⟨(pw_cell_below hb3 hHeld.1), (pw_cell_below hb3 hHeld.2.1), (pw_cell_below hb3 hHeld.2.2)⟩ (fun hHeld => ?_)
    clear hK K
    refine norm_ (a' := ?_) ?_ ?_
    rotate_left
    ·
     show Act.put _ (some 28) _ = _
     simp only [Act.put, List.setIfInBounds_toArray, List.set_cons_zero, List.set_cons_succ, i64_w, i32_w]
     rfl
    refine one_ (i := 7) (N := some 29) #[true, true, true, true, true, true, true, true, false, false, false] rfl rfl (by kernel_rfl) (by decide) (fun K hK => ?_)
    refine rowSt_append_step rfl (.tmp 26) (.tmp 28) rfl A c xs (cInstr i) A3 _ rfl rfl (HR.out.below hb3) hD3 (by have := HL.out; have := HCL.out; omega) ?_
    intro v4 w4 row hR4 hg4 hrow
    obtain ⟨A4, c4, rfl⟩ := hR4.slice
    have hne : some q ≠ row := fun e => (HW.out.lo q (hrow q e.symm)).2.2 rfl
    have hQ4 := blk_grown hQ3 hg4 hne
    have z4 := blk_frozen hQ4 0
    have hG4 := blk_grown hG3 hg4 (fun e => HNB.out.2 (hrow _ e.symm))
    refine hK.out _ _ ⟨(blk_cell hQ4 0), (blk_cell hG4 0), (blk_cell hG4 1)⟩ (fun hHeld => ?_)
    clear hK K
    refine norm_ (a' := ?_) ?_ ?_
    rotate_left
    ·
     show Act.put _ (some 29) _ = _
     simp only [Act.put, List.setIfInBounds_toArray, List.set_cons_zero, List.set_cons_succ, i64_w, i32_w]
     rfl
    refine pure_ (i := 8) (N := some 30) (v := ?_) (a' := ?_) #[true, true, true, true, true, true, true, true, true, false, false] rfl rfl (by kernel_rfl) (fun _ _ _ h => h) (Or.inl ⟨by rfl, ?_⟩) ?_ ?_
    rotate_left
    ·
     intro w'
     go_simp
     with_reducible rfl
    rotate_left
    ·
     simp only [Act.put, List.setIfInBounds_toArray, List.set_cons_zero, List.set_cons_succ, i64_w, i32_w]
     rfl
    refine pure_ (i := 9) (N := some 31) (v := ?_) (a' := ?_) #[true, true, true, true, true, true, true, true, true, true, false] rfl rfl (by kernel_rfl) (fun _ _ _ h => h) (Or.inl ⟨by rfl, ?_⟩) ?_ ?_
    rotate_left
    ·
     intro w'
     go_simp
     with_reducible rfl
    rotate_left
    ·
     simp only [Act.put, List.setIfInBounds_toArray, List.set_cons_zero, List.set_cons_succ, i64_w, i32_w]
     rfl
    refine last_ (i := 10) (N := none) #[true, true, true, true, true, true, true, true, true, true, true] rfl rfl (by kernel_rfl) (by decide) (fun K hK => ?_)
    refine skip_ (w1 := ?_) (by rfl) rfl ?_ ?_
    rotate_left
    ·
     go_simp
     rfl
    refine hK.out _ _ ?_
    clear hK K
    refine done_ (by kernel_rfl) ?_
    obtain ⟨P', hW', hA'⟩ := wr_append HW.out hb3 hQ4 hR4 hg4 hrow
    rw [List.length_append] at hW' hA'
    have HWF := Aside0.mk hW'
    have HAF := Aside0.mk ((((Adv.refl q P w).below HBB.out).trans HAS.out).trans hA')
    clear hW' hA'
    go_wp2
    go_end0
    refine ⟨rfl, P', ?_, HAF.out⟩
    rw [show emit1 xs (cInstr i) = xs ++ cInstr i from if_pos HL.out, HBF.out]
    exact HWF.out
   ·
    have hlb : decide ((xs.length : Int) ≤ 262144) = false := decide_eq_false (by omega)
    have HL := Aside0.mk hl
    clear hl
    go_wp2
    go_end0
    rw [HW2.out] at HWS HAS ⊢
    refine ⟨rfl, P, ?_, (((Adv.refl q P w).below HBB.out).trans HAS.out)⟩
    rw [show emit1 xs (cInstr i) = xs from if_neg HL.out, HBF.out]
    exact HWS.out
  | false =>
   have HBF := Aside0.mk (show (false || badI i) = true from HBE.out)
   clear HBE
   obtain ⟨q0, q1, z0, z1⟩ := wrF HQ1.out
   obtain ⟨b0, b1⟩ := cell_at2 HG1.out
   obtain ⟨hWs, hAs⟩ := HW1.out.bad true
   have hq2 := blk_put HQ1.out 1 (.bool true) rfl
   have hR2 := HR1.out.far (fun k hk => (HW1.out.lo k hk).2.2) 1 (.bool true)
   have hG2 := blk_far (p := ⟨q, 1, none⟩) HG1.out HNB.out.1 (.bool true)
   obtain ⟨w2, hw2⟩ : ∃ W, w1.setCell ⟨q, 1, none⟩ (.bool true) = W := ⟨_, rfl⟩
   have HWS := Aside0.mk hWs
   have HAS := Aside0.mk hAs
   have HQS := Aside0.mk hq2
   have HRS := Aside0.mk hR2
   have HGS := Aside0.mk hG2
   have HW2 := Aside0.mk hw2
   clear hWs hAs hq2 hR2 hG2 hw2
   try clear q0 q1 z0 z1 b0 b1
   obtain ⟨q0, q1, z0, z1⟩ := wrF HQS.out
   obtain ⟨b0, b1⟩ := cell_at2 HGS.out
   clear q0 q1 z0 z1 b0 b1
   obtain ⟨q0, q1, z0, z1⟩ := wrF HQ1.out
   obtain ⟨b0, b1⟩ := cell_at2 HG1.out
   by_cases hl : xs.length ≤ 262144
   ·
    have hlb : decide ((xs.length : Int) ≤ 262144) = true := decide_eq_true (by omega)
    have HL := Aside0.mk hl
    clear hl
    go_wp2_with fail
    rw [HW2.out] at HWS HAS HQS HRS HGS ⊢
    have HW := HWS
    have HQ := HQS
    have HR := HRS
    try clear q0 q1 z0 z1 b0 b1
    obtain ⟨q0, q1, z0, z1⟩ := wrF HQ.out
    obtain ⟨b0, b1⟩ := cell_at2 HGS.out
    refine start_ (n := 11) (S := fun w' => w'.cell? ⟨q, 0, none⟩ = some (.slice A xs.length c) ∧ w'.cell? ⟨w.heap.size, 0, none⟩ = some (.int .i64 i.f0) ∧ w'.cell? ⟨w.heap.size, 1, none⟩ = some (.int .i64 i.f1)) (ds := [10]) #[false, false, false, false, false, false, false, false, false, false, false] (by kernel_rfl) rfl rfl ⟨q0, b0, b1⟩ (fun hHeld => ?_)
    refine pure_ (i := 0) (N := some 22) (v := ?_) (a' := ?_) #[true, false, false, false, false, false, false, false, false, false, false] rfl rfl (by kernel_rfl) (fun _ _ _ h => h) (Or.inl ⟨by rfl, ?_⟩) ?_ ?_
    rotate_left
    ·
     intro w'
     go_simp
     with_reducible rfl
    rotate_left
    ·
     simp only [Act.put, List.setIfInBounds_toArray, List.set_cons_zero, List.set_cons_succ, i64_w, i32_w]
     rfl
    refine pure_ (i := 1) (N := some 23) (v := ?_) (a' := ?_) #[true, true, false, false, false, false, false, false, false, false, false] rfl rfl (by kernel_rfl) (fun _ _ _ h => h) (Or.inl ⟨by rfl, ?_⟩) ?_ ?_
    rotate_left
    ·
     intro w'
     go_simp
     with_reducible rfl
    rotate_left
    ·
     simp only [Act.put, List.setIfInBounds_toArray, List.set_cons_zero, List.set_cons_succ, i64_w, i32_w]
     rfl
    refine pure_ (i := 2) (N := some 24) (v := ?_) (a' := ?_) #[true, true, true, false, false, false, false, false, false, false, false] rfl rfl (by kernel_rfl) (fun _ _ _ h => h) (Or.inl ⟨by rfl, ?_⟩) ?_ ?_
    rotate_left
    ·
     intro w'
     go_simp
     with_reducible rfl
    rotate_left
    ·
     simp only [Act.put, List.setIfInBounds_toArray, List.set_cons_zero, List.set_cons_succ, i64_w, i32_w]
     rfl
    refine pure_ (i := 3) (N := some 25) (v := ?_) (a' := ?_) #[true, true, true, true, false, false, false, false, false, false, false] rfl rfl (by kernel_rfl) (fun _ _ _ h => h) (Or.inl ⟨by rfl, ?_⟩) ?_ ?_
    rotate_left
    ·
     intro w'
     go_simp
     with_reducible rfl
    rotate_left
    ·
     simp only [Act.put, List.setIfInBounds_toArray, List.set_cons_zero, List.set_cons_succ, i64_w, i32_w]
     rfl
    refine take_ (i := 4) (N := some 26) (v := ?_) (a' := ?_) #[true, true, true, true, true, false, false, false, false, false, false] rfl rfl (by kernel_rfl) (fun _ _ _ h => h) (Or.inl ⟨by rfl, ?_⟩) hHeld ?_ ?_
    rotate_left
    ·
     rintro w' ⟨s0, s1, s2⟩
     go_simp
     with_reducible rfl
    rotate_left
    ·
     simp only [Act.put, List.setIfInBounds_toArray, List.set_cons_zero, List.set_cons_succ, i64_w, i32_w]
     rfl
    refine take_ (i := 5) (N := some 27) (v := ?_) (a' := ?_) #[true, true, true, true, true, true, false, false, false, false, false] rfl rfl (by kernel_rfl) (fun _ _ _ h => h) (Or.inl ⟨by rfl, ?_⟩) hHeld ?_ ?_
    rotate_left
    ·
     rintro w' ⟨s0, s1, s2⟩
     go_simp
     with_reducible rfl
    rotate_left
    ·
     simp only [Act.put, List.setIfInBounds_toArray, List.set_cons_zero, List.set_cons_succ, i64_w, i32_w]
     rfl
    refine one_ (i := 6) (N := some 28) #[true, true, true, true, true, true, true, false, false, false, false] rfl rfl (by kernel_rfl) (by decide) (fun K hK => ?_)
    refine goes_ Tryd.func21 (by kernel_rfl) rfl #[.agg #[.int .i64 i.f0, .int .i64 i.f1]] (by rfl) rfl rfl (by simp only [List.map_toArray, List.map_cons, List.map_nil]; rfl) ?_
    with_reducible refine (code_PutN.calls i HA.out _ (tab_below HT.out (below_step HW.out.below (below_drew1 (Below.refl _ _))))).mono ?_
    rintro e w3 ⟨v3, rfl, hC3, hb3⟩
    refine ⟨_, rfl, ?_⟩
    replace hb3 : Below w2.heap.size w2 w3 := ⟨hb3.os, hb3.tape, hb3.output, hb3.size, hb3.block⟩
    obtain ⟨A3, rfl, hD3⟩ := hC3.reads
    have hQ3 := blk_below HQ.out hb3
    have hG3 := blk_below HGS.out hb3
    refine hK.out _ _ ⟨(pw_cell_below hb3 hHeld.1), (pw_cell_below hb3 hHeld.2.1), (pw_cell_below hb3 hHeld.2.2)⟩ (fun hHeld => ?_)
    clear hK K
    refine norm_ (a' := ?_) ?_ ?_
    rotate_left
    ·
     show Act.put _ (some 28) _ = _
     simp only [Act.put, List.setIfInBounds_toArray, List.set_cons_zero, List.set_cons_succ, i64_w, i32_w]
     rfl
    refine one_ (i := 7) (N := some 29) #[true, true, true, true, true, true, true, true, false, false, false] rfl rfl (by kernel_rfl) (by decide) (fun K hK => ?_)
    refine rowSt_append_step rfl (.tmp 26) (.tmp 28) rfl A c xs (cInstr i) A3 _ rfl rfl (HR.out.below hb3) hD3 (by have := HL.out; have := HCL.out; omega) ?_
    intro v4 w4 row hR4 hg4 hrow
    obtain ⟨A4, c4, rfl⟩ := hR4.slice
    have hne : some q ≠ row := fun e => (HW.out.lo q (hrow q e.symm)).2.2 rfl
    have hQ4 := blk_grown hQ3 hg4 hne
    have z4 := blk_frozen hQ4 0
    have hG4 := blk_grown hG3 hg4 (fun e => HNB.out.2 (hrow _ e.symm))
    refine hK.out _ _ ⟨(blk_cell hQ4 0), (blk_cell hG4 0), (blk_cell hG4 1)⟩ (fun hHeld => ?_)
    clear hK K
    refine norm_ (a' := ?_) ?_ ?_
    rotate_left
    ·
     show Act.put _ (some 29) _ = _
     simp only [Act.put, List.setIfInBounds_toArray, List.set_cons_zero, List.set_cons_succ, i64_w, i32_w]
     rfl
    refine pure_ (i := 8) (N := some 30) (v := ?_) (a' := ?_) #[true, true, true, true, true, true, true, true, true, false, false] rfl rfl (by kernel_rfl) (fun _ _ _ h => h) (Or.inl ⟨by rfl, ?_⟩) ?_ ?_
    rotate_left
    ·
     intro w'
     go_simp
     with_reducible rfl
    rotate_left
    ·
     simp only [Act.put, List.setIfInBounds_toArray, List.set_cons_zero, List.set_cons_succ, i64_w, i32_w]
     rfl
    refine pure_ (i := 9) (N := some 31) (v := ?_) (a' := ?_) #[true, true, true, true, true, true, true, true, true, true, false] rfl rfl (by kernel_rfl) (fun _ _ _ h => h) (Or.inl ⟨by rfl, ?_⟩) ?_ ?_
    rotate_left
    ·
     intro w'
     go_simp
     with_reducible rfl
    rotate_left
    ·
     simp only [Act.put, List.setIfInBounds_toArray, List.set_cons_zero, List.set_cons_succ, i64_w, i32_w]
     rfl
    refine last_ (i := 10) (N := none) #[true, true, true, true, true, true, true, true, true, true, true] rfl rfl (by kernel_rfl) (by decide) (fun K hK => ?_)
    refine skip_ (w1 := ?_) (by rfl) rfl ?_ ?_
    rotate_left
    ·
     go_simp
     rfl
    refine hK.out _ _ ?_
    clear hK K
    refine done_ (by kernel_rfl) ?_
    obtain ⟨P', hW', hA'⟩ := wr_append HW.out hb3 hQ4 hR4 hg4 hrow
    rw [List.length_append] at hW' hA'
    have HWF := Aside0.mk hW'
    have HAF := Aside0.mk ((((Adv.refl q P w).below HBB.out).trans HAS.out).trans hA')
    clear hW' hA'
    go_wp2
    go_end0
    refine ⟨rfl, P', ?_, HAF.out⟩
    rw [show emit1 xs (cInstr i) = xs ++ cInstr i from if_pos HL.out, HBF.out]
    exact HWF.out
   ·
    have hlb : decide ((xs.length : Int) ≤ 262144) = false := decide_eq_false (by omega)
    have HL := Aside0.mk hl
    clear hl
    go_wp2
    go_end0
    rw [HW2.out] at HWS HAS ⊢
    refine ⟨rfl, P, ?_, (((Adv.refl q P w).below HBB.out).trans HAS.out)⟩
    rw [show emit1 xs (cInstr i) = xs from if_neg HL.out, HBF.out]
    exact HWS.out
theorem emit_take {α : Type} (put : α → List (List Int)) (l : List α) (i : Nat) (hi : i < l.length) (xs c : List Int) : emit xs (c :: (l.take (i + 1)).flatMap put) = emit (emit xs (c :: (l.take i).flatMap put)) (put l[i]) := by
 rw [List.take_succ_eq_append_getElem hi, List.flatMap_append, List.flatMap_singleton, ← List.cons_append, emit_append]
theorem any_take {α : Type} (bad : α → Bool) (l : List α) (i : Nat) (hi : i < l.length) (β : Bool) : (β || (l.take (i + 1)).any bad) = ((β || (l.take i).any bad) || bad l[i]) := by
 rw [List.take_succ_eq_append_getElem hi, List.any_append, Bool.or_assoc]
 simp
set_option maxHeartbeats 16000000 in
set_option maxRecDepth 100000 in
theorem list_Label.calls (l : List Int) (A : Option Addr) (c : Nat) (q : Nat) (xs : List Int) (β : Bool) (w0 : World) (hr : Kd.C (Kd.int .u64) w0 A l.length l) (hok : ∀ x ∈ l, okU x) (P : Nat → Prop) (w : World) (h : Wr w0 P w q xs β) :
  Calls Tryd.prog 52 #[.pointer (some ⟨q, 0, none⟩), .slice A l.length c, .func (.func 53) #[.pointer (some ⟨q, 0, none⟩)] #[]] w fun e w' => e = .returned (.tuple #[]) ∧ ∃ P', Wr w0 P' w' q (emit xs (cLabels l)) (β) ∧ Adv q P w P' w' := by
 have HM := Aside0.mk (Kd.C_max hr)
 have HR := Aside0.mk hr
 have HOK := Aside0.mk hok
 have HI0 := Aside0.mk (writer_int.calls q xs β (l.length : Int) w0 P w h)
 clear h hr hok
 go_enter Tryd.func52, Tryd.ntmps52
 go_wp2_with fail
 refine HI0.out.mono ?_
 rintro e w1 ⟨rfl, P1, hW1, hA1⟩
 rw [show decide ((l.length : Int) < 0) = false from decide_eq_false (by omega), Bool.or_false] at hW1
 have HW1 := Aside0.mk hW1
 have HA1 := Aside0.mk hA1
 clear hW1 hA1 HI0
 go_wp2
 go_loopg [14] (l.length + 1) (fun kq v14 w' => ∃ (i : Nat) (Pi : Nat → Prop), v14 = .int .i64 (i : Int) ∧ Aside0 (i + kq = l.length + 1) ∧ Aside0 (1 ≤ kq) ∧ Aside0 (Wr w0 Pi w' q (emit xs (cNum l.length :: (l.take i).flatMap (fun x => [cNum x]))) (β || (l.take i).any (fun _ => false))) ∧ Aside0 (Adv q P w Pi w'))
 case atStart => exact ⟨0, P1, rfl, ⟨by omega⟩, ⟨by omega⟩, ⟨by simpa [emit_cons, emit_nil] using HW1.out⟩, HA1⟩
 case round =>
  clear HW1 HA1
  obtain ⟨i, Pi, rfl, HI, HI1, HW, HA⟩ := hrel
  cases gk with
  | zero => exact absurd HI1.out (by omega)
  | succ k1 =>
   by_cases ci : i < l.length
   ·
    have cib : decide ((i : Int) < (l.length : Int)) = true := decide_eq_true (by omega)
    have hii : (i : Int) < (l.length : Int) := by omega
    have hw2 : wrap64 ((i : Int) + 1) = (i : Int) + 1 := by have := HM.out; unfold wrap64; omega
    have HE := Aside0.mk (emit_take (fun x => [cNum x]) l i ci xs (cNum l.length))
    have HY := Aside0.mk (any_take (fun _ => false) l i ci β)
    have HX := Aside0.mk (HOK.out l[i] (List.getElem_mem ci))
    obtain ⟨ad, rfl, hce⟩ := Kd.at_int HR.out (i : Int) (by omega) hii
    rw [Int.toNat_natCast, show rd l (i : Int) = l[i] by simp [rd, List.getD_eq_getElem?_getD, ci]] at hce
    replace hce := pw_cell_below HW.out.below hce
    obtain ⟨x, hx⟩ : ∃ x, l[i] = x := ⟨_, rfl⟩
    rw [hx] at hce HE HX
    clear hx
    go_wp2_with fail
    refine (writer_label.calls q _ _ x HX.out w0 Pi _ HW.out).mono ?_
    rintro e w2 ⟨rfl, P2, hW2, hA2⟩
    have HW2 := Aside0.mk hW2
    have HA2 := Aside0.mk (HA.out.trans hA2)
    clear hW2 hA2
    go_wp2
    go_roundg k1
    case measure => omega
    case rel => exact ⟨i + 1, P2, by simp [hw2], ⟨by have := HI.out; omega⟩, ⟨by have := HI.out; omega⟩, ⟨by rw [HE.out, HY.out, Bool.or_false]; exact HW2.out⟩, HA2⟩
   ·
    have cib : decide ((i : Int) < (l.length : Int)) = false := decide_eq_false (by omega)
    obtain rfl : i = l.length := by have := HI.out; omega
    go_wp2
    go_end0
    refine ⟨rfl, Pi, ?_, HA.out⟩
    have hW := HW.out
    rw [List.take_length] at hW
    rw [show cLabels l = cNum l.length :: l.flatMap (fun x => [cNum x]) by unfold cLabels; rw [map_flat]]
    rw [show (β || l.any (fun _ => false)) = β by simp] at hW
    exact hW
set_option maxHeartbeats 16000000 in
set_option maxRecDepth 100000 in
theorem list_Instr.calls (l : List S44) (A : Option Addr) (c : Nat) (q : Nat) (xs : List Int) (β : Bool) (w0 : World) (ht : Lib.TabIs Tryd.prog w0 "strings.asciiSpace" .u8 Lib.asciiSpaceTab) (hr : Kd.C k44 w0 A l.length l) (hok : ∀ x ∈ l, -9223372036854775808 ≤ x.f1 ∧ x.f1 ≤ 9223372036854775807) (P : Nat → Prop) (w : World) (h : Wr w0 P w q xs β) :
  Calls Tryd.prog 94 #[.pointer (some ⟨q, 0, none⟩), .slice A l.length c, .func (.func 95) #[.pointer (some ⟨q, 0, none⟩)] #[]] w fun e w' => e = .returned (.tuple #[]) ∧ ∃ P', Wr w0 P' w' q (emit xs (cNum l.length :: l.map cInstr)) (β || l.any badI) ∧ Adv q P w P' w' := by
 have HM := Aside0.mk (Kd.C_max hr)
 have HR := Aside0.mk hr
 have HOK := Aside0.mk hok
 have HT := Aside0.mk ht
 have HI0 := Aside0.mk (writer_int.calls q xs β (l.length : Int) w0 P w h)
 clear h hr hok ht
 go_enter Tryd.func94, Tryd.ntmps94
 go_wp2_with fail
 refine HI0.out.mono ?_
 rintro e w1 ⟨rfl, P1, hW1, hA1⟩
 rw [show decide ((l.length : Int) < 0) = false from decide_eq_false (by omega), Bool.or_false] at hW1
 have HW1 := Aside0.mk hW1
 have HA1 := Aside0.mk hA1
 clear hW1 hA1 HI0
 go_wp2
 go_loopg [14] (l.length + 1) (fun kq v14 w' => ∃ (i : Nat) (Pi : Nat → Prop), v14 = .int .i64 (i : Int) ∧ Aside0 (i + kq = l.length + 1) ∧ Aside0 (1 ≤ kq) ∧ Aside0 (Wr w0 Pi w' q (emit xs (cNum l.length :: (l.take i).flatMap (fun x => [cInstr x]))) (β || (l.take i).any badI)) ∧ Aside0 (Adv q P w Pi w'))
 case atStart => exact ⟨0, P1, rfl, ⟨by omega⟩, ⟨by omega⟩, ⟨by simpa [emit_cons, emit_nil] using HW1.out⟩, HA1⟩
 case round =>
  clear HW1 HA1
  obtain ⟨i, Pi, rfl, HI, HI1, HW, HA⟩ := hrel
  cases gk with
  | zero => exact absurd HI1.out (by omega)
  | succ k1 =>
   by_cases ci : i < l.length
   ·
    have cib : decide ((i : Int) < (l.length : Int)) = true := decide_eq_true (by omega)
    have hii : (i : Int) < (l.length : Int) := by omega
    have hw2 : wrap64 ((i : Int) + 1) = (i : Int) + 1 := by have := HM.out; unfold wrap64; omega
    have HE := Aside0.mk (emit_take (fun x => [cInstr x]) l i ci xs (cNum l.length))
    have HY := Aside0.mk (any_take badI l i ci β)
    have HX := Aside0.mk (HOK.out l[i] (List.getElem_mem ci))
    obtain ⟨ad, rfl, hc0, hc1⟩ := at_T44 HR.out (i : Int) (by omega) hii
    rw [show rd_T44 l (i : Int) = l[i] by simp [rd_T44, List.getD_eq_getElem?_getD, ci]] at hc0 hc1
    rw [Int.toNat_natCast] at hc0 hc1
    replace hc0 := pw_cell_below HW.out.below hc0
    replace hc1 := pw_cell_below HW.out.below hc1
    obtain ⟨x, hx⟩ : ∃ x, l[i] = x := ⟨_, rfl⟩
    rw [hx] at HE HY HX hc0 hc1
    clear hx
    have HGA := heap_alloc_new wr (.cells #[.int .i64 x.f0, .int .i64 x.f1] 44)
    have a0 := blk_cell HGA 0
    have a1 := blk_cell HGA 1
    have z0 := blk_frozen HGA 0
    have z1 := blk_frozen HGA 1
    have HWA := Aside0.mk (HW.out.step (below_alloc (Below.refl _ _) (.cells #[.int .i64 x.f0, .int .i64 x.f1] 44)))
    have HAA := Aside0.mk (HA.out.below (below_alloc (Below.refl _ _) (.cells #[.int .i64 x.f0, .int .i64 x.f1] 44)))
    clear HGA
    simp only [List.getElem?_toArray, List.getElem?_cons_zero, List.getElem?_cons_succ] at a0 a1
    go_wp2_with fail
    refine (writer_instr.calls q _ _ x HX.out w0 HT.out Pi _ HWA.out).mono ?_
    rintro e w2 ⟨rfl, P2, hW2, hA2⟩
    have HW2 := Aside0.mk hW2
    have HA2 := Aside0.mk (HAA.out.trans hA2)
    clear hW2 hA2
    go_wp2
    go_roundg k1
    case measure => omega
    case rel => exact ⟨i + 1, P2, by simp [hw2], ⟨by have := HI.out; omega⟩, ⟨by have := HI.out; omega⟩, ⟨by rw [HE.out, HY.out]; exact HW2.out⟩, HA2⟩
   ·
    have cib : decide ((i : Int) < (l.length : Int)) = false := decide_eq_false (by omega)
    obtain rfl : i = l.length := by have := HI.out; omega
    go_wp2
    go_end0
    refine ⟨rfl, Pi, ?_, HA.out⟩
    have hW := HW.out
    rw [List.take_length] at hW
    rw [map_flat]
    exact hW
theorem Adv.box {q : Nat} {P P1 : Nat → Prop} {w0 w w1 w2 : World} {xs : List Int} {β : Bool} {ob : Obj} (h : Wr w0 P w q xs β) (hA : Adv q P (w.alloc ob) P1 w1) : w1.heap[w.heap.size]? = some ob ∧ ¬ P1 w.heap.size :=
 hA.blk (heap_alloc_new w ob) (by have := h.qlt; omega) (fun hp => by have := (h.lo _ hp).2.1; omega)
theorem Adv.keep {q : Nat} {P P1 : Nat → Prop} {w w1 : World} {g : Nat} {ob : Obj} (hA : Adv q P w P1 w1) (hg : w.heap[g]? = some ob ∧ ¬ P g) (hq : g ≠ q) : w1.heap[g]? = some ob ∧ ¬ P1 g := hA.blk hg.1 hq hg.2
set_option maxHeartbeats 8000000 in
set_option maxRecDepth 100000 in
theorem writer_array.calls (q : Nat) (xs : List Int) (β : Bool) (x : S38) (hx : okU x.f1) (w0 : World) (P : Nat → Prop) (w : World) (h : Wr w0 P w q xs β) :
  Calls Tryd.prog 55 #[.pointer (some ⟨q, 0, none⟩), .agg #[.int .i64 x.f0, .int .u64 x.f1]] w fun e w' => e = .returned (.tuple #[]) ∧ ∃ P', Wr w0 P' w' q (emit xs (cArr x)) (β || badA x) ∧ Adv q P w P' w' := by
 have HX := Aside0.mk hx
 have hbA := below_alloc (Below.refl w.heap.size w) (.cells #[.int .i64 x.f0, .int .u64 x.f1] 38)
 have HWA := Aside0.mk (h.step hbA)
 have HAA := Aside0.mk ((Adv.refl q P w).below hbA)
 have HNQ := Aside0.mk (show w.heap.size ≠ q by have := h.qlt; omega)
 have HG := Aside0.mk (And.intro (heap_alloc_new w (.cells #[.int .i64 x.f0, .int .u64 x.f1] 38)) (show ¬ P w.heap.size from fun hp => by have := (h.lo w.heap.size hp).2.1; omega))
 clear h hx hbA
 obtain ⟨a0, a1⟩ := cell_at2 HG.out.1
 go_enter Tryd.func55, Tryd.ntmps55
 go_wp2_with fail
 refine (writer_int.calls q _ _ x.f0 w0 P _ HWA.out).mono ?_
 rintro e w1 ⟨rfl, P1, hW1, hA1⟩
 clear a0 a1
 replace HG := Aside0.mk (hA1.keep HG.out HNQ.out)
 replace HAA := Aside0.mk (HAA.out.trans hA1)
 have HW1 := Aside0.mk hW1
 clear hW1 hA1
 obtain ⟨a0, a1⟩ := cell_at2 HG.out.1
 go_wp2_with fail
 refine (writer_label.calls q _ _ x.f1 HX.out w0 P1 _ HW1.out).mono ?_
 rintro e w2 ⟨rfl, P2, hW2, hA2⟩
 have HW2 := Aside0.mk hW2
 have HA2 := Aside0.mk (HAA.out.trans hA2)
 clear hW2 hA2 a0 a1
 go_wp2
 go_end0
 exact ⟨rfl, P2, HW2.out, HA2.out⟩
set_option maxHeartbeats 16000000 in
set_option maxRecDepth 100000 in
theorem list_Array.calls (l : List S38) (A : Option Addr) (c : Nat) (q : Nat) (xs : List Int) (β : Bool) (w0 : World) (hr : Kd.C k38 w0 A l.length l) (hok : ∀ x ∈ l, okU x.f1) (P : Nat → Prop) (w : World) (h : Wr w0 P w q xs β) :
  Calls Tryd.prog 54 #[.pointer (some ⟨q, 0, none⟩), .slice A l.length c, .func (.func 55) #[.pointer (some ⟨q, 0, none⟩)] #[]] w fun e w' => e = .returned (.tuple #[]) ∧ ∃ P', Wr w0 P' w' q (emit xs (cArrs l)) (β || l.any badA) ∧ Adv q P w P' w' := by
 have HM := Aside0.mk (Kd.C_max hr)
 have HR := Aside0.mk hr
 have HOK := Aside0.mk hok
 have HI0 := Aside0.mk (writer_int.calls q xs β (l.length : Int) w0 P w h)
 clear h hr hok
 go_enter Tryd.func54, Tryd.ntmps54
 go_wp2_with fail
 refine HI0.out.mono ?_
 rintro e w1 ⟨rfl, P1, hW1, hA1⟩
 rw [show decide ((l.length : Int) < 0) = false from decide_eq_false (by omega), Bool.or_false] at hW1
 have HW1 := Aside0.mk hW1
 have HA1 := Aside0.mk hA1
 clear hW1 hA1 HI0
 go_wp2
 go_loopg [14] (l.length + 1) (fun kq v14 w' => ∃ (i : Nat) (Pi : Nat → Prop), v14 = .int .i64 (i : Int) ∧ Aside0 (i + kq = l.length + 1) ∧ Aside0 (1 ≤ kq) ∧ Aside0 (Wr w0 Pi w' q (emit xs (cNum l.length :: (l.take i).flatMap cArr)) (β || (l.take i).any badA)) ∧ Aside0 (Adv q P w Pi w'))
 case atStart => exact ⟨0, P1, rfl, ⟨by omega⟩, ⟨by omega⟩, ⟨by simpa [emit_cons, emit_nil] using HW1.out⟩, HA1⟩
 case round =>
  clear HW1 HA1
  obtain ⟨i, Pi, rfl, HI, HI1, HW, HA⟩ := hrel
  cases gk with
  | zero => exact absurd HI1.out (by omega)
  | succ k1 =>
   by_cases ci : i < l.length
   ·
    have cib : decide ((i : Int) < (l.length : Int)) = true := decide_eq_true (by omega)
    have hii : (i : Int) < (l.length : Int) := by omega
    have hw2 : wrap64 ((i : Int) + 1) = (i : Int) + 1 := by have := HM.out; unfold wrap64; omega
    have HE := Aside0.mk (emit_take cArr l i ci xs (cNum l.length))
    have HY := Aside0.mk (any_take badA l i ci β)
    have HX := Aside0.mk (HOK.out l[i] (List.getElem_mem ci))
    obtain ⟨ad, rfl, hc0, hc1⟩ := at_T38 HR.out (i : Int) (by omega) hii
    rw [show rd_T38 l (i : Int) = l[i] by simp [rd_T38, List.getD_eq_getElem?_getD, ci]] at hc0 hc1
    rw [Int.toNat_natCast] at hc0 hc1
    replace hc0 := pw_cell_below HW.out.below hc0
    replace hc1 := pw_cell_below HW.out.below hc1
    obtain ⟨x, hx⟩ : ∃ x, l[i] = x := ⟨_, rfl⟩
    rw [hx] at HE HY HX hc0 hc1
    clear hx
    have HGA := heap_alloc_new wr (.cells #[.int .i64 x.f0, .int .u64 x.f1] 38)
    have a0 := blk_cell HGA 0
    have a1 := blk_cell HGA 1
    have z0 := blk_frozen HGA 0
    have z1 := blk_frozen HGA 1
    have HWA := Aside0.mk (HW.out.step (below_alloc (Below.refl _ _) (.cells #[.int .i64 x.f0, .int .u64 x.f1] 38)))
    have HAA := Aside0.mk (HA.out.below (below_alloc (Below.refl _ _) (.cells #[.int .i64 x.f0, .int .u64 x.f1] 38)))
    clear HGA
    simp only [List.getElem?_toArray, List.getElem?_cons_zero, List.getElem?_cons_succ] at a0 a1
    go_wp2_with fail
    refine (writer_array.calls q _ _ x HX.out w0 Pi _ HWA.out).mono ?_
    rintro e w2 ⟨rfl, P2, hW2, hA2⟩
    have HW2 := Aside0.mk hW2
    have HA2 := Aside0.mk (HAA.out.trans hA2)
    clear hW2 hA2
    go_wp2
    go_roundg k1
    case measure => omega
    case rel => exact ⟨i + 1, P2, by simp [hw2], ⟨by have := HI.out; omega⟩, ⟨by have := HI.out; omega⟩, ⟨by rw [HE.out, HY.out]; exact HW2.out⟩, HA2⟩
   ·
    have cib : decide ((i : Int) < (l.length : Int)) = false := decide_eq_false (by omega)
    obtain rfl : i = l.length := by have := HI.out; omega
    go_wp2
    go_end0
    refine ⟨rfl, Pi, ?_, HA.out⟩
    have hW := HW.out
    rw [List.take_length] at hW
    exact hW
def okFnW (x : S41) : Prop := okU x.f0 ∧ (∀ y ∈ x.f1, okU y) ∧ (∀ y ∈ x.f2, okU y) ∧ ∀ y ∈ x.f5, -9223372036854775808 ≤ y.f1 ∧ y.f1 ≤ 9223372036854775807
theorem emit_cFn (xs : List Int) (x : S41) : emit xs (cFn x) = emit (emit1 (emit1 (emit (emit (emit1 xs (cNum x.f0)) (cLabels x.f1)) (cLabels x.f2)) (cNum x.f3)) (cNum x.f4)) (cNum x.f5.length :: x.f5.map cInstr) := by
 unfold cFn
 rw [emit_cons, emit_append, emit_append, emit_cons, emit_cons]
theorem bad_cFn (β : Bool) (x : S41) : (β || badF x) = (((β || decide (x.f3 < 0)) || decide (x.f4 < 0)) || x.f5.any badI) := by
 unfold badF
 simp only [Bool.or_assoc]
theorem cell_at6 {w : World} {g t : Nat} {x y z u a b : Value} (h : w.heap[g]? = some (.cells #[x, y, z, u, a, b] t (0, 0))) : w.cell? ⟨g, 0, none⟩ = some x ∧ w.cell? ⟨g, 1, none⟩ = some y ∧ w.cell? ⟨g, 2, none⟩ = some z ∧ w.cell? ⟨g, 3, none⟩ = some u ∧ w.cell? ⟨g, 4, none⟩ = some a ∧ w.cell? ⟨g, 5, none⟩ = some b := ⟨blk_cell h 0, blk_cell h 1, blk_cell h 2, blk_cell h 3, blk_cell h 4, blk_cell h 5⟩
theorem wr_makeFunc : ∀ (fn : Fn) (first cap : Array Value) (w : World), (Instr.makeFunc fn first cap).run Tryd.prog w = .ok (.func fn first cap) w := fun _ _ _ _ => rfl
set_option maxHeartbeats 16000000 in
set_option maxRecDepth 100000 in
theorem writer_function.calls (q : Nat) (xs : List Int) (β : Bool) (x : S41) (hx : okFnW x) (A1 A2 A5 : Option Addr) (c1 c2 c5 : Nat) (w0 : World) (ht : Lib.TabIs Tryd.prog w0 "strings.asciiSpace" .u8 Lib.asciiSpaceTab)
  (g1 : Kd.C (Kd.int .u64) w0 A1 x.f1.length x.f1) (g2 : Kd.C (Kd.int .u64) w0 A2 x.f2.length x.f2) (g5 : Kd.C k44 w0 A5 x.f5.length x.f5) (P : Nat → Prop) (w : World) (h : Wr w0 P w q xs β) :
  Calls Tryd.prog 57 #[.pointer (some ⟨q, 0, none⟩), .agg #[.int .u64 x.f0, .slice A1 x.f1.length c1, .slice A2 x.f2.length c2, .int .i64 x.f3, .int .i64 x.f4, .slice A5 x.f5.length c5]] w fun e w' => e = .returned (.tuple #[]) ∧ ∃ P', Wr w0 P' w' q (emit xs (cFn x)) (β || badF x) ∧ Adv q P w P' w' := by
 have HX := Aside0.mk hx
 have HT := Aside0.mk ht
 have G1 := Aside0.mk g1
 have G2 := Aside0.mk g2
 have G5 := Aside0.mk g5
 have hbA := below_alloc (Below.refl w.heap.size w) (.cells #[.int .u64 x.f0, .slice A1 x.f1.length c1, .slice A2 x.f2.length c2, .int .i64 x.f3, .int .i64 x.f4, .slice A5 x.f5.length c5] 41)
 have HW := Aside0.mk (h.step hbA)
 have HAA := Aside0.mk ((Adv.refl q P w).below hbA)
 have HNQ := Aside0.mk (show w.heap.size ≠ q by have := h.qlt; omega)
 have HG := Aside0.mk (And.intro (heap_alloc_new w (.cells #[.int .u64 x.f0, .slice A1 x.f1.length c1, .slice A2 x.f2.length c2, .int .i64 x.f3, .int .i64 x.f4, .slice A5 x.f5.length c5] 41)) (show ¬ P w.heap.size from fun hp => by have := (h.lo w.heap.size hp).2.1; omega))
 have hmf := wr_makeFunc
 clear h hx hbA ht g1 g2 g5
 obtain ⟨a0, a1, a2, a3, a4, a5⟩ := cell_at6 HG.out.1
 go_enter Tryd.func57, Tryd.ntmps57
 go_wp2_with fail
 refine (writer_label.calls q _ _ x.f0 HX.out.1 w0 _ _ HW.out).mono ?_
 rintro e w1 ⟨rfl, P1, hW, hA⟩
 clear a0 a1 a2 a3 a4 a5
 replace HG := Aside0.mk (hA.keep HG.out HNQ.out)
 replace HAA := Aside0.mk (HAA.out.trans hA)
 replace HW := Aside0.mk hW
 clear hW hA
 obtain ⟨a0, a1, a2, a3, a4, a5⟩ := cell_at6 HG.out.1
 go_wp2_with fail
 refine (list_Label.calls x.f1 A1 c1 q _ _ w0 G1.out HX.out.2.1 _ _ HW.out).mono ?_
 rintro e w2 ⟨rfl, P2, hW, hA⟩
 clear a0 a1 a2 a3 a4 a5
 replace HG := Aside0.mk (hA.keep HG.out HNQ.out)
 replace HAA := Aside0.mk (HAA.out.trans hA)
 replace HW := Aside0.mk hW
 clear hW hA
 obtain ⟨a0, a1, a2, a3, a4, a5⟩ := cell_at6 HG.out.1
 go_wp2_with fail
 refine (list_Label.calls x.f2 A2 c2 q _ _ w0 G2.out HX.out.2.2.1 _ _ HW.out).mono ?_
 rintro e w3 ⟨rfl, P3, hW, hA⟩
 clear a0 a1 a2 a3 a4 a5
 replace HG := Aside0.mk (hA.keep HG.out HNQ.out)
 replace HAA := Aside0.mk (HAA.out.trans hA)
 replace HW := Aside0.mk hW
 clear hW hA
 obtain ⟨a0, a1, a2, a3, a4, a5⟩ := cell_at6 HG.out.1
 go_wp2_with fail
 refine (writer_int.calls q _ _ x.f3 w0 _ _ HW.out).mono ?_
 rintro e w4 ⟨rfl, P4, hW, hA⟩
 clear a0 a1 a2 a3 a4 a5
 replace HG := Aside0.mk (hA.keep HG.out HNQ.out)
 replace HAA := Aside0.mk (HAA.out.trans hA)
 replace HW := Aside0.mk hW
 clear hW hA
 obtain ⟨a0, a1, a2, a3, a4, a5⟩ := cell_at6 HG.out.1
 go_wp2_with fail
 refine (writer_int.calls q _ _ x.f4 w0 _ _ HW.out).mono ?_
 rintro e w5 ⟨rfl, P5, hW, hA⟩
 clear a0 a1 a2 a3 a4 a5
 replace HG := Aside0.mk (hA.keep HG.out HNQ.out)
 replace HAA := Aside0.mk (HAA.out.trans hA)
 replace HW := Aside0.mk hW
 clear hW hA
 obtain ⟨a0, a1, a2, a3, a4, a5⟩ := cell_at6 HG.out.1
 go_wp2_with fail
 refine (list_Instr.calls x.f5 A5 c5 q _ _ w0 HT.out G5.out HX.out.2.2.2 _ _ HW.out).mono ?_
 rintro e w6 ⟨rfl, P6, hW, hA⟩
 clear a0 a1 a2 a3 a4 a5
 replace HG := Aside0.mk (hA.keep HG.out HNQ.out)
 replace HAA := Aside0.mk (HAA.out.trans hA)
 replace HW := Aside0.mk hW
 clear hW hA
 obtain ⟨a0, a1, a2, a3, a4, a5⟩ := cell_at6 HG.out.1
 clear a0 a1 a2 a3 a4 a5
 go_wp2
 go_end0
 refine ⟨rfl, P6, ?_, HAA.out⟩
 rw [emit_cFn, bad_cFn]
 exact HW.out
set_option maxHeartbeats 16000000 in
set_option maxRecDepth 100000 in
theorem list_Function.calls (l : List S41) (A : Option Addr) (c : Nat) (q : Nat) (xs : List Int) (β : Bool) (w0 : World) (ht : Lib.TabIs Tryd.prog w0 "strings.asciiSpace" .u8 Lib.asciiSpaceTab) (hr : Kd.C k41 w0 A l.length l) (hok : ∀ x ∈ l, okFnW x) (P : Nat → Prop) (w : World) (h : Wr w0 P w q xs β) :
  Calls Tryd.prog 56 #[.pointer (some ⟨q, 0, none⟩), .slice A l.length c, .func (.func 57) #[.pointer (some ⟨q, 0, none⟩)] #[]] w fun e w' => e = .returned (.tuple #[]) ∧ ∃ P', Wr w0 P' w' q (emit xs (cFns l)) (β || l.any badF) ∧ Adv q P w P' w' := by
 have HM := Aside0.mk (Kd.C_max hr)
 have HR := Aside0.mk hr
 have HOK := Aside0.mk hok
 have HT := Aside0.mk ht
 have HI0 := Aside0.mk (writer_int.calls q xs β (l.length : Int) w0 P w h)
 clear h hr hok ht
 go_enter Tryd.func56, Tryd.ntmps56
 go_wp2_with fail
 refine HI0.out.mono ?_
 rintro e w1 ⟨rfl, P1, hW1, hA1⟩
 rw [show decide ((l.length : Int) < 0) = false from decide_eq_false (by omega), Bool.or_false] at hW1
 have HW1 := Aside0.mk hW1
 have HA1 := Aside0.mk hA1
 clear hW1 hA1 HI0
 go_wp2
 go_loopg [14] (l.length + 1) (fun kq v14 w' => ∃ (i : Nat) (Pi : Nat → Prop), v14 = .int .i64 (i : Int) ∧ Aside0 (i + kq = l.length + 1) ∧ Aside0 (1 ≤ kq) ∧ Aside0 (Wr w0 Pi w' q (emit xs (cNum l.length :: (l.take i).flatMap cFn)) (β || (l.take i).any badF)) ∧ Aside0 (Adv q P w Pi w'))
 case atStart => exact ⟨0, P1, rfl, ⟨by omega⟩, ⟨by omega⟩, ⟨by simpa [emit_cons, emit_nil] using HW1.out⟩, HA1⟩
 case round =>
  clear HW1 HA1
  obtain ⟨i, Pi, rfl, HI, HI1, HW, HA⟩ := hrel
  cases gk with
  | zero => exact absurd HI1.out (by omega)
  | succ k1 =>
   by_cases ci : i < l.length
   ·
    have cib : decide ((i : Int) < (l.length : Int)) = true := decide_eq_true (by omega)
    have hii : (i : Int) < (l.length : Int) := by omega
    have hw2 : wrap64 ((i : Int) + 1) = (i : Int) + 1 := by have := HM.out; unfold wrap64; omega
    have HE := Aside0.mk (emit_take cFn l i ci xs (cNum l.length))
    have HY := Aside0.mk (any_take badF l i ci β)
    have HX := Aside0.mk (HOK.out l[i] (List.getElem_mem ci))
    obtain ⟨ad, A1, c1, A2, c2, A5, c5, rfl, hc0, hc1, hc2, hc3, hc4, hc5, l1, g1, l2, g2, l5, g5⟩ := at_T41 HR.out (i : Int) (by omega) hii
    rw [show rd_T41 l (i : Int) = l[i] by simp [rd_T41, List.getD_eq_getElem?_getD, ci]] at hc0 hc1 hc2 hc3 hc4 hc5 l1 g1 l2 g2 l5 g5
    rw [Int.toNat_natCast] at hc0 hc1 hc2 hc3 hc4 hc5
    replace hc0 := pw_cell_below HW.out.below hc0
    replace hc1 := pw_cell_below HW.out.below hc1
    replace hc2 := pw_cell_below HW.out.below hc2
    replace hc3 := pw_cell_below HW.out.below hc3
    replace hc4 := pw_cell_below HW.out.below hc4
    replace hc5 := pw_cell_below HW.out.below hc5
    obtain ⟨x, hx⟩ : ∃ x, l[i] = x := ⟨_, rfl⟩
    rw [hx] at HE HY HX hc0 hc1 hc2 hc3 hc4 hc5 l1 g1 l2 g2 l5 g5
    clear hx
    have G1 := Aside0.mk g1
    have G2 := Aside0.mk g2
    have G5 := Aside0.mk g5
    clear g1 g2 g5 l1 l2 l5
    have HGA := heap_alloc_new wr (.cells #[.int .u64 x.f0, .slice A1 x.f1.length c1, .slice A2 x.f2.length c2, .int .i64 x.f3, .int .i64 x.f4, .slice A5 x.f5.length c5] 41)
    have a0 := blk_cell HGA 0
    have a1 := blk_cell HGA 1
    have a2 := blk_cell HGA 2
    have a3 := blk_cell HGA 3
    have a4 := blk_cell HGA 4
    have a5 := blk_cell HGA 5
    have z0 := blk_frozen HGA 0
    have z1 := blk_frozen HGA 1
    have z2 := blk_frozen HGA 2
    have z3 := blk_frozen HGA 3
    have z4 := blk_frozen HGA 4
    have z5 := blk_frozen HGA 5
    have HWA := Aside0.mk (HW.out.step (below_alloc (Below.refl _ _) (.cells #[.int .u64 x.f0, .slice A1 x.f1.length c1, .slice A2 x.f2.length c2, .int .i64 x.f3, .int .i64 x.f4, .slice A5 x.f5.length c5] 41)))
    have HAA := Aside0.mk (HA.out.below (below_alloc (Below.refl _ _) (.cells #[.int .u64 x.f0, .slice A1 x.f1.length c1, .slice A2 x.f2.length c2, .int .i64 x.f3, .int .i64 x.f4, .slice A5 x.f5.length c5] 41)))
    clear HGA
    simp only [List.getElem?_toArray, List.getElem?_cons_zero, List.getElem?_cons_succ] at a0 a1 a2 a3 a4 a5
    go_wp2_with fail
    refine (writer_function.calls q _ _ x HX.out A1 A2 A5 c1 c2 c5 w0 HT.out G1.out G2.out G5.out Pi _ HWA.out).mono ?_
    rintro e w2 ⟨rfl, P2, hW2, hA2⟩
    have HW2 := Aside0.mk hW2
    have HA2 := Aside0.mk (HAA.out.trans hA2)
    clear hW2 hA2
    go_wp2
    go_roundg k1
    case measure => omega
    case rel => exact ⟨i + 1, P2, by simp [hw2], ⟨by have := HI.out; omega⟩, ⟨by have := HI.out; omega⟩, ⟨by rw [HE.out, HY.out]; exact HW2.out⟩, HA2⟩
   ·
    have cib : decide ((i : Int) < (l.length : Int)) = false := decide_eq_false (by omega)
    obtain rfl : i = l.length := by have := HI.out; omega
    go_wp2
    go_end0
    refine ⟨rfl, Pi, ?_, HA.out⟩
    have hW := HW.out
    rw [List.take_length] at hW
    exact hW
end Go.Proofs.YtgpdaihfjnihhaaDoor.PJ
