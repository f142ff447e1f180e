/- ApartBytes: rows whose capacity is their length, in blocks of their own, are written full, gone on with and looked at: it answers true; only their blocks are written. -/
import Derived.Test.YtgpdaihfjnihhaaDoorRPJx0
import Derived.Test.YtgpdaihfjnihhaaDoorRAppendFull
import Derived.WalkKit
namespace Go.Proofs.YtgpdaihfjnihhaaDoor.PJ
open Go.RowKit Go.Proofs.YtgpdaihfjnihhaaDoorW.PrintWords Go.Proofs.YtgpdaihfjnihhaaDoorW.PrintLast Go.Proofs.YtgpdaihfjnihhaaDoorW.PrintMore
set_option linter.unusedSimpArgs false
set_option linter.unusedVariables false
structure Wrote (S : Nat → Prop) (w w' : World) : Prop where
 os : w'.os = w.os
 tape : w'.tape = w.tape
 output : w'.output = w.output
 size : w.heap.size ≤ w'.heap.size
 block : ∀ k, k < w.heap.size → ¬ S k → w'.heap[k]? = w.heap[k]?
theorem Wrote.refl (S : Nat → Prop) (w : World) : Wrote S w w := ⟨rfl, rfl, rfl, Nat.le_refl _, fun _ _ _ => rfl⟩
theorem Wrote.grown {S : Nat → Prop} {w w1 w2 : World} {row : Option Nat} (h : Wrote S w w1) (hg : w1.grownBy w2 row) (hs : ∀ g, row = some g → S g ∨ w.heap.size ≤ g) : Wrote S w w2 :=
 ⟨hg.os.trans h.os, hg.tape.trans h.tape, hg.output.trans h.output, Nat.le_trans h.size hg.size, fun k hk hn => (hg.block k (Nat.lt_of_lt_of_le hk h.size) (fun he => by
  rcases hs k he.symm with h1 | h1
  ·
   exact hn h1
  ·
   omega)).trans (h.block k hk hn)⟩
theorem Wrote.below {S : Nat → Prop} {w w1 w2 : World} (h : Wrote S w w1) (hb : Below w1.heap.size w1 w2) : Wrote S w w2 := h.grown (row := none) (grown_of_below hb none) (fun g hg => by cases hg)
theorem Wrote.toBelow {S : Nat → Prop} {w w' : World} (h : Wrote S w w') (B : Nat) (hB : B ≤ w.heap.size) (hS : ∀ k, S k → B ≤ k) : Below B w w' :=
 ⟨h.os, h.tape, h.output, h.size, fun k hk => h.block k (by omega) (fun hs => by have := hS k hs; omega)⟩
theorem Wrote.cell {S : Nat → Prop} {w w' : World} (h : Wrote S w w') {a : Addr} {v : Value} (hc : w.cell? a = some v) (hn : ¬ S a.block) : w'.cell? a = some v := by
 have hlt := World.block_lt_of_cell? _ _ hc
 have := h.block _ hlt hn
 unfold World.cell? at hc ⊢
 rw [this]
 exact hc
theorem append_one_full {P : Program} {ops : Array Oper} {rest : List Oper} {o : Oper} {a : Act} {Q : Exit → Act → World → Prop} {k : IntKind} {W : World} (hgd : o.guard = none) (s x : Operand) (t e : TypeId) (bytes : Nat)
  (ho : o.op = .call { callee := .builtin .append, args := #[s, x], argTypes := #[t, t] })
  (ht : P.underlying t = some (.slice e)) (hinfo : (P.info? e).map (fun i => (i.zero, i.size, i.bytes)) = some (some (.int k 0), 1, bytes)) (hb0 : 0 < bytes)
  (xs : List Int) (y : Int) (A : Option Addr) (hs : a.eval s = .slice A xs.length xs.length) (hx : a.eval x = .slice (some ⟨W.heap.size, 0, none⟩) 1 1)
  (HX : Kd.C (Kd.int k) W A xs.length xs) (hl : (xs.length + 1) * bytes ≤ 140737488355328)
  (h : ∀ v1 w1, Kd.R (Kd.int k) e w1 W.heap.size (fun j => W.heap.size ≤ j) v1 (xs ++ [y]) → Below W.heap.size W w1 → wpList P ops Q rest (a.put o.dst v1) w1) :
  wpList P ops Q (o :: rest) a (W.alloc (.cells #[.int k y] e)) := by
 cases A with
 | none =>
  obtain ⟨rfl, _⟩ := C_none HX
  refine print_append_num (w0 := W) W.heap.size hgd s x t e k bytes ho ht hinfo hb0 (.slice none 0 0) [] y hs hx (own_nil _ _ _ _) (Below.refl _ _) (Nat.le_refl _) (by simpa using hl) ?_
  intro v1 w1 hown hb hg hat
  exact h v1 w1 (Kd.R_of_own hown (fun j hj => own_base hown j hj)) hb
 | some b =>
  obtain ⟨i0, hi, hzz⟩ := Option.map_eq_some_iff.1 hinfo
  simp only [Prod.mk.injEq] at hzz
  obtain ⟨hz0, hz1, hz2⟩ := hzz
  have hlen : xs.length + 1 ≤ 140737488355328 := Nat.le_trans (Nat.le_mul_of_pos_right _ hb0) hl
  have HX' : Kd.C (Kd.int k) (W.alloc (.cells #[.int k y] e)) (some b) xs.length xs := Kd.C_below HX (below_alloc (Below.refl _ _) _)
  obtain ⟨v1, w1, hr, ho', hg⟩ := run_append_arg_grows (P := P) (w := W.alloc (.cells #[.int k y] e)) t o.type e i0 (.int k 0) 1 bytes ht hi hz0 hz1 hz2 rfl (by omega) b xs.length xs.length (xs.map (Value.int k)) (by rw [List.length_map, Nat.mul_one]) (C_cells HX') ⟨W.heap.size, 0, none⟩ 1 1 [.int k y] rfl
   (World.news_of_block (cs := #[.int k y]) (t := e) (fr := (0, 0)) (heap_alloc_new W _)) (by omega) (by simp only [maxLen]; omega) hl
  have hb1 : Below W.heap.size W w1 := by
   have h0 : Below W.heap.size W (W.alloc (.cells #[.int k y] e)) := below_alloc (Below.refl _ _) _
   exact h0.grown hg (by simp) (fun q hq => by cases hq)
  have hown : w1.ownsRow W.heap.size e 1 v1 (xs ++ [y]).length (nums k (xs ++ [y])) := by
   have h2 := own_weaken ho' (base' := W.heap.size) (by simp)
   simpa [nums] using h2
  refine wpList_plain hgd fun K hK => ?_
  unfold Oper.wp execOp
  simp only [ho, resolve, invoke, builtin, Sem.run_bind, Sem.run_pure, Result.andThen_ok, List.map_toArray, List.map_cons, List.map_nil, hs, hx, hr]
  exact hK _ _ (h v1 w1 (Kd.R_of_own hown (fun j hj => own_base hown j hj)) hb1)
def mk8 (c : Int) (i k : Nat) : Int := (wrap64 (wrap64 (c * (i : Int)) + (k : Int))) % 256
def tl8 (c : Int) (i q : Nat) : List Int := (List.range q).map (mk8 c i)
theorem tl8_length (c : Int) (i q : Nat) : (tl8 c i q).length = q := by simp [tl8]
theorem tl8_succ (c : Int) (i q : Nat) : tl8 c i (q + 1) = tl8 c i q ++ [mk8 c i q] := by simp [tl8, List.range_succ]
theorem tl8_rd (c : Int) (i q k : Nat) (h : k < q) : rd (tl8 c i q) (k : Int) = mk8 c i k := by
 simp [rd, tl8, List.getElem?_range h]
theorem rd_left (xs ys : List Int) (k : Nat) (h : k < xs.length) : rd (xs ++ ys) (k : Int) = rd xs (k : Int) := by
 simp [rd, List.getElem?_append_left h]
theorem rd_right (xs ys : List Int) (k : Nat) : rd (xs ++ ys) ((xs.length + k : Nat) : Int) = rd ys (k : Int) := by
 simp only [rd, Int.toNat_natCast, List.getD_eq_getElem?_getD]
 rw [List.getElem?_append_right (by omega)]
 simp
theorem rd_set (xs : List Int) (k j : Nat) (y : Int) (h : k < xs.length) : rd (xs.set k y) (j : Int) = if j = k then y else rd xs (j : Int) := by
 simp only [rd, Int.toNat_natCast, List.getD_eq_getElem?_getD, List.getElem?_set]
 by_cases e : k = j
 ·
  subst e
  simp [h]
 ·
  rw [if_neg e, if_neg (Ne.symm e)]
theorem ext_rd (xs ys : List Int) (hl : xs.length = ys.length) (h : ∀ k : Nat, k < xs.length → rd xs (k : Int) = rd ys (k : Int)) : xs = ys := by
 apply List.ext_getElem hl
 intro i h1 h2
 have := h i h1
 simpa [rd, List.getElem?_eq_getElem h1, List.getElem?_eq_getElem h2] using this
structure Rws (n : Nat) (V : Nat → Option Addr) (m cc : Nat → Nat) (ok : Nat → Nat → Prop) (base : Nat) (W : World) (xs : Nat → List Int) : Prop where
 len : ∀ i, i < n → (xs i).length = m i
 row : ∀ i, i < n → Kd.R (Kd.int .u8) 5 W base (ok i) (.slice (V i) (m i) (cc i)) (xs i)
section
variable {n : Nat} {V : Nat → Option Addr} {m cc : Nat → Nat} {ok : Nat → Nat → Prop} {base : Nat} {W W' : World} {xs ys : Nat → List Int}
theorem Rws.step (h : Rws n V m cc ok base W xs) (hm : ∀ i k, i < n → ok i k → k < W.heap.size → W'.heap[k]? = W.heap[k]?) : Rws n V m cc ok base W' xs :=
 ⟨h.len, fun i hi => Kd.R_step (h.row i hi) (fun k hk hlt => hm i k hi hk hlt)⟩
theorem Rws.below (h : Rws n V m cc ok base W xs) (hb : Below W.heap.size W W') : Rws n V m cc ok base W' xs := h.step (fun i k _ _ hk => hb.block k hk)
theorem Rws.congr (h : Rws n V m cc ok base W xs) (he : ∀ i, i < n → xs i = ys i) : Rws n V m cc ok base W ys := ⟨fun i hi => by rw [← he i hi]; exact h.len i hi, fun i hi => by rw [← he i hi]; exact h.row i hi⟩
theorem Rws.bound (h : Rws n V m cc ok base W xs) : Rws n V m cc (fun i k => ok i k ∧ k < W.heap.size) base W xs := ⟨h.len, fun i hi => Kd.R_mono (Kd.R_bound (h.row i hi)) (fun k hk => ⟨hk.1, hk.2.2.1⟩)⟩
theorem Rws.reads (h : Rws n V m cc ok base W xs) (i : Nat) (hi : i < n) : Kd.C (Kd.int .u8) W (V i) (xs i).length (xs i) := by
 obtain ⟨h1, _, h2⟩ := Kd.R_reads' (h.row i hi)
 exact h2
theorem Rws.at_ (h : Rws n V m cc ok base W xs) (i k : Nat) (hi : i < n) (hk : k < m i) : ∃ g, V i = some ⟨g, 0, none⟩ ∧ ok i g ∧ g < W.heap.size ∧ W.cell? ⟨g, k, none⟩ = some (.int .u8 (rd (xs i) (k : Int))) ∧ W.frozen? ⟨g, k, none⟩ = false := by
 have hR := h.row i hi
 have hl := h.len i hi
 have ho := Kd.own_of_R hR
 rcases id ho.2 with ⟨h', _⟩ | ⟨g, cap, cur, h', hg, hh, _⟩
 ·
  injection h' with _ h' _
  omega
 ·
  injection h' with h' _ _
  rw [h'] at hR ho
  obtain ⟨c1, c2⟩ := Kd.R_celln (0 : Int) hR (k : Int) (by omega) (by omega)
  rw [Int.toNat_natCast] at c1 c2
  exact ⟨g, h', hR.1 g rfl, own_lt ho g rfl, c1, c2⟩
theorem Rws.put (h : Rws n V m cc ok base W xs) (hd : ∀ i j k, i < n → j < n → ok i k → ok j k → i = j) (i k g : Nat) (hi : i < n) (hV : V i = some ⟨g, 0, none⟩) (hok : ok i g) (y : Int) :
  Rws n V m cc ok base (W.setCell ⟨g, k, none⟩ (.int .u8 y)) (fun j => if j = i then (xs i).set k y else xs j) ∧ W.grownBy (W.setCell ⟨g, k, none⟩ (.int .u8 y)) (some g) := by
 have hR := h.row i hi
 rw [hV] at hR
 obtain ⟨h1, h2⟩ := Kd.R_putg hR (k : Int) y
 rw [Int.toNat_natCast] at h1 h2
 refine ⟨⟨fun j hj => ?_, fun j hj => ?_⟩, h2⟩
 ·
  by_cases e : j = i
  ·
   subst e
   simp [h.len j hj]
  ·
   simp [e, h.len j hj]
 ·
  by_cases e : j = i
  ·
   subst e
   show Kd.R _ _ _ _ _ _ (if j = j then _ else _)
   rw [if_pos rfl, hV]
   exact h1
  ·
   simp only [e, if_false]
   exact Kd.R_grown (h.row j hj) h2 (fun q hq he => e (by injection he with he; subst he; exact hd j i q hj hi hq hok))
end
set_option maxHeartbeats 16000000 in
set_option maxRecDepth 100000 in
theorem apartBytes.calls (n : Nat) (V : Nat → Option Addr) (m cc : Nat → Nat) (ok0 : Nat → Nat → Prop) (xs0 : Nat → List Int) (ad : Addr) (c : Nat) (w : World)
  (hn : n ≤ 1000) (hm : ∀ i, i < n → m i + 80 ≤ 140737488355328) (hall : ∀ i, i < n → w.cell? (ad.add i) = some (.slice (V i) (m i) (m i))) (hab : ∀ i, (ad.add i).block = ad.block)
  (hr : Rws n V m cc ok0 0 w xs0) (hd0 : ∀ i j k, i < n → j < n → ok0 i k → ok0 j k → i = j) (ha0 : ∀ i, i < n → ¬ ok0 i ad.block) :
  Calls Tryd.prog 27 #[.slice (some ad) n c] w fun e w' => e = .returned (.bool true) ∧ Wrote (fun k => ∃ i, i < n ∧ ok0 i k) w w' := by
 obtain ⟨ok, hok⟩ : ∃ ok : Nat → Nat → Prop, ok = fun i k => ok0 i k ∧ k < w.heap.size := ⟨_, rfl⟩
 obtain ⟨S, hS⟩ : ∃ S : Nat → Prop, S = fun k => ∃ i, i < n ∧ ok0 i k := ⟨_, rfl⟩
 rw [← hS]
 have hSi : ∀ i k, i < n → ok i k → S k := fun i k hi hk => by rw [hS]; rw [hok] at hk; exact ⟨i, hi, hk.1⟩
 have hSa : ¬ S ad.block := by
  rw [hS]
  rintro ⟨i, hi, h⟩
  exact ha0 i hi h
 have hlt : ∀ i k, ok i k → k < w.heap.size := fun i k hk => by rw [hok] at hk; exact hk.2
 have hd : ∀ i j k, i < n → j < n → ok i k → ok j k → i = j := fun i j k hi hj h1 h2 => by rw [hok] at h1 h2; exact hd0 i j k hi hj h1.1 h2.1
 have hr1 : Rws n V m cc ok 0 w xs0 := by rw [hok]; exact hr.bound
 have HALL := Aside0.mk (show ∀ W, Wrote S w W → ∀ i, i < n → W.cell? (ad.add i) = some (.slice (V i) (m i) (m i)) from fun W hW i hi => hW.cell (hall i hi) (by rw [hab i]; exact hSa))
 have HN := Aside0.mk hn
 have HM := Aside0.mk hm
 have HSI := Aside0.mk hSi
 have HLT := Aside0.mk hlt
 have HD := Aside0.mk hd
 have HR := Aside0.mk hr1
 have HW := Aside0.mk (Wrote.refl S w)
 clear hr hd0 ha0 hall hab hS hok hSi hSa hlt hd hr1 hn hm
 go_enter Tryd.func27, Tryd.ntmps27
 go_wp2
 go_loopg [3] (n + 1) (fun kq v3 w' => ∃ (i : Nat) (xs : Nat → List Int), v3 = .int .i64 (i : Int) ∧ Aside0 (i + kq = n + 1) ∧ Aside0 (1 ≤ kq) ∧ Aside0 (Rws n V m cc ok 0 w' xs) ∧ Aside0 (∀ j, j < i → j < n → ∀ k, k < m j → rd (xs j) (k : Int) = mk8 37 j k) ∧ Aside0 (Wrote S w w'))
 case atStart => exact ⟨0, xs0, rfl, ⟨by omega⟩, ⟨by omega⟩, HR, ⟨fun j hj => by omega⟩, HW⟩
 case round =>
  clear HR HW
  obtain ⟨i, xs, rfl, HI, HI1, HR, HX, HW⟩ := hrel
  cases gk with
  | zero => exact absurd HI1.out (by omega)
  | succ k1 =>
   by_cases ci : i < n
   ·
    have cib : decide ((i : Int) < (n : Int)) = true := decide_eq_true (by omega)
    have hw2 : wrap64 ((i : Int) + 1) = (i : Int) + 1 := by have := HN.out; unfold wrap64; omega
    go_wp2
    go_loopg [4] (m i + 1) (fun kq v4 w' => ∃ (k : Nat) (xs : Nat → List Int), v4 = .int .i64 (k : Int) ∧ Aside0 (k + kq = m i + 1) ∧ Aside0 (1 ≤ kq) ∧ Aside0 (Rws n V m cc ok 0 w' xs) ∧ Aside0 (∀ j, j < i → j < n → ∀ k, k < m j → rd (xs j) (k : Int) = mk8 37 j k) ∧ Aside0 (∀ k', k' < k → rd (xs i) (k' : Int) = mk8 37 i k') ∧ Aside0 (Wrote S w w'))
    case atStart => exact ⟨0, xs, rfl, ⟨by omega⟩, ⟨by omega⟩, HR, HX, ⟨fun j hj => by omega⟩, HW⟩
    case round =>
     clear HR HX HW
     obtain ⟨k, xs, rfl, HK, HK1, HR, HX, HY, HW⟩ := hrel
     have hcA := HALL.out _ HW.out i ci
     have hii : (i : Int) < (n : Int) := by omega
     cases gk with
     | zero => exact absurd HK1.out (by omega)
     | succ k2 =>
      by_cases ck : k < m i
      ·
       have ckb : decide ((k : Int) < (m i : Int)) = true := decide_eq_true (by omega)
       have hki : (k : Int) < (m i : Int) := by omega
       have hw3 : wrap64 ((k : Int) + 1) = (k : Int) + 1 := by have := HM.out i ci; unfold wrap64; omega
       obtain ⟨g, hV, hokg, hgl, hc1, hf1⟩ := HR.out.at_ i k ci ck
       rw [hV] at hcA
       have HV := Aside0.mk hV
       have HOK := Aside0.mk hokg
       clear hV hokg hgl
       go_wp2
       obtain ⟨hP, hG⟩ := HR.out.put HD.out i k g ci HV.out HOK.out (mk8 37 i k)
       go_roundg k2
       case measure => omega
       case rel =>
        refine ⟨k + 1, _, by simp [hw3], ⟨by have := HK.out; omega⟩, ⟨by have := HK.out; omega⟩, ⟨hP⟩, ⟨fun j hj hjn q hq => ?_⟩, ⟨fun q hq => ?_⟩, ⟨HW.out.grown hG (fun q hq => by injection hq with hq; subst hq; exact .inl (HSI.out i g ci HOK.out))⟩⟩
        ·
         simp only [show j ≠ i by omega, if_false]
         exact HX.out j hj hjn q hq
        ·
         simp only [if_true]
         rw [rd_set _ _ _ _ (by rw [HR.out.len i ci]; exact ck)]
         by_cases e : q = k
         ·
          subst e
          simp
         ·
          simp only [e, if_false]
          exact HY.out q (by omega)
      ·
       have ckb : decide ((k : Int) < (m i : Int)) = false := decide_eq_false (by omega)
       go_wp2
       go_roundg k1
       case measure => omega
       case rel =>
        refine ⟨i + 1, xs, by simp [hw2], ⟨by have := HI.out; omega⟩, ⟨by have := HI.out; omega⟩, HR, ⟨fun j hj hjn q hq => ?_⟩, HW⟩
        by_cases e : j = i
        ·
         subst e
         exact HY.out q (by have := HK.out; omega)
        ·
         exact HX.out j (by omega) hjn q hq
   ·
    have cib : decide ((i : Int) < (n : Int)) = false := decide_eq_false (by omega)
    have hi : i = n := by have := HI.out; omega
    subst hi
    obtain ⟨n0, hn0⟩ : ∃ n0, n0 = i := ⟨i, rfl⟩
    have HRM := Aside0.mk (HR.out.congr (ys := fun j => tl8 37 j (m j)) (fun j hj => ext_rd _ _ (by rw [HR.out.len j hj, tl8_length]) (fun q hq => by rw [HR.out.len j hj] at hq; rw [HX.out j hj hj q hq, tl8_rd _ _ _ _ hq])))
    clear HR HX HI HI1 hn0
    go_wp2
    go_loopg [5, 6] (i + 1) (fun kq v5 v6 w' => ∃ (j : Nat), v6 = .int .i64 (j : Int) ∧ Aside0 (j + kq = i + 1) ∧ Aside0 (1 ≤ kq) ∧ Aside0 (Rws i V m cc ok 0 w' (fun j => tl8 37 j (m j))) ∧ Aside0 (Kd.R (Kd.slice 5 (Kd.int .u8)) 27 w' w.heap.size (fun k => w.heap.size ≤ k) v5 ((List.range j).map fun q => tl8 37 q (m q) ++ tl8 11 q 70)) ∧ Aside0 (Wrote S w w'))
    case atStart => exact ⟨0, rfl, ⟨by omega⟩, ⟨by omega⟩, HRM, ⟨Kd.R_nil _ _ _ _ _⟩, HW⟩
    case round =>
     clear HRM HW
     obtain ⟨j, rfl, HJ, HJ1, HR, HE, HW⟩ := hrel
     cases gk with
     | zero => exact absurd HJ1.out (by omega)
     | succ k1 =>
      by_cases cj : j < i
      ·
       have cjb : decide ((j : Int) < (i : Int)) = true := decide_eq_true (by omega)
       have hji : (j : Int) < (i : Int) := by omega
       have hw2 : wrap64 ((j : Int) + 1) = (j : Int) + 1 := by have := HN.out; unfold wrap64; omega
       have hcA := HALL.out _ HW.out j cj
       go_wp2
       obtain ⟨wi, hwi⟩ : ∃ wi : World, wi = wr := ⟨_, rfl⟩
       rw [← hwi] at HR HE HW
       go_loopg [7, 8] 71 (fun kq v7 v8 w' => ∃ (q : Nat), v8 = .int .i64 (q : Int) ∧ Aside0 (q + kq = 71) ∧ Aside0 (1 ≤ kq) ∧ Aside0 ((q = 0 ∧ v7 = .slice (V j) (m j) (m j)) ∨ (1 ≤ q ∧ Kd.R (Kd.int .u8) 5 w' wi.heap.size (fun k => wi.heap.size ≤ k) v7 (tl8 37 j (m j) ++ tl8 11 j q))) ∧ Aside0 (Below wi.heap.size wi w'))
       case atStart => exact ⟨0, rfl, ⟨by omega⟩, ⟨by omega⟩, ⟨.inl ⟨rfl, rfl⟩⟩, ⟨by rw [hwi]; exact Below.refl _ _⟩⟩
       case round =>
        obtain ⟨q, rfl, HQ, HQ1, HV, HB⟩ := hrel
        cases gk with
        | zero => exact absurd HQ1.out (by omega)
        | succ k2 =>
         by_cases cq : q < 70
         ·
          have cqb : decide ((q : Int) < 70) = true := decide_eq_true (by omega)
          have hw3 : wrap64 ((q : Int) + 1) = (q : Int) + 1 := by unfold wrap64; omega
          rcases HV.out with ⟨hq0, hv7⟩ | ⟨hq1, hR7⟩
          ·
           subst hq0
           subst hv7
           clear HV
           have hC7 := (HR.out.below HB.out).reads j cj
           have HC7 := Aside0.mk hC7
           clear hC7
           go_wp2_with (first | ((with_reducible refine gate_builtin (b := .append) (xs := #[.tmp 53, .tmp 59]) rfl ?_); at_builtin; refine append_one_full rfl (.tmp 53) (.tmp 59) 27 5 1 rfl Tryd.underlying27 info5 (by decide) (tl8 37 j (m j)) (wrap64 (wrap64 (11 * (j : Int))) % 256) (V j) ?hs rfl ?hC ?hl ?_; (case hs => rw [tl8_length]; rfl); (case hC => exact HC7.out); (case hl => have := HM.out j cj; rw [tl8_length]; omega); intro v1 w1 hR1 hb1; have HR1 := Aside0.mk hR1; have HB1 := Aside0.mk hb1; clear hR1 hb1))
           go_roundg k2
           case measure => omega
           case rel => exact ⟨1, by simp, ⟨by have := HQ.out; omega⟩, ⟨by have := HQ.out; omega⟩, ⟨.inr ⟨Nat.le_refl _, by rw [show tl8 11 j 1 = [wrap64 (wrap64 (11 * (j : Int))) % 256] by simp [tl8, mk8]]; exact Kd.R_lower (Kd.R_mono HR1.out (fun k hk => Nat.le_trans HB.out.size hk)) HB.out.size⟩⟩, ⟨below_step HB.out HB1.out⟩⟩
          ·
           have HR7 := Aside0.mk hR7
           have HQ2 := Aside0.mk hq1
           clear HV hR7 hq1
           go_wp2_with (first | ((with_reducible refine gate_builtin (b := .append) (xs := #[.tmp 53, .tmp 59]) rfl ?_); at_builtin; refine Kd.R_append (Kd.int .u8) (w0 := wi) wi.heap.size rfl (.tmp 53) (.tmp 59) 27 5 (.int .u8 0) 1 rfl Tryd.underlying27 info5 rfl (by decide) (by omega) u7 (tl8 37 j (m j) ++ tl8 11 j q) (mk8 11 j q) [.int .u8 (mk8 11 j q)] (fun k_ => wi.heap.size ≤ k_) (fun _ => False) rfl rfl ?aP (fun _ hk => hk.elim) ?aF ?aO ?aB ?aS ?aL ?_; (case aP => exact rfl); (case aB => exact HB.out); (case aF => exact (fun k_ hk => Nat.le_trans HB.out.size hk)); (case aO => exact HR7.out); (case aS => exact HB.out.size); (case aL => have := HM.out j cj; rw [List.length_append, tl8_length, tl8_length]; omega); intro v1 w1 ho hb hg hat; have HR1 := Aside0.mk ho; have HB1 := Aside0.mk hb; clear ho hb hg hat))
           go_roundg k2
           case measure => omega
           case rel => exact ⟨q + 1, by simp [hw3], ⟨by have := HQ.out; omega⟩, ⟨by have := HQ.out; omega⟩, ⟨.inr ⟨by omega, by rw [tl8_succ, ← List.append_assoc]; exact HR1.out⟩⟩, HB1⟩
         ·
          have cqb : decide ((q : Int) < 70) = false := decide_eq_false (by omega)
          obtain rfl : q = 70 := by have := HQ.out; omega
          obtain ⟨L7, hL7⟩ : ∃ L7, tl8 37 j (m j) ++ tl8 11 j 70 = L7 := ⟨_, rfl⟩
          have hR7 := (HV.out.resolve_left (by omega)).2
          rw [hL7] at hR7
          obtain ⟨A7, c7, rfl⟩ := Kd.R_slice hR7
          have HR7 := Aside0.mk hR7
          have HL7 := Aside0.mk hL7
          clear HV hR7 hL7
          have HEr := Aside0.mk (Kd.R_below HE.out HB.out)
          have HRr := Aside0.mk (HR.out.below HB.out)
          have HWr := Aside0.mk (HW.out.below HB.out)
          have HOL := Aside0.mk (show ∀ k, u5.ownBlock = some k → w.heap.size ≤ k ∧ k < wi.heap.size from fun k hk => by
           obtain ⟨inner, ho⟩ := Kd.R_own HE.out
           exact ⟨own_base ho k hk, own_lt ho k hk⟩)
          go_wp2_with (first | ((with_reducible refine gate_builtin (b := .append) (xs := #[.tmp 61, .tmp 63]) rfl ?_); at_builtin; refine Kd.R_append (Kd.slice 5 (Kd.int .u8)) (w0 := wr) w.heap.size rfl (.tmp 61) (.tmp 63) 54 27 (.slice none 0 0) 24 rfl Tryd.underlying54 (by kernel_rfl) rfl (by decide) (by omega) u5 ((List.range j).map fun q => tl8 37 q (m q) ++ tl8 11 q 70) L7 [.slice A7 L7.length c7] (fun k_ => w.heap.size ≤ k_) (fun k_ => wi.heap.size ≤ k_) rfl rfl ?aP ?aK ?aF ?aO ?aB ?aS ?aL ?_; (case aP => exact ⟨_, rfl, Kd.R_lower HR7.out HW.out.size⟩); (case aK => exact (fun k_ hk => ⟨Nat.le_trans HW.out.size hk, fun he => by have := (HOL.out k_ he.symm).2; omega⟩)); (case aB => exact Below.refl _ _); (case aF => exact (fun k_ hk => Nat.le_trans HWr.out.size hk)); (case aO => exact HEr.out); (case aS => exact HWr.out.size); (case aL => have := HN.out; rw [List.length_map, List.length_range]; omega); intro v1 w1 ho hb hg hat; have HE1 := Aside0.mk ho; have HG1 := Aside0.mk hg; clear ho hb hg hat))
          go_roundg k1
          case measure => omega
          case rel =>
           refine ⟨j + 1, by simp [hw2], ⟨by have := HJ.out; omega⟩, ⟨by have := HJ.out; omega⟩, ⟨HRr.out.step (fun x k hx hk hlt => HG1.out.block k hlt (fun he => by have := (HOL.out k he.symm).1; have := HLT.out x k hk; omega))⟩, ⟨by rw [List.range_succ, List.map_append, List.map_singleton, HL7.out]; exact HE1.out⟩, ⟨HWr.out.grown HG1.out (fun g hg => .inr (HOL.out g hg).1)⟩⟩
      ·
       have cjb : decide ((j : Int) < (i : Int)) = false := decide_eq_false (by omega)
       obtain rfl : j = i := by have := HJ.out; omega
       clear HJ HJ1 cj cjb
       obtain ⟨w9, hw9⟩ : ∃ w9 : World, w9 = wr := ⟨_, rfl⟩
       rw [← hw9] at HR HE HW
       have H9 := Aside0.mk hw9
       clear hw9
       obtain ⟨AM, cM, hu5, _, hCM⟩ := Kd.R_reads HE.out
       rw [List.length_map, List.length_range] at hu5 hCM
       subst hu5
       have FA := Aside0.mk (HALL.out w9 HW.out)
       have FR := Aside0.mk (show ∀ q, q < j → ∀ k, k < m q → ∃ g, V q = some ⟨g, 0, none⟩ ∧ w9.cell? ⟨g, k, none⟩ = some (.int .u8 ((wrap64 (wrap64 (37 * (q : Int)) + (k : Int))) % 256)) from fun q hq k hk => by
        obtain ⟨g, h1, _, _, h2, _⟩ := HR.out.at_ q k hq hk
        rw [tl8_rd _ _ _ _ hk] at h2
        exact ⟨g, h1, h2⟩)
       have FM := Aside0.mk (show ∀ q, q < j → ∃ (am : Addr) (a' : Addr) (c' : Nat), AM = some am ∧ w9.cell? (am.add q) = some (.slice (some a') (m q + 70) c') ∧ (∀ k, k < m q → w9.cell? (a'.add k) = some (.int .u8 ((wrap64 (wrap64 (37 * (q : Int)) + (k : Int))) % 256))) ∧ ∀ k, k < 70 → w9.cell? (a'.add (m q + k)) = some (.int .u8 ((wrap64 (wrap64 (11 * (q : Int)) + (k : Int))) % 256)) from fun q hq => by
        obtain ⟨am, cs, e1, _, hK, hc⟩ := Kd.C_get hCM [] (q : Int) (by omega) (by omega)
        obtain ⟨A', c', rfl, hl', hC'⟩ := hK
        have h0 := hc 0 _ rfl
        rw [Int.toNat_natCast, show q * (Kd.slice 5 (Kd.int .u8)).sz + 0 = q by show q * 1 + 0 = q; omega] at h0
        have hel : (List.map (fun q => tl8 37 q (m q) ++ tl8 11 q 70) (List.range j)).getD q [] = tl8 37 q (m q) ++ tl8 11 q 70 := by
         simp [List.getElem?_range hq]
        rw [Int.toNat_natCast] at hC'
        rw [hel] at h0 hC'
        rw [List.length_append, tl8_length, tl8_length] at h0
        rw [List.length_append, tl8_length, tl8_length] at hC'
        obtain ⟨a', e2, _⟩ := Kd.at_int hC' 0 (by omega) (by omega)
        subst e2
        refine ⟨am, a', c', e1, h0, fun k hk => ?_, fun k hk => ?_⟩
        ·
         obtain ⟨a2, e3, h3⟩ := Kd.at_int hC' (k : Int) (by omega) (by omega)
         injection e3 with e3
         subst e3
         rw [Int.toNat_natCast, rd_left _ _ _ (by rw [tl8_length]; exact hk), tl8_rd _ _ _ _ hk] at h3
         exact h3
        ·
         obtain ⟨a2, e3, h3⟩ := Kd.at_int hC' ((m q + k : Nat) : Int) (by omega) (by omega)
         injection e3 with e3
         subst e3
         have e4 := rd_right (tl8 37 q (m q)) (tl8 11 q 70) k
         rw [tl8_length] at e4
         rw [Int.toNat_natCast, e4, tl8_rd _ _ _ _ hk] at h3
         exact h3)
       clear HR HE hCM
       go_wp2
       go_loopg [9] (j + 1) (fun kq v9 w' => ∃ (x : Nat), v9 = .int .i64 (x : Int) ∧ Aside0 (x + kq = j + 1) ∧ Aside0 (1 ≤ kq) ∧ Aside0 (w' = w9))
       case atStart => exact ⟨0, rfl, ⟨by omega⟩, ⟨by omega⟩, ⟨H9.out.symm⟩⟩
       case round =>
        clear H9
        obtain ⟨x, rfl, HI, HI1, H9⟩ := hrel
        cases gk with
        | zero => exact absurd HI1.out (by omega)
        | succ k1 =>
         by_cases cx : x < j
         ·
          have cxb : decide ((x : Int) < (j : Int)) = true := decide_eq_true (by omega)
          have hxj : (x : Int) < (j : Int) := by omega
          have hw2 : wrap64 ((x : Int) + 1) = (x : Int) + 1 := by have := HN.out; unfold wrap64; omega
          have hcA := FA.out x cx
          obtain ⟨am, a', c', e1, hcM, hM1, hM2⟩ := FM.out x cx
          subst e1
          rw [← H9.out] at hcA hcM
          have HM1 := Aside0.mk hM1
          have HM2 := Aside0.mk hM2
          have HCA := Aside0.mk (FA.out x cx)
          have HCM := Aside0.mk (show w9.cell? (am.add x) = some (.slice (some a') (m x + 70) c') by rw [← H9.out]; exact hcM)
          clear hM1 hM2
          go_wp2
          go_loopg [11] (m x + 1) (fun kq v11 w' => ∃ (k : Nat), v11 = .int .i64 (k : Int) ∧ Aside0 (k + kq = m x + 1) ∧ Aside0 (1 ≤ kq) ∧ Aside0 (w' = w9))
          case atStart => exact ⟨0, rfl, ⟨by omega⟩, ⟨by omega⟩, H9⟩
          case round =>
           clear H9 hcA hcM
           obtain ⟨k, rfl, HK, HK1, H9⟩ := hrel
           cases gk with
           | zero => exact absurd HK1.out (by omega)
           | succ k2 =>
            have hcA := HCA.out
            have hcM := HCM.out
            rw [← H9.out] at hcA hcM
            by_cases ck : k < m x
            ·
             have ckb : decide ((k : Int) < (m x : Int)) = true := decide_eq_true (by omega)
             have hki : (k : Int) < (m x : Int) := by omega
             have hki2 : (k : Int) < (m x : Int) + 70 := by omega
             have hki3 : (k : Int) < ((m x + 70 : Nat) : Int) := by omega
             have hw3 : wrap64 ((k : Int) + 1) = (k : Int) + 1 := by have := HM.out x cx; unfold wrap64; omega
             obtain ⟨g, hV, hc1⟩ := FR.out x cx k ck
             have hc2 := HM1.out k ck
             rw [← H9.out] at hc1 hc2
             rw [hV] at hcA
             have HV := Aside0.mk hV
             clear hV
             go_wp2
             go_roundg k2
             case measure => omega
             case rel => exact ⟨k + 1, by simp [hw3], ⟨by have := HK.out; omega⟩, ⟨by have := HK.out; omega⟩, H9⟩
            ·
             have ckb : decide ((k : Int) < (m x : Int)) = false := decide_eq_false (by omega)
             go_wp2
             go_loopg [12] 71 (fun kq v12 w' => ∃ (q : Nat), v12 = .int .i64 (q : Int) ∧ Aside0 (q + kq = 71) ∧ Aside0 (1 ≤ kq) ∧ Aside0 (w' = w9))
             case atStart => exact ⟨0, rfl, ⟨by omega⟩, ⟨by omega⟩, H9⟩
             case round =>
              clear H9 hcA hcM
              obtain ⟨q, rfl, HQ, HQ1, H9⟩ := hrel
              cases gk with
              | zero => exact absurd HQ1.out (by omega)
              | succ k3 =>
               have hcM := HCM.out
               rw [← H9.out] at hcM
               by_cases cq : q < 70
               ·
                have cqb : decide ((q : Int) < 70) = true := decide_eq_true (by omega)
                have HQ3 := Aside0.mk (show q + 1 + k3 = 71 ∧ 1 ≤ k3 from by have := HQ.out; omega)
                have hq1 : (m x : Int) + (q : Int) < (m x : Int) + 70 := by omega
                have hq2 : 0 ≤ (m x : Int) + (q : Int) := by omega
                have hq3 : ((m x : Int) + (q : Int)).toNat = m x + q := by omega
                have hw4 : wrap64 ((m x : Int) + (q : Int)) = (m x : Int) + (q : Int) := by have := HM.out x cx; unfold wrap64; omega
                have hw3 : wrap64 ((q : Int) + 1) = (q : Int) + 1 := by unfold wrap64; omega
                have hc2 := HM2.out q cq
                rw [← H9.out] at hc2
                go_wp2
                go_roundg k3
                case measure => omega
                case rel => exact ⟨q + 1, by simp [hw3], ⟨HQ3.out.1⟩, ⟨HQ3.out.2⟩, H9⟩
               ·
                have cqb : decide ((q : Int) < 70) = false := decide_eq_false (by omega)
                go_wp2
                go_roundg k1
                case measure => omega
                case rel => exact ⟨x + 1, by simp [hw2], ⟨by have := HI.out; omega⟩, ⟨by have := HI.out; omega⟩, H9⟩
         ·
          have cxb : decide ((x : Int) < (j : Int)) = false := decide_eq_false (by omega)
          go_wp2
          go_ret
          exact ⟨rfl, by rw [H9.out]; exact HW.out⟩
end Go.Proofs.YtgpdaihfjnihhaaDoor.PJ
