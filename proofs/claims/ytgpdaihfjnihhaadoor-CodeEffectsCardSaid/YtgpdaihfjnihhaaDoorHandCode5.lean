/- code.Effect by hand. -/
import Derived.Test.YtgpdaihfjnihhaaDoorPJx0
import Derived.Test.YtgpdaihfjnihhaaDoorHandCode4
namespace Go.Proofs.YtgpdaihfjnihhaaDoor.PJ
open Go.RowKit Go.Proofs.YtgpdaihfjnihhaaDoorW.PrintWords Go.Proofs.YtgpdaihfjnihhaaDoorW.PrintLast Go.Proofs.YtgpdaihfjnihhaaDoorW.PrintMore
set_option linter.unusedSimpArgs false
set_option linter.unusedVariables false
def effectOf (op a f : Int) (n0 n1 n2 : Nat) (l3 : List S41) : Int × Int × Bool :=
  if f < 0 ∨ (l3.length : Int) ≤ f then (0, 0, false)
  else if mayOf op a = true ∧ foundOf op a n0 n1 n2 l3.length (rd_T41 l3 f) = true then
    (if op ≤ 14 then (2, 1, true) else if op ≤ 17 then (1, 1, true) else if op = 45 then (((rd_T41 l3 a).f1.length : Int), ((rd_T41 l3 a).f2.length : Int), true) else if op = 46 then (((rd_T41 l3 f).f2.length : Int), 0, true) else ((effL.getD (op - 32).toNat (0, 0)).1, (effL.getD (op - 32).toNat (0, 0)).2, true))
  else (0, 0, false)
theorem facts4 {w : World} {g t : Nat} {x y z u : Value} (h : w.heap[g]? = some (.cells #[x, y, z, u] t (0, 0))) : w.cell? ⟨g, 0, none⟩ = some x ∧ w.cell? ⟨g, 1, none⟩ = some y ∧ w.cell? ⟨g, 2, none⟩ = some z ∧ w.cell? ⟨g, 3, none⟩ = some u :=
  ⟨blk_cell h 0, blk_cell h 1, blk_cell h 2, blk_cell h 3⟩
set_option maxHeartbeats 16000000 in
set_option maxRecDepth 100000 in
theorem code_Effect.calls (A0 : Option Addr) (c0 n0 : Nat) (A1 : Option Addr) (c1 n1 : Nat) (A2 : Option Addr) (c2 n2 : Nat) (A3 : Option Addr) (c3 : Nat) (l3 : List S41) (f op a : Int) (w : World) (ht : Lib.TabIs Tryd.prog w "strings.asciiSpace" .u8 Lib.asciiSpaceTab) (hr3 : Kd.C k41 w A3 l3.length l3) :
    Calls Tryd.prog 30 #[.agg #[.slice A0 n0 c0, .slice A1 n1 c1, .slice A2 n2 c2, .slice A3 l3.length c3], .int .i64 f, .agg #[.int .i64 op, .int .i64 a]] w fun e w' => e = .returned (.tuple #[.int .i64 (effectOf op a f n0 n1 n2 l3).1, .int .i64 (effectOf op a f n0 n1 n2 l3).2.1, .bool (effectOf op a f n0 n1 n2 l3).2.2]) ∧ Below w.heap.size w w' := by
  have HT := Aside0.mk ht
  have HR3 := Aside0.mk hr3
  clear ht hr3
  obtain ⟨R, hR⟩ : ∃ R, effectOf op a f n0 n1 n2 l3 = R := ⟨_, rfl⟩
  rw [hR]
  have HB2 := Aside0.mk (below_alloc (below_alloc (Below.refl w.heap.size w) (.cells #[.slice A0 n0 c0, .slice A1 n1 c1, .slice A2 n2 c2, .slice A3 l3.length c3] 26)) (.cells #[.int .i64 op, .int .i64 a] 44))
  have HGm := Aside0.mk (blk_alloc (heap_alloc_new w (.cells #[.slice A0 n0 c0, .slice A1 n1 c1, .slice A2 n2 c2, .slice A3 l3.length c3] 26)) (.cells #[.int .i64 op, .int .i64 a] 44))
  have HGi := Aside0.mk (show ((w.alloc (.cells #[.slice A0 n0 c0, .slice A1 n1 c1, .slice A2 n2 c2, .slice A3 l3.length c3] 26)).alloc (.cells #[.int .i64 op, .int .i64 a] 44)).heap[w.heap.size + 1]? = some (.cells #[.int .i64 op, .int .i64 a] 44 (0, 0)) by
    have := heap_alloc_new (w.alloc (.cells #[.slice A0 n0 c0, .slice A1 n1 c1, .slice A2 n2 c2, .slice A3 l3.length c3] 26)) (.cells #[.int .i64 op, .int .i64 a] 44)
    simpa using this)
  by_cases f0 : f < 0
  · have f0b : decide (f < 0) = true := decide_eq_true f0
    obtain rfl : (0, 0, false) = R := by rw [← hR]; unfold effectOf; rw [if_pos (.inl f0)]
    clear hR
    go_enter Tryd.func30, Tryd.ntmps30
    go_wp2
    go_ret3
    exact ⟨rfl, HB2.out⟩
  have f0b : decide (f < 0) = false := decide_eq_false f0
  by_cases f1 : (l3.length : Int) ≤ f
  · have f1b : decide ((l3.length : Int) ≤ f) = true := decide_eq_true f1
    obtain rfl : (0, 0, false) = R := by rw [← hR]; unfold effectOf; rw [if_pos (.inr f1)]
    clear hR
    go_enter Tryd.func30, Tryd.ntmps30
    go_wp2
    go_ret3
    exact ⟨rfl, HB2.out⟩
  have f1b : decide ((l3.length : Int) ≤ f) = false := decide_eq_false f1
  obtain ⟨fn, rfl⟩ : ∃ fn : Nat, f = (fn : Int) := ⟨f.toNat, by omega⟩
  have hfn : fn < l3.length := by omega
  have hfi : (fn : Int) < (l3.length : Int) := by omega
  have HF := Aside0.mk hfn
  clear f0 f1 hfn
  by_cases hm : mayOf op a = true
  · have HM := Aside0.mk hm
    by_cases hfo : foundOf op a n0 n1 n2 l3.length (rd_T41 l3 (fn : Int)) = true
    · have HFO := Aside0.mk hfo
      have hR2 : (if op ≤ 14 then (2, 1, true) else if op ≤ 17 then (1, 1, true) else if op = 45 then (((rd_T41 l3 a).f1.length : Int), ((rd_T41 l3 a).f2.length : Int), true) else if op = 46 then (((rd_T41 l3 (fn : Int)).f2.length : Int), 0, true) else ((effL.getD (op - 32).toNat (0, 0)).1, (effL.getD (op - 32).toNat (0, 0)).2, true)) = R := by
        have e1 : ¬ ((fn : Int) < 0 ∨ (l3.length : Int) ≤ (fn : Int)) := by have := HF.out; omega
        have e2 : mayOf op a = true ∧ foundOf op a n0 n1 n2 l3.length (rd_T41 l3 (fn : Int)) = true := ⟨hm, hfo⟩
        rw [← hR]
        unfold effectOf
        rw [if_neg e1, if_pos e2]
      clear hR
      by_cases h14 : op ≤ 14
      · have h14b : decide (op ≤ 14) = true := decide_eq_true h14
        obtain rfl : (2, 1, true) = R := by rw [← hR2, if_pos h14]
        clear hR2 hm hfo
        go_enter Tryd.func30, Tryd.ntmps30
        go_wp2_with fail
        refine (code_May.calls op a _ (tab_below HT.out HB2.out)).mono ?_
        rintro e w3 ⟨rfl, hb⟩
        rw [HM.out]
        obtain ⟨m0, m1, m2, m3⟩ := facts4 (blk_below HGm.out hb)
        obtain ⟨i0, i1, _, _⟩ := facts2 (blk_below HGi.out hb)
        have HGm3 := Aside0.mk (blk_below HGm.out hb)
        have HGi3 := Aside0.mk (blk_below HGi.out hb)
        have HB3 := Aside0.mk (below_step HB2.out hb)
        clear hb
        go_wp2_with fail
        refine (code_found.calls A0 c0 n0 A1 c1 n1 A2 c2 n2 A3 c3 l3 fn op a _ (Kd.C_below HR3.out HB3.out) HF.out).mono ?_
        rintro e w4 ⟨rfl, hb⟩
        rw [HFO.out]
        clear m0 m1 m2 m3 i0 i1
        obtain ⟨m0, m1, m2, m3⟩ := facts4 (blk_below HGm3.out hb)
        obtain ⟨i0, i1, j0, j1⟩ := facts2 (blk_below HGi3.out hb)
        have HB4 := Aside0.mk (below_step HB3.out hb)
        clear hb HGm3 HGi3
        go_wp2
        go_ret3
        exact ⟨rfl, HB4.out⟩
      have h14b : decide (op ≤ 14) = false := decide_eq_false h14
      rw [if_neg h14] at hR2
      by_cases h17 : op ≤ 17
      · have h17b : decide (op ≤ 17) = true := decide_eq_true h17
        obtain rfl : (1, 1, true) = R := by rw [← hR2, if_pos h17]
        clear hR2 hm hfo
        go_enter Tryd.func30, Tryd.ntmps30
        go_wp2_with fail
        refine (code_May.calls op a _ (tab_below HT.out HB2.out)).mono ?_
        rintro e w3 ⟨rfl, hb⟩
        rw [HM.out]
        obtain ⟨m0, m1, m2, m3⟩ := facts4 (blk_below HGm.out hb)
        obtain ⟨i0, i1, _, _⟩ := facts2 (blk_below HGi.out hb)
        have HGm3 := Aside0.mk (blk_below HGm.out hb)
        have HGi3 := Aside0.mk (blk_below HGi.out hb)
        have HB3 := Aside0.mk (below_step HB2.out hb)
        clear hb
        go_wp2_with fail
        refine (code_found.calls A0 c0 n0 A1 c1 n1 A2 c2 n2 A3 c3 l3 fn op a _ (Kd.C_below HR3.out HB3.out) HF.out).mono ?_
        rintro e w4 ⟨rfl, hb⟩
        rw [HFO.out]
        clear m0 m1 m2 m3 i0 i1
        obtain ⟨m0, m1, m2, m3⟩ := facts4 (blk_below HGm3.out hb)
        obtain ⟨i0, i1, j0, j1⟩ := facts2 (blk_below HGi3.out hb)
        have HB4 := Aside0.mk (below_step HB3.out hb)
        clear hb HGm3 HGi3
        go_wp2
        go_ret3
        exact ⟨rfl, HB4.out⟩
      have h17b : decide (op ≤ 17) = false := decide_eq_false h17
      rw [if_neg h17] at hR2
      by_cases h45 : op = 45
      · subst h45
        rw [if_pos rfl] at hR2
        obtain ⟨an, rfl, han⟩ : ∃ an : Nat, a = (an : Int) ∧ an < l3.length := by
          have h1 : 0 ≤ a := by simpa [mayOf, validOp, operandOp] using hm
          have h2 : a < (l3.length : Int) := by simpa [foundOf] using hfo
          exact ⟨a.toNat, by omega, by omega⟩
        have hai : (an : Int) < (l3.length : Int) := by omega
        have HAN := Aside0.mk han
        have HRR := Aside0.mk hR2
        clear hR2 hm hfo han h14 h17 h14b h17b
        go_enter Tryd.func30, Tryd.ntmps30
        go_wp2_with fail
        refine (code_May.calls 45 (an : Int) _ (tab_below HT.out HB2.out)).mono ?_
        rintro e w3 ⟨rfl, hb⟩
        rw [HM.out]
        obtain ⟨m0, m1, m2, m3⟩ := facts4 (blk_below HGm.out hb)
        obtain ⟨i0, i1, _, _⟩ := facts2 (blk_below HGi.out hb)
        have HGm3 := Aside0.mk (blk_below HGm.out hb)
        have HGi3 := Aside0.mk (blk_below HGi.out hb)
        have HB3 := Aside0.mk (below_step HB2.out hb)
        clear hb
        go_wp2_with fail
        refine (code_found.calls A0 c0 n0 A1 c1 n1 A2 c2 n2 A3 c3 l3 fn 45 (an : Int) _ (Kd.C_below HR3.out HB3.out) HF.out).mono ?_
        rintro e w4 ⟨rfl, hb⟩
        rw [HFO.out]
        clear m0 m1 m2 m3 i0 i1
        obtain ⟨m0, m1, m2, m3⟩ := facts4 (blk_below HGm3.out hb)
        obtain ⟨i0, i1, j0, j1⟩ := facts2 (blk_below HGi3.out hb)
        have HB4 := Aside0.mk (below_step HB3.out hb)
        clear hb HGm3 HGi3
        obtain ⟨ad, A5, c5, A6, c6, A7, c7, rfl, q0, q1, q2, q3, q4, q5, _⟩ := at_T41 (Kd.C_below HR3.out HB4.out) (an : Int) (by omega) (by have := HAN.out; omega)
        rw [Int.toNat_natCast] at q0 q1 q2 q3 q4 q5
        obtain ⟨G, hG⟩ : ∃ G, rd_T41 l3 (an : Int) = G := ⟨_, rfl⟩
        rw [hG] at q1 q2 HRR
        obtain rfl := HRR.out
        clear HRR hG q0 q3 q4 q5
        go_wp2_with fail
        refine start_ (n := 19) (S := fun w' => w'.cell? ⟨w.heap.size, 3, none⟩ = some (.slice (some ad) l3.length c3) ∧ w'.cell? ⟨w.heap.size + 1, 1, none⟩ = some (.int .i64 (an : Int)) ∧ w'.cell? ⟨(ad.add (an * 6)).block, (ad.add (an * 6)).off + 1, none⟩ = some (.slice A5 G.f1.length c5) ∧ w'.cell? ⟨(ad.add (an * 6)).block, (ad.add (an * 6)).off + 2, none⟩ = some (.slice A6 G.f2.length c6)) (ds := []) #[false, false, false, false, false, false, false, false, false, false, false, false, false, false, false, false, false, false, false] (by kernel_rfl) rfl rfl ⟨m3, i1, q1, q2⟩ (fun hHeld => ?_)
        refine pure_ (i := 0) (N := some 43) (v := ?_) (a' := ?_) #[true, false, false, false, false, false, false, false, false, false, false, false, false, false, false, false, false, false, false] rfl rfl (by kernel_rfl) (fun _ _ _ h => h) (Or.inl ⟨by rfl, ?_⟩) ?_ ?_
        rotate_left
        · intro w'
          go_simp
          with_reducible rfl
        rotate_left
        · simp only [Act.put, List.setIfInBounds_toArray, List.set_cons_zero, List.set_cons_succ, i64_w, i32_w]
          rfl
        refine pure_ (i := 2) (N := some 45) (v := ?_) (a' := ?_) #[true, false, true, false, false, false, false, false, false, false, false, false, false, false, false, false, false, false, false] rfl rfl (by kernel_rfl) (fun _ _ _ h => h) (Or.inl ⟨by rfl, ?_⟩) ?_ ?_
        rotate_left
        · intro w'
          go_simp
          with_reducible rfl
        rotate_left
        · simp only [Act.put, List.setIfInBounds_toArray, List.set_cons_zero, List.set_cons_succ, i64_w, i32_w]
          rfl
        refine pure_ (i := 8) (N := some 51) (v := ?_) (a' := ?_) #[true, false, true, false, false, false, false, false, true, false, false, false, false, false, false, false, false, false, false] rfl rfl (by kernel_rfl) (fun _ _ _ h => h) (Or.inl ⟨by rfl, ?_⟩) ?_ ?_
        rotate_left
        · intro w'
          go_simp
          with_reducible rfl
        rotate_left
        · simp only [Act.put, List.setIfInBounds_toArray, List.set_cons_zero, List.set_cons_succ, i64_w, i32_w]
          rfl
        refine pure_ (i := 10) (N := some 53) (v := ?_) (a' := ?_) #[true, false, true, false, false, false, false, false, true, false, true, false, false, false, false, false, false, false, false] rfl rfl (by kernel_rfl) (fun _ _ _ h => h) (Or.inl ⟨by rfl, ?_⟩) ?_ ?_
        rotate_left
        · intro w'
          go_simp
          with_reducible rfl
        rotate_left
        · simp only [Act.put, List.setIfInBounds_toArray, List.set_cons_zero, List.set_cons_succ, i64_w, i32_w]
          rfl
        refine take_ (i := 1) (N := some 44) (v := ?_) (a' := ?_) #[true, true, true, false, false, false, false, false, true, false, true, false, false, false, false, false, false, false, false] rfl rfl (by kernel_rfl) (fun _ _ _ h => h) (Or.inl ⟨by rfl, ?_⟩) hHeld ?_ ?_
        rotate_left
        · rintro w' ⟨s0, s1, s2, s3⟩
          go_simp
          with_reducible rfl
        rotate_left
        · simp only [Act.put, List.setIfInBounds_toArray, List.set_cons_zero, List.set_cons_succ, i64_w, i32_w]
          rfl
        refine take_ (i := 3) (N := some 46) (v := ?_) (a' := ?_) #[true, true, true, true, false, false, false, false, true, false, true, false, false, false, false, false, false, false, false] rfl rfl (by kernel_rfl) (fun _ _ _ h => h) (Or.inl ⟨by rfl, ?_⟩) hHeld ?_ ?_
        rotate_left
        · rintro w' ⟨s0, s1, s2, s3⟩
          go_simp
          with_reducible rfl
        rotate_left
        · simp only [Act.put, List.setIfInBounds_toArray, List.set_cons_zero, List.set_cons_succ, i64_w, i32_w]
          rfl
        refine pure_ (i := 4) (N := some 47) (v := ?_) (a' := ?_) #[true, true, true, true, true, false, false, false, true, false, true, false, false, false, false, false, false, false, false] rfl rfl (by kernel_rfl) (fun _ _ _ h => h) (Or.inl ⟨by rfl, ?_⟩) ?_ ?_
        rotate_left
        · intro w'
          go_simp
          with_reducible rfl
        rotate_left
        · simp only [Act.put, List.setIfInBounds_toArray, List.set_cons_zero, List.set_cons_succ, i64_w, i32_w]
          rfl
        refine pure_ (i := 5) (N := some 48) (v := ?_) (a' := ?_) #[true, true, true, true, true, true, false, false, true, false, true, false, false, false, false, false, false, false, false] rfl rfl (by kernel_rfl) (fun _ _ _ h => h) (Or.inl ⟨by rfl, ?_⟩) ?_ ?_
        rotate_left
        · intro w'
          go_simp
          with_reducible rfl
        rotate_left
        · simp only [Act.put, List.setIfInBounds_toArray, List.set_cons_zero, List.set_cons_succ, i64_w, i32_w]
          rfl
        refine take_ (i := 6) (N := some 49) (v := ?_) (a' := ?_) #[true, true, true, true, true, true, true, false, true, false, true, false, false, false, false, false, false, false, false] rfl rfl (by kernel_rfl) (fun _ _ _ h => h) (Or.inl ⟨by rfl, ?_⟩) hHeld ?_ ?_
        rotate_left
        · rintro w' ⟨s0, s1, s2, s3⟩
          go_simp
          with_reducible rfl
        rotate_left
        · simp only [Act.put, List.setIfInBounds_toArray, List.set_cons_zero, List.set_cons_succ, i64_w, i32_w]
          rfl
        refine pure_ (i := 7) (N := some 50) (v := ?_) (a' := ?_) #[true, true, true, true, true, true, true, true, true, false, true, false, false, false, false, false, false, false, false] rfl rfl (by kernel_rfl) (fun _ _ _ h => h) (Or.inl ⟨by rfl, ?_⟩) ?_ ?_
        rotate_left
        · intro w'
          go_simp
          with_reducible rfl
        rotate_left
        · simp only [Act.put, List.setIfInBounds_toArray, List.set_cons_zero, List.set_cons_succ, i64_w, i32_w]
          rfl
        refine pure_ (i := 16) (N := some 6) (v := ?_) (a' := ?_) #[true, true, true, true, true, true, true, true, true, false, true, false, false, false, false, false, true, false, false] rfl rfl (by kernel_rfl) (fun _ _ _ h => h) (Or.inl ⟨by rfl, ?_⟩) ?_ ?_
        rotate_left
        · intro w'
          go_simp
          with_reducible rfl
        rotate_left
        · simp only [Act.put, List.setIfInBounds_toArray, List.set_cons_zero, List.set_cons_succ, i64_w, i32_w]
          rfl
        refine take_ (i := 9) (N := some 52) (v := ?_) (a' := ?_) #[true, true, true, true, true, true, true, true, true, true, true, false, false, false, false, false, true, false, false] rfl rfl (by kernel_rfl) (fun _ _ _ h => h) (Or.inl ⟨by rfl, ?_⟩) hHeld ?_ ?_
        rotate_left
        · rintro w' ⟨s0, s1, s2, s3⟩
          go_simp
          with_reducible rfl
        rotate_left
        · simp only [Act.put, List.setIfInBounds_toArray, List.set_cons_zero, List.set_cons_succ, i64_w, i32_w]
          rfl
        refine take_ (i := 11) (N := some 54) (v := ?_) (a' := ?_) #[true, true, true, true, true, true, true, true, true, true, true, true, false, false, false, false, true, false, false] rfl rfl (by kernel_rfl) (fun _ _ _ h => h) (Or.inl ⟨by rfl, ?_⟩) hHeld ?_ ?_
        rotate_left
        · rintro w' ⟨s0, s1, s2, s3⟩
          go_simp
          with_reducible rfl
        rotate_left
        · simp only [Act.put, List.setIfInBounds_toArray, List.set_cons_zero, List.set_cons_succ, i64_w, i32_w]
          rfl
        refine pure_ (i := 12) (N := some 55) (v := ?_) (a' := ?_) #[true, true, true, true, true, true, true, true, true, true, true, true, true, false, false, false, true, false, false] rfl rfl (by kernel_rfl) (fun _ _ _ h => h) (Or.inl ⟨by rfl, ?_⟩) ?_ ?_
        rotate_left
        · intro w'
          go_simp
          with_reducible rfl
        rotate_left
        · simp only [Act.put, List.setIfInBounds_toArray, List.set_cons_zero, List.set_cons_succ, i64_w, i32_w]
          rfl
        refine pure_ (i := 13) (N := some 56) (v := ?_) (a' := ?_) #[true, true, true, true, true, true, true, true, true, true, true, true, true, true, false, false, true, false, false] rfl rfl (by kernel_rfl) (fun _ _ _ h => h) (Or.inl ⟨by rfl, ?_⟩) ?_ ?_
        rotate_left
        · intro w'
          go_simp
          with_reducible rfl
        rotate_left
        · simp only [Act.put, List.setIfInBounds_toArray, List.set_cons_zero, List.set_cons_succ, i64_w, i32_w]
          rfl
        refine take_ (i := 14) (N := some 57) (v := ?_) (a' := ?_) #[true, true, true, true, true, true, true, true, true, true, true, true, true, true, true, false, true, false, false] rfl rfl (by kernel_rfl) (fun _ _ _ h => h) (Or.inl ⟨by rfl, ?_⟩) hHeld ?_ ?_
        rotate_left
        · rintro w' ⟨s0, s1, s2, s3⟩
          go_simp
          with_reducible rfl
        rotate_left
        · simp only [Act.put, List.setIfInBounds_toArray, List.set_cons_zero, List.set_cons_succ, i64_w, i32_w]
          rfl
        refine pure_ (i := 15) (N := some 58) (v := ?_) (a' := ?_) #[true, true, true, true, true, true, true, true, true, true, true, true, true, true, true, true, true, false, false] rfl rfl (by kernel_rfl) (fun _ _ _ h => h) (Or.inl ⟨by rfl, ?_⟩) ?_ ?_
        rotate_left
        · intro w'
          go_simp
          with_reducible rfl
        rotate_left
        · simp only [Act.put, List.setIfInBounds_toArray, List.set_cons_zero, List.set_cons_succ, i64_w, i32_w]
          rfl
        refine pure_ (i := 17) (N := some 7) (v := ?_) (a' := ?_) #[true, true, true, true, true, true, true, true, true, true, true, true, true, true, true, true, true, true, false] rfl rfl (by kernel_rfl) (fun _ _ _ h => h) (Or.inl ⟨by rfl, ?_⟩) ?_ ?_
        rotate_left
        · intro w'
          go_simp
          with_reducible rfl
        rotate_left
        · simp only [Act.put, List.setIfInBounds_toArray, List.set_cons_zero, List.set_cons_succ, i64_w, i32_w]
          rfl
        refine pure_ (i := 18) (N := some 8) (v := ?_) (a' := ?_) #[true, true, true, true, true, true, true, true, true, true, true, true, true, true, true, true, true, true, true] rfl rfl (by kernel_rfl) (fun _ _ _ h => h) (Or.inl ⟨by rfl, ?_⟩) ?_ ?_
        rotate_left
        · intro w'
          go_simp
          with_reducible rfl
        rotate_left
        · simp only [Act.put, List.setIfInBounds_toArray, List.set_cons_zero, List.set_cons_succ, i64_w, i32_w]
          rfl
        refine done_ (by kernel_rfl) ?_
        try go_wp2
        go_ret3
        exact ⟨rfl, below_drew1 HB4.out⟩
      have h45b : (op == 45) = false := beq_eq_false_iff_ne.mpr h45
      rw [if_neg h45] at hR2
      by_cases h46 : op = 46
      · subst h46
        rw [if_pos rfl] at hR2
        have HRR := Aside0.mk hR2
        clear hR2 hm hfo h14 h17 h14b h17b
        go_enter Tryd.func30, Tryd.ntmps30
        go_wp2_with fail
        refine (code_May.calls 46 a _ (tab_below HT.out HB2.out)).mono ?_
        rintro e w3 ⟨rfl, hb⟩
        rw [HM.out]
        obtain ⟨m0, m1, m2, m3⟩ := facts4 (blk_below HGm.out hb)
        obtain ⟨i0, i1, _, _⟩ := facts2 (blk_below HGi.out hb)
        have HGm3 := Aside0.mk (blk_below HGm.out hb)
        have HGi3 := Aside0.mk (blk_below HGi.out hb)
        have HB3 := Aside0.mk (below_step HB2.out hb)
        clear hb
        go_wp2_with fail
        refine (code_found.calls A0 c0 n0 A1 c1 n1 A2 c2 n2 A3 c3 l3 fn 46 a _ (Kd.C_below HR3.out HB3.out) HF.out).mono ?_
        rintro e w4 ⟨rfl, hb⟩
        rw [HFO.out]
        clear m0 m1 m2 m3 i0 i1
        obtain ⟨m0, m1, m2, m3⟩ := facts4 (blk_below HGm3.out hb)
        obtain ⟨i0, i1, j0, j1⟩ := facts2 (blk_below HGi3.out hb)
        have HB4 := Aside0.mk (below_step HB3.out hb)
        clear hb HGm3 HGi3
        obtain ⟨ad, A5, c5, A6, c6, A7, c7, rfl, q0, q1, q2, q3, q4, q5, _⟩ := at_T41 (Kd.C_below HR3.out HB4.out) (fn : Int) (by omega) (by have := HF.out; omega)
        rw [Int.toNat_natCast] at q0 q1 q2 q3 q4 q5
        obtain ⟨G, hG⟩ : ∃ G, rd_T41 l3 (fn : Int) = G := ⟨_, rfl⟩
        rw [hG] at q1 q2 HRR
        obtain rfl := HRR.out
        clear HRR hG q0 q3 q4 q5
        go_wp2
        go_ret3
        exact ⟨rfl, HB4.out⟩
      have h46b : (op == 46) = false := beq_eq_false_iff_ne.mpr h46
      rw [if_neg h46] at hR2
      obtain ⟨n, hn, hop⟩ : ∃ n : Nat, n < 16 ∧ op = (n : Int) + 32 := by
        have hv : validOp op = true := by
          unfold mayOf at hm
          revert hm
          cases validOp op <;> simp
        have hv2 : 1 ≤ op ∧ op ≤ 17 ∨ 32 ≤ op ∧ op ≤ 47 := by simpa [validOp] using hv
        exact ⟨(op - 32).toNat, by omega, by omega⟩
      rw [show (op - 32).toNat = n by omega] at hR2
      have hsub : wrap64 (op - 32) = (n : Int) := by unfold wrap64; omega
      obtain ⟨x, hx⟩ : ∃ x, (effL.getD n (0, 0)).1 = x := ⟨_, rfl⟩
      obtain ⟨y, hy⟩ : ∃ y, (effL.getD n (0, 0)).2 = y := ⟨_, rfl⟩
      have hidx : ∀ W : World, (Instr.index 116 (.agg effCells) (.int .i64 (n : Int))).run Tryd.prog W = .ok (.agg #[.int .i64 x, .int .i64 y]) W := by
        intro W
        rw [← hx, ← hy]
        exact eff_index n hn W
      rw [hx, hy] at hR2
      obtain rfl := hR2
      clear hx hy hn hop hm hfo h14 h17 h45 h46
      go_enter Tryd.func30, Tryd.ntmps30
      go_wp2_with fail
      refine (code_May.calls op a _ (tab_below HT.out HB2.out)).mono ?_
      rintro e w3 ⟨rfl, hb⟩
      rw [HM.out]
      obtain ⟨m0, m1, m2, m3⟩ := facts4 (blk_below HGm.out hb)
      obtain ⟨i0, i1, _, _⟩ := facts2 (blk_below HGi.out hb)
      have HGm3 := Aside0.mk (blk_below HGm.out hb)
      have HGi3 := Aside0.mk (blk_below HGi.out hb)
      have HB3 := Aside0.mk (below_step HB2.out hb)
      clear hb
      go_wp2_with fail
      refine (code_found.calls A0 c0 n0 A1 c1 n1 A2 c2 n2 A3 c3 l3 fn op a _ (Kd.C_below HR3.out HB3.out) HF.out).mono ?_
      rintro e w4 ⟨rfl, hb⟩
      rw [HFO.out]
      clear m0 m1 m2 m3 i0 i1
      obtain ⟨m0, m1, m2, m3⟩ := facts4 (blk_below HGm3.out hb)
      obtain ⟨i0, i1, j0, j1⟩ := facts2 (blk_below HGi3.out hb)
      have HB4 := Aside0.mk (below_step HB3.out hb)
      clear hb HGm3 HGi3
      go_wp2_with fail
      refine start_ (n := 7) (S := fun w' => w'.cell? ⟨w.heap.size + 1, 0, none⟩ = some (.int .i64 op)) (ds := [6]) #[false, false, false, false, false, false, false] (by kernel_rfl) rfl rfl (i0) (fun hHeld => ?_)
      refine pure_ (i := 1) (N := some 71) (v := ?_) (a' := ?_) #[false, true, false, false, false, false, false] rfl rfl (by kernel_rfl) (fun _ _ _ h => h) (Or.inl ⟨by rfl, ?_⟩) ?_ ?_
      rotate_left
      · intro w'
        go_simp
        with_reducible rfl
      rotate_left
      · simp only [Act.put, List.setIfInBounds_toArray, List.set_cons_zero, List.set_cons_succ, i64_w, i32_w]
        rfl
      refine take_ (i := 2) (N := some 72) (v := ?_) (a' := ?_) #[false, true, true, false, false, false, false] rfl rfl (by kernel_rfl) (fun _ _ _ h => h) (Or.inl ⟨by rfl, ?_⟩) hHeld ?_ ?_
      rotate_left
      · intro w' s0
        go_simp
        with_reducible rfl
      rotate_left
      · simp only [Act.put, List.setIfInBounds_toArray, List.set_cons_zero, List.set_cons_succ, i64_w, i32_w]
        rfl
      refine pure_ (i := 3) (N := some 73) (v := ?_) (a' := ?_) #[false, true, true, true, false, false, false] rfl rfl (by kernel_rfl) (fun _ _ _ h => h) (Or.inl ⟨by rfl, ?_⟩) ?_ ?_
      rotate_left
      · intro w'
        go_simp
        with_reducible rfl
      rotate_left
      · simp only [Act.put, List.setIfInBounds_toArray, List.set_cons_zero, List.set_cons_succ, i64_w, i32_w]
        rfl
      refine join_ (σ := Nat) 1 #[true, true, true, true, true, true, false] (fun s => [(70, .agg effCells), (74, .agg #[.int .i64 x, .int .i64 y]), (9, .pointer (some ⟨s, 0, none⟩))]) (fun s w' => w'.heap[s]? = some (.cells #[.int .i64 0, .int .i64 0] 73 (0, 0)) ∧ w'.cell? ⟨w.heap.size + 1, 0, none⟩ = some (.int .i64 op) ∧ w.heap.size ≤ s ∧ Below w.heap.size w w') ?_ ?_
      rotate_left
      · intro hCont
        refine two_ (i := 0) (j := 5) (Ni := some 70) (Nj := some 9) #[true, true, true, true, false, false, false] #[false, true, true, true, false, true, false] rfl rfl rfl rfl (by kernel_rfl) (by decide) (by decide) (fun K hK => ?_) (fun K hK => ?_)
        · skip
          refine goes_ Tryd.func75 (by kernel_rfl) rfl #[] (by rfl) rfl rfl (by (try simp only [List.map_toArray, List.map_cons, List.map_nil]); first | done | rfl) ?_
          with_reducible refine (code_effects.calls _).mono ?_
          rintro e w5 ⟨rfl, hb5⟩
          refine ⟨_, rfl, ?_⟩
          refine hK.out _ _ (((hb5.cell (World.block_lt_of_cell? _ _ hHeld)).trans hHeld)) (fun hHeld => ?_)
          clear hK K
          refine norm_ (a' := ?_) ?_ ?_
          rotate_left
          · show Act.put _ (some 70) _ = _
            simp only [Act.put, List.setIfInBounds_toArray, List.set_cons_zero, List.set_cons_succ, i64_w, i32_w]
            rfl
          refine take_ (i := 4) (N := some 74) (v := ?_) (a' := ?_) #[true, true, true, true, true, false, false] rfl rfl (by kernel_rfl) (fun _ _ _ h => h) (Or.inl ⟨by rfl, ?_⟩) hHeld ?_ ?_
          rotate_left
          · intro w' s0
            go_simp
            with_reducible rfl
          rotate_left
          · simp only [Act.put, List.setIfInBounds_toArray, List.set_cons_zero, List.set_cons_succ, i64_w, i32_w]
            rfl
          refine one_ (i := 5) (N := some 9) #[true, true, true, true, true, true, false] rfl rfl (by kernel_rfl) (by decide) (fun K hK => ?_)
          refine value_ (w1 := ?_) (v := ?_) (by rfl) rfl ?_ ?_
          rotate_left 2
          · go_simp
            constructor
            · rfl
            · rfl
          refine hK.out _ _ ((pw_cell_below (below_alloc (Below.refl _ _) _) hHeld)) (fun hHeld => ?_)
          clear hK K
          refine norm_ (a' := ?_) ?_ ?_
          rotate_left
          · show Act.put _ (some 9) _ = _
            simp only [Act.put, List.setIfInBounds_toArray, List.set_cons_zero, List.set_cons_succ, i64_w, i32_w]
            rfl
          exact norm_ (by simp only [putAll, Act.put, List.setIfInBounds_toArray, List.set_cons_zero, List.set_cons_succ]) (hCont w5.heap.size _ ⟨heap_alloc_new w5 _, hHeld, below_size (below_step (below_drew1 HB4.out) hb5), below_alloc (below_step (below_drew1 HB4.out) hb5) _⟩)
        · skip
          refine value_ (w1 := ?_) (v := ?_) (by rfl) rfl ?_ ?_
          rotate_left 2
          · go_simp
            constructor
            · rfl
            · rfl
          refine hK.out _ _ ((pw_cell_below (below_alloc (Below.refl _ _) _) hHeld)) (fun hHeld => ?_)
          clear hK K
          refine norm_ (a' := ?_) ?_ ?_
          rotate_left
          · show Act.put _ (some 9) _ = _
            simp only [Act.put, List.setIfInBounds_toArray, List.set_cons_zero, List.set_cons_succ, i64_w, i32_w]
            rfl
          refine one_ (i := 0) (N := some 70) #[true, true, true, true, false, true, false] rfl rfl (by kernel_rfl) (by decide) (fun K hK => ?_)
          refine goes_ Tryd.func75 (by kernel_rfl) rfl #[] (by rfl) rfl rfl (by (try simp only [List.map_toArray, List.map_cons, List.map_nil]); first | done | rfl) ?_
          with_reducible refine (code_effects.calls _).mono ?_
          rintro e w5 ⟨rfl, hb5⟩
          refine ⟨_, rfl, ?_⟩
          refine hK.out _ _ (((hb5.cell (World.block_lt_of_cell? _ _ hHeld)).trans hHeld)) (fun hHeld => ?_)
          clear hK K
          refine norm_ (a' := ?_) ?_ ?_
          rotate_left
          · show Act.put _ (some 70) _ = _
            simp only [Act.put, List.setIfInBounds_toArray, List.set_cons_zero, List.set_cons_succ, i64_w, i32_w]
            rfl
          refine take_ (i := 4) (N := some 74) (v := ?_) (a' := ?_) #[true, true, true, true, true, true, false] rfl rfl (by kernel_rfl) (fun _ _ _ h => h) (Or.inl ⟨by rfl, ?_⟩) hHeld ?_ ?_
          rotate_left
          · intro w' s0
            go_simp
            with_reducible rfl
          rotate_left
          · simp only [Act.put, List.setIfInBounds_toArray, List.set_cons_zero, List.set_cons_succ, i64_w, i32_w]
            rfl
          exact norm_ (by simp only [putAll, Act.put, List.setIfInBounds_toArray, List.set_cons_zero, List.set_cons_succ]) (hCont w4.heap.size _ ⟨blk_below (heap_alloc_new w4.drew _) hb5, hHeld, below_size HB4.out, below_step (below_alloc (below_drew1 HB4.out) _) hb5⟩)
      rintro s w6 ⟨hs, hHeld, hle, hB6⟩
      obtain ⟨c0, c1, g0, g1⟩ := facts2 hs
      refine norm_ (a' := ?_) ?_ ?_
      rotate_left
      · simp only [putAll, Act.put, List.setIfInBounds_toArray, List.set_cons_zero, List.set_cons_succ]
        rfl
      refine last_ (i := 6) (N := none) #[true, true, true, true, true, true, true] rfl rfl (by kernel_rfl) (by decide) (fun K hK => ?_)
      refine skip_ (w1 := ?_) (by rfl) rfl ?_ ?_
      rotate_left
      · go_simp
        rfl
      refine hK.out _ _ ?_
      clear hK K
      refine done_ (by kernel_rfl) ?_
      try go_wp2_with fail
      have hs2 := put2 hs (.int .i64 x) (.int .i64 y)
      obtain ⟨d0, d1, _, _⟩ := facts2 hs2
      refine start_ (n := 7) (S := fun w' => w'.cell? ⟨s, 0, none⟩ = some (.int .i64 x) ∧ w'.cell? ⟨s, 1, none⟩ = some (.int .i64 y)) (ds := []) #[false, false, false, false, false, false, false] (by kernel_rfl) rfl rfl ⟨d0, d1⟩ (fun hHeld => ?_)
      refine pure_ (i := 0) (N := some 75) (v := ?_) (a' := ?_) #[true, false, false, false, false, false, false] rfl rfl (by kernel_rfl) (fun _ _ _ h => h) (Or.inl ⟨by rfl, ?_⟩) ?_ ?_
      rotate_left
      · intro w'
        go_simp
        with_reducible rfl
      rotate_left
      · simp only [Act.put, List.setIfInBounds_toArray, List.set_cons_zero, List.set_cons_succ, i64_w, i32_w]
        rfl
      refine pure_ (i := 2) (N := some 77) (v := ?_) (a' := ?_) #[true, false, true, false, false, false, false] rfl rfl (by kernel_rfl) (fun _ _ _ h => h) (Or.inl ⟨by rfl, ?_⟩) ?_ ?_
      rotate_left
      · intro w'
        go_simp
        with_reducible rfl
      rotate_left
      · simp only [Act.put, List.setIfInBounds_toArray, List.set_cons_zero, List.set_cons_succ, i64_w, i32_w]
        rfl
      refine take_ (i := 1) (N := some 76) (v := ?_) (a' := ?_) #[true, true, true, false, false, false, false] rfl rfl (by kernel_rfl) (fun _ _ _ h => h) (Or.inl ⟨by rfl, ?_⟩) hHeld ?_ ?_
      rotate_left
      · rintro w' ⟨s0, s1⟩
        go_simp
        with_reducible rfl
      rotate_left
      · simp only [Act.put, List.setIfInBounds_toArray, List.set_cons_zero, List.set_cons_succ, i64_w, i32_w]
        rfl
      refine pure_ (i := 4) (N := some 6) (v := ?_) (a' := ?_) #[true, true, true, false, true, false, false] rfl rfl (by kernel_rfl) (fun _ _ _ h => h) (Or.inl ⟨by rfl, ?_⟩) ?_ ?_
      rotate_left
      · intro w'
        go_simp
        with_reducible rfl
      rotate_left
      · simp only [Act.put, List.setIfInBounds_toArray, List.set_cons_zero, List.set_cons_succ, i64_w, i32_w]
        rfl
      refine take_ (i := 3) (N := some 78) (v := ?_) (a' := ?_) #[true, true, true, true, true, false, false] rfl rfl (by kernel_rfl) (fun _ _ _ h => h) (Or.inl ⟨by rfl, ?_⟩) hHeld ?_ ?_
      rotate_left
      · rintro w' ⟨s0, s1⟩
        go_simp
        with_reducible rfl
      rotate_left
      · simp only [Act.put, List.setIfInBounds_toArray, List.set_cons_zero, List.set_cons_succ, i64_w, i32_w]
        rfl
      refine pure_ (i := 5) (N := some 7) (v := ?_) (a' := ?_) #[true, true, true, true, true, true, false] rfl rfl (by kernel_rfl) (fun _ _ _ h => h) (Or.inl ⟨by rfl, ?_⟩) ?_ ?_
      rotate_left
      · intro w'
        go_simp
        with_reducible rfl
      rotate_left
      · simp only [Act.put, List.setIfInBounds_toArray, List.set_cons_zero, List.set_cons_succ, i64_w, i32_w]
        rfl
      refine pure_ (i := 6) (N := some 8) (v := ?_) (a' := ?_) #[true, true, true, true, true, true, true] rfl rfl (by kernel_rfl) (fun _ _ _ h => h) (Or.inl ⟨by rfl, ?_⟩) ?_ ?_
      rotate_left
      · intro w'
        go_simp
        with_reducible rfl
      rotate_left
      · simp only [Act.put, List.setIfInBounds_toArray, List.set_cons_zero, List.set_cons_succ, i64_w, i32_w]
        rfl
      refine done_ (by kernel_rfl) ?_
      try go_wp2
      go_ret3
      exact ⟨rfl, below_drew1 (below_set (below_set hB6 hle) hle)⟩
    · have hfo2 : foundOf op a n0 n1 n2 l3.length (rd_T41 l3 (fn : Int)) = false := by simpa using hfo
      have HFO := Aside0.mk hfo2
      obtain rfl : (0, 0, false) = R := by rw [← hR]; unfold effectOf; rw [if_neg (show ¬ ((fn : Int) < 0 ∨ (l3.length : Int) ≤ (fn : Int)) by have := HF.out; omega), if_neg (fun h => hfo h.2)]
      clear hR hm hfo hfo2
      go_enter Tryd.func30, Tryd.ntmps30
      go_wp2_with fail
      refine (code_May.calls op a _ (tab_below HT.out HB2.out)).mono ?_
      rintro e w3 ⟨rfl, hb⟩
      rw [HM.out]
      obtain ⟨m0, m1, m2, m3⟩ := facts4 (blk_below HGm.out hb)
      obtain ⟨i0, i1, _, _⟩ := facts2 (blk_below HGi.out hb)
      have HGm3 := Aside0.mk (blk_below HGm.out hb)
      have HGi3 := Aside0.mk (blk_below HGi.out hb)
      have HB3 := Aside0.mk (below_step HB2.out hb)
      clear hb
      go_wp2_with fail
      refine (code_found.calls A0 c0 n0 A1 c1 n1 A2 c2 n2 A3 c3 l3 fn op a _ (Kd.C_below HR3.out HB3.out) HF.out).mono ?_
      rintro e w4 ⟨rfl, hb⟩
      rw [HFO.out]
      clear m0 m1 m2 m3 i0 i1
      obtain ⟨m0, m1, m2, m3⟩ := facts4 (blk_below HGm3.out hb)
      obtain ⟨i0, i1, j0, j1⟩ := facts2 (blk_below HGi3.out hb)
      have HB4 := Aside0.mk (below_step HB3.out hb)
      clear hb HGm3 HGi3
      go_wp2
      go_ret3
      exact ⟨rfl, HB4.out⟩
  · have hm2 : mayOf op a = false := by simpa using hm
    have HM := Aside0.mk hm2
    obtain rfl : (0, 0, false) = R := by rw [← hR]; unfold effectOf; rw [if_neg (show ¬ ((fn : Int) < 0 ∨ (l3.length : Int) ≤ (fn : Int)) by have := HF.out; omega), if_neg (fun h => hm h.1)]
    clear hR hm hm2
    go_enter Tryd.func30, Tryd.ntmps30
    go_wp2_with fail
    refine (code_May.calls op a _ (tab_below HT.out HB2.out)).mono ?_
    rintro e w3 ⟨rfl, hb⟩
    rw [HM.out]
    obtain ⟨m0, m1, m2, m3⟩ := facts4 (blk_below HGm.out hb)
    obtain ⟨i0, i1, _, _⟩ := facts2 (blk_below HGi.out hb)
    have HGm3 := Aside0.mk (blk_below HGm.out hb)
    have HGi3 := Aside0.mk (blk_below HGi.out hb)
    have HB3 := Aside0.mk (below_step HB2.out hb)
    clear hb
    go_wp2
    go_ret3
    exact ⟨rfl, HB3.out⟩
end Go.Proofs.YtgpdaihfjnihhaaDoor.PJ
