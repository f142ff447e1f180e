/- louverkit.Function and louverkit.Module tell that equal ones are the same. -/
import Derived.Test.YtgpdaihfjnihhaaDoorQPJx0
import Derived.Test.YtgpdaihfjnihhaaDoorQHandHeapy
import Derived.Test.YtgpdaihfjnihhaaDoorQPKit
namespace Go.Proofs.YtgpdaihfjnihhaaDoor.PJ
open Go.RowKit Go.Proofs.YtgpdaihfjnihhaaDoorW.PrintWords Go.Proofs.YtgpdaihfjnihhaaDoorW.PrintLast Go.Proofs.YtgpdaihfjnihhaaDoorW.PrintMore
set_option linter.unusedSimpArgs false
set_option linter.unusedVariables false
theorem same_labels (l : List Int) (hm : l.length ≤ 9223372036854775807) : louverkit_Labels.f (l.length + 1) l l = some true := by
 have key : ∀ d i k, i + d = l.length → d < k → louverkit_Labels.l0 k l l (i : Int) = some true := by
  intro d
  induction d with
  | zero =>
   intro i k hi hk
   obtain ⟨m, rfl⟩ : ∃ m, k = m + 1 := ⟨k - 1, by omega⟩
   rw [louverkit_Labels.l0, if_neg (by omega)]
  | succ d ih =>
   intro i k hi hk
   obtain ⟨m, rfl⟩ : ∃ m, k = m + 1 := ⟨k - 1, by omega⟩
   rw [louverkit_Labels.l0, if_pos (by omega), if_pos (by omega), if_pos (by omega), if_pos rfl, show wrap64 ((i : Int) + 1) = ((i + 1 : Nat) : Int) by unfold wrap64; omega]
   exact ih (i + 1) m (by omega) (by omega)
 unfold louverkit_Labels.f
 rw [if_pos rfl]
 exact key l.length 0 _ (by omega) (by omega)
theorem same_code (l : List S44) (hm : l.length ≤ 9223372036854775807) : louverkit_Code.f (l.length + 1) l l = some true := by
 have key : ∀ d i k, i + d = l.length → d < k → louverkit_Code.l0 k l l (i : Int) = some true := by
  intro d
  induction d with
  | zero =>
   intro i k hi hk
   obtain ⟨m, rfl⟩ : ∃ m, k = m + 1 := ⟨k - 1, by omega⟩
   rw [louverkit_Code.l0, if_neg (by omega)]
  | succ d ih =>
   intro i k hi hk
   obtain ⟨m, rfl⟩ : ∃ m, k = m + 1 := ⟨k - 1, by omega⟩
   rw [louverkit_Code.l0, if_pos (by omega), if_pos (by omega), if_pos (by omega), if_neg (by simp), show wrap64 ((i : Int) + 1) = ((i + 1 : Nat) : Int) by unfold wrap64; omega]
   exact ih (i + 1) m (by omega) (by omega)
 unfold louverkit_Code.f
 rw [if_pos rfl]
 exact key l.length 0 _ (by omega) (by omega)
theorem same_arr (d : Nat) (w : World) (x0 y0 : Int) (x1 y1 : Int) : (Op.equalIn (d + 2) 38 (.agg #[.int .i64 x0, .int .u64 x1]) (.agg #[.int .i64 y0, .int .u64 y1])).run Tryd.prog w = .ok (x0 == y0 && (x1 == y1)) w := by
 refine eqA_of Tryd.underlying38 (by kernel_rfl) ?_
 refine eqf_cons (by rfl) (by go_simp; rfl) (by go_simp; rfl) (by go_simp) ?_
 exact eqf_last (by rfl) (by go_simp; rfl) (by go_simp; rfl) (by go_simp)
theorem same6 {w : World} {g t : Nat} {a b c d e f : Value} (h : w.heap[g]? = some (.cells #[a, b, c, d, e, f] t (0, 0))) : w.cell? ⟨g, 0, none⟩ = some a ∧ w.cell? ⟨g, 1, none⟩ = some b ∧ w.cell? ⟨g, 2, none⟩ = some c ∧ w.cell? ⟨g, 3, none⟩ = some d ∧ w.cell? ⟨g, 4, none⟩ = some e ∧ w.cell? ⟨g, 5, none⟩ = some f :=
 ⟨blk_cell h 0, blk_cell h 1, blk_cell h 2, blk_cell h 3, blk_cell h 4, blk_cell h 5⟩
theorem same4 {w : World} {g t : Nat} {a b c d : Value} (h : w.heap[g]? = some (.cells #[a, b, c, d] t (0, 0))) : w.cell? ⟨g, 0, none⟩ = some a ∧ w.cell? ⟨g, 1, none⟩ = some b ∧ w.cell? ⟨g, 2, none⟩ = some c ∧ w.cell? ⟨g, 3, none⟩ = some d :=
 ⟨blk_cell h 0, blk_cell h 1, blk_cell h 2, blk_cell h 3⟩
theorem same_next (w : World) (a b : Obj) : ((w.alloc a).alloc b).heap[w.heap.size + 1]? = some b := by
 have := heap_alloc_new (w.alloc a) b
 simpa using this
set_option maxHeartbeats 16000000 in
set_option maxRecDepth 100000 in
theorem functionSame.calls (x : S41) (A1 A2 A5 B1 B2 B5 : Option Addr) (c1 c2 c5 d1 d2 d5 : Nat) (w : World)
  (h1 : Kd.C (Kd.int .u64) w A1 x.f1.length x.f1) (k1 : x.f1.length ≤ c1) (h2 : Kd.C (Kd.int .u64) w A2 x.f2.length x.f2) (k2 : x.f2.length ≤ c2) (h5 : Kd.C k44 w A5 x.f5.length x.f5) (k5 : x.f5.length ≤ c5)
  (g1 : Kd.C (Kd.int .u64) w B1 x.f1.length x.f1) (m1 : x.f1.length ≤ d1) (g2 : Kd.C (Kd.int .u64) w B2 x.f2.length x.f2) (m2 : x.f2.length ≤ d2) (g5 : Kd.C k44 w B5 x.f5.length x.f5) (m5 : x.f5.length ≤ d5) :
  Calls Tryd.prog 89 #[.agg #[.int .u64 x.f0, .slice A1 x.f1.length c1, .slice A2 x.f2.length c2, .int .i64 x.f3, .int .i64 x.f4, .slice A5 x.f5.length c5], .agg #[.int .u64 x.f0, .slice B1 x.f1.length d1, .slice B2 x.f2.length d2, .int .i64 x.f3, .int .i64 x.f4, .slice B5 x.f5.length d5]] w fun e w' => e = .returned (.bool true) ∧ Below w.heap.size w w' := by
 have Zh1 := Aside0.mk h1
 have Zh2 := Aside0.mk h2
 have Zh5 := Aside0.mk h5
 have Zg1 := Aside0.mk g1
 have Zg2 := Aside0.mk g2
 have Zg5 := Aside0.mk g5
 have Zk1 := Aside0.mk k1
 have Zk2 := Aside0.mk k2
 have Zk5 := Aside0.mk k5
 have Zm1 := Aside0.mk m1
 have Zm2 := Aside0.mk m2
 have Zm5 := Aside0.mk m5
 clear h1 h2 h5 g1 g2 g5 k1 k2 k5 m1 m2 m5
 have HB := Aside0.mk (below_alloc (below_alloc (Below.refl w.heap.size w) (.cells #[.int .u64 x.f0, .slice A1 x.f1.length c1, .slice A2 x.f2.length c2, .int .i64 x.f3, .int .i64 x.f4, .slice A5 x.f5.length c5] 41)) (.cells #[.int .u64 x.f0, .slice B1 x.f1.length d1, .slice B2 x.f2.length d2, .int .i64 x.f3, .int .i64 x.f4, .slice B5 x.f5.length d5] 41))
 have HG1 := Aside0.mk (blk_alloc (heap_alloc_new w (.cells #[.int .u64 x.f0, .slice A1 x.f1.length c1, .slice A2 x.f2.length c2, .int .i64 x.f3, .int .i64 x.f4, .slice A5 x.f5.length c5] 41)) (.cells #[.int .u64 x.f0, .slice B1 x.f1.length d1, .slice B2 x.f2.length d2, .int .i64 x.f3, .int .i64 x.f4, .slice B5 x.f5.length d5] 41))
 have HG2 := Aside0.mk (same_next w (.cells #[.int .u64 x.f0, .slice A1 x.f1.length c1, .slice A2 x.f2.length c2, .int .i64 x.f3, .int .i64 x.f4, .slice A5 x.f5.length c5] 41) (.cells #[.int .u64 x.f0, .slice B1 x.f1.length d1, .slice B2 x.f2.length d2, .int .i64 x.f3, .int .i64 x.f4, .slice B5 x.f5.length d5] 41))
 obtain ⟨a0, a1, a2, a3, a4, a5⟩ := same6 HG1.out
 obtain ⟨b0, b1, b2, b3, b4, b5⟩ := same6 HG2.out
 go_enter Tryd.func89, Tryd.ntmps89
 go_wp2_with fail
 refine (louverkit_Labels.calls (x.f1.length + 1) A1 c1 x.f1 B1 d1 x.f1 true _ (Kd.C_below Zh1.out HB.out) Zk1.out (Kd.C_below Zg1.out HB.out) Zm1.out (same_labels x.f1 (Kd.C_max Zh1.out))).mono ?_
 rintro e wx ⟨rfl, hd⟩
 have hb := hd.below
 clear hd a0 a1 a2 a3 a4 a5 b0 b1 b2 b3 b4 b5
 replace HG1 := Aside0.mk (blk_below HG1.out hb)
 replace HG2 := Aside0.mk (blk_below HG2.out hb)
 replace HB := Aside0.mk (below_step HB.out hb)
 clear hb
 obtain ⟨a0, a1, a2, a3, a4, a5⟩ := same6 HG1.out
 obtain ⟨b0, b1, b2, b3, b4, b5⟩ := same6 HG2.out
 go_wp2_with fail
 refine (louverkit_Labels.calls (x.f2.length + 1) A2 c2 x.f2 B2 d2 x.f2 true _ (Kd.C_below Zh2.out HB.out) Zk2.out (Kd.C_below Zg2.out HB.out) Zm2.out (same_labels x.f2 (Kd.C_max Zh2.out))).mono ?_
 rintro e wx ⟨rfl, hd⟩
 have hb := hd.below
 clear hd a0 a1 a2 a3 a4 a5 b0 b1 b2 b3 b4 b5
 replace HG1 := Aside0.mk (blk_below HG1.out hb)
 replace HG2 := Aside0.mk (blk_below HG2.out hb)
 replace HB := Aside0.mk (below_step HB.out hb)
 clear hb
 obtain ⟨a0, a1, a2, a3, a4, a5⟩ := same6 HG1.out
 obtain ⟨b0, b1, b2, b3, b4, b5⟩ := same6 HG2.out
 go_wp2_with fail
 refine (louverkit_Code.calls (x.f5.length + 1) A5 c5 x.f5 B5 d5 x.f5 true _ (Kd.C_below Zh5.out HB.out) Zk5.out (Kd.C_below Zg5.out HB.out) Zm5.out (same_code x.f5 (Kd.C_max Zh5.out))).mono ?_
 rintro e wx ⟨rfl, hd⟩
 have hb := hd.below
 clear hd a0 a1 a2 a3 a4 a5 b0 b1 b2 b3 b4 b5
 replace HG1 := Aside0.mk (blk_below HG1.out hb)
 replace HG2 := Aside0.mk (blk_below HG2.out hb)
 replace HB := Aside0.mk (below_step HB.out hb)
 clear hb
 obtain ⟨a0, a1, a2, a3, a4, a5⟩ := same6 HG1.out
 obtain ⟨b0, b1, b2, b3, b4, b5⟩ := same6 HG2.out
 go_wp2
 go_ret
 exact ⟨rfl, HB.out⟩
set_option maxHeartbeats 16000000 in
set_option maxRecDepth 100000 in
theorem moduleSame.calls (A0 A1 A2 A3 B0 B1 B2 B3 : Option Addr) (c0 c1 c2 c3 d0 d1 d2 d3 : Nat) (l0 : List Int) (l1 : List S38) (l2 : List Int) (l3 : List S41) (w : World)
  (h0 : Kd.C (Kd.int .u64) w A0 l0.length l0) (k0 : l0.length ≤ c0) (h1 : Kd.C k38 w A1 l1.length l1) (k1 : l1.length ≤ c1) (h2 : Kd.C (Kd.int .u64) w A2 l2.length l2) (k2 : l2.length ≤ c2) (h3 : Kd.C k41 w A3 l3.length l3) (k3 : l3.length ≤ c3)
  (g0 : Kd.C (Kd.int .u64) w B0 l0.length l0) (m0 : l0.length ≤ d0) (g1 : Kd.C k38 w B1 l1.length l1) (m1 : l1.length ≤ d1) (g2 : Kd.C (Kd.int .u64) w B2 l2.length l2) (m2 : l2.length ≤ d2) (g3 : Kd.C k41 w B3 l3.length l3) (m3 : l3.length ≤ d3) :
  Calls Tryd.prog 44 #[.agg #[.slice A0 l0.length c0, .slice A1 l1.length c1, .slice A2 l2.length c2, .slice A3 l3.length c3], .agg #[.slice B0 l0.length d0, .slice B1 l1.length d1, .slice B2 l2.length d2, .slice B3 l3.length d3]] w fun e w' => e = .returned (.bool true) ∧ Below w.heap.size w w' := by
 have Zh0 := Aside0.mk h0
 have Zh1 := Aside0.mk h1
 have Zh2 := Aside0.mk h2
 have Zh3 := Aside0.mk h3
 have Zk0 := Aside0.mk k0
 have Zk1 := Aside0.mk k1
 have Zk2 := Aside0.mk k2
 have Zk3 := Aside0.mk k3
 have Zg0 := Aside0.mk g0
 have Zg1 := Aside0.mk g1
 have Zg2 := Aside0.mk g2
 have Zg3 := Aside0.mk g3
 have Zm0 := Aside0.mk m0
 have Zm1 := Aside0.mk m1
 have Zm2 := Aside0.mk m2
 have Zm3 := Aside0.mk m3
 clear h0 h1 h2 h3 k0 k1 k2 k3 g0 g1 g2 g3 m0 m1 m2 m3
 have HB := Aside0.mk (below_alloc (below_alloc (Below.refl w.heap.size w) (.cells #[.slice A0 l0.length c0, .slice A1 l1.length c1, .slice A2 l2.length c2, .slice A3 l3.length c3] 26)) (.cells #[.slice B0 l0.length d0, .slice B1 l1.length d1, .slice B2 l2.length d2, .slice B3 l3.length d3] 26))
 have HG1 := Aside0.mk (blk_alloc (heap_alloc_new w (.cells #[.slice A0 l0.length c0, .slice A1 l1.length c1, .slice A2 l2.length c2, .slice A3 l3.length c3] 26)) (.cells #[.slice B0 l0.length d0, .slice B1 l1.length d1, .slice B2 l2.length d2, .slice B3 l3.length d3] 26))
 have HG2 := Aside0.mk (same_next w (.cells #[.slice A0 l0.length c0, .slice A1 l1.length c1, .slice A2 l2.length c2, .slice A3 l3.length c3] 26) (.cells #[.slice B0 l0.length d0, .slice B1 l1.length d1, .slice B2 l2.length d2, .slice B3 l3.length d3] 26))
 have ZM1 := Aside0.mk (Kd.C_max Zh1.out)
 have ZM3 := Aside0.mk (Kd.C_max Zh3.out)
 obtain ⟨a0, a1, a2, a3⟩ := same4 HG1.out
 obtain ⟨b0, b1, b2, b3⟩ := same4 HG2.out
 go_enter Tryd.func44, Tryd.ntmps44
 go_wp2_with fail
 refine (louverkit_Labels.calls (l0.length + 1) A0 c0 l0 B0 d0 l0 true _ (Kd.C_below Zh0.out HB.out) Zk0.out (Kd.C_below Zg0.out HB.out) Zm0.out (same_labels l0 (Kd.C_max Zh0.out))).mono ?_
 rintro e wx ⟨rfl, hd⟩
 have hb := hd.below
 clear hd a0 a1 a2 a3 b0 b1 b2 b3
 replace HG1 := Aside0.mk (blk_below HG1.out hb)
 replace HG2 := Aside0.mk (blk_below HG2.out hb)
 replace HB := Aside0.mk (below_step HB.out hb)
 clear hb
 obtain ⟨a0, a1, a2, a3⟩ := same4 HG1.out
 obtain ⟨b0, b1, b2, b3⟩ := same4 HG2.out
 go_wp2_with fail
 refine (louverkit_Labels.calls (l2.length + 1) A2 c2 l2 B2 d2 l2 true _ (Kd.C_below Zh2.out HB.out) Zk2.out (Kd.C_below Zg2.out HB.out) Zm2.out (same_labels l2 (Kd.C_max Zh2.out))).mono ?_
 rintro e wx ⟨rfl, hd⟩
 have hb := hd.below
 clear hd a0 a1 a2 a3 b0 b1 b2 b3
 replace HG1 := Aside0.mk (blk_below HG1.out hb)
 replace HG2 := Aside0.mk (blk_below HG2.out hb)
 replace HB := Aside0.mk (below_step HB.out hb)
 clear hb
 obtain ⟨a0, a1, a2, a3⟩ := same4 HG1.out
 obtain ⟨b0, b1, b2, b3⟩ := same4 HG2.out
 go_wp2_with fail
 clear a0 a1 a2 a3 b0 b1 b2 b3
 go_loopg [5] (l1.length + 1) (fun kq v5 w' => ∃ (i : Nat), v5 = .int .i64 (i : Int) ∧ Aside0 (i + kq = l1.length + 1) ∧ Aside0 (1 ≤ kq) ∧ Aside0 (w'.heap[w.heap.size]? = some (.cells #[.slice A0 l0.length c0, .slice A1 l1.length c1, .slice A2 l2.length c2, .slice A3 l3.length c3] 26 (0, 0))) ∧ Aside0 (w'.heap[w.heap.size + 1]? = some (.cells #[.slice B0 l0.length d0, .slice B1 l1.length d1, .slice B2 l2.length d2, .slice B3 l3.length d3] 26 (0, 0))) ∧ Aside0 (Below w.heap.size w w'))
 case atStart => exact ⟨0, rfl, ⟨by omega⟩, ⟨by omega⟩, HG1, HG2, HB⟩
 case round =>
  clear HG1 HG2 HB
  obtain ⟨i, rfl, HI, HI1, HG1, HG2, HB⟩ := hrel
  obtain ⟨a0, a1, a2, a3⟩ := same4 HG1.out
  obtain ⟨b0, b1, b2, b3⟩ := same4 HG2.out
  cases gk with
  | zero => exact absurd HI1.out (by omega)
  | succ k1 =>
   by_cases ci : i < l1.length
   ·
    have cib : decide ((i : Int) < (l1.length : Int)) = true := decide_eq_true (by omega)
    have hii : (i : Int) < (l1.length : Int) := by omega
    have hw2 : wrap64 ((i : Int) + 1) = (i : Int) + 1 := by have := ZM1.out; unfold wrap64; omega
    obtain ⟨ad, hA, x0, x1⟩ := at_T38 (Kd.C_below Zh1.out HB.out) (i : Int) (by omega) hii
    subst hA
    obtain ⟨bd, hA, y0, y1⟩ := at_T38 (Kd.C_below Zg1.out HB.out) (i : Int) (by omega) hii
    subst hA
    rw [Int.toNat_natCast] at x0 x1 y0 y1
    obtain ⟨x, hx⟩ : ∃ x, rd_T38 l1 (i : Int) = x := ⟨_, rfl⟩
    rw [hx] at x0 x1 y0 y1
    clear hx
    have heq : ∀ W : World, (Op.equalIn 10000 38 (.agg #[.int .i64 x.f0, .int .u64 x.f1]) (.agg #[.int .i64 x.f0, .int .u64 x.f1])).run Tryd.prog W = .ok true W := fun W => by
     have := same_arr 9998 W x.f0 x.f0 x.f1 x.f1
     simpa using this
    go_wp2_with fail
    refine start_ (n := 11) (S := fun w' => w'.cell? ⟨w.heap.size, 1, none⟩ = some (.slice (some ad) l1.length c1) ∧ w'.cell? ⟨w.heap.size + 1, 1, none⟩ = some (.slice (some bd) l1.length d1) ∧ w'.cell? (ad.add (i * 2)) = some (.int .i64 x.f0) ∧ w'.cell? ⟨(ad.add (i * 2)).block, (ad.add (i * 2)).off + 1, none⟩ = some (.int .u64 x.f1) ∧ w'.cell? (bd.add (i * 2)) = some (.int .i64 x.f0) ∧ w'.cell? ⟨(bd.add (i * 2)).block, (bd.add (i * 2)).off + 1, none⟩ = some (.int .u64 x.f1)) (ds := []) #[false, false, false, false, false, false, false, false, false, false, false] (by kernel_rfl) rfl rfl ⟨a1, b1, x0, x1, y0, y1⟩ (fun hHeld => ?_)
    refine pure_ (i := 0) (N := some 46) (v := ?_) (a' := ?_) #[true, false, false, false, false, false, false, false, false, false, false] rfl rfl (by kernel_rfl) (fun _ _ _ h => h) (Or.inl ⟨by rfl, ?_⟩) ?_ ?_
    rotate_left
    ·
     intro w'
     go_simp
     with_reducible rfl
    rotate_left
    ·
     simp only [Act.put, List.setIfInBounds_toArray, List.set_cons_zero, List.set_cons_succ, i64_w, i32_w]
     rfl
    refine pure_ (i := 2) (N := some 48) (v := ?_) (a' := ?_) #[true, false, true, false, false, false, false, false, false, false, false] rfl rfl (by kernel_rfl) (fun _ _ _ h => h) (Or.inl ⟨by rfl, ?_⟩) ?_ ?_
    rotate_left
    ·
     intro w'
     go_simp
     with_reducible rfl
    rotate_left
    ·
     simp only [Act.put, List.setIfInBounds_toArray, List.set_cons_zero, List.set_cons_succ, i64_w, i32_w]
     rfl
    refine pure_ (i := 5) (N := some 51) (v := ?_) (a' := ?_) #[true, false, true, false, false, true, false, false, false, false, false] rfl rfl (by kernel_rfl) (fun _ _ _ h => h) (Or.inl ⟨by rfl, ?_⟩) ?_ ?_
    rotate_left
    ·
     intro w'
     go_simp
     with_reducible rfl
    rotate_left
    ·
     simp only [Act.put, List.setIfInBounds_toArray, List.set_cons_zero, List.set_cons_succ, i64_w, i32_w]
     rfl
    refine pure_ (i := 7) (N := some 53) (v := ?_) (a' := ?_) #[true, false, true, false, false, true, false, true, false, false, false] rfl rfl (by kernel_rfl) (fun _ _ _ h => h) (Or.inl ⟨by rfl, ?_⟩) ?_ ?_
    rotate_left
    ·
     intro w'
     go_simp
     with_reducible rfl
    rotate_left
    ·
     simp only [Act.put, List.setIfInBounds_toArray, List.set_cons_zero, List.set_cons_succ, i64_w, i32_w]
     rfl
    refine take_ (i := 1) (N := some 47) (v := ?_) (a' := ?_) #[true, true, true, false, false, true, false, true, false, false, false] rfl rfl (by kernel_rfl) (fun _ _ _ h => h) (Or.inl ⟨by rfl, ?_⟩) hHeld ?_ ?_
    rotate_left
    ·
     rintro w' ⟨s0, s1, s2, s3, s4, s5⟩
     go_simp
     with_reducible rfl
    rotate_left
    ·
     simp only [Act.put, List.setIfInBounds_toArray, List.set_cons_zero, List.set_cons_succ, i64_w, i32_w]
     rfl
    refine pure_ (i := 3) (N := some 49) (v := ?_) (a' := ?_) #[true, true, true, true, false, true, false, true, false, false, false] rfl rfl (by kernel_rfl) (fun _ _ _ h => h) (Or.inl ⟨by rfl, ?_⟩) ?_ ?_
    rotate_left
    ·
     intro w'
     go_simp
     with_reducible rfl
    rotate_left
    ·
     simp only [Act.put, List.setIfInBounds_toArray, List.set_cons_zero, List.set_cons_succ, i64_w, i32_w]
     rfl
    refine take_ (i := 4) (N := some 50) (v := ?_) (a' := ?_) #[true, true, true, true, true, true, false, true, false, false, false] rfl rfl (by kernel_rfl) (fun _ _ _ h => h) (Or.inl ⟨by rfl, ?_⟩) hHeld ?_ ?_
    rotate_left
    ·
     rintro w' ⟨s0, s1, s2, s3, s4, s5⟩
     go_simp
     with_reducible rfl
    rotate_left
    ·
     simp only [Act.put, List.setIfInBounds_toArray, List.set_cons_zero, List.set_cons_succ, i64_w, i32_w]
     rfl
    refine take_ (i := 6) (N := some 52) (v := ?_) (a' := ?_) #[true, true, true, true, true, true, true, true, false, false, false] rfl rfl (by kernel_rfl) (fun _ _ _ h => h) (Or.inl ⟨by rfl, ?_⟩) hHeld ?_ ?_
    rotate_left
    ·
     rintro w' ⟨s0, s1, s2, s3, s4, s5⟩
     go_simp
     with_reducible rfl
    rotate_left
    ·
     simp only [Act.put, List.setIfInBounds_toArray, List.set_cons_zero, List.set_cons_succ, i64_w, i32_w]
     rfl
    refine pure_ (i := 8) (N := some 54) (v := ?_) (a' := ?_) #[true, true, true, true, true, true, true, true, true, false, false] rfl rfl (by kernel_rfl) (fun _ _ _ h => h) (Or.inl ⟨by rfl, ?_⟩) ?_ ?_
    rotate_left
    ·
     intro w'
     go_simp
     with_reducible rfl
    rotate_left
    ·
     simp only [Act.put, List.setIfInBounds_toArray, List.set_cons_zero, List.set_cons_succ, i64_w, i32_w]
     rfl
    refine take_ (i := 9) (N := some 55) (v := ?_) (a' := ?_) #[true, true, true, true, true, true, true, true, true, true, false] rfl rfl (by kernel_rfl) (fun _ _ _ h => h) (Or.inl ⟨by rfl, ?_⟩) hHeld ?_ ?_
    rotate_left
    ·
     rintro w' ⟨s0, s1, s2, s3, s4, s5⟩
     go_simp
     with_reducible rfl
    rotate_left
    ·
     simp only [Act.put, List.setIfInBounds_toArray, List.set_cons_zero, List.set_cons_succ, i64_w, i32_w]
     rfl
    refine pure_ (i := 10) (N := some 56) (v := ?_) (a' := ?_) #[true, true, true, true, true, true, true, true, true, true, true] rfl rfl (by kernel_rfl) (fun _ _ _ h => h) (Or.inl ⟨by rfl, ?_⟩) ?_ ?_
    rotate_left
    ·
     intro w'
     go_simp
     with_reducible rfl
    rotate_left
    ·
     simp only [Act.put, List.setIfInBounds_toArray, List.set_cons_zero, List.set_cons_succ, i64_w, i32_w]
     rfl
    refine done_ (by kernel_rfl) ?_
    clear a0 a1 a2 a3 b0 b1 b2 b3
    go_wp2_with fail
    go_roundg k1
    case measure => omega
    case rel => exact ⟨i + 1, by rw [hw2]; rfl, ⟨by have := HI.out; omega⟩, ⟨by have := HI.out; omega⟩, ⟨blk_below HG1.out (below_drew1 (Below.refl _ _))⟩, ⟨blk_below HG2.out (below_drew1 (Below.refl _ _))⟩, ⟨below_step HB.out (below_drew1 (Below.refl _ _))⟩⟩
   ·
    have cib : decide ((i : Int) < (l1.length : Int)) = false := decide_eq_false (by omega)
    go_wp2_with fail
    clear a0 a1 a2 a3 b0 b1 b2 b3 HI HI1 ci cib
    go_loopg [6] (l3.length + 1) (fun kq v5 w' => ∃ (i : Nat), v5 = .int .i64 (i : Int) ∧ Aside0 (i + kq = l3.length + 1) ∧ Aside0 (1 ≤ kq) ∧ Aside0 (w'.heap[w.heap.size]? = some (.cells #[.slice A0 l0.length c0, .slice A1 l1.length c1, .slice A2 l2.length c2, .slice A3 l3.length c3] 26 (0, 0))) ∧ Aside0 (w'.heap[w.heap.size + 1]? = some (.cells #[.slice B0 l0.length d0, .slice B1 l1.length d1, .slice B2 l2.length d2, .slice B3 l3.length d3] 26 (0, 0))) ∧ Aside0 (Below w.heap.size w w'))
    case atStart => exact ⟨0, rfl, ⟨by omega⟩, ⟨by omega⟩, HG1, HG2, HB⟩
    case round =>
     clear HG1 HG2 HB
     obtain ⟨i, rfl, HI, HI1, HG1, HG2, HB⟩ := hrel
     obtain ⟨a0, a1, a2, a3⟩ := same4 HG1.out
     obtain ⟨b0, b1, b2, b3⟩ := same4 HG2.out
     cases gk with
     | zero => exact absurd HI1.out (by omega)
     | succ k1 =>
      by_cases ci : i < l3.length
      ·
       have cib : decide ((i : Int) < (l3.length : Int)) = true := decide_eq_true (by omega)
       have hii : (i : Int) < (l3.length : Int) := by omega
       have hw2 : wrap64 ((i : Int) + 1) = (i : Int) + 1 := by have := ZM3.out; unfold wrap64; omega
       obtain ⟨ad, P1, p1, P2, p2, P5, p5, hA, x0, x1, x2, x3, x4, x5, o1, e1, o2, e2, o5, e5⟩ := at_T41 (Kd.C_below Zh3.out HB.out) (i : Int) (by omega) hii
       subst hA
       obtain ⟨bd, Q1, q1, Q2, q2, Q5, q5, hA, y0, y1, y2, y3, y4, y5, r1, f1, r2, f2, r5, f5⟩ := at_T41 (Kd.C_below Zg3.out HB.out) (i : Int) (by omega) hii
       subst hA
       rw [Int.toNat_natCast] at x0 x1 x2 x3 x4 x5 y0 y1 y2 y3 y4 y5
       obtain ⟨x, hx⟩ : ∃ x, rd_T41 l3 (i : Int) = x := ⟨_, rfl⟩
       rw [hx] at x0 x1 x2 x3 x4 x5 y0 y1 y2 y3 y4 y5 o1 e1 o2 e2 o5 e5 r1 f1 r2 f2 r5 f5
       clear hx
       have HFC := Aside0.mk (functionSame.calls x P1 P2 P5 Q1 Q2 Q5 p1 p2 p5 q1 q2 q5 wr.drew (Kd.C_drew e1) o1 (Kd.C_drew e2) o2 (Kd.C_drew e5) o5 (Kd.C_drew f1) r1 (Kd.C_drew f2) r2 (Kd.C_drew f5) r5)
       clear o1 e1 o2 e2 o5 e5 r1 f1 r2 f2 r5 f5
       go_wp2_with fail
       refine start_ (n := 12) (S := fun w' => w'.cell? ⟨w.heap.size, 3, none⟩ = some (.slice (some ad) l3.length c3) ∧ w'.cell? ⟨w.heap.size + 1, 3, none⟩ = some (.slice (some bd) l3.length d3) ∧ w'.cell? (ad.add (i * 6)) = some (.int .u64 x.f0) ∧ w'.cell? ⟨(ad.add (i * 6)).block, (ad.add (i * 6)).off + 1, none⟩ = some (.slice P1 x.f1.length p1) ∧ w'.cell? ⟨(ad.add (i * 6)).block, (ad.add (i * 6)).off + 2, none⟩ = some (.slice P2 x.f2.length p2) ∧ w'.cell? ⟨(ad.add (i * 6)).block, (ad.add (i * 6)).off + 3, none⟩ = some (.int .i64 x.f3) ∧ w'.cell? ⟨(ad.add (i * 6)).block, (ad.add (i * 6)).off + 4, none⟩ = some (.int .i64 x.f4) ∧ w'.cell? ⟨(ad.add (i * 6)).block, (ad.add (i * 6)).off + 5, none⟩ = some (.slice P5 x.f5.length p5) ∧ w'.cell? (bd.add (i * 6)) = some (.int .u64 x.f0) ∧ w'.cell? ⟨(bd.add (i * 6)).block, (bd.add (i * 6)).off + 1, none⟩ = some (.slice Q1 x.f1.length q1) ∧ w'.cell? ⟨(bd.add (i * 6)).block, (bd.add (i * 6)).off + 2, none⟩ = some (.slice Q2 x.f2.length q2) ∧ w'.cell? ⟨(bd.add (i * 6)).block, (bd.add (i * 6)).off + 3, none⟩ = some (.int .i64 x.f3) ∧ w'.cell? ⟨(bd.add (i * 6)).block, (bd.add (i * 6)).off + 4, none⟩ = some (.int .i64 x.f4) ∧ w'.cell? ⟨(bd.add (i * 6)).block, (bd.add (i * 6)).off + 5, none⟩ = some (.slice Q5 x.f5.length q5)) (ds := []) #[false, false, false, false, false, false, false, false, false, false, false, false] (by kernel_rfl) rfl rfl ⟨a3, b3, x0, x1, x2, x3, x4, x5, y0, y1, y2, y3, y4, y5⟩ (fun hHeld => ?_)
       refine pure_ (i := 0) (N := some 64) (v := ?_) (a' := ?_) #[true, false, false, false, false, false, false, false, false, false, false, false] rfl rfl (by kernel_rfl) (fun _ _ _ h => h) (Or.inl ⟨by rfl, ?_⟩) ?_ ?_
       rotate_left
       ·
        intro w'
        go_simp
        with_reducible rfl
       rotate_left
       ·
        simp only [Act.put, List.setIfInBounds_toArray, List.set_cons_zero, List.set_cons_succ, i64_w, i32_w]
        rfl
       refine pure_ (i := 2) (N := some 66) (v := ?_) (a' := ?_) #[true, false, true, false, false, false, false, false, false, false, false, false] rfl rfl (by kernel_rfl) (fun _ _ _ h => h) (Or.inl ⟨by rfl, ?_⟩) ?_ ?_
       rotate_left
       ·
        intro w'
        go_simp
        with_reducible rfl
       rotate_left
       ·
        simp only [Act.put, List.setIfInBounds_toArray, List.set_cons_zero, List.set_cons_succ, i64_w, i32_w]
        rfl
       refine pure_ (i := 5) (N := some 69) (v := ?_) (a' := ?_) #[true, false, true, false, false, true, false, false, false, false, false, false] rfl rfl (by kernel_rfl) (fun _ _ _ h => h) (Or.inl ⟨by rfl, ?_⟩) ?_ ?_
       rotate_left
       ·
        intro w'
        go_simp
        with_reducible rfl
       rotate_left
       ·
        simp only [Act.put, List.setIfInBounds_toArray, List.set_cons_zero, List.set_cons_succ, i64_w, i32_w]
        rfl
       refine pure_ (i := 7) (N := some 71) (v := ?_) (a' := ?_) #[true, false, true, false, false, true, false, true, false, false, false, false] rfl rfl (by kernel_rfl) (fun _ _ _ h => h) (Or.inl ⟨by rfl, ?_⟩) ?_ ?_
       rotate_left
       ·
        intro w'
        go_simp
        with_reducible rfl
       rotate_left
       ·
        simp only [Act.put, List.setIfInBounds_toArray, List.set_cons_zero, List.set_cons_succ, i64_w, i32_w]
        rfl
       refine take_ (i := 1) (N := some 65) (v := ?_) (a' := ?_) #[true, true, true, false, false, true, false, true, false, false, false, false] rfl rfl (by kernel_rfl) (fun _ _ _ h => h) (Or.inl ⟨by rfl, ?_⟩) hHeld ?_ ?_
       rotate_left
       ·
        rintro w' ⟨s0, s1, s2, s3, s4, s5, s6, s7, s8, s9, s10, s11, s12, s13⟩
        go_simp
        with_reducible rfl
       rotate_left
       ·
        simp only [Act.put, List.setIfInBounds_toArray, List.set_cons_zero, List.set_cons_succ, i64_w, i32_w]
        rfl
       refine pure_ (i := 3) (N := some 67) (v := ?_) (a' := ?_) #[true, true, true, true, false, true, false, true, false, false, false, false] rfl rfl (by kernel_rfl) (fun _ _ _ h => h) (Or.inl ⟨by rfl, ?_⟩) ?_ ?_
       rotate_left
       ·
        intro w'
        go_simp
        with_reducible rfl
       rotate_left
       ·
        simp only [Act.put, List.setIfInBounds_toArray, List.set_cons_zero, List.set_cons_succ, i64_w, i32_w]
        rfl
       refine take_ (i := 4) (N := some 68) (v := ?_) (a' := ?_) #[true, true, true, true, true, true, false, true, false, false, false, false] rfl rfl (by kernel_rfl) (fun _ _ _ h => h) (Or.inl ⟨by rfl, ?_⟩) hHeld ?_ ?_
       rotate_left
       ·
        rintro w' ⟨s0, s1, s2, s3, s4, s5, s6, s7, s8, s9, s10, s11, s12, s13⟩
        go_simp
        with_reducible rfl
       rotate_left
       ·
        simp only [Act.put, List.setIfInBounds_toArray, List.set_cons_zero, List.set_cons_succ, i64_w, i32_w]
        rfl
       refine take_ (i := 6) (N := some 70) (v := ?_) (a' := ?_) #[true, true, true, true, true, true, true, true, false, false, false, false] rfl rfl (by kernel_rfl) (fun _ _ _ h => h) (Or.inl ⟨by rfl, ?_⟩) hHeld ?_ ?_
       rotate_left
       ·
        rintro w' ⟨s0, s1, s2, s3, s4, s5, s6, s7, s8, s9, s10, s11, s12, s13⟩
        go_simp
        with_reducible rfl
       rotate_left
       ·
        simp only [Act.put, List.setIfInBounds_toArray, List.set_cons_zero, List.set_cons_succ, i64_w, i32_w]
        rfl
       refine pure_ (i := 8) (N := some 72) (v := ?_) (a' := ?_) #[true, true, true, true, true, true, true, true, true, false, false, false] rfl rfl (by kernel_rfl) (fun _ _ _ h => h) (Or.inl ⟨by rfl, ?_⟩) ?_ ?_
       rotate_left
       ·
        intro w'
        go_simp
        with_reducible rfl
       rotate_left
       ·
        simp only [Act.put, List.setIfInBounds_toArray, List.set_cons_zero, List.set_cons_succ, i64_w, i32_w]
        rfl
       refine take_ (i := 9) (N := some 73) (v := ?_) (a' := ?_) #[true, true, true, true, true, true, true, true, true, true, false, false] rfl rfl (by kernel_rfl) (fun _ _ _ h => h) (Or.inl ⟨by rfl, ?_⟩) hHeld ?_ ?_
       rotate_left
       ·
        rintro w' ⟨s0, s1, s2, s3, s4, s5, s6, s7, s8, s9, s10, s11, s12, s13⟩
        go_simp
        with_reducible rfl
       rotate_left
       ·
        simp only [Act.put, List.setIfInBounds_toArray, List.set_cons_zero, List.set_cons_succ, i64_w, i32_w]
        rfl
       refine one_ (i := 10) (N := some 74) #[true, true, true, true, true, true, true, true, true, true, true, false] rfl rfl (by kernel_rfl) (by decide) (fun K hK => ?_)
       refine goes_ Tryd.func89 (by kernel_rfl) rfl #[.agg #[.int .u64 x.f0, .slice P1 x.f1.length p1, .slice P2 x.f2.length p2, .int .i64 x.f3, .int .i64 x.f4, .slice P5 x.f5.length p5], .agg #[.int .u64 x.f0, .slice Q1 x.f1.length q1, .slice Q2 x.f2.length q2, .int .i64 x.f3, .int .i64 x.f4, .slice Q5 x.f5.length q5]] (by rfl) rfl rfl (by simp only [List.map_toArray, List.map_cons, List.map_nil]; rfl) ?_
       with_reducible refine (HFC.out).mono ?_
       rintro e wf ⟨rfl, hbF⟩
       refine ⟨_, rfl, ?_⟩
       have hbG := below_step (below_drew1 (Below.refl wr.heap.size wr)) hbF
       refine hK.out _ _ ⟨(pw_cell_below hbG a3), (pw_cell_below hbG b3), (pw_cell_below hbG x0), (pw_cell_below hbG x1), (pw_cell_below hbG x2), (pw_cell_below hbG x3), (pw_cell_below hbG x4), (pw_cell_below hbG x5), (pw_cell_below hbG y0), (pw_cell_below hbG y1), (pw_cell_below hbG y2), (pw_cell_below hbG y3), (pw_cell_below hbG y4), (pw_cell_below hbG y5)⟩ (fun hHeld => ?_)
       clear hK K
       refine norm_ (a' := ?_) ?_ ?_
       rotate_left
       ·
        show Act.put _ (some 74) _ = _
        simp only [Act.put, List.setIfInBounds_toArray, List.set_cons_zero, List.set_cons_succ, i64_w, i32_w]
        rfl
       refine pure_ (i := 11) (N := some 75) (v := ?_) (a' := ?_) #[true, true, true, true, true, true, true, true, true, true, true, true] rfl rfl (by kernel_rfl) (fun _ _ _ h => h) (Or.inl ⟨by rfl, ?_⟩) ?_ ?_
       rotate_left
       ·
        intro w'
        go_simp
        with_reducible rfl
       rotate_left
       ·
        simp only [Act.put, List.setIfInBounds_toArray, List.set_cons_zero, List.set_cons_succ, i64_w, i32_w]
        rfl
       refine done_ (by kernel_rfl) ?_
       clear a0 a1 a2 a3 b0 b1 b2 b3
       go_wp2_with fail
       go_roundg k1
       case measure => omega
       case rel => exact ⟨i + 1, by rw [hw2]; rfl, ⟨by have := HI.out; omega⟩, ⟨by have := HI.out; omega⟩, ⟨blk_below HG1.out (below_step (below_drew1 (Below.refl _ _)) hbF)⟩, ⟨blk_below HG2.out (below_step (below_drew1 (Below.refl _ _)) hbF)⟩, ⟨below_step HB.out (below_step (below_drew1 (Below.refl _ _)) hbF)⟩⟩
      ·
       have cib : decide ((i : Int) < (l3.length : Int)) = false := decide_eq_false (by omega)
       go_wp2_with fail
       go_ret
       exact ⟨rfl, HB.out⟩
end Go.Proofs.YtgpdaihfjnihhaaDoor.PJ
