/- The walk of the law ViewAlike. -/
import Derived.Test.YtlnccdgclaalbaaPJx0
import Derived.Test.YtlnccdgclaalbaaPJx8
import Derived.Test.YtlnccdgclaalbaaPJx9
import Derived.Test.YtlnccdgclaalbaaPJx10
import Derived.Test.YtlnccdgclaalbaaHandViewTop
import Derived.Test.YtlnccdgclaalbaaHandLentMem2
import Derived.Test.YtlnccdgclaalbaaViewAlikePure
namespace Go.Proofs.Ytlnccdgclaalbaa.PJ
open Go.RowKit Go.Proofs.YtlnccdgclaalbaaW.PrintWords Go.Proofs.YtlnccdgclaalbaaW.PrintLast Go.Proofs.YtlnccdgclaalbaaW.PrintMore
set_option linter.unusedSimpArgs false
set_option linter.unusedVariables false
theorem va4 {w : World} {g t : Nat} {x y z u : Value} (h : w.heap[g]? = some (.cells #[x, y, z, u] t (0, 0))) : w.cell? ⟨g, 0, none⟩ = some x ∧ w.cell? ⟨g, 1, none⟩ = some y ∧ w.cell? ⟨g, 2, none⟩ = some z ∧ w.cell? ⟨g, 3, none⟩ = some u := ⟨blk_cell h 0, blk_cell h 1, blk_cell h 2, blk_cell h 3⟩
theorem va6 {w : World} {g t : Nat} {x y z u a b : Value} (h : w.heap[g]? = some (.cells #[x, y, z, u, a, b] t (0, 0))) : w.cell? ⟨g, 0, none⟩ = some x ∧ w.cell? ⟨g, 1, none⟩ = some y ∧ w.cell? ⟨g, 2, none⟩ = some z ∧ w.cell? ⟨g, 3, none⟩ = some u ∧ w.cell? ⟨g, 4, none⟩ = some a ∧ w.cell? ⟨g, 5, none⟩ = some b := ⟨blk_cell h 0, blk_cell h 1, blk_cell h 2, blk_cell h 3, blk_cell h 4, blk_cell h 5⟩
/-- A row of numbers that is read. -/
def IntsR (w : World) (v : Value) (xs : List Int) : Prop := ∃ A c, v = .slice A xs.length c ∧ Kd.C (Kd.int .i64) w A xs.length xs ∧ xs.length ≤ c
theorem IntsR.below {w w' : World} {v : Value} {xs : List Int} (h : IntsR w v xs) (hb : Below w.heap.size w w') : IntsR w' v xs := by
  obtain ⟨A, c, e, h0, h1⟩ := h
  exact ⟨A, c, e, Kd.C_below h0 hb, h1⟩
/-- A function that is read. -/
def FnR (w : World) (v : Value) (n0 : Int) (p q : List Int) (n3 n4 : Int) (cd : List S77) : Prop := ∃ A1 c1 A2 c2 A5 c5, v = .agg #[.int .u64 n0, .slice A1 p.length c1, .slice A2 q.length c2, .int .i64 n3, .int .i64 n4, .slice A5 cd.length c5] ∧ Kd.C (Kd.int .u64) w A1 p.length p ∧ p.length ≤ c1 ∧ Kd.C (Kd.int .u64) w A2 q.length q ∧ q.length ≤ c2 ∧ Kd.C k77 w A5 cd.length cd ∧ cd.length ≤ c5
theorem FnR.below {w w' : World} {v : Value} {n0 : Int} {p q : List Int} {n3 n4 : Int} {cd : List S77} (h : FnR w v n0 p q n3 n4 cd) (hb : Below w.heap.size w w') : FnR w' v n0 p q n3 n4 cd := by
  obtain ⟨A1, c1, A2, c2, A5, c5, e, h1, l1, h2, l2, h5, l5⟩ := h
  exact ⟨A1, c1, A2, c2, A5, c5, e, Kd.C_below h1 hb, l1, Kd.C_below h2 hb, l2, Kd.C_below h5 hb, l5⟩
theorem LentC.intsR {w : World} {v : Value} {xs : List Int} (h : LentC (Kd.int .i64) w v xs (-7171)) : IntsR w v xs := by
  obtain ⟨A, c, e, hc, hC⟩ := h
  exact ⟨A, c, e, lentC_reads hC, by omega⟩
theorem LentMm.memR {w : World} {v : Value} {g : List Int} {r : List (List Int)} (h : LentMm w v g r) : MemR w v g r := by
  obtain ⟨B0, d0, B1, d1, e, ⟨l0, h0⟩, ⟨l1, h1⟩⟩ := h
  exact ⟨B0, d0, B1, d1, e, lentC_reads h0, by omega, C_LR h1, by omega⟩
theorem LentM.modR {w : World} {v : Value} {l0 : List Int} {l1 : List S57} {l2 : List Int} {l3 : List S48} (h : LentM w v l0 l1 l2 l3) : ModR w v l0 l1 l2 l3 := by
  obtain ⟨B0, d0, B1, d1, B2, d2, B3, d3, e, ⟨m0, h0⟩, ⟨m1, h1⟩, ⟨m2, h2⟩, ⟨m3, h3⟩⟩ := h
  exact ⟨B0, d0, B1, d1, B2, d2, B3, d3, e, lentC_reads h0, by omega, lentC_reads h1, by omega, lentC_reads h2, by omega, C_LF h3, by omega⟩
/-- A lent function. -/
def LentFnR (w : World) (v : Value) (n0 : Int) (p q : List Int) (n3 n4 : Int) (cd : List S77) : Prop := ∃ v1 v2 v5, v = .agg #[.int .u64 n0, v1, v2, .int .i64 n3, .int .i64 n4, v5] ∧ LentC (Kd.int .u64) w v1 p 7171 ∧ LentC (Kd.int .u64) w v2 q 7171 ∧ LentC k77 w v5 cd ⟨-71, 0⟩
theorem LentFnR.below {w w' : World} {v : Value} {n0 : Int} {p q : List Int} {n3 n4 : Int} {cd : List S77} (h : LentFnR w v n0 p q n3 n4 cd) (hb : Below w.heap.size w w') : LentFnR w' v n0 p q n3 n4 cd := by
  obtain ⟨v1, v2, v5, e, h1, h2, h5⟩ := h
  exact ⟨v1, v2, v5, e, h1.below hb, h2.below hb, h5.below hb⟩
theorem LentFnR.fnR {w : World} {v : Value} {n0 : Int} {p q : List Int} {n3 n4 : Int} {cd : List S77} (h : LentFnR w v n0 p q n3 n4 cd) : FnR w v n0 p q n3 n4 cd := by
  obtain ⟨v1, v2, v5, e, ⟨A1, c1, rfl, k1, h1⟩, ⟨A2, c2, rfl, k2, h2⟩, ⟨A5, c5, rfl, k5, h5⟩⟩ := h
  exact ⟨A1, c1, A2, c2, A5, c5, e, lentC_reads h1, by omega, lentC_reads h2, by omega, lentC_reads h5, by omega⟩
theorem lentIntsC (A : Option Addr) (c : Nat) (xs : List Int) (w : World) (h : Kd.C (Kd.int .i64) w A xs.length xs) (hs : (xs.length + 1) * 8 ≤ 140737488355328) :
    Calls Try.prog 24 #[.slice A xs.length c] w fun e w' => ∃ v, e = .returned v ∧ LentC (Kd.int .i64) w' v xs (-7171) ∧ Below w.heap.size w w' := by
  refine (louverkit_LentInt64sD.calls A c xs w h hs).mono ?_
  rintro e w' ⟨v, rfl, hL, hb⟩
  exact ⟨v, rfl, hL.toC, hb⟩
theorem lentIntsR (v : Value) (xs : List Int) (w : World) (h : IntsR w v xs) (hs : (xs.length + 1) * 8 ≤ 140737488355328) :
    Calls Try.prog 24 #[v] w fun e w' => ∃ v, e = .returned v ∧ LentC (Kd.int .i64) w' v xs (-7171) ∧ Below w.heap.size w w' := by
  obtain ⟨A, c, rfl, h0, h1⟩ := h
  exact lentIntsC A c xs w h0 hs
theorem lentMemR (v : Value) (g : List Int) (r : List (List Int)) (w : World) (h : MemR w v g r) (hs0 : (g.length + 1) * 8 ≤ 140737488355328) (hs1 : (r.length + 1) * 24 ≤ 140737488355328) (hsf : ∀ x ∈ r, (x.length + 1) * 8 ≤ 140737488355328) :
    Calls Try.prog 8 #[v] w fun e w' => ∃ v, e = .returned v ∧ LentMm w' v g r ∧ Below w.heap.size w w' := by
  obtain ⟨A0, c0, A1, c1, rfl, h0, l0, h1, l1⟩ := h
  exact lentMemC A0 A1 c0 c1 g r w h0 h1 hs0 hs1 hsf
theorem lentModR (v : Value) (l0 : List Int) (l1 : List S57) (l2 : List Int) (l3 : List S48) (w : World) (h : ModR w v l0 l1 l2 l3)
    (hs0 : (l0.length + 1) * 8 ≤ 140737488355328) (hs1 : (l1.length + 1) * 16 ≤ 140737488355328) (hs2 : (l2.length + 1) * 8 ≤ 140737488355328) (hs3 : (l3.length + 1) * 96 ≤ 140737488355328)
    (hsf : ∀ x ∈ l3, (x.f1.length + 1) * 8 ≤ 140737488355328 ∧ (x.f2.length + 1) * 8 ≤ 140737488355328 ∧ (x.f5.length + 1) * 16 ≤ 140737488355328) :
    Calls Try.prog 7 #[v] w fun e w' => ∃ v, e = .returned v ∧ LentM w' v l0 l1 l2 l3 ∧ Below w.heap.size w w' := by
  obtain ⟨A0, c0, A1, c1, A2, c2, A3, c3, rfl, h0, m0, h1, m1, h2, m2, h3, m3⟩ := h
  exact lentModC A0 A1 A2 A3 c0 c1 c2 c3 l0 l1 l2 l3 w h0 h1 h2 h3 hs0 hs1 hs2 hs3 hsf
theorem lentFnC (v : Value) (n0 : Int) (p q : List Int) (n3 n4 : Int) (cd : List S77) (w : World) (h : FnR w v n0 p q n3 n4 cd)
    (hs1 : (p.length + 1) * 8 ≤ 140737488355328) (hs2 : (q.length + 1) * 8 ≤ 140737488355328) (hs5 : (cd.length + 1) * 16 ≤ 140737488355328) :
    Calls Try.prog 23 #[v] w fun e w' => ∃ v, e = .returned v ∧ LentFnR w' v n0 p q n3 n4 cd ∧ Below w.heap.size w w' := by
  obtain ⟨A1, c1, A2, c2, A5, c5, rfl, h1, l1, h2, l2, h5, l5⟩ := h
  refine (louverkit_LentFunction.calls n0 n3 n4 A1 A2 A5 c1 c2 c5 p q cd w h1 h2 h5 hs1 hs2 hs5).mono ?_
  rintro e w' ⟨v1, v2, v5, rfl, hL1, hL2, hL5, hb⟩
  exact ⟨_, rfl, ⟨v1, v2, v5, rfl, hL1.toC, hL2.toC, hL5.toC⟩, hb⟩
theorem keptFnC (u v : Value) (n0 : Int) (p q : List Int) (n3 n4 : Int) (cd : List S77) (w : World) (h : LentFnR w u n0 p q n3 n4 cd) (hv : FnR w v n0 p q n3 n4 cd) :
    Calls Try.prog 30 #[u, v] w fun e w' => e = .returned (.bool true) ∧ Below w.heap.size w w' := by
  obtain ⟨v1, v2, v5, rfl, h1, h2, h5⟩ := h
  obtain ⟨A1, c1, A2, c2, A5, c5, rfl, g1, l1, g2, l2, g5, l5⟩ := hv
  exact louverkit_KeptFunctionC.calls n0 n3 n4 v1 v2 v5 A1 A2 A5 c1 c2 c5 p q cd w h1 h2 h5 g1 l1 g2 l2 g5 l5
theorem keptIntsC (u v : Value) (xs : List Int) (w : World) (h : LentC (Kd.int .i64) w u xs (-7171)) (hv : IntsR w v xs) :
    Calls Try.prog 31 #[u, v] w fun e w' => e = .returned (.bool true) ∧ Below w.heap.size w w' := by
  obtain ⟨A, c, rfl, h1, l1⟩ := hv
  refine (louverkit_KeptInt64sC.calls u xs A c w h h1 l1).mono ?_
  rintro e w' ⟨rfl, hd⟩
  exact ⟨rfl, hd.below⟩
theorem keptMemR (u v : Value) (g : List Int) (r : List (List Int)) (w : World) (h : LentMm w u g r) (hv : MemR w v g r) :
    Calls Try.prog 18 #[u, v] w fun e w' => e = .returned (.bool true) ∧ Below w.heap.size w w' := by
  obtain ⟨A0, c0, A1, c1, rfl, h0, l0, h1, l1⟩ := hv
  exact keptMemC u g r A0 A1 c0 c1 w h h0 l0 h1 l1
theorem keptModR (u v : Value) (l0 : List Int) (l1 : List S57) (l2 : List Int) (l3 : List S48) (w : World) (h : LentM w u l0 l1 l2 l3) (hv : ModR w v l0 l1 l2 l3) :
    Calls Try.prog 17 #[u, v] w fun e w' => e = .returned (.bool true) ∧ Below w.heap.size w w' := by
  obtain ⟨A0, c0, A1, c1, A2, c2, A3, c3, rfl, h0, m0, h1, m1, h2, m2, h3, m3⟩ := hv
  exact louverkit_KeptModuleC.calls u A0 A1 A2 A3 c0 c1 c2 c3 l0 l1 l2 l3 w h h0 m0 h1 m1 h2 m2 h3 m3
theorem refAlikeC {w : World} {m x y : Value} {gs : List Int} {arr : List S57} {l2 : List Int} {l3 : List S48} {g1 : List Int} {r1 : List (List Int)} {g2 : List Int} {r2 : List (List Int)} (hm : ModR w m gs arr l2 l3) (hx : MemR w x g1 r1) (hy : MemR w y g2 r2) (l : Int) (k : Nat) (b : Bool) (h : louverref20_Alike.f k gs arr l2 l3 l g1 r1 g2 r2 = some b) :
    Calls Try.prog 25 #[m, .int .u64 l, x, y] w fun e w' => e = .returned (.bool b) ∧ Below w.heap.size w w' := by
  obtain ⟨A0, c0, A1, c1, A2, c2, A3, c3, rfl, h0, l0, h1, l1, h2, l2_, h3, l3_⟩ := hm
  obtain ⟨B0, d0, B1, d1, rfl, k0, m0, k1, m1⟩ := hx
  obtain ⟨C0, e0, C1, e1, rfl, n0, o0, n1, o1⟩ := hy
  exact louverref20_Alike.calls k A0 c0 gs A1 c1 arr A2 c2 l2 A3 c3 l3 l B0 d0 g1 B1 d1 r1 C0 e0 g2 C1 e1 r2 b w h0 l0 h1 l1 h2 l2_ h3 l3_ k0 m0 k1 m1 n0 o0 n1 o1 h
theorem vArgsC {w : World} {v x y : Value} {n0 : Int} {p q : List Int} {n3 n4 : Int} {cd : List S77} {xs ys : List Int} (h : FnR w v n0 p q n3 n4 cd) (hx : IntsR w x xs) (hy : IntsR w y ys) (l : Int) (hm : p.length ≤ 9223372036854775807) :
    Calls Try.prog 26 #[v, .int .u64 l, x, y] w fun e w' => e = .returned (.bool (numsB l p xs ys)) ∧ Below w.heap.size w w' := by
  obtain ⟨A1, c1, A2, c2, A5, c5, rfl, h1, l1, h2, l2, h5, l5⟩ := h
  obtain ⟨B, d, rfl, k0, m0⟩ := hx
  obtain ⟨C, e, rfl, k1, m1⟩ := hy
  refine view_Args.calls (p.length + 2) n0 A1 c1 p A2 c2 q n3 n4 A5 c5 cd l B d xs C e ys _ w h1 l1 h2 l2 h5 l5 k0 m0 k1 m1 ?_
  show (view_alike.f _ _ _ _ _).bind _ = _
  rw [valike_f l p xs ys hm _ (by omega)]
  rfl
theorem rArgsC {w : World} {v x y : Value} {n0 : Int} {p q : List Int} {n3 n4 : Int} {cd : List S77} {xs ys : List Int} (h : FnR w v n0 p q n3 n4 cd) (hx : IntsR w x xs) (hy : IntsR w y ys) (l : Int) (hm : p.length ≤ 9223372036854775807) (hl : (Lit.int .u64 l).wf = true) (hg : ∀ a ∈ p, (Lit.int .u64 a).wf = true) :
    Calls Try.prog 27 #[v, .int .u64 l, x, y] w fun e w' => e = .returned (.bool (numsB l p xs ys)) ∧ Below w.heap.size w w' := by
  obtain ⟨A1, c1, A2, c2, A5, c5, rfl, h1, l1, h2, l2, h5, l5⟩ := h
  obtain ⟨B, d, rfl, k0, m0⟩ := hx
  obtain ⟨C, e, rfl, k1, m1⟩ := hy
  refine louverref20_Args.calls (p.length + 68) n0 A1 c1 p A2 c2 q n3 n4 A5 c5 cd l B d xs C e ys _ w h1 l1 h2 l2 h5 l5 k0 m0 k1 m1 ?_
  show (louverref20_numbers.f _ _ _ _ _).bind _ = _
  rw [numbers_f l hl p xs ys hg hm _ (by omega)]
  rfl
theorem vResC {w : World} {v x y : Value} {n0 : Int} {p q : List Int} {n3 n4 : Int} {cd : List S77} {xs ys : List Int} (h : FnR w v n0 p q n3 n4 cd) (hx : IntsR w x xs) (hy : IntsR w y ys) (l : Int) (hm : q.length ≤ 9223372036854775807) :
    Calls Try.prog 28 #[v, .int .u64 l, x, y] w fun e w' => e = .returned (.bool (numsB l q xs ys)) ∧ Below w.heap.size w w' := by
  obtain ⟨A1, c1, A2, c2, A5, c5, rfl, h1, l1, h2, l2, h5, l5⟩ := h
  obtain ⟨B, d, rfl, k0, m0⟩ := hx
  obtain ⟨C, e, rfl, k1, m1⟩ := hy
  refine view_Results.calls (q.length + 2) n0 A1 c1 p A2 c2 q n3 n4 A5 c5 cd l B d xs C e ys _ w h1 l1 h2 l2 h5 l5 k0 m0 k1 m1 ?_
  show (view_alike.f _ _ _ _ _).bind _ = _
  rw [valike_f l q xs ys hm _ (by omega)]
  rfl
theorem rResC {w : World} {v x y : Value} {n0 : Int} {p q : List Int} {n3 n4 : Int} {cd : List S77} {xs ys : List Int} (h : FnR w v n0 p q n3 n4 cd) (hx : IntsR w x xs) (hy : IntsR w y ys) (l : Int) (hm : q.length ≤ 9223372036854775807) (hl : (Lit.int .u64 l).wf = true) (hg : ∀ a ∈ q, (Lit.int .u64 a).wf = true) :
    Calls Try.prog 29 #[v, .int .u64 l, x, y] w fun e w' => e = .returned (.bool (numsB l q xs ys)) ∧ Below w.heap.size w w' := by
  obtain ⟨A1, c1, A2, c2, A5, c5, rfl, h1, l1, h2, l2, h5, l5⟩ := h
  obtain ⟨B, d, rfl, k0, m0⟩ := hx
  obtain ⟨C, e, rfl, k1, m1⟩ := hy
  refine louverref20_Results.calls (q.length + 68) n0 A1 c1 p A2 c2 q n3 n4 A5 c5 cd l B d xs C e ys _ w h1 l1 h2 l2 h5 l5 k0 m0 k1 m1 ?_
  show (louverref20_numbers.f _ _ _ _ _).bind _ = _
  rw [numbers_f l hl q xs ys hg hm _ (by omega)]
  rfl
set_option maxHeartbeats 32000000 in
set_option maxRecDepth 100000 in
theorem viewAlike.calls (A0 A1 A2 A3 : Option Addr) (c0 c1 c2 c3 : Nat) (gs : List Int) (arr : List S57) (l2 : List Int) (l3 : List S48) (P1 Q1 : Option Addr) (p1 q1 : Nat) (g1 : List Int) (r1 : List (List Int)) (P2 Q2 : Option Addr) (p2 q2 : Nat) (g2 : List Int) (r2 : List (List Int)) (n0 n3 n4 : Int) (E1 E2 E5 : Option Addr) (e1 e2 e5 : Nat) (p q : List Int) (cd : List S77) (U V : Option Addr) (u_ v_ : Nat) (xs ys : List Int) (l : Int) (w : World) (hm : ModR w (.agg #[.slice A0 gs.length c0, .slice A1 arr.length c1, .slice A2 l2.length c2, .slice A3 l3.length c3]) gs arr l2 l3) (h1 : MemR w (.agg #[.slice P1 g1.length p1, .slice Q1 r1.length q1]) g1 r1) (h2 : MemR w (.agg #[.slice P2 g2.length p2, .slice Q2 r2.length q2]) g2 r2) (hf : FnR w (.agg #[.int .u64 n0, .slice E1 p.length e1, .slice E2 q.length e2, .int .i64 n3, .int .i64 n4, .slice E5 cd.length e5]) n0 p q n3 n4 cd) (hu : IntsR w (.slice U xs.length u_) xs) (hv : IntsR w (.slice V ys.length v_) ys) (B : Nat) (hB : B ≤ 17592186044415) (s1 : Sized B g1 r1) (s2 : Sized B g2 r2) (wl : (Lit.int .u64 l).wf = true) (wg : ∀ a ∈ gs, (Lit.int .u64 a).wf = true) (wa : ∀ a ∈ arr, (Lit.int .u64 a.f1).wf = true) (wp : ∀ a ∈ p, (Lit.int .u64 a).wf = true) (wq : ∀ a ∈ q, (Lit.int .u64 a).wf = true) (z0 : (gs.length + 1) * 8 ≤ 140737488355328) (z1 : (arr.length + 1) * 16 ≤ 140737488355328) (z2 : (l2.length + 1) * 8 ≤ 140737488355328) (z3 : (l3.length + 1) * 96 ≤ 140737488355328) (zf : ∀ x ∈ l3, (x.f1.length + 1) * 8 ≤ 140737488355328 ∧ (x.f2.length + 1) * 8 ≤ 140737488355328 ∧ (x.f5.length + 1) * 16 ≤ 140737488355328) (y1 : ((g1.length + 1) * 8 ≤ 140737488355328 ∧ (r1.length + 1) * 24 ≤ 140737488355328 ∧ ∀ x ∈ r1, (x.length + 1) * 8 ≤ 140737488355328)) (y2 : ((g2.length + 1) * 8 ≤ 140737488355328 ∧ (r2.length + 1) * 24 ≤ 140737488355328 ∧ ∀ x ∈ r2, (x.length + 1) * 8 ≤ 140737488355328)) (yf : ((p.length + 1) * 8 ≤ 140737488355328 ∧ (q.length + 1) * 8 ≤ 140737488355328 ∧ (cd.length + 1) * 16 ≤ 140737488355328)) (yu : (xs.length + 1) * 8 ≤ 140737488355328) (yv : (ys.length + 1) * 8 ≤ 140737488355328) :
    Calls Try.prog 5 #[.agg #[.slice A0 gs.length c0, .slice A1 arr.length c1, .slice A2 l2.length c2, .slice A3 l3.length c3], .int .u64 l, .agg #[.slice P1 g1.length p1, .slice Q1 r1.length q1], .agg #[.slice P2 g2.length p2, .slice Q2 r2.length q2], .agg #[.int .u64 n0, .slice E1 p.length e1, .slice E2 q.length e2, .int .i64 n3, .int .i64 n4, .slice E5 cd.length e5], .slice U xs.length u_, .slice V ys.length v_] w fun e w' => e = .returned (.bool true) ∧ Below w.heap.size w w' := by
  have Zhm := Aside0.mk hm
  have Zh1 := Aside0.mk h1
  have Zh2 := Aside0.mk h2
  have Zhf := Aside0.mk hf
  have Zhu := Aside0.mk hu
  have Zhv := Aside0.mk hv
  have ZhB := Aside0.mk hB
  have Zs1 := Aside0.mk s1
  have Zs2 := Aside0.mk s2
  have Zwl := Aside0.mk wl
  have Zwg := Aside0.mk wg
  have Zwa := Aside0.mk wa
  have Zwp := Aside0.mk wp
  have Zwq := Aside0.mk wq
  have Zz0 := Aside0.mk z0
  have Zz1 := Aside0.mk z1
  have Zz2 := Aside0.mk z2
  have Zz3 := Aside0.mk z3
  have Zzf := Aside0.mk zf
  have Zy1 := Aside0.mk y1
  have Zy2 := Aside0.mk y2
  have Zyf := Aside0.mk yf
  have Zyu := Aside0.mk yu
  have Zyv := Aside0.mk yv
  clear hm h1 h2 hf hu hv hB s1 s2 wl wg wa wp wq z0 z1 z2 z3 zf y1 y2 yf yu yv
  have HB := Aside0.mk (below_alloc (below_alloc (below_alloc (below_alloc (Below.refl w.heap.size w) (.cells #[.slice A0 gs.length c0, .slice A1 arr.length c1, .slice A2 l2.length c2, .slice A3 l3.length c3] 26)) (.cells #[.slice P1 g1.length p1, .slice Q1 r1.length q1] 30)) (.cells #[.slice P2 g2.length p2, .slice Q2 r2.length q2] 30)) (.cells #[.int .u64 n0, .slice E1 p.length e1, .slice E2 q.length e2, .int .i64 n3, .int .i64 n4, .slice E5 cd.length e5] 48))
  have G0_ : (w.alloc (.cells #[.slice A0 gs.length c0, .slice A1 arr.length c1, .slice A2 l2.length c2, .slice A3 l3.length c3] 26)).heap[w.heap.size + 0]? = some (.cells #[.slice A0 gs.length c0, .slice A1 arr.length c1, .slice A2 l2.length c2, .slice A3 l3.length c3] 26 (0, 0)) := by
    have := heap_alloc_new w (.cells #[.slice A0 gs.length c0, .slice A1 arr.length c1, .slice A2 l2.length c2, .slice A3 l3.length c3] 26)
    simpa using this
  have HG0 := Aside0.mk (blk_alloc (blk_alloc (blk_alloc (G0_) (.cells #[.slice P1 g1.length p1, .slice Q1 r1.length q1] 30)) (.cells #[.slice P2 g2.length p2, .slice Q2 r2.length q2] 30)) (.cells #[.int .u64 n0, .slice E1 p.length e1, .slice E2 q.length e2, .int .i64 n3, .int .i64 n4, .slice E5 cd.length e5] 48))
  clear G0_
  have G1_ : ((w.alloc (.cells #[.slice A0 gs.length c0, .slice A1 arr.length c1, .slice A2 l2.length c2, .slice A3 l3.length c3] 26)).alloc (.cells #[.slice P1 g1.length p1, .slice Q1 r1.length q1] 30)).heap[w.heap.size + 1]? = some (.cells #[.slice P1 g1.length p1, .slice Q1 r1.length q1] 30 (0, 0)) := by
    have := heap_alloc_new (w.alloc (.cells #[.slice A0 gs.length c0, .slice A1 arr.length c1, .slice A2 l2.length c2, .slice A3 l3.length c3] 26)) (.cells #[.slice P1 g1.length p1, .slice Q1 r1.length q1] 30)
    simpa using this
  have HG1 := Aside0.mk (blk_alloc (blk_alloc (G1_) (.cells #[.slice P2 g2.length p2, .slice Q2 r2.length q2] 30)) (.cells #[.int .u64 n0, .slice E1 p.length e1, .slice E2 q.length e2, .int .i64 n3, .int .i64 n4, .slice E5 cd.length e5] 48))
  clear G1_
  have G2_ : (((w.alloc (.cells #[.slice A0 gs.length c0, .slice A1 arr.length c1, .slice A2 l2.length c2, .slice A3 l3.length c3] 26)).alloc (.cells #[.slice P1 g1.length p1, .slice Q1 r1.length q1] 30)).alloc (.cells #[.slice P2 g2.length p2, .slice Q2 r2.length q2] 30)).heap[w.heap.size + 2]? = some (.cells #[.slice P2 g2.length p2, .slice Q2 r2.length q2] 30 (0, 0)) := by
    have := heap_alloc_new ((w.alloc (.cells #[.slice A0 gs.length c0, .slice A1 arr.length c1, .slice A2 l2.length c2, .slice A3 l3.length c3] 26)).alloc (.cells #[.slice P1 g1.length p1, .slice Q1 r1.length q1] 30)) (.cells #[.slice P2 g2.length p2, .slice Q2 r2.length q2] 30)
    simpa using this
  have HG2 := Aside0.mk (blk_alloc (G2_) (.cells #[.int .u64 n0, .slice E1 p.length e1, .slice E2 q.length e2, .int .i64 n3, .int .i64 n4, .slice E5 cd.length e5] 48))
  clear G2_
  have G3_ : ((((w.alloc (.cells #[.slice A0 gs.length c0, .slice A1 arr.length c1, .slice A2 l2.length c2, .slice A3 l3.length c3] 26)).alloc (.cells #[.slice P1 g1.length p1, .slice Q1 r1.length q1] 30)).alloc (.cells #[.slice P2 g2.length p2, .slice Q2 r2.length q2] 30)).alloc (.cells #[.int .u64 n0, .slice E1 p.length e1, .slice E2 q.length e2, .int .i64 n3, .int .i64 n4, .slice E5 cd.length e5] 48)).heap[w.heap.size + 3]? = some (.cells #[.int .u64 n0, .slice E1 p.length e1, .slice E2 q.length e2, .int .i64 n3, .int .i64 n4, .slice E5 cd.length e5] 48 (0, 0)) := by
    have := heap_alloc_new (((w.alloc (.cells #[.slice A0 gs.length c0, .slice A1 arr.length c1, .slice A2 l2.length c2, .slice A3 l3.length c3] 26)).alloc (.cells #[.slice P1 g1.length p1, .slice Q1 r1.length q1] 30)).alloc (.cells #[.slice P2 g2.length p2, .slice Q2 r2.length q2] 30)) (.cells #[.int .u64 n0, .slice E1 p.length e1, .slice E2 q.length e2, .int .i64 n3, .int .i64 n4, .slice E5 cd.length e5] 48)
    simpa using this
  have HG3 := Aside0.mk (G3_)
  clear G3_
  simp only [Nat.add_zero] at HG0
  obtain ⟨m0_, m1_, m2_, m3_⟩ := va4 HG0.out
  obtain ⟨⟨a0_, a1_⟩, _, _⟩ := blk2 HG1.out
  obtain ⟨⟨b0_, b1_⟩, _, _⟩ := blk2 HG2.out
  obtain ⟨f0_, f1_, f2_, f3_, f4_, f5_⟩ := va6 HG3.out
  go_enter Try.func5, Try.ntmps5
  go_wp2_with fail
  refine (lentModR _ _ _ _ _ _ (Zhm.out.below HB.out) Zz0.out Zz1.out Zz2.out Zz3.out Zzf.out).mono ?_
  rintro e t1 ⟨v, rfl, hL, hb⟩
  clear m0_ m1_ m2_ m3_ a0_ a1_ b0_ b1_ f0_ f1_ f2_ f3_ f4_ f5_
  replace HG0 := Aside0.mk (blk_below HG0.out hb)
  replace HG1 := Aside0.mk (blk_below HG1.out hb)
  replace HG2 := Aside0.mk (blk_below HG2.out hb)
  replace HG3 := Aside0.mk (blk_below HG3.out hb)
  replace HB := Aside0.mk (below_step HB.out hb)
  clear hb
  obtain ⟨K0, k0, K1, k1, K2, k2, K3, k3, rfl, hL0⟩ := hL
  have hLL : LentM t1 (.agg #[.slice K0 gs.length k0, .slice K1 arr.length k1, .slice K2 l2.length k2, .slice K3 l3.length k3]) gs arr l2 l3 := ⟨K0, k0, K1, k1, K2, k2, K3, k3, rfl, hL0⟩
  clear hL0
  have hgs := heap_alloc_new t1 (.cells #[.slice K0 gs.length k0, .slice K1 arr.length k1, .slice K2 l2.length k2, .slice K3 l3.length k3] 26)
  have hb := below_alloc (Below.refl t1.heap.size t1) (.cells #[.slice K0 gs.length k0, .slice K1 arr.length k1, .slice K2 l2.length k2, .slice K3 l3.length k3] 26)
  replace HG0 := Aside0.mk (blk_below HG0.out hb)
  replace HG1 := Aside0.mk (blk_below HG1.out hb)
  replace HG2 := Aside0.mk (blk_below HG2.out hb)
  replace HG3 := Aside0.mk (blk_below HG3.out hb)
  replace HB := Aside0.mk (below_step HB.out hb)
  have HK1 := Aside0.mk (hLL.below hb)
  clear hb
  have HQ1 := Aside0.mk hgs
  clear hgs
  obtain ⟨m0_, m1_, m2_, m3_⟩ := va4 HG0.out
  obtain ⟨⟨a0_, a1_⟩, _, _⟩ := blk2 HG1.out
  obtain ⟨⟨b0_, b1_⟩, _, _⟩ := blk2 HG2.out
  obtain ⟨f0_, f1_, f2_, f3_, f4_, f5_⟩ := va6 HG3.out
  obtain ⟨i0_, i1_, i2_, i3_⟩ := va4 HQ1.out
  go_wp2_with fail
  obtain ⟨b1, hq⟩ : ∃ q, t1.heap.size = q := ⟨_, rfl⟩
  obtain ⟨u1, hu2⟩ : ∃ W, t1.alloc (.cells #[.slice K0 gs.length k0, .slice K1 arr.length k1, .slice K2 l2.length k2, .slice K3 l3.length k3] 26) = W := ⟨_, rfl⟩
  clear m0_ m1_ m2_ m3_ a0_ a1_ b0_ b1_ f0_ f1_ f2_ f3_ f4_ f5_ i0_ i1_ i2_ i3_
  rw [hu2] at HG0 HG1 HG2 HG3 HQ1 HK1 HB ⊢
  rw [hq] at HQ1 ⊢
  clear hu2 hq
  obtain ⟨m0_, m1_, m2_, m3_⟩ := va4 HG0.out
  obtain ⟨⟨a0_, a1_⟩, _, _⟩ := blk2 HG1.out
  obtain ⟨⟨b0_, b1_⟩, _, _⟩ := blk2 HG2.out
  obtain ⟨f0_, f1_, f2_, f3_, f4_, f5_⟩ := va6 HG3.out
  obtain ⟨i0_, i1_, i2_, i3_⟩ := va4 HQ1.out
  refine (lentMemR _ _ _ _ (Zh1.out.below HB.out) Zy1.out.1 Zy1.out.2.1 Zy1.out.2.2).mono ?_
  rintro e t2 ⟨v, rfl, hL, hb⟩
  clear m0_ m1_ m2_ m3_ a0_ a1_ b0_ b1_ f0_ f1_ f2_ f3_ f4_ f5_ i0_ i1_ i2_ i3_
  replace HG0 := Aside0.mk (blk_below HG0.out hb)
  replace HG1 := Aside0.mk (blk_below HG1.out hb)
  replace HG2 := Aside0.mk (blk_below HG2.out hb)
  replace HG3 := Aside0.mk (blk_below HG3.out hb)
  replace HQ1 := Aside0.mk (blk_below HQ1.out hb)
  replace HK1 := Aside0.mk (HK1.out.below hb)
  replace HB := Aside0.mk (below_step HB.out hb)
  clear hb
  obtain ⟨X1, x1, Y1, y1, rfl, hL0⟩ := hL
  have hLL : LentMm t2 (.agg #[.slice X1 g1.length x1, .slice Y1 r1.length y1]) g1 r1 := ⟨X1, x1, Y1, y1, rfl, hL0⟩
  clear hL0
  have hgs := heap_alloc_new t2 (.cells #[.slice X1 g1.length x1, .slice Y1 r1.length y1] 30)
  have hb := below_alloc (Below.refl t2.heap.size t2) (.cells #[.slice X1 g1.length x1, .slice Y1 r1.length y1] 30)
  replace HG0 := Aside0.mk (blk_below HG0.out hb)
  replace HG1 := Aside0.mk (blk_below HG1.out hb)
  replace HG2 := Aside0.mk (blk_below HG2.out hb)
  replace HG3 := Aside0.mk (blk_below HG3.out hb)
  replace HQ1 := Aside0.mk (blk_below HQ1.out hb)
  replace HK1 := Aside0.mk (HK1.out.below hb)
  replace HB := Aside0.mk (below_step HB.out hb)
  have HK2 := Aside0.mk (hLL.below hb)
  clear hb
  have HQ2 := Aside0.mk hgs
  clear hgs
  obtain ⟨m0_, m1_, m2_, m3_⟩ := va4 HG0.out
  obtain ⟨⟨a0_, a1_⟩, _, _⟩ := blk2 HG1.out
  obtain ⟨⟨b0_, b1_⟩, _, _⟩ := blk2 HG2.out
  obtain ⟨f0_, f1_, f2_, f3_, f4_, f5_⟩ := va6 HG3.out
  obtain ⟨i0_, i1_, i2_, i3_⟩ := va4 HQ1.out
  obtain ⟨⟨x0_, x1_⟩, _, _⟩ := blk2 HQ2.out
  go_wp2_with fail
  obtain ⟨b2, hq⟩ : ∃ q, t2.heap.size = q := ⟨_, rfl⟩
  obtain ⟨u2, hu2⟩ : ∃ W, t2.alloc (.cells #[.slice X1 g1.length x1, .slice Y1 r1.length y1] 30) = W := ⟨_, rfl⟩
  clear m0_ m1_ m2_ m3_ a0_ a1_ b0_ b1_ f0_ f1_ f2_ f3_ f4_ f5_ i0_ i1_ i2_ i3_ x0_ x1_
  rw [hu2] at HG0 HG1 HG2 HG3 HQ1 HQ2 HK1 HK2 HB ⊢
  rw [hq] at HQ2 ⊢
  clear hu2 hq
  obtain ⟨m0_, m1_, m2_, m3_⟩ := va4 HG0.out
  obtain ⟨⟨a0_, a1_⟩, _, _⟩ := blk2 HG1.out
  obtain ⟨⟨b0_, b1_⟩, _, _⟩ := blk2 HG2.out
  obtain ⟨f0_, f1_, f2_, f3_, f4_, f5_⟩ := va6 HG3.out
  obtain ⟨i0_, i1_, i2_, i3_⟩ := va4 HQ1.out
  obtain ⟨⟨x0_, x1_⟩, _, _⟩ := blk2 HQ2.out
  refine (lentMemR _ _ _ _ (Zh2.out.below HB.out) Zy2.out.1 Zy2.out.2.1 Zy2.out.2.2).mono ?_
  rintro e t3 ⟨v, rfl, hL, hb⟩
  clear m0_ m1_ m2_ m3_ a0_ a1_ b0_ b1_ f0_ f1_ f2_ f3_ f4_ f5_ i0_ i1_ i2_ i3_ x0_ x1_
  replace HG0 := Aside0.mk (blk_below HG0.out hb)
  replace HG1 := Aside0.mk (blk_below HG1.out hb)
  replace HG2 := Aside0.mk (blk_below HG2.out hb)
  replace HG3 := Aside0.mk (blk_below HG3.out hb)
  replace HQ1 := Aside0.mk (blk_below HQ1.out hb)
  replace HQ2 := Aside0.mk (blk_below HQ2.out hb)
  replace HK1 := Aside0.mk (HK1.out.below hb)
  replace HK2 := Aside0.mk (HK2.out.below hb)
  replace HB := Aside0.mk (below_step HB.out hb)
  clear hb
  obtain ⟨X2, x2, Y2, y2, rfl, hL0⟩ := hL
  have hLL : LentMm t3 (.agg #[.slice X2 g2.length x2, .slice Y2 r2.length y2]) g2 r2 := ⟨X2, x2, Y2, y2, rfl, hL0⟩
  clear hL0
  have hgs := heap_alloc_new t3 (.cells #[.slice X2 g2.length x2, .slice Y2 r2.length y2] 30)
  have hb := below_alloc (Below.refl t3.heap.size t3) (.cells #[.slice X2 g2.length x2, .slice Y2 r2.length y2] 30)
  replace HG0 := Aside0.mk (blk_below HG0.out hb)
  replace HG1 := Aside0.mk (blk_below HG1.out hb)
  replace HG2 := Aside0.mk (blk_below HG2.out hb)
  replace HG3 := Aside0.mk (blk_below HG3.out hb)
  replace HQ1 := Aside0.mk (blk_below HQ1.out hb)
  replace HQ2 := Aside0.mk (blk_below HQ2.out hb)
  replace HK1 := Aside0.mk (HK1.out.below hb)
  replace HK2 := Aside0.mk (HK2.out.below hb)
  replace HB := Aside0.mk (below_step HB.out hb)
  have HK3 := Aside0.mk (hLL.below hb)
  clear hb
  have HQ3 := Aside0.mk hgs
  clear hgs
  obtain ⟨m0_, m1_, m2_, m3_⟩ := va4 HG0.out
  obtain ⟨⟨a0_, a1_⟩, _, _⟩ := blk2 HG1.out
  obtain ⟨⟨b0_, b1_⟩, _, _⟩ := blk2 HG2.out
  obtain ⟨f0_, f1_, f2_, f3_, f4_, f5_⟩ := va6 HG3.out
  obtain ⟨i0_, i1_, i2_, i3_⟩ := va4 HQ1.out
  obtain ⟨⟨x0_, x1_⟩, _, _⟩ := blk2 HQ2.out
  obtain ⟨⟨y0_, y1_⟩, _, _⟩ := blk2 HQ3.out
  go_wp2_with fail
  obtain ⟨b3, hq⟩ : ∃ q, t3.heap.size = q := ⟨_, rfl⟩
  obtain ⟨u3, hu2⟩ : ∃ W, t3.alloc (.cells #[.slice X2 g2.length x2, .slice Y2 r2.length y2] 30) = W := ⟨_, rfl⟩
  clear m0_ m1_ m2_ m3_ a0_ a1_ b0_ b1_ f0_ f1_ f2_ f3_ f4_ f5_ i0_ i1_ i2_ i3_ x0_ x1_ y0_ y1_
  rw [hu2] at HG0 HG1 HG2 HG3 HQ1 HQ2 HQ3 HK1 HK2 HK3 HB ⊢
  rw [hq] at HQ3 ⊢
  clear hu2 hq
  obtain ⟨m0_, m1_, m2_, m3_⟩ := va4 HG0.out
  obtain ⟨⟨a0_, a1_⟩, _, _⟩ := blk2 HG1.out
  obtain ⟨⟨b0_, b1_⟩, _, _⟩ := blk2 HG2.out
  obtain ⟨f0_, f1_, f2_, f3_, f4_, f5_⟩ := va6 HG3.out
  obtain ⟨i0_, i1_, i2_, i3_⟩ := va4 HQ1.out
  obtain ⟨⟨x0_, x1_⟩, _, _⟩ := blk2 HQ2.out
  obtain ⟨⟨y0_, y1_⟩, _, _⟩ := blk2 HQ3.out
  refine (lentFnC _ n0 p q n3 n4 cd _ (Zhf.out.below HB.out) Zyf.out.1 Zyf.out.2.1 Zyf.out.2.2).mono ?_
  rintro e t4 ⟨v, rfl, hL, hb⟩
  clear m0_ m1_ m2_ m3_ a0_ a1_ b0_ b1_ f0_ f1_ f2_ f3_ f4_ f5_ i0_ i1_ i2_ i3_ x0_ x1_ y0_ y1_
  replace HG0 := Aside0.mk (blk_below HG0.out hb)
  replace HG1 := Aside0.mk (blk_below HG1.out hb)
  replace HG2 := Aside0.mk (blk_below HG2.out hb)
  replace HG3 := Aside0.mk (blk_below HG3.out hb)
  replace HQ1 := Aside0.mk (blk_below HQ1.out hb)
  replace HQ2 := Aside0.mk (blk_below HQ2.out hb)
  replace HQ3 := Aside0.mk (blk_below HQ3.out hb)
  replace HK1 := Aside0.mk (HK1.out.below hb)
  replace HK2 := Aside0.mk (HK2.out.below hb)
  replace HK3 := Aside0.mk (HK3.out.below hb)
  replace HB := Aside0.mk (below_step HB.out hb)
  clear hb
  obtain ⟨_, _, _, rfl, ⟨F1, f1, rfl, hL1⟩, ⟨F2, f2, rfl, hL2⟩, ⟨F5, f5, rfl, hL5⟩⟩ := hL
  have hLL : LentFnR t4 (.agg #[.int .u64 n0, .slice F1 p.length f1, .slice F2 q.length f2, .int .i64 n3, .int .i64 n4, .slice F5 cd.length f5]) n0 p q n3 n4 cd := ⟨_, _, _, rfl, ⟨F1, f1, rfl, hL1⟩, ⟨F2, f2, rfl, hL2⟩, ⟨F5, f5, rfl, hL5⟩⟩
  clear hL1 hL2 hL5
  have hgs := heap_alloc_new t4 (.cells #[.int .u64 n0, .slice F1 p.length f1, .slice F2 q.length f2, .int .i64 n3, .int .i64 n4, .slice F5 cd.length f5] 48)
  have hb := below_alloc (Below.refl t4.heap.size t4) (.cells #[.int .u64 n0, .slice F1 p.length f1, .slice F2 q.length f2, .int .i64 n3, .int .i64 n4, .slice F5 cd.length f5] 48)
  replace HG0 := Aside0.mk (blk_below HG0.out hb)
  replace HG1 := Aside0.mk (blk_below HG1.out hb)
  replace HG2 := Aside0.mk (blk_below HG2.out hb)
  replace HG3 := Aside0.mk (blk_below HG3.out hb)
  replace HQ1 := Aside0.mk (blk_below HQ1.out hb)
  replace HQ2 := Aside0.mk (blk_below HQ2.out hb)
  replace HQ3 := Aside0.mk (blk_below HQ3.out hb)
  replace HK1 := Aside0.mk (HK1.out.below hb)
  replace HK2 := Aside0.mk (HK2.out.below hb)
  replace HK3 := Aside0.mk (HK3.out.below hb)
  replace HB := Aside0.mk (below_step HB.out hb)
  have HK4 := Aside0.mk (hLL.below hb)
  clear hb
  have HQ4 := Aside0.mk hgs
  clear hgs
  obtain ⟨m0_, m1_, m2_, m3_⟩ := va4 HG0.out
  obtain ⟨⟨a0_, a1_⟩, _, _⟩ := blk2 HG1.out
  obtain ⟨⟨b0_, b1_⟩, _, _⟩ := blk2 HG2.out
  obtain ⟨f0_, f1_, f2_, f3_, f4_, f5_⟩ := va6 HG3.out
  obtain ⟨i0_, i1_, i2_, i3_⟩ := va4 HQ1.out
  obtain ⟨⟨x0_, x1_⟩, _, _⟩ := blk2 HQ2.out
  obtain ⟨⟨y0_, y1_⟩, _, _⟩ := blk2 HQ3.out
  obtain ⟨g0_, g1_, g2_, g3_, g4_, g5_⟩ := va6 HQ4.out
  go_wp2_with fail
  obtain ⟨b4, hq⟩ : ∃ q, t4.heap.size = q := ⟨_, rfl⟩
  obtain ⟨u4, hu2⟩ : ∃ W, t4.alloc (.cells #[.int .u64 n0, .slice F1 p.length f1, .slice F2 q.length f2, .int .i64 n3, .int .i64 n4, .slice F5 cd.length f5] 48) = W := ⟨_, rfl⟩
  clear m0_ m1_ m2_ m3_ a0_ a1_ b0_ b1_ f0_ f1_ f2_ f3_ f4_ f5_ i0_ i1_ i2_ i3_ x0_ x1_ y0_ y1_ g0_ g1_ g2_ g3_ g4_ g5_
  rw [hu2] at HG0 HG1 HG2 HG3 HQ1 HQ2 HQ3 HQ4 HK1 HK2 HK3 HK4 HB ⊢
  rw [hq] at HQ4 ⊢
  clear hu2 hq
  obtain ⟨m0_, m1_, m2_, m3_⟩ := va4 HG0.out
  obtain ⟨⟨a0_, a1_⟩, _, _⟩ := blk2 HG1.out
  obtain ⟨⟨b0_, b1_⟩, _, _⟩ := blk2 HG2.out
  obtain ⟨f0_, f1_, f2_, f3_, f4_, f5_⟩ := va6 HG3.out
  obtain ⟨i0_, i1_, i2_, i3_⟩ := va4 HQ1.out
  obtain ⟨⟨x0_, x1_⟩, _, _⟩ := blk2 HQ2.out
  obtain ⟨⟨y0_, y1_⟩, _, _⟩ := blk2 HQ3.out
  obtain ⟨g0_, g1_, g2_, g3_, g4_, g5_⟩ := va6 HQ4.out
  refine (lentIntsR _ xs _ (Zhu.out.below HB.out) Zyu.out).mono ?_
  rintro e t5 ⟨v, rfl, hL, hb⟩
  clear m0_ m1_ m2_ m3_ a0_ a1_ b0_ b1_ f0_ f1_ f2_ f3_ f4_ f5_ i0_ i1_ i2_ i3_ x0_ x1_ y0_ y1_ g0_ g1_ g2_ g3_ g4_ g5_
  replace HG0 := Aside0.mk (blk_below HG0.out hb)
  replace HG1 := Aside0.mk (blk_below HG1.out hb)
  replace HG2 := Aside0.mk (blk_below HG2.out hb)
  replace HG3 := Aside0.mk (blk_below HG3.out hb)
  replace HQ1 := Aside0.mk (blk_below HQ1.out hb)
  replace HQ2 := Aside0.mk (blk_below HQ2.out hb)
  replace HQ3 := Aside0.mk (blk_below HQ3.out hb)
  replace HQ4 := Aside0.mk (blk_below HQ4.out hb)
  replace HK1 := Aside0.mk (HK1.out.below hb)
  replace HK2 := Aside0.mk (HK2.out.below hb)
  replace HK3 := Aside0.mk (HK3.out.below hb)
  replace HK4 := Aside0.mk (HK4.out.below hb)
  replace HB := Aside0.mk (below_step HB.out hb)
  clear hb
  obtain ⟨L5, d5, rfl, hL0⟩ := hL
  have HK5 := Aside0.mk (show LentC (Kd.int .i64) t5 (.slice L5 xs.length d5) xs (-7171) from ⟨L5, d5, rfl, hL0⟩)
  clear hL0
  obtain ⟨m0_, m1_, m2_, m3_⟩ := va4 HG0.out
  obtain ⟨⟨a0_, a1_⟩, _, _⟩ := blk2 HG1.out
  obtain ⟨⟨b0_, b1_⟩, _, _⟩ := blk2 HG2.out
  obtain ⟨f0_, f1_, f2_, f3_, f4_, f5_⟩ := va6 HG3.out
  obtain ⟨i0_, i1_, i2_, i3_⟩ := va4 HQ1.out
  obtain ⟨⟨x0_, x1_⟩, _, _⟩ := blk2 HQ2.out
  obtain ⟨⟨y0_, y1_⟩, _, _⟩ := blk2 HQ3.out
  obtain ⟨g0_, g1_, g2_, g3_, g4_, g5_⟩ := va6 HQ4.out
  go_wp2_with fail
  refine (lentIntsR _ ys _ (Zhv.out.below HB.out) Zyv.out).mono ?_
  rintro e t6 ⟨v, rfl, hL, hb⟩
  clear m0_ m1_ m2_ m3_ a0_ a1_ b0_ b1_ f0_ f1_ f2_ f3_ f4_ f5_ i0_ i1_ i2_ i3_ x0_ x1_ y0_ y1_ g0_ g1_ g2_ g3_ g4_ g5_
  replace HG0 := Aside0.mk (blk_below HG0.out hb)
  replace HG1 := Aside0.mk (blk_below HG1.out hb)
  replace HG2 := Aside0.mk (blk_below HG2.out hb)
  replace HG3 := Aside0.mk (blk_below HG3.out hb)
  replace HQ1 := Aside0.mk (blk_below HQ1.out hb)
  replace HQ2 := Aside0.mk (blk_below HQ2.out hb)
  replace HQ3 := Aside0.mk (blk_below HQ3.out hb)
  replace HQ4 := Aside0.mk (blk_below HQ4.out hb)
  replace HK1 := Aside0.mk (HK1.out.below hb)
  replace HK2 := Aside0.mk (HK2.out.below hb)
  replace HK3 := Aside0.mk (HK3.out.below hb)
  replace HK4 := Aside0.mk (HK4.out.below hb)
  replace HK5 := Aside0.mk (HK5.out.below hb)
  replace HB := Aside0.mk (below_step HB.out hb)
  clear hb
  obtain ⟨L6, d6, rfl, hL0⟩ := hL
  have HK6 := Aside0.mk (show LentC (Kd.int .i64) t6 (.slice L6 ys.length d6) ys (-7171) from ⟨L6, d6, rfl, hL0⟩)
  clear hL0
  obtain ⟨m0_, m1_, m2_, m3_⟩ := va4 HG0.out
  obtain ⟨⟨a0_, a1_⟩, _, _⟩ := blk2 HG1.out
  obtain ⟨⟨b0_, b1_⟩, _, _⟩ := blk2 HG2.out
  obtain ⟨f0_, f1_, f2_, f3_, f4_, f5_⟩ := va6 HG3.out
  obtain ⟨i0_, i1_, i2_, i3_⟩ := va4 HQ1.out
  obtain ⟨⟨x0_, x1_⟩, _, _⟩ := blk2 HQ2.out
  obtain ⟨⟨y0_, y1_⟩, _, _⟩ := blk2 HQ3.out
  obtain ⟨g0_, g1_, g2_, g3_, g4_, g5_⟩ := va6 HQ4.out
  go_wp2_with fail
  have HV := Aside0.mk (Below.refl t6.heap.size t6)
  obtain ⟨sb, hsb⟩ : ∃ b, sameB g1 r1 g2 r2 = b := ⟨_, rfl⟩
  have ZSB := Aside0.mk hsb
  clear hsb
  obtain ⟨ab, hab⟩ : ∃ b, alikeB gs arr l g1 r1 g2 r2 = b := ⟨_, rfl⟩
  have ZAB := Aside0.mk hab
  clear hab
  obtain ⟨nb, hnb⟩ : ∃ b, numsB l p xs ys = b := ⟨_, rfl⟩
  have ZNB := Aside0.mk hnb
  clear hnb
  obtain ⟨rb, hrb⟩ : ∃ b, numsB l q xs ys = b := ⟨_, rfl⟩
  have ZRB := Aside0.mk hrb
  clear hrb
  refine start_ (n := 46) (S := fun w' => w'.cell? ⟨w.heap.size, 0, none⟩ = some (.slice A0 gs.length c0) ∧ w'.cell? ⟨w.heap.size, 1, none⟩ = some (.slice A1 arr.length c1) ∧ w'.cell? ⟨w.heap.size, 2, none⟩ = some (.slice A2 l2.length c2) ∧ w'.cell? ⟨w.heap.size, 3, none⟩ = some (.slice A3 l3.length c3) ∧ w'.cell? ⟨w.heap.size + 1, 0, none⟩ = some (.slice P1 g1.length p1) ∧ w'.cell? ⟨w.heap.size + 1, 1, none⟩ = some (.slice Q1 r1.length q1) ∧ w'.cell? ⟨w.heap.size + 2, 0, none⟩ = some (.slice P2 g2.length p2) ∧ w'.cell? ⟨w.heap.size + 2, 1, none⟩ = some (.slice Q2 r2.length q2) ∧ w'.cell? ⟨w.heap.size + 3, 0, none⟩ = some (.int .u64 n0) ∧ w'.cell? ⟨w.heap.size + 3, 1, none⟩ = some (.slice E1 p.length e1) ∧ w'.cell? ⟨w.heap.size + 3, 2, none⟩ = some (.slice E2 q.length e2) ∧ w'.cell? ⟨w.heap.size + 3, 3, none⟩ = some (.int .i64 n3) ∧ w'.cell? ⟨w.heap.size + 3, 4, none⟩ = some (.int .i64 n4) ∧ w'.cell? ⟨w.heap.size + 3, 5, none⟩ = some (.slice E5 cd.length e5) ∧ w'.cell? ⟨b1, 0, none⟩ = some (.slice K0 gs.length k0) ∧ w'.cell? ⟨b1, 1, none⟩ = some (.slice K1 arr.length k1) ∧ w'.cell? ⟨b1, 2, none⟩ = some (.slice K2 l2.length k2) ∧ w'.cell? ⟨b1, 3, none⟩ = some (.slice K3 l3.length k3) ∧ w'.cell? ⟨b2, 0, none⟩ = some (.slice X1 g1.length x1) ∧ w'.cell? ⟨b2, 1, none⟩ = some (.slice Y1 r1.length y1) ∧ w'.cell? ⟨b3, 0, none⟩ = some (.slice X2 g2.length x2) ∧ w'.cell? ⟨b3, 1, none⟩ = some (.slice Y2 r2.length y2) ∧ w'.cell? ⟨b4, 0, none⟩ = some (.int .u64 n0) ∧ w'.cell? ⟨b4, 1, none⟩ = some (.slice F1 p.length f1) ∧ w'.cell? ⟨b4, 2, none⟩ = some (.slice F2 q.length f2) ∧ w'.cell? ⟨b4, 3, none⟩ = some (.int .i64 n3) ∧ w'.cell? ⟨b4, 4, none⟩ = some (.int .i64 n4) ∧ w'.cell? ⟨b4, 5, none⟩ = some (.slice F5 cd.length f5)) (ds := []) #[false, false, false, false, false, false, false, false, false, false, false, false, false, false, false, false, false, false, false, false, false, false, false, false, false, false, false, false, false, false, false, false, false, false, false, false, false, false, false, false, false, false, false, false, false, false] (by kernel_rfl) rfl rfl ⟨m0_, m1_, m2_, m3_, a0_, a1_, b0_, b1_, f0_, f1_, f2_, f3_, f4_, f5_, i0_, i1_, i2_, i3_, x0_, x1_, y0_, y1_, g0_, g1_, g2_, g3_, g4_, g5_⟩ (fun hHeld => ?_)
  refine take_ (i := 0) (N := some 33) (v := ?_) (a' := ?_) #[true, false, false, false, false, false, false, false, false, false, false, false, false, false, false, false, false, false, false, false, false, false, false, false, false, false, false, false, false, false, false, false, false, false, false, false, false, false, false, false, false, false, false, false, false, false] rfl rfl (by kernel_rfl) (fun _ _ _ h => h) (Or.inl ⟨by rfl, ?_⟩) hHeld ?_ ?_
  rotate_left
  · rintro w' ⟨s0, s1, s2, s3, s4, s5, s6, s7, s8, s9, s10, s11, s12, s13, s14, s15, s16, s17, s18, s19, s20, s21, s22, s23, s24, s25, s26, s27⟩
    go_simp
    with_reducible rfl
  rotate_left
  · simp only [Act.put, List.setIfInBounds_toArray, List.set_cons_zero, List.set_cons_succ, i64_w, i32_w]
    rfl
  refine take_ (i := 1) (N := some 34) (v := ?_) (a' := ?_) #[true, true, false, false, false, false, false, false, false, false, false, false, false, false, false, false, false, false, false, false, false, false, false, false, false, false, false, false, false, false, false, false, false, false, false, false, false, false, false, false, false, false, false, false, false, false] rfl rfl (by kernel_rfl) (fun _ _ _ h => h) (Or.inl ⟨by rfl, ?_⟩) hHeld ?_ ?_
  rotate_left
  · rintro w' ⟨s0, s1, s2, s3, s4, s5, s6, s7, s8, s9, s10, s11, s12, s13, s14, s15, s16, s17, s18, s19, s20, s21, s22, s23, s24, s25, s26, s27⟩
    go_simp
    with_reducible rfl
  rotate_left
  · simp only [Act.put, List.setIfInBounds_toArray, List.set_cons_zero, List.set_cons_succ, i64_w, i32_w]
    rfl
  refine take_ (i := 3) (N := some 36) (v := ?_) (a' := ?_) #[true, true, false, true, false, false, false, false, false, false, false, false, false, false, false, false, false, false, false, false, false, false, false, false, false, false, false, false, false, false, false, false, false, false, false, false, false, false, false, false, false, false, false, false, false, false] rfl rfl (by kernel_rfl) (fun _ _ _ h => h) (Or.inl ⟨by rfl, ?_⟩) hHeld ?_ ?_
  rotate_left
  · rintro w' ⟨s0, s1, s2, s3, s4, s5, s6, s7, s8, s9, s10, s11, s12, s13, s14, s15, s16, s17, s18, s19, s20, s21, s22, s23, s24, s25, s26, s27⟩
    go_simp
    with_reducible rfl
  rotate_left
  · simp only [Act.put, List.setIfInBounds_toArray, List.set_cons_zero, List.set_cons_succ, i64_w, i32_w]
    rfl
  refine take_ (i := 4) (N := some 37) (v := ?_) (a' := ?_) #[true, true, false, true, true, false, false, false, false, false, false, false, false, false, false, false, false, false, false, false, false, false, false, false, false, false, false, false, false, false, false, false, false, false, false, false, false, false, false, false, false, false, false, false, false, false] rfl rfl (by kernel_rfl) (fun _ _ _ h => h) (Or.inl ⟨by rfl, ?_⟩) hHeld ?_ ?_
  rotate_left
  · rintro w' ⟨s0, s1, s2, s3, s4, s5, s6, s7, s8, s9, s10, s11, s12, s13, s14, s15, s16, s17, s18, s19, s20, s21, s22, s23, s24, s25, s26, s27⟩
    go_simp
    with_reducible rfl
  rotate_left
  · simp only [Act.put, List.setIfInBounds_toArray, List.set_cons_zero, List.set_cons_succ, i64_w, i32_w]
    rfl
  refine one_ (i := 2) (N := some 35) #[true, true, true, true, true, false, false, false, false, false, false, false, false, false, false, false, false, false, false, false, false, false, false, false, false, false, false, false, false, false, false, false, false, false, false, false, false, false, false, false, false, false, false, false, false, false] rfl rfl (by kernel_rfl) (by decide) (fun K hK => ?_)
  refine goes_ Try.func22 (by kernel_rfl) rfl #[.agg #[.slice X1 g1.length x1, .slice Y1 r1.length y1], .agg #[.slice X2 g2.length x2, .slice Y2 r2.length y2]] (by rfl) rfl rfl (by simp only [List.map_toArray, List.map_cons, List.map_nil]; rfl) ?_
  with_reducible refine (sameC (HK2.out.below (show Below t6.heap.size t6 t6.drew from below_drew1 (Below.refl _ _))).memR (HK3.out.below (show Below t6.heap.size t6 t6.drew from below_drew1 (Below.refl _ _))).memR B (by have := ZhB.out; omega) Zs1.out).mono ?_
  rintro e v1 ⟨rfl, hb⟩
  refine ⟨_, rfl, ?_⟩
  replace hb : Below t6.heap.size t6 _ := ⟨hb.os, hb.tape, hb.output, hb.size, hb.block⟩
  rw [ZSB.out]
  replace HV := Aside0.mk (below_step HV.out hb)
  refine hK.out _ _ ⟨(pw_cell_below hb hHeld.1), (pw_cell_below hb hHeld.2.1), (pw_cell_below hb hHeld.2.2.1), (pw_cell_below hb hHeld.2.2.2.1), (pw_cell_below hb hHeld.2.2.2.2.1), (pw_cell_below hb hHeld.2.2.2.2.2.1), (pw_cell_below hb hHeld.2.2.2.2.2.2.1), (pw_cell_below hb hHeld.2.2.2.2.2.2.2.1), (pw_cell_below hb hHeld.2.2.2.2.2.2.2.2.1), (pw_cell_below hb hHeld.2.2.2.2.2.2.2.2.2.1), (pw_cell_below hb hHeld.2.2.2.2.2.2.2.2.2.2.1), (pw_cell_below hb hHeld.2.2.2.2.2.2.2.2.2.2.2.1), (pw_cell_below hb hHeld.2.2.2.2.2.2.2.2.2.2.2.2.1), (pw_cell_below hb hHeld.2.2.2.2.2.2.2.2.2.2.2.2.2.1), (pw_cell_below hb hHeld.2.2.2.2.2.2.2.2.2.2.2.2.2.2.1), (pw_cell_below hb hHeld.2.2.2.2.2.2.2.2.2.2.2.2.2.2.2.1), (pw_cell_below hb hHeld.2.2.2.2.2.2.2.2.2.2.2.2.2.2.2.2.1), (pw_cell_below hb hHeld.2.2.2.2.2.2.2.2.2.2.2.2.2.2.2.2.2.1), (pw_cell_below hb hHeld.2.2.2.2.2.2.2.2.2.2.2.2.2.2.2.2.2.2.1), (pw_cell_below hb hHeld.2.2.2.2.2.2.2.2.2.2.2.2.2.2.2.2.2.2.2.1), (pw_cell_below hb hHeld.2.2.2.2.2.2.2.2.2.2.2.2.2.2.2.2.2.2.2.2.1), (pw_cell_below hb hHeld.2.2.2.2.2.2.2.2.2.2.2.2.2.2.2.2.2.2.2.2.2.1), (pw_cell_below hb hHeld.2.2.2.2.2.2.2.2.2.2.2.2.2.2.2.2.2.2.2.2.2.2.1), (pw_cell_below hb hHeld.2.2.2.2.2.2.2.2.2.2.2.2.2.2.2.2.2.2.2.2.2.2.2.1), (pw_cell_below hb hHeld.2.2.2.2.2.2.2.2.2.2.2.2.2.2.2.2.2.2.2.2.2.2.2.2.1), (pw_cell_below hb hHeld.2.2.2.2.2.2.2.2.2.2.2.2.2.2.2.2.2.2.2.2.2.2.2.2.2.1), (pw_cell_below hb hHeld.2.2.2.2.2.2.2.2.2.2.2.2.2.2.2.2.2.2.2.2.2.2.2.2.2.2.1), (pw_cell_below hb hHeld.2.2.2.2.2.2.2.2.2.2.2.2.2.2.2.2.2.2.2.2.2.2.2.2.2.2.2)⟩ (fun hHeld => ?_)
  clear hK K
  refine norm_ (a' := ?_) ?_ ?_
  rotate_left
  · show Act.put _ (some 35) _ = _
    simp only [Act.put, List.setIfInBounds_toArray, List.set_cons_zero, List.set_cons_succ, i64_w, i32_w]
    rfl
  refine one_ (i := 5) (N := some 38) #[true, true, true, true, true, true, false, false, false, false, false, false, false, false, false, false, false, false, false, false, false, false, false, false, false, false, false, false, false, false, false, false, false, false, false, false, false, false, false, false, false, false, false, false, false, false] rfl rfl (by kernel_rfl) (by decide) (fun K hK => ?_)
  refine goes_ Try.func16 (by kernel_rfl) rfl #[.agg #[.slice P1 g1.length p1, .slice Q1 r1.length q1], .agg #[.slice P2 g2.length p2, .slice Q2 r2.length q2]] (by rfl) rfl rfl (by simp only [List.map_toArray, List.map_cons, List.map_nil]; rfl) ?_
  with_reducible refine (memoryC ((Zh1.out.below HB.out).below HV.out) ((Zh2.out.below HB.out).below HV.out) B (by have := ZhB.out; omega) Zs1.out).mono ?_
  rintro e v2 ⟨rfl, hb⟩
  refine ⟨_, rfl, ?_⟩
  rw [ZSB.out]
  replace HV := Aside0.mk (below_step HV.out hb)
  refine hK.out _ _ ⟨(pw_cell_below hb hHeld.1), (pw_cell_below hb hHeld.2.1), (pw_cell_below hb hHeld.2.2.1), (pw_cell_below hb hHeld.2.2.2.1), (pw_cell_below hb hHeld.2.2.2.2.1), (pw_cell_below hb hHeld.2.2.2.2.2.1), (pw_cell_below hb hHeld.2.2.2.2.2.2.1), (pw_cell_below hb hHeld.2.2.2.2.2.2.2.1), (pw_cell_below hb hHeld.2.2.2.2.2.2.2.2.1), (pw_cell_below hb hHeld.2.2.2.2.2.2.2.2.2.1), (pw_cell_below hb hHeld.2.2.2.2.2.2.2.2.2.2.1), (pw_cell_below hb hHeld.2.2.2.2.2.2.2.2.2.2.2.1), (pw_cell_below hb hHeld.2.2.2.2.2.2.2.2.2.2.2.2.1), (pw_cell_below hb hHeld.2.2.2.2.2.2.2.2.2.2.2.2.2.1), (pw_cell_below hb hHeld.2.2.2.2.2.2.2.2.2.2.2.2.2.2.1), (pw_cell_below hb hHeld.2.2.2.2.2.2.2.2.2.2.2.2.2.2.2.1), (pw_cell_below hb hHeld.2.2.2.2.2.2.2.2.2.2.2.2.2.2.2.2.1), (pw_cell_below hb hHeld.2.2.2.2.2.2.2.2.2.2.2.2.2.2.2.2.2.1), (pw_cell_below hb hHeld.2.2.2.2.2.2.2.2.2.2.2.2.2.2.2.2.2.2.1), (pw_cell_below hb hHeld.2.2.2.2.2.2.2.2.2.2.2.2.2.2.2.2.2.2.2.1), (pw_cell_below hb hHeld.2.2.2.2.2.2.2.2.2.2.2.2.2.2.2.2.2.2.2.2.1), (pw_cell_below hb hHeld.2.2.2.2.2.2.2.2.2.2.2.2.2.2.2.2.2.2.2.2.2.1), (pw_cell_below hb hHeld.2.2.2.2.2.2.2.2.2.2.2.2.2.2.2.2.2.2.2.2.2.2.1), (pw_cell_below hb hHeld.2.2.2.2.2.2.2.2.2.2.2.2.2.2.2.2.2.2.2.2.2.2.2.1), (pw_cell_below hb hHeld.2.2.2.2.2.2.2.2.2.2.2.2.2.2.2.2.2.2.2.2.2.2.2.2.1), (pw_cell_below hb hHeld.2.2.2.2.2.2.2.2.2.2.2.2.2.2.2.2.2.2.2.2.2.2.2.2.2.1), (pw_cell_below hb hHeld.2.2.2.2.2.2.2.2.2.2.2.2.2.2.2.2.2.2.2.2.2.2.2.2.2.2.1), (pw_cell_below hb hHeld.2.2.2.2.2.2.2.2.2.2.2.2.2.2.2.2.2.2.2.2.2.2.2.2.2.2.2)⟩ (fun hHeld => ?_)
  clear hK K
  refine norm_ (a' := ?_) ?_ ?_
  rotate_left
  · show Act.put _ (some 38) _ = _
    simp only [Act.put, List.setIfInBounds_toArray, List.set_cons_zero, List.set_cons_succ, i64_w, i32_w]
    rfl
  refine pure_ (i := 6) (N := some 39) (v := ?_) (a' := ?_) #[true, true, true, true, true, true, true, false, false, false, false, false, false, false, false, false, false, false, false, false, false, false, false, false, false, false, false, false, false, false, false, false, false, false, false, false, false, false, false, false, false, false, false, false, false, false] rfl rfl (by kernel_rfl) (fun _ _ _ h => h) (Or.inl ⟨by rfl, ?_⟩) ?_ ?_
  rotate_left
  · intro w'
    go_simp
    with_reducible rfl
  rotate_left
  · simp only [Act.put, List.setIfInBounds_toArray, List.set_cons_zero, List.set_cons_succ, i64_w, i32_w]
    rfl
  refine pure_ (i := 7) (N := some 40) (v := ?_) (a' := ?_) #[true, true, true, true, true, true, true, true, false, false, false, false, false, false, false, false, false, false, false, false, false, false, false, false, false, false, false, false, false, false, false, false, false, false, false, false, false, false, false, false, false, false, false, false, false, false] rfl rfl (by kernel_rfl) (fun _ _ _ h => h) (Or.inl ⟨by rfl, ?_⟩) ?_ ?_
  rotate_left
  · intro w'
    go_simp
    with_reducible rfl
  rotate_left
  · simp only [Act.put, List.setIfInBounds_toArray, List.set_cons_zero, List.set_cons_succ, i64_w, i32_w]
    rfl
  refine pure_ (i := 9) (N := some 42) (v := ?_) (a' := ?_) #[true, true, true, true, true, true, true, true, false, true, false, false, false, false, false, false, false, false, false, false, false, false, false, false, false, false, false, false, false, false, false, false, false, false, false, false, false, false, false, false, false, false, false, false, false, false] rfl rfl (by kernel_rfl) (fun _ _ _ h => h) (Or.inl ⟨by rfl, ?_⟩) ?_ ?_
  rotate_left
  · intro w'
    go_simp
    with_reducible rfl
  rotate_left
  · simp only [Act.put, List.setIfInBounds_toArray, List.set_cons_zero, List.set_cons_succ, i64_w, i32_w]
    rfl
  refine pure_ (i := 14) (N := some 47) (v := ?_) (a' := ?_) #[true, true, true, true, true, true, true, true, false, true, false, false, false, false, true, false, false, false, false, false, false, false, false, false, false, false, false, false, false, false, false, false, false, false, false, false, false, false, false, false, false, false, false, false, false, false] rfl rfl (by kernel_rfl) (fun _ _ _ h => h) (Or.inl ⟨by rfl, ?_⟩) ?_ ?_
  rotate_left
  · intro w'
    go_simp
    with_reducible rfl
  rotate_left
  · simp only [Act.put, List.setIfInBounds_toArray, List.set_cons_zero, List.set_cons_succ, i64_w, i32_w]
    rfl
  refine take_ (i := 8) (N := some 41) (v := ?_) (a' := ?_) #[true, true, true, true, true, true, true, true, true, true, false, false, false, false, true, false, false, false, false, false, false, false, false, false, false, false, false, false, false, false, false, false, false, false, false, false, false, false, false, false, false, false, false, false, false, false] rfl rfl (by kernel_rfl) (fun _ _ _ h => h) (Or.inl ⟨by rfl, ?_⟩) hHeld ?_ ?_
  rotate_left
  · rintro w' ⟨s0, s1, s2, s3, s4, s5, s6, s7, s8, s9, s10, s11, s12, s13, s14, s15, s16, s17, s18, s19, s20, s21, s22, s23, s24, s25, s26, s27⟩
    go_simp
    with_reducible rfl
  rotate_left
  · simp only [Act.put, List.setIfInBounds_toArray, List.set_cons_zero, List.set_cons_succ, i64_w, i32_w]
    rfl
  refine take_ (i := 10) (N := some 43) (v := ?_) (a' := ?_) #[true, true, true, true, true, true, true, true, true, true, true, false, false, false, true, false, false, false, false, false, false, false, false, false, false, false, false, false, false, false, false, false, false, false, false, false, false, false, false, false, false, false, false, false, false, false] rfl rfl (by kernel_rfl) (fun _ _ _ h => h) (Or.inl ⟨by rfl, ?_⟩) hHeld ?_ ?_
  rotate_left
  · rintro w' ⟨s0, s1, s2, s3, s4, s5, s6, s7, s8, s9, s10, s11, s12, s13, s14, s15, s16, s17, s18, s19, s20, s21, s22, s23, s24, s25, s26, s27⟩
    go_simp
    with_reducible rfl
  rotate_left
  · simp only [Act.put, List.setIfInBounds_toArray, List.set_cons_zero, List.set_cons_succ, i64_w, i32_w]
    rfl
  refine take_ (i := 11) (N := some 44) (v := ?_) (a' := ?_) #[true, true, true, true, true, true, true, true, true, true, true, true, false, false, true, false, false, false, false, false, false, false, false, false, false, false, false, false, false, false, false, false, false, false, false, false, false, false, false, false, false, false, false, false, false, false] rfl rfl (by kernel_rfl) (fun _ _ _ h => h) (Or.inl ⟨by rfl, ?_⟩) hHeld ?_ ?_
  rotate_left
  · rintro w' ⟨s0, s1, s2, s3, s4, s5, s6, s7, s8, s9, s10, s11, s12, s13, s14, s15, s16, s17, s18, s19, s20, s21, s22, s23, s24, s25, s26, s27⟩
    go_simp
    with_reducible rfl
  rotate_left
  · simp only [Act.put, List.setIfInBounds_toArray, List.set_cons_zero, List.set_cons_succ, i64_w, i32_w]
    rfl
  refine take_ (i := 13) (N := some 46) (v := ?_) (a' := ?_) #[true, true, true, true, true, true, true, true, true, true, true, true, false, true, true, false, false, false, false, false, false, false, false, false, false, false, false, false, false, false, false, false, false, false, false, false, false, false, false, false, false, false, false, false, false, false] rfl rfl (by kernel_rfl) (fun _ _ _ h => h) (Or.inl ⟨by rfl, ?_⟩) hHeld ?_ ?_
  rotate_left
  · rintro w' ⟨s0, s1, s2, s3, s4, s5, s6, s7, s8, s9, s10, s11, s12, s13, s14, s15, s16, s17, s18, s19, s20, s21, s22, s23, s24, s25, s26, s27⟩
    go_simp
    with_reducible rfl
  rotate_left
  · simp only [Act.put, List.setIfInBounds_toArray, List.set_cons_zero, List.set_cons_succ, i64_w, i32_w]
    rfl
  refine take_ (i := 15) (N := some 48) (v := ?_) (a' := ?_) #[true, true, true, true, true, true, true, true, true, true, true, true, false, true, true, true, false, false, false, false, false, false, false, false, false, false, false, false, false, false, false, false, false, false, false, false, false, false, false, false, false, false, false, false, false, false] rfl rfl (by kernel_rfl) (fun _ _ _ h => h) (Or.inl ⟨by rfl, ?_⟩) hHeld ?_ ?_
  rotate_left
  · rintro w' ⟨s0, s1, s2, s3, s4, s5, s6, s7, s8, s9, s10, s11, s12, s13, s14, s15, s16, s17, s18, s19, s20, s21, s22, s23, s24, s25, s26, s27⟩
    go_simp
    with_reducible rfl
  rotate_left
  · simp only [Act.put, List.setIfInBounds_toArray, List.set_cons_zero, List.set_cons_succ, i64_w, i32_w]
    rfl
  refine take_ (i := 16) (N := some 49) (v := ?_) (a' := ?_) #[true, true, true, true, true, true, true, true, true, true, true, true, false, true, true, true, true, false, false, false, false, false, false, false, false, false, false, false, false, false, false, false, false, false, false, false, false, false, false, false, false, false, false, false, false, false] rfl rfl (by kernel_rfl) (fun _ _ _ h => h) (Or.inl ⟨by rfl, ?_⟩) hHeld ?_ ?_
  rotate_left
  · rintro w' ⟨s0, s1, s2, s3, s4, s5, s6, s7, s8, s9, s10, s11, s12, s13, s14, s15, s16, s17, s18, s19, s20, s21, s22, s23, s24, s25, s26, s27⟩
    go_simp
    with_reducible rfl
  rotate_left
  · simp only [Act.put, List.setIfInBounds_toArray, List.set_cons_zero, List.set_cons_succ, i64_w, i32_w]
    rfl
  refine one_ (i := 12) (N := some 45) #[true, true, true, true, true, true, true, true, true, true, true, true, true, true, true, true, true, false, false, false, false, false, false, false, false, false, false, false, false, false, false, false, false, false, false, false, false, false, false, false, false, false, false, false, false, false] rfl rfl (by kernel_rfl) (by decide) (fun K hK => ?_)
  refine goes_ Try.func21 (by kernel_rfl) rfl #[.agg #[.slice K0 gs.length k0, .slice K1 arr.length k1, .slice K2 l2.length k2, .slice K3 l3.length k3], .int .u64 l, .agg #[.slice X1 g1.length x1, .slice Y1 r1.length y1], .agg #[.slice X2 g2.length x2, .slice Y2 r2.length y2]] (by rfl) rfl rfl (by simp only [List.map_toArray, List.map_cons, List.map_nil]; rfl) ?_
  with_reducible refine (alikeC (HK1.out.below HV.out).modR (HK2.out.below HV.out).memR (HK3.out.below HV.out).memR l B ZhB.out Zs1.out Zs2.out).mono ?_
  rintro e v3 ⟨rfl, hb⟩
  refine ⟨_, rfl, ?_⟩
  rw [ZAB.out]
  replace HV := Aside0.mk (below_step HV.out hb)
  refine hK.out _ _ ⟨(pw_cell_below hb hHeld.1), (pw_cell_below hb hHeld.2.1), (pw_cell_below hb hHeld.2.2.1), (pw_cell_below hb hHeld.2.2.2.1), (pw_cell_below hb hHeld.2.2.2.2.1), (pw_cell_below hb hHeld.2.2.2.2.2.1), (pw_cell_below hb hHeld.2.2.2.2.2.2.1), (pw_cell_below hb hHeld.2.2.2.2.2.2.2.1), (pw_cell_below hb hHeld.2.2.2.2.2.2.2.2.1), (pw_cell_below hb hHeld.2.2.2.2.2.2.2.2.2.1), (pw_cell_below hb hHeld.2.2.2.2.2.2.2.2.2.2.1), (pw_cell_below hb hHeld.2.2.2.2.2.2.2.2.2.2.2.1), (pw_cell_below hb hHeld.2.2.2.2.2.2.2.2.2.2.2.2.1), (pw_cell_below hb hHeld.2.2.2.2.2.2.2.2.2.2.2.2.2.1), (pw_cell_below hb hHeld.2.2.2.2.2.2.2.2.2.2.2.2.2.2.1), (pw_cell_below hb hHeld.2.2.2.2.2.2.2.2.2.2.2.2.2.2.2.1), (pw_cell_below hb hHeld.2.2.2.2.2.2.2.2.2.2.2.2.2.2.2.2.1), (pw_cell_below hb hHeld.2.2.2.2.2.2.2.2.2.2.2.2.2.2.2.2.2.1), (pw_cell_below hb hHeld.2.2.2.2.2.2.2.2.2.2.2.2.2.2.2.2.2.2.1), (pw_cell_below hb hHeld.2.2.2.2.2.2.2.2.2.2.2.2.2.2.2.2.2.2.2.1), (pw_cell_below hb hHeld.2.2.2.2.2.2.2.2.2.2.2.2.2.2.2.2.2.2.2.2.1), (pw_cell_below hb hHeld.2.2.2.2.2.2.2.2.2.2.2.2.2.2.2.2.2.2.2.2.2.1), (pw_cell_below hb hHeld.2.2.2.2.2.2.2.2.2.2.2.2.2.2.2.2.2.2.2.2.2.2.1), (pw_cell_below hb hHeld.2.2.2.2.2.2.2.2.2.2.2.2.2.2.2.2.2.2.2.2.2.2.2.1), (pw_cell_below hb hHeld.2.2.2.2.2.2.2.2.2.2.2.2.2.2.2.2.2.2.2.2.2.2.2.2.1), (pw_cell_below hb hHeld.2.2.2.2.2.2.2.2.2.2.2.2.2.2.2.2.2.2.2.2.2.2.2.2.2.1), (pw_cell_below hb hHeld.2.2.2.2.2.2.2.2.2.2.2.2.2.2.2.2.2.2.2.2.2.2.2.2.2.2.1), (pw_cell_below hb hHeld.2.2.2.2.2.2.2.2.2.2.2.2.2.2.2.2.2.2.2.2.2.2.2.2.2.2.2)⟩ (fun hHeld => ?_)
  clear hK K
  refine norm_ (a' := ?_) ?_ ?_
  rotate_left
  · show Act.put _ (some 45) _ = _
    simp only [Act.put, List.setIfInBounds_toArray, List.set_cons_zero, List.set_cons_succ, i64_w, i32_w]
    rfl
  refine one_ (i := 17) (N := some 50) #[true, true, true, true, true, true, true, true, true, true, true, true, true, true, true, true, true, true, false, false, false, false, false, false, false, false, false, false, false, false, false, false, false, false, false, false, false, false, false, false, false, false, false, false, false, false] rfl rfl (by kernel_rfl) (by decide) (fun K hK => ?_)
  refine goes_ Try.func25 (by kernel_rfl) rfl #[.agg #[.slice A0 gs.length c0, .slice A1 arr.length c1, .slice A2 l2.length c2, .slice A3 l3.length c3], .int .u64 l, .agg #[.slice P1 g1.length p1, .slice Q1 r1.length q1], .agg #[.slice P2 g2.length p2, .slice Q2 r2.length q2]] (by rfl) rfl rfl (by simp only [List.map_toArray, List.map_cons, List.map_nil]; rfl) ?_
  with_reducible refine (refAlikeC ((Zhm.out.below HB.out).below HV.out) ((Zh1.out.below HB.out).below HV.out) ((Zh2.out.below HB.out).below HV.out) l (arr.length * (B + 70) + gs.length + arr.length + 81) ab (by rw [refAlike_f gs arr l2 l3 l g1 r1 g2 r2 B Zwl.out Zwg.out Zwa.out (by have := Zz0.out; omega) (by have := Zz1.out; omega) (by have := ZhB.out; omega) Zs1.out.r _ (by omega), ZAB.out])).mono ?_
  rintro e v4 ⟨rfl, hb⟩
  refine ⟨_, rfl, ?_⟩
  replace HV := Aside0.mk (below_step HV.out hb)
  refine hK.out _ _ ⟨(pw_cell_below hb hHeld.1), (pw_cell_below hb hHeld.2.1), (pw_cell_below hb hHeld.2.2.1), (pw_cell_below hb hHeld.2.2.2.1), (pw_cell_below hb hHeld.2.2.2.2.1), (pw_cell_below hb hHeld.2.2.2.2.2.1), (pw_cell_below hb hHeld.2.2.2.2.2.2.1), (pw_cell_below hb hHeld.2.2.2.2.2.2.2.1), (pw_cell_below hb hHeld.2.2.2.2.2.2.2.2.1), (pw_cell_below hb hHeld.2.2.2.2.2.2.2.2.2.1), (pw_cell_below hb hHeld.2.2.2.2.2.2.2.2.2.2.1), (pw_cell_below hb hHeld.2.2.2.2.2.2.2.2.2.2.2.1), (pw_cell_below hb hHeld.2.2.2.2.2.2.2.2.2.2.2.2.1), (pw_cell_below hb hHeld.2.2.2.2.2.2.2.2.2.2.2.2.2.1), (pw_cell_below hb hHeld.2.2.2.2.2.2.2.2.2.2.2.2.2.2.1), (pw_cell_below hb hHeld.2.2.2.2.2.2.2.2.2.2.2.2.2.2.2.1), (pw_cell_below hb hHeld.2.2.2.2.2.2.2.2.2.2.2.2.2.2.2.2.1), (pw_cell_below hb hHeld.2.2.2.2.2.2.2.2.2.2.2.2.2.2.2.2.2.1), (pw_cell_below hb hHeld.2.2.2.2.2.2.2.2.2.2.2.2.2.2.2.2.2.2.1), (pw_cell_below hb hHeld.2.2.2.2.2.2.2.2.2.2.2.2.2.2.2.2.2.2.2.1), (pw_cell_below hb hHeld.2.2.2.2.2.2.2.2.2.2.2.2.2.2.2.2.2.2.2.2.1), (pw_cell_below hb hHeld.2.2.2.2.2.2.2.2.2.2.2.2.2.2.2.2.2.2.2.2.2.1), (pw_cell_below hb hHeld.2.2.2.2.2.2.2.2.2.2.2.2.2.2.2.2.2.2.2.2.2.2.1), (pw_cell_below hb hHeld.2.2.2.2.2.2.2.2.2.2.2.2.2.2.2.2.2.2.2.2.2.2.2.1), (pw_cell_below hb hHeld.2.2.2.2.2.2.2.2.2.2.2.2.2.2.2.2.2.2.2.2.2.2.2.2.1), (pw_cell_below hb hHeld.2.2.2.2.2.2.2.2.2.2.2.2.2.2.2.2.2.2.2.2.2.2.2.2.2.1), (pw_cell_below hb hHeld.2.2.2.2.2.2.2.2.2.2.2.2.2.2.2.2.2.2.2.2.2.2.2.2.2.2.1), (pw_cell_below hb hHeld.2.2.2.2.2.2.2.2.2.2.2.2.2.2.2.2.2.2.2.2.2.2.2.2.2.2.2)⟩ (fun hHeld => ?_)
  clear hK K
  refine norm_ (a' := ?_) ?_ ?_
  rotate_left
  · show Act.put _ (some 50) _ = _
    simp only [Act.put, List.setIfInBounds_toArray, List.set_cons_zero, List.set_cons_succ, i64_w, i32_w]
    rfl
  refine pure_ (i := 18) (N := some 51) (v := ?_) (a' := ?_) #[true, true, true, true, true, true, true, true, true, true, true, true, true, true, true, true, true, true, true, false, false, false, false, false, false, false, false, false, false, false, false, false, false, false, false, false, false, false, false, false, false, false, false, false, false, false] rfl rfl (by kernel_rfl) (fun _ _ _ h => h) (Or.inl ⟨by rfl, ?_⟩) ?_ ?_
  rotate_left
  · intro w'
    go_simp
    with_reducible rfl
  rotate_left
  · simp only [Act.put, List.setIfInBounds_toArray, List.set_cons_zero, List.set_cons_succ, i64_w, i32_w]
    rfl
  refine pure_ (i := 19) (N := some 52) (v := ?_) (a' := ?_) #[true, true, true, true, true, true, true, true, true, true, true, true, true, true, true, true, true, true, true, true, false, false, false, false, false, false, false, false, false, false, false, false, false, false, false, false, false, false, false, false, false, false, false, false, false, false] rfl rfl (by kernel_rfl) (fun _ _ _ h => h) (Or.inl ⟨by rfl, ?_⟩) ?_ ?_
  rotate_left
  · intro w'
    go_simp
    with_reducible rfl
  rotate_left
  · simp only [Act.put, List.setIfInBounds_toArray, List.set_cons_zero, List.set_cons_succ, i64_w, i32_w]
    rfl
  refine pure_ (i := 20) (N := some 53) (v := ?_) (a' := ?_) #[true, true, true, true, true, true, true, true, true, true, true, true, true, true, true, true, true, true, true, true, true, false, false, false, false, false, false, false, false, false, false, false, false, false, false, false, false, false, false, false, false, false, false, false, false, false] rfl rfl (by kernel_rfl) (fun _ _ _ h => h) (Or.inl ⟨by rfl, ?_⟩) ?_ ?_
  rotate_left
  · intro w'
    go_simp
    with_reducible rfl
  rotate_left
  · simp only [Act.put, List.setIfInBounds_toArray, List.set_cons_zero, List.set_cons_succ, i64_w, i32_w]
    rfl
  refine pure_ (i := 22) (N := some 55) (v := ?_) (a' := ?_) #[true, true, true, true, true, true, true, true, true, true, true, true, true, true, true, true, true, true, true, true, true, false, true, false, false, false, false, false, false, false, false, false, false, false, false, false, false, false, false, false, false, false, false, false, false, false] rfl rfl (by kernel_rfl) (fun _ _ _ h => h) (Or.inl ⟨by rfl, ?_⟩) ?_ ?_
  rotate_left
  · intro w'
    go_simp
    with_reducible rfl
  rotate_left
  · simp only [Act.put, List.setIfInBounds_toArray, List.set_cons_zero, List.set_cons_succ, i64_w, i32_w]
    rfl
  refine pure_ (i := 23) (N := some 56) (v := ?_) (a' := ?_) #[true, true, true, true, true, true, true, true, true, true, true, true, true, true, true, true, true, true, true, true, true, false, true, true, false, false, false, false, false, false, false, false, false, false, false, false, false, false, false, false, false, false, false, false, false, false] rfl rfl (by kernel_rfl) (fun _ _ _ h => h) (Or.inl ⟨by rfl, ?_⟩) ?_ ?_
  rotate_left
  · intro w'
    go_simp
    with_reducible rfl
  rotate_left
  · simp only [Act.put, List.setIfInBounds_toArray, List.set_cons_zero, List.set_cons_succ, i64_w, i32_w]
    rfl
  refine pure_ (i := 24) (N := some 57) (v := ?_) (a' := ?_) #[true, true, true, true, true, true, true, true, true, true, true, true, true, true, true, true, true, true, true, true, true, false, true, true, true, false, false, false, false, false, false, false, false, false, false, false, false, false, false, false, false, false, false, false, false, false] rfl rfl (by kernel_rfl) (fun _ _ _ h => h) (Or.inl ⟨by rfl, ?_⟩) ?_ ?_
  rotate_left
  · intro w'
    go_simp
    with_reducible rfl
  rotate_left
  · simp only [Act.put, List.setIfInBounds_toArray, List.set_cons_zero, List.set_cons_succ, i64_w, i32_w]
    rfl
  refine pure_ (i := 27) (N := some 60) (v := ?_) (a' := ?_) #[true, true, true, true, true, true, true, true, true, true, true, true, true, true, true, true, true, true, true, true, true, false, true, true, true, false, false, true, false, false, false, false, false, false, false, false, false, false, false, false, false, false, false, false, false, false] rfl rfl (by kernel_rfl) (fun _ _ _ h => h) (Or.inl ⟨by rfl, ?_⟩) ?_ ?_
  rotate_left
  · intro w'
    go_simp
    with_reducible rfl
  rotate_left
  · simp only [Act.put, List.setIfInBounds_toArray, List.set_cons_zero, List.set_cons_succ, i64_w, i32_w]
    rfl
  refine pure_ (i := 28) (N := some 61) (v := ?_) (a' := ?_) #[true, true, true, true, true, true, true, true, true, true, true, true, true, true, true, true, true, true, true, true, true, false, true, true, true, false, false, true, true, false, false, false, false, false, false, false, false, false, false, false, false, false, false, false, false, false] rfl rfl (by kernel_rfl) (fun _ _ _ h => h) (Or.inl ⟨by rfl, ?_⟩) ?_ ?_
  rotate_left
  · intro w'
    go_simp
    with_reducible rfl
  rotate_left
  · simp only [Act.put, List.setIfInBounds_toArray, List.set_cons_zero, List.set_cons_succ, i64_w, i32_w]
    rfl
  refine pure_ (i := 29) (N := some 62) (v := ?_) (a' := ?_) #[true, true, true, true, true, true, true, true, true, true, true, true, true, true, true, true, true, true, true, true, true, false, true, true, true, false, false, true, true, true, false, false, false, false, false, false, false, false, false, false, false, false, false, false, false, false] rfl rfl (by kernel_rfl) (fun _ _ _ h => h) (Or.inl ⟨by rfl, ?_⟩) ?_ ?_
  rotate_left
  · intro w'
    go_simp
    with_reducible rfl
  rotate_left
  · simp only [Act.put, List.setIfInBounds_toArray, List.set_cons_zero, List.set_cons_succ, i64_w, i32_w]
    rfl
  refine take_ (i := 21) (N := some 54) (v := ?_) (a' := ?_) #[true, true, true, true, true, true, true, true, true, true, true, true, true, true, true, true, true, true, true, true, true, true, true, true, true, false, false, true, true, true, false, false, false, false, false, false, false, false, false, false, false, false, false, false, false, false] rfl rfl (by kernel_rfl) (fun _ _ _ h => h) (Or.inl ⟨by rfl, ?_⟩) hHeld ?_ ?_
  rotate_left
  · rintro w' ⟨s0, s1, s2, s3, s4, s5, s6, s7, s8, s9, s10, s11, s12, s13, s14, s15, s16, s17, s18, s19, s20, s21, s22, s23, s24, s25, s26, s27⟩
    go_simp
    with_reducible rfl
  rotate_left
  · simp only [Act.put, List.setIfInBounds_toArray, List.set_cons_zero, List.set_cons_succ, i64_w, i32_w]
    rfl
  refine take_ (i := 26) (N := some 59) (v := ?_) (a' := ?_) #[true, true, true, true, true, true, true, true, true, true, true, true, true, true, true, true, true, true, true, true, true, true, true, true, true, false, true, true, true, true, false, false, false, false, false, false, false, false, false, false, false, false, false, false, false, false] rfl rfl (by kernel_rfl) (fun _ _ _ h => h) (Or.inl ⟨by rfl, ?_⟩) hHeld ?_ ?_
  rotate_left
  · rintro w' ⟨s0, s1, s2, s3, s4, s5, s6, s7, s8, s9, s10, s11, s12, s13, s14, s15, s16, s17, s18, s19, s20, s21, s22, s23, s24, s25, s26, s27⟩
    go_simp
    with_reducible rfl
  rotate_left
  · simp only [Act.put, List.setIfInBounds_toArray, List.set_cons_zero, List.set_cons_succ, i64_w, i32_w]
    rfl
  refine one_ (i := 25) (N := some 58) #[true, true, true, true, true, true, true, true, true, true, true, true, true, true, true, true, true, true, true, true, true, true, true, true, true, true, true, true, true, true, false, false, false, false, false, false, false, false, false, false, false, false, false, false, false, false] rfl rfl (by kernel_rfl) (by decide) (fun K hK => ?_)
  refine goes_ Try.func26 (by kernel_rfl) rfl #[.agg #[.int .u64 n0, .slice F1 p.length f1, .slice F2 q.length f2, .int .i64 n3, .int .i64 n4, .slice F5 cd.length f5], .int .u64 l, .slice L5 xs.length d5, .slice L6 ys.length d6] (by rfl) rfl rfl (by simp only [List.map_toArray, List.map_cons, List.map_nil]; rfl) ?_
  with_reducible refine (vArgsC (HK4.out.below HV.out).fnR (HK5.out.below HV.out).intsR (HK6.out.below HV.out).intsR l (by have := Zyf.out; omega)).mono ?_
  rintro e v5 ⟨rfl, hb⟩
  refine ⟨_, rfl, ?_⟩
  rw [ZNB.out]
  replace HV := Aside0.mk (below_step HV.out hb)
  refine hK.out _ _ ⟨(pw_cell_below hb hHeld.1), (pw_cell_below hb hHeld.2.1), (pw_cell_below hb hHeld.2.2.1), (pw_cell_below hb hHeld.2.2.2.1), (pw_cell_below hb hHeld.2.2.2.2.1), (pw_cell_below hb hHeld.2.2.2.2.2.1), (pw_cell_below hb hHeld.2.2.2.2.2.2.1), (pw_cell_below hb hHeld.2.2.2.2.2.2.2.1), (pw_cell_below hb hHeld.2.2.2.2.2.2.2.2.1), (pw_cell_below hb hHeld.2.2.2.2.2.2.2.2.2.1), (pw_cell_below hb hHeld.2.2.2.2.2.2.2.2.2.2.1), (pw_cell_below hb hHeld.2.2.2.2.2.2.2.2.2.2.2.1), (pw_cell_below hb hHeld.2.2.2.2.2.2.2.2.2.2.2.2.1), (pw_cell_below hb hHeld.2.2.2.2.2.2.2.2.2.2.2.2.2.1), (pw_cell_below hb hHeld.2.2.2.2.2.2.2.2.2.2.2.2.2.2.1), (pw_cell_below hb hHeld.2.2.2.2.2.2.2.2.2.2.2.2.2.2.2.1), (pw_cell_below hb hHeld.2.2.2.2.2.2.2.2.2.2.2.2.2.2.2.2.1), (pw_cell_below hb hHeld.2.2.2.2.2.2.2.2.2.2.2.2.2.2.2.2.2.1), (pw_cell_below hb hHeld.2.2.2.2.2.2.2.2.2.2.2.2.2.2.2.2.2.2.1), (pw_cell_below hb hHeld.2.2.2.2.2.2.2.2.2.2.2.2.2.2.2.2.2.2.2.1), (pw_cell_below hb hHeld.2.2.2.2.2.2.2.2.2.2.2.2.2.2.2.2.2.2.2.2.1), (pw_cell_below hb hHeld.2.2.2.2.2.2.2.2.2.2.2.2.2.2.2.2.2.2.2.2.2.1), (pw_cell_below hb hHeld.2.2.2.2.2.2.2.2.2.2.2.2.2.2.2.2.2.2.2.2.2.2.1), (pw_cell_below hb hHeld.2.2.2.2.2.2.2.2.2.2.2.2.2.2.2.2.2.2.2.2.2.2.2.1), (pw_cell_below hb hHeld.2.2.2.2.2.2.2.2.2.2.2.2.2.2.2.2.2.2.2.2.2.2.2.2.1), (pw_cell_below hb hHeld.2.2.2.2.2.2.2.2.2.2.2.2.2.2.2.2.2.2.2.2.2.2.2.2.2.1), (pw_cell_below hb hHeld.2.2.2.2.2.2.2.2.2.2.2.2.2.2.2.2.2.2.2.2.2.2.2.2.2.2.1), (pw_cell_below hb hHeld.2.2.2.2.2.2.2.2.2.2.2.2.2.2.2.2.2.2.2.2.2.2.2.2.2.2.2)⟩ (fun hHeld => ?_)
  clear hK K
  refine norm_ (a' := ?_) ?_ ?_
  rotate_left
  · show Act.put _ (some 58) _ = _
    simp only [Act.put, List.setIfInBounds_toArray, List.set_cons_zero, List.set_cons_succ, i64_w, i32_w]
    rfl
  refine one_ (i := 30) (N := some 63) #[true, true, true, true, true, true, true, true, true, true, true, true, true, true, true, true, true, true, true, true, true, true, true, true, true, true, true, true, true, true, true, false, false, false, false, false, false, false, false, false, false, false, false, false, false, false] rfl rfl (by kernel_rfl) (by decide) (fun K hK => ?_)
  refine goes_ Try.func27 (by kernel_rfl) rfl #[.agg #[.int .u64 n0, .slice E1 p.length e1, .slice E2 q.length e2, .int .i64 n3, .int .i64 n4, .slice E5 cd.length e5], .int .u64 l, .slice U xs.length u_, .slice V ys.length v_] (by rfl) rfl rfl (by simp only [List.map_toArray, List.map_cons, List.map_nil]; rfl) ?_
  with_reducible refine (rArgsC ((Zhf.out.below HB.out).below HV.out) ((Zhu.out.below HB.out).below HV.out) ((Zhv.out.below HB.out).below HV.out) l (by have := Zyf.out; omega) Zwl.out Zwp.out).mono ?_
  rintro e v6 ⟨rfl, hb⟩
  refine ⟨_, rfl, ?_⟩
  rw [ZNB.out]
  replace HV := Aside0.mk (below_step HV.out hb)
  refine hK.out _ _ ⟨(pw_cell_below hb hHeld.1), (pw_cell_below hb hHeld.2.1), (pw_cell_below hb hHeld.2.2.1), (pw_cell_below hb hHeld.2.2.2.1), (pw_cell_below hb hHeld.2.2.2.2.1), (pw_cell_below hb hHeld.2.2.2.2.2.1), (pw_cell_below hb hHeld.2.2.2.2.2.2.1), (pw_cell_below hb hHeld.2.2.2.2.2.2.2.1), (pw_cell_below hb hHeld.2.2.2.2.2.2.2.2.1), (pw_cell_below hb hHeld.2.2.2.2.2.2.2.2.2.1), (pw_cell_below hb hHeld.2.2.2.2.2.2.2.2.2.2.1), (pw_cell_below hb hHeld.2.2.2.2.2.2.2.2.2.2.2.1), (pw_cell_below hb hHeld.2.2.2.2.2.2.2.2.2.2.2.2.1), (pw_cell_below hb hHeld.2.2.2.2.2.2.2.2.2.2.2.2.2.1), (pw_cell_below hb hHeld.2.2.2.2.2.2.2.2.2.2.2.2.2.2.1), (pw_cell_below hb hHeld.2.2.2.2.2.2.2.2.2.2.2.2.2.2.2.1), (pw_cell_below hb hHeld.2.2.2.2.2.2.2.2.2.2.2.2.2.2.2.2.1), (pw_cell_below hb hHeld.2.2.2.2.2.2.2.2.2.2.2.2.2.2.2.2.2.1), (pw_cell_below hb hHeld.2.2.2.2.2.2.2.2.2.2.2.2.2.2.2.2.2.2.1), (pw_cell_below hb hHeld.2.2.2.2.2.2.2.2.2.2.2.2.2.2.2.2.2.2.2.1), (pw_cell_below hb hHeld.2.2.2.2.2.2.2.2.2.2.2.2.2.2.2.2.2.2.2.2.1), (pw_cell_below hb hHeld.2.2.2.2.2.2.2.2.2.2.2.2.2.2.2.2.2.2.2.2.2.1), (pw_cell_below hb hHeld.2.2.2.2.2.2.2.2.2.2.2.2.2.2.2.2.2.2.2.2.2.2.1), (pw_cell_below hb hHeld.2.2.2.2.2.2.2.2.2.2.2.2.2.2.2.2.2.2.2.2.2.2.2.1), (pw_cell_below hb hHeld.2.2.2.2.2.2.2.2.2.2.2.2.2.2.2.2.2.2.2.2.2.2.2.2.1), (pw_cell_below hb hHeld.2.2.2.2.2.2.2.2.2.2.2.2.2.2.2.2.2.2.2.2.2.2.2.2.2.1), (pw_cell_below hb hHeld.2.2.2.2.2.2.2.2.2.2.2.2.2.2.2.2.2.2.2.2.2.2.2.2.2.2.1), (pw_cell_below hb hHeld.2.2.2.2.2.2.2.2.2.2.2.2.2.2.2.2.2.2.2.2.2.2.2.2.2.2.2)⟩ (fun hHeld => ?_)
  clear hK K
  refine norm_ (a' := ?_) ?_ ?_
  rotate_left
  · show Act.put _ (some 63) _ = _
    simp only [Act.put, List.setIfInBounds_toArray, List.set_cons_zero, List.set_cons_succ, i64_w, i32_w]
    rfl
  refine pure_ (i := 31) (N := some 64) (v := ?_) (a' := ?_) #[true, true, true, true, true, true, true, true, true, true, true, true, true, true, true, true, true, true, true, true, true, true, true, true, true, true, true, true, true, true, true, true, false, false, false, false, false, false, false, false, false, false, false, false, false, false] rfl rfl (by kernel_rfl) (fun _ _ _ h => h) (Or.inl ⟨by rfl, ?_⟩) ?_ ?_
  rotate_left
  · intro w'
    go_simp
    with_reducible rfl
  rotate_left
  · simp only [Act.put, List.setIfInBounds_toArray, List.set_cons_zero, List.set_cons_succ, i64_w, i32_w]
    rfl
  refine pure_ (i := 32) (N := some 65) (v := ?_) (a' := ?_) #[true, true, true, true, true, true, true, true, true, true, true, true, true, true, true, true, true, true, true, true, true, true, true, true, true, true, true, true, true, true, true, true, true, false, false, false, false, false, false, false, false, false, false, false, false, false] rfl rfl (by kernel_rfl) (fun _ _ _ h => h) (Or.inl ⟨by rfl, ?_⟩) ?_ ?_
  rotate_left
  · intro w'
    go_simp
    with_reducible rfl
  rotate_left
  · simp only [Act.put, List.setIfInBounds_toArray, List.set_cons_zero, List.set_cons_succ, i64_w, i32_w]
    rfl
  refine pure_ (i := 33) (N := some 66) (v := ?_) (a' := ?_) #[true, true, true, true, true, true, true, true, true, true, true, true, true, true, true, true, true, true, true, true, true, true, true, true, true, true, true, true, true, true, true, true, true, true, false, false, false, false, false, false, false, false, false, false, false, false] rfl rfl (by kernel_rfl) (fun _ _ _ h => h) (Or.inl ⟨by rfl, ?_⟩) ?_ ?_
  rotate_left
  · intro w'
    go_simp
    with_reducible rfl
  rotate_left
  · simp only [Act.put, List.setIfInBounds_toArray, List.set_cons_zero, List.set_cons_succ, i64_w, i32_w]
    rfl
  refine pure_ (i := 35) (N := some 68) (v := ?_) (a' := ?_) #[true, true, true, true, true, true, true, true, true, true, true, true, true, true, true, true, true, true, true, true, true, true, true, true, true, true, true, true, true, true, true, true, true, true, false, true, false, false, false, false, false, false, false, false, false, false] rfl rfl (by kernel_rfl) (fun _ _ _ h => h) (Or.inl ⟨by rfl, ?_⟩) ?_ ?_
  rotate_left
  · intro w'
    go_simp
    with_reducible rfl
  rotate_left
  · simp only [Act.put, List.setIfInBounds_toArray, List.set_cons_zero, List.set_cons_succ, i64_w, i32_w]
    rfl
  refine pure_ (i := 36) (N := some 69) (v := ?_) (a' := ?_) #[true, true, true, true, true, true, true, true, true, true, true, true, true, true, true, true, true, true, true, true, true, true, true, true, true, true, true, true, true, true, true, true, true, true, false, true, true, false, false, false, false, false, false, false, false, false] rfl rfl (by kernel_rfl) (fun _ _ _ h => h) (Or.inl ⟨by rfl, ?_⟩) ?_ ?_
  rotate_left
  · intro w'
    go_simp
    with_reducible rfl
  rotate_left
  · simp only [Act.put, List.setIfInBounds_toArray, List.set_cons_zero, List.set_cons_succ, i64_w, i32_w]
    rfl
  refine pure_ (i := 37) (N := some 70) (v := ?_) (a' := ?_) #[true, true, true, true, true, true, true, true, true, true, true, true, true, true, true, true, true, true, true, true, true, true, true, true, true, true, true, true, true, true, true, true, true, true, false, true, true, true, false, false, false, false, false, false, false, false] rfl rfl (by kernel_rfl) (fun _ _ _ h => h) (Or.inl ⟨by rfl, ?_⟩) ?_ ?_
  rotate_left
  · intro w'
    go_simp
    with_reducible rfl
  rotate_left
  · simp only [Act.put, List.setIfInBounds_toArray, List.set_cons_zero, List.set_cons_succ, i64_w, i32_w]
    rfl
  refine pure_ (i := 40) (N := some 73) (v := ?_) (a' := ?_) #[true, true, true, true, true, true, true, true, true, true, true, true, true, true, true, true, true, true, true, true, true, true, true, true, true, true, true, true, true, true, true, true, true, true, false, true, true, true, false, false, true, false, false, false, false, false] rfl rfl (by kernel_rfl) (fun _ _ _ h => h) (Or.inl ⟨by rfl, ?_⟩) ?_ ?_
  rotate_left
  · intro w'
    go_simp
    with_reducible rfl
  rotate_left
  · simp only [Act.put, List.setIfInBounds_toArray, List.set_cons_zero, List.set_cons_succ, i64_w, i32_w]
    rfl
  refine pure_ (i := 41) (N := some 74) (v := ?_) (a' := ?_) #[true, true, true, true, true, true, true, true, true, true, true, true, true, true, true, true, true, true, true, true, true, true, true, true, true, true, true, true, true, true, true, true, true, true, false, true, true, true, false, false, true, true, false, false, false, false] rfl rfl (by kernel_rfl) (fun _ _ _ h => h) (Or.inl ⟨by rfl, ?_⟩) ?_ ?_
  rotate_left
  · intro w'
    go_simp
    with_reducible rfl
  rotate_left
  · simp only [Act.put, List.setIfInBounds_toArray, List.set_cons_zero, List.set_cons_succ, i64_w, i32_w]
    rfl
  refine pure_ (i := 42) (N := some 75) (v := ?_) (a' := ?_) #[true, true, true, true, true, true, true, true, true, true, true, true, true, true, true, true, true, true, true, true, true, true, true, true, true, true, true, true, true, true, true, true, true, true, false, true, true, true, false, false, true, true, true, false, false, false] rfl rfl (by kernel_rfl) (fun _ _ _ h => h) (Or.inl ⟨by rfl, ?_⟩) ?_ ?_
  rotate_left
  · intro w'
    go_simp
    with_reducible rfl
  rotate_left
  · simp only [Act.put, List.setIfInBounds_toArray, List.set_cons_zero, List.set_cons_succ, i64_w, i32_w]
    rfl
  refine take_ (i := 34) (N := some 67) (v := ?_) (a' := ?_) #[true, true, true, true, true, true, true, true, true, true, true, true, true, true, true, true, true, true, true, true, true, true, true, true, true, true, true, true, true, true, true, true, true, true, true, true, true, true, false, false, true, true, true, false, false, false] rfl rfl (by kernel_rfl) (fun _ _ _ h => h) (Or.inl ⟨by rfl, ?_⟩) hHeld ?_ ?_
  rotate_left
  · rintro w' ⟨s0, s1, s2, s3, s4, s5, s6, s7, s8, s9, s10, s11, s12, s13, s14, s15, s16, s17, s18, s19, s20, s21, s22, s23, s24, s25, s26, s27⟩
    go_simp
    with_reducible rfl
  rotate_left
  · simp only [Act.put, List.setIfInBounds_toArray, List.set_cons_zero, List.set_cons_succ, i64_w, i32_w]
    rfl
  refine take_ (i := 39) (N := some 72) (v := ?_) (a' := ?_) #[true, true, true, true, true, true, true, true, true, true, true, true, true, true, true, true, true, true, true, true, true, true, true, true, true, true, true, true, true, true, true, true, true, true, true, true, true, true, false, true, true, true, true, false, false, false] rfl rfl (by kernel_rfl) (fun _ _ _ h => h) (Or.inl ⟨by rfl, ?_⟩) hHeld ?_ ?_
  rotate_left
  · rintro w' ⟨s0, s1, s2, s3, s4, s5, s6, s7, s8, s9, s10, s11, s12, s13, s14, s15, s16, s17, s18, s19, s20, s21, s22, s23, s24, s25, s26, s27⟩
    go_simp
    with_reducible rfl
  rotate_left
  · simp only [Act.put, List.setIfInBounds_toArray, List.set_cons_zero, List.set_cons_succ, i64_w, i32_w]
    rfl
  refine one_ (i := 38) (N := some 71) #[true, true, true, true, true, true, true, true, true, true, true, true, true, true, true, true, true, true, true, true, true, true, true, true, true, true, true, true, true, true, true, true, true, true, true, true, true, true, true, true, true, true, true, false, false, false] rfl rfl (by kernel_rfl) (by decide) (fun K hK => ?_)
  refine goes_ Try.func28 (by kernel_rfl) rfl #[.agg #[.int .u64 n0, .slice F1 p.length f1, .slice F2 q.length f2, .int .i64 n3, .int .i64 n4, .slice F5 cd.length f5], .int .u64 l, .slice L5 xs.length d5, .slice L6 ys.length d6] (by rfl) rfl rfl (by simp only [List.map_toArray, List.map_cons, List.map_nil]; rfl) ?_
  with_reducible refine (vResC (HK4.out.below HV.out).fnR (HK5.out.below HV.out).intsR (HK6.out.below HV.out).intsR l (by have := Zyf.out; omega)).mono ?_
  rintro e v7 ⟨rfl, hb⟩
  refine ⟨_, rfl, ?_⟩
  rw [ZRB.out]
  replace HV := Aside0.mk (below_step HV.out hb)
  refine hK.out _ _ ⟨(pw_cell_below hb hHeld.1), (pw_cell_below hb hHeld.2.1), (pw_cell_below hb hHeld.2.2.1), (pw_cell_below hb hHeld.2.2.2.1), (pw_cell_below hb hHeld.2.2.2.2.1), (pw_cell_below hb hHeld.2.2.2.2.2.1), (pw_cell_below hb hHeld.2.2.2.2.2.2.1), (pw_cell_below hb hHeld.2.2.2.2.2.2.2.1), (pw_cell_below hb hHeld.2.2.2.2.2.2.2.2.1), (pw_cell_below hb hHeld.2.2.2.2.2.2.2.2.2.1), (pw_cell_below hb hHeld.2.2.2.2.2.2.2.2.2.2.1), (pw_cell_below hb hHeld.2.2.2.2.2.2.2.2.2.2.2.1), (pw_cell_below hb hHeld.2.2.2.2.2.2.2.2.2.2.2.2.1), (pw_cell_below hb hHeld.2.2.2.2.2.2.2.2.2.2.2.2.2.1), (pw_cell_below hb hHeld.2.2.2.2.2.2.2.2.2.2.2.2.2.2.1), (pw_cell_below hb hHeld.2.2.2.2.2.2.2.2.2.2.2.2.2.2.2.1), (pw_cell_below hb hHeld.2.2.2.2.2.2.2.2.2.2.2.2.2.2.2.2.1), (pw_cell_below hb hHeld.2.2.2.2.2.2.2.2.2.2.2.2.2.2.2.2.2.1), (pw_cell_below hb hHeld.2.2.2.2.2.2.2.2.2.2.2.2.2.2.2.2.2.2.1), (pw_cell_below hb hHeld.2.2.2.2.2.2.2.2.2.2.2.2.2.2.2.2.2.2.2.1), (pw_cell_below hb hHeld.2.2.2.2.2.2.2.2.2.2.2.2.2.2.2.2.2.2.2.2.1), (pw_cell_below hb hHeld.2.2.2.2.2.2.2.2.2.2.2.2.2.2.2.2.2.2.2.2.2.1), (pw_cell_below hb hHeld.2.2.2.2.2.2.2.2.2.2.2.2.2.2.2.2.2.2.2.2.2.2.1), (pw_cell_below hb hHeld.2.2.2.2.2.2.2.2.2.2.2.2.2.2.2.2.2.2.2.2.2.2.2.1), (pw_cell_below hb hHeld.2.2.2.2.2.2.2.2.2.2.2.2.2.2.2.2.2.2.2.2.2.2.2.2.1), (pw_cell_below hb hHeld.2.2.2.2.2.2.2.2.2.2.2.2.2.2.2.2.2.2.2.2.2.2.2.2.2.1), (pw_cell_below hb hHeld.2.2.2.2.2.2.2.2.2.2.2.2.2.2.2.2.2.2.2.2.2.2.2.2.2.2.1), (pw_cell_below hb hHeld.2.2.2.2.2.2.2.2.2.2.2.2.2.2.2.2.2.2.2.2.2.2.2.2.2.2.2)⟩ (fun hHeld => ?_)
  clear hK K
  refine norm_ (a' := ?_) ?_ ?_
  rotate_left
  · show Act.put _ (some 71) _ = _
    simp only [Act.put, List.setIfInBounds_toArray, List.set_cons_zero, List.set_cons_succ, i64_w, i32_w]
    rfl
  refine one_ (i := 43) (N := some 76) #[true, true, true, true, true, true, true, true, true, true, true, true, true, true, true, true, true, true, true, true, true, true, true, true, true, true, true, true, true, true, true, true, true, true, true, true, true, true, true, true, true, true, true, true, false, false] rfl rfl (by kernel_rfl) (by decide) (fun K hK => ?_)
  refine goes_ Try.func29 (by kernel_rfl) rfl #[.agg #[.int .u64 n0, .slice E1 p.length e1, .slice E2 q.length e2, .int .i64 n3, .int .i64 n4, .slice E5 cd.length e5], .int .u64 l, .slice U xs.length u_, .slice V ys.length v_] (by rfl) rfl rfl (by simp only [List.map_toArray, List.map_cons, List.map_nil]; rfl) ?_
  with_reducible refine (rResC ((Zhf.out.below HB.out).below HV.out) ((Zhu.out.below HB.out).below HV.out) ((Zhv.out.below HB.out).below HV.out) l (by have := Zyf.out; omega) Zwl.out Zwq.out).mono ?_
  rintro e v8 ⟨rfl, hb⟩
  refine ⟨_, rfl, ?_⟩
  rw [ZRB.out]
  replace HV := Aside0.mk (below_step HV.out hb)
  refine hK.out _ _ ⟨(pw_cell_below hb hHeld.1), (pw_cell_below hb hHeld.2.1), (pw_cell_below hb hHeld.2.2.1), (pw_cell_below hb hHeld.2.2.2.1), (pw_cell_below hb hHeld.2.2.2.2.1), (pw_cell_below hb hHeld.2.2.2.2.2.1), (pw_cell_below hb hHeld.2.2.2.2.2.2.1), (pw_cell_below hb hHeld.2.2.2.2.2.2.2.1), (pw_cell_below hb hHeld.2.2.2.2.2.2.2.2.1), (pw_cell_below hb hHeld.2.2.2.2.2.2.2.2.2.1), (pw_cell_below hb hHeld.2.2.2.2.2.2.2.2.2.2.1), (pw_cell_below hb hHeld.2.2.2.2.2.2.2.2.2.2.2.1), (pw_cell_below hb hHeld.2.2.2.2.2.2.2.2.2.2.2.2.1), (pw_cell_below hb hHeld.2.2.2.2.2.2.2.2.2.2.2.2.2.1), (pw_cell_below hb hHeld.2.2.2.2.2.2.2.2.2.2.2.2.2.2.1), (pw_cell_below hb hHeld.2.2.2.2.2.2.2.2.2.2.2.2.2.2.2.1), (pw_cell_below hb hHeld.2.2.2.2.2.2.2.2.2.2.2.2.2.2.2.2.1), (pw_cell_below hb hHeld.2.2.2.2.2.2.2.2.2.2.2.2.2.2.2.2.2.1), (pw_cell_below hb hHeld.2.2.2.2.2.2.2.2.2.2.2.2.2.2.2.2.2.2.1), (pw_cell_below hb hHeld.2.2.2.2.2.2.2.2.2.2.2.2.2.2.2.2.2.2.2.1), (pw_cell_below hb hHeld.2.2.2.2.2.2.2.2.2.2.2.2.2.2.2.2.2.2.2.2.1), (pw_cell_below hb hHeld.2.2.2.2.2.2.2.2.2.2.2.2.2.2.2.2.2.2.2.2.2.1), (pw_cell_below hb hHeld.2.2.2.2.2.2.2.2.2.2.2.2.2.2.2.2.2.2.2.2.2.2.1), (pw_cell_below hb hHeld.2.2.2.2.2.2.2.2.2.2.2.2.2.2.2.2.2.2.2.2.2.2.2.1), (pw_cell_below hb hHeld.2.2.2.2.2.2.2.2.2.2.2.2.2.2.2.2.2.2.2.2.2.2.2.2.1), (pw_cell_below hb hHeld.2.2.2.2.2.2.2.2.2.2.2.2.2.2.2.2.2.2.2.2.2.2.2.2.2.1), (pw_cell_below hb hHeld.2.2.2.2.2.2.2.2.2.2.2.2.2.2.2.2.2.2.2.2.2.2.2.2.2.2.1), (pw_cell_below hb hHeld.2.2.2.2.2.2.2.2.2.2.2.2.2.2.2.2.2.2.2.2.2.2.2.2.2.2.2)⟩ (fun hHeld => ?_)
  clear hK K
  refine norm_ (a' := ?_) ?_ ?_
  rotate_left
  · show Act.put _ (some 76) _ = _
    simp only [Act.put, List.setIfInBounds_toArray, List.set_cons_zero, List.set_cons_succ, i64_w, i32_w]
    rfl
  refine pure_ (i := 44) (N := some 77) (v := ?_) (a' := ?_) #[true, true, true, true, true, true, true, true, true, true, true, true, true, true, true, true, true, true, true, true, true, true, true, true, true, true, true, true, true, true, true, true, true, true, true, true, true, true, true, true, true, true, true, true, true, false] rfl rfl (by kernel_rfl) (fun _ _ _ h => h) (Or.inl ⟨by rfl, ?_⟩) ?_ ?_
  rotate_left
  · intro w'
    go_simp
    with_reducible rfl
  rotate_left
  · simp only [Act.put, List.setIfInBounds_toArray, List.set_cons_zero, List.set_cons_succ, i64_w, i32_w]
    rfl
  refine pure_ (i := 45) (N := some 78) (v := ?_) (a' := ?_) #[true, true, true, true, true, true, true, true, true, true, true, true, true, true, true, true, true, true, true, true, true, true, true, true, true, true, true, true, true, true, true, true, true, true, true, true, true, true, true, true, true, true, true, true, true, true] rfl rfl (by kernel_rfl) (fun _ _ _ h => h) (Or.inl ⟨by rfl, ?_⟩) ?_ ?_
  rotate_left
  · intro w'
    go_simp
    with_reducible rfl
  rotate_left
  · simp only [Act.put, List.setIfInBounds_toArray, List.set_cons_zero, List.set_cons_succ, i64_w, i32_w]
    rfl
  refine done_ (by kernel_rfl) ?_
  replace HV := Aside0.mk HV.out
  clear m0_ m1_ m2_ m3_ a0_ a1_ b0_ b1_ f0_ f1_ f2_ f3_ f4_ f5_ i0_ i1_ i2_ i3_ x0_ x1_ y0_ y1_ g0_ g1_ g2_ g3_ g4_ g5_
  replace HG0 := Aside0.mk (blk_below HG0.out HV.out)
  replace HG1 := Aside0.mk (blk_below HG1.out HV.out)
  replace HG2 := Aside0.mk (blk_below HG2.out HV.out)
  replace HG3 := Aside0.mk (blk_below HG3.out HV.out)
  replace HQ1 := Aside0.mk (blk_below HQ1.out HV.out)
  replace HQ2 := Aside0.mk (blk_below HQ2.out HV.out)
  replace HQ3 := Aside0.mk (blk_below HQ3.out HV.out)
  replace HQ4 := Aside0.mk (blk_below HQ4.out HV.out)
  replace HK1 := Aside0.mk (HK1.out.below HV.out)
  replace HK2 := Aside0.mk (HK2.out.below HV.out)
  replace HK3 := Aside0.mk (HK3.out.below HV.out)
  replace HK4 := Aside0.mk (HK4.out.below HV.out)
  replace HK5 := Aside0.mk (HK5.out.below HV.out)
  replace HK6 := Aside0.mk (HK6.out.below HV.out)
  replace HB := Aside0.mk (below_step HB.out HV.out)
  obtain ⟨m0_, m1_, m2_, m3_⟩ := va4 HG0.out
  obtain ⟨⟨a0_, a1_⟩, _, _⟩ := blk2 HG1.out
  obtain ⟨⟨b0_, b1_⟩, _, _⟩ := blk2 HG2.out
  obtain ⟨f0_, f1_, f2_, f3_, f4_, f5_⟩ := va6 HG3.out
  obtain ⟨i0_, i1_, i2_, i3_⟩ := va4 HQ1.out
  obtain ⟨⟨x0_, x1_⟩, _, _⟩ := blk2 HQ2.out
  obtain ⟨⟨y0_, y1_⟩, _, _⟩ := blk2 HQ3.out
  obtain ⟨g0_, g1_, g2_, g3_, g4_, g5_⟩ := va6 HQ4.out
  clear HV
  go_wp2_with fail
  refine (keptModR _ _ gs arr l2 l3 _ HK1.out (Zhm.out.below HB.out)).mono ?_
  rintro e w_ ⟨rfl, hb⟩
  clear m0_ m1_ m2_ m3_ a0_ a1_ b0_ b1_ f0_ f1_ f2_ f3_ f4_ f5_ i0_ i1_ i2_ i3_ x0_ x1_ y0_ y1_ g0_ g1_ g2_ g3_ g4_ g5_
  replace HG0 := Aside0.mk (blk_below HG0.out hb)
  replace HG1 := Aside0.mk (blk_below HG1.out hb)
  replace HG2 := Aside0.mk (blk_below HG2.out hb)
  replace HG3 := Aside0.mk (blk_below HG3.out hb)
  replace HQ1 := Aside0.mk (blk_below HQ1.out hb)
  replace HQ2 := Aside0.mk (blk_below HQ2.out hb)
  replace HQ3 := Aside0.mk (blk_below HQ3.out hb)
  replace HQ4 := Aside0.mk (blk_below HQ4.out hb)
  replace HK1 := Aside0.mk (HK1.out.below hb)
  replace HK2 := Aside0.mk (HK2.out.below hb)
  replace HK3 := Aside0.mk (HK3.out.below hb)
  replace HK4 := Aside0.mk (HK4.out.below hb)
  replace HK5 := Aside0.mk (HK5.out.below hb)
  replace HK6 := Aside0.mk (HK6.out.below hb)
  replace HB := Aside0.mk (below_step HB.out hb)
  clear hb
  obtain ⟨m0_, m1_, m2_, m3_⟩ := va4 HG0.out
  obtain ⟨⟨a0_, a1_⟩, _, _⟩ := blk2 HG1.out
  obtain ⟨⟨b0_, b1_⟩, _, _⟩ := blk2 HG2.out
  obtain ⟨f0_, f1_, f2_, f3_, f4_, f5_⟩ := va6 HG3.out
  obtain ⟨i0_, i1_, i2_, i3_⟩ := va4 HQ1.out
  obtain ⟨⟨x0_, x1_⟩, _, _⟩ := blk2 HQ2.out
  obtain ⟨⟨y0_, y1_⟩, _, _⟩ := blk2 HQ3.out
  obtain ⟨g0_, g1_, g2_, g3_, g4_, g5_⟩ := va6 HQ4.out
  go_wp2_with fail
  refine (keptMemR _ _ g1 r1 _ HK2.out (Zh1.out.below HB.out)).mono ?_
  rintro e w_ ⟨rfl, hb⟩
  clear m0_ m1_ m2_ m3_ a0_ a1_ b0_ b1_ f0_ f1_ f2_ f3_ f4_ f5_ i0_ i1_ i2_ i3_ x0_ x1_ y0_ y1_ g0_ g1_ g2_ g3_ g4_ g5_
  replace HG0 := Aside0.mk (blk_below HG0.out hb)
  replace HG1 := Aside0.mk (blk_below HG1.out hb)
  replace HG2 := Aside0.mk (blk_below HG2.out hb)
  replace HG3 := Aside0.mk (blk_below HG3.out hb)
  replace HQ1 := Aside0.mk (blk_below HQ1.out hb)
  replace HQ2 := Aside0.mk (blk_below HQ2.out hb)
  replace HQ3 := Aside0.mk (blk_below HQ3.out hb)
  replace HQ4 := Aside0.mk (blk_below HQ4.out hb)
  replace HK1 := Aside0.mk (HK1.out.below hb)
  replace HK2 := Aside0.mk (HK2.out.below hb)
  replace HK3 := Aside0.mk (HK3.out.below hb)
  replace HK4 := Aside0.mk (HK4.out.below hb)
  replace HK5 := Aside0.mk (HK5.out.below hb)
  replace HK6 := Aside0.mk (HK6.out.below hb)
  replace HB := Aside0.mk (below_step HB.out hb)
  clear hb
  obtain ⟨m0_, m1_, m2_, m3_⟩ := va4 HG0.out
  obtain ⟨⟨a0_, a1_⟩, _, _⟩ := blk2 HG1.out
  obtain ⟨⟨b0_, b1_⟩, _, _⟩ := blk2 HG2.out
  obtain ⟨f0_, f1_, f2_, f3_, f4_, f5_⟩ := va6 HG3.out
  obtain ⟨i0_, i1_, i2_, i3_⟩ := va4 HQ1.out
  obtain ⟨⟨x0_, x1_⟩, _, _⟩ := blk2 HQ2.out
  obtain ⟨⟨y0_, y1_⟩, _, _⟩ := blk2 HQ3.out
  obtain ⟨g0_, g1_, g2_, g3_, g4_, g5_⟩ := va6 HQ4.out
  go_wp2_with fail
  refine (keptMemR _ _ g2 r2 _ HK3.out (Zh2.out.below HB.out)).mono ?_
  rintro e w_ ⟨rfl, hb⟩
  clear m0_ m1_ m2_ m3_ a0_ a1_ b0_ b1_ f0_ f1_ f2_ f3_ f4_ f5_ i0_ i1_ i2_ i3_ x0_ x1_ y0_ y1_ g0_ g1_ g2_ g3_ g4_ g5_
  replace HG0 := Aside0.mk (blk_below HG0.out hb)
  replace HG1 := Aside0.mk (blk_below HG1.out hb)
  replace HG2 := Aside0.mk (blk_below HG2.out hb)
  replace HG3 := Aside0.mk (blk_below HG3.out hb)
  replace HQ1 := Aside0.mk (blk_below HQ1.out hb)
  replace HQ2 := Aside0.mk (blk_below HQ2.out hb)
  replace HQ3 := Aside0.mk (blk_below HQ3.out hb)
  replace HQ4 := Aside0.mk (blk_below HQ4.out hb)
  replace HK1 := Aside0.mk (HK1.out.below hb)
  replace HK2 := Aside0.mk (HK2.out.below hb)
  replace HK3 := Aside0.mk (HK3.out.below hb)
  replace HK4 := Aside0.mk (HK4.out.below hb)
  replace HK5 := Aside0.mk (HK5.out.below hb)
  replace HK6 := Aside0.mk (HK6.out.below hb)
  replace HB := Aside0.mk (below_step HB.out hb)
  clear hb
  obtain ⟨m0_, m1_, m2_, m3_⟩ := va4 HG0.out
  obtain ⟨⟨a0_, a1_⟩, _, _⟩ := blk2 HG1.out
  obtain ⟨⟨b0_, b1_⟩, _, _⟩ := blk2 HG2.out
  obtain ⟨f0_, f1_, f2_, f3_, f4_, f5_⟩ := va6 HG3.out
  obtain ⟨i0_, i1_, i2_, i3_⟩ := va4 HQ1.out
  obtain ⟨⟨x0_, x1_⟩, _, _⟩ := blk2 HQ2.out
  obtain ⟨⟨y0_, y1_⟩, _, _⟩ := blk2 HQ3.out
  obtain ⟨g0_, g1_, g2_, g3_, g4_, g5_⟩ := va6 HQ4.out
  go_wp2_with fail
  refine (keptFnC _ _ n0 p q n3 n4 cd _ HK4.out (Zhf.out.below HB.out)).mono ?_
  rintro e w_ ⟨rfl, hb⟩
  clear m0_ m1_ m2_ m3_ a0_ a1_ b0_ b1_ f0_ f1_ f2_ f3_ f4_ f5_ i0_ i1_ i2_ i3_ x0_ x1_ y0_ y1_ g0_ g1_ g2_ g3_ g4_ g5_
  replace HG0 := Aside0.mk (blk_below HG0.out hb)
  replace HG1 := Aside0.mk (blk_below HG1.out hb)
  replace HG2 := Aside0.mk (blk_below HG2.out hb)
  replace HG3 := Aside0.mk (blk_below HG3.out hb)
  replace HQ1 := Aside0.mk (blk_below HQ1.out hb)
  replace HQ2 := Aside0.mk (blk_below HQ2.out hb)
  replace HQ3 := Aside0.mk (blk_below HQ3.out hb)
  replace HQ4 := Aside0.mk (blk_below HQ4.out hb)
  replace HK1 := Aside0.mk (HK1.out.below hb)
  replace HK2 := Aside0.mk (HK2.out.below hb)
  replace HK3 := Aside0.mk (HK3.out.below hb)
  replace HK4 := Aside0.mk (HK4.out.below hb)
  replace HK5 := Aside0.mk (HK5.out.below hb)
  replace HK6 := Aside0.mk (HK6.out.below hb)
  replace HB := Aside0.mk (below_step HB.out hb)
  clear hb
  obtain ⟨m0_, m1_, m2_, m3_⟩ := va4 HG0.out
  obtain ⟨⟨a0_, a1_⟩, _, _⟩ := blk2 HG1.out
  obtain ⟨⟨b0_, b1_⟩, _, _⟩ := blk2 HG2.out
  obtain ⟨f0_, f1_, f2_, f3_, f4_, f5_⟩ := va6 HG3.out
  obtain ⟨i0_, i1_, i2_, i3_⟩ := va4 HQ1.out
  obtain ⟨⟨x0_, x1_⟩, _, _⟩ := blk2 HQ2.out
  obtain ⟨⟨y0_, y1_⟩, _, _⟩ := blk2 HQ3.out
  obtain ⟨g0_, g1_, g2_, g3_, g4_, g5_⟩ := va6 HQ4.out
  go_wp2_with fail
  refine (keptIntsC _ _ xs _ HK5.out (Zhu.out.below HB.out)).mono ?_
  rintro e w_ ⟨rfl, hb⟩
  clear m0_ m1_ m2_ m3_ a0_ a1_ b0_ b1_ f0_ f1_ f2_ f3_ f4_ f5_ i0_ i1_ i2_ i3_ x0_ x1_ y0_ y1_ g0_ g1_ g2_ g3_ g4_ g5_
  replace HG0 := Aside0.mk (blk_below HG0.out hb)
  replace HG1 := Aside0.mk (blk_below HG1.out hb)
  replace HG2 := Aside0.mk (blk_below HG2.out hb)
  replace HG3 := Aside0.mk (blk_below HG3.out hb)
  replace HQ1 := Aside0.mk (blk_below HQ1.out hb)
  replace HQ2 := Aside0.mk (blk_below HQ2.out hb)
  replace HQ3 := Aside0.mk (blk_below HQ3.out hb)
  replace HQ4 := Aside0.mk (blk_below HQ4.out hb)
  replace HK1 := Aside0.mk (HK1.out.below hb)
  replace HK2 := Aside0.mk (HK2.out.below hb)
  replace HK3 := Aside0.mk (HK3.out.below hb)
  replace HK4 := Aside0.mk (HK4.out.below hb)
  replace HK5 := Aside0.mk (HK5.out.below hb)
  replace HK6 := Aside0.mk (HK6.out.below hb)
  replace HB := Aside0.mk (below_step HB.out hb)
  clear hb
  obtain ⟨m0_, m1_, m2_, m3_⟩ := va4 HG0.out
  obtain ⟨⟨a0_, a1_⟩, _, _⟩ := blk2 HG1.out
  obtain ⟨⟨b0_, b1_⟩, _, _⟩ := blk2 HG2.out
  obtain ⟨f0_, f1_, f2_, f3_, f4_, f5_⟩ := va6 HG3.out
  obtain ⟨i0_, i1_, i2_, i3_⟩ := va4 HQ1.out
  obtain ⟨⟨x0_, x1_⟩, _, _⟩ := blk2 HQ2.out
  obtain ⟨⟨y0_, y1_⟩, _, _⟩ := blk2 HQ3.out
  obtain ⟨g0_, g1_, g2_, g3_, g4_, g5_⟩ := va6 HQ4.out
  go_wp2_with fail
  refine (keptIntsC _ _ ys _ HK6.out (Zhv.out.below HB.out)).mono ?_
  rintro e w_ ⟨rfl, hb⟩
  clear m0_ m1_ m2_ m3_ a0_ a1_ b0_ b1_ f0_ f1_ f2_ f3_ f4_ f5_ i0_ i1_ i2_ i3_ x0_ x1_ y0_ y1_ g0_ g1_ g2_ g3_ g4_ g5_
  replace HG0 := Aside0.mk (blk_below HG0.out hb)
  replace HG1 := Aside0.mk (blk_below HG1.out hb)
  replace HG2 := Aside0.mk (blk_below HG2.out hb)
  replace HG3 := Aside0.mk (blk_below HG3.out hb)
  replace HQ1 := Aside0.mk (blk_below HQ1.out hb)
  replace HQ2 := Aside0.mk (blk_below HQ2.out hb)
  replace HQ3 := Aside0.mk (blk_below HQ3.out hb)
  replace HQ4 := Aside0.mk (blk_below HQ4.out hb)
  replace HK1 := Aside0.mk (HK1.out.below hb)
  replace HK2 := Aside0.mk (HK2.out.below hb)
  replace HK3 := Aside0.mk (HK3.out.below hb)
  replace HK4 := Aside0.mk (HK4.out.below hb)
  replace HK5 := Aside0.mk (HK5.out.below hb)
  replace HK6 := Aside0.mk (HK6.out.below hb)
  replace HB := Aside0.mk (below_step HB.out hb)
  clear hb
  obtain ⟨m0_, m1_, m2_, m3_⟩ := va4 HG0.out
  obtain ⟨⟨a0_, a1_⟩, _, _⟩ := blk2 HG1.out
  obtain ⟨⟨b0_, b1_⟩, _, _⟩ := blk2 HG2.out
  obtain ⟨f0_, f1_, f2_, f3_, f4_, f5_⟩ := va6 HG3.out
  obtain ⟨i0_, i1_, i2_, i3_⟩ := va4 HQ1.out
  obtain ⟨⟨x0_, x1_⟩, _, _⟩ := blk2 HQ2.out
  obtain ⟨⟨y0_, y1_⟩, _, _⟩ := blk2 HQ3.out
  obtain ⟨g0_, g1_, g2_, g3_, g4_, g5_⟩ := va6 HQ4.out
  go_wp2_with fail
  refine (awakeC _).mono ?_
  rintro e w_ ⟨rfl, hb⟩
  clear m0_ m1_ m2_ m3_ a0_ a1_ b0_ b1_ f0_ f1_ f2_ f3_ f4_ f5_ i0_ i1_ i2_ i3_ x0_ x1_ y0_ y1_ g0_ g1_ g2_ g3_ g4_ g5_
  replace HG0 := Aside0.mk (blk_below HG0.out hb)
  replace HG1 := Aside0.mk (blk_below HG1.out hb)
  replace HG2 := Aside0.mk (blk_below HG2.out hb)
  replace HG3 := Aside0.mk (blk_below HG3.out hb)
  replace HQ1 := Aside0.mk (blk_below HQ1.out hb)
  replace HQ2 := Aside0.mk (blk_below HQ2.out hb)
  replace HQ3 := Aside0.mk (blk_below HQ3.out hb)
  replace HQ4 := Aside0.mk (blk_below HQ4.out hb)
  replace HK1 := Aside0.mk (HK1.out.below hb)
  replace HK2 := Aside0.mk (HK2.out.below hb)
  replace HK3 := Aside0.mk (HK3.out.below hb)
  replace HK4 := Aside0.mk (HK4.out.below hb)
  replace HK5 := Aside0.mk (HK5.out.below hb)
  replace HK6 := Aside0.mk (HK6.out.below hb)
  replace HB := Aside0.mk (below_step HB.out hb)
  clear hb
  obtain ⟨m0_, m1_, m2_, m3_⟩ := va4 HG0.out
  obtain ⟨⟨a0_, a1_⟩, _, _⟩ := blk2 HG1.out
  obtain ⟨⟨b0_, b1_⟩, _, _⟩ := blk2 HG2.out
  obtain ⟨f0_, f1_, f2_, f3_, f4_, f5_⟩ := va6 HG3.out
  obtain ⟨i0_, i1_, i2_, i3_⟩ := va4 HQ1.out
  obtain ⟨⟨x0_, x1_⟩, _, _⟩ := blk2 HQ2.out
  obtain ⟨⟨y0_, y1_⟩, _, _⟩ := blk2 HQ3.out
  obtain ⟨g0_, g1_, g2_, g3_, g4_, g5_⟩ := va6 HQ4.out
  go_wp2
  go_ret
  exact ⟨rfl, HB.out⟩
end Go.Proofs.Ytlnccdgclaalbaa.PJ
