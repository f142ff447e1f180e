/- What package view's functions hand out, told by what it reads; louverlaw20.awake by hand. -/
import Derived.Test.YtlnccdgclaalbaaPJx0
import Derived.Test.YtlnccdgclaalbaaPJx5
import Derived.Test.YtlnccdgclaalbaaPJx6
import Derived.Test.YtlnccdgclaalbaaPJx7
import Derived.Test.YtlnccdgclaalbaaPJx8
import Derived.Test.YtlnccdgclaalbaaHandSeen
import Derived.Test.YtlnccdgclaalbaaViewPure
namespace Go.Proofs.Ytlnccdgclaalbaa.PJ
open Go.RowKit Go.Proofs.YtlnccdgclaalbaaW.PrintWords Go.Proofs.YtlnccdgclaalbaaW.PrintLast Go.Proofs.YtlnccdgclaalbaaW.PrintMore
set_option linter.unusedSimpArgs false
set_option linter.unusedVariables false
/-- A memory that is read. -/
def MemR (w : World) (v : Value) (g : List Int) (rs : List (List Int)) : Prop := ∃ A0 c0 A1 c1, v = .agg #[.slice A0 g.length c0, .slice A1 rs.length c1] ∧ Kd.C (Kd.int .i64) w A0 g.length g ∧ g.length ≤ c0 ∧ Kd.C (Kd.slice 2 (Kd.int .i64)) w A1 rs.length rs ∧ rs.length ≤ c1
def ModR (w : World) (v : Value) (gs : List Int) (arr : List S57) (l2 : List Int) (l3 : List S48) : Prop := ∃ A0 c0 A1 c1 A2 c2 A3 c3, v = .agg #[.slice A0 gs.length c0, .slice A1 arr.length c1, .slice A2 l2.length c2, .slice A3 l3.length c3] ∧ Kd.C (Kd.int .u64) w A0 gs.length gs ∧ gs.length ≤ c0 ∧ Kd.C k57 w A1 arr.length arr ∧ arr.length ≤ c1 ∧ Kd.C (Kd.int .u64) w A2 l2.length l2 ∧ l2.length ≤ c2 ∧ Kd.C k48 w A3 l3.length l3 ∧ l3.length ≤ c3
theorem MemR.below {w w' : World} {v : Value} {g : List Int} {rs : List (List Int)} (h : MemR w v g rs) (hb : Below w.heap.size w w') : MemR w' v g rs := by
  obtain ⟨A0, c0, A1, c1, e, h0, l0, h1, l1⟩ := h
  exact ⟨A0, c0, A1, c1, e, Kd.C_below h0 hb, l0, Kd.C_below h1 hb, l1⟩
theorem ModR.below {w w' : World} {v : Value} {gs : List Int} {arr : List S57} {l2 : List Int} {l3 : List S48} (h : ModR w v gs arr l2 l3) (hb : Below w.heap.size w w') : ModR w' v gs arr l2 l3 := by
  obtain ⟨A0, c0, A1, c1, A2, c2, A3, c3, e, h0, l0, h1, l1, h2, l2, h3, l3⟩ := h
  exact ⟨A0, c0, A1, c1, A2, c2, A3, c3, e, Kd.C_below h0 hb, l0, Kd.C_below h1 hb, l1, Kd.C_below h2 hb, l2, Kd.C_below h3 hb, l3⟩
theorem memR_V {w : World} {b0 b1 : Nat} {ok0 ok1 : Nat → Prop} {v0 v1 : Value} {g : List Int} {rs : List (List Int)} (h0 : Kd.V (Kd.int .i64) 2 w b0 ok0 v0 g) (h1 : Kd.V (Kd.slice 2 (Kd.int .i64)) 27 w b1 ok1 v1 rs) : MemR w (.agg #[v0, v1]) g rs := by
  obtain ⟨A0, c0, rfl, l0, f0⟩ := h0
  obtain ⟨A1, c1, rfl, l1, f1⟩ := h1
  exact ⟨A0, c0, A1, c1, rfl, Kd.F_now f0, l0, Kd.F_now f1, l1⟩
theorem memC (a0 a1 a2 a3 : Int) (w : World) : Calls Try.prog 34 #[.int .i64 a0, .int .i64 a1, .int .i64 a2, .int .i64 a3] w fun e w' => ∃ v, e = .returned v ∧ MemR w' v [a0, a1] [[a2, a3]] ∧ Below w.heap.size w w' := by
  refine (louverlaw20_memory.calls a0 a1 a2 a3 [a0, a1] [[a2, a3]] w rfl).mono ?_
  rintro e w' ⟨v0, v1, rfl, h0, h1, hb⟩
  exact ⟨_, rfl, memR_V (b0 := 0) (b1 := 0) (Kd.R_V h0) (Kd.N_V h1), hb⟩
theorem givenC (w : World) : Calls Try.prog 32 #[] w fun e w' => ∃ v, e = .returned v ∧ ModR w' v [0, 1] [⟨2, 2⟩] [] [] ∧ Below w.heap.size w w' := by
  refine (louverlaw20_given.calls [0, 1] [⟨2, 2⟩] [] [] w rfl).mono ?_
  rintro e w' ⟨v0, v1, v2, v3, rfl, h0, h1, h2, h3, hb⟩
  obtain ⟨A0, c0, rfl, l0, f0⟩ := Kd.R_reads h0
  obtain ⟨A1, c1, rfl, l1, f1⟩ := Kd.R_reads h1
  obtain ⟨A2, c2, rfl, l2, f2⟩ := Kd.R_reads h2
  obtain ⟨A3, c3, rfl, l3, f3⟩ := Kd.R_reads (Kd.S_R h3)
  exact ⟨_, rfl, ⟨A0, c0, A1, c1, A2, c2, A3, c3, rfl, f0, l0, f1, l1, f2, l2, f3, l3⟩, hb⟩
/-! the functions at what is read -/
section
variable {w : World} {m x y : Value} {gs : List Int} {arr : List S57} {l2 : List Int} {l3 : List S48} {g1 g2 : List Int} {r1 r2 : List (List Int)}
theorem zeroC (hm : ModR w m gs arr l2 l3) (h : gs.length ≤ 35184372088832 ∧ arr.length ≤ 11728124029610) : Calls Try.prog 9 #[m] w fun e w' => ∃ v, e = .returned v ∧ MemR w' v (List.replicate gs.length 0) (arr.map zrow) ∧ Below w.heap.size w w' := by
  obtain ⟨A0, c0, A1, c1, A2, c2, A3, c3, rfl, h0, l0, h1, l1, h2, l2_, h3, l3_⟩ := hm
  refine (view_Zero.calls A0 c0 gs A1 c1 arr A2 c2 l2 A3 c3 l3 _ _ w h0 l0 h1 l1 h2 l2_ h3 l3_ (by unfold view_Zero.f; exact if_pos h)).mono ?_
  rintro e w' ⟨v0, v1, rfl, g0, g1, hb⟩
  exact ⟨_, rfl, memR_V g0 g1, hb⟩
theorem fitsC (hm : ModR w m gs arr l2 l3) (hx : MemR w x g1 r1) : Calls Try.prog 14 #[m, x] w fun e w' => e = .returned (.bool (fitsB gs arr g1 r1)) ∧ Below w.heap.size w w' := by
  obtain ⟨A0, c0, A1, c1, A2, c2, A3, c3, rfl, h0, l0, h1, l1, h2, l2_, h3, l3_⟩ := hm
  obtain ⟨B0, d0, B1, d1, rfl, k0, m0, k1, m1⟩ := hx
  exact view_Fits.calls (arr.length + 1) A0 c0 gs A1 c1 arr A2 c2 l2 A3 c3 l3 B0 d0 g1 B1 d1 r1 _ w h0 l0 h1 l1 h2 l2_ h3 l3_ k0 m0 k1 m1 (fits_f gs arr l2 l3 g1 r1 (Kd.C_max h1) _ (Nat.lt_succ_self _))
theorem alikeC (hm : ModR w m gs arr l2 l3) (hx : MemR w x g1 r1) (hy : MemR w y g2 r2) (l : Int) (B : Nat) (hB : B ≤ 17592186044415) (hs : Sized B g1 r1) (ht : Sized B g2 r2) : Calls Try.prog 21 #[m, .int .u64 l, x, y] w fun e w' => e = .returned (.bool (alikeB gs arr l g1 r1 g2 r2)) ∧ Below w.heap.size w w' := by
  obtain ⟨A0, c0, A1, c1, A2, c2, A3, c3, rfl, h0, l0, h1, l1, h2, l2_, h3, l3_⟩ := hm
  obtain ⟨B0, d0, B1, d1, rfl, k0, m0, k1, m1⟩ := hx
  obtain ⟨C0, e0, C1, e1, rfl, n0, o0, n1, o1⟩ := hy
  exact view_Alike.calls (arr.length + B + B + 2) A0 c0 gs A1 c1 arr A2 c2 l2 A3 c3 l3 l B0 d0 g1 B1 d1 r1 C0 e0 g2 C1 e1 r2 _ w h0 l0 h1 l1 h2 l2_ h3 l3_ k0 m0 k1 m1 n0 o0 n1 o1 (alike_f B hB gs arr l2 l3 l hs ht (Kd.C_max h1) _ (by omega) (by omega))
theorem memoryC (hx : MemR w x g1 r1) (hy : MemR w y g2 r2) (B : Nat) (hB : B ≤ 9223372036854775807) (hs : Sized B g1 r1) : Calls Try.prog 16 #[x, y] w fun e w' => e = .returned (.bool (sameB g1 r1 g2 r2)) ∧ Below w.heap.size w w' := by
  obtain ⟨B0, d0, B1, d1, rfl, k0, m0, k1, m1⟩ := hx
  obtain ⟨C0, e0, C1, e1, rfl, n0, o0, n1, o1⟩ := hy
  exact (louverkit_Memory.calls (B + B + 2) B0 d0 g1 B1 d1 r1 C0 e0 g2 C1 e1 r2 _ w k0 m0 k1 m1 n0 o0 n1 o1 (memory_f B hB g2 r2 hs _ (by omega))).mono fun e w' h => ⟨h.1, h.2⟩
end
theorem sizedOf (B : Nat) (g : List Int) (r : List (List Int)) (h : (decide (g.length ≤ B) && decide (r.length ≤ B) && decide (r.length ≤ 11728124029610) && r.all (fun x => decide (x.length ≤ B))) = true) : Sized B g r := by
  simp only [Bool.and_eq_true, decide_eq_true_eq, List.all_eq_true] at h
  exact ⟨h.1.1.1, h.1.1.2, h.1.2, h.2⟩

set_option maxRecDepth 100000 in
theorem aw1 : seenM [0, 1] [(⟨2, 2⟩ : S57)] 1 [5, 6] [[7, 8]] = ([5, 6], [[0, 0]]) := by kernel_rfl
set_option maxRecDepth 100000 in
theorem aw2 : alikeB [0, 1] [(⟨2, 2⟩ : S57)] 1 [5, 6] [[7, 8]] [5, 6] [[9, 9]] = true := by kernel_rfl
set_option maxRecDepth 100000 in
theorem aw3 : alikeB [0, 1] [(⟨2, 2⟩ : S57)] 2 [5, 6] [[7, 8]] [5, 6] [[9, 9]] = false := by kernel_rfl
theorem seenLawC (l : Int) (w : World) {x : Value} {g : List Int} {r : List (List Int)} (hx : MemR w x g r) : Calls Try.prog 33 #[.int .u64 l, x] w fun e w' => e = .returned (.bool (sameB (seenM [0, 1] [(⟨2, 2⟩ : S57)] l [5, 6] [[7, 8]]).1 (seenM [0, 1] [(⟨2, 2⟩ : S57)] l [5, 6] [[7, 8]]).2 g r)) ∧ Below w.heap.size w w' := by
  obtain ⟨B0, d0, B1, d1, rfl, k0, m0, k1, m1⟩ := hx
  have hS : Sized 4 [5, 6] [[7, 8]] := sizedOf _ _ _ (by decide)
  have hT : Sized 4 (seenM [0, 1] [(⟨2, 2⟩ : S57)] l [5, 6] [[7, 8]]).1 (seenM [0, 1] [(⟨2, 2⟩ : S57)] l [5, 6] [[7, 8]]).2 := by
    unfold seenM
    split
    · exact sized_seen l hS
    · exact sizedOf _ _ _ (by decide)
  refine louverlaw20_seen.calls 20 l B0 d0 g B1 d1 r _ w k0 m0 k1 m1 ?_
  unfold louverlaw20_seen.f louverlaw20_given.f louverlaw20_memory.f
  simp only [Option.bind_some]
  rw [seen_f 4 (by omega) _ _ _ _ l hS, Option.bind_some, memory_f 4 (by omega) _ _ hT 20 (by omega), Option.bind_some]
set_option maxHeartbeats 8000000 in
set_option maxRecDepth 100000 in
theorem awakeC (w : World) : Calls Try.prog 20 #[] w fun e w' => e = .returned (.bool true) ∧ Below w.heap.size w w' := by
  have HB := Aside0.mk (Below.refl w.heap.size w)
  go_enter Try.func20, Try.ntmps20
  go_wp2_with fail
  refine (memC 5 6 0 0 _).mono ?_
  rintro e w1 ⟨X1v, rfl, X1_, hb⟩
  replace HB := Aside0.mk (below_step HB.out hb)
  have X1 := Aside0.mk X1_
  clear X1_
  clear hb
  go_wp2_with fail
  refine (seenLawC 1 _ X1.out).mono ?_
  rintro e w2 ⟨rfl, hb⟩
  replace X1 := Aside0.mk (X1.out.below hb)
  replace HB := Aside0.mk (below_step HB.out hb)
  clear hb
  rw [aw1, sameB_refl]
  clear X1
  go_wp2_with fail
  refine (givenC _).mono ?_
  rintro e w3 ⟨M1v, rfl, M1_, hb⟩
  replace HB := Aside0.mk (below_step HB.out hb)
  have M1 := Aside0.mk M1_
  clear M1_
  clear hb
  go_wp2_with fail
  refine (zeroC M1.out (by decide)).mono ?_
  rintro e w4 ⟨Z1v, rfl, Z1_, hb⟩
  replace M1 := Aside0.mk (M1.out.below hb)
  replace HB := Aside0.mk (below_step HB.out hb)
  have Z1 := Aside0.mk Z1_
  clear Z1_
  clear hb
  go_wp2_with fail
  refine (memC 0 0 0 0 _).mono ?_
  rintro e w5 ⟨X2v, rfl, X2_, hb⟩
  replace M1 := Aside0.mk (M1.out.below hb)
  replace Z1 := Aside0.mk (Z1.out.below hb)
  replace HB := Aside0.mk (below_step HB.out hb)
  have X2 := Aside0.mk X2_
  clear X2_
  clear hb
  go_wp2_with fail
  refine (memoryC Z1.out X2.out 4 (by omega) (sizedOf _ _ _ (by decide))).mono ?_
  rintro e w6 ⟨rfl, hb⟩
  replace M1 := Aside0.mk (M1.out.below hb)
  replace Z1 := Aside0.mk (Z1.out.below hb)
  replace X2 := Aside0.mk (X2.out.below hb)
  replace HB := Aside0.mk (below_step HB.out hb)
  clear hb
  rw [show sameB (List.replicate [(0 : Int), 1].length 0) (List.map zrow [(⟨2, 2⟩ : S57)]) [0, 0] [[0, 0]] = true from rfl]
  clear M1
  clear Z1
  clear X2
  go_wp2_with fail
  refine (givenC _).mono ?_
  rintro e w7 ⟨M2v, rfl, M2_, hb⟩
  replace HB := Aside0.mk (below_step HB.out hb)
  have M2 := Aside0.mk M2_
  clear M2_
  clear hb
  go_wp2_with fail
  refine (memC 5 6 7 8 _).mono ?_
  rintro e w8 ⟨X3v, rfl, X3_, hb⟩
  replace M2 := Aside0.mk (M2.out.below hb)
  replace HB := Aside0.mk (below_step HB.out hb)
  have X3 := Aside0.mk X3_
  clear X3_
  clear hb
  go_wp2_with fail
  refine (memC 5 6 9 9 _).mono ?_
  rintro e w9 ⟨X4v, rfl, X4_, hb⟩
  replace M2 := Aside0.mk (M2.out.below hb)
  replace X3 := Aside0.mk (X3.out.below hb)
  replace HB := Aside0.mk (below_step HB.out hb)
  have X4 := Aside0.mk X4_
  clear X4_
  clear hb
  go_wp2_with fail
  refine (alikeC M2.out X3.out X4.out 1 4 (by omega) (sizedOf _ _ _ (by decide)) (sizedOf _ _ _ (by decide))).mono ?_
  rintro e w10 ⟨rfl, hb⟩
  replace M2 := Aside0.mk (M2.out.below hb)
  replace X3 := Aside0.mk (X3.out.below hb)
  replace X4 := Aside0.mk (X4.out.below hb)
  replace HB := Aside0.mk (below_step HB.out hb)
  clear hb
  rw [aw2]
  clear M2
  clear X3
  clear X4
  go_wp2_with fail
  refine (givenC _).mono ?_
  rintro e w11 ⟨M2v, rfl, M2_, hb⟩
  replace HB := Aside0.mk (below_step HB.out hb)
  have M2 := Aside0.mk M2_
  clear M2_
  clear hb
  go_wp2_with fail
  refine (memC 5 6 7 8 _).mono ?_
  rintro e w12 ⟨X3v, rfl, X3_, hb⟩
  replace M2 := Aside0.mk (M2.out.below hb)
  replace HB := Aside0.mk (below_step HB.out hb)
  have X3 := Aside0.mk X3_
  clear X3_
  clear hb
  go_wp2_with fail
  refine (memC 5 6 9 9 _).mono ?_
  rintro e w13 ⟨X4v, rfl, X4_, hb⟩
  replace M2 := Aside0.mk (M2.out.below hb)
  replace X3 := Aside0.mk (X3.out.below hb)
  replace HB := Aside0.mk (below_step HB.out hb)
  have X4 := Aside0.mk X4_
  clear X4_
  clear hb
  go_wp2_with fail
  refine (alikeC M2.out X3.out X4.out 2 4 (by omega) (sizedOf _ _ _ (by decide)) (sizedOf _ _ _ (by decide))).mono ?_
  rintro e w14 ⟨rfl, hb⟩
  replace M2 := Aside0.mk (M2.out.below hb)
  replace X3 := Aside0.mk (X3.out.below hb)
  replace X4 := Aside0.mk (X4.out.below hb)
  replace HB := Aside0.mk (below_step HB.out hb)
  clear hb
  rw [aw3]
  clear M2
  clear X3
  clear X4
  go_wp2
  go_ret
  exact ⟨rfl, HB.out⟩
end Go.Proofs.Ytlnccdgclaalbaa.PJ
