/- LentModule by hand. -/
import Derived.Test.YtlnccdgclaalbaaPJx0
import Derived.Test.YtlnccdgclaalbaaHandLentFn
namespace Go.Proofs.Ytlnccdgclaalbaa.PJ
open Go.RowKit Go.Proofs.YtlnccdgclaalbaaW.PrintWords Go.Proofs.YtlnccdgclaalbaaW.PrintLast Go.Proofs.YtlnccdgclaalbaaW.PrintMore
set_option linter.unusedSimpArgs false
set_option linter.unusedVariables false
def markFn : S48 × Bool := (⟨0, [], [], 0, -71, []⟩, false)
/-- The functions of a lent module: each lent, the mark's function behind them in the same row. -/
def LentFns (W : World) (base : Nat) (v : Value) (l : List S48) : Prop :=
  ∃ A c, v = .slice A l.length c ∧ Kd.N kLF 48 W base (fun k => base ≤ k) (.slice A (l.length + 1) c) (l.map (fun x => (x, true)) ++ [markFn])
theorem lent_fn_FK {W : World} {base : Nat} {n0 n3 n4 : Int} {l1 l2 : List Int} {l5 : List S77} {v1 v2 v5 : Value} (h1 : LentD (Kd.int .u64) 32 W base v1 l1 7171) (h2 : LentD (Kd.int .u64) 32 W base v2 l2 7171) (h5 : LentD k77 77 W base v5 l5 ⟨-71, 0⟩) :
    Kd.FK kLF W (fun k => base ≤ k) (⟨n0, l1, l2, n3, n4, l5⟩, true) [.int .u64 n0, v1, v2, .int .i64 n3, .int .i64 n4, v5] := by
  intro W' hW
  exact pairK (c1 := [.int .u64 n0]) rfl (pairK (c1 := [v1]) (h1.FK W' hW) (pairK (c1 := [v2]) (h2.FK W' hW) (pairK (c1 := [.int .i64 n3]) rfl (pairK (c1 := [.int .i64 n4]) rfl (h5.FK W' hW)))))
theorem mark_FK (W : World) (ok : Nat → Prop) : Kd.FK kLF W ok markFn [.int .u64 0, .slice none 0 0, .slice none 0 0, .int .i64 0, .int .i64 (-71), .slice none 0 0] := by
  intro W' hW
  exact pairK (c1 := [.int .u64 0]) rfl (pairK (c1 := [.slice none 0 0]) ⟨none, 0, rfl, Nat.le_refl _, Kd.C_nil _ _, fun h => by cases h⟩ (pairK (c1 := [.slice none 0 0]) ⟨none, 0, rfl, Nat.le_refl _, Kd.C_nil _ _, fun h => by cases h⟩
    (pairK (c1 := [.int .i64 0]) rfl (pairK (c1 := [.int .i64 (-71)]) rfl ⟨none, 0, rfl, Nat.le_refl _, Kd.C_nil _ _, fun h => by cases h⟩))))
theorem R_overN {α β : Type} {d : Kd α} {d' : Kd β} {e e' b b' : Nat} {ok ok' : Nat → Prop} {W w1 : World} {u v : Value} {xs : List α} {ys : List β} (h : d.R e W b ok u xs) (hv : Kd.N d' e' W b' ok' v ys) (ht : ∀ q, q ∈ e :: d.E → q ≠ e') (hg : W.grownBy w1 v.ownBlock) : d.R e w1 b ok u xs := by
  obtain ⟨_, rows, _, hR, _⟩ := hv
  exact Kd.R_over h hR ht hg
theorem lf4 {w : World} {g t : Nat} {x y z u : Value} (h : w.heap[g]? = some (.cells #[x, y, z, u] t (0, 0))) : (w.cell? ⟨g, 0, none⟩ = some x ∧ w.cell? ⟨g, 1, none⟩ = some y ∧ w.cell? ⟨g, 2, none⟩ = some z ∧ w.cell? ⟨g, 3, none⟩ = some u) ∧ w.frozen? ⟨g, 0, none⟩ = false ∧ w.frozen? ⟨g, 1, none⟩ = false ∧ w.frozen? ⟨g, 2, none⟩ = false ∧ w.frozen? ⟨g, 3, none⟩ = false :=
  ⟨⟨blk_cell h 0, blk_cell h 1, blk_cell h 2, blk_cell h 3⟩, blk_frozen h 0, blk_frozen h 1, blk_frozen h 2, blk_frozen h 3⟩
theorem put4 {w : World} {g t : Nat} {a b c d : Value} (h : w.heap[g]? = some (.cells #[a, b, c, d] t (0, 0))) (a' b' c' d' : Value) : ((((w.setCell ⟨g, 0, none⟩ a').setCell ⟨g, 1, none⟩ b').setCell ⟨g, 2, none⟩ c').setCell ⟨g, 3, none⟩ d').heap[g]? = some (.cells #[a', b', c', d'] t (0, 0)) :=
  blk_put (blk_put (blk_put (blk_put h 0 a' rfl) 1 b' rfl) 2 c' rfl) 3 d' rfl
theorem LentFns.below {W W1 : World} {base : Nat} {v : Value} {l : List S48} (h : LentFns W base v l) (hb : Below W.heap.size W W1) : LentFns W1 base v l := by
  obtain ⟨A, c, rfl, hN⟩ := h
  exact ⟨A, c, rfl, Kd.N_below hN hb⟩
set_option maxHeartbeats 16000000 in
set_option maxRecDepth 100000 in
theorem louverkit_LentModule.calls (A0 A1 A2 A3 : Option Addr) (c0 c1 c2 c3 : Nat) (l0 : List Int) (l1 : List S57) (l2 : List Int) (l3 : List S48) (w : World)
    (hr0 : Kd.C (Kd.int .u64) w A0 l0.length l0) (hr1 : Kd.C k57 w A1 l1.length l1) (hr2 : Kd.C (Kd.int .u64) w A2 l2.length l2) (hr3 : Kd.C k48 w A3 l3.length l3)
    (hs0 : (l0.length + 1) * 8 ≤ 140737488355328) (hs1 : (l1.length + 1) * 16 ≤ 140737488355328) (hs2 : (l2.length + 1) * 8 ≤ 140737488355328) (hs3 : (l3.length + 1) * 96 ≤ 140737488355328)
    (hsf : ∀ x ∈ l3, (x.f1.length + 1) * 8 ≤ 140737488355328 ∧ (x.f2.length + 1) * 8 ≤ 140737488355328 ∧ (x.f5.length + 1) * 16 ≤ 140737488355328) :
    Calls Try.prog 7 #[.agg #[.slice A0 l0.length c0, .slice A1 l1.length c1, .slice A2 l2.length c2, .slice A3 l3.length c3]] w fun e w' => ∃ v0 v1 v2 v3, e = .returned (.agg #[v0, v1, v2, v3]) ∧ LentD (Kd.int .u64) 32 w' w.heap.size v0 l0 7171 ∧
      LentD k57 57 w' w.heap.size v1 l1 ⟨-71, 0⟩ ∧ LentD (Kd.int .u64) 32 w' w.heap.size v2 l2 7171 ∧ LentFns w' w.heap.size v3 l3 ∧ Below w.heap.size w w' := by
  have Zhr0 := Aside0.mk hr0
  have Zhr1 := Aside0.mk hr1
  have Zhr2 := Aside0.mk hr2
  have Zhr3 := Aside0.mk hr3
  have Zhs0 := Aside0.mk hs0
  have Zhs1 := Aside0.mk hs1
  have Zhs2 := Aside0.mk hs2
  have Zhs3 := Aside0.mk hs3
  have Zhsf := Aside0.mk hsf
  clear hr0 hr1 hr2 hr3 hs0 hs1 hs2 hs3 hsf
  have HW0 := Aside0.mk (below_alloc (below_alloc (Below.refl w.heap.size w) (.cells #[.slice A0 l0.length c0, .slice A1 l1.length c1, .slice A2 l2.length c2, .slice A3 l3.length c3] 26)) (.cells #[.slice none 0 0, .slice none 0 0, .slice none 0 0, .slice none 0 0] 26))
  have HGm := Aside0.mk (blk_alloc (heap_alloc_new w (.cells #[.slice A0 l0.length c0, .slice A1 l1.length c1, .slice A2 l2.length c2, .slice A3 l3.length c3] 26)) (.cells #[.slice none 0 0, .slice none 0 0, .slice none 0 0, .slice none 0 0] 26))
  have HGz := Aside0.mk (show ((w.alloc (.cells #[.slice A0 l0.length c0, .slice A1 l1.length c1, .slice A2 l2.length c2, .slice A3 l3.length c3] 26)).alloc (.cells #[.slice none 0 0, .slice none 0 0, .slice none 0 0, .slice none 0 0] 26)).heap[w.heap.size + 1]? = some (.cells #[.slice none 0 0, .slice none 0 0, .slice none 0 0, .slice none 0 0] 26 (0, 0)) by
    have := heap_alloc_new (w.alloc (.cells #[.slice A0 l0.length c0, .slice A1 l1.length c1, .slice A2 l2.length c2, .slice A3 l3.length c3] 26)) (.cells #[.slice none 0 0, .slice none 0 0, .slice none 0 0, .slice none 0 0] 26)
    simpa using this)
  have hsz : ((w.alloc (.cells #[.slice A0 l0.length c0, .slice A1 l1.length c1, .slice A2 l2.length c2, .slice A3 l3.length c3] 26)).alloc (.cells #[.slice none 0 0, .slice none 0 0, .slice none 0 0, .slice none 0 0] 26)).heap.size = w.heap.size + 2 := by simp
  obtain ⟨⟨m0, m1, m2, m3⟩, _⟩ := lf4 HGm.out
  go_enter Try.func7, Try.ntmps7
  obtain ⟨w0, hw0⟩ : ∃ W, ((w.alloc (.cells #[.slice A0 l0.length c0, .slice A1 l1.length c1, .slice A2 l2.length c2, .slice A3 l3.length c3] 26)).alloc (.cells #[.slice none 0 0, .slice none 0 0, .slice none 0 0, .slice none 0 0] 26)) = W := ⟨_, rfl⟩
  have HN0 := Aside0.mk hw0
  rw [hw0] at HW0 HGm HGz hsz
  have HSZ := Aside0.mk hsz
  clear hsz
  clear hw0
  have HB := Aside0.mk (Below.refl w0.heap.size w0)
  go_wp2_with (first | ((with_reducible refine gate_builtin (b := .append) (xs := #[.tmp 7, .tmp 9]) rfl ?_); at_builtin; rw [HN0.out]; refine Kd.R_append_rows k57 (w0 := w0) w0.heap.size rfl (.tmp 7) (.tmp 9) 23 57 (.agg #[.int .i64 0, .int .u64 0]) 16 rfl Try.underlying23 linfoA rfl (by decide) (by omega) (.slice none 0 0) [] l1 _ _ _ (fun k => w0.heap.size ≤ k) (fun _ => False) rfl rfl ?aO ?aR (fun _ _ h => h) (fun _ h => h.elim) (fun _ h => h) ?aB ?aS ?aL ?_; (case aR => exact Kd.C_below Zhr1.out HW0.out); (case aB => exact HB.out); (case aO => exact Kd.R_nil _ _ _ _ _); (case aS => exact Nat.le_refl _); (case aL => have := Zhs1.out; simp only [List.length_nil]; omega); intro v10 w6 ho hb hg hat; rw [List.nil_append] at ho; clear HB HN0; have HB := Aside0.mk hb; have HO := Aside0.mk ho; clear ho hb hg hat) | ((with_reducible refine gate_builtin (b := .append) (xs := #[.tmp 11, .tmp 13]) rfl ?_); at_builtin; refine Kd.R_append k57 (w0 := w0) w0.heap.size rfl (.tmp 11) (.tmp 13) 23 57 (.agg #[.int .i64 0, .int .u64 0]) 16 rfl Try.underlying23 linfoA rfl (by decide) (by omega) v10 l1 (⟨-71, 0⟩ : S57) [.int .i64 (-71), .int .u64 0] (fun k => w0.heap.size ≤ k) (fun _ => False) rfl rfl ?aP (fun _ hk => hk.elim) ?aF ?aO ?aB ?aS ?aL ?_; (case aP => exact ⟨[.int .i64 (-71)], [.int .u64 0], rfl, rfl, rfl⟩); (case aB => exact HB.out); (case aF => exact (fun k hk => Nat.le_trans HB.out.size hk)); (case aO => exact HO.out); (case aS => exact HB.out.size); (case aL => have := Zhs1.out; omega); intro v14 w7 ho hb hg hat; clear HB; have HB := Aside0.mk hb; clear HO; have HO := Aside0.mk ho; clear ho hb hg hat; obtain ⟨Aa, ca, ea⟩ := Kd.R_slice HO.out; subst ea; rw [show (l1 ++ [(⟨-71, 0⟩ : S57)]).length = l1.length + 1 by simp] at HO ⊢))
  clear m0 m1 m2 m3
  go_loopg [4, 5] (l3.length + 1) (fun kq v4 v5 w' => ∃ (i : Nat), v5 = .int .i64 (i : Int) ∧ Aside0 (i + kq = l3.length + 1) ∧ Aside0 (1 ≤ kq) ∧ Aside0 (Kd.N kLF 48 w' w0.heap.size (fun k => w0.heap.size ≤ k) v4 ((l3.take i).map (fun x => (x, true)))) ∧ Aside0 (Kd.R k57 57 w' w0.heap.size (fun k => w0.heap.size ≤ k) (.slice Aa (l1.length + 1) ca) (l1 ++ [(⟨-71, 0⟩ : S57)])) ∧ Aside0 (Below w0.heap.size w0 w'))
  case atStart => exact ⟨0, rfl, ⟨by omega⟩, ⟨by omega⟩, ⟨Kd.N_nil _ _ _ _ _⟩, HO, HB⟩
  case round =>
    clear HO HB
    obtain ⟨i, rfl, HI, HI1, HN, HO, HB⟩ := hrel
    have hlt2 : w.heap.size + 1 < w0.heap.size := by have := HSZ.out; omega
    have hGm := (HB.out.block w.heap.size (by omega)).trans HGm.out
    obtain ⟨⟨m0, m1, m2, m3⟩, _⟩ := lf4 hGm
    clear hlt2
    cases gk with
    | zero => exact absurd HI1.out (by omega)
    | succ k1 =>
      by_cases ci : i < l3.length
      · have cib : decide ((i : Int) < (l3.length : Int)) = true := decide_eq_true (by omega)
        have hii : (i : Int) < (l3.length : Int) := by omega
        have hw2 : wrap64 ((i : Int) + 1) = (i : Int) + 1 := by have := Zhs3.out; unfold wrap64; omega
        obtain ⟨wi, hwi⟩ : ∃ wi : World, wi = wr := ⟨_, rfl⟩
        rw [← hwi] at HN HO HB hGm m0 m1 m2 m3 ⊢
        clear hwi
        obtain ⟨ad, B1, d1, B2, d2, B5, d5, hA3, q0, q1, q2, q3, q4, q5, e1, g1, e2, g2, e5, g5⟩ := at_T48 (Kd.C_below (Kd.C_below Zhr3.out HW0.out) HB.out) (i : Int) (by omega) hii
        subst hA3
        rw [Int.toNat_natCast] at q0 q1 q2 q3 q4 q5
        obtain ⟨x, hx⟩ : ∃ x, rd_T48 l3 (i : Int) = x := ⟨_, rfl⟩
        rw [hx] at q0 q1 q2 q3 q4 q5 g1 g2 g5
        have hxl : l3[i] = x := by rw [← hx]; simp [rd_T48, List.getD_eq_getElem?_getD, ci]
        have hxm : x ∈ l3 := by rw [← hxl]; exact List.getElem_mem ci
        have hz := Zhsf.out x hxm
        have HXL := Aside0.mk hxl
        have G1 := Aside0.mk g1
        have G2 := Aside0.mk g2
        have G5 := Aside0.mk g5
        have HZ := Aside0.mk hz
        clear hx hxl hxm hz g1 g2 g5 e1 e2 e5
        go_wp2_with fail
        refine (louverkit_LentFunction.calls x.f0 x.f3 x.f4 B1 B2 B5 d1 d2 d5 x.f1 x.f2 x.f5 _ G1.out G2.out G5.out HZ.out.1 HZ.out.2.1 HZ.out.2.2).mono ?_
        rintro e wf ⟨v1, v2, v5, rfl, hL1, hL2, hL5, hb⟩
        clear q0 q1 q2 q3 q4 q5
        have hGm2 := blk_below hGm hb
        clear m0 m1 m2 m3
        obtain ⟨⟨m0, m1, m2, m3⟩, _⟩ := lf4 hGm2
        have hba := below_alloc (Below.refl wf.heap.size wf) (.cells #[.int .u64 x.f0, v1, v2, .int .i64 x.f3, .int .i64 x.f4, v5] 48)
        have hbw := below_step hb hba
        have HNw := Aside0.mk (Kd.N_below HN.out hbw)
        have HOw := Aside0.mk (Kd.R_below HO.out hbw)
        have HBw := Aside0.mk (below_step HB.out hbw)
        have HFK := Aside0.mk (lent_fn_FK (n0 := x.f0) (n3 := x.f3) (n4 := x.f4) (hL1.below hba) (hL2.below hba) (hL5.below hba))
        have HSW := Aside0.mk hbw.size
        have HLT := Aside0.mk (Kd.N_lt HN.out)
        have HBS := Aside0.mk HB.out.size
        obtain ⟨s1, t1, rfl⟩ := hL1.slice
        obtain ⟨s2, t2, rfl⟩ := hL2.slice
        obtain ⟨s5, t5, rfl⟩ := hL5.slice
        clear hL1 hL2 hL5 hb hba hbw HN HO HB hGm hGm2
        go_wp2_with (first | ((with_reducible refine gate_builtin (b := .append) (xs := #[.tmp 28, .tmp 30]) rfl ?_); at_builtin; refine Kd.N_append kLF (w0 := w0) w0.heap.size rfl (.tmp 28) (.tmp 30) 24 48 (.agg #[.int .u64 0, .slice none 0 0, .slice none 0 0, .int .i64 0, .int .i64 0, .slice none 0 0]) 96 rfl Try.underlying24 linfoF rfl (by decide) (by omega) u4 ((l3.take i).map (fun x => (x, true))) (x, true) [.int .u64 x.f0, .slice s1 x.f1.length t1, .slice s2 x.f2.length t2, .int .i64 x.f3, .int .i64 x.f4, .slice s5 x.f5.length t5] (fun k => w0.heap.size ≤ k) (fun k => wi.heap.size ≤ k) rfl (by show Value.slice (some ⟨wf.heap.size + 1, 0, none⟩) 1 1 = _; simp) ?aP ?aK ?aF ?aO ?aB ?aS ?aL ?_; (case aP => exact HFK.out); (case aK => exact (fun k hk => ⟨Nat.le_trans HBS.out hk, fun he => by have := HLT.out k he.symm; omega⟩)); (case aF => exact (fun k hk => Nat.le_trans HBw.out.size hk)); (case aO => exact HNw.out); (case aB => exact HBw.out); (case aS => exact HBw.out.size); (case aL => have := Zhs3.out; simp only [List.length_map, List.length_take]; omega); intro v31 w9 ho hb hg hat; have HN := Aside0.mk ho; have HB := Aside0.mk hb; have HO := Aside0.mk (R_overN HOw.out HNw.out (by decide) hg); clear ho hb hg hat))
        go_roundg k1
        case measure => omega
        case rel => exact ⟨i + 1, by simp [hw2], ⟨by have := HI.out; omega⟩, ⟨by have := HI.out; omega⟩, ⟨by rw [List.take_succ_eq_append_getElem ci, HXL.out, List.map_append]; exact HN.out⟩, HO, HB⟩
      · have cib : decide ((i : Int) < (l3.length : Int)) = false := decide_eq_false (by omega)
        obtain rfl : i = l3.length := by have := HI.out; omega
        rw [List.take_length] at HN
        clear HI HI1 ci
        obtain ⟨wi, hwi⟩ : ∃ wi : World, wi = wr := ⟨_, rfl⟩
        rw [← hwi] at HN HO HB hGm m0 m1 m2 m3 ⊢
        clear hwi
        have HGMi := Aside0.mk hGm
        clear hGm
        have hnlt := Kd.N_lt HN.out
        clear hnlt
        go_wp2_with (first | ((with_reducible refine gate_builtin (b := .append) (xs := #[.tmp 32, .tmp 34]) rfl ?_); at_builtin; refine Kd.N_append kLF (w0 := w0) w0.heap.size rfl (.tmp 32) (.tmp 34) 24 48 (.agg #[.int .u64 0, .slice none 0 0, .slice none 0 0, .int .i64 0, .int .i64 0, .slice none 0 0]) 96 rfl Try.underlying24 linfoF rfl (by decide) (by omega) u4 (l3.map (fun x => (x, true))) markFn [.int .u64 0, .slice none 0 0, .slice none 0 0, .int .i64 0, .int .i64 (-71), .slice none 0 0] (fun k => w0.heap.size ≤ k) (fun _ => False) rfl rfl ?aP (fun _ hk => hk.elim) ?aF ?aO ?aB ?aS ?aL ?_; (case aP => exact mark_FK _ _); (case aF => exact (fun k hk => Nat.le_trans HB.out.size hk)); (case aO => exact HN.out); (case aB => exact HB.out); (case aS => exact HB.out.size); (case aL => have := Zhs3.out; simp only [List.length_map]; omega); intro v35 w9 ho hb hg hat; have HNn := Aside0.mk ho; have HBn := Aside0.mk hb; have HOn := Aside0.mk (R_overN HO.out HN.out (by decide) hg); clear ho hb hg hat HN HB HO; have HN := HNn; have HB := HBn; have HO := HOn; clear HNn HBn HOn; obtain ⟨Af, cf, ef⟩ := Kd.N_slice HN.out; subst ef; rw [show (l3.map (fun x => (x, true)) ++ [markFn]).length = l3.length + 1 by simp] at HN ⊢; clear m0 m1 m2 m3))
        have hlt2 : w.heap.size + 1 < w0.heap.size := by have := HSZ.out; omega
        have hGm := (HB.out.block w.heap.size (by omega)).trans HGm.out
        have hGz := (HB.out.block (w.heap.size + 1) hlt2).trans HGz.out
        obtain ⟨⟨m0, m1, m2, m3⟩, _⟩ := lf4 hGm
        obtain ⟨i09, hi09, _, hsz9, _⟩ := info_parts linfoA
        have hcutA := cut_up (P := Try.prog) 23 57 Try.underlying23 hi09 Aa (l1.length + 1) ca (l1.length : Int) (by omega) (by have := (Kd.R_reads' HO.out).2.1; omega)
        rw [Int.toNat_natCast] at hcutA
        clear hi09 hsz9
        obtain ⟨i08, hi08, _, hsz8, _⟩ := info_parts linfoF
        have hcutF := cut_up (P := Try.prog) 24 48 Try.underlying24 hi08 Af (l3.length + 1) cf (l3.length : Int) (by omega) (by have := (Kd.N_reads' HN.out).2.1; omega)
        rw [Int.toNat_natCast] at hcutF
        clear hi08 hsz8
        have HGM := Aside0.mk hGm
        have HGZ := Aside0.mk hGz
        have HL2 := Aside0.mk hlt2
        clear hGm hGz hlt2
        have hbd := (Below.refl w9.heap.size w9)
        refine start_ (n := 18) (S := fun w' => w'.cell? ⟨w.heap.size, 0, none⟩ = some (.slice A0 l0.length c0) ∧ w'.cell? ⟨w.heap.size, 1, none⟩ = some (.slice A1 l1.length c1) ∧ w'.cell? ⟨w.heap.size, 2, none⟩ = some (.slice A2 l2.length c2) ∧ w'.cell? ⟨w.heap.size, 3, none⟩ = some (.slice A3 l3.length c3)) (ds := [17]) #[false, false, false, false, false, false, false, false, false, false, false, false, false, false, false, false, false, false] (by kernel_rfl) rfl rfl ⟨m0, m1, m2, m3⟩ (fun hHeld => ?_)
        refine pure_ (i := 0) (N := some 36) (v := ?_) (a' := ?_) #[true, false, false, false, false, false, false, false, false, false, false, false, false, false, false, false, false, false] rfl rfl (by kernel_rfl) (fun _ _ _ h => h) (Or.inl ⟨by rfl, ?_⟩) ?_ ?_
        rotate_left
        · intro w'
          go_simp
          with_reducible rfl
        rotate_left
        · simp only [Act.put, List.setIfInBounds_toArray, List.set_cons_zero, List.set_cons_succ, i64_w, i32_w]
          rfl
        refine pure_ (i := 3) (N := some 39) (v := ?_) (a' := ?_) #[true, false, false, true, false, false, false, false, false, false, false, false, false, false, false, false, false, false] rfl rfl (by kernel_rfl) (fun _ _ _ h => h) (Or.inl ⟨by rfl, ?_⟩) ?_ ?_
        rotate_left
        · intro w'
          go_simp
          with_reducible rfl
        rotate_left
        · simp only [Act.put, List.setIfInBounds_toArray, List.set_cons_zero, List.set_cons_succ, i64_w, i32_w]
          rfl
        refine pure_ (i := 4) (N := some 40) (v := ?_) (a' := ?_) #[true, false, false, true, true, false, false, false, false, false, false, false, false, false, false, false, false, false] rfl rfl (by kernel_rfl) (fun _ _ _ h => h) (Or.inl ⟨by rfl, ?_⟩) ?_ ?_
        rotate_left
        · intro w'
          go_simp
          with_reducible rfl
        rotate_left
        · simp only [Act.put, List.setIfInBounds_toArray, List.set_cons_zero, List.set_cons_succ, i64_w, i32_w]
          rfl
        refine pure_ (i := 8) (N := some 44) (v := ?_) (a' := ?_) #[true, false, false, true, true, false, false, false, true, false, false, false, false, false, false, false, false, false] rfl rfl (by kernel_rfl) (fun _ _ _ h => h) (Or.inl ⟨by rfl, ?_⟩) ?_ ?_
        rotate_left
        · intro w'
          go_simp
          with_reducible rfl
        rotate_left
        · simp only [Act.put, List.setIfInBounds_toArray, List.set_cons_zero, List.set_cons_succ, i64_w, i32_w]
          rfl
        refine pure_ (i := 11) (N := some 47) (v := ?_) (a' := ?_) #[true, false, false, true, true, false, false, false, true, false, false, true, false, false, false, false, false, false] rfl rfl (by kernel_rfl) (fun _ _ _ h => h) (Or.inl ⟨by rfl, ?_⟩) ?_ ?_
        rotate_left
        · intro w'
          go_simp
          with_reducible rfl
        rotate_left
        · simp only [Act.put, List.setIfInBounds_toArray, List.set_cons_zero, List.set_cons_succ, i64_w, i32_w]
          rfl
        refine pure_ (i := 12) (N := some 48) (v := ?_) (a' := ?_) #[true, false, false, true, true, false, false, false, true, false, false, true, true, false, false, false, false, false] rfl rfl (by kernel_rfl) (fun _ _ _ h => h) (Or.inl ⟨by rfl, ?_⟩) ?_ ?_
        rotate_left
        · intro w'
          go_simp
          with_reducible rfl
        rotate_left
        · simp only [Act.put, List.setIfInBounds_toArray, List.set_cons_zero, List.set_cons_succ, i64_w, i32_w]
          rfl
        refine take_ (i := 1) (N := some 37) (v := ?_) (a' := ?_) #[true, true, false, true, true, false, false, false, true, false, false, true, true, false, false, false, false, false] rfl rfl (by kernel_rfl) (fun _ _ _ h => h) (Or.inl ⟨by rfl, ?_⟩) hHeld ?_ ?_
        rotate_left
        · rintro w' ⟨s0, s1, s2, s3⟩
          go_simp
          with_reducible rfl
        rotate_left
        · simp only [Act.put, List.setIfInBounds_toArray, List.set_cons_zero, List.set_cons_succ, i64_w, i32_w]
          rfl
        refine take_ (i := 5) (N := some 41) (v := ?_) (a' := ?_) #[true, true, false, true, true, true, false, false, true, false, false, true, true, false, false, false, false, false] rfl rfl (by kernel_rfl) (fun _ _ _ h => h) (Or.inl ⟨by rfl, ?_⟩) hHeld ?_ ?_
        rotate_left
        · rintro w' ⟨s0, s1, s2, s3⟩
          go_simp
          with_reducible rfl
        rotate_left
        · simp only [Act.put, List.setIfInBounds_toArray, List.set_cons_zero, List.set_cons_succ, i64_w, i32_w]
          rfl
        refine pure_ (i := 6) (N := some 42) (v := ?_) (a' := ?_) #[true, true, false, true, true, true, true, false, true, false, false, true, true, false, false, false, false, false] rfl rfl (by kernel_rfl) (fun _ _ _ h => h) (Or.inl ⟨by rfl, ?_⟩) ?_ ?_
        rotate_left
        · intro w'
          go_simp
          with_reducible rfl
        rotate_left
        · simp only [Act.put, List.setIfInBounds_toArray, List.set_cons_zero, List.set_cons_succ, i64_w, i32_w]
          rfl
        refine pure_ (i := 7) (N := some 43) (v := ?_) (a' := ?_) #[true, true, false, true, true, true, true, true, true, false, false, true, true, false, false, false, false, false] rfl rfl (by kernel_rfl) (fun _ _ _ h => h) (Or.inl ⟨by rfl, ?_⟩) ?_ ?_
        rotate_left
        · intro w'
          go_simp
          with_reducible rfl
        rotate_left
        · simp only [Act.put, List.setIfInBounds_toArray, List.set_cons_zero, List.set_cons_succ, i64_w, i32_w]
          rfl
        refine take_ (i := 9) (N := some 45) (v := ?_) (a' := ?_) #[true, true, false, true, true, true, true, true, true, true, false, true, true, false, false, false, false, false] rfl rfl (by kernel_rfl) (fun _ _ _ h => h) (Or.inl ⟨by rfl, ?_⟩) hHeld ?_ ?_
        rotate_left
        · rintro w' ⟨s0, s1, s2, s3⟩
          go_simp
          with_reducible rfl
        rotate_left
        · simp only [Act.put, List.setIfInBounds_toArray, List.set_cons_zero, List.set_cons_succ, i64_w, i32_w]
          rfl
        refine take_ (i := 13) (N := some 49) (v := ?_) (a' := ?_) #[true, true, false, true, true, true, true, true, true, true, false, true, true, true, false, false, false, false] rfl rfl (by kernel_rfl) (fun _ _ _ h => h) (Or.inl ⟨by rfl, ?_⟩) hHeld ?_ ?_
        rotate_left
        · rintro w' ⟨s0, s1, s2, s3⟩
          go_simp
          with_reducible rfl
        rotate_left
        · simp only [Act.put, List.setIfInBounds_toArray, List.set_cons_zero, List.set_cons_succ, i64_w, i32_w]
          rfl
        refine pure_ (i := 14) (N := some 50) (v := ?_) (a' := ?_) #[true, true, false, true, true, true, true, true, true, true, false, true, true, true, true, false, false, false] rfl rfl (by kernel_rfl) (fun _ _ _ h => h) (Or.inl ⟨by rfl, ?_⟩) ?_ ?_
        rotate_left
        · intro w'
          go_simp
          with_reducible rfl
        rotate_left
        · simp only [Act.put, List.setIfInBounds_toArray, List.set_cons_zero, List.set_cons_succ, i64_w, i32_w]
          rfl
        refine pure_ (i := 15) (N := some 51) (v := ?_) (a' := ?_) #[true, true, false, true, true, true, true, true, true, true, false, true, true, true, true, true, false, false] rfl rfl (by kernel_rfl) (fun _ _ _ h => h) (Or.inl ⟨by rfl, ?_⟩) ?_ ?_
        rotate_left
        · intro w'
          go_simp
          with_reducible rfl
        rotate_left
        · simp only [Act.put, List.setIfInBounds_toArray, List.set_cons_zero, List.set_cons_succ, i64_w, i32_w]
          rfl
        refine one_ (i := 2) (N := some 38) #[true, true, true, true, true, true, true, true, true, true, false, true, true, true, true, true, false, false] rfl rfl (by kernel_rfl) (by decide) (fun K hK => ?_)
        refine goes_ Try.func35 (by kernel_rfl) rfl #[.slice A0 l0.length c0] (by rfl) rfl rfl (by (try simp only [List.map_toArray, List.map_cons, List.map_nil]); first | done | rfl) ?_
        with_reducible refine (louverkit_LentLabelsD.calls A0 c0 l0 _ (Kd.C_below (Kd.C_below Zhr0.out HW0.out) (below_drew1 HB.out)) Zhs0.out).mono ?_
        rintro e wa ⟨va, rfl, hLa, hb⟩
        refine ⟨_, rfl, ?_⟩
        replace hb : Below w9.heap.size w9 wa := ⟨hb.os, hb.tape, hb.output, hb.size, hb.block⟩
        replace hLa : LentD (Kd.int .u64) 32 wa w9.heap.size va l0 7171 := hLa
        obtain ⟨sa, ta, rfl⟩ := hLa.slice
        have HLa := Aside0.mk hLa
        have HBa := Aside0.mk hb
        clear hLa
        refine hK.out _ _ ⟨(pw_cell_below hb hHeld.1), (pw_cell_below hb hHeld.2.1), (pw_cell_below hb hHeld.2.2.1), (pw_cell_below hb hHeld.2.2.2)⟩ (fun hHeld => ?_)
        clear hK K
        refine norm_ (a' := ?_) ?_ ?_
        rotate_left
        · show Act.put _ (some 38) _ = _
          simp only [Act.put, List.setIfInBounds_toArray, List.set_cons_zero, List.set_cons_succ, i64_w, i32_w]
          rfl
        refine one_ (i := 10) (N := some 46) #[true, true, true, true, true, true, true, true, true, true, true, true, true, true, true, true, false, false] rfl rfl (by kernel_rfl) (by decide) (fun K hK => ?_)
        refine goes_ Try.func35 (by kernel_rfl) rfl #[.slice A2 l2.length c2] (by rfl) rfl rfl (by (try simp only [List.map_toArray, List.map_cons, List.map_nil]); first | done | rfl) ?_
        with_reducible refine (louverkit_LentLabelsD.calls A2 c2 l2 _ (Kd.C_below (Kd.C_below Zhr2.out HW0.out) (below_step HB.out HBa.out)) Zhs2.out).mono ?_
        rintro e wb ⟨vb, rfl, hLb, hb⟩
        refine ⟨_, rfl, ?_⟩
        obtain ⟨sb, tb, rfl⟩ := hLb.slice
        have HLb := Aside0.mk hLb
        have HBb := Aside0.mk hb
        clear hLb
        have HGZb := blk_below (blk_below HGZ.out HBa.out) HBb.out
        obtain ⟨⟨z0, z1, z2, z3⟩, y0, y1, y2, y3⟩ := lf4 HGZb
        refine hK.out _ _ ⟨(pw_cell_below hb hHeld.1), (pw_cell_below hb hHeld.2.1), (pw_cell_below hb hHeld.2.2.1), (pw_cell_below hb hHeld.2.2.2)⟩ (fun hHeld => ?_)
        clear hK K
        refine norm_ (a' := ?_) ?_ ?_
        rotate_left
        · show Act.put _ (some 46) _ = _
          simp only [Act.put, List.setIfInBounds_toArray, List.set_cons_zero, List.set_cons_succ, i64_w, i32_w]
          rfl
        refine pure_ (i := 16) (N := some 52) (v := ?_) (a' := ?_) #[true, true, true, true, true, true, true, true, true, true, true, true, true, true, true, true, true, false] rfl rfl (by kernel_rfl) (fun _ _ _ h => h) (Or.inl ⟨by rfl, ?_⟩) ?_ ?_
        rotate_left
        · intro w'
          go_simp
          with_reducible rfl
        rotate_left
        · simp only [Act.put, List.setIfInBounds_toArray, List.set_cons_zero, List.set_cons_succ, i64_w, i32_w]
          rfl
        refine last_ (i := 17) (N := none) #[true, true, true, true, true, true, true, true, true, true, true, true, true, true, true, true, true, true] rfl rfl (by kernel_rfl) (by decide) (fun K hK => ?_)
        refine skip_ (w1 := ?_) (by rfl) rfl ?_ ?_
        rotate_left
        · go_simp
          rfl
        refine hK.out _ _ ?_
        clear hK K
        refine done_ (by kernel_rfl) ?_
        go_wp2
        refine bodyPost_ret (results_cell_row rfl _ _ (w.heap.size + 1) 26 #[.slice sa l0.length ta, .slice Aa l1.length ca, .slice sb l2.length tb, .slice Af l3.length cf] (0, 0) _ rfl (put4 HGZb _ _ _ _) Try.underlying26 rfl (by kernel_rfl)) rfl ?_
        have hab := below_step HBa.out HBb.out
        have hle := HB.out.size
        have hle0 := HW0.out.size
        have hl2 := HL2.out
        have hla := HBa.out.size
        have hR := Kd.R_far (p := ⟨w.heap.size + 1, 3, none⟩) (Kd.R_far (p := ⟨w.heap.size + 1, 2, none⟩) (Kd.R_far (p := ⟨w.heap.size + 1, 1, none⟩) (Kd.R_far (p := ⟨w.heap.size + 1, 0, none⟩) (Kd.R_below HO.out hab) (fun k hk => show k ≠ w.heap.size + 1 by omega) (.slice sa l0.length ta)) (fun k hk => show k ≠ w.heap.size + 1 by omega) (.slice Aa l1.length ca)) (fun k hk => show k ≠ w.heap.size + 1 by omega) (.slice sb l2.length tb)) (fun k hk => show k ≠ w.heap.size + 1 by omega) (.slice Af l3.length cf)
        have hN := Kd.N_far (p := ⟨w.heap.size + 1, 3, none⟩) (Kd.N_far (p := ⟨w.heap.size + 1, 2, none⟩) (Kd.N_far (p := ⟨w.heap.size + 1, 1, none⟩) (Kd.N_far (p := ⟨w.heap.size + 1, 0, none⟩) (Kd.N_below HN.out hab) (fun k hk => show k ≠ w.heap.size + 1 by omega) (.slice sa l0.length ta)) (fun k hk => show k ≠ w.heap.size + 1 by omega) (.slice Aa l1.length ca)) (fun k hk => show k ≠ w.heap.size + 1 by omega) (.slice sb l2.length tb)) (fun k hk => show k ≠ w.heap.size + 1 by omega) (.slice Af l3.length cf)
        have h0 := (((((HLa.out.below HBb.out).far (p := ⟨w.heap.size + 1, 0, none⟩) (show w.heap.size + 1 < w9.heap.size by omega) (.slice sa l0.length ta)).far (p := ⟨w.heap.size + 1, 1, none⟩) (show w.heap.size + 1 < w9.heap.size by omega) (.slice Aa l1.length ca)).far (p := ⟨w.heap.size + 1, 2, none⟩) (show w.heap.size + 1 < w9.heap.size by omega) (.slice sb l2.length tb)).far (p := ⟨w.heap.size + 1, 3, none⟩) (show w.heap.size + 1 < w9.heap.size by omega) (.slice Af l3.length cf))
        have h2 := ((((HLb.out.far (p := ⟨w.heap.size + 1, 0, none⟩) (show w.heap.size + 1 < wa.heap.size by omega) (.slice sa l0.length ta)).far (p := ⟨w.heap.size + 1, 1, none⟩) (show w.heap.size + 1 < wa.heap.size by omega) (.slice Aa l1.length ca)).far (p := ⟨w.heap.size + 1, 2, none⟩) (show w.heap.size + 1 < wa.heap.size by omega) (.slice sb l2.length tb)).far (p := ⟨w.heap.size + 1, 3, none⟩) (show w.heap.size + 1 < wa.heap.size by omega) (.slice Af l3.length cf))
        have hbz := below_step HW0.out (below_step HB.out hab)
        exact ⟨_, _, _, _, rfl, h0.low (by omega), ⟨Aa, ca, rfl, by rw [show (l1 ++ [(⟨-71, 0⟩ : S57)]).length = l1.length + 1 by simp]; exact Kd.R_mono (Kd.R_lower hR (by omega)) (fun k hk => by omega)⟩, h2.low (by omega), ⟨Af, cf, rfl, Kd.N_mono (Kd.N_lower hN (by omega)) (fun k hk => by omega)⟩, below_set (below_set (below_set (below_set hbz (by omega)) (by omega)) (by omega)) (by omega)⟩
end Go.Proofs.Ytlnccdgclaalbaa.PJ
