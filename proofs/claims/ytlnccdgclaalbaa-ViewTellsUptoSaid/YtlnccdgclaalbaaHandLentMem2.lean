/- LentMemory, KeptRows, KeptMemory by hand. -/
import Derived.Test.YtlnccdgclaalbaaPJx0
import Derived.Test.YtlnccdgclaalbaaHandLentMem
namespace Go.Proofs.Ytlnccdgclaalbaa.PJ
open Go.RowKit Go.Proofs.YtlnccdgclaalbaaW.PrintWords Go.Proofs.YtlnccdgclaalbaaW.PrintLast Go.Proofs.YtlnccdgclaalbaaW.PrintMore
set_option linter.unusedSimpArgs false
set_option linter.unusedVariables false
theorem LentRs.slice {W : World} {base : Nat} {v : Value} {l : List (List Int)} (h : LentRs W base v l) : ∃ A c, v = .slice A l.length c := by
  obtain ⟨A, c, rfl, _⟩ := h
  exact ⟨A, c, rfl⟩
theorem LentRs.far {W : World} {base : Nat} {v : Value} {l : List (List Int)} (h : LentRs W base v l) {p : Addr} (hp : p.block < base) (u : Value) : LentRs (W.setCell p u) base v l := by
  obtain ⟨A, c, rfl, hR⟩ := h
  exact ⟨A, c, rfl, Kd.N_far hR (fun k hk he => by have h1 : base ≤ k := hk; omega) u⟩
theorem LentRs.toC {W : World} {base : Nat} {v : Value} {l : List (List Int)} (h : LentRs W base v l) : ∃ A c, v = .slice A l.length c ∧ l.length + 1 ≤ c ∧ Kd.C kLR W A (l.length + 1) (l.map (fun x => (x, true)) ++ [markRow]) := by
  obtain ⟨A, c, rfl, hN⟩ := h
  obtain ⟨h1, h2, h3⟩ := Kd.N_reads' hN
  rw [show (l.map (fun x => (x, true)) ++ [markRow]).length = l.length + 1 by simp] at h3
  exact ⟨A, c, rfl, by omega, h3⟩
theorem at_LR {w : World} {A : Option Addr} {l : List (List Int)} (h : Kd.C kLR w A (l.length + 1) (l.map (fun x => (x, true)) ++ [markRow])) (i : Nat) (hi : i < l.length) (x : List Int) (hx : l[i] = x) : ∃ ad A1 c1, A = some ad ∧ w.cell? (ad.add i) = some (.slice A1 x.length c1) ∧ LentC (Kd.int .i64) w (.slice A1 x.length c1) x (-7171) := by
  obtain ⟨ad, c, e, _, hK, hc0⟩ := Kd.C_get h markRow (i : Int) (by omega) (by omega)
  rw [Int.toNat_natCast] at hK hc0
  have he : (l.map (fun x => (x, true)) ++ [markRow]).getD i markRow = (x, true) := by
    rw [List.getD_eq_getElem?_getD, List.getElem?_append_left (by simpa using hi)]
    simp [hi, hx]
  rw [he] at hK
  obtain ⟨A1, c1, rfl, l1, g1, m1⟩ := hK
  refine ⟨ad, A1, c1, e, ?_, A1, c1, rfl, (m1 rfl).1, (m1 rfl).2⟩
  have := hc0 0 _ rfl
  have e3 : i * kLR.sz + 0 = i := by show i * 1 + 0 = i; omega
  rw [e3] at this
  exact this
theorem mark_LR {w : World} {A : Option Addr} {l : List (List Int)} (h : Kd.C kLR w A (l.length + 1) (l.map (fun x => (x, true)) ++ [markRow])) : ∃ ad bd c1, A = some ad ∧ w.cell? (ad.add l.length) = some (.slice (some bd) 1 c1) ∧ 1 ≤ c1 ∧ w.cell? bd = some (.int .i64 (-7171)) := by
  obtain ⟨ad, c, e, _, hK, hc0⟩ := Kd.C_get h markRow (l.length : Int) (by omega) (by omega)
  rw [Int.toNat_natCast] at hK hc0
  have he : (l.map (fun x => (x, true)) ++ [markRow]).getD l.length markRow = markRow := by
    rw [List.getD_eq_getElem?_getD, List.getElem?_append_right (by simp)]
    simp
  rw [he] at hK
  obtain ⟨A1, c1, rfl, l1, g1, _⟩ := hK
  have g1' : Kd.C (Kd.int .i64) w A1 1 [-7171] := g1
  obtain ⟨bd, hb, hcell⟩ := Kd.at_int g1' 0 (by omega) (by omega)
  subst hb
  have h0 := hc0 0 _ rfl
  have e3 : l.length * kLR.sz + 0 = l.length := by show l.length * 1 + 0 = l.length; omega
  rw [e3] at h0
  refine ⟨ad, bd, c1, e, h0, l1, ?_⟩
  have h2 : w.cell? (bd.add 0) = some (.int .i64 (rd [-7171] 0)) := hcell
  rw [show bd.add 0 = bd by simp [Addr.add]] at h2
  exact h2
theorem C_LR {w : World} {A : Option Addr} {l : List (List Int)} (h : Kd.C kLR w A (l.length + 1) (l.map (fun x => (x, true)) ++ [markRow])) : Kd.C (Kd.slice 2 (Kd.int .i64)) w A l.length l := by
  refine ⟨rfl, by have := Kd.C_max h; omega, fun hp => ?_⟩
  obtain ⟨ad, e, hc⟩ := h.2.2 (by omega)
  refine ⟨ad, e, fun j p hj => ?_⟩
  have hjl := (List.getElem?_eq_some_iff.1 hj).1
  have hj2 : (l.map (fun x => (x, true)) ++ [markRow])[j]? = some (p, true) := by
    rw [List.getElem?_append_left (by simpa using hjl)]
    simp [hj]
  obtain ⟨c, h1, h2, h3⟩ := hc j _ hj2
  obtain ⟨A1, c1, e1, l1, g1, _⟩ := h2
  exact ⟨c, h1, ⟨A1, c1, e1, l1, g1⟩, h3⟩
theorem put2m {w : World} {g t : Nat} {a b : Value} (h : w.heap[g]? = some (.cells #[a, b] t (0, 0))) (a' b' : Value) : ((w.setCell ⟨g, 0, none⟩ a').setCell ⟨g, 1, none⟩ b').heap[g]? = some (.cells #[a', b'] t (0, 0)) :=
  blk_put (blk_put h 0 a' rfl) 1 b' rfl
theorem lf2 {w : World} {g t : Nat} {x y : Value} (h : w.heap[g]? = some (.cells #[x, y] t (0, 0))) : (w.cell? ⟨g, 0, none⟩ = some x ∧ w.cell? ⟨g, 1, none⟩ = some y) ∧ w.frozen? ⟨g, 0, none⟩ = false ∧ w.frozen? ⟨g, 1, none⟩ = false :=
  ⟨⟨blk_cell h 0, blk_cell h 1⟩, blk_frozen h 0, blk_frozen h 1⟩
/-- A lent memory. -/
def LentMm (w : World) (v : Value) (g : List Int) (r : List (List Int)) : Prop := ∃ B0 d0 B1 d1, v = .agg #[.slice B0 g.length d0, .slice B1 r.length d1] ∧
  (g.length + 1 ≤ d0 ∧ Kd.C (Kd.int .i64) w B0 (g ++ [-7171]).length (g ++ [-7171])) ∧ (r.length + 1 ≤ d1 ∧ Kd.C kLR w B1 (r.length + 1) (r.map (fun x => (x, true)) ++ [markRow]))
theorem LentMm.below {w w' : World} {v : Value} {g : List Int} {r : List (List Int)} (h : LentMm w v g r) (hb : Below w.heap.size w w') : LentMm w' v g r := by
  obtain ⟨B0, d0, B1, d1, e, h0, h1⟩ := h
  exact ⟨B0, d0, B1, d1, e, ⟨h0.1, Kd.C_below h0.2 hb⟩, ⟨h1.1, Kd.C_below h1.2 hb⟩⟩
set_option maxHeartbeats 16000000 in
set_option maxRecDepth 100000 in
theorem lentMemC (A0 A1 : Option Addr) (c0 c1 : Nat) (g : List Int) (r : List (List Int)) (w : World)
    (hr0 : Kd.C (Kd.int .i64) w A0 g.length g) (hr1 : Kd.C (Kd.slice 2 (Kd.int .i64)) w A1 r.length r)
    (hs0 : (g.length + 1) * 8 ≤ 140737488355328) (hs1 : (r.length + 1) * 24 ≤ 140737488355328) (hsf : ∀ x ∈ r, (x.length + 1) * 8 ≤ 140737488355328) :
    Calls Try.prog 8 #[.agg #[.slice A0 g.length c0, .slice A1 r.length c1]] w fun e w' => ∃ v, e = .returned v ∧ LentMm w' v g r ∧ Below w.heap.size w w' := by
  have Zhr0 := Aside0.mk hr0
  have Zhr1 := Aside0.mk hr1
  have Zhs0 := Aside0.mk hs0
  have Zhs1 := Aside0.mk hs1
  have Zhsf := Aside0.mk hsf
  clear hr0 hr1 hs0 hs1 hsf
  have HW0 := Aside0.mk (below_alloc (below_alloc (Below.refl w.heap.size w) (.cells #[.slice A0 g.length c0, .slice A1 r.length c1] 30)) (.cells #[.slice none 0 0, .slice none 0 0] 30))
  have HGm := Aside0.mk (blk_alloc (heap_alloc_new w (.cells #[.slice A0 g.length c0, .slice A1 r.length c1] 30)) (.cells #[.slice none 0 0, .slice none 0 0] 30))
  have HGz := Aside0.mk (show ((w.alloc (.cells #[.slice A0 g.length c0, .slice A1 r.length c1] 30)).alloc (.cells #[.slice none 0 0, .slice none 0 0] 30)).heap[w.heap.size + 1]? = some (.cells #[.slice none 0 0, .slice none 0 0] 30 (0, 0)) by
    have := heap_alloc_new (w.alloc (.cells #[.slice A0 g.length c0, .slice A1 r.length c1] 30)) (.cells #[.slice none 0 0, .slice none 0 0] 30)
    simpa using this)
  have hsz : ((w.alloc (.cells #[.slice A0 g.length c0, .slice A1 r.length c1] 30)).alloc (.cells #[.slice none 0 0, .slice none 0 0] 30)).heap.size = w.heap.size + 2 := by simp
  obtain ⟨⟨m0, m1⟩, _⟩ := lf2 HGm.out
  go_enter Try.func8, Try.ntmps8
  go_wp2_with fail
  obtain ⟨w9, hw0⟩ : ∃ W, ((w.alloc (.cells #[.slice A0 g.length c0, .slice A1 r.length c1] 30)).alloc (.cells #[.slice none 0 0, .slice none 0 0] 30)) = W := ⟨_, rfl⟩
  rw [hw0] at HW0 HGm HGz hsz m0 m1 ⊢
  have HSZ := Aside0.mk hsz
  clear hsz hw0
  refine start_ (n := 8) (S := fun w' => w'.cell? ⟨w.heap.size, 0, none⟩ = some (.slice A0 g.length c0) ∧ w'.cell? ⟨w.heap.size, 1, none⟩ = some (.slice A1 r.length c1)) (ds := [7]) #[false, false, false, false, false, false, false, false] (by kernel_rfl) rfl rfl ⟨m0, m1⟩ (fun hHeld => ?_)
  refine pure_ (i := 0) (N := some 3) (v := ?_) (a' := ?_) #[true, false, false, false, false, false, false, false] rfl rfl (by kernel_rfl) (fun _ _ _ h => h) (Or.inl ⟨by rfl, ?_⟩) ?_ ?_
  rotate_left
  · intro w'
    go_simp
    with_reducible rfl
  rotate_left
  · simp only [Act.put, List.setIfInBounds_toArray, List.set_cons_zero, List.set_cons_succ, i64_w, i32_w]
    rfl
  refine pure_ (i := 3) (N := some 6) (v := ?_) (a' := ?_) #[true, false, false, true, false, false, false, false] rfl rfl (by kernel_rfl) (fun _ _ _ h => h) (Or.inl ⟨by rfl, ?_⟩) ?_ ?_
  rotate_left
  · intro w'
    go_simp
    with_reducible rfl
  rotate_left
  · simp only [Act.put, List.setIfInBounds_toArray, List.set_cons_zero, List.set_cons_succ, i64_w, i32_w]
    rfl
  refine take_ (i := 1) (N := some 4) (v := ?_) (a' := ?_) #[true, true, false, true, false, false, false, false] rfl rfl (by kernel_rfl) (fun _ _ _ h => h) (Or.inl ⟨by rfl, ?_⟩) hHeld ?_ ?_
  rotate_left
  · rintro w' ⟨s0, s1⟩
    go_simp
    with_reducible rfl
  rotate_left
  · simp only [Act.put, List.setIfInBounds_toArray, List.set_cons_zero, List.set_cons_succ, i64_w, i32_w]
    rfl
  refine take_ (i := 4) (N := some 7) (v := ?_) (a' := ?_) #[true, true, false, true, true, false, false, false] rfl rfl (by kernel_rfl) (fun _ _ _ h => h) (Or.inl ⟨by rfl, ?_⟩) hHeld ?_ ?_
  rotate_left
  · rintro w' ⟨s0, s1⟩
    go_simp
    with_reducible rfl
  rotate_left
  · simp only [Act.put, List.setIfInBounds_toArray, List.set_cons_zero, List.set_cons_succ, i64_w, i32_w]
    rfl
  refine one_ (i := 2) (N := some 5) #[true, true, true, true, true, false, false, false] rfl rfl (by kernel_rfl) (by decide) (fun K hK => ?_)
  refine goes_ Try.func24 (by kernel_rfl) rfl #[.slice A0 g.length c0] (by rfl) rfl rfl (by (try simp only [List.map_toArray, List.map_cons, List.map_nil]); first | done | rfl) ?_
  with_reducible refine (louverkit_LentInt64sD.calls A0 c0 g _ (Kd.C_below Zhr0.out (below_drew1 HW0.out)) Zhs0.out).mono ?_
  rintro e wa ⟨va, rfl, hLa, hb⟩
  refine ⟨_, rfl, ?_⟩
  replace hb : Below w9.heap.size w9 wa := ⟨hb.os, hb.tape, hb.output, hb.size, hb.block⟩
  replace hLa : LentD (Kd.int .i64) 2 wa w9.heap.size va g (-7171) := hLa
  obtain ⟨sa, ta, rfl⟩ := hLa.slice
  have HLa := Aside0.mk hLa
  have HBa := Aside0.mk hb
  clear hLa
  refine hK.out _ _ ⟨(pw_cell_below hb hHeld.1), (pw_cell_below hb hHeld.2)⟩ (fun hHeld => ?_)
  clear hK K
  refine norm_ (a' := ?_) ?_ ?_
  rotate_left
  · show Act.put _ (some 5) _ = _
    simp only [Act.put, List.setIfInBounds_toArray, List.set_cons_zero, List.set_cons_succ, i64_w, i32_w]
    rfl
  refine one_ (i := 5) (N := some 8) #[true, true, true, true, true, true, false, false] rfl rfl (by kernel_rfl) (by decide) (fun K hK => ?_)
  refine goes_ Try.func36 (by kernel_rfl) rfl #[.slice A1 r.length c1] (by rfl) rfl rfl (by (try simp only [List.map_toArray, List.map_cons, List.map_nil]); first | done | rfl) ?_
  with_reducible refine (louverkit_LentRows.calls A1 c1 r _ (Kd.C_below Zhr1.out (below_step HW0.out HBa.out)) Zhs1.out Zhsf.out).mono ?_
  rintro e wb ⟨vb, rfl, hLb, hb⟩
  refine ⟨_, rfl, ?_⟩
  obtain ⟨sb, tb, rfl⟩ := hLb.slice
  have HLb := Aside0.mk hLb
  have HBb := Aside0.mk hb
  clear hLb
  have HGZb := blk_below (blk_below HGz.out HBa.out) HBb.out
  obtain ⟨⟨z0, z1⟩, y0, y1⟩ := lf2 HGZb
  refine hK.out _ _ ⟨(pw_cell_below hb hHeld.1), (pw_cell_below hb hHeld.2)⟩ (fun hHeld => ?_)
  clear hK K
  refine norm_ (a' := ?_) ?_ ?_
  rotate_left
  · show Act.put _ (some 8) _ = _
    simp only [Act.put, List.setIfInBounds_toArray, List.set_cons_zero, List.set_cons_succ, i64_w, i32_w]
    rfl
  refine pure_ (i := 6) (N := some 9) (v := ?_) (a' := ?_) #[true, true, true, true, true, true, true, false] rfl rfl (by kernel_rfl) (fun _ _ _ h => h) (Or.inl ⟨by rfl, ?_⟩) ?_ ?_
  rotate_left
  · intro w'
    go_simp
    with_reducible rfl
  rotate_left
  · simp only [Act.put, List.setIfInBounds_toArray, List.set_cons_zero, List.set_cons_succ, i64_w, i32_w]
    rfl
  refine last_ (i := 7) (N := none) #[true, true, true, true, true, true, true, true] rfl rfl (by kernel_rfl) (by decide) (fun K hK => ?_)
  refine skip_ (w1 := ?_) (by rfl) rfl ?_ ?_
  rotate_left
  · go_simp
    rfl
  refine hK.out _ _ ?_
  clear hK K
  refine done_ (by kernel_rfl) ?_
  go_wp2
  refine bodyPost_ret (results_cell_row rfl _ _ (w.heap.size + 1) 30 #[.slice sa g.length ta, .slice sb r.length tb] (0, 0) _ rfl (put2m HGZb _ _) Try.underlying30 rfl (by kernel_rfl)) rfl ?_
  have hab := below_step HBa.out HBb.out
  have hle0 := HW0.out.size
  have hl2 := HSZ.out
  have hla := HBa.out.size
  have h0 := ((HLa.out.below HBb.out).far (p := ⟨w.heap.size + 1, 0, none⟩) (show w.heap.size + 1 < w9.heap.size by omega) (.slice sa g.length ta)).far (p := ⟨w.heap.size + 1, 1, none⟩) (show w.heap.size + 1 < w9.heap.size by omega) (.slice sb r.length tb)
  have h1 := (HLb.out.far (p := ⟨w.heap.size + 1, 0, none⟩) (show w.heap.size + 1 < wa.heap.size by omega) (.slice sa g.length ta)).far (p := ⟨w.heap.size + 1, 1, none⟩) (show w.heap.size + 1 < wa.heap.size by omega) (.slice sb r.length tb)
  have hbz := below_step HW0.out hab
  obtain ⟨B0, d0, e0, p0, q0⟩ := h0.toC
  obtain ⟨B1, d1, e1, p1, q1⟩ := h1.toC
  exact ⟨_, rfl, ⟨B0, d0, B1, d1, by rw [e0, e1], ⟨p0, q0⟩, ⟨p1, q1⟩⟩, below_set (below_set hbz (by omega)) (by omega)⟩
set_option maxHeartbeats 16000000 in
set_option maxRecDepth 100000 in
theorem louverkit_KeptRowsC.calls (B1 : Option Addr) (d1 : Nat) (l : List (List Int)) (A1 : Option Addr) (c1 : Nat) (w : World) (hp : l.length + 1 ≤ d1) (hq : Kd.C kLR w B1 (l.length + 1) (l.map (fun x => (x, true)) ++ [markRow]))
    (hr1 : Kd.C (Kd.slice 2 (Kd.int .i64)) w A1 l.length l) (hc1 : l.length ≤ c1) :
    Calls Try.prog 47 #[.slice B1 l.length d1, .slice A1 l.length c1] w fun e w' => e = .returned (.bool true) ∧ Below w.heap.size w w' := by
  have hm : l.length ≤ 9223372036854775806 := by have := Kd.C_max hq; omega
  have Zhp := Aside0.mk hp
  have Zhq := Aside0.mk hq
  have Zhr1 := Aside0.mk hr1
  have Zhc1 := Aside0.mk hc1
  have Zhm := Aside0.mk hm
  clear hp hq hr1 hc1 hm
  have HB := Aside0.mk (Below.refl w.heap.size w)
  go_enter Try.func47, Try.ntmps47
  go_wp2
  go_loopg [5] (l.length + 1) (fun kq v5 w' => ∃ (i : Nat), v5 = .int .i64 (i : Int) ∧ Aside0 (i + kq = l.length + 1) ∧ Aside0 (1 ≤ kq) ∧ Aside0 (Below w.heap.size w w'))
  case atStart => exact ⟨0, rfl, ⟨by omega⟩, ⟨by omega⟩, HB⟩
  case round =>
    clear HB
    obtain ⟨i, rfl, HI, HI1, HB⟩ := hrel
    cases gk with
    | zero => exact absurd HI1.out (by omega)
    | succ k1 =>
      by_cases ci : i < l.length
      · have cib : decide ((i : Int) < (l.length : Int)) = true := decide_eq_true (by omega)
        have hii : (i : Int) < (l.length : Int) := by omega
        have hw2 : wrap64 ((i : Int) + 1) = (i : Int) + 1 := by have := Zhm.out; unfold wrap64; omega
        obtain ⟨wi, hwi⟩ : ∃ wi : World, wi = wr := ⟨_, rfl⟩
        rw [← hwi] at HB ⊢
        clear hwi
        obtain ⟨ad, E1, e1, hA, x0, o1, g1⟩ := at_L3 (Kd.C_below Zhr1.out HB.out) (i : Int) (by omega) hii
        subst hA
        rw [Int.toNat_natCast] at x0
        obtain ⟨x, hx⟩ : ∃ x, rd_L3 l (i : Int) = x := ⟨_, rfl⟩
        rw [hx] at x0 o1 g1
        have hxl : l[i] = x := by rw [← hx]; simp [rd_L3, List.getD_eq_getElem?_getD, ci]
        obtain ⟨bd, F1, f1, hA, y0, k1_⟩ := at_LR (Kd.C_below Zhq.out HB.out) i ci x hxl
        subst hA
        clear hx hxl
        have G1 := Aside0.mk g1
        have O1 := Aside0.mk o1
        have K1 := Aside0.mk k1_
        clear g1 o1 k1_
        go_wp2_with fail
        refine start_ (n := 10) (S := fun w' => w'.cell? (bd.add i) = some (.slice F1 x.length f1) ∧ w'.cell? (ad.add i) = some (.slice E1 x.length e1)) (ds := []) #[false, false, false, false, false, false, false, false, false, false] (by kernel_rfl) rfl rfl ⟨y0, x0⟩ (fun hHeld => ?_)
        refine pure_ (i := 0) (N := some 18) (v := ?_) (a' := ?_) #[true, false, false, false, false, false, false, false, false, false] rfl rfl (by kernel_rfl) (fun _ _ _ h => h) (Or.inl ⟨by rfl, ?_⟩) ?_ ?_
        rotate_left
        · intro w'
          go_simp
          with_reducible rfl
        rotate_left
        · simp only [Act.put, List.setIfInBounds_toArray, List.set_cons_zero, List.set_cons_succ, i64_w, i32_w]
          rfl
        refine pure_ (i := 1) (N := some 19) (v := ?_) (a' := ?_) #[true, true, false, false, false, false, false, false, false, false] rfl rfl (by kernel_rfl) (fun _ _ _ h => h) (Or.inl ⟨by rfl, ?_⟩) ?_ ?_
        rotate_left
        · intro w'
          go_simp
          with_reducible rfl
        rotate_left
        · simp only [Act.put, List.setIfInBounds_toArray, List.set_cons_zero, List.set_cons_succ, i64_w, i32_w]
          rfl
        refine pure_ (i := 2) (N := some 20) (v := ?_) (a' := ?_) #[true, true, true, false, false, false, false, false, false, false] rfl rfl (by kernel_rfl) (fun _ _ _ h => h) (Or.inl ⟨by rfl, ?_⟩) ?_ ?_
        rotate_left
        · intro w'
          go_simp
          with_reducible rfl
        rotate_left
        · simp only [Act.put, List.setIfInBounds_toArray, List.set_cons_zero, List.set_cons_succ, i64_w, i32_w]
          rfl
        refine pure_ (i := 4) (N := some 22) (v := ?_) (a' := ?_) #[true, true, true, false, true, false, false, false, false, false] rfl rfl (by kernel_rfl) (fun _ _ _ h => h) (Or.inl ⟨by rfl, ?_⟩) ?_ ?_
        rotate_left
        · intro w'
          go_simp
          with_reducible rfl
        rotate_left
        · simp only [Act.put, List.setIfInBounds_toArray, List.set_cons_zero, List.set_cons_succ, i64_w, i32_w]
          rfl
        refine pure_ (i := 5) (N := some 23) (v := ?_) (a' := ?_) #[true, true, true, false, true, true, false, false, false, false] rfl rfl (by kernel_rfl) (fun _ _ _ h => h) (Or.inl ⟨by rfl, ?_⟩) ?_ ?_
        rotate_left
        · intro w'
          go_simp
          with_reducible rfl
        rotate_left
        · simp only [Act.put, List.setIfInBounds_toArray, List.set_cons_zero, List.set_cons_succ, i64_w, i32_w]
          rfl
        refine pure_ (i := 6) (N := some 24) (v := ?_) (a' := ?_) #[true, true, true, false, true, true, true, false, false, false] rfl rfl (by kernel_rfl) (fun _ _ _ h => h) (Or.inl ⟨by rfl, ?_⟩) ?_ ?_
        rotate_left
        · intro w'
          go_simp
          with_reducible rfl
        rotate_left
        · simp only [Act.put, List.setIfInBounds_toArray, List.set_cons_zero, List.set_cons_succ, i64_w, i32_w]
          rfl
        refine take_ (i := 3) (N := some 21) (v := ?_) (a' := ?_) #[true, true, true, true, true, true, true, false, false, false] rfl rfl (by kernel_rfl) (fun _ _ _ h => h) (Or.inl ⟨by rfl, ?_⟩) hHeld ?_ ?_
        rotate_left
        · rintro w' ⟨s0, s1⟩
          go_simp
          with_reducible rfl
        rotate_left
        · simp only [Act.put, List.setIfInBounds_toArray, List.set_cons_zero, List.set_cons_succ, i64_w, i32_w]
          rfl
        refine take_ (i := 7) (N := some 25) (v := ?_) (a' := ?_) #[true, true, true, true, true, true, true, true, false, false] rfl rfl (by kernel_rfl) (fun _ _ _ h => h) (Or.inl ⟨by rfl, ?_⟩) hHeld ?_ ?_
        rotate_left
        · rintro w' ⟨s0, s1⟩
          go_simp
          with_reducible rfl
        rotate_left
        · simp only [Act.put, List.setIfInBounds_toArray, List.set_cons_zero, List.set_cons_succ, i64_w, i32_w]
          rfl
        refine one_ (i := 8) (N := some 26) #[true, true, true, true, true, true, true, true, true, false] rfl rfl (by kernel_rfl) (by decide) (fun K hK => ?_)
        refine goes_ Try.func31 (by kernel_rfl) rfl #[.slice F1 x.length f1, .slice E1 x.length e1] (by rfl) rfl rfl (by (try simp only [List.map_toArray, List.map_cons, List.map_nil]); first | done | rfl) ?_
        with_reducible refine (louverkit_KeptInt64sC.calls (.slice F1 x.length f1) x E1 e1 _ (K1.out.below (below_drew1 (Below.refl _ _))) (Kd.C_drew G1.out) O1.out).mono ?_
        rintro e wk ⟨rfl, hd⟩
        refine ⟨_, rfl, ?_⟩
        have hb := hd.below
        replace hb : Below wi.heap.size wi wk := ⟨hb.os, hb.tape, hb.output, hb.size, hb.block⟩
        have HBk := Aside0.mk hb
        refine hK.out _ _ ⟨(pw_cell_below hb hHeld.1), (pw_cell_below hb hHeld.2)⟩ (fun hHeld => ?_)
        clear hK K
        refine norm_ (a' := ?_) ?_ ?_
        rotate_left
        · show Act.put _ (some 26) _ = _
          simp only [Act.put, List.setIfInBounds_toArray, List.set_cons_zero, List.set_cons_succ, i64_w, i32_w]
          rfl
        refine pure_ (i := 9) (N := some 27) (v := ?_) (a' := ?_) #[true, true, true, true, true, true, true, true, true, true] rfl rfl (by kernel_rfl) (fun _ _ _ h => h) (Or.inl ⟨by rfl, ?_⟩) ?_ ?_
        rotate_left
        · intro w'
          go_simp
          with_reducible rfl
        rotate_left
        · simp only [Act.put, List.setIfInBounds_toArray, List.set_cons_zero, List.set_cons_succ, i64_w, i32_w]
          rfl
        refine done_ (by kernel_rfl) ?_
        clear y0 x0
        go_wp2
        go_roundg k1
        case measure => omega
        case rel => exact ⟨i + 1, by simp [hw2], ⟨by have := HI.out; omega⟩, ⟨by have := HI.out; omega⟩, ⟨below_step HB.out HBk.out⟩⟩
      · have cib : decide ((i : Int) < (l.length : Int)) = false := decide_eq_false (by omega)
        clear HI HI1
        obtain ⟨ad, bd, c9, hA, y0, y1, y2⟩ := mark_LR (Kd.C_below Zhq.out HB.out)
        subst hA
        have hw1 : wrap64 ((l.length : Int) + 1) = (l.length : Int) + 1 := by have := Zhm.out; unfold wrap64; omega
        obtain ⟨i09, hi09, _, hsz9, _⟩ := info_parts linfoS
        have hcutA := cut_up (P := Try.prog) 28 27 Try.underlying28 hi09 (some ad) l.length d1 ((l.length : Int) + 1) (by omega) (by have := Zhp.out; omega)
        clear hi09 hsz9
        go_wp2
        go_ret
        exact ⟨rfl, HB.out⟩
set_option maxHeartbeats 16000000 in
set_option maxRecDepth 100000 in
theorem keptMemC (v : Value) (g : List Int) (r : List (List Int)) (A0 A1 : Option Addr) (c0 c1 : Nat) (w : World) (hL : LentMm w v g r) (hr0 : Kd.C (Kd.int .i64) w A0 g.length g) (hc0 : g.length ≤ c0) (hr1 : Kd.C (Kd.slice 2 (Kd.int .i64)) w A1 r.length r) (hc1 : r.length ≤ c1) :
    Calls Try.prog 18 #[v, .agg #[.slice A0 g.length c0, .slice A1 r.length c1]] w fun e w' => e = .returned (.bool true) ∧ Below w.heap.size w w' := by
  obtain ⟨B0, d0, B1, d1, rfl, ⟨p0, q0⟩, ⟨p1, q1⟩⟩ := hL
  have Zhr0 := Aside0.mk hr0
  have Zhc0 := Aside0.mk hc0
  have Zhr1 := Aside0.mk hr1
  have Zhc1 := Aside0.mk hc1
  have Zp0 := Aside0.mk p0
  have Zq0 := Aside0.mk q0
  have Zp1 := Aside0.mk p1
  have Zq1 := Aside0.mk q1
  clear hr0 hc0 hr1 hc1 p0 q0 p1 q1
  have HB := Aside0.mk (below_alloc (below_alloc (Below.refl w.heap.size w) (.cells #[.slice B0 g.length d0, .slice B1 r.length d1] 30)) (.cells #[.slice A0 g.length c0, .slice A1 r.length c1] 30))
  have HG1 := Aside0.mk (blk_alloc (heap_alloc_new w (.cells #[.slice B0 g.length d0, .slice B1 r.length d1] 30)) (.cells #[.slice A0 g.length c0, .slice A1 r.length c1] 30))
  have HG2 := Aside0.mk (show ((w.alloc (.cells #[.slice B0 g.length d0, .slice B1 r.length d1] 30)).alloc (.cells #[.slice A0 g.length c0, .slice A1 r.length c1] 30)).heap[w.heap.size + 1]? = some (.cells #[.slice A0 g.length c0, .slice A1 r.length c1] 30 (0, 0)) by
    have := heap_alloc_new (w.alloc (.cells #[.slice B0 g.length d0, .slice B1 r.length d1] 30)) (.cells #[.slice A0 g.length c0, .slice A1 r.length c1] 30)
    simpa using this)
  obtain ⟨⟨a0, a1⟩, _⟩ := lf2 HG1.out
  obtain ⟨⟨b0, b1⟩, _⟩ := lf2 HG2.out
  go_enter Try.func18, Try.ntmps18
  go_wp2_with fail
  refine (louverkit_KeptInt64sC.calls (.slice B0 g.length d0) g A0 c0 _ ⟨B0, d0, rfl, Zp0.out, Kd.C_below Zq0.out HB.out⟩ (Kd.C_below Zhr0.out HB.out) Zhc0.out).mono ?_
  rintro e w1 ⟨rfl, hd⟩
  have hb := hd.below
  clear a0 a1 b0 b1
  replace HG1 := Aside0.mk (blk_below HG1.out hb)
  replace HG2 := Aside0.mk (blk_below HG2.out hb)
  replace HB := Aside0.mk (below_step HB.out hb)
  clear hb hd
  obtain ⟨⟨a0, a1⟩, _⟩ := lf2 HG1.out
  obtain ⟨⟨b0, b1⟩, _⟩ := lf2 HG2.out
  go_wp2_with fail
  refine (louverkit_KeptRowsC.calls B1 d1 r A1 c1 _ Zp1.out (Kd.C_below Zq1.out HB.out) (Kd.C_below Zhr1.out HB.out) Zhc1.out).mono ?_
  rintro e w2 ⟨rfl, hb⟩
  replace HB := Aside0.mk (below_step HB.out hb)
  clear hb
  go_wp2
  go_ret
  exact ⟨rfl, HB.out⟩
end Go.Proofs.Ytlnccdgclaalbaa.PJ
