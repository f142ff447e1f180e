/- view.Copy and view.Zero by hand: memories in rows of their own. -/
import Derived.Test.YtlnccdgclaalbaaPJx0
import Derived.Test.YtlnccdgclaalbaaHandMemKd
import Derived.Test.YtlnccdgclaalbaaHandClone64
namespace Go.Proofs.Ytlnccdgclaalbaa.PJ
open Go.RowKit Go.Proofs.YtlnccdgclaalbaaW.PrintWords Go.Proofs.YtlnccdgclaalbaaW.PrintLast Go.Proofs.YtlnccdgclaalbaaW.PrintMore
set_option linter.unusedSimpArgs false
set_option linter.unusedVariables false
theorem slices_Clip_int64.calls (A : Option Addr) (n c : Nat) (hc : n ≤ c) (w : World) : Calls Try.prog 37 #[.slice A n c] w fun e w' => e = .returned (.slice A n n) ∧ w = w' := by
  obtain ⟨i0, hi0, _⟩ := info_parts info2
  have hclip := clip_run (P := Try.prog) 27 2 Try.underlying27 hi0 A n c hc
  clear hi0
  go_enter Try.func37, Try.ntmps37
  go_wp2
  go_ret
  exact ⟨rfl, rfl⟩
theorem blk2 {w : World} {g t : Nat} {x y : Value} (h : w.heap[g]? = some (.cells #[x, y] t (0, 0))) : (w.cell? ⟨g, 0, none⟩ = some x ∧ w.cell? ⟨g, 1, none⟩ = some y) ∧ w.frozen? ⟨g, 0, none⟩ = false ∧ w.frozen? ⟨g, 1, none⟩ = false :=
  ⟨⟨blk_cell h 0, blk_cell h 1⟩, blk_frozen h 0, blk_frozen h 1⟩
theorem blkput2 {w : World} {g t : Nat} {x y : Value} (h : w.heap[g]? = some (.cells #[x, y] t (0, 0))) (x' y' : Value) : ((w.setCell ⟨g, 0, none⟩ x').setCell ⟨g, 1, none⟩ y').heap[g]? = some (.cells #[x', y'] t (0, 0)) := blk_put (blk_put h 0 x' rfl) 1 y' rfl
theorem Mem.far {W : World} {base n : Nat} {V : Nat → Option Addr} {G : Nat → Nat} {xs : Nat → List Int} (h : Mem W base n V G xs) {p t : Nat} {cs : Array Value} (hp : W.heap[p]? = some (.cells cs t (0, 0))) (ht : t ≠ 2) (j : Nat) (u : Value) : Mem (W.setCell ⟨p, j, none⟩ u) base n V G xs :=
  h.step (fun i hi hl hlt => by
    obtain ⟨_, _, tl, h3⟩ := h.at_ i hi hl
    refine Below.heap_setCell W ⟨p, j, none⟩ u _ (fun he => ?_)
    have he' : G i = p := he
    rw [he', hp] at h3
    injection h3 with h3
    injection h3 with _ h3
    exact ht h3)
theorem clone_f {l : List Int} (h : l.length < 17592186044416) : slices_Clone_int64_int64.f l = some l := by
  unfold slices_Clone_int64_int64.f
  rw [if_pos h]
def cutX (i : Nat) (X : Nat → List Int) : Nat → List Int := fun j => if j ≤ i then X j else []
def memX (l0 : List Int) (l1 : List (List Int)) : Nat → List Int := fun j => (l0 :: l1).getD j []
theorem cellH {w : World} {g t i : Nat} {l : List Value} (h : w.heap[g]? = some (.cells l.toArray t (0, 0))) (hi : i < l.length) : w.cell? ⟨g, i, none⟩ = some l[i] := (blk_cell h i).trans (by simp [hi])
theorem cut_step {l1 : List (List Int)} {l0 : List Int} {i : Nat} {V : Nat → Option Addr} {A4 : Option Addr} {x : List Int} (hx : memX l0 l1 (i + 1) = x) :
    (heads l1.length V (cutX i (memX l0 l1))).set i (.slice A4 x.length x.length) = heads l1.length (fun j => if j = i + 1 then A4 else V j) (cutX (i + 1) (memX l0 l1)) := by
  refine heads_set ?_ ?_
  · simp [cutX, hx]
  · intro j hj
    refine ⟨if_neg hj, ?_⟩
    unfold cutX
    by_cases h : j ≤ i
    · rw [if_pos h, if_pos (by omega)]
    · rw [if_neg h, if_neg (by omega)]
theorem heads_nil (n : Nat) (V : Nat → Option Addr) (X : Nat → List Int) (hV : ∀ j, 0 < j → V j = none) : heads n V (cutX 0 X) = List.replicate n (.slice none 0 0) := by
  apply List.ext_getElem?
  intro j
  by_cases hj : j < n
  · rw [heads_at hj, List.getElem?_replicate, if_pos hj, hV (j + 1) (by omega)]
    simp [cutX]
  · rw [List.getElem?_eq_none (by rw [heads_length]; omega), List.getElem?_eq_none (by simp; omega)]
theorem heads_full {n i : Nat} {V : Nat → Option Addr} {X : Nat → List Int} (h : n ≤ i) : heads n V (cutX i X) = heads n V X := by
  apply List.ext_getElem?
  intro j
  by_cases hj : j < n
  · rw [heads_at hj, heads_at hj]
    simp [cutX, show j + 1 ≤ i by omega]
  · rw [List.getElem?_eq_none (by rw [heads_length]; omega), List.getElem?_eq_none (by rw [heads_length]; omega)]
theorem rows_memX (l0 : List Int) (l1 : List (List Int)) : rowsOf l1.length (memX l0 l1) = l1 := by
  apply List.ext_getElem?
  intro j
  by_cases hj : j < l1.length
  · rw [rowsOf_at hj, List.getElem?_eq_getElem hj]
    simp [memX, List.getD_eq_getElem?_getD, List.getElem?_eq_getElem hj]
  · rw [List.getElem?_eq_none (by rw [rowsOf_length]; omega), List.getElem?_eq_none (by omega)]
set_option maxHeartbeats 16000000 in
set_option maxRecDepth 100000 in
theorem view_Copy.out (A0 : Option Addr) (c0 : Nat) (l0 : List Int) (A1 : Option Addr) (c1 : Nat) (l1 : List (List Int)) (w : World) (hr0 : Kd.C (Kd.int .i64) w A0 l0.length l0) (hc0 : l0.length ≤ c0) (hr1 : Kd.C (Kd.slice 2 (Kd.int .i64)) w A1 l1.length l1) (hc1 : l1.length ≤ c1)
    (h0 : l0.length < 17592186044416) (h1 : l1.length ≤ 11728124029610) (h2 : ∀ x ∈ l1, x.length < 17592186044416) :
    Calls Try.prog 10 #[.agg #[.slice A0 l0.length c0, .slice A1 l1.length c1]] w fun e w' => ∃ v0 v1, e = .returned (.agg #[v0, v1]) ∧ MemOut w' w.heap.size v0 v1 l1.length (memX l0 l1) ∧ Below w.heap.size w w' := by
  have Zhr0 := Aside0.mk hr0
  have Zhc0 := Aside0.mk hc0
  have Zhr1 := Aside0.mk hr1
  have Zhc1 := Aside0.mk hc1
  have Zh0 := Aside0.mk h0
  have Zh1 := Aside0.mk h1
  have Zh2 := Aside0.mk h2
  clear hr0 hc0 hr1 hc1 h0 h1 h2
  have HB := Aside0.mk (below_alloc (below_alloc (Below.refl w.heap.size w) (.cells #[.slice A0 l0.length c0, .slice A1 l1.length c1] 30)) (.cells #[.slice none 0 0, .slice none 0 0] 30))
  have HGm := Aside0.mk (blk_alloc (heap_alloc_new w (.cells #[.slice A0 l0.length c0, .slice A1 l1.length c1] 30)) (.cells #[.slice none 0 0, .slice none 0 0] 30))
  have HGz := Aside0.mk (show ((w.alloc (.cells #[.slice A0 l0.length c0, .slice A1 l1.length c1] 30)).alloc (.cells #[.slice none 0 0, .slice none 0 0] 30)).heap[w.heap.size + 1]? = some (.cells #[.slice none 0 0, .slice none 0 0] 30 (0, 0)) by
    have := heap_alloc_new (w.alloc (.cells #[.slice A0 l0.length c0, .slice A1 l1.length c1] 30)) (.cells #[.slice none 0 0, .slice none 0 0] 30)
    simpa using this)
  obtain ⟨⟨m0, m1⟩, _, _⟩ := blk2 HGm.out
  have hmk := print_make_int (P := Try.prog) 28 27 (.slice none 0 0) 24 Try.underlying28 info27 rfl (by decide) (l1.length : Int) (by omega) (by have := Zh1.out; omega)
  rw [Int.toNat_natCast] at hmk
  go_enter Try.func10, Try.ntmps10
  go_wp2_with fail
  obtain ⟨w0, hw0⟩ : ∃ W, ((w.alloc (.cells #[.slice A0 l0.length c0, .slice A1 l1.length c1] 30)).alloc (.cells #[.slice none 0 0, .slice none 0 0] 30)) = W := ⟨_, rfl⟩
  rw [hw0] at HB HGm HGz m0 m1 ⊢
  clear hw0
  refine start_ (n := 11) (S := fun w' => w'.cell? ⟨w.heap.size, 0, none⟩ = some (.slice A0 l0.length c0) ∧ w'.cell? ⟨w.heap.size, 1, none⟩ = some (.slice A1 l1.length c1)) (ds := [10]) #[false, false, false, false, false, false, false, false, false, false, false] (by kernel_rfl) rfl rfl ⟨m0, m1⟩ (fun hHeld => ?_)
  refine pure_ (i := 0) (N := some 6) (v := ?_) (a' := ?_) #[true, false, false, false, false, false, false, false, false, false, false] rfl rfl (by kernel_rfl) (fun _ _ _ h => h) (Or.inl ⟨by rfl, ?_⟩) ?_ ?_
  rotate_left
  · intro w'
    go_simp
    with_reducible rfl
  rotate_left
  · simp only [Act.put, List.setIfInBounds_toArray, List.set_cons_zero, List.set_cons_succ, i64_w, i32_w]
    rfl
  refine pure_ (i := 4) (N := some 10) (v := ?_) (a' := ?_) #[true, false, false, false, true, false, false, false, false, false, false] rfl rfl (by kernel_rfl) (fun _ _ _ h => h) (Or.inl ⟨by rfl, ?_⟩) ?_ ?_
  rotate_left
  · intro w'
    go_simp
    with_reducible rfl
  rotate_left
  · simp only [Act.put, List.setIfInBounds_toArray, List.set_cons_zero, List.set_cons_succ, i64_w, i32_w]
    rfl
  refine take_ (i := 1) (N := some 7) (v := ?_) (a' := ?_) #[true, true, false, false, true, false, false, false, false, false, false] rfl rfl (by kernel_rfl) (fun _ _ _ h => h) (Or.inl ⟨by rfl, ?_⟩) hHeld ?_ ?_
  rotate_left
  · rintro w' ⟨s0, s1⟩
    go_simp
    with_reducible rfl
  rotate_left
  · simp only [Act.put, List.setIfInBounds_toArray, List.set_cons_zero, List.set_cons_succ, i64_w, i32_w]
    rfl
  refine take_ (i := 5) (N := some 11) (v := ?_) (a' := ?_) #[true, true, false, false, true, true, false, false, false, false, false] rfl rfl (by kernel_rfl) (fun _ _ _ h => h) (Or.inl ⟨by rfl, ?_⟩) hHeld ?_ ?_
  rotate_left
  · rintro w' ⟨s0, s1⟩
    go_simp
    with_reducible rfl
  rotate_left
  · simp only [Act.put, List.setIfInBounds_toArray, List.set_cons_zero, List.set_cons_succ, i64_w, i32_w]
    rfl
  refine pure_ (i := 6) (N := some 12) (v := ?_) (a' := ?_) #[true, true, false, false, true, true, true, false, false, false, false] rfl rfl (by kernel_rfl) (fun _ _ _ h => h) (Or.inl ⟨by rfl, ?_⟩) ?_ ?_
  rotate_left
  · intro w'
    go_simp
    with_reducible rfl
  rotate_left
  · simp only [Act.put, List.setIfInBounds_toArray, List.set_cons_zero, List.set_cons_succ, i64_w, i32_w]
    rfl
  refine join_ (σ := Option Addr × Nat × Nat × Nat × Nat) 1 #[true, true, true, true, true, true, true, true, true, true, false] (fun s => [(8, .slice s.1 l0.length s.2.1), (9, .slice s.1 l0.length l0.length), (13, .slice (some ⟨s.2.2.2.1, 0, none⟩) l1.length l1.length), (14, .agg #[.slice s.1 l0.length l0.length, .slice (some ⟨s.2.2.2.1, 0, none⟩) l1.length l1.length]), (3, .pointer (some ⟨s.2.2.2.2, 0, none⟩))]) (fun s w' => Mem w' w.heap.size 1 (fun j => if j = 0 then s.1 else none) (fun j => if j = 0 then s.2.2.1 else 0) (fun j => if j = 0 then l0 else []) ∧ w'.heap[s.2.2.2.1]? = some (.cells (madeCells #[.slice none 0 0] l1.length) 27 (0, 0)) ∧ w'.heap[s.2.2.2.2]? = some (.cells #[.slice none 0 0, .slice none 0 0] 30 (0, 0)) ∧ Below w.heap.size w w' ∧ w0.heap.size ≤ s.2.2.2.1 ∧ w0.heap.size ≤ s.2.2.2.2 ∧ w'.heap[w.heap.size + 1]? = some (.cells #[.slice none 0 0, .slice none 0 0] 30 (0, 0)) ∧ w'.heap[w.heap.size]? = some (.cells #[.slice A0 l0.length c0, .slice A1 l1.length c1] 30 (0, 0))) ?_ ?_
  rotate_left
  · intro hCont
    refine three_ (i := 2) (j := 7) (k := 9) (Ni := some 8) (Nj := some 13) (Nk := some 3) #[true, true, true, false, true, true, true, false, false, false, false] #[true, true, false, false, true, true, true, true, false, false, false] #[true, true, false, false, true, true, true, false, false, true, false] rfl rfl rfl rfl rfl rfl (by kernel_rfl) (by decide) (by decide) (by decide) (fun K hK => ?_) (fun K hK => ?_) (fun K hK => ?_)
    · skip
      refine goes_ Try.func38 (by kernel_rfl) rfl #[.slice A0 l0.length c0] (by rfl) rfl rfl (by simp only [List.map_toArray, List.map_cons, List.map_nil]; rfl) ?_
      with_reducible refine (slices_Clone_int64_int64.calls A0 c0 l0 l0 _ (Kd.C_below Zhr0.out (below_drew1 HB.out)) Zhc0.out (clone_f Zh0.out)).mono ?_
      rintro e w2 ⟨v2, rfl, hR2, hb2⟩
      refine ⟨_, rfl, ?_⟩
      replace hb2 : Below w0.heap.size w0 w2 := ⟨hb2.os, hb2.tape, hb2.output, hb2.size, hb2.block⟩
      replace hR2 : Kd.R (Kd.int .i64) 2 w2 w0.heap.size (fun _ => True) v2 l0 := hR2
      obtain ⟨A2, c2, g2, e2, hM2⟩ := Mem.snoc (W := w0) (base := w.heap.size) (n := 0) (V := fun _ => none) (G := fun _ => 0) (xs := fun _ => []) ⟨fun i hi => by omega, fun i j hi => by omega, fun i hi => by omega, fun i hi => by omega⟩ hb2 (below_size HB.out) hR2
      replace hM2 := hM2 0 rfl
      subst e2
      have hcap2 := (Kd.R_reads' hR2).2.1
      refine hK.out _ _ ⟨(pw_cell_below hb2 m0), (pw_cell_below hb2 m1)⟩ (fun hHeld => ?_)
      clear hK K
      refine norm_ (a' := ?_) ?_ ?_
      rotate_left
      · show Act.put _ (some 8) _ = _
        simp only [Act.put, List.setIfInBounds_toArray, List.set_cons_zero, List.set_cons_succ, i64_w, i32_w]
        rfl
      refine three_ (i := 3) (j := 7) (k := 9) (Ni := some 9) (Nj := some 13) (Nk := some 3) #[true, true, true, true, true, true, true, false, false, false, false] #[true, true, true, false, true, true, true, true, false, false, false] #[true, true, true, false, true, true, true, false, false, true, false] rfl rfl rfl rfl rfl rfl (by kernel_rfl) (by decide) (by decide) (by decide) (fun K hK => ?_) (fun K hK => ?_) (fun K hK => ?_)
      · skip
        refine goes_ Try.func37 (by kernel_rfl) rfl #[.slice A2 l0.length c2] (by rfl) rfl rfl (by simp only [List.map_toArray, List.map_cons, List.map_nil]; rfl) ?_
        with_reducible refine (slices_Clip_int64.calls A2 l0.length c2 hcap2 _).mono ?_
        rintro e w3 ⟨rfl, rfl⟩
        refine ⟨_, rfl, ?_⟩
        refine hK.out _ _ ⟨hHeld.1, hHeld.2⟩ (fun hHeld => ?_)
        clear hK K
        refine norm_ (a' := ?_) ?_ ?_
        rotate_left
        · show Act.put _ (some 9) _ = _
          simp only [Act.put, List.setIfInBounds_toArray, List.set_cons_zero, List.set_cons_succ, i64_w, i32_w]
          rfl
        refine two_ (i := 7) (j := 9) (Ni := some 13) (Nj := some 3) #[true, true, true, true, true, true, true, true, false, false, false] #[true, true, true, true, true, true, true, false, false, true, false] rfl rfl rfl rfl (by kernel_rfl) (by decide) (by decide) (fun K hK => ?_) (fun K hK => ?_)
        · skip
          refine value_ (w1 := ?_) (v := ?_) (by rfl) rfl ?_ ?_
          rotate_left 2
          · go_simp
            constructor
            · rfl
            · rfl
          have hb7 := below_alloc (Below.refl w2.heap.size w2) (.cells (madeCells #[.slice none 0 0] l1.length) 27)
          have hg7 := heap_alloc_new w2 (.cells (madeCells #[.slice none 0 0] l1.length) 27)
          obtain ⟨q7, hq7⟩ : ∃ q, w2.heap.size = q := ⟨_, rfl⟩
          obtain ⟨w7, hw7⟩ : ∃ W, w2.alloc (.cells (madeCells #[.slice none 0 0] l1.length) 27) = W := ⟨_, rfl⟩
          rw [hw7] at hb7 hg7 ⊢
          rw [hq7] at hg7 ⊢
          clear hw7
          have hle7 : w0.heap.size ≤ q7 := by rw [← hq7]; exact below_size ((below_step (Below.refl w0.heap.size w0) hb2))
          refine hK.out _ _ ⟨(pw_cell_below hb7 hHeld.1), (pw_cell_below hb7 hHeld.2)⟩ (fun hHeld => ?_)
          clear hK K
          refine norm_ (a' := ?_) ?_ ?_
          rotate_left
          · show Act.put _ (some 13) _ = _
            simp only [Act.put, List.setIfInBounds_toArray, List.set_cons_zero, List.set_cons_succ, i64_w, i32_w]
            rfl
          refine pure_ (i := 8) (N := some 14) (v := ?_) (a' := ?_) #[true, true, true, true, true, true, true, true, true, false, false] rfl rfl (by kernel_rfl) (fun _ _ _ h => h) (Or.inl ⟨by rfl, ?_⟩) ?_ ?_
          rotate_left
          · intro w'
            go_simp
            with_reducible rfl
          rotate_left
          · simp only [Act.put, List.setIfInBounds_toArray, List.set_cons_zero, List.set_cons_succ, i64_w, i32_w]
            rfl
          refine one_ (i := 9) (N := some 3) #[true, true, true, true, true, true, true, true, true, true, false] rfl rfl (by kernel_rfl) (by decide) (fun K hK => ?_)
          refine value_ (w1 := ?_) (v := ?_) (by rfl) rfl ?_ ?_
          rotate_left 2
          · go_simp
            constructor
            · rfl
            · rfl
          have hb9 := below_alloc (Below.refl w7.heap.size w7) (.cells #[.slice none 0 0, .slice none 0 0] 30)
          have hg9 := heap_alloc_new w7 (.cells #[.slice none 0 0, .slice none 0 0] 30)
          obtain ⟨q9, hq9⟩ : ∃ q, w7.heap.size = q := ⟨_, rfl⟩
          obtain ⟨w9, hw9⟩ : ∃ W, w7.alloc (.cells #[.slice none 0 0, .slice none 0 0] 30) = W := ⟨_, rfl⟩
          rw [hw9] at hb9 hg9 ⊢
          rw [hq9] at hg9 ⊢
          clear hw9
          have hle9 : w0.heap.size ≤ q9 := by rw [← hq9]; exact below_size ((below_step ((below_step (Below.refl w0.heap.size w0) hb2)) hb7))
          refine hK.out _ _ ⟨(pw_cell_below hb9 hHeld.1), (pw_cell_below hb9 hHeld.2)⟩ (fun hHeld => ?_)
          clear hK K
          refine norm_ (a' := ?_) ?_ ?_
          rotate_left
          · show Act.put _ (some 3) _ = _
            simp only [Act.put, List.setIfInBounds_toArray, List.set_cons_zero, List.set_cons_succ, i64_w, i32_w]
            rfl
          exact norm_ (by first | (simp only [putAll, Act.put, List.setIfInBounds_toArray, List.set_cons_zero, List.set_cons_succ]; done) | (simp only [putAll, Act.put, List.setIfInBounds_toArray, List.set_cons_zero, List.set_cons_succ]; rfl)) (hCont (A2, c2, g2, q7, q9) _ ⟨(Mem.below hM2 (below_step hb7 hb9)), (blk_below hg7 hb9), hg9, ((below_step (below_step (below_step HB.out hb2) hb7) hb9)), hle7, hle9, (blk_below HGz.out (below_step (below_step hb2 hb7) hb9)), (blk_below HGm.out (below_step (below_step hb2 hb7) hb9))⟩)
        · skip
          refine value_ (w1 := ?_) (v := ?_) (by rfl) rfl ?_ ?_
          rotate_left 2
          · go_simp
            constructor
            · rfl
            · rfl
          have hb9 := below_alloc (Below.refl w2.heap.size w2) (.cells #[.slice none 0 0, .slice none 0 0] 30)
          have hg9 := heap_alloc_new w2 (.cells #[.slice none 0 0, .slice none 0 0] 30)
          obtain ⟨q9, hq9⟩ : ∃ q, w2.heap.size = q := ⟨_, rfl⟩
          obtain ⟨w9, hw9⟩ : ∃ W, w2.alloc (.cells #[.slice none 0 0, .slice none 0 0] 30) = W := ⟨_, rfl⟩
          rw [hw9] at hb9 hg9 ⊢
          rw [hq9] at hg9 ⊢
          clear hw9
          have hle9 : w0.heap.size ≤ q9 := by rw [← hq9]; exact below_size ((below_step (Below.refl w0.heap.size w0) hb2))
          refine hK.out _ _ ⟨(pw_cell_below hb9 hHeld.1), (pw_cell_below hb9 hHeld.2)⟩ (fun hHeld => ?_)
          clear hK K
          refine norm_ (a' := ?_) ?_ ?_
          rotate_left
          · show Act.put _ (some 3) _ = _
            simp only [Act.put, List.setIfInBounds_toArray, List.set_cons_zero, List.set_cons_succ, i64_w, i32_w]
            rfl
          refine one_ (i := 7) (N := some 13) #[true, true, true, true, true, true, true, true, false, true, false] rfl rfl (by kernel_rfl) (by decide) (fun K hK => ?_)
          refine value_ (w1 := ?_) (v := ?_) (by rfl) rfl ?_ ?_
          rotate_left 2
          · go_simp
            constructor
            · rfl
            · rfl
          have hb7 := below_alloc (Below.refl w9.heap.size w9) (.cells (madeCells #[.slice none 0 0] l1.length) 27)
          have hg7 := heap_alloc_new w9 (.cells (madeCells #[.slice none 0 0] l1.length) 27)
          obtain ⟨q7, hq7⟩ : ∃ q, w9.heap.size = q := ⟨_, rfl⟩
          obtain ⟨w7, hw7⟩ : ∃ W, w9.alloc (.cells (madeCells #[.slice none 0 0] l1.length) 27) = W := ⟨_, rfl⟩
          rw [hw7] at hb7 hg7 ⊢
          rw [hq7] at hg7 ⊢
          clear hw7
          have hle7 : w0.heap.size ≤ q7 := by rw [← hq7]; exact below_size ((below_step ((below_step (Below.refl w0.heap.size w0) hb2)) hb9))
          refine hK.out _ _ ⟨(pw_cell_below hb7 hHeld.1), (pw_cell_below hb7 hHeld.2)⟩ (fun hHeld => ?_)
          clear hK K
          refine norm_ (a' := ?_) ?_ ?_
          rotate_left
          · show Act.put _ (some 13) _ = _
            simp only [Act.put, List.setIfInBounds_toArray, List.set_cons_zero, List.set_cons_succ, i64_w, i32_w]
            rfl
          refine pure_ (i := 8) (N := some 14) (v := ?_) (a' := ?_) #[true, true, true, true, true, true, true, true, true, true, false] rfl rfl (by kernel_rfl) (fun _ _ _ h => h) (Or.inl ⟨by rfl, ?_⟩) ?_ ?_
          rotate_left
          · intro w'
            go_simp
            with_reducible rfl
          rotate_left
          · simp only [Act.put, List.setIfInBounds_toArray, List.set_cons_zero, List.set_cons_succ, i64_w, i32_w]
            rfl
          exact norm_ (by first | (simp only [putAll, Act.put, List.setIfInBounds_toArray, List.set_cons_zero, List.set_cons_succ]; done) | (simp only [putAll, Act.put, List.setIfInBounds_toArray, List.set_cons_zero, List.set_cons_succ]; rfl)) (hCont (A2, c2, g2, q7, q9) _ ⟨(Mem.below hM2 (below_step hb9 hb7)), hg7, (blk_below hg9 hb7), ((below_step (below_step (below_step HB.out hb2) hb9) hb7)), hle7, hle9, (blk_below HGz.out (below_step (below_step hb2 hb9) hb7)), (blk_below HGm.out (below_step (below_step hb2 hb9) hb7))⟩)
      · skip
        refine value_ (w1 := ?_) (v := ?_) (by rfl) rfl ?_ ?_
        rotate_left 2
        · go_simp
          constructor
          · rfl
          · rfl
        have hb7 := below_alloc (Below.refl w2.heap.size w2) (.cells (madeCells #[.slice none 0 0] l1.length) 27)
        have hg7 := heap_alloc_new w2 (.cells (madeCells #[.slice none 0 0] l1.length) 27)
        obtain ⟨q7, hq7⟩ : ∃ q, w2.heap.size = q := ⟨_, rfl⟩
        obtain ⟨w7, hw7⟩ : ∃ W, w2.alloc (.cells (madeCells #[.slice none 0 0] l1.length) 27) = W := ⟨_, rfl⟩
        rw [hw7] at hb7 hg7 ⊢
        rw [hq7] at hg7 ⊢
        clear hw7
        have hle7 : w0.heap.size ≤ q7 := by rw [← hq7]; exact below_size ((below_step (Below.refl w0.heap.size w0) hb2))
        refine hK.out _ _ ⟨(pw_cell_below hb7 hHeld.1), (pw_cell_below hb7 hHeld.2)⟩ (fun hHeld => ?_)
        clear hK K
        refine norm_ (a' := ?_) ?_ ?_
        rotate_left
        · show Act.put _ (some 13) _ = _
          simp only [Act.put, List.setIfInBounds_toArray, List.set_cons_zero, List.set_cons_succ, i64_w, i32_w]
          rfl
        refine two_ (i := 3) (j := 9) (Ni := some 9) (Nj := some 3) #[true, true, true, true, true, true, true, true, false, false, false] #[true, true, true, false, true, true, true, true, false, true, false] rfl rfl rfl rfl (by kernel_rfl) (by decide) (by decide) (fun K hK => ?_) (fun K hK => ?_)
        · skip
          refine goes_ Try.func37 (by kernel_rfl) rfl #[.slice A2 l0.length c2] (by rfl) rfl rfl (by simp only [List.map_toArray, List.map_cons, List.map_nil]; rfl) ?_
          with_reducible refine (slices_Clip_int64.calls A2 l0.length c2 hcap2 _).mono ?_
          rintro e w3 ⟨rfl, rfl⟩
          refine ⟨_, rfl, ?_⟩
          refine hK.out _ _ ⟨hHeld.1, hHeld.2⟩ (fun hHeld => ?_)
          clear hK K
          refine norm_ (a' := ?_) ?_ ?_
          rotate_left
          · show Act.put _ (some 9) _ = _
            simp only [Act.put, List.setIfInBounds_toArray, List.set_cons_zero, List.set_cons_succ, i64_w, i32_w]
            rfl
          refine pure_ (i := 8) (N := some 14) (v := ?_) (a' := ?_) #[true, true, true, true, true, true, true, true, true, false, false] rfl rfl (by kernel_rfl) (fun _ _ _ h => h) (Or.inl ⟨by rfl, ?_⟩) ?_ ?_
          rotate_left
          · intro w'
            go_simp
            with_reducible rfl
          rotate_left
          · simp only [Act.put, List.setIfInBounds_toArray, List.set_cons_zero, List.set_cons_succ, i64_w, i32_w]
            rfl
          refine one_ (i := 9) (N := some 3) #[true, true, true, true, true, true, true, true, true, true, false] rfl rfl (by kernel_rfl) (by decide) (fun K hK => ?_)
          refine value_ (w1 := ?_) (v := ?_) (by rfl) rfl ?_ ?_
          rotate_left 2
          · go_simp
            constructor
            · rfl
            · rfl
          have hb9 := below_alloc (Below.refl w7.heap.size w7) (.cells #[.slice none 0 0, .slice none 0 0] 30)
          have hg9 := heap_alloc_new w7 (.cells #[.slice none 0 0, .slice none 0 0] 30)
          obtain ⟨q9, hq9⟩ : ∃ q, w7.heap.size = q := ⟨_, rfl⟩
          obtain ⟨w9, hw9⟩ : ∃ W, w7.alloc (.cells #[.slice none 0 0, .slice none 0 0] 30) = W := ⟨_, rfl⟩
          rw [hw9] at hb9 hg9 ⊢
          rw [hq9] at hg9 ⊢
          clear hw9
          have hle9 : w0.heap.size ≤ q9 := by rw [← hq9]; exact below_size ((below_step ((below_step (Below.refl w0.heap.size w0) hb2)) hb7))
          refine hK.out _ _ ⟨(pw_cell_below hb9 hHeld.1), (pw_cell_below hb9 hHeld.2)⟩ (fun hHeld => ?_)
          clear hK K
          refine norm_ (a' := ?_) ?_ ?_
          rotate_left
          · show Act.put _ (some 3) _ = _
            simp only [Act.put, List.setIfInBounds_toArray, List.set_cons_zero, List.set_cons_succ, i64_w, i32_w]
            rfl
          exact norm_ (by first | (simp only [putAll, Act.put, List.setIfInBounds_toArray, List.set_cons_zero, List.set_cons_succ]; done) | (simp only [putAll, Act.put, List.setIfInBounds_toArray, List.set_cons_zero, List.set_cons_succ]; rfl)) (hCont (A2, c2, g2, q7, q9) _ ⟨(Mem.below hM2 (below_step hb7 hb9)), (blk_below hg7 hb9), hg9, ((below_step (below_step (below_step HB.out hb2) hb7) hb9)), hle7, hle9, (blk_below HGz.out (below_step (below_step hb2 hb7) hb9)), (blk_below HGm.out (below_step (below_step hb2 hb7) hb9))⟩)
        · skip
          refine value_ (w1 := ?_) (v := ?_) (by rfl) rfl ?_ ?_
          rotate_left 2
          · go_simp
            constructor
            · rfl
            · rfl
          have hb9 := below_alloc (Below.refl w7.heap.size w7) (.cells #[.slice none 0 0, .slice none 0 0] 30)
          have hg9 := heap_alloc_new w7 (.cells #[.slice none 0 0, .slice none 0 0] 30)
          obtain ⟨q9, hq9⟩ : ∃ q, w7.heap.size = q := ⟨_, rfl⟩
          obtain ⟨w9, hw9⟩ : ∃ W, w7.alloc (.cells #[.slice none 0 0, .slice none 0 0] 30) = W := ⟨_, rfl⟩
          rw [hw9] at hb9 hg9 ⊢
          rw [hq9] at hg9 ⊢
          clear hw9
          have hle9 : w0.heap.size ≤ q9 := by rw [← hq9]; exact below_size ((below_step ((below_step (Below.refl w0.heap.size w0) hb2)) hb7))
          refine hK.out _ _ ⟨(pw_cell_below hb9 hHeld.1), (pw_cell_below hb9 hHeld.2)⟩ (fun hHeld => ?_)
          clear hK K
          refine norm_ (a' := ?_) ?_ ?_
          rotate_left
          · show Act.put _ (some 3) _ = _
            simp only [Act.put, List.setIfInBounds_toArray, List.set_cons_zero, List.set_cons_succ, i64_w, i32_w]
            rfl
          refine one_ (i := 3) (N := some 9) #[true, true, true, true, true, true, true, true, false, true, false] rfl rfl (by kernel_rfl) (by decide) (fun K hK => ?_)
          refine goes_ Try.func37 (by kernel_rfl) rfl #[.slice A2 l0.length c2] (by rfl) rfl rfl (by simp only [List.map_toArray, List.map_cons, List.map_nil]; rfl) ?_
          with_reducible refine (slices_Clip_int64.calls A2 l0.length c2 hcap2 _).mono ?_
          rintro e w3 ⟨rfl, rfl⟩
          refine ⟨_, rfl, ?_⟩
          refine hK.out _ _ ⟨hHeld.1, hHeld.2⟩ (fun hHeld => ?_)
          clear hK K
          refine norm_ (a' := ?_) ?_ ?_
          rotate_left
          · show Act.put _ (some 9) _ = _
            simp only [Act.put, List.setIfInBounds_toArray, List.set_cons_zero, List.set_cons_succ, i64_w, i32_w]
            rfl
          refine pure_ (i := 8) (N := some 14) (v := ?_) (a' := ?_) #[true, true, true, true, true, true, true, true, true, true, false] rfl rfl (by kernel_rfl) (fun _ _ _ h => h) (Or.inl ⟨by rfl, ?_⟩) ?_ ?_
          rotate_left
          · intro w'
            go_simp
            with_reducible rfl
          rotate_left
          · simp only [Act.put, List.setIfInBounds_toArray, List.set_cons_zero, List.set_cons_succ, i64_w, i32_w]
            rfl
          exact norm_ (by first | (simp only [putAll, Act.put, List.setIfInBounds_toArray, List.set_cons_zero, List.set_cons_succ]; done) | (simp only [putAll, Act.put, List.setIfInBounds_toArray, List.set_cons_zero, List.set_cons_succ]; rfl)) (hCont (A2, c2, g2, q7, q9) _ ⟨(Mem.below hM2 (below_step hb7 hb9)), (blk_below hg7 hb9), hg9, ((below_step (below_step (below_step HB.out hb2) hb7) hb9)), hle7, hle9, (blk_below HGz.out (below_step (below_step hb2 hb7) hb9)), (blk_below HGm.out (below_step (below_step hb2 hb7) hb9))⟩)
      · skip
        refine value_ (w1 := ?_) (v := ?_) (by rfl) rfl ?_ ?_
        rotate_left 2
        · go_simp
          constructor
          · rfl
          · rfl
        have hb9 := below_alloc (Below.refl w2.heap.size w2) (.cells #[.slice none 0 0, .slice none 0 0] 30)
        have hg9 := heap_alloc_new w2 (.cells #[.slice none 0 0, .slice none 0 0] 30)
        obtain ⟨q9, hq9⟩ : ∃ q, w2.heap.size = q := ⟨_, rfl⟩
        obtain ⟨w9, hw9⟩ : ∃ W, w2.alloc (.cells #[.slice none 0 0, .slice none 0 0] 30) = W := ⟨_, rfl⟩
        rw [hw9] at hb9 hg9 ⊢
        rw [hq9] at hg9 ⊢
        clear hw9
        have hle9 : w0.heap.size ≤ q9 := by rw [← hq9]; exact below_size ((below_step (Below.refl w0.heap.size w0) hb2))
        refine hK.out _ _ ⟨(pw_cell_below hb9 hHeld.1), (pw_cell_below hb9 hHeld.2)⟩ (fun hHeld => ?_)
        clear hK K
        refine norm_ (a' := ?_) ?_ ?_
        rotate_left
        · show Act.put _ (some 3) _ = _
          simp only [Act.put, List.setIfInBounds_toArray, List.set_cons_zero, List.set_cons_succ, i64_w, i32_w]
          rfl
        refine two_ (i := 3) (j := 7) (Ni := some 9) (Nj := some 13) #[true, true, true, true, true, true, true, false, false, true, false] #[true, true, true, false, true, true, true, true, false, true, false] rfl rfl rfl rfl (by kernel_rfl) (by decide) (by decide) (fun K hK => ?_) (fun K hK => ?_)
        · skip
          refine goes_ Try.func37 (by kernel_rfl) rfl #[.slice A2 l0.length c2] (by rfl) rfl rfl (by simp only [List.map_toArray, List.map_cons, List.map_nil]; rfl) ?_
          with_reducible refine (slices_Clip_int64.calls A2 l0.length c2 hcap2 _).mono ?_
          rintro e w3 ⟨rfl, rfl⟩
          refine ⟨_, rfl, ?_⟩
          refine hK.out _ _ ⟨hHeld.1, hHeld.2⟩ (fun hHeld => ?_)
          clear hK K
          refine norm_ (a' := ?_) ?_ ?_
          rotate_left
          · show Act.put _ (some 9) _ = _
            simp only [Act.put, List.setIfInBounds_toArray, List.set_cons_zero, List.set_cons_succ, i64_w, i32_w]
            rfl
          refine one_ (i := 7) (N := some 13) #[true, true, true, true, true, true, true, true, false, true, false] rfl rfl (by kernel_rfl) (by decide) (fun K hK => ?_)
          refine value_ (w1 := ?_) (v := ?_) (by rfl) rfl ?_ ?_
          rotate_left 2
          · go_simp
            constructor
            · rfl
            · rfl
          have hb7 := below_alloc (Below.refl w9.heap.size w9) (.cells (madeCells #[.slice none 0 0] l1.length) 27)
          have hg7 := heap_alloc_new w9 (.cells (madeCells #[.slice none 0 0] l1.length) 27)
          obtain ⟨q7, hq7⟩ : ∃ q, w9.heap.size = q := ⟨_, rfl⟩
          obtain ⟨w7, hw7⟩ : ∃ W, w9.alloc (.cells (madeCells #[.slice none 0 0] l1.length) 27) = W := ⟨_, rfl⟩
          rw [hw7] at hb7 hg7 ⊢
          rw [hq7] at hg7 ⊢
          clear hw7
          have hle7 : w0.heap.size ≤ q7 := by rw [← hq7]; exact below_size ((below_step ((below_step (Below.refl w0.heap.size w0) hb2)) hb9))
          refine hK.out _ _ ⟨(pw_cell_below hb7 hHeld.1), (pw_cell_below hb7 hHeld.2)⟩ (fun hHeld => ?_)
          clear hK K
          refine norm_ (a' := ?_) ?_ ?_
          rotate_left
          · show Act.put _ (some 13) _ = _
            simp only [Act.put, List.setIfInBounds_toArray, List.set_cons_zero, List.set_cons_succ, i64_w, i32_w]
            rfl
          refine pure_ (i := 8) (N := some 14) (v := ?_) (a' := ?_) #[true, true, true, true, true, true, true, true, true, true, false] rfl rfl (by kernel_rfl) (fun _ _ _ h => h) (Or.inl ⟨by rfl, ?_⟩) ?_ ?_
          rotate_left
          · intro w'
            go_simp
            with_reducible rfl
          rotate_left
          · simp only [Act.put, List.setIfInBounds_toArray, List.set_cons_zero, List.set_cons_succ, i64_w, i32_w]
            rfl
          exact norm_ (by first | (simp only [putAll, Act.put, List.setIfInBounds_toArray, List.set_cons_zero, List.set_cons_succ]; done) | (simp only [putAll, Act.put, List.setIfInBounds_toArray, List.set_cons_zero, List.set_cons_succ]; rfl)) (hCont (A2, c2, g2, q7, q9) _ ⟨(Mem.below hM2 (below_step hb9 hb7)), hg7, (blk_below hg9 hb7), ((below_step (below_step (below_step HB.out hb2) hb9) hb7)), hle7, hle9, (blk_below HGz.out (below_step (below_step hb2 hb9) hb7)), (blk_below HGm.out (below_step (below_step hb2 hb9) hb7))⟩)
        · skip
          refine value_ (w1 := ?_) (v := ?_) (by rfl) rfl ?_ ?_
          rotate_left 2
          · go_simp
            constructor
            · rfl
            · rfl
          have hb7 := below_alloc (Below.refl w9.heap.size w9) (.cells (madeCells #[.slice none 0 0] l1.length) 27)
          have hg7 := heap_alloc_new w9 (.cells (madeCells #[.slice none 0 0] l1.length) 27)
          obtain ⟨q7, hq7⟩ : ∃ q, w9.heap.size = q := ⟨_, rfl⟩
          obtain ⟨w7, hw7⟩ : ∃ W, w9.alloc (.cells (madeCells #[.slice none 0 0] l1.length) 27) = W := ⟨_, rfl⟩
          rw [hw7] at hb7 hg7 ⊢
          rw [hq7] at hg7 ⊢
          clear hw7
          have hle7 : w0.heap.size ≤ q7 := by rw [← hq7]; exact below_size ((below_step ((below_step (Below.refl w0.heap.size w0) hb2)) hb9))
          refine hK.out _ _ ⟨(pw_cell_below hb7 hHeld.1), (pw_cell_below hb7 hHeld.2)⟩ (fun hHeld => ?_)
          clear hK K
          refine norm_ (a' := ?_) ?_ ?_
          rotate_left
          · show Act.put _ (some 13) _ = _
            simp only [Act.put, List.setIfInBounds_toArray, List.set_cons_zero, List.set_cons_succ, i64_w, i32_w]
            rfl
          refine one_ (i := 3) (N := some 9) #[true, true, true, true, true, true, true, true, false, true, false] rfl rfl (by kernel_rfl) (by decide) (fun K hK => ?_)
          refine goes_ Try.func37 (by kernel_rfl) rfl #[.slice A2 l0.length c2] (by rfl) rfl rfl (by simp only [List.map_toArray, List.map_cons, List.map_nil]; rfl) ?_
          with_reducible refine (slices_Clip_int64.calls A2 l0.length c2 hcap2 _).mono ?_
          rintro e w3 ⟨rfl, rfl⟩
          refine ⟨_, rfl, ?_⟩
          refine hK.out _ _ ⟨hHeld.1, hHeld.2⟩ (fun hHeld => ?_)
          clear hK K
          refine norm_ (a' := ?_) ?_ ?_
          rotate_left
          · show Act.put _ (some 9) _ = _
            simp only [Act.put, List.setIfInBounds_toArray, List.set_cons_zero, List.set_cons_succ, i64_w, i32_w]
            rfl
          refine pure_ (i := 8) (N := some 14) (v := ?_) (a' := ?_) #[true, true, true, true, true, true, true, true, true, true, false] rfl rfl (by kernel_rfl) (fun _ _ _ h => h) (Or.inl ⟨by rfl, ?_⟩) ?_ ?_
          rotate_left
          · intro w'
            go_simp
            with_reducible rfl
          rotate_left
          · simp only [Act.put, List.setIfInBounds_toArray, List.set_cons_zero, List.set_cons_succ, i64_w, i32_w]
            rfl
          exact norm_ (by first | (simp only [putAll, Act.put, List.setIfInBounds_toArray, List.set_cons_zero, List.set_cons_succ]; done) | (simp only [putAll, Act.put, List.setIfInBounds_toArray, List.set_cons_zero, List.set_cons_succ]; rfl)) (hCont (A2, c2, g2, q7, q9) _ ⟨(Mem.below hM2 (below_step hb9 hb7)), hg7, (blk_below hg9 hb7), ((below_step (below_step (below_step HB.out hb2) hb9) hb7)), hle7, hle9, (blk_below HGz.out (below_step (below_step hb2 hb9) hb7)), (blk_below HGm.out (below_step (below_step hb2 hb9) hb7))⟩)
    · skip
      refine value_ (w1 := ?_) (v := ?_) (by rfl) rfl ?_ ?_
      rotate_left 2
      · go_simp
        constructor
        · rfl
        · rfl
      have hb7 : Below w0.heap.size w0 (w0.alloc (.cells (madeCells #[.slice none 0 0] l1.length) 27)).drew := below_drew1 (below_alloc (Below.refl w0.heap.size w0) (.cells (madeCells #[.slice none 0 0] l1.length) 27))
      have hg7 : (w0.alloc (.cells (madeCells #[.slice none 0 0] l1.length) 27)).drew.heap[w0.heap.size]? = _ := heap_alloc_new w0 (.cells (madeCells #[.slice none 0 0] l1.length) 27)
      obtain ⟨q7, hq7⟩ : ∃ q, w0.heap.size = q := ⟨_, rfl⟩
      obtain ⟨w7, hw7⟩ : ∃ W, (w0.alloc (.cells (madeCells #[.slice none 0 0] l1.length) 27)).drew = W := ⟨_, rfl⟩
      rw [hw7] at hb7 hg7 ⊢
      rw [hq7] at hg7 ⊢
      clear hw7
      have hle7 : w0.heap.size ≤ q7 := by rw [← hq7]; exact below_size (Below.refl w0.heap.size w0)
      refine hK.out _ _ ⟨(pw_cell_below hb7 m0), (pw_cell_below hb7 m1)⟩ (fun hHeld => ?_)
      clear hK K
      refine norm_ (a' := ?_) ?_ ?_
      rotate_left
      · show Act.put _ (some 13) _ = _
        simp only [Act.put, List.setIfInBounds_toArray, List.set_cons_zero, List.set_cons_succ, i64_w, i32_w]
        rfl
      refine two_ (i := 2) (j := 9) (Ni := some 8) (Nj := some 3) #[true, true, true, false, true, true, true, true, false, false, false] #[true, true, false, false, true, true, true, true, false, true, false] rfl rfl rfl rfl (by kernel_rfl) (by decide) (by decide) (fun K hK => ?_) (fun K hK => ?_)
      · skip
        refine goes_ Try.func38 (by kernel_rfl) rfl #[.slice A0 l0.length c0] (by rfl) rfl rfl (by simp only [List.map_toArray, List.map_cons, List.map_nil]; rfl) ?_
        with_reducible refine (slices_Clone_int64_int64.calls A0 c0 l0 l0 _ (Kd.C_below Zhr0.out ((below_step HB.out hb7))) Zhc0.out (clone_f Zh0.out)).mono ?_
        rintro e w2 ⟨v2, rfl, hR2, hb2⟩
        refine ⟨_, rfl, ?_⟩
        obtain ⟨A2, c2, g2, e2, hM2⟩ := Mem.snoc (W := w7) (base := w.heap.size) (n := 0) (V := fun _ => none) (G := fun _ => 0) (xs := fun _ => []) ⟨fun i hi => by omega, fun i j hi => by omega, fun i hi => by omega, fun i hi => by omega⟩ hb2 (below_size (below_step HB.out hb7)) hR2
        replace hM2 := hM2 0 rfl
        subst e2
        have hcap2 := (Kd.R_reads' hR2).2.1
        refine hK.out _ _ ⟨(pw_cell_below hb2 hHeld.1), (pw_cell_below hb2 hHeld.2)⟩ (fun hHeld => ?_)
        clear hK K
        refine norm_ (a' := ?_) ?_ ?_
        rotate_left
        · show Act.put _ (some 8) _ = _
          simp only [Act.put, List.setIfInBounds_toArray, List.set_cons_zero, List.set_cons_succ, i64_w, i32_w]
          rfl
        refine two_ (i := 3) (j := 9) (Ni := some 9) (Nj := some 3) #[true, true, true, true, true, true, true, true, false, false, false] #[true, true, true, false, true, true, true, true, false, true, false] rfl rfl rfl rfl (by kernel_rfl) (by decide) (by decide) (fun K hK => ?_) (fun K hK => ?_)
        · skip
          refine goes_ Try.func37 (by kernel_rfl) rfl #[.slice A2 l0.length c2] (by rfl) rfl rfl (by simp only [List.map_toArray, List.map_cons, List.map_nil]; rfl) ?_
          with_reducible refine (slices_Clip_int64.calls A2 l0.length c2 hcap2 _).mono ?_
          rintro e w3 ⟨rfl, rfl⟩
          refine ⟨_, rfl, ?_⟩
          refine hK.out _ _ ⟨hHeld.1, hHeld.2⟩ (fun hHeld => ?_)
          clear hK K
          refine norm_ (a' := ?_) ?_ ?_
          rotate_left
          · show Act.put _ (some 9) _ = _
            simp only [Act.put, List.setIfInBounds_toArray, List.set_cons_zero, List.set_cons_succ, i64_w, i32_w]
            rfl
          refine pure_ (i := 8) (N := some 14) (v := ?_) (a' := ?_) #[true, true, true, true, true, true, true, true, true, false, false] rfl rfl (by kernel_rfl) (fun _ _ _ h => h) (Or.inl ⟨by rfl, ?_⟩) ?_ ?_
          rotate_left
          · intro w'
            go_simp
            with_reducible rfl
          rotate_left
          · simp only [Act.put, List.setIfInBounds_toArray, List.set_cons_zero, List.set_cons_succ, i64_w, i32_w]
            rfl
          refine one_ (i := 9) (N := some 3) #[true, true, true, true, true, true, true, true, true, true, false] rfl rfl (by kernel_rfl) (by decide) (fun K hK => ?_)
          refine value_ (w1 := ?_) (v := ?_) (by rfl) rfl ?_ ?_
          rotate_left 2
          · go_simp
            constructor
            · rfl
            · rfl
          have hb9 := below_alloc (Below.refl w2.heap.size w2) (.cells #[.slice none 0 0, .slice none 0 0] 30)
          have hg9 := heap_alloc_new w2 (.cells #[.slice none 0 0, .slice none 0 0] 30)
          obtain ⟨q9, hq9⟩ : ∃ q, w2.heap.size = q := ⟨_, rfl⟩
          obtain ⟨w9, hw9⟩ : ∃ W, w2.alloc (.cells #[.slice none 0 0, .slice none 0 0] 30) = W := ⟨_, rfl⟩
          rw [hw9] at hb9 hg9 ⊢
          rw [hq9] at hg9 ⊢
          clear hw9
          have hle9 : w0.heap.size ≤ q9 := by rw [← hq9]; exact below_size ((below_step ((below_step (Below.refl w0.heap.size w0) hb7)) hb2))
          refine hK.out _ _ ⟨(pw_cell_below hb9 hHeld.1), (pw_cell_below hb9 hHeld.2)⟩ (fun hHeld => ?_)
          clear hK K
          refine norm_ (a' := ?_) ?_ ?_
          rotate_left
          · show Act.put _ (some 3) _ = _
            simp only [Act.put, List.setIfInBounds_toArray, List.set_cons_zero, List.set_cons_succ, i64_w, i32_w]
            rfl
          exact norm_ (by first | (simp only [putAll, Act.put, List.setIfInBounds_toArray, List.set_cons_zero, List.set_cons_succ]; done) | (simp only [putAll, Act.put, List.setIfInBounds_toArray, List.set_cons_zero, List.set_cons_succ]; rfl)) (hCont (A2, c2, g2, q7, q9) _ ⟨(Mem.below hM2 hb9), (blk_below hg7 (below_step hb2 hb9)), hg9, ((below_step (below_step (below_step HB.out hb7) hb2) hb9)), hle7, hle9, (blk_below HGz.out (below_step (below_step hb7 hb2) hb9)), (blk_below HGm.out (below_step (below_step hb7 hb2) hb9))⟩)
        · skip
          refine value_ (w1 := ?_) (v := ?_) (by rfl) rfl ?_ ?_
          rotate_left 2
          · go_simp
            constructor
            · rfl
            · rfl
          have hb9 := below_alloc (Below.refl w2.heap.size w2) (.cells #[.slice none 0 0, .slice none 0 0] 30)
          have hg9 := heap_alloc_new w2 (.cells #[.slice none 0 0, .slice none 0 0] 30)
          obtain ⟨q9, hq9⟩ : ∃ q, w2.heap.size = q := ⟨_, rfl⟩
          obtain ⟨w9, hw9⟩ : ∃ W, w2.alloc (.cells #[.slice none 0 0, .slice none 0 0] 30) = W := ⟨_, rfl⟩
          rw [hw9] at hb9 hg9 ⊢
          rw [hq9] at hg9 ⊢
          clear hw9
          have hle9 : w0.heap.size ≤ q9 := by rw [← hq9]; exact below_size ((below_step ((below_step (Below.refl w0.heap.size w0) hb7)) hb2))
          refine hK.out _ _ ⟨(pw_cell_below hb9 hHeld.1), (pw_cell_below hb9 hHeld.2)⟩ (fun hHeld => ?_)
          clear hK K
          refine norm_ (a' := ?_) ?_ ?_
          rotate_left
          · show Act.put _ (some 3) _ = _
            simp only [Act.put, List.setIfInBounds_toArray, List.set_cons_zero, List.set_cons_succ, i64_w, i32_w]
            rfl
          refine one_ (i := 3) (N := some 9) #[true, true, true, true, true, true, true, true, false, true, false] rfl rfl (by kernel_rfl) (by decide) (fun K hK => ?_)
          refine goes_ Try.func37 (by kernel_rfl) rfl #[.slice A2 l0.length c2] (by rfl) rfl rfl (by simp only [List.map_toArray, List.map_cons, List.map_nil]; rfl) ?_
          with_reducible refine (slices_Clip_int64.calls A2 l0.length c2 hcap2 _).mono ?_
          rintro e w3 ⟨rfl, rfl⟩
          refine ⟨_, rfl, ?_⟩
          refine hK.out _ _ ⟨hHeld.1, hHeld.2⟩ (fun hHeld => ?_)
          clear hK K
          refine norm_ (a' := ?_) ?_ ?_
          rotate_left
          · show Act.put _ (some 9) _ = _
            simp only [Act.put, List.setIfInBounds_toArray, List.set_cons_zero, List.set_cons_succ, i64_w, i32_w]
            rfl
          refine pure_ (i := 8) (N := some 14) (v := ?_) (a' := ?_) #[true, true, true, true, true, true, true, true, true, true, false] rfl rfl (by kernel_rfl) (fun _ _ _ h => h) (Or.inl ⟨by rfl, ?_⟩) ?_ ?_
          rotate_left
          · intro w'
            go_simp
            with_reducible rfl
          rotate_left
          · simp only [Act.put, List.setIfInBounds_toArray, List.set_cons_zero, List.set_cons_succ, i64_w, i32_w]
            rfl
          exact norm_ (by first | (simp only [putAll, Act.put, List.setIfInBounds_toArray, List.set_cons_zero, List.set_cons_succ]; done) | (simp only [putAll, Act.put, List.setIfInBounds_toArray, List.set_cons_zero, List.set_cons_succ]; rfl)) (hCont (A2, c2, g2, q7, q9) _ ⟨(Mem.below hM2 hb9), (blk_below hg7 (below_step hb2 hb9)), hg9, ((below_step (below_step (below_step HB.out hb7) hb2) hb9)), hle7, hle9, (blk_below HGz.out (below_step (below_step hb7 hb2) hb9)), (blk_below HGm.out (below_step (below_step hb7 hb2) hb9))⟩)
      · skip
        refine value_ (w1 := ?_) (v := ?_) (by rfl) rfl ?_ ?_
        rotate_left 2
        · go_simp
          constructor
          · rfl
          · rfl
        have hb9 := below_alloc (Below.refl w7.heap.size w7) (.cells #[.slice none 0 0, .slice none 0 0] 30)
        have hg9 := heap_alloc_new w7 (.cells #[.slice none 0 0, .slice none 0 0] 30)
        obtain ⟨q9, hq9⟩ : ∃ q, w7.heap.size = q := ⟨_, rfl⟩
        obtain ⟨w9, hw9⟩ : ∃ W, w7.alloc (.cells #[.slice none 0 0, .slice none 0 0] 30) = W := ⟨_, rfl⟩
        rw [hw9] at hb9 hg9 ⊢
        rw [hq9] at hg9 ⊢
        clear hw9
        have hle9 : w0.heap.size ≤ q9 := by rw [← hq9]; exact below_size ((below_step (Below.refl w0.heap.size w0) hb7))
        refine hK.out _ _ ⟨(pw_cell_below hb9 hHeld.1), (pw_cell_below hb9 hHeld.2)⟩ (fun hHeld => ?_)
        clear hK K
        refine norm_ (a' := ?_) ?_ ?_
        rotate_left
        · show Act.put _ (some 3) _ = _
          simp only [Act.put, List.setIfInBounds_toArray, List.set_cons_zero, List.set_cons_succ, i64_w, i32_w]
          rfl
        refine one_ (i := 2) (N := some 8) #[true, true, true, false, true, true, true, true, false, true, false] rfl rfl (by kernel_rfl) (by decide) (fun K hK => ?_)
        refine goes_ Try.func38 (by kernel_rfl) rfl #[.slice A0 l0.length c0] (by rfl) rfl rfl (by simp only [List.map_toArray, List.map_cons, List.map_nil]; rfl) ?_
        with_reducible refine (slices_Clone_int64_int64.calls A0 c0 l0 l0 _ (Kd.C_below Zhr0.out ((below_step (below_step HB.out hb7) hb9))) Zhc0.out (clone_f Zh0.out)).mono ?_
        rintro e w2 ⟨v2, rfl, hR2, hb2⟩
        refine ⟨_, rfl, ?_⟩
        obtain ⟨A2, c2, g2, e2, hM2⟩ := Mem.snoc (W := w9) (base := w.heap.size) (n := 0) (V := fun _ => none) (G := fun _ => 0) (xs := fun _ => []) ⟨fun i hi => by omega, fun i j hi => by omega, fun i hi => by omega, fun i hi => by omega⟩ hb2 (below_size (below_step (below_step HB.out hb7) hb9)) hR2
        replace hM2 := hM2 0 rfl
        subst e2
        have hcap2 := (Kd.R_reads' hR2).2.1
        refine hK.out _ _ ⟨(pw_cell_below hb2 hHeld.1), (pw_cell_below hb2 hHeld.2)⟩ (fun hHeld => ?_)
        clear hK K
        refine norm_ (a' := ?_) ?_ ?_
        rotate_left
        · show Act.put _ (some 8) _ = _
          simp only [Act.put, List.setIfInBounds_toArray, List.set_cons_zero, List.set_cons_succ, i64_w, i32_w]
          rfl
        refine one_ (i := 3) (N := some 9) #[true, true, true, true, true, true, true, true, false, true, false] rfl rfl (by kernel_rfl) (by decide) (fun K hK => ?_)
        refine goes_ Try.func37 (by kernel_rfl) rfl #[.slice A2 l0.length c2] (by rfl) rfl rfl (by simp only [List.map_toArray, List.map_cons, List.map_nil]; rfl) ?_
        with_reducible refine (slices_Clip_int64.calls A2 l0.length c2 hcap2 _).mono ?_
        rintro e w3 ⟨rfl, rfl⟩
        refine ⟨_, rfl, ?_⟩
        refine hK.out _ _ ⟨hHeld.1, hHeld.2⟩ (fun hHeld => ?_)
        clear hK K
        refine norm_ (a' := ?_) ?_ ?_
        rotate_left
        · show Act.put _ (some 9) _ = _
          simp only [Act.put, List.setIfInBounds_toArray, List.set_cons_zero, List.set_cons_succ, i64_w, i32_w]
          rfl
        refine pure_ (i := 8) (N := some 14) (v := ?_) (a' := ?_) #[true, true, true, true, true, true, true, true, true, true, false] rfl rfl (by kernel_rfl) (fun _ _ _ h => h) (Or.inl ⟨by rfl, ?_⟩) ?_ ?_
        rotate_left
        · intro w'
          go_simp
          with_reducible rfl
        rotate_left
        · simp only [Act.put, List.setIfInBounds_toArray, List.set_cons_zero, List.set_cons_succ, i64_w, i32_w]
          rfl
        exact norm_ (by first | (simp only [putAll, Act.put, List.setIfInBounds_toArray, List.set_cons_zero, List.set_cons_succ]; done) | (simp only [putAll, Act.put, List.setIfInBounds_toArray, List.set_cons_zero, List.set_cons_succ]; rfl)) (hCont (A2, c2, g2, q7, q9) _ ⟨hM2, (blk_below hg7 (below_step hb9 hb2)), (blk_below hg9 hb2), ((below_step (below_step (below_step HB.out hb7) hb9) hb2)), hle7, hle9, (blk_below HGz.out (below_step (below_step hb7 hb9) hb2)), (blk_below HGm.out (below_step (below_step hb7 hb9) hb2))⟩)
    · skip
      refine value_ (w1 := ?_) (v := ?_) (by rfl) rfl ?_ ?_
      rotate_left 2
      · go_simp
        constructor
        · rfl
        · rfl
      have hb9 : Below w0.heap.size w0 (w0.alloc (.cells #[.slice none 0 0, .slice none 0 0] 30)).drew := below_drew1 (below_alloc (Below.refl w0.heap.size w0) (.cells #[.slice none 0 0, .slice none 0 0] 30))
      have hg9 : (w0.alloc (.cells #[.slice none 0 0, .slice none 0 0] 30)).drew.heap[w0.heap.size]? = _ := heap_alloc_new w0 (.cells #[.slice none 0 0, .slice none 0 0] 30)
      obtain ⟨q9, hq9⟩ : ∃ q, w0.heap.size = q := ⟨_, rfl⟩
      obtain ⟨w9, hw9⟩ : ∃ W, (w0.alloc (.cells #[.slice none 0 0, .slice none 0 0] 30)).drew = W := ⟨_, rfl⟩
      rw [hw9] at hb9 hg9 ⊢
      rw [hq9] at hg9 ⊢
      clear hw9
      have hle9 : w0.heap.size ≤ q9 := by rw [← hq9]; exact below_size (Below.refl w0.heap.size w0)
      refine hK.out _ _ ⟨(pw_cell_below hb9 m0), (pw_cell_below hb9 m1)⟩ (fun hHeld => ?_)
      clear hK K
      refine norm_ (a' := ?_) ?_ ?_
      rotate_left
      · show Act.put _ (some 3) _ = _
        simp only [Act.put, List.setIfInBounds_toArray, List.set_cons_zero, List.set_cons_succ, i64_w, i32_w]
        rfl
      refine two_ (i := 2) (j := 7) (Ni := some 8) (Nj := some 13) #[true, true, true, false, true, true, true, false, false, true, false] #[true, true, false, false, true, true, true, true, false, true, false] rfl rfl rfl rfl (by kernel_rfl) (by decide) (by decide) (fun K hK => ?_) (fun K hK => ?_)
      · skip
        refine goes_ Try.func38 (by kernel_rfl) rfl #[.slice A0 l0.length c0] (by rfl) rfl rfl (by simp only [List.map_toArray, List.map_cons, List.map_nil]; rfl) ?_
        with_reducible refine (slices_Clone_int64_int64.calls A0 c0 l0 l0 _ (Kd.C_below Zhr0.out ((below_step HB.out hb9))) Zhc0.out (clone_f Zh0.out)).mono ?_
        rintro e w2 ⟨v2, rfl, hR2, hb2⟩
        refine ⟨_, rfl, ?_⟩
        obtain ⟨A2, c2, g2, e2, hM2⟩ := Mem.snoc (W := w9) (base := w.heap.size) (n := 0) (V := fun _ => none) (G := fun _ => 0) (xs := fun _ => []) ⟨fun i hi => by omega, fun i j hi => by omega, fun i hi => by omega, fun i hi => by omega⟩ hb2 (below_size (below_step HB.out hb9)) hR2
        replace hM2 := hM2 0 rfl
        subst e2
        have hcap2 := (Kd.R_reads' hR2).2.1
        refine hK.out _ _ ⟨(pw_cell_below hb2 hHeld.1), (pw_cell_below hb2 hHeld.2)⟩ (fun hHeld => ?_)
        clear hK K
        refine norm_ (a' := ?_) ?_ ?_
        rotate_left
        · show Act.put _ (some 8) _ = _
          simp only [Act.put, List.setIfInBounds_toArray, List.set_cons_zero, List.set_cons_succ, i64_w, i32_w]
          rfl
        refine two_ (i := 3) (j := 7) (Ni := some 9) (Nj := some 13) #[true, true, true, true, true, true, true, false, false, true, false] #[true, true, true, false, true, true, true, true, false, true, false] rfl rfl rfl rfl (by kernel_rfl) (by decide) (by decide) (fun K hK => ?_) (fun K hK => ?_)
        · skip
          refine goes_ Try.func37 (by kernel_rfl) rfl #[.slice A2 l0.length c2] (by rfl) rfl rfl (by simp only [List.map_toArray, List.map_cons, List.map_nil]; rfl) ?_
          with_reducible refine (slices_Clip_int64.calls A2 l0.length c2 hcap2 _).mono ?_
          rintro e w3 ⟨rfl, rfl⟩
          refine ⟨_, rfl, ?_⟩
          refine hK.out _ _ ⟨hHeld.1, hHeld.2⟩ (fun hHeld => ?_)
          clear hK K
          refine norm_ (a' := ?_) ?_ ?_
          rotate_left
          · show Act.put _ (some 9) _ = _
            simp only [Act.put, List.setIfInBounds_toArray, List.set_cons_zero, List.set_cons_succ, i64_w, i32_w]
            rfl
          refine one_ (i := 7) (N := some 13) #[true, true, true, true, true, true, true, true, false, true, false] rfl rfl (by kernel_rfl) (by decide) (fun K hK => ?_)
          refine value_ (w1 := ?_) (v := ?_) (by rfl) rfl ?_ ?_
          rotate_left 2
          · go_simp
            constructor
            · rfl
            · rfl
          have hb7 := below_alloc (Below.refl w2.heap.size w2) (.cells (madeCells #[.slice none 0 0] l1.length) 27)
          have hg7 := heap_alloc_new w2 (.cells (madeCells #[.slice none 0 0] l1.length) 27)
          obtain ⟨q7, hq7⟩ : ∃ q, w2.heap.size = q := ⟨_, rfl⟩
          obtain ⟨w7, hw7⟩ : ∃ W, w2.alloc (.cells (madeCells #[.slice none 0 0] l1.length) 27) = W := ⟨_, rfl⟩
          rw [hw7] at hb7 hg7 ⊢
          rw [hq7] at hg7 ⊢
          clear hw7
          have hle7 : w0.heap.size ≤ q7 := by rw [← hq7]; exact below_size ((below_step ((below_step (Below.refl w0.heap.size w0) hb9)) hb2))
          refine hK.out _ _ ⟨(pw_cell_below hb7 hHeld.1), (pw_cell_below hb7 hHeld.2)⟩ (fun hHeld => ?_)
          clear hK K
          refine norm_ (a' := ?_) ?_ ?_
          rotate_left
          · show Act.put _ (some 13) _ = _
            simp only [Act.put, List.setIfInBounds_toArray, List.set_cons_zero, List.set_cons_succ, i64_w, i32_w]
            rfl
          refine pure_ (i := 8) (N := some 14) (v := ?_) (a' := ?_) #[true, true, true, true, true, true, true, true, true, true, false] rfl rfl (by kernel_rfl) (fun _ _ _ h => h) (Or.inl ⟨by rfl, ?_⟩) ?_ ?_
          rotate_left
          · intro w'
            go_simp
            with_reducible rfl
          rotate_left
          · simp only [Act.put, List.setIfInBounds_toArray, List.set_cons_zero, List.set_cons_succ, i64_w, i32_w]
            rfl
          exact norm_ (by first | (simp only [putAll, Act.put, List.setIfInBounds_toArray, List.set_cons_zero, List.set_cons_succ]; done) | (simp only [putAll, Act.put, List.setIfInBounds_toArray, List.set_cons_zero, List.set_cons_succ]; rfl)) (hCont (A2, c2, g2, q7, q9) _ ⟨(Mem.below hM2 hb7), hg7, (blk_below hg9 (below_step hb2 hb7)), ((below_step (below_step (below_step HB.out hb9) hb2) hb7)), hle7, hle9, (blk_below HGz.out (below_step (below_step hb9 hb2) hb7)), (blk_below HGm.out (below_step (below_step hb9 hb2) hb7))⟩)
        · skip
          refine value_ (w1 := ?_) (v := ?_) (by rfl) rfl ?_ ?_
          rotate_left 2
          · go_simp
            constructor
            · rfl
            · rfl
          have hb7 := below_alloc (Below.refl w2.heap.size w2) (.cells (madeCells #[.slice none 0 0] l1.length) 27)
          have hg7 := heap_alloc_new w2 (.cells (madeCells #[.slice none 0 0] l1.length) 27)
          obtain ⟨q7, hq7⟩ : ∃ q, w2.heap.size = q := ⟨_, rfl⟩
          obtain ⟨w7, hw7⟩ : ∃ W, w2.alloc (.cells (madeCells #[.slice none 0 0] l1.length) 27) = W := ⟨_, rfl⟩
          rw [hw7] at hb7 hg7 ⊢
          rw [hq7] at hg7 ⊢
          clear hw7
          have hle7 : w0.heap.size ≤ q7 := by rw [← hq7]; exact below_size ((below_step ((below_step (Below.refl w0.heap.size w0) hb9)) hb2))
          refine hK.out _ _ ⟨(pw_cell_below hb7 hHeld.1), (pw_cell_below hb7 hHeld.2)⟩ (fun hHeld => ?_)
          clear hK K
          refine norm_ (a' := ?_) ?_ ?_
          rotate_left
          · show Act.put _ (some 13) _ = _
            simp only [Act.put, List.setIfInBounds_toArray, List.set_cons_zero, List.set_cons_succ, i64_w, i32_w]
            rfl
          refine one_ (i := 3) (N := some 9) #[true, true, true, true, true, true, true, true, false, true, false] rfl rfl (by kernel_rfl) (by decide) (fun K hK => ?_)
          refine goes_ Try.func37 (by kernel_rfl) rfl #[.slice A2 l0.length c2] (by rfl) rfl rfl (by simp only [List.map_toArray, List.map_cons, List.map_nil]; rfl) ?_
          with_reducible refine (slices_Clip_int64.calls A2 l0.length c2 hcap2 _).mono ?_
          rintro e w3 ⟨rfl, rfl⟩
          refine ⟨_, rfl, ?_⟩
          refine hK.out _ _ ⟨hHeld.1, hHeld.2⟩ (fun hHeld => ?_)
          clear hK K
          refine norm_ (a' := ?_) ?_ ?_
          rotate_left
          · show Act.put _ (some 9) _ = _
            simp only [Act.put, List.setIfInBounds_toArray, List.set_cons_zero, List.set_cons_succ, i64_w, i32_w]
            rfl
          refine pure_ (i := 8) (N := some 14) (v := ?_) (a' := ?_) #[true, true, true, true, true, true, true, true, true, true, false] rfl rfl (by kernel_rfl) (fun _ _ _ h => h) (Or.inl ⟨by rfl, ?_⟩) ?_ ?_
          rotate_left
          · intro w'
            go_simp
            with_reducible rfl
          rotate_left
          · simp only [Act.put, List.setIfInBounds_toArray, List.set_cons_zero, List.set_cons_succ, i64_w, i32_w]
            rfl
          exact norm_ (by first | (simp only [putAll, Act.put, List.setIfInBounds_toArray, List.set_cons_zero, List.set_cons_succ]; done) | (simp only [putAll, Act.put, List.setIfInBounds_toArray, List.set_cons_zero, List.set_cons_succ]; rfl)) (hCont (A2, c2, g2, q7, q9) _ ⟨(Mem.below hM2 hb7), hg7, (blk_below hg9 (below_step hb2 hb7)), ((below_step (below_step (below_step HB.out hb9) hb2) hb7)), hle7, hle9, (blk_below HGz.out (below_step (below_step hb9 hb2) hb7)), (blk_below HGm.out (below_step (below_step hb9 hb2) hb7))⟩)
      · skip
        refine value_ (w1 := ?_) (v := ?_) (by rfl) rfl ?_ ?_
        rotate_left 2
        · go_simp
          constructor
          · rfl
          · rfl
        have hb7 := below_alloc (Below.refl w9.heap.size w9) (.cells (madeCells #[.slice none 0 0] l1.length) 27)
        have hg7 := heap_alloc_new w9 (.cells (madeCells #[.slice none 0 0] l1.length) 27)
        obtain ⟨q7, hq7⟩ : ∃ q, w9.heap.size = q := ⟨_, rfl⟩
        obtain ⟨w7, hw7⟩ : ∃ W, w9.alloc (.cells (madeCells #[.slice none 0 0] l1.length) 27) = W := ⟨_, rfl⟩
        rw [hw7] at hb7 hg7 ⊢
        rw [hq7] at hg7 ⊢
        clear hw7
        have hle7 : w0.heap.size ≤ q7 := by rw [← hq7]; exact below_size ((below_step (Below.refl w0.heap.size w0) hb9))
        refine hK.out _ _ ⟨(pw_cell_below hb7 hHeld.1), (pw_cell_below hb7 hHeld.2)⟩ (fun hHeld => ?_)
        clear hK K
        refine norm_ (a' := ?_) ?_ ?_
        rotate_left
        · show Act.put _ (some 13) _ = _
          simp only [Act.put, List.setIfInBounds_toArray, List.set_cons_zero, List.set_cons_succ, i64_w, i32_w]
          rfl
        refine one_ (i := 2) (N := some 8) #[true, true, true, false, true, true, true, true, false, true, false] rfl rfl (by kernel_rfl) (by decide) (fun K hK => ?_)
        refine goes_ Try.func38 (by kernel_rfl) rfl #[.slice A0 l0.length c0] (by rfl) rfl rfl (by simp only [List.map_toArray, List.map_cons, List.map_nil]; rfl) ?_
        with_reducible refine (slices_Clone_int64_int64.calls A0 c0 l0 l0 _ (Kd.C_below Zhr0.out ((below_step (below_step HB.out hb9) hb7))) Zhc0.out (clone_f Zh0.out)).mono ?_
        rintro e w2 ⟨v2, rfl, hR2, hb2⟩
        refine ⟨_, rfl, ?_⟩
        obtain ⟨A2, c2, g2, e2, hM2⟩ := Mem.snoc (W := w7) (base := w.heap.size) (n := 0) (V := fun _ => none) (G := fun _ => 0) (xs := fun _ => []) ⟨fun i hi => by omega, fun i j hi => by omega, fun i hi => by omega, fun i hi => by omega⟩ hb2 (below_size (below_step (below_step HB.out hb9) hb7)) hR2
        replace hM2 := hM2 0 rfl
        subst e2
        have hcap2 := (Kd.R_reads' hR2).2.1
        refine hK.out _ _ ⟨(pw_cell_below hb2 hHeld.1), (pw_cell_below hb2 hHeld.2)⟩ (fun hHeld => ?_)
        clear hK K
        refine norm_ (a' := ?_) ?_ ?_
        rotate_left
        · show Act.put _ (some 8) _ = _
          simp only [Act.put, List.setIfInBounds_toArray, List.set_cons_zero, List.set_cons_succ, i64_w, i32_w]
          rfl
        refine one_ (i := 3) (N := some 9) #[true, true, true, true, true, true, true, true, false, true, false] rfl rfl (by kernel_rfl) (by decide) (fun K hK => ?_)
        refine goes_ Try.func37 (by kernel_rfl) rfl #[.slice A2 l0.length c2] (by rfl) rfl rfl (by simp only [List.map_toArray, List.map_cons, List.map_nil]; rfl) ?_
        with_reducible refine (slices_Clip_int64.calls A2 l0.length c2 hcap2 _).mono ?_
        rintro e w3 ⟨rfl, rfl⟩
        refine ⟨_, rfl, ?_⟩
        refine hK.out _ _ ⟨hHeld.1, hHeld.2⟩ (fun hHeld => ?_)
        clear hK K
        refine norm_ (a' := ?_) ?_ ?_
        rotate_left
        · show Act.put _ (some 9) _ = _
          simp only [Act.put, List.setIfInBounds_toArray, List.set_cons_zero, List.set_cons_succ, i64_w, i32_w]
          rfl
        refine pure_ (i := 8) (N := some 14) (v := ?_) (a' := ?_) #[true, true, true, true, true, true, true, true, true, true, false] rfl rfl (by kernel_rfl) (fun _ _ _ h => h) (Or.inl ⟨by rfl, ?_⟩) ?_ ?_
        rotate_left
        · intro w'
          go_simp
          with_reducible rfl
        rotate_left
        · simp only [Act.put, List.setIfInBounds_toArray, List.set_cons_zero, List.set_cons_succ, i64_w, i32_w]
          rfl
        exact norm_ (by first | (simp only [putAll, Act.put, List.setIfInBounds_toArray, List.set_cons_zero, List.set_cons_succ]; done) | (simp only [putAll, Act.put, List.setIfInBounds_toArray, List.set_cons_zero, List.set_cons_succ]; rfl)) (hCont (A2, c2, g2, q7, q9) _ ⟨hM2, (blk_below hg7 hb2), (blk_below hg9 (below_step hb7 hb2)), ((below_step (below_step (below_step HB.out hb9) hb7) hb2)), hle7, hle9, (blk_below HGz.out (below_step (below_step hb9 hb7) hb2)), (blk_below HGm.out (below_step (below_step hb9 hb7) hb2))⟩)
  rintro ⟨A2, c2, g2, q7, q9⟩ w9 ⟨hM, hg7, hg9, hbw, hle7, hle9, hgz, hgm⟩
  simp only at hM hg7 hg9 hle7 hle9
  obtain ⟨⟨s0, s1⟩, f0, f1⟩ := blk2 hg9
  refine norm_ (a' := ?_) ?_ ?_
  rotate_left
  · simp only [putAll, Act.put, List.setIfInBounds_toArray, List.set_cons_zero, List.set_cons_succ]
    rfl
  refine last_ (i := 10) (N := none) #[true, true, true, true, true, true, true, true, true, true, true] rfl rfl (by kernel_rfl) (by decide) (fun K hK => ?_)
  refine skip_ (w1 := ?_) (by rfl) rfl ?_ ?_
  rotate_left
  · go_simp
    rfl
  refine hK.out _ _ ?_
  clear hK K
  refine done_ (by kernel_rfl) ?_
  clear s0 s1 f0 f1 m0 m1
  have hne : q9 ≠ q7 := fun he => by
    rw [he, hg7] at hg9
    injection hg9 with h9
    injection h9 with _ h9
    exact absurd h9 (by decide)
  have hM1 := ((hM.far hg9 (by decide) 0 (.slice A2 l0.length l0.length)).far (blk_put hg9 0 (.slice A2 l0.length l0.length) rfl) (by decide) 1 (.slice (some ⟨q7, 0, none⟩) l1.length l1.length))
  have hg9a := blkput2 hg9 (.slice A2 l0.length l0.length) (.slice (some ⟨q7, 0, none⟩) l1.length l1.length)
  have hg7a := blk_far (p := ⟨q9, 1, none⟩) (blk_far (p := ⟨q9, 0, none⟩) hg7 (Ne.symm hne) (.slice A2 l0.length l0.length)) (Ne.symm hne) (.slice (some ⟨q7, 0, none⟩) l1.length l1.length)
  have hb1 : Below w.heap.size w _ := below_set (j := 1) (v := (.slice (some ⟨q7, 0, none⟩) l1.length l1.length)) (below_set (j := 0) (v := (.slice A2 l0.length l0.length)) hbw (show w.heap.size ≤ q9 from Nat.le_trans (below_size HB.out) hle9)) (show w.heap.size ≤ q9 from Nat.le_trans (below_size HB.out) hle9)
  have hz1 := blk_far (p := ⟨q9, 1, none⟩) (blk_far (p := ⟨q9, 0, none⟩) hgz (show w.heap.size + 1 ≠ q9 by have := blk_lt HGz.out; omega) (.slice A2 l0.length l0.length)) (show w.heap.size + 1 ≠ q9 by have := blk_lt HGz.out; omega) (.slice (some ⟨q7, 0, none⟩) l1.length l1.length)
  have hm1 := blk_far (p := ⟨q9, 1, none⟩) (blk_far (p := ⟨q9, 0, none⟩) hgm (show w.heap.size ≠ q9 by have := blk_lt HGz.out; omega) (.slice A2 l0.length l0.length)) (show w.heap.size ≠ q9 by have := blk_lt HGz.out; omega) (.slice (some ⟨q7, 0, none⟩) l1.length l1.length)
  obtain ⟨w1, hw1⟩ : ∃ W, (w9.setCell ⟨q9, 0, none⟩ (.slice A2 l0.length l0.length)).setCell ⟨q9, 1, none⟩ (.slice (some ⟨q7, 0, none⟩) l1.length l1.length) = W := ⟨_, rfl⟩
  rw [hw1] at hM1 hg9a hg7a hb1 hz1 hm1 ⊢
  clear hw1 hM hg7 hg9 hbw
  have hlb : w.heap.size ≤ q7 := Nat.le_trans (below_size HB.out) hle7
  have hlz : w.heap.size + 1 < w0.heap.size := blk_lt HGz.out
  have hM0 : Mem w1 w.heap.size 1 (fun j => if j = 0 then A2 else none) (fun j => if j = 0 then g2 else 0) (memX l0 l1) := hM1.congr (fun i hi => by obtain rfl : i = 0 := (by omega); rfl) (fun i hi _ => ⟨rfl, rfl⟩)
  have hH0 : w1.heap[q7]? = some (.cells (heads l1.length (fun j => if j = 0 then A2 else none) (cutX 0 (memX l0 l1))).toArray 27 (0, 0)) := by
    rw [heads_nil _ _ _ (fun j hj => if_neg (by omega)), ← toList_madeCells_one]
    exact hg7a
  have LB := Aside0.mk hb1
  have LM := Aside0.mk hM0
  have LH := Aside0.mk hH0
  have LG := Aside0.mk hg9a
  have LZ := Aside0.mk hz1
  have LN := Aside0.mk hlb
  have LE := Aside0.mk hne
  have LS := Aside0.mk (show w.heap.size + 1 < q7 ∧ w.heap.size + 1 < q9 by omega)
  clear hM1 hg7a hb1 hM0 hH0 hg9a hz1 hlb hle7 hle9 hlz hne HB HGm HGz hgz
  clear hHeld
  obtain ⟨⟨m0, m1⟩, _, _⟩ := blk2 hm1
  clear hm1 hgm
  go_wp2_with fail
  clear m0 m1
  go_loopg [18] (l1.length + 1) (fun kq v18 w' => ∃ (i : Nat) (V : Nat → Option Addr) (G : Nat → Nat), v18 = .int .i64 (i : Int) ∧ Aside0 (i + kq = l1.length + 1) ∧ Aside0 (1 ≤ kq) ∧ Aside0 (V 0 = A2 ∧ ∀ j, i < j → V j = none) ∧ Aside0 (Mem w' w.heap.size (i + 1) V G (memX l0 l1)) ∧ Aside0 (w'.heap[q7]? = some (.cells (heads l1.length V (cutX i (memX l0 l1))).toArray 27 (0, 0))) ∧ Aside0 (w'.heap[q9]? = some (.cells #[.slice A2 l0.length l0.length, .slice (some ⟨q7, 0, none⟩) l1.length l1.length] 30 (0, 0))) ∧ Aside0 (w'.heap[w.heap.size + 1]? = some (.cells #[.slice none 0 0, .slice none 0 0] 30 (0, 0))) ∧ Aside0 (Below w.heap.size w w'))
  case atStart => exact ⟨0, _, _, rfl, ⟨by omega⟩, ⟨by omega⟩, ⟨rfl, fun j hj => if_neg (by omega)⟩, LM, LH, LG, LZ, LB⟩
  case round =>
    clear LB LM LH LG LZ
    obtain ⟨i, V, G, rfl, HI, HI1, HV, LM, LH, LG, LZ, LB⟩ := hrel
    cases gk with
    | zero => exact absurd HI1.out (by omega)
    | succ k1 =>
      by_cases ci : i < l1.length
      · have cib : decide ((i : Int) < (l1.length : Int)) = true := decide_eq_true (by omega)
        have hii : (i : Int) < (l1.length : Int) := by omega
        have hw2 : wrap64 ((i : Int) + 1) = (i : Int) + 1 := by have := Zh1.out; unfold wrap64; omega
        obtain ⟨ad, cs, rfl, _, ⟨Ai, ci5, rfl, hli, hCi⟩, hcell⟩ := Kd.C_get (Kd.C_below Zhr1.out LB.out) [] (i : Int) (by omega) hii
        have hce := hcell 0 _ rfl
        rw [Int.toNat_natCast] at hce hli hCi
        rw [show i * (Kd.slice 2 (Kd.int .i64)).sz + 0 = i by show i * 1 + 0 = i; omega] at hce
        obtain ⟨x, hx⟩ : ∃ x, l1.getD i [] = x := ⟨_, rfl⟩
        rw [hx] at hce hli hCi
        have hxl : x.length < 17592186044416 := Zh2.out x (by rw [← hx, List.getD_eq_getElem?_getD, List.getElem?_eq_getElem ci]; exact List.getElem_mem ci)
        have HX := Aside0.mk (show memX l0 l1 (i + 1) = x from hx)
        have HC := Aside0.mk hCi
        have HCl := Aside0.mk hli
        have HXL := Aside0.mk hxl
        clear hcell hCi hli hx hxl
        obtain ⟨⟨q0, q1⟩, _, _⟩ := blk2 LG.out
        go_wp2_with fail
        refine start_ (n := 8) (S := fun w' => w'.cell? ⟨q9, 1, none⟩ = some (.slice (some ⟨q7, 0, none⟩) l1.length l1.length)) (ds := [7]) #[false, false, false, false, false, false, false, false] (by kernel_rfl) rfl rfl (q1) (fun hHeld => ?_)
        refine pure_ (i := 0) (N := some 23) (v := ?_) (a' := ?_) #[true, false, false, false, false, false, false, false] rfl rfl (by kernel_rfl) (fun _ _ _ h => h) (Or.inl ⟨by rfl, ?_⟩) ?_ ?_
        rotate_left
        · intro w'
          go_simp
          with_reducible rfl
        rotate_left
        · simp only [Act.put, List.setIfInBounds_toArray, List.set_cons_zero, List.set_cons_succ, i64_w, i32_w]
          rfl
        refine pure_ (i := 2) (N := some 25) (v := ?_) (a' := ?_) #[true, false, true, false, false, false, false, false] rfl rfl (by kernel_rfl) (fun _ _ _ h => h) (Or.inl ⟨by rfl, ?_⟩) ?_ ?_
        rotate_left
        · intro w'
          go_simp
          with_reducible rfl
        rotate_left
        · simp only [Act.put, List.setIfInBounds_toArray, List.set_cons_zero, List.set_cons_succ, i64_w, i32_w]
          rfl
        refine pure_ (i := 3) (N := some 26) (v := ?_) (a' := ?_) #[true, false, true, true, false, false, false, false] rfl rfl (by kernel_rfl) (fun _ _ _ h => h) (Or.inl ⟨by rfl, ?_⟩) ?_ ?_
        rotate_left
        · intro w'
          go_simp
          with_reducible rfl
        rotate_left
        · simp only [Act.put, List.setIfInBounds_toArray, List.set_cons_zero, List.set_cons_succ, i64_w, i32_w]
          rfl
        refine take_ (i := 1) (N := some 24) (v := ?_) (a' := ?_) #[true, true, true, true, false, false, false, false] rfl rfl (by kernel_rfl) (fun _ _ _ h => h) (Or.inl ⟨by rfl, ?_⟩) hHeld ?_ ?_
        rotate_left
        · intro w' s0
          go_simp
          with_reducible rfl
        rotate_left
        · simp only [Act.put, List.setIfInBounds_toArray, List.set_cons_zero, List.set_cons_succ, i64_w, i32_w]
          rfl
        refine one_ (i := 4) (N := some 27) #[true, true, true, true, true, false, false, false] rfl rfl (by kernel_rfl) (by decide) (fun K hK => ?_)
        refine goes_ Try.func38 (by kernel_rfl) rfl #[.slice Ai x.length ci5] (by rfl) rfl rfl (by simp only [List.map_toArray, List.map_cons, List.map_nil]; rfl) ?_
        with_reducible refine (slices_Clone_int64_int64.calls Ai ci5 x x _ (Kd.C_drew HC.out) HCl.out (clone_f HXL.out)).mono ?_
        rintro e w4 ⟨v4, rfl, hR4, hb4⟩
        refine ⟨_, rfl, ?_⟩
        replace hb4 : Below wr.heap.size wr w4 := ⟨hb4.os, hb4.tape, hb4.output, hb4.size, hb4.block⟩
        replace hR4 : Kd.R (Kd.int .i64) 2 w4 wr.heap.size (fun _ => True) v4 x := hR4
        obtain ⟨A4, c4, g4, e4, hM4⟩ := Mem.snoc LM.out hb4 (below_size LB.out) hR4
        replace hM4 := hM4 _ rfl
        subst e4
        have hcap4 := (Kd.R_reads' hR4).2.1
        have HM4 := Aside0.mk hM4
        clear hM4 hR4
        have hH4 := blk_below LH.out hb4
        have hs7 := cellH hH4 (show i < (heads l1.length V (cutX i (memX l0 l1))).length by rw [heads_length]; exact ci)
        have hf7 := blk_frozen hH4 i
        refine hK.out _ _ ((pw_cell_below hb4 hHeld)) (fun hHeld => ?_)
        clear hK K
        refine norm_ (a' := ?_) ?_ ?_
        rotate_left
        · show Act.put _ (some 27) _ = _
          simp only [Act.put, List.setIfInBounds_toArray, List.set_cons_zero, List.set_cons_succ, i64_w, i32_w]
          rfl
        refine one_ (i := 5) (N := some 28) #[true, true, true, true, true, true, false, false] rfl rfl (by kernel_rfl) (by decide) (fun K hK => ?_)
        refine goes_ Try.func37 (by kernel_rfl) rfl #[.slice A4 x.length c4] (by rfl) rfl rfl (by simp only [List.map_toArray, List.map_cons, List.map_nil]; rfl) ?_
        with_reducible refine (slices_Clip_int64.calls A4 x.length c4 hcap4 _).mono ?_
        rintro e w5 ⟨rfl, rfl⟩
        refine ⟨_, rfl, ?_⟩
        refine hK.out _ _ (hHeld) (fun hHeld => ?_)
        clear hK K
        refine norm_ (a' := ?_) ?_ ?_
        rotate_left
        · show Act.put _ (some 28) _ = _
          simp only [Act.put, List.setIfInBounds_toArray, List.set_cons_zero, List.set_cons_succ, i64_w, i32_w]
          rfl
        refine pure_ (i := 6) (N := some 29) (v := ?_) (a' := ?_) #[true, true, true, true, true, true, true, false] rfl rfl (by kernel_rfl) (fun _ _ _ h => h) (Or.inl ⟨by rfl, ?_⟩) ?_ ?_
        rotate_left
        · intro w'
          go_simp
          with_reducible rfl
        rotate_left
        · simp only [Act.put, List.setIfInBounds_toArray, List.set_cons_zero, List.set_cons_succ, i64_w, i32_w]
          rfl
        refine last_ (i := 7) (N := none) #[true, true, true, true, true, true, true, true] rfl rfl (by kernel_rfl) (by decide) (fun K hK => ?_)
        refine skip_ (w1 := ?_) (by rfl) rfl ?_ ?_
        rotate_left
        · go_simp
          rfl
        refine hK.out _ _ ?_
        clear hK K
        refine done_ (by kernel_rfl) ?_
        go_wp2
        have hput := blk_put hH4 i (.slice A4 x.length x.length) (by rw [List.setIfInBounds_toArray, cut_step HX.out])
        go_roundg k1
        case measure => omega
        case rel =>
          refine ⟨i + 1, (fun j => if j = i + 1 then A4 else V j), (fun j => if j = i + 1 then g4 else G j), by simp [hw2], ⟨by have := HI.out; omega⟩, ⟨by have := HI.out; omega⟩, ⟨?_, fun j hj => ?_⟩, ⟨?_⟩, ⟨hput⟩, ⟨?_⟩, ⟨?_⟩, ⟨?_⟩⟩
          · show (if 0 = i + 1 then A4 else V 0) = A2
            rw [if_neg (by omega)]
            exact HV.out.1
          · show (if j = i + 1 then A4 else V j) = none
            rw [if_neg (by omega)]
            exact HV.out.2 j (by omega)
          · exact (HM4.out.congr (fun j hj => by
              by_cases e : j = i + 1
              · rw [if_pos e, e, HX.out]
              · rw [if_neg e]) (fun j _ _ => ⟨rfl, rfl⟩)).far hH4 (by decide) i _
          · exact blk_far (p := ⟨q7, i, none⟩) (blk_below LG.out hb4) LE.out _
          · exact blk_far (p := ⟨q7, i, none⟩) (blk_below LZ.out hb4) (show w.heap.size + 1 ≠ q7 by have := LS.out; omega) _
          · exact below_set (below_step LB.out hb4) LN.out
      · have cib : decide ((i : Int) < (l1.length : Int)) = false := decide_eq_false (by omega)
        obtain rfl : i = l1.length := by have := HI.out; omega
        obtain ⟨⟨q0, q1⟩, _, _⟩ := blk2 LG.out
        obtain ⟨⟨z0, z1⟩, y0, y1⟩ := blk2 LZ.out
        go_wp2
        refine bodyPost_ret (results_cell_row rfl _ _ (w.heap.size + 1) 30 #[.slice A2 l0.length l0.length, .slice (some ⟨q7, 0, none⟩) l1.length l1.length] (0, 0) _ rfl (blkput2 LZ.out _ _) Try.underlying30 rfl (by kernel_rfl)) rfl ?_
        have hz : q7 ≠ w.heap.size + 1 := by have := LS.out; omega
        refine ⟨_, _, rfl, ⟨V, G, some ⟨q7, 0, none⟩, by rw [HV.out.1]; rfl, rfl, by have := Zh1.out; omega, fun hp => ⟨q7, rfl, LN.out, ?_⟩, ?_⟩, below_set (below_set LB.out (by omega)) (by omega)⟩
        · have := blk_far (p := ⟨w.heap.size + 1, 1, none⟩) (blk_far (p := ⟨w.heap.size + 1, 0, none⟩) LH.out hz (.slice A2 l0.length l0.length)) hz (.slice (some ⟨q7, 0, none⟩) l1.length l1.length)
          rw [heads_full (Nat.le_refl _)] at this
          exact this
        · exact (LM.out.far LZ.out (by decide) 0 _).far (blk_put LZ.out 0 _ rfl) (by decide) 1 _
theorem Mem.nil_snoc {W : World} {base n : Nat} {V : Nat → Option Addr} {G : Nat → Nat} {xs : Nat → List Int} (h : Mem W base n V G xs) (hx : (xs n).length = 0) : Mem W base (n + 1) V G xs := by
  refine ⟨fun i hi hp => ?_, fun i j hi hj hp hq hg => ?_, fun i hi => ?_, fun i hi hp => by
    by_cases e : i = n
    · subst e
      omega
    · exact h.room i (by omega) hp⟩
  · by_cases e : i = n
    · subst e
      omega
    · exact h.at_ i (by omega) hp
  · by_cases e : i = n
    · subst e
      omega
    · by_cases e2 : j = n
      · subst e2
        omega
      · exact h.ne i j (by omega) (by omega) hp hq hg
  · by_cases e : i = n
    · subst e
      omega
    · exact h.max i (by omega)
theorem cut_stepX {n i : Nat} {V : Nat → Option Addr} {A4 : Option Addr} {X : Nat → List Int} {x : List Int} (hx : X (i + 1) = x) :
    (heads n V (cutX i X)).set i (.slice A4 x.length x.length) = heads n (fun j => if j = i + 1 then A4 else V j) (cutX (i + 1) X) := by
  refine heads_set ?_ ?_
  · simp [cutX, hx]
  · intro j hj
    refine ⟨if_neg hj, ?_⟩
    unfold cutX
    by_cases h : j ≤ i
    · rw [if_pos h, if_pos (by omega)]
    · rw [if_neg h, if_neg (by omega)]
theorem cut_nilX {i : Nat} {X : Nat → List Int} (hx : X (i + 1) = []) : cutX (i + 1) X = cutX i X := by
  funext j
  unfold cutX
  by_cases h : j ≤ i
  · rw [if_pos h, if_pos (by omega)]
  · by_cases e : j = i + 1
    · subst e
      rw [if_pos (Nat.le_refl _), if_neg h, hx]
    · rw [if_neg h, if_neg (by omega)]
def zrow (a : S57) : List Int := if 1 ≤ a.f0 ∧ a.f0 ≤ 256 then List.replicate a.f0.toNat 0 else []
def zeroX (n : Nat) (l1 : List S57) : Nat → List Int := fun j => (List.replicate n 0 :: l1.map zrow).getD j []
theorem rows_zeroX (n : Nat) (l1 : List S57) : rowsOf l1.length (zeroX n l1) = l1.map zrow := by
  apply List.ext_getElem?
  intro j
  by_cases hj : j < l1.length
  · rw [rowsOf_at hj, List.getElem?_eq_getElem (by rw [List.length_map]; exact hj)]
    simp [zeroX, List.getD_eq_getElem?_getD, hj]
  · rw [List.getElem?_eq_none (by rw [rowsOf_length]; omega), List.getElem?_eq_none (by rw [List.length_map]; omega)]
def view_Zero.f (l0_0 : List Int) (l0_1 : List S57) (l0_2 : List Int) (l0_3 : List S48) : Option (List Int × List (List Int)) := if l0_0.length ≤ 35184372088832 ∧ l0_1.length ≤ 11728124029610 then some (List.replicate l0_0.length 0, l0_1.map zrow) else none
theorem made_R (W : World) (m : Nat) (hm : m ≤ 9223372036854775807) : Kd.R (Kd.int .i64) 2 (W.alloc (.cells (madeCells #[.int .i64 0] m) 2)) W.heap.size (fun _ => True) (.slice (some ⟨W.heap.size, 0, none⟩) m m) (List.replicate m 0) := Kd.R_of_own (own_made' W W.heap.size 2 .i64 m (Nat.le_refl _) hm) (fun _ _ => trivial)
set_option maxHeartbeats 16000000 in
set_option maxRecDepth 100000 in
theorem view_Zero.out (A0 : Option Addr) (c0 n0 : Nat) (A1 : Option Addr) (c1 : Nat) (l1 : List S57) (A2_ : Option Addr) (c2_ n2 : Nat) (A3 : Option Addr) (c3 n3 : Nat) (w : World) (hr1 : Kd.C k57 w A1 l1.length l1)
    (h0 : n0 ≤ 35184372088832) (h1 : l1.length ≤ 11728124029610) :
    Calls Try.prog 9 #[.agg #[.slice A0 n0 c0, .slice A1 l1.length c1, .slice A2_ n2 c2_, .slice A3 n3 c3]] w fun e w' => ∃ v0 v1, e = .returned (.agg #[v0, v1]) ∧ MemOut w' w.heap.size v0 v1 l1.length (zeroX n0 l1) ∧ Below w.heap.size w w' := by
  have Zhr1 := Aside0.mk hr1
  have Zh0 := Aside0.mk h0
  have Zh1 := Aside0.mk h1
  clear hr1 h0 h1
  have HB := Aside0.mk (below_alloc (below_alloc (Below.refl w.heap.size w) (.cells #[.slice A0 n0 c0, .slice A1 l1.length c1, .slice A2_ n2 c2_, .slice A3 n3 c3] 26)) (.cells #[.slice none 0 0, .slice none 0 0] 30))
  have HGm := Aside0.mk (blk_alloc (heap_alloc_new w (.cells #[.slice A0 n0 c0, .slice A1 l1.length c1, .slice A2_ n2 c2_, .slice A3 n3 c3] 26)) (.cells #[.slice none 0 0, .slice none 0 0] 30))
  have HGz := Aside0.mk (show ((w.alloc (.cells #[.slice A0 n0 c0, .slice A1 l1.length c1, .slice A2_ n2 c2_, .slice A3 n3 c3] 26)).alloc (.cells #[.slice none 0 0, .slice none 0 0] 30)).heap[w.heap.size + 1]? = some (.cells #[.slice none 0 0, .slice none 0 0] 30 (0, 0)) by
    have := heap_alloc_new (w.alloc (.cells #[.slice A0 n0 c0, .slice A1 l1.length c1, .slice A2_ n2 c2_, .slice A3 n3 c3] 26)) (.cells #[.slice none 0 0, .slice none 0 0] 30)
    simpa using this)
  obtain ⟨m0, m1⟩ := (show _ ∧ _ from ⟨blk_cell HGm.out 0, blk_cell HGm.out 1⟩)
  have hmk0 := print_make_int (P := Try.prog) 27 2 (.int .i64 0) 8 Try.underlying27 info2 rfl (by decide) (n0 : Int) (by omega) (by have := Zh0.out; omega)
  rw [Int.toNat_natCast] at hmk0
  have hmk := print_make_int (P := Try.prog) 28 27 (.slice none 0 0) 24 Try.underlying28 info27 rfl (by decide) (l1.length : Int) (by omega) (by have := Zh1.out; omega)
  rw [Int.toNat_natCast] at hmk
  go_enter Try.func9, Try.ntmps9
  go_wp2_with fail
  obtain ⟨w0, hw0⟩ : ∃ W, ((w.alloc (.cells #[.slice A0 n0 c0, .slice A1 l1.length c1, .slice A2_ n2 c2_, .slice A3 n3 c3] 26)).alloc (.cells #[.slice none 0 0, .slice none 0 0] 30)) = W := ⟨_, rfl⟩
  rw [hw0] at HB HGm HGz m0 m1 ⊢
  clear hw0
  refine start_ (n := 11) (S := fun w' => w'.cell? ⟨w.heap.size, 0, none⟩ = some (.slice A0 n0 c0) ∧ w'.cell? ⟨w.heap.size, 1, none⟩ = some (.slice A1 l1.length c1)) (ds := [10]) #[false, false, false, false, false, false, false, false, false, false, false] (by kernel_rfl) rfl rfl ⟨m0, m1⟩ (fun hHeld => ?_)
  refine pure_ (i := 0) (N := some 6) (v := ?_) (a' := ?_) #[true, false, false, false, false, false, false, false, false, false, false] rfl rfl (by kernel_rfl) (fun _ _ _ h => h) (Or.inl ⟨by rfl, ?_⟩) ?_ ?_
  rotate_left
  · intro w'
    go_simp
    with_reducible rfl
  rotate_left
  · simp only [Act.put, List.setIfInBounds_toArray, List.set_cons_zero, List.set_cons_succ, i64_w, i32_w]
    rfl
  refine pure_ (i := 4) (N := some 10) (v := ?_) (a' := ?_) #[true, false, false, false, true, false, false, false, false, false, false] rfl rfl (by kernel_rfl) (fun _ _ _ h => h) (Or.inl ⟨by rfl, ?_⟩) ?_ ?_
  rotate_left
  · intro w'
    go_simp
    with_reducible rfl
  rotate_left
  · simp only [Act.put, List.setIfInBounds_toArray, List.set_cons_zero, List.set_cons_succ, i64_w, i32_w]
    rfl
  refine take_ (i := 1) (N := some 7) (v := ?_) (a' := ?_) #[true, true, false, false, true, false, false, false, false, false, false] rfl rfl (by kernel_rfl) (fun _ _ _ h => h) (Or.inl ⟨by rfl, ?_⟩) hHeld ?_ ?_
  rotate_left
  · rintro w' ⟨s0, s1⟩
    go_simp
    with_reducible rfl
  rotate_left
  · simp only [Act.put, List.setIfInBounds_toArray, List.set_cons_zero, List.set_cons_succ, i64_w, i32_w]
    rfl
  refine pure_ (i := 2) (N := some 8) (v := ?_) (a' := ?_) #[true, true, true, false, true, false, false, false, false, false, false] rfl rfl (by kernel_rfl) (fun _ _ _ h => h) (Or.inl ⟨by rfl, ?_⟩) ?_ ?_
  rotate_left
  · intro w'
    go_simp
    with_reducible rfl
  rotate_left
  · simp only [Act.put, List.setIfInBounds_toArray, List.set_cons_zero, List.set_cons_succ, i64_w, i32_w]
    rfl
  refine take_ (i := 5) (N := some 11) (v := ?_) (a' := ?_) #[true, true, true, false, true, true, false, false, false, false, false] rfl rfl (by kernel_rfl) (fun _ _ _ h => h) (Or.inl ⟨by rfl, ?_⟩) hHeld ?_ ?_
  rotate_left
  · rintro w' ⟨s0, s1⟩
    go_simp
    with_reducible rfl
  rotate_left
  · simp only [Act.put, List.setIfInBounds_toArray, List.set_cons_zero, List.set_cons_succ, i64_w, i32_w]
    rfl
  refine pure_ (i := 6) (N := some 12) (v := ?_) (a' := ?_) #[true, true, true, false, true, true, true, false, false, false, false] rfl rfl (by kernel_rfl) (fun _ _ _ h => h) (Or.inl ⟨by rfl, ?_⟩) ?_ ?_
  rotate_left
  · intro w'
    go_simp
    with_reducible rfl
  rotate_left
  · simp only [Act.put, List.setIfInBounds_toArray, List.set_cons_zero, List.set_cons_succ, i64_w, i32_w]
    rfl
  refine join_ (σ := Nat × Nat × Nat) 1 #[true, true, true, true, true, true, true, true, true, true, false] (fun s => [(9, .slice (some ⟨s.1, 0, none⟩) n0 n0), (13, .slice (some ⟨s.2.1, 0, none⟩) l1.length l1.length), (14, .agg #[.slice (some ⟨s.1, 0, none⟩) n0 n0, .slice (some ⟨s.2.1, 0, none⟩) l1.length l1.length]), (3, .pointer (some ⟨s.2.2, 0, none⟩))]) (fun s w' => w'.heap[s.1]? = some (.cells (madeCells #[.int .i64 0] n0) 2 (0, 0)) ∧ w'.heap[s.2.1]? = some (.cells (madeCells #[.slice none 0 0] l1.length) 27 (0, 0)) ∧ w'.heap[s.2.2]? = some (.cells #[.slice none 0 0, .slice none 0 0] 30 (0, 0)) ∧ Below w.heap.size w w' ∧ w0.heap.size ≤ s.1 ∧ w0.heap.size ≤ s.2.1 ∧ w0.heap.size ≤ s.2.2 ∧ w'.heap[w.heap.size + 1]? = some (.cells #[.slice none 0 0, .slice none 0 0] 30 (0, 0)) ∧ w'.heap[w.heap.size]? = some (.cells #[.slice A0 n0 c0, .slice A1 l1.length c1, .slice A2_ n2 c2_, .slice A3 n3 c3] 26 (0, 0))) ?_ ?_
  rotate_left
  · intro hCont
    refine three_ (i := 3) (j := 7) (k := 9) (Ni := some 9) (Nj := some 13) (Nk := some 3) #[true, true, true, true, true, true, true, false, false, false, false] #[true, true, true, false, true, true, true, true, false, false, false] #[true, true, true, false, true, true, true, false, false, true, false] rfl rfl rfl rfl rfl rfl (by kernel_rfl) (by decide) (by decide) (by decide) (fun K hK => ?_) (fun K hK => ?_) (fun K hK => ?_)
    · skip
      refine value_ (w1 := ?_) (v := ?_) (by rfl) rfl ?_ ?_
      rotate_left 2
      · go_simp
        constructor
        · rfl
        · rfl
      have hb3 : Below w0.heap.size w0 (w0.alloc (.cells (madeCells #[.int .i64 0] n0) 2)).drew := below_drew1 (below_alloc (Below.refl w0.heap.size w0) (.cells (madeCells #[.int .i64 0] n0) 2))
      have hg3 : (w0.alloc (.cells (madeCells #[.int .i64 0] n0) 2)).drew.heap[w0.heap.size]? = _ := heap_alloc_new w0 (.cells (madeCells #[.int .i64 0] n0) 2)
      obtain ⟨q3, hq3⟩ : ∃ q, w0.heap.size = q := ⟨_, rfl⟩
      obtain ⟨w3, hw3⟩ : ∃ W, (w0.alloc (.cells (madeCells #[.int .i64 0] n0) 2)).drew = W := ⟨_, rfl⟩
      rw [hw3] at hb3 hg3 ⊢
      rw [hq3] at hg3 ⊢
      clear hw3
      have hle3 : w0.heap.size ≤ q3 := by rw [← hq3]; exact below_size (Below.refl w0.heap.size w0)
      refine hK.out _ _ ⟨(pw_cell_below hb3 m0), (pw_cell_below hb3 m1)⟩ (fun hHeld => ?_)
      clear hK K
      refine norm_ (a' := ?_) ?_ ?_
      rotate_left
      · show Act.put _ (some 9) _ = _
        simp only [Act.put, List.setIfInBounds_toArray, List.set_cons_zero, List.set_cons_succ, i64_w, i32_w]
        rfl
      refine two_ (i := 7) (j := 9) (Ni := some 13) (Nj := some 3) #[true, true, true, true, true, true, true, true, false, false, false] #[true, true, true, true, true, true, true, false, false, true, false] rfl rfl rfl rfl (by kernel_rfl) (by decide) (by decide) (fun K hK => ?_) (fun K hK => ?_)
      · skip
        refine value_ (w1 := ?_) (v := ?_) (by rfl) rfl ?_ ?_
        rotate_left 2
        · go_simp
          constructor
          · rfl
          · rfl
        have hb7 := below_alloc (Below.refl w3.heap.size w3) (.cells (madeCells #[.slice none 0 0] l1.length) 27)
        have hg7 := heap_alloc_new w3 (.cells (madeCells #[.slice none 0 0] l1.length) 27)
        obtain ⟨q7, hq7⟩ : ∃ q, w3.heap.size = q := ⟨_, rfl⟩
        obtain ⟨w7, hw7⟩ : ∃ W, w3.alloc (.cells (madeCells #[.slice none 0 0] l1.length) 27) = W := ⟨_, rfl⟩
        rw [hw7] at hb7 hg7 ⊢
        rw [hq7] at hg7 ⊢
        clear hw7
        have hle7 : w0.heap.size ≤ q7 := by rw [← hq7]; exact below_size ((below_step (Below.refl w0.heap.size w0) hb3))
        refine hK.out _ _ ⟨(pw_cell_below hb7 hHeld.1), (pw_cell_below hb7 hHeld.2)⟩ (fun hHeld => ?_)
        clear hK K
        refine norm_ (a' := ?_) ?_ ?_
        rotate_left
        · show Act.put _ (some 13) _ = _
          simp only [Act.put, List.setIfInBounds_toArray, List.set_cons_zero, List.set_cons_succ, i64_w, i32_w]
          rfl
        refine pure_ (i := 8) (N := some 14) (v := ?_) (a' := ?_) #[true, true, true, true, true, true, true, true, true, false, false] rfl rfl (by kernel_rfl) (fun _ _ _ h => h) (Or.inl ⟨by rfl, ?_⟩) ?_ ?_
        rotate_left
        · intro w'
          go_simp
          with_reducible rfl
        rotate_left
        · simp only [Act.put, List.setIfInBounds_toArray, List.set_cons_zero, List.set_cons_succ, i64_w, i32_w]
          rfl
        refine one_ (i := 9) (N := some 3) #[true, true, true, true, true, true, true, true, true, true, false] rfl rfl (by kernel_rfl) (by decide) (fun K hK => ?_)
        refine value_ (w1 := ?_) (v := ?_) (by rfl) rfl ?_ ?_
        rotate_left 2
        · go_simp
          constructor
          · rfl
          · rfl
        have hb9 := below_alloc (Below.refl w7.heap.size w7) (.cells #[.slice none 0 0, .slice none 0 0] 30)
        have hg9 := heap_alloc_new w7 (.cells #[.slice none 0 0, .slice none 0 0] 30)
        obtain ⟨q9, hq9⟩ : ∃ q, w7.heap.size = q := ⟨_, rfl⟩
        obtain ⟨w9, hw9⟩ : ∃ W, w7.alloc (.cells #[.slice none 0 0, .slice none 0 0] 30) = W := ⟨_, rfl⟩
        rw [hw9] at hb9 hg9 ⊢
        rw [hq9] at hg9 ⊢
        clear hw9
        have hle9 : w0.heap.size ≤ q9 := by rw [← hq9]; exact below_size ((below_step ((below_step (Below.refl w0.heap.size w0) hb3)) hb7))
        refine hK.out _ _ ⟨(pw_cell_below hb9 hHeld.1), (pw_cell_below hb9 hHeld.2)⟩ (fun hHeld => ?_)
        clear hK K
        refine norm_ (a' := ?_) ?_ ?_
        rotate_left
        · show Act.put _ (some 3) _ = _
          simp only [Act.put, List.setIfInBounds_toArray, List.set_cons_zero, List.set_cons_succ, i64_w, i32_w]
          rfl
        exact norm_ (by first | (simp only [putAll, Act.put, List.setIfInBounds_toArray, List.set_cons_zero, List.set_cons_succ]; done) | (simp only [putAll, Act.put, List.setIfInBounds_toArray, List.set_cons_zero, List.set_cons_succ]; rfl)) (hCont (q3, q7, q9) _ ⟨(blk_below hg3 (below_step hb7 hb9)), (blk_below hg7 hb9), hg9, (below_step (below_step (below_step HB.out hb3) hb7) hb9), hle3, hle7, hle9, (blk_below HGz.out (below_step (below_step hb3 hb7) hb9)), (blk_below HGm.out (below_step (below_step hb3 hb7) hb9))⟩)
      · skip
        refine value_ (w1 := ?_) (v := ?_) (by rfl) rfl ?_ ?_
        rotate_left 2
        · go_simp
          constructor
          · rfl
          · rfl
        have hb9 := below_alloc (Below.refl w3.heap.size w3) (.cells #[.slice none 0 0, .slice none 0 0] 30)
        have hg9 := heap_alloc_new w3 (.cells #[.slice none 0 0, .slice none 0 0] 30)
        obtain ⟨q9, hq9⟩ : ∃ q, w3.heap.size = q := ⟨_, rfl⟩
        obtain ⟨w9, hw9⟩ : ∃ W, w3.alloc (.cells #[.slice none 0 0, .slice none 0 0] 30) = W := ⟨_, rfl⟩
        rw [hw9] at hb9 hg9 ⊢
        rw [hq9] at hg9 ⊢
        clear hw9
        have hle9 : w0.heap.size ≤ q9 := by rw [← hq9]; exact below_size ((below_step (Below.refl w0.heap.size w0) hb3))
        refine hK.out _ _ ⟨(pw_cell_below hb9 hHeld.1), (pw_cell_below hb9 hHeld.2)⟩ (fun hHeld => ?_)
        clear hK K
        refine norm_ (a' := ?_) ?_ ?_
        rotate_left
        · show Act.put _ (some 3) _ = _
          simp only [Act.put, List.setIfInBounds_toArray, List.set_cons_zero, List.set_cons_succ, i64_w, i32_w]
          rfl
        refine one_ (i := 7) (N := some 13) #[true, true, true, true, true, true, true, true, false, true, false] rfl rfl (by kernel_rfl) (by decide) (fun K hK => ?_)
        refine value_ (w1 := ?_) (v := ?_) (by rfl) rfl ?_ ?_
        rotate_left 2
        · go_simp
          constructor
          · rfl
          · rfl
        have hb7 := below_alloc (Below.refl w9.heap.size w9) (.cells (madeCells #[.slice none 0 0] l1.length) 27)
        have hg7 := heap_alloc_new w9 (.cells (madeCells #[.slice none 0 0] l1.length) 27)
        obtain ⟨q7, hq7⟩ : ∃ q, w9.heap.size = q := ⟨_, rfl⟩
        obtain ⟨w7, hw7⟩ : ∃ W, w9.alloc (.cells (madeCells #[.slice none 0 0] l1.length) 27) = W := ⟨_, rfl⟩
        rw [hw7] at hb7 hg7 ⊢
        rw [hq7] at hg7 ⊢
        clear hw7
        have hle7 : w0.heap.size ≤ q7 := by rw [← hq7]; exact below_size ((below_step ((below_step (Below.refl w0.heap.size w0) hb3)) hb9))
        refine hK.out _ _ ⟨(pw_cell_below hb7 hHeld.1), (pw_cell_below hb7 hHeld.2)⟩ (fun hHeld => ?_)
        clear hK K
        refine norm_ (a' := ?_) ?_ ?_
        rotate_left
        · show Act.put _ (some 13) _ = _
          simp only [Act.put, List.setIfInBounds_toArray, List.set_cons_zero, List.set_cons_succ, i64_w, i32_w]
          rfl
        refine pure_ (i := 8) (N := some 14) (v := ?_) (a' := ?_) #[true, true, true, true, true, true, true, true, true, true, false] rfl rfl (by kernel_rfl) (fun _ _ _ h => h) (Or.inl ⟨by rfl, ?_⟩) ?_ ?_
        rotate_left
        · intro w'
          go_simp
          with_reducible rfl
        rotate_left
        · simp only [Act.put, List.setIfInBounds_toArray, List.set_cons_zero, List.set_cons_succ, i64_w, i32_w]
          rfl
        exact norm_ (by first | (simp only [putAll, Act.put, List.setIfInBounds_toArray, List.set_cons_zero, List.set_cons_succ]; done) | (simp only [putAll, Act.put, List.setIfInBounds_toArray, List.set_cons_zero, List.set_cons_succ]; rfl)) (hCont (q3, q7, q9) _ ⟨(blk_below hg3 (below_step hb9 hb7)), hg7, (blk_below hg9 hb7), (below_step (below_step (below_step HB.out hb3) hb9) hb7), hle3, hle7, hle9, (blk_below HGz.out (below_step (below_step hb3 hb9) hb7)), (blk_below HGm.out (below_step (below_step hb3 hb9) hb7))⟩)
    · skip
      refine value_ (w1 := ?_) (v := ?_) (by rfl) rfl ?_ ?_
      rotate_left 2
      · go_simp
        constructor
        · rfl
        · rfl
      have hb7 : Below w0.heap.size w0 (w0.alloc (.cells (madeCells #[.slice none 0 0] l1.length) 27)).drew := below_drew1 (below_alloc (Below.refl w0.heap.size w0) (.cells (madeCells #[.slice none 0 0] l1.length) 27))
      have hg7 : (w0.alloc (.cells (madeCells #[.slice none 0 0] l1.length) 27)).drew.heap[w0.heap.size]? = _ := heap_alloc_new w0 (.cells (madeCells #[.slice none 0 0] l1.length) 27)
      obtain ⟨q7, hq7⟩ : ∃ q, w0.heap.size = q := ⟨_, rfl⟩
      obtain ⟨w7, hw7⟩ : ∃ W, (w0.alloc (.cells (madeCells #[.slice none 0 0] l1.length) 27)).drew = W := ⟨_, rfl⟩
      rw [hw7] at hb7 hg7 ⊢
      rw [hq7] at hg7 ⊢
      clear hw7
      have hle7 : w0.heap.size ≤ q7 := by rw [← hq7]; exact below_size (Below.refl w0.heap.size w0)
      refine hK.out _ _ ⟨(pw_cell_below hb7 m0), (pw_cell_below hb7 m1)⟩ (fun hHeld => ?_)
      clear hK K
      refine norm_ (a' := ?_) ?_ ?_
      rotate_left
      · show Act.put _ (some 13) _ = _
        simp only [Act.put, List.setIfInBounds_toArray, List.set_cons_zero, List.set_cons_succ, i64_w, i32_w]
        rfl
      refine two_ (i := 3) (j := 9) (Ni := some 9) (Nj := some 3) #[true, true, true, true, true, true, true, true, false, false, false] #[true, true, true, false, true, true, true, true, false, true, false] rfl rfl rfl rfl (by kernel_rfl) (by decide) (by decide) (fun K hK => ?_) (fun K hK => ?_)
      · skip
        refine value_ (w1 := ?_) (v := ?_) (by rfl) rfl ?_ ?_
        rotate_left 2
        · go_simp
          constructor
          · rfl
          · rfl
        have hb3 := below_alloc (Below.refl w7.heap.size w7) (.cells (madeCells #[.int .i64 0] n0) 2)
        have hg3 := heap_alloc_new w7 (.cells (madeCells #[.int .i64 0] n0) 2)
        obtain ⟨q3, hq3⟩ : ∃ q, w7.heap.size = q := ⟨_, rfl⟩
        obtain ⟨w3, hw3⟩ : ∃ W, w7.alloc (.cells (madeCells #[.int .i64 0] n0) 2) = W := ⟨_, rfl⟩
        rw [hw3] at hb3 hg3 ⊢
        rw [hq3] at hg3 ⊢
        clear hw3
        have hle3 : w0.heap.size ≤ q3 := by rw [← hq3]; exact below_size ((below_step (Below.refl w0.heap.size w0) hb7))
        refine hK.out _ _ ⟨(pw_cell_below hb3 hHeld.1), (pw_cell_below hb3 hHeld.2)⟩ (fun hHeld => ?_)
        clear hK K
        refine norm_ (a' := ?_) ?_ ?_
        rotate_left
        · show Act.put _ (some 9) _ = _
          simp only [Act.put, List.setIfInBounds_toArray, List.set_cons_zero, List.set_cons_succ, i64_w, i32_w]
          rfl
        refine pure_ (i := 8) (N := some 14) (v := ?_) (a' := ?_) #[true, true, true, true, true, true, true, true, true, false, false] rfl rfl (by kernel_rfl) (fun _ _ _ h => h) (Or.inl ⟨by rfl, ?_⟩) ?_ ?_
        rotate_left
        · intro w'
          go_simp
          with_reducible rfl
        rotate_left
        · simp only [Act.put, List.setIfInBounds_toArray, List.set_cons_zero, List.set_cons_succ, i64_w, i32_w]
          rfl
        refine one_ (i := 9) (N := some 3) #[true, true, true, true, true, true, true, true, true, true, false] rfl rfl (by kernel_rfl) (by decide) (fun K hK => ?_)
        refine value_ (w1 := ?_) (v := ?_) (by rfl) rfl ?_ ?_
        rotate_left 2
        · go_simp
          constructor
          · rfl
          · rfl
        have hb9 := below_alloc (Below.refl w3.heap.size w3) (.cells #[.slice none 0 0, .slice none 0 0] 30)
        have hg9 := heap_alloc_new w3 (.cells #[.slice none 0 0, .slice none 0 0] 30)
        obtain ⟨q9, hq9⟩ : ∃ q, w3.heap.size = q := ⟨_, rfl⟩
        obtain ⟨w9, hw9⟩ : ∃ W, w3.alloc (.cells #[.slice none 0 0, .slice none 0 0] 30) = W := ⟨_, rfl⟩
        rw [hw9] at hb9 hg9 ⊢
        rw [hq9] at hg9 ⊢
        clear hw9
        have hle9 : w0.heap.size ≤ q9 := by rw [← hq9]; exact below_size ((below_step ((below_step (Below.refl w0.heap.size w0) hb7)) hb3))
        refine hK.out _ _ ⟨(pw_cell_below hb9 hHeld.1), (pw_cell_below hb9 hHeld.2)⟩ (fun hHeld => ?_)
        clear hK K
        refine norm_ (a' := ?_) ?_ ?_
        rotate_left
        · show Act.put _ (some 3) _ = _
          simp only [Act.put, List.setIfInBounds_toArray, List.set_cons_zero, List.set_cons_succ, i64_w, i32_w]
          rfl
        exact norm_ (by first | (simp only [putAll, Act.put, List.setIfInBounds_toArray, List.set_cons_zero, List.set_cons_succ]; done) | (simp only [putAll, Act.put, List.setIfInBounds_toArray, List.set_cons_zero, List.set_cons_succ]; rfl)) (hCont (q3, q7, q9) _ ⟨(blk_below hg3 hb9), (blk_below hg7 (below_step hb3 hb9)), hg9, (below_step (below_step (below_step HB.out hb7) hb3) hb9), hle3, hle7, hle9, (blk_below HGz.out (below_step (below_step hb7 hb3) hb9)), (blk_below HGm.out (below_step (below_step hb7 hb3) hb9))⟩)
      · skip
        refine value_ (w1 := ?_) (v := ?_) (by rfl) rfl ?_ ?_
        rotate_left 2
        · go_simp
          constructor
          · rfl
          · rfl
        have hb9 := below_alloc (Below.refl w7.heap.size w7) (.cells #[.slice none 0 0, .slice none 0 0] 30)
        have hg9 := heap_alloc_new w7 (.cells #[.slice none 0 0, .slice none 0 0] 30)
        obtain ⟨q9, hq9⟩ : ∃ q, w7.heap.size = q := ⟨_, rfl⟩
        obtain ⟨w9, hw9⟩ : ∃ W, w7.alloc (.cells #[.slice none 0 0, .slice none 0 0] 30) = W := ⟨_, rfl⟩
        rw [hw9] at hb9 hg9 ⊢
        rw [hq9] at hg9 ⊢
        clear hw9
        have hle9 : w0.heap.size ≤ q9 := by rw [← hq9]; exact below_size ((below_step (Below.refl w0.heap.size w0) hb7))
        refine hK.out _ _ ⟨(pw_cell_below hb9 hHeld.1), (pw_cell_below hb9 hHeld.2)⟩ (fun hHeld => ?_)
        clear hK K
        refine norm_ (a' := ?_) ?_ ?_
        rotate_left
        · show Act.put _ (some 3) _ = _
          simp only [Act.put, List.setIfInBounds_toArray, List.set_cons_zero, List.set_cons_succ, i64_w, i32_w]
          rfl
        refine one_ (i := 3) (N := some 9) #[true, true, true, true, true, true, true, true, false, true, false] rfl rfl (by kernel_rfl) (by decide) (fun K hK => ?_)
        refine value_ (w1 := ?_) (v := ?_) (by rfl) rfl ?_ ?_
        rotate_left 2
        · go_simp
          constructor
          · rfl
          · rfl
        have hb3 := below_alloc (Below.refl w9.heap.size w9) (.cells (madeCells #[.int .i64 0] n0) 2)
        have hg3 := heap_alloc_new w9 (.cells (madeCells #[.int .i64 0] n0) 2)
        obtain ⟨q3, hq3⟩ : ∃ q, w9.heap.size = q := ⟨_, rfl⟩
        obtain ⟨w3, hw3⟩ : ∃ W, w9.alloc (.cells (madeCells #[.int .i64 0] n0) 2) = W := ⟨_, rfl⟩
        rw [hw3] at hb3 hg3 ⊢
        rw [hq3] at hg3 ⊢
        clear hw3
        have hle3 : w0.heap.size ≤ q3 := by rw [← hq3]; exact below_size ((below_step ((below_step (Below.refl w0.heap.size w0) hb7)) hb9))
        refine hK.out _ _ ⟨(pw_cell_below hb3 hHeld.1), (pw_cell_below hb3 hHeld.2)⟩ (fun hHeld => ?_)
        clear hK K
        refine norm_ (a' := ?_) ?_ ?_
        rotate_left
        · show Act.put _ (some 9) _ = _
          simp only [Act.put, List.setIfInBounds_toArray, List.set_cons_zero, List.set_cons_succ, i64_w, i32_w]
          rfl
        refine pure_ (i := 8) (N := some 14) (v := ?_) (a' := ?_) #[true, true, true, true, true, true, true, true, true, true, false] rfl rfl (by kernel_rfl) (fun _ _ _ h => h) (Or.inl ⟨by rfl, ?_⟩) ?_ ?_
        rotate_left
        · intro w'
          go_simp
          with_reducible rfl
        rotate_left
        · simp only [Act.put, List.setIfInBounds_toArray, List.set_cons_zero, List.set_cons_succ, i64_w, i32_w]
          rfl
        exact norm_ (by first | (simp only [putAll, Act.put, List.setIfInBounds_toArray, List.set_cons_zero, List.set_cons_succ]; done) | (simp only [putAll, Act.put, List.setIfInBounds_toArray, List.set_cons_zero, List.set_cons_succ]; rfl)) (hCont (q3, q7, q9) _ ⟨hg3, (blk_below hg7 (below_step hb9 hb3)), (blk_below hg9 hb3), (below_step (below_step (below_step HB.out hb7) hb9) hb3), hle3, hle7, hle9, (blk_below HGz.out (below_step (below_step hb7 hb9) hb3)), (blk_below HGm.out (below_step (below_step hb7 hb9) hb3))⟩)
    · skip
      refine value_ (w1 := ?_) (v := ?_) (by rfl) rfl ?_ ?_
      rotate_left 2
      · go_simp
        constructor
        · rfl
        · rfl
      have hb9 : Below w0.heap.size w0 (w0.alloc (.cells #[.slice none 0 0, .slice none 0 0] 30)).drew := below_drew1 (below_alloc (Below.refl w0.heap.size w0) (.cells #[.slice none 0 0, .slice none 0 0] 30))
      have hg9 : (w0.alloc (.cells #[.slice none 0 0, .slice none 0 0] 30)).drew.heap[w0.heap.size]? = _ := heap_alloc_new w0 (.cells #[.slice none 0 0, .slice none 0 0] 30)
      obtain ⟨q9, hq9⟩ : ∃ q, w0.heap.size = q := ⟨_, rfl⟩
      obtain ⟨w9, hw9⟩ : ∃ W, (w0.alloc (.cells #[.slice none 0 0, .slice none 0 0] 30)).drew = W := ⟨_, rfl⟩
      rw [hw9] at hb9 hg9 ⊢
      rw [hq9] at hg9 ⊢
      clear hw9
      have hle9 : w0.heap.size ≤ q9 := by rw [← hq9]; exact below_size (Below.refl w0.heap.size w0)
      refine hK.out _ _ ⟨(pw_cell_below hb9 m0), (pw_cell_below hb9 m1)⟩ (fun hHeld => ?_)
      clear hK K
      refine norm_ (a' := ?_) ?_ ?_
      rotate_left
      · show Act.put _ (some 3) _ = _
        simp only [Act.put, List.setIfInBounds_toArray, List.set_cons_zero, List.set_cons_succ, i64_w, i32_w]
        rfl
      refine two_ (i := 3) (j := 7) (Ni := some 9) (Nj := some 13) #[true, true, true, true, true, true, true, false, false, true, false] #[true, true, true, false, true, true, true, true, false, true, false] rfl rfl rfl rfl (by kernel_rfl) (by decide) (by decide) (fun K hK => ?_) (fun K hK => ?_)
      · skip
        refine value_ (w1 := ?_) (v := ?_) (by rfl) rfl ?_ ?_
        rotate_left 2
        · go_simp
          constructor
          · rfl
          · rfl
        have hb3 := below_alloc (Below.refl w9.heap.size w9) (.cells (madeCells #[.int .i64 0] n0) 2)
        have hg3 := heap_alloc_new w9 (.cells (madeCells #[.int .i64 0] n0) 2)
        obtain ⟨q3, hq3⟩ : ∃ q, w9.heap.size = q := ⟨_, rfl⟩
        obtain ⟨w3, hw3⟩ : ∃ W, w9.alloc (.cells (madeCells #[.int .i64 0] n0) 2) = W := ⟨_, rfl⟩
        rw [hw3] at hb3 hg3 ⊢
        rw [hq3] at hg3 ⊢
        clear hw3
        have hle3 : w0.heap.size ≤ q3 := by rw [← hq3]; exact below_size ((below_step (Below.refl w0.heap.size w0) hb9))
        refine hK.out _ _ ⟨(pw_cell_below hb3 hHeld.1), (pw_cell_below hb3 hHeld.2)⟩ (fun hHeld => ?_)
        clear hK K
        refine norm_ (a' := ?_) ?_ ?_
        rotate_left
        · show Act.put _ (some 9) _ = _
          simp only [Act.put, List.setIfInBounds_toArray, List.set_cons_zero, List.set_cons_succ, i64_w, i32_w]
          rfl
        refine one_ (i := 7) (N := some 13) #[true, true, true, true, true, true, true, true, false, true, false] rfl rfl (by kernel_rfl) (by decide) (fun K hK => ?_)
        refine value_ (w1 := ?_) (v := ?_) (by rfl) rfl ?_ ?_
        rotate_left 2
        · go_simp
          constructor
          · rfl
          · rfl
        have hb7 := below_alloc (Below.refl w3.heap.size w3) (.cells (madeCells #[.slice none 0 0] l1.length) 27)
        have hg7 := heap_alloc_new w3 (.cells (madeCells #[.slice none 0 0] l1.length) 27)
        obtain ⟨q7, hq7⟩ : ∃ q, w3.heap.size = q := ⟨_, rfl⟩
        obtain ⟨w7, hw7⟩ : ∃ W, w3.alloc (.cells (madeCells #[.slice none 0 0] l1.length) 27) = W := ⟨_, rfl⟩
        rw [hw7] at hb7 hg7 ⊢
        rw [hq7] at hg7 ⊢
        clear hw7
        have hle7 : w0.heap.size ≤ q7 := by rw [← hq7]; exact below_size ((below_step ((below_step (Below.refl w0.heap.size w0) hb9)) hb3))
        refine hK.out _ _ ⟨(pw_cell_below hb7 hHeld.1), (pw_cell_below hb7 hHeld.2)⟩ (fun hHeld => ?_)
        clear hK K
        refine norm_ (a' := ?_) ?_ ?_
        rotate_left
        · show Act.put _ (some 13) _ = _
          simp only [Act.put, List.setIfInBounds_toArray, List.set_cons_zero, List.set_cons_succ, i64_w, i32_w]
          rfl
        refine pure_ (i := 8) (N := some 14) (v := ?_) (a' := ?_) #[true, true, true, true, true, true, true, true, true, true, false] rfl rfl (by kernel_rfl) (fun _ _ _ h => h) (Or.inl ⟨by rfl, ?_⟩) ?_ ?_
        rotate_left
        · intro w'
          go_simp
          with_reducible rfl
        rotate_left
        · simp only [Act.put, List.setIfInBounds_toArray, List.set_cons_zero, List.set_cons_succ, i64_w, i32_w]
          rfl
        exact norm_ (by first | (simp only [putAll, Act.put, List.setIfInBounds_toArray, List.set_cons_zero, List.set_cons_succ]; done) | (simp only [putAll, Act.put, List.setIfInBounds_toArray, List.set_cons_zero, List.set_cons_succ]; rfl)) (hCont (q3, q7, q9) _ ⟨(blk_below hg3 hb7), hg7, (blk_below hg9 (below_step hb3 hb7)), (below_step (below_step (below_step HB.out hb9) hb3) hb7), hle3, hle7, hle9, (blk_below HGz.out (below_step (below_step hb9 hb3) hb7)), (blk_below HGm.out (below_step (below_step hb9 hb3) hb7))⟩)
      · skip
        refine value_ (w1 := ?_) (v := ?_) (by rfl) rfl ?_ ?_
        rotate_left 2
        · go_simp
          constructor
          · rfl
          · rfl
        have hb7 := below_alloc (Below.refl w9.heap.size w9) (.cells (madeCells #[.slice none 0 0] l1.length) 27)
        have hg7 := heap_alloc_new w9 (.cells (madeCells #[.slice none 0 0] l1.length) 27)
        obtain ⟨q7, hq7⟩ : ∃ q, w9.heap.size = q := ⟨_, rfl⟩
        obtain ⟨w7, hw7⟩ : ∃ W, w9.alloc (.cells (madeCells #[.slice none 0 0] l1.length) 27) = W := ⟨_, rfl⟩
        rw [hw7] at hb7 hg7 ⊢
        rw [hq7] at hg7 ⊢
        clear hw7
        have hle7 : w0.heap.size ≤ q7 := by rw [← hq7]; exact below_size ((below_step (Below.refl w0.heap.size w0) hb9))
        refine hK.out _ _ ⟨(pw_cell_below hb7 hHeld.1), (pw_cell_below hb7 hHeld.2)⟩ (fun hHeld => ?_)
        clear hK K
        refine norm_ (a' := ?_) ?_ ?_
        rotate_left
        · show Act.put _ (some 13) _ = _
          simp only [Act.put, List.setIfInBounds_toArray, List.set_cons_zero, List.set_cons_succ, i64_w, i32_w]
          rfl
        refine one_ (i := 3) (N := some 9) #[true, true, true, true, true, true, true, true, false, true, false] rfl rfl (by kernel_rfl) (by decide) (fun K hK => ?_)
        refine value_ (w1 := ?_) (v := ?_) (by rfl) rfl ?_ ?_
        rotate_left 2
        · go_simp
          constructor
          · rfl
          · rfl
        have hb3 := below_alloc (Below.refl w7.heap.size w7) (.cells (madeCells #[.int .i64 0] n0) 2)
        have hg3 := heap_alloc_new w7 (.cells (madeCells #[.int .i64 0] n0) 2)
        obtain ⟨q3, hq3⟩ : ∃ q, w7.heap.size = q := ⟨_, rfl⟩
        obtain ⟨w3, hw3⟩ : ∃ W, w7.alloc (.cells (madeCells #[.int .i64 0] n0) 2) = W := ⟨_, rfl⟩
        rw [hw3] at hb3 hg3 ⊢
        rw [hq3] at hg3 ⊢
        clear hw3
        have hle3 : w0.heap.size ≤ q3 := by rw [← hq3]; exact below_size ((below_step ((below_step (Below.refl w0.heap.size w0) hb9)) hb7))
        refine hK.out _ _ ⟨(pw_cell_below hb3 hHeld.1), (pw_cell_below hb3 hHeld.2)⟩ (fun hHeld => ?_)
        clear hK K
        refine norm_ (a' := ?_) ?_ ?_
        rotate_left
        · show Act.put _ (some 9) _ = _
          simp only [Act.put, List.setIfInBounds_toArray, List.set_cons_zero, List.set_cons_succ, i64_w, i32_w]
          rfl
        refine pure_ (i := 8) (N := some 14) (v := ?_) (a' := ?_) #[true, true, true, true, true, true, true, true, true, true, false] rfl rfl (by kernel_rfl) (fun _ _ _ h => h) (Or.inl ⟨by rfl, ?_⟩) ?_ ?_
        rotate_left
        · intro w'
          go_simp
          with_reducible rfl
        rotate_left
        · simp only [Act.put, List.setIfInBounds_toArray, List.set_cons_zero, List.set_cons_succ, i64_w, i32_w]
          rfl
        exact norm_ (by first | (simp only [putAll, Act.put, List.setIfInBounds_toArray, List.set_cons_zero, List.set_cons_succ]; done) | (simp only [putAll, Act.put, List.setIfInBounds_toArray, List.set_cons_zero, List.set_cons_succ]; rfl)) (hCont (q3, q7, q9) _ ⟨hg3, (blk_below hg7 hb3), (blk_below hg9 (below_step hb7 hb3)), (below_step (below_step (below_step HB.out hb9) hb7) hb3), hle3, hle7, hle9, (blk_below HGz.out (below_step (below_step hb9 hb7) hb3)), (blk_below HGm.out (below_step (below_step hb9 hb7) hb3))⟩)
  rintro ⟨q3, q7, q9⟩ w9 ⟨hg3, hg7, hg9, hbw, hle3, hle7, hle9, hgz, hgm⟩
  simp only at hg3 hg7 hg9 hle3 hle7 hle9
  obtain ⟨⟨s0, s1⟩, f0, f1⟩ := blk2 hg9
  refine norm_ (a' := ?_) ?_ ?_
  rotate_left
  · simp only [putAll, Act.put, List.setIfInBounds_toArray, List.set_cons_zero, List.set_cons_succ]
    rfl
  refine last_ (i := 10) (N := none) #[true, true, true, true, true, true, true, true, true, true, true] rfl rfl (by kernel_rfl) (by decide) (fun K hK => ?_)
  refine skip_ (w1 := ?_) (by rfl) rfl ?_ ?_
  rotate_left
  · go_simp
    rfl
  refine hK.out _ _ ?_
  clear hK K
  refine done_ (by kernel_rfl) ?_
  clear s0 s1 f0 f1 m0 m1
  have hne : q9 ≠ q7 := fun he => by
    rw [he, hg7] at hg9
    injection hg9 with h9
    injection h9 with _ h9
    exact absurd h9 (by decide)
  have hne3 : q9 ≠ q3 := fun he => by
    rw [he, hg3] at hg9
    injection hg9 with h9
    injection h9 with _ h9
    exact absurd h9 (by decide)
  have hlz : w.heap.size + 1 < w0.heap.size := blk_lt HGz.out
  have hg9a := blkput2 hg9 (.slice (some ⟨q3, 0, none⟩) n0 n0) (.slice (some ⟨q7, 0, none⟩) l1.length l1.length)
  have hg7a := blk_far (p := ⟨q9, 1, none⟩) (blk_far (p := ⟨q9, 0, none⟩) hg7 (Ne.symm hne) (.slice (some ⟨q3, 0, none⟩) n0 n0)) (Ne.symm hne) (.slice (some ⟨q7, 0, none⟩) l1.length l1.length)
  have hg3a := blk_far (p := ⟨q9, 1, none⟩) (blk_far (p := ⟨q9, 0, none⟩) hg3 (Ne.symm hne3) (.slice (some ⟨q3, 0, none⟩) n0 n0)) (Ne.symm hne3) (.slice (some ⟨q7, 0, none⟩) l1.length l1.length)
  have hb1 : Below w.heap.size w _ := below_set (j := 1) (v := (.slice (some ⟨q7, 0, none⟩) l1.length l1.length)) (below_set (j := 0) (v := (.slice (some ⟨q3, 0, none⟩) n0 n0)) hbw (show w.heap.size ≤ q9 by omega)) (show w.heap.size ≤ q9 by omega)
  have hz1 := blk_far (p := ⟨q9, 1, none⟩) (blk_far (p := ⟨q9, 0, none⟩) hgz (show w.heap.size + 1 ≠ q9 by omega) (.slice (some ⟨q3, 0, none⟩) n0 n0)) (show w.heap.size + 1 ≠ q9 by omega) (.slice (some ⟨q7, 0, none⟩) l1.length l1.length)
  have hm1 := blk_far (p := ⟨q9, 1, none⟩) (blk_far (p := ⟨q9, 0, none⟩) hgm (show w.heap.size ≠ q9 by omega) (.slice (some ⟨q3, 0, none⟩) n0 n0)) (show w.heap.size ≠ q9 by omega) (.slice (some ⟨q7, 0, none⟩) l1.length l1.length)
  obtain ⟨w1, hw1⟩ : ∃ W, (w9.setCell ⟨q9, 0, none⟩ (.slice (some ⟨q3, 0, none⟩) n0 n0)).setCell ⟨q9, 1, none⟩ (.slice (some ⟨q7, 0, none⟩) l1.length l1.length) = W := ⟨_, rfl⟩
  rw [hw1] at hg9a hg7a hg3a hb1 hz1 hm1 ⊢
  clear hw1 hg3 hg7 hg9 hbw
  have hM0 : Mem w1 w.heap.size 1 (fun j => if j = 0 then some ⟨q3, 0, none⟩ else none) (fun j => q3) (zeroX n0 l1) := by
    refine ⟨fun i hi hp => ?_, fun i j hi hj _ _ _ => by omega, fun i hi => ?_, fun i hi hp cs t fr hc => by
      have hc' : w1.heap[q3]? = some (.cells cs t fr) := hc
      rw [hg3a] at hc'
      injection hc' with hc'
      injection hc' with hc'
      have := Zh0.out
      rw [← hc']
      simp [size_madeCells]
      omega⟩
    · obtain rfl : i = 0 := (by omega)
      refine ⟨rfl, (show w.heap.size ≤ q3 by omega), [], ?_⟩
      have e : (nums .i64 (zeroX n0 l1 0) ++ []).toArray = madeCells #[.int .i64 0] n0 := by
        apply Array.toList_inj.mp
        rw [toList_madeCells_one]
        simp [zeroX, nums]
      rw [e]
      exact hg3a
    · obtain rfl : i = 0 := (by omega)
      have := Zh0.out
      simp [zeroX]
      omega
  have hH0 : w1.heap[q7]? = some (.cells (heads l1.length (fun j => if j = 0 then some ⟨q3, 0, none⟩ else none) (cutX 0 (zeroX n0 l1))).toArray 27 (0, 0)) := by
    rw [heads_nil _ _ _ (fun j hj => if_neg (by omega)), ← toList_madeCells_one]
    exact hg7a
  have LB := Aside0.mk hb1
  have LM := Aside0.mk hM0
  have LH := Aside0.mk hH0
  have LG := Aside0.mk hg9a
  have LZ := Aside0.mk hz1
  have LE := Aside0.mk hne
  have LS := Aside0.mk (show w.heap.size + 1 < q7 ∧ w.heap.size + 1 < q9 ∧ w.heap.size + 1 < q3 by omega)
  clear hg7a hg3a hb1 hM0 hH0 hg9a hz1 hle3 hle7 hle9 hlz hne hne3 HB HGm HGz hgz
  clear hHeld
  obtain ⟨m0, m1⟩ := (show _ ∧ _ from ⟨blk_cell hm1 0, blk_cell hm1 1⟩)
  clear hm1 hgm
  go_wp2_with fail
  clear m0 m1
  go_loopg [18] (l1.length + 1) (fun kq v18 w' => ∃ (i : Nat) (V : Nat → Option Addr) (G : Nat → Nat), v18 = .int .i64 (i : Int) ∧ Aside0 (i + kq = l1.length + 1) ∧ Aside0 (1 ≤ kq) ∧ Aside0 (V 0 = some ⟨q3, 0, none⟩ ∧ ∀ j, i < j → V j = none) ∧ Aside0 (Mem w' w.heap.size (i + 1) V G (zeroX n0 l1)) ∧ Aside0 (w'.heap[q7]? = some (.cells (heads l1.length V (cutX i (zeroX n0 l1))).toArray 27 (0, 0))) ∧ Aside0 (w'.heap[q9]? = some (.cells #[.slice (some ⟨q3, 0, none⟩) n0 n0, .slice (some ⟨q7, 0, none⟩) l1.length l1.length] 30 (0, 0))) ∧ Aside0 (w'.heap[w.heap.size + 1]? = some (.cells #[.slice none 0 0, .slice none 0 0] 30 (0, 0))) ∧ Aside0 (Below w.heap.size w w'))
  case atStart => exact ⟨0, _, _, rfl, ⟨by omega⟩, ⟨by omega⟩, ⟨rfl, fun j hj => if_neg (by omega)⟩, LM, LH, LG, LZ, LB⟩
  case round =>
    clear LB LM LH LG LZ
    obtain ⟨i, V, G, rfl, HI, HI1, HV, LM, LH, LG, LZ, LB⟩ := hrel
    cases gk with
    | zero => exact absurd HI1.out (by omega)
    | succ k1 =>
      by_cases ci : i < l1.length
      · have cib : decide ((i : Int) < (l1.length : Int)) = true := decide_eq_true (by omega)
        have hii : (i : Int) < (l1.length : Int) := by omega
        have hw2 : wrap64 ((i : Int) + 1) = (i : Int) + 1 := by have := Zh1.out; unfold wrap64; omega
        obtain ⟨ad, rfl, hce, hce1⟩ := at_T57 (Kd.C_below Zhr1.out LB.out) (i : Int) (by omega) hii
        rw [Int.toNat_natCast] at hce hce1
        obtain ⟨x, hx⟩ : ∃ x, rd_T57 l1 (i : Int) = x := ⟨_, rfl⟩
        rw [hx] at hce hce1
        have HX := Aside0.mk (show zeroX n0 l1 (i + 1) = zrow x by
          rw [← hx]
          simp [zeroX, rd_T57, List.getD_eq_getElem?_getD, List.getElem?_eq_getElem ci])
        clear hx
        have LB2 := Aside0.mk (below_alloc LB.out (.cells #[.int .i64 x.f0, .int .u64 x.f1] 57))
        have HA := Aside0.mk (heap_alloc_new wr (.cells #[.int .i64 x.f0, .int .u64 x.f1] 57))
        obtain ⟨a0, a1⟩ := (show _ ∧ _ from ⟨blk_cell HA.out 0, blk_cell HA.out 1⟩)
        have z0 := blk_frozen HA.out 0
        have z1 := blk_frozen HA.out 1
        have hbA : Below wr.heap.size wr (wr.alloc (.cells #[.int .i64 x.f0, .int .u64 x.f1] 57)) := below_alloc (Below.refl _ _) _
        by_cases h1 : 1 ≤ x.f0
        · have h1b : decide (x.f0 ≥ 1) = true := decide_eq_true h1
          by_cases h2 : x.f0 ≤ 256
          · have h2b : decide (x.f0 ≤ 256) = true := decide_eq_true h2
            have hmk5 := print_make_int (P := Try.prog) 27 2 (.int .i64 0) 8 Try.underlying27 info2 rfl (by decide) x.f0 (by omega) (by omega)
            have hzr : zrow x = List.replicate x.f0.toNat 0 := by
              unfold zrow
              rw [if_pos ⟨h1, h2⟩]
            obtain ⟨m, hm⟩ : ∃ m, x.f0.toNat = m := ⟨_, rfl⟩
            rw [hm] at hmk5 hzr
            have HXM := Aside0.mk (show m ≤ 256 by omega)
            have HXZ := Aside0.mk (HX.out.trans hzr)
            clear hzr hm
            go_wp2_with fail
            clear h1 h2 hce hce1 z0 z1
            obtain ⟨wa, hwa⟩ : ∃ W, wr.alloc (.cells #[.int .i64 x.f0, .int .u64 x.f1] 57) = W := ⟨_, rfl⟩
            rw [hwa] at HA LB2 a0 a1 hbA ⊢
            clear hwa
            obtain ⟨⟨q0, q1⟩, _, _⟩ := blk2 (blk_below LG.out hbA)
            refine start_ (n := 8) (S := fun w' => w'.cell? ⟨q9, 1, none⟩ = some (.slice (some ⟨q7, 0, none⟩) l1.length l1.length) ∧ w'.cell? ⟨wr.heap.size, 0, none⟩ = some (.int .i64 x.f0)) (ds := [7]) #[false, false, false, false, false, false, false, false] (by kernel_rfl) rfl rfl ⟨q1, a0⟩ (fun hHeld => ?_)
            refine pure_ (i := 0) (N := some 31) (v := ?_) (a' := ?_) #[true, false, false, false, false, false, false, false] rfl rfl (by kernel_rfl) (fun _ _ _ h => h) (Or.inl ⟨by rfl, ?_⟩) ?_ ?_
            rotate_left
            · intro w'
              go_simp
              with_reducible rfl
            rotate_left
            · simp only [Act.put, List.setIfInBounds_toArray, List.set_cons_zero, List.set_cons_succ, i64_w, i32_w]
              rfl
            refine pure_ (i := 2) (N := some 33) (v := ?_) (a' := ?_) #[true, false, true, false, false, false, false, false] rfl rfl (by kernel_rfl) (fun _ _ _ h => h) (Or.inl ⟨by rfl, ?_⟩) ?_ ?_
            rotate_left
            · intro w'
              go_simp
              with_reducible rfl
            rotate_left
            · simp only [Act.put, List.setIfInBounds_toArray, List.set_cons_zero, List.set_cons_succ, i64_w, i32_w]
              rfl
            refine pure_ (i := 3) (N := some 34) (v := ?_) (a' := ?_) #[true, false, true, true, false, false, false, false] rfl rfl (by kernel_rfl) (fun _ _ _ h => h) (Or.inl ⟨by rfl, ?_⟩) ?_ ?_
            rotate_left
            · intro w'
              go_simp
              with_reducible rfl
            rotate_left
            · simp only [Act.put, List.setIfInBounds_toArray, List.set_cons_zero, List.set_cons_succ, i64_w, i32_w]
              rfl
            refine take_ (i := 1) (N := some 32) (v := ?_) (a' := ?_) #[true, true, true, true, false, false, false, false] rfl rfl (by kernel_rfl) (fun _ _ _ h => h) (Or.inl ⟨by rfl, ?_⟩) hHeld ?_ ?_
            rotate_left
            · rintro w' ⟨s0, s1⟩
              go_simp
              with_reducible rfl
            rotate_left
            · simp only [Act.put, List.setIfInBounds_toArray, List.set_cons_zero, List.set_cons_succ, i64_w, i32_w]
              rfl
            refine take_ (i := 4) (N := some 35) (v := ?_) (a' := ?_) #[true, true, true, true, true, false, false, false] rfl rfl (by kernel_rfl) (fun _ _ _ h => h) (Or.inl ⟨by rfl, ?_⟩) hHeld ?_ ?_
            rotate_left
            · rintro w' ⟨s0, s1⟩
              go_simp
              with_reducible rfl
            rotate_left
            · simp only [Act.put, List.setIfInBounds_toArray, List.set_cons_zero, List.set_cons_succ, i64_w, i32_w]
              rfl
            refine one_ (i := 5) (N := some 36) #[true, true, true, true, true, true, false, false] rfl rfl (by kernel_rfl) (by decide) (fun K hK => ?_)
            refine value_ (w1 := ?_) (v := ?_) (by rfl) rfl ?_ ?_
            rotate_left 2
            · go_simp
              constructor
              · rfl
              · rfl
            have hb5 : Below wa.heap.size wa (wa.alloc (.cells (madeCells #[.int .i64 0] m) 2)).drew := below_drew1 (below_alloc (Below.refl wa.heap.size wa) (.cells (madeCells #[.int .i64 0] m) 2))
            have hR5 := Kd.R_drew (made_R wa m (by have := HXM.out; omega))
            obtain ⟨q5, hq5⟩ : ∃ q, wa.heap.size = q := ⟨_, rfl⟩
            obtain ⟨w5, hw5⟩ : ∃ W, (wa.alloc (.cells (madeCells #[.int .i64 0] m) 2)).drew = W := ⟨_, rfl⟩
            rw [hw5] at hb5 hR5 ⊢
            clear hw5
            obtain ⟨A4, c4, g4, e4, hM4⟩ := Mem.snoc (LM.out.below hbA) hb5 (below_size LB2.out) hR5
            replace hM4 := hM4 _ rfl
            injection e4 with e4 e6 e5
            clear e5 e6
            subst e4
            have HM4 := Aside0.mk hM4
            clear hM4 hR5
            rw [hq5] at HM4 ⊢
            clear hq5
            have hH4 := blk_below (blk_below LH.out hbA) hb5
            have hs7 := cellH hH4 (show i < (heads l1.length V (cutX i (zeroX n0 l1))).length by rw [heads_length]; exact ci)
            have hf7 := blk_frozen hH4 i
            refine hK.out _ _ ⟨(pw_cell_below hb5 q1), (pw_cell_below hb5 a0)⟩ (fun hHeld => ?_)
            clear hK K
            refine norm_ (a' := ?_) ?_ ?_
            rotate_left
            · show Act.put _ (some 36) _ = _
              simp only [Act.put, List.setIfInBounds_toArray, List.set_cons_zero, List.set_cons_succ, i64_w, i32_w]
              rfl
            refine pure_ (i := 6) (N := some 37) (v := ?_) (a' := ?_) #[true, true, true, true, true, true, true, false] rfl rfl (by kernel_rfl) (fun _ _ _ h => h) (Or.inl ⟨by rfl, ?_⟩) ?_ ?_
            rotate_left
            · intro w'
              go_simp
              with_reducible rfl
            rotate_left
            · simp only [Act.put, List.setIfInBounds_toArray, List.set_cons_zero, List.set_cons_succ, i64_w, i32_w]
              rfl
            refine last_ (i := 7) (N := none) #[true, true, true, true, true, true, true, true] rfl rfl (by kernel_rfl) (by decide) (fun K hK => ?_)
            refine skip_ (w1 := ?_) (by rfl) rfl ?_ ?_
            rotate_left
            · go_simp
              rfl
            refine hK.out _ _ ?_
            clear hK K
            refine done_ (by kernel_rfl) ?_
            go_wp2
            have hcs := cut_stepX (n := l1.length) (V := V) (A4 := some ⟨q5, 0, none⟩) HXZ.out
            rw [List.length_replicate] at hcs
            have hput := blk_put hH4 i (.slice (some ⟨q5, 0, none⟩) m m) (by rw [List.setIfInBounds_toArray, hcs])
            go_roundg k1
            case measure => omega
            case rel =>
              refine ⟨i + 1, (fun j => if j = i + 1 then some ⟨q5, 0, none⟩ else V j), (fun j => if j = i + 1 then g4 else G j), by simp [hw2], ⟨by have := HI.out; omega⟩, ⟨by have := HI.out; omega⟩, ⟨?_, fun j hj => ?_⟩, ⟨?_⟩, ⟨hput⟩, ⟨?_⟩, ⟨?_⟩, ⟨?_⟩⟩
              · show (if 0 = i + 1 then some ⟨q5, 0, none⟩ else V 0) = some ⟨q3, 0, none⟩
                rw [if_neg (by omega)]
                exact HV.out.1
              · show (if j = i + 1 then some ⟨q5, 0, none⟩ else V j) = none
                rw [if_neg (by omega)]
                exact HV.out.2 j (by omega)
              · exact (HM4.out.congr (fun j hj => by
                  by_cases e : j = i + 1
                  · rw [if_pos e, e, HXZ.out]
                  · rw [if_neg e]) (fun j _ _ => ⟨rfl, rfl⟩)).far hH4 (by decide) i _
              · exact blk_far (p := ⟨q7, i, none⟩) (blk_below (blk_below LG.out hbA) hb5) LE.out _
              · exact blk_far (p := ⟨q7, i, none⟩) (blk_below (blk_below LZ.out hbA) hb5) (show w.heap.size + 1 ≠ q7 by have := LS.out; omega) _
              · exact below_set (below_step LB2.out hb5) (show w.heap.size ≤ q7 by have := LS.out; omega)
          · have h2b : decide (x.f0 ≤ 256) = false := decide_eq_false h2
            have hzr : zrow x = [] := by
              unfold zrow
              rw [if_neg (by omega)]
            go_wp2
            go_roundg k1
            case measure => omega
            case rel =>
              refine ⟨i + 1, V, G, by simp [hw2], ⟨by have := HI.out; omega⟩, ⟨by have := HI.out; omega⟩, ⟨HV.out.1, fun j hj => HV.out.2 j (by omega)⟩, ⟨(LM.out.below hbA).nil_snoc (by rw [HX.out, hzr]; rfl)⟩, ⟨?_⟩, ⟨blk_below LG.out hbA⟩, ⟨blk_below LZ.out hbA⟩, LB2⟩
              rw [cut_nilX (HX.out.trans hzr)]
              exact blk_below LH.out hbA
        · have h1b : decide (x.f0 ≥ 1) = false := decide_eq_false h1
          have hzr : zrow x = [] := by
            unfold zrow
            rw [if_neg (by omega)]
          go_wp2
          go_roundg k1
          case measure => omega
          case rel =>
            refine ⟨i + 1, V, G, by simp [hw2], ⟨by have := HI.out; omega⟩, ⟨by have := HI.out; omega⟩, ⟨HV.out.1, fun j hj => HV.out.2 j (by omega)⟩, ⟨(LM.out.below hbA).nil_snoc (by rw [HX.out, hzr]; rfl)⟩, ⟨?_⟩, ⟨blk_below LG.out hbA⟩, ⟨blk_below LZ.out hbA⟩, LB2⟩
            rw [cut_nilX (HX.out.trans hzr)]
            exact blk_below LH.out hbA
      · have cib : decide ((i : Int) < (l1.length : Int)) = false := decide_eq_false (by omega)
        obtain rfl : i = l1.length := by have := HI.out; omega
        obtain ⟨⟨q0, q1⟩, _, _⟩ := blk2 LG.out
        obtain ⟨⟨z0, z1⟩, y0, y1⟩ := blk2 LZ.out
        go_wp2
        refine bodyPost_ret (results_cell_row rfl _ _ (w.heap.size + 1) 30 #[.slice (some ⟨q3, 0, none⟩) n0 n0, .slice (some ⟨q7, 0, none⟩) l1.length l1.length] (0, 0) _ rfl (blkput2 LZ.out _ _) Try.underlying30 rfl (by kernel_rfl)) rfl ?_
        have hz : q7 ≠ w.heap.size + 1 := by have := LS.out; omega
        refine ⟨_, _, rfl, ⟨V, G, some ⟨q7, 0, none⟩, ?_, rfl, by have := Zh1.out; omega, fun hp => ⟨q7, rfl, (show w.heap.size ≤ q7 by have := LS.out; omega), ?_⟩, ?_⟩, below_set (below_set LB.out (by omega)) (by omega)⟩
        · rw [HV.out.1]
          simp [zeroX]
        · have := blk_far (p := ⟨w.heap.size + 1, 1, none⟩) (blk_far (p := ⟨w.heap.size + 1, 0, none⟩) LH.out hz (.slice (some ⟨q3, 0, none⟩) n0 n0)) hz (.slice (some ⟨q7, 0, none⟩) l1.length l1.length)
          rw [heads_full (Nat.le_refl _)] at this
          exact this
        · exact (LM.out.far LZ.out (by decide) 0 _).far (blk_put LZ.out 0 _ rfl) (by decide) 1 _
theorem view_Zero.calls (A0_0 : Option Addr) (c0_0 : Nat) (l0_0 : List Int) (A0_1 : Option Addr) (c0_1 : Nat) (l0_1 : List S57) (A0_2 : Option Addr) (c0_2 : Nat) (l0_2 : List Int) (A0_3 : Option Addr) (c0_3 : Nat) (l0_3 : List S48) (r1 : List Int) (r2 : List (List Int)) (w : World) (hr0_0 : Kd.C (Kd.int .u64) w A0_0 l0_0.length l0_0) (hc0_0 : l0_0.length ≤ c0_0) (hr0_1 : Kd.C k57 w A0_1 l0_1.length l0_1) (hc0_1 : l0_1.length ≤ c0_1) (hr0_2 : Kd.C (Kd.int .u64) w A0_2 l0_2.length l0_2) (hc0_2 : l0_2.length ≤ c0_2) (hr0_3 : Kd.C k48 w A0_3 l0_3.length l0_3) (hc0_3 : l0_3.length ≤ c0_3) (h : view_Zero.f l0_0 l0_1 l0_2 l0_3 = some (r1, r2)) :
    Calls Try.prog 9 #[.agg #[.slice A0_0 l0_0.length c0_0, .slice A0_1 l0_1.length c0_1, .slice A0_2 l0_2.length c0_2, .slice A0_3 l0_3.length c0_3]] w fun e w' => ∃ v0_ v1_ : Value, e = .returned (.agg #[v0_, v1_]) ∧ Kd.V (Kd.int .i64) 2 w' w.heap.size (fun k_ => (w.heap.size ≤ k_)) v0_ r1 ∧ Kd.V (Kd.slice 2 (Kd.int .i64)) 27 w' w.heap.size (fun k_ => (w.heap.size ≤ k_)) v1_ r2 ∧ Below w.heap.size w w' := by
  unfold view_Zero.f at h
  split at h
  · rename_i hc
    injection h with h
    injection h with h1 h2
    subst h1; subst h2
    refine (view_Zero.out A0_0 c0_0 l0_0.length A0_1 c0_1 l0_1 A0_2 c0_2 l0_2.length A0_3 c0_3 l0_3.length w hr0_1 hc.1 hc.2).mono ?_
    rintro e w' ⟨v0, v1, rfl, hM, hb⟩
    obtain ⟨s0, s1⟩ := hM.shared (b0 := w.heap.size) (b1 := w.heap.size)
    rw [rows_zeroX] at s1
    exact ⟨v0, v1, rfl, s0, s1, hb⟩
  · cases h
end Go.Proofs.Ytlnccdgclaalbaa.PJ
