/- The reader's methods: Unsigned, Signed, Left, At, Err. -/
import Derived.Test.YtgpdaihfjnihhaaHandReader
namespace Go.Proofs.Ytgpdaihfjnihhaa.PJ
open Go.RowKit Go.Proofs.YtgpdaihfjnihhaaW.PrintWords Go.Proofs.YtgpdaihfjnihhaaW.PrintLast Go.Proofs.YtgpdaihfjnihhaaW.PrintMore
set_option linter.unusedSimpArgs false
set_option linter.unusedVariables false

set_option maxHeartbeats 8000000 in
set_option maxRecDepth 100000 in
theorem leb_Unsigned.calls (k : Nat) (g : Nat) (ok : Nat → Prop) (l r : List Int) (at_ : Nat) (e n K err : Int) (w : World) (hR : Rdr 72 w g ok l at_ e) (hat : at_ ≤ l.length) (hr : l.drop at_ = r) (h : leb_Get.f k r = some (n, K, err)) :
    Calls Try.prog 24 #[.pointer (some ⟨g, 0, none⟩)] w fun x w' =>
      x = .returned (.int .u64 (if e = 0 ∧ err = 0 then n else 0)) ∧ w.grownBy w' (some g) ∧ Rdr 72 w' g ok l (if e = 0 ∧ err = 0 then wrap64 (at_ + K) else at_) (if e = 0 then err else e) := by
  have HR := Aside0.mk hR
  have HA := Aside0.mk hat
  have HD := Aside0.mk hr
  have HH := Aside0.mk h
  clear hR hat hr h
  obtain ⟨x, hx⟩ : ∃ x, (if e = 0 ∧ err = 0 then n else 0) = x := ⟨_, rfl⟩
  obtain ⟨a, ha⟩ : ∃ a, (if e = 0 ∧ err = 0 then wrap64 (at_ + K) else (at_ : Int)) = a := ⟨_, rfl⟩
  obtain ⟨e1, he1⟩ : ∃ e1, (if e = 0 then err else e) = e1 := ⟨_, rfl⟩
  rw [hx, ha, he1]
  have HX := Aside0.mk hx
  have HAA := Aside0.mk ha
  have HE := Aside0.mk he1
  clear hx ha he1
  go_enter Try.func24, Try.ntmps24
  go_wp2_with fail
  refine (leb_nextU.calls k g ok l r at_ e n K err _ HR.out HA.out HD.out HH.out).mono ?_
  rintro y w1 ⟨rfl, hg, hR1⟩
  rw [HX.out]
  rw [HAA.out, HE.out] at hR1
  have HG := Aside0.mk hg
  have HR1 := Aside0.mk hR1
  clear hg hR1
  go_wp2_with fail
  go_ret
  exact ⟨rfl, HG.out, HR1.out⟩
set_option maxHeartbeats 8000000 in
set_option maxRecDepth 100000 in
theorem leb_Signed.calls (k : Nat) (g : Nat) (ok : Nat → Prop) (l r : List Int) (at_ : Nat) (e n K err : Int) (w : World) (hR : Rdr 72 w g ok l at_ e) (hat : at_ ≤ l.length) (hr : l.drop at_ = r) (h : leb_GetSigned.f k r = some (n, K, err)) :
    Calls Try.prog 26 #[.pointer (some ⟨g, 0, none⟩)] w fun x w' =>
      x = .returned (.int .i64 (if e = 0 ∧ err = 0 then n else 0)) ∧ w.grownBy w' (some g) ∧ Rdr 72 w' g ok l (if e = 0 ∧ err = 0 then wrap64 (at_ + K) else at_) (if e = 0 then err else e) := by
  have HR := Aside0.mk hR
  have HA := Aside0.mk hat
  have HD := Aside0.mk hr
  have HH := Aside0.mk h
  clear hR hat hr h
  obtain ⟨x, hx⟩ : ∃ x, (if e = 0 ∧ err = 0 then n else 0) = x := ⟨_, rfl⟩
  obtain ⟨a, ha⟩ : ∃ a, (if e = 0 ∧ err = 0 then wrap64 (at_ + K) else (at_ : Int)) = a := ⟨_, rfl⟩
  obtain ⟨e1, he1⟩ : ∃ e1, (if e = 0 then err else e) = e1 := ⟨_, rfl⟩
  rw [hx, ha, he1]
  have HX := Aside0.mk hx
  have HAA := Aside0.mk ha
  have HE := Aside0.mk he1
  clear hx ha he1
  go_enter Try.func26, Try.ntmps26
  go_wp2_with fail
  refine (leb_nextS.calls k g ok l r at_ e n K err _ HR.out HA.out HD.out HH.out).mono ?_
  rintro y w1 ⟨rfl, hg, hR1⟩
  rw [HX.out]
  rw [HAA.out, HE.out] at hR1
  have HG := Aside0.mk hg
  have HR1 := Aside0.mk hR1
  clear hg hR1
  go_wp2_with fail
  go_ret
  exact ⟨rfl, HG.out, HR1.out⟩
set_option maxHeartbeats 8000000 in
set_option maxRecDepth 100000 in
theorem leb_Left.calls (g : Nat) (ok : Nat → Prop) (l : List Int) (at_ e : Int) (w : World) (hR : Rdr 72 w g ok l at_ e) :
    Calls Try.prog 30 #[.pointer (some ⟨g, 0, none⟩)] w fun x w' => x = .returned (.int .i64 (wrap64 ((l.length : Int) - at_))) ∧ Drawn0 w w' := by
  obtain ⟨A, c, hc, hg, hF⟩ := hR
  have c0 : w.cell? ⟨g, 0, none⟩ = some (.slice A l.length c) := by unfold World.cell?; rw [hg]; rfl
  have c1 : w.cell? ⟨g, 1, none⟩ = some (.int .i64 at_) := by unfold World.cell?; rw [hg]; rfl
  clear hc hg hF
  go_enter Try.func30, Try.ntmps30
  go_wp2
  refine start_ (n := 11) (S := fun w' => w'.cell? ⟨g, 0, none⟩ = some (.slice A l.length c) ∧ w'.cell? ⟨g, 1, none⟩ = some (.int .i64 at_)) (ds := []) #[false, false, false, false, false, false, false, false, false, false, false] (by kernel_rfl) rfl rfl ⟨c0, c1⟩ (fun hHeld => ?_)
  refine pure_ (i := 0) (N := some 5) (v := ?_) (a' := ?_) #[true, false, false, false, false, false, false, false, false, false, false] rfl rfl (by kernel_rfl) (fun _ _ _ h => h) (Or.inl ⟨by rfl, ?_⟩) ?_ ?_
  rotate_left
  · intro w'
    go_simp
    with_reducible rfl
  rotate_left
  · simp only [Act.put, List.setIfInBounds_toArray, List.set_cons_zero, List.set_cons_succ, i64_w, i32_w]
    rfl
  refine pure_ (i := 1) (N := some 6) (v := ?_) (a' := ?_) #[true, true, false, false, false, false, false, false, false, false, false] rfl rfl (by kernel_rfl) (fun _ _ _ h => h) (Or.inl ⟨by rfl, ?_⟩) ?_ ?_
  rotate_left
  · intro w'
    go_simp
    with_reducible rfl
  rotate_left
  · simp only [Act.put, List.setIfInBounds_toArray, List.set_cons_zero, List.set_cons_succ, i64_w, i32_w]
    rfl
  refine pure_ (i := 2) (N := some 7) (v := ?_) (a' := ?_) #[true, true, true, false, false, false, false, false, false, false, false] rfl rfl (by kernel_rfl) (fun _ _ _ h => h) (Or.inl ⟨by rfl, ?_⟩) ?_ ?_
  rotate_left
  · intro w'
    go_simp
    with_reducible rfl
  rotate_left
  · simp only [Act.put, List.setIfInBounds_toArray, List.set_cons_zero, List.set_cons_succ, i64_w, i32_w]
    rfl
  refine pure_ (i := 5) (N := some 10) (v := ?_) (a' := ?_) #[true, true, true, false, false, true, false, false, false, false, false] rfl rfl (by kernel_rfl) (fun _ _ _ h => h) (Or.inl ⟨by rfl, ?_⟩) ?_ ?_
  rotate_left
  · intro w'
    go_simp
    with_reducible rfl
  rotate_left
  · simp only [Act.put, List.setIfInBounds_toArray, List.set_cons_zero, List.set_cons_succ, i64_w, i32_w]
    rfl
  refine pure_ (i := 6) (N := some 11) (v := ?_) (a' := ?_) #[true, true, true, false, false, true, true, false, false, false, false] rfl rfl (by kernel_rfl) (fun _ _ _ h => h) (Or.inl ⟨by rfl, ?_⟩) ?_ ?_
  rotate_left
  · intro w'
    go_simp
    with_reducible rfl
  rotate_left
  · simp only [Act.put, List.setIfInBounds_toArray, List.set_cons_zero, List.set_cons_succ, i64_w, i32_w]
    rfl
  refine pure_ (i := 7) (N := some 12) (v := ?_) (a' := ?_) #[true, true, true, false, false, true, true, true, false, false, false] rfl rfl (by kernel_rfl) (fun _ _ _ h => h) (Or.inl ⟨by rfl, ?_⟩) ?_ ?_
  rotate_left
  · intro w'
    go_simp
    with_reducible rfl
  rotate_left
  · simp only [Act.put, List.setIfInBounds_toArray, List.set_cons_zero, List.set_cons_succ, i64_w, i32_w]
    rfl
  refine take_ (i := 3) (N := some 8) (v := ?_) (a' := ?_) #[true, true, true, true, false, true, true, true, false, false, false] rfl rfl (by kernel_rfl) (fun _ _ _ h => h) (Or.inl ⟨by rfl, ?_⟩) hHeld ?_ ?_
  rotate_left
  · rintro w' ⟨s0, s1⟩
    go_simp
    with_reducible rfl
  rotate_left
  · simp only [Act.put, List.setIfInBounds_toArray, List.set_cons_zero, List.set_cons_succ, i64_w, i32_w]
    rfl
  refine pure_ (i := 4) (N := some 9) (v := ?_) (a' := ?_) #[true, true, true, true, true, true, true, true, false, false, false] rfl rfl (by kernel_rfl) (fun _ _ _ h => h) (Or.inl ⟨by rfl, ?_⟩) ?_ ?_
  rotate_left
  · intro w'
    go_simp
    with_reducible rfl
  rotate_left
  · simp only [Act.put, List.setIfInBounds_toArray, List.set_cons_zero, List.set_cons_succ, i64_w, i32_w]
    rfl
  refine take_ (i := 8) (N := some 13) (v := ?_) (a' := ?_) #[true, true, true, true, true, true, true, true, true, false, false] rfl rfl (by kernel_rfl) (fun _ _ _ h => h) (Or.inl ⟨by rfl, ?_⟩) hHeld ?_ ?_
  rotate_left
  · rintro w' ⟨s0, s1⟩
    go_simp
    with_reducible rfl
  rotate_left
  · simp only [Act.put, List.setIfInBounds_toArray, List.set_cons_zero, List.set_cons_succ, i64_w, i32_w]
    rfl
  refine pure_ (i := 9) (N := some 14) (v := ?_) (a' := ?_) #[true, true, true, true, true, true, true, true, true, true, false] rfl rfl (by kernel_rfl) (fun _ _ _ h => h) (Or.inl ⟨by rfl, ?_⟩) ?_ ?_
  rotate_left
  · intro w'
    go_simp
    with_reducible rfl
  rotate_left
  · simp only [Act.put, List.setIfInBounds_toArray, List.set_cons_zero, List.set_cons_succ, i64_w, i32_w]
    rfl
  refine pure_ (i := 10) (N := some 2) (v := ?_) (a' := ?_) #[true, true, true, true, true, true, true, true, true, true, true] rfl rfl (by kernel_rfl) (fun _ _ _ h => h) (Or.inl ⟨by rfl, ?_⟩) ?_ ?_
  rotate_left
  · intro w'
    go_simp
    with_reducible rfl
  rotate_left
  · simp only [Act.put, List.setIfInBounds_toArray, List.set_cons_zero, List.set_cons_succ, i64_w, i32_w]
    rfl
  refine done_ (by kernel_rfl) ?_
  try go_wp2
  go_ret
  exact ⟨rfl, ⟨1, rfl⟩⟩
set_option maxHeartbeats 8000000 in
set_option maxRecDepth 100000 in
theorem leb_At.calls (g : Nat) (ok : Nat → Prop) (l : List Int) (at_ e : Int) (w : World) (hR : Rdr 72 w g ok l at_ e) :
    Calls Try.prog 31 #[.pointer (some ⟨g, 0, none⟩)] w fun x w' => x = .returned (.int .i64 at_) ∧ Drawn0 w w' := by
  obtain ⟨A, c, hc, hg, hF⟩ := hR
  have c1 : w.cell? ⟨g, 1, none⟩ = some (.int .i64 at_) := by unfold World.cell?; rw [hg]; rfl
  clear hc hg hF
  go_enter Try.func31, Try.ntmps31
  go_wp2
  go_ret
  exact ⟨rfl, by repeat (first | exact Drawn0.refl _ | apply Drawn0.step)⟩
set_option maxHeartbeats 8000000 in
set_option maxRecDepth 100000 in
theorem leb_Err.calls (g : Nat) (ok : Nat → Prop) (l : List Int) (at_ e : Int) (w : World) (hR : Rdr 72 w g ok l at_ e) :
    Calls Try.prog 32 #[.pointer (some ⟨g, 0, none⟩)] w fun x w' => x = .returned (.int .i64 e) ∧ Drawn0 w w' := by
  obtain ⟨A, c, hc, hg, hF⟩ := hR
  have c2 : w.cell? ⟨g, 2, none⟩ = some (.int .i64 e) := by unfold World.cell?; rw [hg]; rfl
  clear hc hg hF
  go_enter Try.func32, Try.ntmps32
  go_wp2
  go_ret
  exact ⟨rfl, by repeat (first | exact Drawn0.refl _ | apply Drawn0.step)⟩
end Go.Proofs.Ytgpdaihfjnihhaa.PJ
