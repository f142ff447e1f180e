-- WRITTEN BY A PROGRAM OF THIS PROJECT (a turned copy of the print)
import Derived.Test.YtblhmmhhjkjcgaaPJx0
import Derived.Test.YtblhmmhhjkjcgaaPJx1
import Derived.Test.YtblhmmhhjkjcgaaPJx2
namespace Go.Proofs.Ytblhmmhhjkjcgaa.PJ
open Go.RowKit Go.Proofs.YtblhmmhhjkjcgaaW.PrintWords Go.Proofs.YtblhmmhhjkjcgaaW.PrintLast Go.Proofs.YtblhmmhhjkjcgaaW.PrintMore
attribute [local go_sem] max2_int min2_int max_two min_two max_three min_three max_four min_four   -- for this text's walks alone
set_option linter.unusedVariables false
set_option linter.unusedSimpArgs false

/-! ### louverlaw02_OpsAll: function 3 -/
def louverlaw02_OpsAll.l0 : Nat → Int → Int → Int → Int → Option (Bool)
  | 0, _, _, _, _ => none
  | k + 1, x0, x1, x2, x7 => if x7 ≤ 18 then ((ops_Binary.f k x7 x0 x1).bind fun bt141 => ((louverref02_Binary.f k x7 x0 x1).bind fun bt143 => ((ops_Unary.f x7 x0).bind fun bt145 => ((louverref02_Unary.f k x7 x0).bind fun bt147 => (if bt141.1 = bt143.1 then (if (bt141.2 != bt143.2) = true then (some false) else (if bt145.1 = bt147.1 then (if (bt145.2 != bt147.2) = true then (some false) else (louverlaw02_OpsAll.l0 k x0 x1 x2 (wrap64 (x7 + 1)))) else (some false))) else (some false)))))) else ((ops_Binary.f k x2 x0 x1).bind fun bt149 => ((louverref02_Binary.f k x2 x0 x1).bind fun bt151 => ((ops_Unary.f x2 x1).bind fun bt153 => ((louverref02_Unary.f k x2 x1).bind fun bt155 => (if bt149.1 = bt151.1 then (if (bt149.2 == bt151.2) = true then (if bt153.1 = bt155.1 then (if (bt153.2 == bt155.2) = true then ((louverlaw02_awake.f k).bind fun t157 => (some t157)) else (some false)) else (some false)) else (some false)) else (some false))))))
def louverlaw02_OpsAll.f (k : Nat) (a0 : Int) (a1 : Int) (a2 : Int) : Option (Bool) := louverlaw02_OpsAll.l0 k a0 a1 a2 0
theorem louverlaw02_OpsAll.mono_l : ∀ k, (∀ y0 y1 y2 y3, LeO (louverlaw02_OpsAll.l0 k y0 y1 y2 y3) (louverlaw02_OpsAll.l0 (k + 1) y0 y1 y2 y3))
  | 0 => fun _ _ _ _ r h => by simp [louverlaw02_OpsAll.l0] at h
  | k + 1 => by
    have ih0 := louverlaw02_OpsAll.mono_l k
    · intro y0 y1 y2 y3
      unfold louverlaw02_OpsAll.l0
      repeat' first
      | (with_reducible exact ih0 _ _ _ _)
      | (with_reducible exact louverlaw02_awake.mono _)
      | (with_reducible exact louverref02_Binary.mono _ _ _ _)
      | (with_reducible exact louverref02_Unary.mono _ _ _)
      | (with_reducible exact ops_Binary.mono _ _ _ _)
      | (with_reducible exact LeO.refl _)
      | (with_reducible exact LeO.none _)
      | (with_reducible refine LeO.ite ?_ ?_)
      | (with_reducible refine LeO.bind ?_ (fun _ => ?_))
      | exact ih0 _ _ _ _
      | exact louverlaw02_awake.mono _
      | exact louverref02_Binary.mono _ _ _ _
      | exact louverref02_Unary.mono _ _ _
      | exact ops_Binary.mono _ _ _ _
      | exact LeO.none _
      | refine LeO.ite ?_ ?_
      | refine LeO.bind ?_ (fun _ => ?_)
theorem louverlaw02_OpsAll.mono : ∀ a0 a1 a2 k, LeO (louverlaw02_OpsAll.f k a0 a1 a2) (louverlaw02_OpsAll.f (k + 1) a0 a1 a2) := by
  intro a0 a1 a2 k
  have ih0 := louverlaw02_OpsAll.mono_l k
  unfold louverlaw02_OpsAll.f
  repeat' first
      | (with_reducible exact ih0 _ _ _ _)
      | (with_reducible exact louverlaw02_awake.mono _)
      | (with_reducible exact louverref02_Binary.mono _ _ _ _)
      | (with_reducible exact louverref02_Unary.mono _ _ _)
      | (with_reducible exact ops_Binary.mono _ _ _ _)
      | (with_reducible exact LeO.refl _)
      | (with_reducible exact LeO.none _)
      | (with_reducible refine LeO.ite ?_ ?_)
      | (with_reducible refine LeO.bind ?_ (fun _ => ?_))
      | exact ih0 _ _ _ _
      | exact louverlaw02_awake.mono _
      | exact louverref02_Binary.mono _ _ _ _
      | exact louverref02_Unary.mono _ _ _
      | exact ops_Binary.mono _ _ _ _
      | exact LeO.none _
      | refine LeO.ite ?_ ?_
      | refine LeO.bind ?_ (fun _ => ?_)
set_option maxHeartbeats 8000000 in
set_option maxRecDepth 100000 in
theorem louverlaw02_OpsAll.calls (k : Nat) (a0 : Int) (a1 : Int) (a2 : Int) (r : Bool) (w : World) (h : louverlaw02_OpsAll.f k a0 a1 a2 = some r) :
    Calls Try.prog 3 #[.int .i64 a0, .int .i64 a1, .int .i64 a2] w fun e w' => e = .returned (.bool r) ∧ Drawn0 w w' := by
  have H : (louverlaw02_OpsAll.l0 k a0 a1 a2 0) = some r := h
  clear h
  have H' := Aside0.mk H
  clear H
  go_enter Try.func3, Try.ntmps3
  go_wp2
  go_loopg [7] k (fun kq v7 w' => ∃ (x7_1 : Int), v7 = .int .i64 x7_1 ∧ Aside0 (louverlaw02_OpsAll.l0 kq a0 a1 a2 x7_1 = some r) ∧ Aside0 (kq ≤ k) ∧ Drawn0 w w')
  case atStart => exact ⟨(0), (by first | rfl | (simp; done) | (simp [*]; done)), H', ⟨Nat.le_refl _⟩, by repeat (first | exact Drawn0.refl _ | apply Drawn0.step)⟩
  case round =>
    clear H'
    try clear p2
    try clear c3
    obtain ⟨x7_1, rfl, HA, HK1, ⟨m1, rfl⟩⟩ := hrel
    cases gk with
    | zero => exact absurd HA.out (by simp [louverlaw02_OpsAll.l0])
    | succ k1 =>
      have H := HA.out
      clear HA
      simp only [louverlaw02_OpsAll.l0] at H
      by_cases c4 : x7_1 ≤ 18
      · rw [if_pos c4] at H
        have c4b0 : decide (x7_1 ≤ 18) = true := decide_eq_true c4
        clear c4
        replace H := Option.bind_eq_some_iff.mp H
        obtain ⟨⟨t141, t142⟩, A50, H⟩ := H
        replace H : ((louverref02_Binary.f k1 x7_1 a0 a1).bind fun bt143 => ((ops_Unary.f x7_1 a0).bind fun bt145 => ((louverref02_Unary.f k1 x7_1 a0).bind fun bt147 => (if t141 = bt143.1 then (if (t142 != bt143.2) = true then (some false) else (if bt145.1 = bt147.1 then (if (bt145.2 != bt147.2) = true then (some false) else (louverlaw02_OpsAll.l0 k1 a0 a1 a2 (wrap64 (x7_1 + 1)))) else (some false))) else (some false))))) = some r := H
        have A5 := Aside0.mk A50
        clear A50
        replace H := Option.bind_eq_some_iff.mp H
        obtain ⟨⟨t143, t144⟩, A60, H⟩ := H
        replace H : ((ops_Unary.f x7_1 a0).bind fun bt145 => ((louverref02_Unary.f k1 x7_1 a0).bind fun bt147 => (if t141 = t143 then (if (t142 != t144) = true then (some false) else (if bt145.1 = bt147.1 then (if (bt145.2 != bt147.2) = true then (some false) else (louverlaw02_OpsAll.l0 k1 a0 a1 a2 (wrap64 (x7_1 + 1)))) else (some false))) else (some false)))) = some r := H
        have A6 := Aside0.mk A60
        clear A60
        replace H := Option.bind_eq_some_iff.mp H
        obtain ⟨⟨t145, t146⟩, A70, H⟩ := H
        replace H : ((louverref02_Unary.f k1 x7_1 a0).bind fun bt147 => (if t141 = t143 then (if (t142 != t144) = true then (some false) else (if t145 = bt147.1 then (if (t146 != bt147.2) = true then (some false) else (louverlaw02_OpsAll.l0 k1 a0 a1 a2 (wrap64 (x7_1 + 1)))) else (some false))) else (some false))) = some r := H
        have A7 := Aside0.mk A70
        clear A70
        replace H := Option.bind_eq_some_iff.mp H
        obtain ⟨⟨t147, t148⟩, A80, H⟩ := H
        replace H : (if t141 = t143 then (if (t142 != t144) = true then (some false) else (if t145 = t147 then (if (t146 != t148) = true then (some false) else (louverlaw02_OpsAll.l0 k1 a0 a1 a2 (wrap64 (x7_1 + 1)))) else (some false))) else (some false)) = some r := H
        have A8 := Aside0.mk A80
        clear A80
        by_cases c9 : t141 = t143
        · rw [if_pos c9] at H
          have c9b0 : (t141 == t143) = true := beq_iff_eq.mpr c9
          have c9b1 : (t141 != t143) = false := bne_eq_false_iff_eq.mpr c9
          clear c9
          by_cases c10 : (t142 != t144) = true
          · rw [if_pos c10] at H
            have c10b0 : (t142 != t144) = true := c10
            (try (have c10b1 : decide (t142 = t144) = false := by simpa using c10))
            (try (have c10b2 : (t142 == t144) = false := by simpa using c10))
            (try (have c10b3 : ¬ (t142 = t144) := by simpa using c10))
            clear c10
            obtain rfl := Option.some.inj H
            go_wp2_with (first | ((with_reducible refine gate_callee (f := 6) rfl ?_); refine goesL_ (some 32) rfl rfl Try.func6 (by kernel_rfl) rfl #[.int .i64 x7_1, .int .i64 a0, .int .i64 a1] rfl (by (try simp only [List.map_toArray, List.map_cons, List.map_nil]); first | done | rfl | (simp only [List.length_drop, List.length_take]; rfl)) ?_; (with_reducible refine (ops_Binary.calls k1 x7_1 a0 a1 t141 t142 _ A5.out).mono ?_); rintro e w' ⟨rfl, ⟨nd, rfl⟩⟩; refine ⟨_, rfl, ?_⟩) | ((with_reducible refine gate_callee (f := 7) rfl ?_); refine goesL_ (some 39) rfl rfl Try.func7 (by kernel_rfl) rfl #[.int .i64 x7_1, .int .i64 a0, .int .i64 a1] rfl (by (try simp only [List.map_toArray, List.map_cons, List.map_nil]); first | done | rfl | (simp only [List.length_drop, List.length_take]; rfl)) ?_; (with_reducible refine (louverref02_Binary.calls k1 x7_1 a0 a1 t143 t144 _ A6.out).mono ?_); rintro e w' ⟨rfl, ⟨nd, rfl⟩⟩; refine ⟨_, rfl, ?_⟩) | ((with_reducible refine gate_callee (f := 8) rfl ?_); refine goesL_ (some 45) rfl rfl Try.func8 (by kernel_rfl) rfl #[.int .i64 x7_1, .int .i64 a0] rfl (by (try simp only [List.map_toArray, List.map_cons, List.map_nil]); first | done | rfl | (simp only [List.length_drop, List.length_take]; rfl)) ?_; (with_reducible refine (ops_Unary.calls x7_1 a0 t145 t146 _ A7.out).mono ?_); rintro e w' ⟨rfl, ⟨nd, rfl⟩⟩; refine ⟨_, rfl, ?_⟩) | ((with_reducible refine gate_callee (f := 9) rfl ?_); refine goesL_ (some 51) rfl rfl Try.func9 (by kernel_rfl) rfl #[.int .i64 x7_1, .int .i64 a0] rfl (by (try simp only [List.map_toArray, List.map_cons, List.map_nil]); first | done | rfl | (simp only [List.length_drop, List.length_take]; rfl)) ?_; (with_reducible refine (louverref02_Unary.calls k1 x7_1 a0 t147 t148 _ A8.out).mono ?_); rintro e w' ⟨rfl, ⟨nd, rfl⟩⟩; refine ⟨_, rfl, ?_⟩))
            go_ret
            exact ⟨by first | rfl | (simp; done) | (simp [*]; done), by repeat (first | exact Drawn0.refl _ | apply Drawn0.step)⟩
          · rw [if_neg c10] at H
            have c10b0 : (t142 != t144) = false := by simpa using c10
            (try (have c10b1 : decide (t142 = t144) = true := by simpa using c10))
            (try (have c10b2 : (t142 == t144) = true := by simpa using c10))
            clear c10
            by_cases c11 : t145 = t147
            · rw [if_pos c11] at H
              have c11b0 : (t145 == t147) = true := beq_iff_eq.mpr c11
              have c11b1 : (t145 != t147) = false := bne_eq_false_iff_eq.mpr c11
              clear c11
              by_cases c12 : (t146 != t148) = true
              · rw [if_pos c12] at H
                have c12b0 : (t146 != t148) = true := c12
                (try (have c12b1 : decide (t146 = t148) = false := by simpa using c12))
                (try (have c12b2 : (t146 == t148) = false := by simpa using c12))
                (try (have c12b3 : ¬ (t146 = t148) := by simpa using c12))
                clear c12
                obtain rfl := Option.some.inj H
                go_wp2_with (first | ((with_reducible refine gate_callee (f := 6) rfl ?_); refine goesL_ (some 32) rfl rfl Try.func6 (by kernel_rfl) rfl #[.int .i64 x7_1, .int .i64 a0, .int .i64 a1] rfl (by (try simp only [List.map_toArray, List.map_cons, List.map_nil]); first | done | rfl | (simp only [List.length_drop, List.length_take]; rfl)) ?_; (with_reducible refine (ops_Binary.calls k1 x7_1 a0 a1 t141 t142 _ A5.out).mono ?_); rintro e w' ⟨rfl, ⟨nd, rfl⟩⟩; refine ⟨_, rfl, ?_⟩) | ((with_reducible refine gate_callee (f := 7) rfl ?_); refine goesL_ (some 39) rfl rfl Try.func7 (by kernel_rfl) rfl #[.int .i64 x7_1, .int .i64 a0, .int .i64 a1] rfl (by (try simp only [List.map_toArray, List.map_cons, List.map_nil]); first | done | rfl | (simp only [List.length_drop, List.length_take]; rfl)) ?_; (with_reducible refine (louverref02_Binary.calls k1 x7_1 a0 a1 t143 t144 _ A6.out).mono ?_); rintro e w' ⟨rfl, ⟨nd, rfl⟩⟩; refine ⟨_, rfl, ?_⟩) | ((with_reducible refine gate_callee (f := 8) rfl ?_); refine goesL_ (some 45) rfl rfl Try.func8 (by kernel_rfl) rfl #[.int .i64 x7_1, .int .i64 a0] rfl (by (try simp only [List.map_toArray, List.map_cons, List.map_nil]); first | done | rfl | (simp only [List.length_drop, List.length_take]; rfl)) ?_; (with_reducible refine (ops_Unary.calls x7_1 a0 t145 t146 _ A7.out).mono ?_); rintro e w' ⟨rfl, ⟨nd, rfl⟩⟩; refine ⟨_, rfl, ?_⟩) | ((with_reducible refine gate_callee (f := 9) rfl ?_); refine goesL_ (some 51) rfl rfl Try.func9 (by kernel_rfl) rfl #[.int .i64 x7_1, .int .i64 a0] rfl (by (try simp only [List.map_toArray, List.map_cons, List.map_nil]); first | done | rfl | (simp only [List.length_drop, List.length_take]; rfl)) ?_; (with_reducible refine (louverref02_Unary.calls k1 x7_1 a0 t147 t148 _ A8.out).mono ?_); rintro e w' ⟨rfl, ⟨nd, rfl⟩⟩; refine ⟨_, rfl, ?_⟩))
                go_ret
                exact ⟨by first | rfl | (simp; done) | (simp [*]; done), by repeat (first | exact Drawn0.refl _ | apply Drawn0.step)⟩
              · rw [if_neg c12] at H
                have c12b0 : (t146 != t148) = false := by simpa using c12
                (try (have c12b1 : decide (t146 = t148) = true := by simpa using c12))
                (try (have c12b2 : (t146 == t148) = true := by simpa using c12))
                clear c12
                have H' := Aside0.mk H
                clear H
                go_wp2_with (first | ((with_reducible refine gate_callee (f := 6) rfl ?_); refine goesL_ (some 32) rfl rfl Try.func6 (by kernel_rfl) rfl #[.int .i64 x7_1, .int .i64 a0, .int .i64 a1] rfl (by (try simp only [List.map_toArray, List.map_cons, List.map_nil]); first | done | rfl | (simp only [List.length_drop, List.length_take]; rfl)) ?_; (with_reducible refine (ops_Binary.calls k1 x7_1 a0 a1 t141 t142 _ A5.out).mono ?_); rintro e w' ⟨rfl, ⟨nd, rfl⟩⟩; refine ⟨_, rfl, ?_⟩) | ((with_reducible refine gate_callee (f := 7) rfl ?_); refine goesL_ (some 39) rfl rfl Try.func7 (by kernel_rfl) rfl #[.int .i64 x7_1, .int .i64 a0, .int .i64 a1] rfl (by (try simp only [List.map_toArray, List.map_cons, List.map_nil]); first | done | rfl | (simp only [List.length_drop, List.length_take]; rfl)) ?_; (with_reducible refine (louverref02_Binary.calls k1 x7_1 a0 a1 t143 t144 _ A6.out).mono ?_); rintro e w' ⟨rfl, ⟨nd, rfl⟩⟩; refine ⟨_, rfl, ?_⟩) | ((with_reducible refine gate_callee (f := 8) rfl ?_); refine goesL_ (some 45) rfl rfl Try.func8 (by kernel_rfl) rfl #[.int .i64 x7_1, .int .i64 a0] rfl (by (try simp only [List.map_toArray, List.map_cons, List.map_nil]); first | done | rfl | (simp only [List.length_drop, List.length_take]; rfl)) ?_; (with_reducible refine (ops_Unary.calls x7_1 a0 t145 t146 _ A7.out).mono ?_); rintro e w' ⟨rfl, ⟨nd, rfl⟩⟩; refine ⟨_, rfl, ?_⟩) | ((with_reducible refine gate_callee (f := 9) rfl ?_); refine goesL_ (some 51) rfl rfl Try.func9 (by kernel_rfl) rfl #[.int .i64 x7_1, .int .i64 a0] rfl (by (try simp only [List.map_toArray, List.map_cons, List.map_nil]); first | done | rfl | (simp only [List.length_drop, List.length_take]; rfl)) ?_; (with_reducible refine (louverref02_Unary.calls k1 x7_1 a0 t147 t148 _ A8.out).mono ?_); rintro e w' ⟨rfl, ⟨nd, rfl⟩⟩; refine ⟨_, rfl, ?_⟩))
                go_roundg k1
                case measure => have := HK1.out; omega
                case rel => exact ⟨(wrap64 (x7_1 + 1)), (by first | rfl | (simp; done) | (simp [*]; done)), H', ⟨by have := HK1.out; omega⟩, by repeat (first | exact Drawn0.refl _ | apply Drawn0.step)⟩
            · rw [if_neg c11] at H
              have c11b0 : (t145 == t147) = false := beq_eq_false_iff_ne.mpr c11
              have c11b1 : (t145 != t147) = true := bne_iff_ne.mpr c11
              obtain rfl := Option.some.inj H
              go_wp2_with (first | ((with_reducible refine gate_callee (f := 6) rfl ?_); refine goesL_ (some 32) rfl rfl Try.func6 (by kernel_rfl) rfl #[.int .i64 x7_1, .int .i64 a0, .int .i64 a1] rfl (by (try simp only [List.map_toArray, List.map_cons, List.map_nil]); first | done | rfl | (simp only [List.length_drop, List.length_take]; rfl)) ?_; (with_reducible refine (ops_Binary.calls k1 x7_1 a0 a1 t141 t142 _ A5.out).mono ?_); rintro e w' ⟨rfl, ⟨nd, rfl⟩⟩; refine ⟨_, rfl, ?_⟩) | ((with_reducible refine gate_callee (f := 7) rfl ?_); refine goesL_ (some 39) rfl rfl Try.func7 (by kernel_rfl) rfl #[.int .i64 x7_1, .int .i64 a0, .int .i64 a1] rfl (by (try simp only [List.map_toArray, List.map_cons, List.map_nil]); first | done | rfl | (simp only [List.length_drop, List.length_take]; rfl)) ?_; (with_reducible refine (louverref02_Binary.calls k1 x7_1 a0 a1 t143 t144 _ A6.out).mono ?_); rintro e w' ⟨rfl, ⟨nd, rfl⟩⟩; refine ⟨_, rfl, ?_⟩) | ((with_reducible refine gate_callee (f := 8) rfl ?_); refine goesL_ (some 45) rfl rfl Try.func8 (by kernel_rfl) rfl #[.int .i64 x7_1, .int .i64 a0] rfl (by (try simp only [List.map_toArray, List.map_cons, List.map_nil]); first | done | rfl | (simp only [List.length_drop, List.length_take]; rfl)) ?_; (with_reducible refine (ops_Unary.calls x7_1 a0 t145 t146 _ A7.out).mono ?_); rintro e w' ⟨rfl, ⟨nd, rfl⟩⟩; refine ⟨_, rfl, ?_⟩) | ((with_reducible refine gate_callee (f := 9) rfl ?_); refine goesL_ (some 51) rfl rfl Try.func9 (by kernel_rfl) rfl #[.int .i64 x7_1, .int .i64 a0] rfl (by (try simp only [List.map_toArray, List.map_cons, List.map_nil]); first | done | rfl | (simp only [List.length_drop, List.length_take]; rfl)) ?_; (with_reducible refine (louverref02_Unary.calls k1 x7_1 a0 t147 t148 _ A8.out).mono ?_); rintro e w' ⟨rfl, ⟨nd, rfl⟩⟩; refine ⟨_, rfl, ?_⟩))
              go_ret
              exact ⟨by first | rfl | (simp; done) | (simp [*]; done), by repeat (first | exact Drawn0.refl _ | apply Drawn0.step)⟩
        · rw [if_neg c9] at H
          have c9b0 : (t141 == t143) = false := beq_eq_false_iff_ne.mpr c9
          have c9b1 : (t141 != t143) = true := bne_iff_ne.mpr c9
          obtain rfl := Option.some.inj H
          go_wp2_with (first | ((with_reducible refine gate_callee (f := 6) rfl ?_); refine goesL_ (some 32) rfl rfl Try.func6 (by kernel_rfl) rfl #[.int .i64 x7_1, .int .i64 a0, .int .i64 a1] rfl (by (try simp only [List.map_toArray, List.map_cons, List.map_nil]); first | done | rfl | (simp only [List.length_drop, List.length_take]; rfl)) ?_; (with_reducible refine (ops_Binary.calls k1 x7_1 a0 a1 t141 t142 _ A5.out).mono ?_); rintro e w' ⟨rfl, ⟨nd, rfl⟩⟩; refine ⟨_, rfl, ?_⟩) | ((with_reducible refine gate_callee (f := 7) rfl ?_); refine goesL_ (some 39) rfl rfl Try.func7 (by kernel_rfl) rfl #[.int .i64 x7_1, .int .i64 a0, .int .i64 a1] rfl (by (try simp only [List.map_toArray, List.map_cons, List.map_nil]); first | done | rfl | (simp only [List.length_drop, List.length_take]; rfl)) ?_; (with_reducible refine (louverref02_Binary.calls k1 x7_1 a0 a1 t143 t144 _ A6.out).mono ?_); rintro e w' ⟨rfl, ⟨nd, rfl⟩⟩; refine ⟨_, rfl, ?_⟩) | ((with_reducible refine gate_callee (f := 8) rfl ?_); refine goesL_ (some 45) rfl rfl Try.func8 (by kernel_rfl) rfl #[.int .i64 x7_1, .int .i64 a0] rfl (by (try simp only [List.map_toArray, List.map_cons, List.map_nil]); first | done | rfl | (simp only [List.length_drop, List.length_take]; rfl)) ?_; (with_reducible refine (ops_Unary.calls x7_1 a0 t145 t146 _ A7.out).mono ?_); rintro e w' ⟨rfl, ⟨nd, rfl⟩⟩; refine ⟨_, rfl, ?_⟩) | ((with_reducible refine gate_callee (f := 9) rfl ?_); refine goesL_ (some 51) rfl rfl Try.func9 (by kernel_rfl) rfl #[.int .i64 x7_1, .int .i64 a0] rfl (by (try simp only [List.map_toArray, List.map_cons, List.map_nil]); first | done | rfl | (simp only [List.length_drop, List.length_take]; rfl)) ?_; (with_reducible refine (louverref02_Unary.calls k1 x7_1 a0 t147 t148 _ A8.out).mono ?_); rintro e w' ⟨rfl, ⟨nd, rfl⟩⟩; refine ⟨_, rfl, ?_⟩))
          go_ret
          exact ⟨by first | rfl | (simp; done) | (simp [*]; done), by repeat (first | exact Drawn0.refl _ | apply Drawn0.step)⟩
      · rw [if_neg c4] at H
        have c4b0 : decide (x7_1 ≤ 18) = false := decide_eq_false c4
        clear c4
        replace H := Option.bind_eq_some_iff.mp H
        obtain ⟨⟨t149, t150⟩, A130, H⟩ := H
        replace H : ((louverref02_Binary.f k1 a2 a0 a1).bind fun bt151 => ((ops_Unary.f a2 a1).bind fun bt153 => ((louverref02_Unary.f k1 a2 a1).bind fun bt155 => (if t149 = bt151.1 then (if (t150 == bt151.2) = true then (if bt153.1 = bt155.1 then (if (bt153.2 == bt155.2) = true then ((louverlaw02_awake.f k1).bind fun t157 => (some t157)) else (some false)) else (some false)) else (some false)) else (some false))))) = some r := H
        have A13 := Aside0.mk A130
        clear A130
        replace H := Option.bind_eq_some_iff.mp H
        obtain ⟨⟨t151, t152⟩, A140, H⟩ := H
        replace H : ((ops_Unary.f a2 a1).bind fun bt153 => ((louverref02_Unary.f k1 a2 a1).bind fun bt155 => (if t149 = t151 then (if (t150 == t152) = true then (if bt153.1 = bt155.1 then (if (bt153.2 == bt155.2) = true then ((louverlaw02_awake.f k1).bind fun t157 => (some t157)) else (some false)) else (some false)) else (some false)) else (some false)))) = some r := H
        have A14 := Aside0.mk A140
        clear A140
        replace H := Option.bind_eq_some_iff.mp H
        obtain ⟨⟨t153, t154⟩, A150, H⟩ := H
        replace H : ((louverref02_Unary.f k1 a2 a1).bind fun bt155 => (if t149 = t151 then (if (t150 == t152) = true then (if t153 = bt155.1 then (if (t154 == bt155.2) = true then ((louverlaw02_awake.f k1).bind fun t157 => (some t157)) else (some false)) else (some false)) else (some false)) else (some false))) = some r := H
        have A15 := Aside0.mk A150
        clear A150
        replace H := Option.bind_eq_some_iff.mp H
        obtain ⟨⟨t155, t156⟩, A160, H⟩ := H
        replace H : (if t149 = t151 then (if (t150 == t152) = true then (if t153 = t155 then (if (t154 == t156) = true then ((louverlaw02_awake.f k1).bind fun t157 => (some t157)) else (some false)) else (some false)) else (some false)) else (some false)) = some r := H
        have A16 := Aside0.mk A160
        clear A160
        by_cases c17 : t149 = t151
        · rw [if_pos c17] at H
          have c17b0 : (t149 == t151) = true := beq_iff_eq.mpr c17
          have c17b1 : (t149 != t151) = false := bne_eq_false_iff_eq.mpr c17
          clear c17
          by_cases c18 : (t150 == t152) = true
          · rw [if_pos c18] at H
            have c18b0 : (t150 == t152) = true := c18
            (try (have c18b1 : decide (t150 = t152) = true := by simpa using c18))
            (try (have c18b2 : (t150 == t152) = true := by simpa using c18))
            clear c18
            by_cases c19 : t153 = t155
            · rw [if_pos c19] at H
              have c19b0 : (t153 == t155) = true := beq_iff_eq.mpr c19
              have c19b1 : (t153 != t155) = false := bne_eq_false_iff_eq.mpr c19
              clear c19
              by_cases c20 : (t154 == t156) = true
              · rw [if_pos c20] at H
                have c20b0 : (t154 == t156) = true := c20
                (try (have c20b1 : decide (t154 = t156) = true := by simpa using c20))
                (try (have c20b2 : (t154 == t156) = true := by simpa using c20))
                clear c20
                replace H := Option.bind_eq_some_iff.mp H
                obtain ⟨t157, A210, H⟩ := H
                replace H : (some t157) = some r := H
                have A21 := Aside0.mk A210
                clear A210
                obtain rfl := Option.some.inj H
                go_wp2_with (first | ((with_reducible refine gate_callee (f := 6) rfl ?_); refine goesL_ (some 76) rfl rfl Try.func6 (by kernel_rfl) rfl #[.int .i64 a2, .int .i64 a0, .int .i64 a1] rfl (by (try simp only [List.map_toArray, List.map_cons, List.map_nil]); first | done | rfl | (simp only [List.length_drop, List.length_take]; rfl)) ?_; (with_reducible refine (ops_Binary.calls k1 a2 a0 a1 t149 t150 _ A13.out).mono ?_); rintro e w' ⟨rfl, ⟨nd, rfl⟩⟩; refine ⟨_, rfl, ?_⟩) | ((with_reducible refine gate_callee (f := 7) rfl ?_); refine goesL_ (some 83) rfl rfl Try.func7 (by kernel_rfl) rfl #[.int .i64 a2, .int .i64 a0, .int .i64 a1] rfl (by (try simp only [List.map_toArray, List.map_cons, List.map_nil]); first | done | rfl | (simp only [List.length_drop, List.length_take]; rfl)) ?_; (with_reducible refine (louverref02_Binary.calls k1 a2 a0 a1 t151 t152 _ A14.out).mono ?_); rintro e w' ⟨rfl, ⟨nd, rfl⟩⟩; refine ⟨_, rfl, ?_⟩) | ((with_reducible refine gate_callee (f := 8) rfl ?_); refine goesL_ (some 89) rfl rfl Try.func8 (by kernel_rfl) rfl #[.int .i64 a2, .int .i64 a1] rfl (by (try simp only [List.map_toArray, List.map_cons, List.map_nil]); first | done | rfl | (simp only [List.length_drop, List.length_take]; rfl)) ?_; (with_reducible refine (ops_Unary.calls a2 a1 t153 t154 _ A15.out).mono ?_); rintro e w' ⟨rfl, ⟨nd, rfl⟩⟩; refine ⟨_, rfl, ?_⟩) | ((with_reducible refine gate_callee (f := 9) rfl ?_); refine goesL_ (some 95) rfl rfl Try.func9 (by kernel_rfl) rfl #[.int .i64 a2, .int .i64 a1] rfl (by (try simp only [List.map_toArray, List.map_cons, List.map_nil]); first | done | rfl | (simp only [List.length_drop, List.length_take]; rfl)) ?_; (with_reducible refine (louverref02_Unary.calls k1 a2 a1 t155 t156 _ A16.out).mono ?_); rintro e w' ⟨rfl, ⟨nd, rfl⟩⟩; refine ⟨_, rfl, ?_⟩) | (go_at_call 10; (with_reducible refine (louverlaw02_awake.calls k1  t157 _ A21.out).mono ?_); rintro e w' ⟨rfl, ⟨nd, rfl⟩⟩))
                go_ret
                exact ⟨by first | rfl | (simp; done) | (simp [*]; done), by repeat (first | exact Drawn0.refl _ | apply Drawn0.step)⟩
              · rw [if_neg c20] at H
                have c20b0 : (t154 == t156) = false := by simpa using c20
                (try (have c20b1 : decide (t154 = t156) = false := by simpa using c20))
                (try (have c20b2 : (t154 == t156) = false := by simpa using c20))
                (try (have c20b3 : ¬ (t154 = t156) := by simpa using c20))
                clear c20
                obtain rfl := Option.some.inj H
                go_wp2_with (first | ((with_reducible refine gate_callee (f := 6) rfl ?_); refine goesL_ (some 76) rfl rfl Try.func6 (by kernel_rfl) rfl #[.int .i64 a2, .int .i64 a0, .int .i64 a1] rfl (by (try simp only [List.map_toArray, List.map_cons, List.map_nil]); first | done | rfl | (simp only [List.length_drop, List.length_take]; rfl)) ?_; (with_reducible refine (ops_Binary.calls k1 a2 a0 a1 t149 t150 _ A13.out).mono ?_); rintro e w' ⟨rfl, ⟨nd, rfl⟩⟩; refine ⟨_, rfl, ?_⟩) | ((with_reducible refine gate_callee (f := 7) rfl ?_); refine goesL_ (some 83) rfl rfl Try.func7 (by kernel_rfl) rfl #[.int .i64 a2, .int .i64 a0, .int .i64 a1] rfl (by (try simp only [List.map_toArray, List.map_cons, List.map_nil]); first | done | rfl | (simp only [List.length_drop, List.length_take]; rfl)) ?_; (with_reducible refine (louverref02_Binary.calls k1 a2 a0 a1 t151 t152 _ A14.out).mono ?_); rintro e w' ⟨rfl, ⟨nd, rfl⟩⟩; refine ⟨_, rfl, ?_⟩) | ((with_reducible refine gate_callee (f := 8) rfl ?_); refine goesL_ (some 89) rfl rfl Try.func8 (by kernel_rfl) rfl #[.int .i64 a2, .int .i64 a1] rfl (by (try simp only [List.map_toArray, List.map_cons, List.map_nil]); first | done | rfl | (simp only [List.length_drop, List.length_take]; rfl)) ?_; (with_reducible refine (ops_Unary.calls a2 a1 t153 t154 _ A15.out).mono ?_); rintro e w' ⟨rfl, ⟨nd, rfl⟩⟩; refine ⟨_, rfl, ?_⟩) | ((with_reducible refine gate_callee (f := 9) rfl ?_); refine goesL_ (some 95) rfl rfl Try.func9 (by kernel_rfl) rfl #[.int .i64 a2, .int .i64 a1] rfl (by (try simp only [List.map_toArray, List.map_cons, List.map_nil]); first | done | rfl | (simp only [List.length_drop, List.length_take]; rfl)) ?_; (with_reducible refine (louverref02_Unary.calls k1 a2 a1 t155 t156 _ A16.out).mono ?_); rintro e w' ⟨rfl, ⟨nd, rfl⟩⟩; refine ⟨_, rfl, ?_⟩))
                go_ret
                exact ⟨by first | rfl | (simp; done) | (simp [*]; done), by repeat (first | exact Drawn0.refl _ | apply Drawn0.step)⟩
            · rw [if_neg c19] at H
              have c19b0 : (t153 == t155) = false := beq_eq_false_iff_ne.mpr c19
              have c19b1 : (t153 != t155) = true := bne_iff_ne.mpr c19
              obtain rfl := Option.some.inj H
              go_wp2_with (first | ((with_reducible refine gate_callee (f := 6) rfl ?_); refine goesL_ (some 76) rfl rfl Try.func6 (by kernel_rfl) rfl #[.int .i64 a2, .int .i64 a0, .int .i64 a1] rfl (by (try simp only [List.map_toArray, List.map_cons, List.map_nil]); first | done | rfl | (simp only [List.length_drop, List.length_take]; rfl)) ?_; (with_reducible refine (ops_Binary.calls k1 a2 a0 a1 t149 t150 _ A13.out).mono ?_); rintro e w' ⟨rfl, ⟨nd, rfl⟩⟩; refine ⟨_, rfl, ?_⟩) | ((with_reducible refine gate_callee (f := 7) rfl ?_); refine goesL_ (some 83) rfl rfl Try.func7 (by kernel_rfl) rfl #[.int .i64 a2, .int .i64 a0, .int .i64 a1] rfl (by (try simp only [List.map_toArray, List.map_cons, List.map_nil]); first | done | rfl | (simp only [List.length_drop, List.length_take]; rfl)) ?_; (with_reducible refine (louverref02_Binary.calls k1 a2 a0 a1 t151 t152 _ A14.out).mono ?_); rintro e w' ⟨rfl, ⟨nd, rfl⟩⟩; refine ⟨_, rfl, ?_⟩) | ((with_reducible refine gate_callee (f := 8) rfl ?_); refine goesL_ (some 89) rfl rfl Try.func8 (by kernel_rfl) rfl #[.int .i64 a2, .int .i64 a1] rfl (by (try simp only [List.map_toArray, List.map_cons, List.map_nil]); first | done | rfl | (simp only [List.length_drop, List.length_take]; rfl)) ?_; (with_reducible refine (ops_Unary.calls a2 a1 t153 t154 _ A15.out).mono ?_); rintro e w' ⟨rfl, ⟨nd, rfl⟩⟩; refine ⟨_, rfl, ?_⟩) | ((with_reducible refine gate_callee (f := 9) rfl ?_); refine goesL_ (some 95) rfl rfl Try.func9 (by kernel_rfl) rfl #[.int .i64 a2, .int .i64 a1] rfl (by (try simp only [List.map_toArray, List.map_cons, List.map_nil]); first | done | rfl | (simp only [List.length_drop, List.length_take]; rfl)) ?_; (with_reducible refine (louverref02_Unary.calls k1 a2 a1 t155 t156 _ A16.out).mono ?_); rintro e w' ⟨rfl, ⟨nd, rfl⟩⟩; refine ⟨_, rfl, ?_⟩))
              go_ret
              exact ⟨by first | rfl | (simp; done) | (simp [*]; done), by repeat (first | exact Drawn0.refl _ | apply Drawn0.step)⟩
          · rw [if_neg c18] at H
            have c18b0 : (t150 == t152) = false := by simpa using c18
            (try (have c18b1 : decide (t150 = t152) = false := by simpa using c18))
            (try (have c18b2 : (t150 == t152) = false := by simpa using c18))
            (try (have c18b3 : ¬ (t150 = t152) := by simpa using c18))
            clear c18
            obtain rfl := Option.some.inj H
            go_wp2_with (first | ((with_reducible refine gate_callee (f := 6) rfl ?_); refine goesL_ (some 76) rfl rfl Try.func6 (by kernel_rfl) rfl #[.int .i64 a2, .int .i64 a0, .int .i64 a1] rfl (by (try simp only [List.map_toArray, List.map_cons, List.map_nil]); first | done | rfl | (simp only [List.length_drop, List.length_take]; rfl)) ?_; (with_reducible refine (ops_Binary.calls k1 a2 a0 a1 t149 t150 _ A13.out).mono ?_); rintro e w' ⟨rfl, ⟨nd, rfl⟩⟩; refine ⟨_, rfl, ?_⟩) | ((with_reducible refine gate_callee (f := 7) rfl ?_); refine goesL_ (some 83) rfl rfl Try.func7 (by kernel_rfl) rfl #[.int .i64 a2, .int .i64 a0, .int .i64 a1] rfl (by (try simp only [List.map_toArray, List.map_cons, List.map_nil]); first | done | rfl | (simp only [List.length_drop, List.length_take]; rfl)) ?_; (with_reducible refine (louverref02_Binary.calls k1 a2 a0 a1 t151 t152 _ A14.out).mono ?_); rintro e w' ⟨rfl, ⟨nd, rfl⟩⟩; refine ⟨_, rfl, ?_⟩) | ((with_reducible refine gate_callee (f := 8) rfl ?_); refine goesL_ (some 89) rfl rfl Try.func8 (by kernel_rfl) rfl #[.int .i64 a2, .int .i64 a1] rfl (by (try simp only [List.map_toArray, List.map_cons, List.map_nil]); first | done | rfl | (simp only [List.length_drop, List.length_take]; rfl)) ?_; (with_reducible refine (ops_Unary.calls a2 a1 t153 t154 _ A15.out).mono ?_); rintro e w' ⟨rfl, ⟨nd, rfl⟩⟩; refine ⟨_, rfl, ?_⟩) | ((with_reducible refine gate_callee (f := 9) rfl ?_); refine goesL_ (some 95) rfl rfl Try.func9 (by kernel_rfl) rfl #[.int .i64 a2, .int .i64 a1] rfl (by (try simp only [List.map_toArray, List.map_cons, List.map_nil]); first | done | rfl | (simp only [List.length_drop, List.length_take]; rfl)) ?_; (with_reducible refine (louverref02_Unary.calls k1 a2 a1 t155 t156 _ A16.out).mono ?_); rintro e w' ⟨rfl, ⟨nd, rfl⟩⟩; refine ⟨_, rfl, ?_⟩))
            go_ret
            exact ⟨by first | rfl | (simp; done) | (simp [*]; done), by repeat (first | exact Drawn0.refl _ | apply Drawn0.step)⟩
        · rw [if_neg c17] at H
          have c17b0 : (t149 == t151) = false := beq_eq_false_iff_ne.mpr c17
          have c17b1 : (t149 != t151) = true := bne_iff_ne.mpr c17
          obtain rfl := Option.some.inj H
          go_wp2_with (first | ((with_reducible refine gate_callee (f := 6) rfl ?_); refine goesL_ (some 76) rfl rfl Try.func6 (by kernel_rfl) rfl #[.int .i64 a2, .int .i64 a0, .int .i64 a1] rfl (by (try simp only [List.map_toArray, List.map_cons, List.map_nil]); first | done | rfl | (simp only [List.length_drop, List.length_take]; rfl)) ?_; (with_reducible refine (ops_Binary.calls k1 a2 a0 a1 t149 t150 _ A13.out).mono ?_); rintro e w' ⟨rfl, ⟨nd, rfl⟩⟩; refine ⟨_, rfl, ?_⟩) | ((with_reducible refine gate_callee (f := 7) rfl ?_); refine goesL_ (some 83) rfl rfl Try.func7 (by kernel_rfl) rfl #[.int .i64 a2, .int .i64 a0, .int .i64 a1] rfl (by (try simp only [List.map_toArray, List.map_cons, List.map_nil]); first | done | rfl | (simp only [List.length_drop, List.length_take]; rfl)) ?_; (with_reducible refine (louverref02_Binary.calls k1 a2 a0 a1 t151 t152 _ A14.out).mono ?_); rintro e w' ⟨rfl, ⟨nd, rfl⟩⟩; refine ⟨_, rfl, ?_⟩) | ((with_reducible refine gate_callee (f := 8) rfl ?_); refine goesL_ (some 89) rfl rfl Try.func8 (by kernel_rfl) rfl #[.int .i64 a2, .int .i64 a1] rfl (by (try simp only [List.map_toArray, List.map_cons, List.map_nil]); first | done | rfl | (simp only [List.length_drop, List.length_take]; rfl)) ?_; (with_reducible refine (ops_Unary.calls a2 a1 t153 t154 _ A15.out).mono ?_); rintro e w' ⟨rfl, ⟨nd, rfl⟩⟩; refine ⟨_, rfl, ?_⟩) | ((with_reducible refine gate_callee (f := 9) rfl ?_); refine goesL_ (some 95) rfl rfl Try.func9 (by kernel_rfl) rfl #[.int .i64 a2, .int .i64 a1] rfl (by (try simp only [List.map_toArray, List.map_cons, List.map_nil]); first | done | rfl | (simp only [List.length_drop, List.length_take]; rfl)) ?_; (with_reducible refine (louverref02_Unary.calls k1 a2 a1 t155 t156 _ A16.out).mono ?_); rintro e w' ⟨rfl, ⟨nd, rfl⟩⟩; refine ⟨_, rfl, ?_⟩))
          go_ret
          exact ⟨by first | rfl | (simp; done) | (simp [*]; done), by repeat (first | exact Drawn0.refl _ | apply Drawn0.step)⟩

/-- THE ONE PURE STATEMENT of louverlaw02_OpsAll: yours. -/
def louverlaw02_OpsAll.Pure : Prop := ∀ (a0 : Int) (a1 : Int) (a2 : Int), (Lit.int .i64 a0).wf = true → (Lit.int .i64 a1).wf = true → (Lit.int .i64 a2).wf = true → ∃ k, louverlaw02_OpsAll.f k a0 a1 a2 = some true
theorem louverlaw02_OpsAll.walk (P : louverlaw02_OpsAll.Pure) (a0 : Int) (a1 : Int) (a2 : Int) (w : World) (w0 : (Lit.int .i64 a0).wf = true) (w1 : (Lit.int .i64 a1).wf = true) (w2 : (Lit.int .i64 a2).wf = true) :
    Calls Try.prog 3 #[.int .i64 a0, .int .i64 a1, .int .i64 a2] w fun e w' => e = .returned (.bool true) ∧ Below w.heap.size w w' := by
  obtain ⟨k, h⟩ := P a0 a1 a2 w0 w1 w2
  refine (louverlaw02_OpsAll.calls k a0 a1 a2 true w h).mono ?_
  rintro e w' ⟨rfl, hd⟩
  exact ⟨rfl, hd.below⟩

/-! ### louverlaw02_OpsLaws: function 4 -/
mutual
def louverlaw02_OpsLaws.j0 : Nat → Int → Int → Bool → Option (Bool)
  | 0, _, _, _ => none
  | k + 1, x0, x1, x22 => if x22 = true then (some false) else ((louverlaw02_bin.f k 13 x0 x1).bind fun t162 => ((louverlaw02_bin.f k 11 x0 x1).bind fun t163 => ((louverlaw02_bin.f k 2 x0 x1).bind fun t164 => ((louverlaw02_un.f 15 x1).bind fun t165 => ((louverlaw02_bin.f k 1 x0 t165).bind fun t166 => (if t164 = t166 then ((louverlaw02_un.f 17 x0).bind fun t167 => ((louverlaw02_un.f 15 x0).bind fun t168 => ((louverlaw02_bin.f k 2 t168 1).bind fun t169 => (if t167 = t169 then ((louverlaw02_bin.f k 14 x1 x0).bind fun t170 => (if t162 = (wrap64 (1 - t170)) then ((louverlaw02_bin.f k 12 x0 x1).bind fun t171 => (if t171 = (wrap64 (1 - t163)) then (if t163 = 0 then (if t162 = 0 then ((louverlaw02_bin.f k 14 x0 x1).bind fun t172 => (louverlaw02_OpsLaws.j1 k x0 x1 (t172 != (wrap64 (t162 + t163))))) else (if t162 = 1 then ((louverlaw02_bin.f k 14 x0 x1).bind fun t173 => (louverlaw02_OpsLaws.j1 k x0 x1 (t173 != (wrap64 (t162 + t163))))) else (louverlaw02_OpsLaws.j1 k x0 x1 true))) else (if t163 = 1 then (if t162 = 0 then ((louverlaw02_bin.f k 14 x0 x1).bind fun t174 => (louverlaw02_OpsLaws.j1 k x0 x1 (t174 != (wrap64 (t162 + t163))))) else (if t162 = 1 then ((louverlaw02_bin.f k 14 x0 x1).bind fun t175 => (louverlaw02_OpsLaws.j1 k x0 x1 (t175 != (wrap64 (t162 + t163))))) else (louverlaw02_OpsLaws.j1 k x0 x1 true))) else (louverlaw02_OpsLaws.j1 k x0 x1 true))) else (louverlaw02_OpsLaws.j1 k x0 x1 true))) else (louverlaw02_OpsLaws.j1 k x0 x1 true))) else (louverlaw02_OpsLaws.j1 k x0 x1 true))))) else (louverlaw02_OpsLaws.j1 k x0 x1 true)))))))
def louverlaw02_OpsLaws.j1 : Nat → Int → Int → Bool → Option (Bool)
  | 0, _, _, _ => none
  | k + 1, x0, x1, x85 => if x85 = true then (some false) else ((louverlaw02_bin.f k 9 x0 x1).bind fun t176 => ((louverlaw02_bin.f k 9 1 (Go.bits .and .i64 x1 63)).bind fun t177 => ((louverlaw02_bin.f k 3 x0 t177).bind fun t178 => (if t176 = t178 then ((louverlaw02_bin.f k 8 x0 x1).bind fun t179 => ((louverlaw02_bin.f k 7 x0 x1).bind fun t180 => ((louverlaw02_bin.f k 6 x0 x1).bind fun t181 => ((louverlaw02_un.f 17 t181).bind fun t182 => ((louverlaw02_bin.f k 6 t180 t182).bind fun t183 => (if t179 = t183 then ((louverlaw02_bin.f k 1 t181 t180).bind fun t184 => ((louverlaw02_bin.f k 1 x0 x1).bind fun t185 => (if t184 = t185 then ((louverlaw02_bin.f k 10 x0 x1).bind fun t186 => ((louverlaw02_bin.f k 9 t186 x1).bind fun t187 => ((louverlaw02_bin.f k 10 t187 x1).bind fun t188 => (if t188 = t186 then ((louverlaw02_awake.f k).bind fun t189 => (some t189)) else (some false))))) else (some false)))) else (some false))))))) else (some false)))))
end
def louverlaw02_OpsLaws.f (k : Nat) (a0 : Int) (a1 : Int) : Option (Bool) := if a1 = 0 then (louverlaw02_OpsLaws.j0 k a0 a1 false) else ((louverlaw02_bin.f k 4 a0 a1).bind fun t158 => ((louverlaw02_bin.f k 3 t158 a1).bind fun t159 => ((louverlaw02_bin.f k 5 a0 a1).bind fun t160 => ((louverlaw02_bin.f k 1 t159 t160).bind fun t161 => (louverlaw02_OpsLaws.j0 k a0 a1 (t161 != a0))))))
theorem louverlaw02_OpsLaws.mono_l : ∀ k, (∀ y0 y1 y2, LeO (louverlaw02_OpsLaws.j0 k y0 y1 y2) (louverlaw02_OpsLaws.j0 (k + 1) y0 y1 y2)) ∧ (∀ y0 y1 y2, LeO (louverlaw02_OpsLaws.j1 k y0 y1 y2) (louverlaw02_OpsLaws.j1 (k + 1) y0 y1 y2))
  | 0 => ⟨fun _ _ _ r h => by simp [louverlaw02_OpsLaws.j0] at h, fun _ _ _ r h => by simp [louverlaw02_OpsLaws.j1] at h⟩
  | k + 1 => by
    obtain ⟨ih0, ih1⟩ := louverlaw02_OpsLaws.mono_l k
    refine ⟨?_, ?_⟩
    · intro y0 y1 y2
      unfold louverlaw02_OpsLaws.j0
      repeat' first
      | (with_reducible exact ih0 _ _ _)
      | (with_reducible exact ih1 _ _ _)
      | (with_reducible exact louverlaw02_awake.mono _)
      | (with_reducible exact louverlaw02_bin.mono _ _ _ _)
      | (with_reducible exact LeO.refl _)
      | (with_reducible exact LeO.none _)
      | (with_reducible refine LeO.ite ?_ ?_)
      | (with_reducible refine LeO.bind ?_ (fun _ => ?_))
      | exact ih0 _ _ _
      | exact ih1 _ _ _
      | exact louverlaw02_awake.mono _
      | exact louverlaw02_bin.mono _ _ _ _
      | exact LeO.none _
      | refine LeO.ite ?_ ?_
      | refine LeO.bind ?_ (fun _ => ?_)
    · intro y0 y1 y2
      unfold louverlaw02_OpsLaws.j1
      repeat' first
      | (with_reducible exact ih0 _ _ _)
      | (with_reducible exact ih1 _ _ _)
      | (with_reducible exact louverlaw02_awake.mono _)
      | (with_reducible exact louverlaw02_bin.mono _ _ _ _)
      | (with_reducible exact LeO.refl _)
      | (with_reducible exact LeO.none _)
      | (with_reducible refine LeO.ite ?_ ?_)
      | (with_reducible refine LeO.bind ?_ (fun _ => ?_))
      | exact ih0 _ _ _
      | exact ih1 _ _ _
      | exact louverlaw02_awake.mono _
      | exact louverlaw02_bin.mono _ _ _ _
      | exact LeO.none _
      | refine LeO.ite ?_ ?_
      | refine LeO.bind ?_ (fun _ => ?_)
theorem louverlaw02_OpsLaws.mono : ∀ a0 a1 k, LeO (louverlaw02_OpsLaws.f k a0 a1) (louverlaw02_OpsLaws.f (k + 1) a0 a1) := by
  intro a0 a1 k
  obtain ⟨ih0, ih1⟩ := louverlaw02_OpsLaws.mono_l k
  unfold louverlaw02_OpsLaws.f
  repeat' first
      | (with_reducible exact ih0 _ _ _)
      | (with_reducible exact ih1 _ _ _)
      | (with_reducible exact louverlaw02_awake.mono _)
      | (with_reducible exact louverlaw02_bin.mono _ _ _ _)
      | (with_reducible exact LeO.refl _)
      | (with_reducible exact LeO.none _)
      | (with_reducible refine LeO.ite ?_ ?_)
      | (with_reducible refine LeO.bind ?_ (fun _ => ?_))
      | exact ih0 _ _ _
      | exact ih1 _ _ _
      | exact louverlaw02_awake.mono _
      | exact louverlaw02_bin.mono _ _ _ _
      | exact LeO.none _
      | refine LeO.ite ?_ ?_
      | refine LeO.bind ?_ (fun _ => ?_)
set_option maxHeartbeats 8000000 in
set_option maxRecDepth 100000 in
theorem louverlaw02_OpsLaws.calls (k : Nat) (a0 : Int) (a1 : Int) (r : Bool) (w : World) (h : louverlaw02_OpsLaws.f k a0 a1 = some r) :
    Calls Try.prog 4 #[.int .i64 a0, .int .i64 a1] w fun e w' => e = .returned (.bool r) ∧ Drawn0 w w' := by
  have H : (if a1 = 0 then (louverlaw02_OpsLaws.j0 k a0 a1 false) else ((louverlaw02_bin.f k 4 a0 a1).bind fun t158 => ((louverlaw02_bin.f k 3 t158 a1).bind fun t159 => ((louverlaw02_bin.f k 5 a0 a1).bind fun t160 => ((louverlaw02_bin.f k 1 t159 t160).bind fun t161 => (louverlaw02_OpsLaws.j0 k a0 a1 (t161 != a0))))))) = some r := h
  clear h
  have HC3 := Aside0.mk H
  clear H
  go_enter Try.func4, Try.ntmps4
  go_upto_region 1 with (fail)
  go_cut [22] (fun v22 wc => ∃ (kq : Nat) (x22_2 : Bool), v22 = .bool x22_2 ∧ Aside0 (louverlaw02_OpsLaws.j0 kq a0 a1 x22_2 = some r) ∧ Aside0 (kq ≤ k) ∧ Drawn0 w wc)
  case first =>
    have H := HC3.out
    clear HC3
    by_cases c4 : a1 = 0
    · rw [if_pos c4] at H
      have c4b0 : (a1 == 0) = true := beq_iff_eq.mpr c4
      have c4b1 : (a1 != 0) = false := bne_eq_false_iff_eq.mpr c4
      clear c4
      (first | rw [c4b0] | (simp only [i64_w, i32_w]; rw [c4b0]) | skip)
      have H' := Aside0.mk H
      clear H
      go_wp2
      go_meet
      case rel => exact ⟨_, (false), (by first | rfl | (simp; done) | (simp [*]; done)), H', ⟨by first | omega | exact Nat.le_refl _⟩, by repeat (first | exact Drawn0.refl _ | apply Drawn0.step)⟩
    · rw [if_neg c4] at H
      have c4b0 : (a1 == 0) = false := beq_eq_false_iff_ne.mpr c4
      have c4b1 : (a1 != 0) = true := bne_iff_ne.mpr c4
      (first | rw [c4b0] | (simp only [i64_w, i32_w]; rw [c4b0]) | skip)
      replace H := Option.bind_eq_some_iff.mp H
      obtain ⟨t158, A50, H⟩ := H
      replace H : ((louverlaw02_bin.f k 3 t158 a1).bind fun t159 => ((louverlaw02_bin.f k 5 a0 a1).bind fun t160 => ((louverlaw02_bin.f k 1 t159 t160).bind fun t161 => (louverlaw02_OpsLaws.j0 k a0 a1 (t161 != a0))))) = some r := H
      have A5 := Aside0.mk A50
      clear A50
      replace H := Option.bind_eq_some_iff.mp H
      obtain ⟨t159, A60, H⟩ := H
      replace H : ((louverlaw02_bin.f k 5 a0 a1).bind fun t160 => ((louverlaw02_bin.f k 1 t159 t160).bind fun t161 => (louverlaw02_OpsLaws.j0 k a0 a1 (t161 != a0)))) = some r := H
      have A6 := Aside0.mk A60
      clear A60
      replace H := Option.bind_eq_some_iff.mp H
      obtain ⟨t160, A70, H⟩ := H
      replace H : ((louverlaw02_bin.f k 1 t159 t160).bind fun t161 => (louverlaw02_OpsLaws.j0 k a0 a1 (t161 != a0))) = some r := H
      have A7 := Aside0.mk A70
      clear A70
      replace H := Option.bind_eq_some_iff.mp H
      obtain ⟨t161, A80, H⟩ := H
      replace H : (louverlaw02_OpsLaws.j0 k a0 a1 (t161 != a0)) = some r := H
      have A8 := Aside0.mk A80
      clear A80
      have H' := Aside0.mk H
      clear H
      go_wp2_with (first | (go_at_call 11; (with_reducible refine (louverlaw02_bin.calls k 4 a0 a1 t158 _ A5.out).mono ?_); rintro e w' ⟨rfl, ⟨nd, rfl⟩⟩) | (go_at_call 11; (with_reducible refine (louverlaw02_bin.calls k 3 t158 a1 t159 _ A6.out).mono ?_); rintro e w' ⟨rfl, ⟨nd, rfl⟩⟩) | (go_at_call 11; (with_reducible refine (louverlaw02_bin.calls k 5 a0 a1 t160 _ A7.out).mono ?_); rintro e w' ⟨rfl, ⟨nd, rfl⟩⟩) | (go_at_call 11; (with_reducible refine (louverlaw02_bin.calls k 1 t159 t160 t161 _ A8.out).mono ?_); rintro e w' ⟨rfl, ⟨nd, rfl⟩⟩))
      go_meet
      case rel => exact ⟨_, ((t161 != a0)), (by first | rfl | (simp; done) | (simp [*]; done)), H', ⟨by first | omega | exact Nat.le_refl _⟩, by repeat (first | exact Drawn0.refl _ | apply Drawn0.step)⟩
  case rest =>
    clear HC3
    try clear p2
    try clear c4
    try clear c4b0
    try clear c4b1
    obtain ⟨kq, x22_2, rfl, HA, HJ2, ⟨mc2, rfl⟩⟩ := hcut
    cases kq with
    | zero => exact absurd HA.out (by simp [louverlaw02_OpsLaws.j0])
    | succ kj2 =>
      have H := HA.out
      clear HA
      simp only [louverlaw02_OpsLaws.j0] at H
      by_cases c9 : x22_2 = true
      · subst c9
        have H1 : (some false) = some r := by rw [if_pos rfl] at H; exact H
        clear H
        have H := H1
        clear H1
        obtain rfl := Option.some.inj H
        go_wp2
        go_ret
        exact ⟨by first | rfl | (simp; done) | (simp [*]; done), by repeat (first | exact Drawn0.refl _ | apply Drawn0.step)⟩
      · replace c9 := Bool.eq_false_iff.mpr c9
        subst c9
        have H1 : ((louverlaw02_bin.f kj2 13 a0 a1).bind fun t162 => ((louverlaw02_bin.f kj2 11 a0 a1).bind fun t163 => ((louverlaw02_bin.f kj2 2 a0 a1).bind fun t164 => ((louverlaw02_un.f 15 a1).bind fun t165 => ((louverlaw02_bin.f kj2 1 a0 t165).bind fun t166 => (if t164 = t166 then ((louverlaw02_un.f 17 a0).bind fun t167 => ((louverlaw02_un.f 15 a0).bind fun t168 => ((louverlaw02_bin.f kj2 2 t168 1).bind fun t169 => (if t167 = t169 then ((louverlaw02_bin.f kj2 14 a1 a0).bind fun t170 => (if t162 = (wrap64 (1 - t170)) then ((louverlaw02_bin.f kj2 12 a0 a1).bind fun t171 => (if t171 = (wrap64 (1 - t163)) then (if t163 = 0 then (if t162 = 0 then ((louverlaw02_bin.f kj2 14 a0 a1).bind fun t172 => (louverlaw02_OpsLaws.j1 kj2 a0 a1 (t172 != (wrap64 (t162 + t163))))) else (if t162 = 1 then ((louverlaw02_bin.f kj2 14 a0 a1).bind fun t173 => (louverlaw02_OpsLaws.j1 kj2 a0 a1 (t173 != (wrap64 (t162 + t163))))) else (louverlaw02_OpsLaws.j1 kj2 a0 a1 true))) else (if t163 = 1 then (if t162 = 0 then ((louverlaw02_bin.f kj2 14 a0 a1).bind fun t174 => (louverlaw02_OpsLaws.j1 kj2 a0 a1 (t174 != (wrap64 (t162 + t163))))) else (if t162 = 1 then ((louverlaw02_bin.f kj2 14 a0 a1).bind fun t175 => (louverlaw02_OpsLaws.j1 kj2 a0 a1 (t175 != (wrap64 (t162 + t163))))) else (louverlaw02_OpsLaws.j1 kj2 a0 a1 true))) else (louverlaw02_OpsLaws.j1 kj2 a0 a1 true))) else (louverlaw02_OpsLaws.j1 kj2 a0 a1 true))) else (louverlaw02_OpsLaws.j1 kj2 a0 a1 true))) else (louverlaw02_OpsLaws.j1 kj2 a0 a1 true))))) else (louverlaw02_OpsLaws.j1 kj2 a0 a1 true))))))) = some r := by rw [if_neg (show ¬ (false = true) by decide)] at H; exact H
        clear H
        have H := H1
        clear H1
        replace H := Option.bind_eq_some_iff.mp H
        obtain ⟨t162, A100, H⟩ := H
        replace H : ((louverlaw02_bin.f kj2 11 a0 a1).bind fun t163 => ((louverlaw02_bin.f kj2 2 a0 a1).bind fun t164 => ((louverlaw02_un.f 15 a1).bind fun t165 => ((louverlaw02_bin.f kj2 1 a0 t165).bind fun t166 => (if t164 = t166 then ((louverlaw02_un.f 17 a0).bind fun t167 => ((louverlaw02_un.f 15 a0).bind fun t168 => ((louverlaw02_bin.f kj2 2 t168 1).bind fun t169 => (if t167 = t169 then ((louverlaw02_bin.f kj2 14 a1 a0).bind fun t170 => (if t162 = (wrap64 (1 - t170)) then ((louverlaw02_bin.f kj2 12 a0 a1).bind fun t171 => (if t171 = (wrap64 (1 - t163)) then (if t163 = 0 then (if t162 = 0 then ((louverlaw02_bin.f kj2 14 a0 a1).bind fun t172 => (louverlaw02_OpsLaws.j1 kj2 a0 a1 (t172 != (wrap64 (t162 + t163))))) else (if t162 = 1 then ((louverlaw02_bin.f kj2 14 a0 a1).bind fun t173 => (louverlaw02_OpsLaws.j1 kj2 a0 a1 (t173 != (wrap64 (t162 + t163))))) else (louverlaw02_OpsLaws.j1 kj2 a0 a1 true))) else (if t163 = 1 then (if t162 = 0 then ((louverlaw02_bin.f kj2 14 a0 a1).bind fun t174 => (louverlaw02_OpsLaws.j1 kj2 a0 a1 (t174 != (wrap64 (t162 + t163))))) else (if t162 = 1 then ((louverlaw02_bin.f kj2 14 a0 a1).bind fun t175 => (louverlaw02_OpsLaws.j1 kj2 a0 a1 (t175 != (wrap64 (t162 + t163))))) else (louverlaw02_OpsLaws.j1 kj2 a0 a1 true))) else (louverlaw02_OpsLaws.j1 kj2 a0 a1 true))) else (louverlaw02_OpsLaws.j1 kj2 a0 a1 true))) else (louverlaw02_OpsLaws.j1 kj2 a0 a1 true))) else (louverlaw02_OpsLaws.j1 kj2 a0 a1 true))))) else (louverlaw02_OpsLaws.j1 kj2 a0 a1 true)))))) = some r := H
        have A10 := Aside0.mk A100
        clear A100
        replace H := Option.bind_eq_some_iff.mp H
        obtain ⟨t163, A110, H⟩ := H
        replace H : ((louverlaw02_bin.f kj2 2 a0 a1).bind fun t164 => ((louverlaw02_un.f 15 a1).bind fun t165 => ((louverlaw02_bin.f kj2 1 a0 t165).bind fun t166 => (if t164 = t166 then ((louverlaw02_un.f 17 a0).bind fun t167 => ((louverlaw02_un.f 15 a0).bind fun t168 => ((louverlaw02_bin.f kj2 2 t168 1).bind fun t169 => (if t167 = t169 then ((louverlaw02_bin.f kj2 14 a1 a0).bind fun t170 => (if t162 = (wrap64 (1 - t170)) then ((louverlaw02_bin.f kj2 12 a0 a1).bind fun t171 => (if t171 = (wrap64 (1 - t163)) then (if t163 = 0 then (if t162 = 0 then ((louverlaw02_bin.f kj2 14 a0 a1).bind fun t172 => (louverlaw02_OpsLaws.j1 kj2 a0 a1 (t172 != (wrap64 (t162 + t163))))) else (if t162 = 1 then ((louverlaw02_bin.f kj2 14 a0 a1).bind fun t173 => (louverlaw02_OpsLaws.j1 kj2 a0 a1 (t173 != (wrap64 (t162 + t163))))) else (louverlaw02_OpsLaws.j1 kj2 a0 a1 true))) else (if t163 = 1 then (if t162 = 0 then ((louverlaw02_bin.f kj2 14 a0 a1).bind fun t174 => (louverlaw02_OpsLaws.j1 kj2 a0 a1 (t174 != (wrap64 (t162 + t163))))) else (if t162 = 1 then ((louverlaw02_bin.f kj2 14 a0 a1).bind fun t175 => (louverlaw02_OpsLaws.j1 kj2 a0 a1 (t175 != (wrap64 (t162 + t163))))) else (louverlaw02_OpsLaws.j1 kj2 a0 a1 true))) else (louverlaw02_OpsLaws.j1 kj2 a0 a1 true))) else (louverlaw02_OpsLaws.j1 kj2 a0 a1 true))) else (louverlaw02_OpsLaws.j1 kj2 a0 a1 true))) else (louverlaw02_OpsLaws.j1 kj2 a0 a1 true))))) else (louverlaw02_OpsLaws.j1 kj2 a0 a1 true))))) = some r := H
        have A11 := Aside0.mk A110
        clear A110
        have HC12 := Aside0.mk H
        clear H
        go_upto_region 5 with (first | ((with_reducible refine gate_callee (f := 11) rfl ?_); refine goesL_ (some 25) rfl rfl Try.func11 (by kernel_rfl) rfl #[.int .i64 13, .int .i64 a0, .int .i64 a1] rfl (by (try simp only [List.map_toArray, List.map_cons, List.map_nil]); first | done | rfl | (simp only [List.length_drop, List.length_take]; rfl)) ?_; (with_reducible refine (louverlaw02_bin.calls kj2 13 a0 a1 t162 _ A10.out).mono ?_); rintro e w' ⟨rfl, ⟨nd, rfl⟩⟩; refine ⟨_, rfl, ?_⟩) | ((with_reducible refine gate_callee (f := 11) rfl ?_); refine goesL_ (some 28) rfl rfl Try.func11 (by kernel_rfl) rfl #[.int .i64 11, .int .i64 a0, .int .i64 a1] rfl (by (try simp only [List.map_toArray, List.map_cons, List.map_nil]); first | done | rfl | (simp only [List.length_drop, List.length_take]; rfl)) ?_; (with_reducible refine (louverlaw02_bin.calls kj2 11 a0 a1 t163 _ A11.out).mono ?_); rintro e w' ⟨rfl, ⟨nd, rfl⟩⟩; refine ⟨_, rfl, ?_⟩))
        (try simp only [Act.put, List.setIfInBounds_toArray, List.set_cons_zero, List.set_cons_succ])
        go_cut [85] (fun v85 wc => ∃ (kq : Nat) (x85_11 : Bool), v85 = .bool x85_11 ∧ Aside0 (louverlaw02_OpsLaws.j1 kq a0 a1 x85_11 = some r) ∧ Aside0 (kq ≤ kj2) ∧ Drawn0 w wc)
        case first =>
          have H := HC12.out
          clear HC12
          replace H := Option.bind_eq_some_iff.mp H
          obtain ⟨t164, A130, H⟩ := H
          replace H : ((louverlaw02_un.f 15 a1).bind fun t165 => ((louverlaw02_bin.f kj2 1 a0 t165).bind fun t166 => (if t164 = t166 then ((louverlaw02_un.f 17 a0).bind fun t167 => ((louverlaw02_un.f 15 a0).bind fun t168 => ((louverlaw02_bin.f kj2 2 t168 1).bind fun t169 => (if t167 = t169 then ((louverlaw02_bin.f kj2 14 a1 a0).bind fun t170 => (if t162 = (wrap64 (1 - t170)) then ((louverlaw02_bin.f kj2 12 a0 a1).bind fun t171 => (if t171 = (wrap64 (1 - t163)) then (if t163 = 0 then (if t162 = 0 then ((louverlaw02_bin.f kj2 14 a0 a1).bind fun t172 => (louverlaw02_OpsLaws.j1 kj2 a0 a1 (t172 != (wrap64 (t162 + t163))))) else (if t162 = 1 then ((louverlaw02_bin.f kj2 14 a0 a1).bind fun t173 => (louverlaw02_OpsLaws.j1 kj2 a0 a1 (t173 != (wrap64 (t162 + t163))))) else (louverlaw02_OpsLaws.j1 kj2 a0 a1 true))) else (if t163 = 1 then (if t162 = 0 then ((louverlaw02_bin.f kj2 14 a0 a1).bind fun t174 => (louverlaw02_OpsLaws.j1 kj2 a0 a1 (t174 != (wrap64 (t162 + t163))))) else (if t162 = 1 then ((louverlaw02_bin.f kj2 14 a0 a1).bind fun t175 => (louverlaw02_OpsLaws.j1 kj2 a0 a1 (t175 != (wrap64 (t162 + t163))))) else (louverlaw02_OpsLaws.j1 kj2 a0 a1 true))) else (louverlaw02_OpsLaws.j1 kj2 a0 a1 true))) else (louverlaw02_OpsLaws.j1 kj2 a0 a1 true))) else (louverlaw02_OpsLaws.j1 kj2 a0 a1 true))) else (louverlaw02_OpsLaws.j1 kj2 a0 a1 true))))) else (louverlaw02_OpsLaws.j1 kj2 a0 a1 true)))) = some r := H
          have A13 := Aside0.mk A130
          clear A130
          replace H := Option.bind_eq_some_iff.mp H
          obtain ⟨t165, A140, H⟩ := H
          replace H : ((louverlaw02_bin.f kj2 1 a0 t165).bind fun t166 => (if t164 = t166 then ((louverlaw02_un.f 17 a0).bind fun t167 => ((louverlaw02_un.f 15 a0).bind fun t168 => ((louverlaw02_bin.f kj2 2 t168 1).bind fun t169 => (if t167 = t169 then ((louverlaw02_bin.f kj2 14 a1 a0).bind fun t170 => (if t162 = (wrap64 (1 - t170)) then ((louverlaw02_bin.f kj2 12 a0 a1).bind fun t171 => (if t171 = (wrap64 (1 - t163)) then (if t163 = 0 then (if t162 = 0 then ((louverlaw02_bin.f kj2 14 a0 a1).bind fun t172 => (louverlaw02_OpsLaws.j1 kj2 a0 a1 (t172 != (wrap64 (t162 + t163))))) else (if t162 = 1 then ((louverlaw02_bin.f kj2 14 a0 a1).bind fun t173 => (louverlaw02_OpsLaws.j1 kj2 a0 a1 (t173 != (wrap64 (t162 + t163))))) else (louverlaw02_OpsLaws.j1 kj2 a0 a1 true))) else (if t163 = 1 then (if t162 = 0 then ((louverlaw02_bin.f kj2 14 a0 a1).bind fun t174 => (louverlaw02_OpsLaws.j1 kj2 a0 a1 (t174 != (wrap64 (t162 + t163))))) else (if t162 = 1 then ((louverlaw02_bin.f kj2 14 a0 a1).bind fun t175 => (louverlaw02_OpsLaws.j1 kj2 a0 a1 (t175 != (wrap64 (t162 + t163))))) else (louverlaw02_OpsLaws.j1 kj2 a0 a1 true))) else (louverlaw02_OpsLaws.j1 kj2 a0 a1 true))) else (louverlaw02_OpsLaws.j1 kj2 a0 a1 true))) else (louverlaw02_OpsLaws.j1 kj2 a0 a1 true))) else (louverlaw02_OpsLaws.j1 kj2 a0 a1 true))))) else (louverlaw02_OpsLaws.j1 kj2 a0 a1 true))) = some r := H
          have A14 := Aside0.mk A140
          clear A140
          replace H := Option.bind_eq_some_iff.mp H
          obtain ⟨t166, A150, H⟩ := H
          replace H : (if t164 = t166 then ((louverlaw02_un.f 17 a0).bind fun t167 => ((louverlaw02_un.f 15 a0).bind fun t168 => ((louverlaw02_bin.f kj2 2 t168 1).bind fun t169 => (if t167 = t169 then ((louverlaw02_bin.f kj2 14 a1 a0).bind fun t170 => (if t162 = (wrap64 (1 - t170)) then ((louverlaw02_bin.f kj2 12 a0 a1).bind fun t171 => (if t171 = (wrap64 (1 - t163)) then (if t163 = 0 then (if t162 = 0 then ((louverlaw02_bin.f kj2 14 a0 a1).bind fun t172 => (louverlaw02_OpsLaws.j1 kj2 a0 a1 (t172 != (wrap64 (t162 + t163))))) else (if t162 = 1 then ((louverlaw02_bin.f kj2 14 a0 a1).bind fun t173 => (louverlaw02_OpsLaws.j1 kj2 a0 a1 (t173 != (wrap64 (t162 + t163))))) else (louverlaw02_OpsLaws.j1 kj2 a0 a1 true))) else (if t163 = 1 then (if t162 = 0 then ((louverlaw02_bin.f kj2 14 a0 a1).bind fun t174 => (louverlaw02_OpsLaws.j1 kj2 a0 a1 (t174 != (wrap64 (t162 + t163))))) else (if t162 = 1 then ((louverlaw02_bin.f kj2 14 a0 a1).bind fun t175 => (louverlaw02_OpsLaws.j1 kj2 a0 a1 (t175 != (wrap64 (t162 + t163))))) else (louverlaw02_OpsLaws.j1 kj2 a0 a1 true))) else (louverlaw02_OpsLaws.j1 kj2 a0 a1 true))) else (louverlaw02_OpsLaws.j1 kj2 a0 a1 true))) else (louverlaw02_OpsLaws.j1 kj2 a0 a1 true))) else (louverlaw02_OpsLaws.j1 kj2 a0 a1 true))))) else (louverlaw02_OpsLaws.j1 kj2 a0 a1 true)) = some r := H
          have A15 := Aside0.mk A150
          clear A150
          by_cases c16 : t164 = t166
          · rw [if_pos c16] at H
            have c16b0 : (t164 == t166) = true := beq_iff_eq.mpr c16
            have c16b1 : (t164 != t166) = false := bne_eq_false_iff_eq.mpr c16
            clear c16
            (first | rw [c16b0] | (simp only [i64_w, i32_w]; rw [c16b0]) | skip)
            replace H := Option.bind_eq_some_iff.mp H
            obtain ⟨t167, A170, H⟩ := H
            replace H : ((louverlaw02_un.f 15 a0).bind fun t168 => ((louverlaw02_bin.f kj2 2 t168 1).bind fun t169 => (if t167 = t169 then ((louverlaw02_bin.f kj2 14 a1 a0).bind fun t170 => (if t162 = (wrap64 (1 - t170)) then ((louverlaw02_bin.f kj2 12 a0 a1).bind fun t171 => (if t171 = (wrap64 (1 - t163)) then (if t163 = 0 then (if t162 = 0 then ((louverlaw02_bin.f kj2 14 a0 a1).bind fun t172 => (louverlaw02_OpsLaws.j1 kj2 a0 a1 (t172 != (wrap64 (t162 + t163))))) else (if t162 = 1 then ((louverlaw02_bin.f kj2 14 a0 a1).bind fun t173 => (louverlaw02_OpsLaws.j1 kj2 a0 a1 (t173 != (wrap64 (t162 + t163))))) else (louverlaw02_OpsLaws.j1 kj2 a0 a1 true))) else (if t163 = 1 then (if t162 = 0 then ((louverlaw02_bin.f kj2 14 a0 a1).bind fun t174 => (louverlaw02_OpsLaws.j1 kj2 a0 a1 (t174 != (wrap64 (t162 + t163))))) else (if t162 = 1 then ((louverlaw02_bin.f kj2 14 a0 a1).bind fun t175 => (louverlaw02_OpsLaws.j1 kj2 a0 a1 (t175 != (wrap64 (t162 + t163))))) else (louverlaw02_OpsLaws.j1 kj2 a0 a1 true))) else (louverlaw02_OpsLaws.j1 kj2 a0 a1 true))) else (louverlaw02_OpsLaws.j1 kj2 a0 a1 true))) else (louverlaw02_OpsLaws.j1 kj2 a0 a1 true))) else (louverlaw02_OpsLaws.j1 kj2 a0 a1 true)))) = some r := H
            have A17 := Aside0.mk A170
            clear A170
            replace H := Option.bind_eq_some_iff.mp H
            obtain ⟨t168, A180, H⟩ := H
            replace H : ((louverlaw02_bin.f kj2 2 t168 1).bind fun t169 => (if t167 = t169 then ((louverlaw02_bin.f kj2 14 a1 a0).bind fun t170 => (if t162 = (wrap64 (1 - t170)) then ((louverlaw02_bin.f kj2 12 a0 a1).bind fun t171 => (if t171 = (wrap64 (1 - t163)) then (if t163 = 0 then (if t162 = 0 then ((louverlaw02_bin.f kj2 14 a0 a1).bind fun t172 => (louverlaw02_OpsLaws.j1 kj2 a0 a1 (t172 != (wrap64 (t162 + t163))))) else (if t162 = 1 then ((louverlaw02_bin.f kj2 14 a0 a1).bind fun t173 => (louverlaw02_OpsLaws.j1 kj2 a0 a1 (t173 != (wrap64 (t162 + t163))))) else (louverlaw02_OpsLaws.j1 kj2 a0 a1 true))) else (if t163 = 1 then (if t162 = 0 then ((louverlaw02_bin.f kj2 14 a0 a1).bind fun t174 => (louverlaw02_OpsLaws.j1 kj2 a0 a1 (t174 != (wrap64 (t162 + t163))))) else (if t162 = 1 then ((louverlaw02_bin.f kj2 14 a0 a1).bind fun t175 => (louverlaw02_OpsLaws.j1 kj2 a0 a1 (t175 != (wrap64 (t162 + t163))))) else (louverlaw02_OpsLaws.j1 kj2 a0 a1 true))) else (louverlaw02_OpsLaws.j1 kj2 a0 a1 true))) else (louverlaw02_OpsLaws.j1 kj2 a0 a1 true))) else (louverlaw02_OpsLaws.j1 kj2 a0 a1 true))) else (louverlaw02_OpsLaws.j1 kj2 a0 a1 true))) = some r := H
            have A18 := Aside0.mk A180
            clear A180
            replace H := Option.bind_eq_some_iff.mp H
            obtain ⟨t169, A190, H⟩ := H
            replace H : (if t167 = t169 then ((louverlaw02_bin.f kj2 14 a1 a0).bind fun t170 => (if t162 = (wrap64 (1 - t170)) then ((louverlaw02_bin.f kj2 12 a0 a1).bind fun t171 => (if t171 = (wrap64 (1 - t163)) then (if t163 = 0 then (if t162 = 0 then ((louverlaw02_bin.f kj2 14 a0 a1).bind fun t172 => (louverlaw02_OpsLaws.j1 kj2 a0 a1 (t172 != (wrap64 (t162 + t163))))) else (if t162 = 1 then ((louverlaw02_bin.f kj2 14 a0 a1).bind fun t173 => (louverlaw02_OpsLaws.j1 kj2 a0 a1 (t173 != (wrap64 (t162 + t163))))) else (louverlaw02_OpsLaws.j1 kj2 a0 a1 true))) else (if t163 = 1 then (if t162 = 0 then ((louverlaw02_bin.f kj2 14 a0 a1).bind fun t174 => (louverlaw02_OpsLaws.j1 kj2 a0 a1 (t174 != (wrap64 (t162 + t163))))) else (if t162 = 1 then ((louverlaw02_bin.f kj2 14 a0 a1).bind fun t175 => (louverlaw02_OpsLaws.j1 kj2 a0 a1 (t175 != (wrap64 (t162 + t163))))) else (louverlaw02_OpsLaws.j1 kj2 a0 a1 true))) else (louverlaw02_OpsLaws.j1 kj2 a0 a1 true))) else (louverlaw02_OpsLaws.j1 kj2 a0 a1 true))) else (louverlaw02_OpsLaws.j1 kj2 a0 a1 true))) else (louverlaw02_OpsLaws.j1 kj2 a0 a1 true)) = some r := H
            have A19 := Aside0.mk A190
            clear A190
            by_cases c20 : t167 = t169
            · rw [if_pos c20] at H
              have c20b0 : (t167 == t169) = true := beq_iff_eq.mpr c20
              have c20b1 : (t167 != t169) = false := bne_eq_false_iff_eq.mpr c20
              clear c20
              replace H := Option.bind_eq_some_iff.mp H
              obtain ⟨t170, A210, H⟩ := H
              replace H : (if t162 = (wrap64 (1 - t170)) then ((louverlaw02_bin.f kj2 12 a0 a1).bind fun t171 => (if t171 = (wrap64 (1 - t163)) then (if t163 = 0 then (if t162 = 0 then ((louverlaw02_bin.f kj2 14 a0 a1).bind fun t172 => (louverlaw02_OpsLaws.j1 kj2 a0 a1 (t172 != (wrap64 (t162 + t163))))) else (if t162 = 1 then ((louverlaw02_bin.f kj2 14 a0 a1).bind fun t173 => (louverlaw02_OpsLaws.j1 kj2 a0 a1 (t173 != (wrap64 (t162 + t163))))) else (louverlaw02_OpsLaws.j1 kj2 a0 a1 true))) else (if t163 = 1 then (if t162 = 0 then ((louverlaw02_bin.f kj2 14 a0 a1).bind fun t174 => (louverlaw02_OpsLaws.j1 kj2 a0 a1 (t174 != (wrap64 (t162 + t163))))) else (if t162 = 1 then ((louverlaw02_bin.f kj2 14 a0 a1).bind fun t175 => (louverlaw02_OpsLaws.j1 kj2 a0 a1 (t175 != (wrap64 (t162 + t163))))) else (louverlaw02_OpsLaws.j1 kj2 a0 a1 true))) else (louverlaw02_OpsLaws.j1 kj2 a0 a1 true))) else (louverlaw02_OpsLaws.j1 kj2 a0 a1 true))) else (louverlaw02_OpsLaws.j1 kj2 a0 a1 true)) = some r := H
              have A21 := Aside0.mk A210
              clear A210
              by_cases c22 : t162 = (wrap64 (1 - t170))
              · rw [if_pos c22] at H
                have c22b0 : (t162 == (wrap64 (1 - t170))) = true := beq_iff_eq.mpr c22
                have c22b1 : (t162 != (wrap64 (1 - t170))) = false := bne_eq_false_iff_eq.mpr c22
                clear c22
                replace H := Option.bind_eq_some_iff.mp H
                obtain ⟨t171, A230, H⟩ := H
                replace H : (if t171 = (wrap64 (1 - t163)) then (if t163 = 0 then (if t162 = 0 then ((louverlaw02_bin.f kj2 14 a0 a1).bind fun t172 => (louverlaw02_OpsLaws.j1 kj2 a0 a1 (t172 != (wrap64 (t162 + t163))))) else (if t162 = 1 then ((louverlaw02_bin.f kj2 14 a0 a1).bind fun t173 => (louverlaw02_OpsLaws.j1 kj2 a0 a1 (t173 != (wrap64 (t162 + t163))))) else (louverlaw02_OpsLaws.j1 kj2 a0 a1 true))) else (if t163 = 1 then (if t162 = 0 then ((louverlaw02_bin.f kj2 14 a0 a1).bind fun t174 => (louverlaw02_OpsLaws.j1 kj2 a0 a1 (t174 != (wrap64 (t162 + t163))))) else (if t162 = 1 then ((louverlaw02_bin.f kj2 14 a0 a1).bind fun t175 => (louverlaw02_OpsLaws.j1 kj2 a0 a1 (t175 != (wrap64 (t162 + t163))))) else (louverlaw02_OpsLaws.j1 kj2 a0 a1 true))) else (louverlaw02_OpsLaws.j1 kj2 a0 a1 true))) else (louverlaw02_OpsLaws.j1 kj2 a0 a1 true)) = some r := H
                have A23 := Aside0.mk A230
                clear A230
                by_cases c24 : t171 = (wrap64 (1 - t163))
                · rw [if_pos c24] at H
                  have c24b0 : (t171 == (wrap64 (1 - t163))) = true := beq_iff_eq.mpr c24
                  have c24b1 : (t171 != (wrap64 (1 - t163))) = false := bne_eq_false_iff_eq.mpr c24
                  clear c24
                  by_cases c25 : t163 = 0
                  · rw [if_pos c25] at H
                    have c25b0 : (t163 == 0) = true := beq_iff_eq.mpr c25
                    have c25b1 : (t163 != 0) = false := bne_eq_false_iff_eq.mpr c25
                    clear c25
                    by_cases c26 : t162 = 0
                    · rw [if_pos c26] at H
                      have c26b0 : (t162 == 0) = true := beq_iff_eq.mpr c26
                      have c26b1 : (t162 != 0) = false := bne_eq_false_iff_eq.mpr c26
                      clear c26
                      replace H := Option.bind_eq_some_iff.mp H
                      obtain ⟨t172, A270, H⟩ := H
                      replace H : (louverlaw02_OpsLaws.j1 kj2 a0 a1 (t172 != (wrap64 (t162 + t163)))) = some r := H
                      have A27 := Aside0.mk A270
                      clear A270
                      have H' := Aside0.mk H
                      clear H
                      go_wp2_with (first | ((with_reducible refine gate_callee (f := 11) rfl ?_); refine goesL_ (some 31) rfl rfl Try.func11 (by kernel_rfl) rfl #[.int .i64 2, .int .i64 a0, .int .i64 a1] rfl (by (try simp only [List.map_toArray, List.map_cons, List.map_nil]); first | done | rfl | (simp only [List.length_drop, List.length_take]; rfl)) ?_; (with_reducible refine (louverlaw02_bin.calls kj2 2 a0 a1 t164 _ A13.out).mono ?_); rintro e w' ⟨rfl, ⟨nd, rfl⟩⟩; refine ⟨_, rfl, ?_⟩) | ((with_reducible refine gate_callee (f := 12) rfl ?_); refine goesL_ (some 34) rfl rfl Try.func12 (by kernel_rfl) rfl #[.int .i64 15, .int .i64 a1] rfl (by (try simp only [List.map_toArray, List.map_cons, List.map_nil]); first | done | rfl | (simp only [List.length_drop, List.length_take]; rfl)) ?_; (with_reducible refine (louverlaw02_un.calls 15 a1 t165 _ A14.out).mono ?_); rintro e w' ⟨rfl, ⟨nd, rfl⟩⟩; refine ⟨_, rfl, ?_⟩) | ((with_reducible refine gate_callee (f := 11) rfl ?_); refine goesL_ (some 35) rfl rfl Try.func11 (by kernel_rfl) rfl #[.int .i64 1, .int .i64 a0, .int .i64 t165] rfl (by (try simp only [List.map_toArray, List.map_cons, List.map_nil]); first | done | rfl | (simp only [List.length_drop, List.length_take]; rfl)) ?_; (with_reducible refine (louverlaw02_bin.calls kj2 1 a0 t165 t166 _ A15.out).mono ?_); rintro e w' ⟨rfl, ⟨nd, rfl⟩⟩; refine ⟨_, rfl, ?_⟩) | (go_at_call 12; (with_reducible refine (louverlaw02_un.calls 17 a0 t167 _ A17.out).mono ?_); rintro e w' ⟨rfl, ⟨nd, rfl⟩⟩) | (go_at_call 12; (with_reducible refine (louverlaw02_un.calls 15 a0 t168 _ A18.out).mono ?_); rintro e w' ⟨rfl, ⟨nd, rfl⟩⟩) | (go_at_call 11; (with_reducible refine (louverlaw02_bin.calls kj2 2 t168 1 t169 _ A19.out).mono ?_); rintro e w' ⟨rfl, ⟨nd, rfl⟩⟩) | (go_at_call 11; (with_reducible refine (louverlaw02_bin.calls kj2 14 a1 a0 t170 _ A21.out).mono ?_); rintro e w' ⟨rfl, ⟨nd, rfl⟩⟩) | (go_at_call 11; (with_reducible refine (louverlaw02_bin.calls kj2 12 a0 a1 t171 _ A23.out).mono ?_); rintro e w' ⟨rfl, ⟨nd, rfl⟩⟩) | (go_at_call 11; (with_reducible refine (louverlaw02_bin.calls kj2 14 a0 a1 t172 _ A27.out).mono ?_); rintro e w' ⟨rfl, ⟨nd, rfl⟩⟩))
                      go_meet
                      case rel => exact ⟨_, ((t172 != (wrap64 (t162 + t163)))), (by first | rfl | (simp; done) | (simp [*]; done)), H', ⟨by have := HJ2.out; first | omega | exact Nat.le_refl _⟩, by repeat (first | exact Drawn0.refl _ | apply Drawn0.step)⟩
                    · rw [if_neg c26] at H
                      have c26b0 : (t162 == 0) = false := beq_eq_false_iff_ne.mpr c26
                      have c26b1 : (t162 != 0) = true := bne_iff_ne.mpr c26
                      by_cases c28 : t162 = 1
                      · rw [if_pos c28] at H
                        have c28b0 : (t162 == 1) = true := beq_iff_eq.mpr c28
                        have c28b1 : (t162 != 1) = false := bne_eq_false_iff_eq.mpr c28
                        clear c28
                        replace H := Option.bind_eq_some_iff.mp H
                        obtain ⟨t173, A290, H⟩ := H
                        replace H : (louverlaw02_OpsLaws.j1 kj2 a0 a1 (t173 != (wrap64 (t162 + t163)))) = some r := H
                        have A29 := Aside0.mk A290
                        clear A290
                        have H' := Aside0.mk H
                        clear H
                        go_wp2_with (first | ((with_reducible refine gate_callee (f := 11) rfl ?_); refine goesL_ (some 31) rfl rfl Try.func11 (by kernel_rfl) rfl #[.int .i64 2, .int .i64 a0, .int .i64 a1] rfl (by (try simp only [List.map_toArray, List.map_cons, List.map_nil]); first | done | rfl | (simp only [List.length_drop, List.length_take]; rfl)) ?_; (with_reducible refine (louverlaw02_bin.calls kj2 2 a0 a1 t164 _ A13.out).mono ?_); rintro e w' ⟨rfl, ⟨nd, rfl⟩⟩; refine ⟨_, rfl, ?_⟩) | ((with_reducible refine gate_callee (f := 12) rfl ?_); refine goesL_ (some 34) rfl rfl Try.func12 (by kernel_rfl) rfl #[.int .i64 15, .int .i64 a1] rfl (by (try simp only [List.map_toArray, List.map_cons, List.map_nil]); first | done | rfl | (simp only [List.length_drop, List.length_take]; rfl)) ?_; (with_reducible refine (louverlaw02_un.calls 15 a1 t165 _ A14.out).mono ?_); rintro e w' ⟨rfl, ⟨nd, rfl⟩⟩; refine ⟨_, rfl, ?_⟩) | ((with_reducible refine gate_callee (f := 11) rfl ?_); refine goesL_ (some 35) rfl rfl Try.func11 (by kernel_rfl) rfl #[.int .i64 1, .int .i64 a0, .int .i64 t165] rfl (by (try simp only [List.map_toArray, List.map_cons, List.map_nil]); first | done | rfl | (simp only [List.length_drop, List.length_take]; rfl)) ?_; (with_reducible refine (louverlaw02_bin.calls kj2 1 a0 t165 t166 _ A15.out).mono ?_); rintro e w' ⟨rfl, ⟨nd, rfl⟩⟩; refine ⟨_, rfl, ?_⟩) | (go_at_call 12; (with_reducible refine (louverlaw02_un.calls 17 a0 t167 _ A17.out).mono ?_); rintro e w' ⟨rfl, ⟨nd, rfl⟩⟩) | (go_at_call 12; (with_reducible refine (louverlaw02_un.calls 15 a0 t168 _ A18.out).mono ?_); rintro e w' ⟨rfl, ⟨nd, rfl⟩⟩) | (go_at_call 11; (with_reducible refine (louverlaw02_bin.calls kj2 2 t168 1 t169 _ A19.out).mono ?_); rintro e w' ⟨rfl, ⟨nd, rfl⟩⟩) | (go_at_call 11; (with_reducible refine (louverlaw02_bin.calls kj2 14 a1 a0 t170 _ A21.out).mono ?_); rintro e w' ⟨rfl, ⟨nd, rfl⟩⟩) | (go_at_call 11; (with_reducible refine (louverlaw02_bin.calls kj2 12 a0 a1 t171 _ A23.out).mono ?_); rintro e w' ⟨rfl, ⟨nd, rfl⟩⟩) | (go_at_call 11; (with_reducible refine (louverlaw02_bin.calls kj2 14 a0 a1 t173 _ A29.out).mono ?_); rintro e w' ⟨rfl, ⟨nd, rfl⟩⟩))
                        go_meet
                        case rel => exact ⟨_, ((t173 != (wrap64 (t162 + t163)))), (by first | rfl | (simp; done) | (simp [*]; done)), H', ⟨by have := HJ2.out; first | omega | exact Nat.le_refl _⟩, by repeat (first | exact Drawn0.refl _ | apply Drawn0.step)⟩
                      · rw [if_neg c28] at H
                        have c28b0 : (t162 == 1) = false := beq_eq_false_iff_ne.mpr c28
                        have c28b1 : (t162 != 1) = true := bne_iff_ne.mpr c28
                        have H' := Aside0.mk H
                        clear H
                        go_wp2_with (first | ((with_reducible refine gate_callee (f := 11) rfl ?_); refine goesL_ (some 31) rfl rfl Try.func11 (by kernel_rfl) rfl #[.int .i64 2, .int .i64 a0, .int .i64 a1] rfl (by (try simp only [List.map_toArray, List.map_cons, List.map_nil]); first | done | rfl | (simp only [List.length_drop, List.length_take]; rfl)) ?_; (with_reducible refine (louverlaw02_bin.calls kj2 2 a0 a1 t164 _ A13.out).mono ?_); rintro e w' ⟨rfl, ⟨nd, rfl⟩⟩; refine ⟨_, rfl, ?_⟩) | ((with_reducible refine gate_callee (f := 12) rfl ?_); refine goesL_ (some 34) rfl rfl Try.func12 (by kernel_rfl) rfl #[.int .i64 15, .int .i64 a1] rfl (by (try simp only [List.map_toArray, List.map_cons, List.map_nil]); first | done | rfl | (simp only [List.length_drop, List.length_take]; rfl)) ?_; (with_reducible refine (louverlaw02_un.calls 15 a1 t165 _ A14.out).mono ?_); rintro e w' ⟨rfl, ⟨nd, rfl⟩⟩; refine ⟨_, rfl, ?_⟩) | ((with_reducible refine gate_callee (f := 11) rfl ?_); refine goesL_ (some 35) rfl rfl Try.func11 (by kernel_rfl) rfl #[.int .i64 1, .int .i64 a0, .int .i64 t165] rfl (by (try simp only [List.map_toArray, List.map_cons, List.map_nil]); first | done | rfl | (simp only [List.length_drop, List.length_take]; rfl)) ?_; (with_reducible refine (louverlaw02_bin.calls kj2 1 a0 t165 t166 _ A15.out).mono ?_); rintro e w' ⟨rfl, ⟨nd, rfl⟩⟩; refine ⟨_, rfl, ?_⟩) | (go_at_call 12; (with_reducible refine (louverlaw02_un.calls 17 a0 t167 _ A17.out).mono ?_); rintro e w' ⟨rfl, ⟨nd, rfl⟩⟩) | (go_at_call 12; (with_reducible refine (louverlaw02_un.calls 15 a0 t168 _ A18.out).mono ?_); rintro e w' ⟨rfl, ⟨nd, rfl⟩⟩) | (go_at_call 11; (with_reducible refine (louverlaw02_bin.calls kj2 2 t168 1 t169 _ A19.out).mono ?_); rintro e w' ⟨rfl, ⟨nd, rfl⟩⟩) | (go_at_call 11; (with_reducible refine (louverlaw02_bin.calls kj2 14 a1 a0 t170 _ A21.out).mono ?_); rintro e w' ⟨rfl, ⟨nd, rfl⟩⟩) | (go_at_call 11; (with_reducible refine (louverlaw02_bin.calls kj2 12 a0 a1 t171 _ A23.out).mono ?_); rintro e w' ⟨rfl, ⟨nd, rfl⟩⟩))
                        go_meet
                        case rel => exact ⟨_, (true), (by first | rfl | (simp; done) | (simp [*]; done)), H', ⟨by have := HJ2.out; first | omega | exact Nat.le_refl _⟩, by repeat (first | exact Drawn0.refl _ | apply Drawn0.step)⟩
                  · rw [if_neg c25] at H
                    have c25b0 : (t163 == 0) = false := beq_eq_false_iff_ne.mpr c25
                    have c25b1 : (t163 != 0) = true := bne_iff_ne.mpr c25
                    by_cases c30 : t163 = 1
                    · rw [if_pos c30] at H
                      have c30b0 : (t163 == 1) = true := beq_iff_eq.mpr c30
                      have c30b1 : (t163 != 1) = false := bne_eq_false_iff_eq.mpr c30
                      clear c30
                      by_cases c31 : t162 = 0
                      · rw [if_pos c31] at H
                        have c31b0 : (t162 == 0) = true := beq_iff_eq.mpr c31
                        have c31b1 : (t162 != 0) = false := bne_eq_false_iff_eq.mpr c31
                        clear c31
                        replace H := Option.bind_eq_some_iff.mp H
                        obtain ⟨t174, A320, H⟩ := H
                        replace H : (louverlaw02_OpsLaws.j1 kj2 a0 a1 (t174 != (wrap64 (t162 + t163)))) = some r := H
                        have A32 := Aside0.mk A320
                        clear A320
                        have H' := Aside0.mk H
                        clear H
                        go_wp2_with (first | ((with_reducible refine gate_callee (f := 11) rfl ?_); refine goesL_ (some 31) rfl rfl Try.func11 (by kernel_rfl) rfl #[.int .i64 2, .int .i64 a0, .int .i64 a1] rfl (by (try simp only [List.map_toArray, List.map_cons, List.map_nil]); first | done | rfl | (simp only [List.length_drop, List.length_take]; rfl)) ?_; (with_reducible refine (louverlaw02_bin.calls kj2 2 a0 a1 t164 _ A13.out).mono ?_); rintro e w' ⟨rfl, ⟨nd, rfl⟩⟩; refine ⟨_, rfl, ?_⟩) | ((with_reducible refine gate_callee (f := 12) rfl ?_); refine goesL_ (some 34) rfl rfl Try.func12 (by kernel_rfl) rfl #[.int .i64 15, .int .i64 a1] rfl (by (try simp only [List.map_toArray, List.map_cons, List.map_nil]); first | done | rfl | (simp only [List.length_drop, List.length_take]; rfl)) ?_; (with_reducible refine (louverlaw02_un.calls 15 a1 t165 _ A14.out).mono ?_); rintro e w' ⟨rfl, ⟨nd, rfl⟩⟩; refine ⟨_, rfl, ?_⟩) | ((with_reducible refine gate_callee (f := 11) rfl ?_); refine goesL_ (some 35) rfl rfl Try.func11 (by kernel_rfl) rfl #[.int .i64 1, .int .i64 a0, .int .i64 t165] rfl (by (try simp only [List.map_toArray, List.map_cons, List.map_nil]); first | done | rfl | (simp only [List.length_drop, List.length_take]; rfl)) ?_; (with_reducible refine (louverlaw02_bin.calls kj2 1 a0 t165 t166 _ A15.out).mono ?_); rintro e w' ⟨rfl, ⟨nd, rfl⟩⟩; refine ⟨_, rfl, ?_⟩) | (go_at_call 12; (with_reducible refine (louverlaw02_un.calls 17 a0 t167 _ A17.out).mono ?_); rintro e w' ⟨rfl, ⟨nd, rfl⟩⟩) | (go_at_call 12; (with_reducible refine (louverlaw02_un.calls 15 a0 t168 _ A18.out).mono ?_); rintro e w' ⟨rfl, ⟨nd, rfl⟩⟩) | (go_at_call 11; (with_reducible refine (louverlaw02_bin.calls kj2 2 t168 1 t169 _ A19.out).mono ?_); rintro e w' ⟨rfl, ⟨nd, rfl⟩⟩) | (go_at_call 11; (with_reducible refine (louverlaw02_bin.calls kj2 14 a1 a0 t170 _ A21.out).mono ?_); rintro e w' ⟨rfl, ⟨nd, rfl⟩⟩) | (go_at_call 11; (with_reducible refine (louverlaw02_bin.calls kj2 12 a0 a1 t171 _ A23.out).mono ?_); rintro e w' ⟨rfl, ⟨nd, rfl⟩⟩) | (go_at_call 11; (with_reducible refine (louverlaw02_bin.calls kj2 14 a0 a1 t174 _ A32.out).mono ?_); rintro e w' ⟨rfl, ⟨nd, rfl⟩⟩))
                        go_meet
                        case rel => exact ⟨_, ((t174 != (wrap64 (t162 + t163)))), (by first | rfl | (simp; done) | (simp [*]; done)), H', ⟨by have := HJ2.out; first | omega | exact Nat.le_refl _⟩, by repeat (first | exact Drawn0.refl _ | apply Drawn0.step)⟩
                      · rw [if_neg c31] at H
                        have c31b0 : (t162 == 0) = false := beq_eq_false_iff_ne.mpr c31
                        have c31b1 : (t162 != 0) = true := bne_iff_ne.mpr c31
                        by_cases c33 : t162 = 1
                        · rw [if_pos c33] at H
                          have c33b0 : (t162 == 1) = true := beq_iff_eq.mpr c33
                          have c33b1 : (t162 != 1) = false := bne_eq_false_iff_eq.mpr c33
                          clear c33
                          replace H := Option.bind_eq_some_iff.mp H
                          obtain ⟨t175, A340, H⟩ := H
                          replace H : (louverlaw02_OpsLaws.j1 kj2 a0 a1 (t175 != (wrap64 (t162 + t163)))) = some r := H
                          have A34 := Aside0.mk A340
                          clear A340
                          have H' := Aside0.mk H
                          clear H
                          go_wp2_with (first | ((with_reducible refine gate_callee (f := 11) rfl ?_); refine goesL_ (some 31) rfl rfl Try.func11 (by kernel_rfl) rfl #[.int .i64 2, .int .i64 a0, .int .i64 a1] rfl (by (try simp only [List.map_toArray, List.map_cons, List.map_nil]); first | done | rfl | (simp only [List.length_drop, List.length_take]; rfl)) ?_; (with_reducible refine (louverlaw02_bin.calls kj2 2 a0 a1 t164 _ A13.out).mono ?_); rintro e w' ⟨rfl, ⟨nd, rfl⟩⟩; refine ⟨_, rfl, ?_⟩) | ((with_reducible refine gate_callee (f := 12) rfl ?_); refine goesL_ (some 34) rfl rfl Try.func12 (by kernel_rfl) rfl #[.int .i64 15, .int .i64 a1] rfl (by (try simp only [List.map_toArray, List.map_cons, List.map_nil]); first | done | rfl | (simp only [List.length_drop, List.length_take]; rfl)) ?_; (with_reducible refine (louverlaw02_un.calls 15 a1 t165 _ A14.out).mono ?_); rintro e w' ⟨rfl, ⟨nd, rfl⟩⟩; refine ⟨_, rfl, ?_⟩) | ((with_reducible refine gate_callee (f := 11) rfl ?_); refine goesL_ (some 35) rfl rfl Try.func11 (by kernel_rfl) rfl #[.int .i64 1, .int .i64 a0, .int .i64 t165] rfl (by (try simp only [List.map_toArray, List.map_cons, List.map_nil]); first | done | rfl | (simp only [List.length_drop, List.length_take]; rfl)) ?_; (with_reducible refine (louverlaw02_bin.calls kj2 1 a0 t165 t166 _ A15.out).mono ?_); rintro e w' ⟨rfl, ⟨nd, rfl⟩⟩; refine ⟨_, rfl, ?_⟩) | (go_at_call 12; (with_reducible refine (louverlaw02_un.calls 17 a0 t167 _ A17.out).mono ?_); rintro e w' ⟨rfl, ⟨nd, rfl⟩⟩) | (go_at_call 12; (with_reducible refine (louverlaw02_un.calls 15 a0 t168 _ A18.out).mono ?_); rintro e w' ⟨rfl, ⟨nd, rfl⟩⟩) | (go_at_call 11; (with_reducible refine (louverlaw02_bin.calls kj2 2 t168 1 t169 _ A19.out).mono ?_); rintro e w' ⟨rfl, ⟨nd, rfl⟩⟩) | (go_at_call 11; (with_reducible refine (louverlaw02_bin.calls kj2 14 a1 a0 t170 _ A21.out).mono ?_); rintro e w' ⟨rfl, ⟨nd, rfl⟩⟩) | (go_at_call 11; (with_reducible refine (louverlaw02_bin.calls kj2 12 a0 a1 t171 _ A23.out).mono ?_); rintro e w' ⟨rfl, ⟨nd, rfl⟩⟩) | (go_at_call 11; (with_reducible refine (louverlaw02_bin.calls kj2 14 a0 a1 t175 _ A34.out).mono ?_); rintro e w' ⟨rfl, ⟨nd, rfl⟩⟩))
                          go_meet
                          case rel => exact ⟨_, ((t175 != (wrap64 (t162 + t163)))), (by first | rfl | (simp; done) | (simp [*]; done)), H', ⟨by have := HJ2.out; first | omega | exact Nat.le_refl _⟩, by repeat (first | exact Drawn0.refl _ | apply Drawn0.step)⟩
                        · rw [if_neg c33] at H
                          have c33b0 : (t162 == 1) = false := beq_eq_false_iff_ne.mpr c33
                          have c33b1 : (t162 != 1) = true := bne_iff_ne.mpr c33
                          have H' := Aside0.mk H
                          clear H
                          go_wp2_with (first | ((with_reducible refine gate_callee (f := 11) rfl ?_); refine goesL_ (some 31) rfl rfl Try.func11 (by kernel_rfl) rfl #[.int .i64 2, .int .i64 a0, .int .i64 a1] rfl (by (try simp only [List.map_toArray, List.map_cons, List.map_nil]); first | done | rfl | (simp only [List.length_drop, List.length_take]; rfl)) ?_; (with_reducible refine (louverlaw02_bin.calls kj2 2 a0 a1 t164 _ A13.out).mono ?_); rintro e w' ⟨rfl, ⟨nd, rfl⟩⟩; refine ⟨_, rfl, ?_⟩) | ((with_reducible refine gate_callee (f := 12) rfl ?_); refine goesL_ (some 34) rfl rfl Try.func12 (by kernel_rfl) rfl #[.int .i64 15, .int .i64 a1] rfl (by (try simp only [List.map_toArray, List.map_cons, List.map_nil]); first | done | rfl | (simp only [List.length_drop, List.length_take]; rfl)) ?_; (with_reducible refine (louverlaw02_un.calls 15 a1 t165 _ A14.out).mono ?_); rintro e w' ⟨rfl, ⟨nd, rfl⟩⟩; refine ⟨_, rfl, ?_⟩) | ((with_reducible refine gate_callee (f := 11) rfl ?_); refine goesL_ (some 35) rfl rfl Try.func11 (by kernel_rfl) rfl #[.int .i64 1, .int .i64 a0, .int .i64 t165] rfl (by (try simp only [List.map_toArray, List.map_cons, List.map_nil]); first | done | rfl | (simp only [List.length_drop, List.length_take]; rfl)) ?_; (with_reducible refine (louverlaw02_bin.calls kj2 1 a0 t165 t166 _ A15.out).mono ?_); rintro e w' ⟨rfl, ⟨nd, rfl⟩⟩; refine ⟨_, rfl, ?_⟩) | (go_at_call 12; (with_reducible refine (louverlaw02_un.calls 17 a0 t167 _ A17.out).mono ?_); rintro e w' ⟨rfl, ⟨nd, rfl⟩⟩) | (go_at_call 12; (with_reducible refine (louverlaw02_un.calls 15 a0 t168 _ A18.out).mono ?_); rintro e w' ⟨rfl, ⟨nd, rfl⟩⟩) | (go_at_call 11; (with_reducible refine (louverlaw02_bin.calls kj2 2 t168 1 t169 _ A19.out).mono ?_); rintro e w' ⟨rfl, ⟨nd, rfl⟩⟩) | (go_at_call 11; (with_reducible refine (louverlaw02_bin.calls kj2 14 a1 a0 t170 _ A21.out).mono ?_); rintro e w' ⟨rfl, ⟨nd, rfl⟩⟩) | (go_at_call 11; (with_reducible refine (louverlaw02_bin.calls kj2 12 a0 a1 t171 _ A23.out).mono ?_); rintro e w' ⟨rfl, ⟨nd, rfl⟩⟩))
                          go_meet
                          case rel => exact ⟨_, (true), (by first | rfl | (simp; done) | (simp [*]; done)), H', ⟨by have := HJ2.out; first | omega | exact Nat.le_refl _⟩, by repeat (first | exact Drawn0.refl _ | apply Drawn0.step)⟩
                    · rw [if_neg c30] at H
                      have c30b0 : (t163 == 1) = false := beq_eq_false_iff_ne.mpr c30
                      have c30b1 : (t163 != 1) = true := bne_iff_ne.mpr c30
                      have H' := Aside0.mk H
                      clear H
                      go_wp2_with (first | ((with_reducible refine gate_callee (f := 11) rfl ?_); refine goesL_ (some 31) rfl rfl Try.func11 (by kernel_rfl) rfl #[.int .i64 2, .int .i64 a0, .int .i64 a1] rfl (by (try simp only [List.map_toArray, List.map_cons, List.map_nil]); first | done | rfl | (simp only [List.length_drop, List.length_take]; rfl)) ?_; (with_reducible refine (louverlaw02_bin.calls kj2 2 a0 a1 t164 _ A13.out).mono ?_); rintro e w' ⟨rfl, ⟨nd, rfl⟩⟩; refine ⟨_, rfl, ?_⟩) | ((with_reducible refine gate_callee (f := 12) rfl ?_); refine goesL_ (some 34) rfl rfl Try.func12 (by kernel_rfl) rfl #[.int .i64 15, .int .i64 a1] rfl (by (try simp only [List.map_toArray, List.map_cons, List.map_nil]); first | done | rfl | (simp only [List.length_drop, List.length_take]; rfl)) ?_; (with_reducible refine (louverlaw02_un.calls 15 a1 t165 _ A14.out).mono ?_); rintro e w' ⟨rfl, ⟨nd, rfl⟩⟩; refine ⟨_, rfl, ?_⟩) | ((with_reducible refine gate_callee (f := 11) rfl ?_); refine goesL_ (some 35) rfl rfl Try.func11 (by kernel_rfl) rfl #[.int .i64 1, .int .i64 a0, .int .i64 t165] rfl (by (try simp only [List.map_toArray, List.map_cons, List.map_nil]); first | done | rfl | (simp only [List.length_drop, List.length_take]; rfl)) ?_; (with_reducible refine (louverlaw02_bin.calls kj2 1 a0 t165 t166 _ A15.out).mono ?_); rintro e w' ⟨rfl, ⟨nd, rfl⟩⟩; refine ⟨_, rfl, ?_⟩) | (go_at_call 12; (with_reducible refine (louverlaw02_un.calls 17 a0 t167 _ A17.out).mono ?_); rintro e w' ⟨rfl, ⟨nd, rfl⟩⟩) | (go_at_call 12; (with_reducible refine (louverlaw02_un.calls 15 a0 t168 _ A18.out).mono ?_); rintro e w' ⟨rfl, ⟨nd, rfl⟩⟩) | (go_at_call 11; (with_reducible refine (louverlaw02_bin.calls kj2 2 t168 1 t169 _ A19.out).mono ?_); rintro e w' ⟨rfl, ⟨nd, rfl⟩⟩) | (go_at_call 11; (with_reducible refine (louverlaw02_bin.calls kj2 14 a1 a0 t170 _ A21.out).mono ?_); rintro e w' ⟨rfl, ⟨nd, rfl⟩⟩) | (go_at_call 11; (with_reducible refine (louverlaw02_bin.calls kj2 12 a0 a1 t171 _ A23.out).mono ?_); rintro e w' ⟨rfl, ⟨nd, rfl⟩⟩))
                      go_meet
                      case rel => exact ⟨_, (true), (by first | rfl | (simp; done) | (simp [*]; done)), H', ⟨by have := HJ2.out; first | omega | exact Nat.le_refl _⟩, by repeat (first | exact Drawn0.refl _ | apply Drawn0.step)⟩
                · rw [if_neg c24] at H
                  have c24b0 : (t171 == (wrap64 (1 - t163))) = false := beq_eq_false_iff_ne.mpr c24
                  have c24b1 : (t171 != (wrap64 (1 - t163))) = true := bne_iff_ne.mpr c24
                  have H' := Aside0.mk H
                  clear H
                  go_wp2_with (first | ((with_reducible refine gate_callee (f := 11) rfl ?_); refine goesL_ (some 31) rfl rfl Try.func11 (by kernel_rfl) rfl #[.int .i64 2, .int .i64 a0, .int .i64 a1] rfl (by (try simp only [List.map_toArray, List.map_cons, List.map_nil]); first | done | rfl | (simp only [List.length_drop, List.length_take]; rfl)) ?_; (with_reducible refine (louverlaw02_bin.calls kj2 2 a0 a1 t164 _ A13.out).mono ?_); rintro e w' ⟨rfl, ⟨nd, rfl⟩⟩; refine ⟨_, rfl, ?_⟩) | ((with_reducible refine gate_callee (f := 12) rfl ?_); refine goesL_ (some 34) rfl rfl Try.func12 (by kernel_rfl) rfl #[.int .i64 15, .int .i64 a1] rfl (by (try simp only [List.map_toArray, List.map_cons, List.map_nil]); first | done | rfl | (simp only [List.length_drop, List.length_take]; rfl)) ?_; (with_reducible refine (louverlaw02_un.calls 15 a1 t165 _ A14.out).mono ?_); rintro e w' ⟨rfl, ⟨nd, rfl⟩⟩; refine ⟨_, rfl, ?_⟩) | ((with_reducible refine gate_callee (f := 11) rfl ?_); refine goesL_ (some 35) rfl rfl Try.func11 (by kernel_rfl) rfl #[.int .i64 1, .int .i64 a0, .int .i64 t165] rfl (by (try simp only [List.map_toArray, List.map_cons, List.map_nil]); first | done | rfl | (simp only [List.length_drop, List.length_take]; rfl)) ?_; (with_reducible refine (louverlaw02_bin.calls kj2 1 a0 t165 t166 _ A15.out).mono ?_); rintro e w' ⟨rfl, ⟨nd, rfl⟩⟩; refine ⟨_, rfl, ?_⟩) | (go_at_call 12; (with_reducible refine (louverlaw02_un.calls 17 a0 t167 _ A17.out).mono ?_); rintro e w' ⟨rfl, ⟨nd, rfl⟩⟩) | (go_at_call 12; (with_reducible refine (louverlaw02_un.calls 15 a0 t168 _ A18.out).mono ?_); rintro e w' ⟨rfl, ⟨nd, rfl⟩⟩) | (go_at_call 11; (with_reducible refine (louverlaw02_bin.calls kj2 2 t168 1 t169 _ A19.out).mono ?_); rintro e w' ⟨rfl, ⟨nd, rfl⟩⟩) | (go_at_call 11; (with_reducible refine (louverlaw02_bin.calls kj2 14 a1 a0 t170 _ A21.out).mono ?_); rintro e w' ⟨rfl, ⟨nd, rfl⟩⟩) | (go_at_call 11; (with_reducible refine (louverlaw02_bin.calls kj2 12 a0 a1 t171 _ A23.out).mono ?_); rintro e w' ⟨rfl, ⟨nd, rfl⟩⟩))
                  go_meet
                  case rel => exact ⟨_, (true), (by first | rfl | (simp; done) | (simp [*]; done)), H', ⟨by have := HJ2.out; first | omega | exact Nat.le_refl _⟩, by repeat (first | exact Drawn0.refl _ | apply Drawn0.step)⟩
              · rw [if_neg c22] at H
                have c22b0 : (t162 == (wrap64 (1 - t170))) = false := beq_eq_false_iff_ne.mpr c22
                have c22b1 : (t162 != (wrap64 (1 - t170))) = true := bne_iff_ne.mpr c22
                have H' := Aside0.mk H
                clear H
                go_wp2_with (first | ((with_reducible refine gate_callee (f := 11) rfl ?_); refine goesL_ (some 31) rfl rfl Try.func11 (by kernel_rfl) rfl #[.int .i64 2, .int .i64 a0, .int .i64 a1] rfl (by (try simp only [List.map_toArray, List.map_cons, List.map_nil]); first | done | rfl | (simp only [List.length_drop, List.length_take]; rfl)) ?_; (with_reducible refine (louverlaw02_bin.calls kj2 2 a0 a1 t164 _ A13.out).mono ?_); rintro e w' ⟨rfl, ⟨nd, rfl⟩⟩; refine ⟨_, rfl, ?_⟩) | ((with_reducible refine gate_callee (f := 12) rfl ?_); refine goesL_ (some 34) rfl rfl Try.func12 (by kernel_rfl) rfl #[.int .i64 15, .int .i64 a1] rfl (by (try simp only [List.map_toArray, List.map_cons, List.map_nil]); first | done | rfl | (simp only [List.length_drop, List.length_take]; rfl)) ?_; (with_reducible refine (louverlaw02_un.calls 15 a1 t165 _ A14.out).mono ?_); rintro e w' ⟨rfl, ⟨nd, rfl⟩⟩; refine ⟨_, rfl, ?_⟩) | ((with_reducible refine gate_callee (f := 11) rfl ?_); refine goesL_ (some 35) rfl rfl Try.func11 (by kernel_rfl) rfl #[.int .i64 1, .int .i64 a0, .int .i64 t165] rfl (by (try simp only [List.map_toArray, List.map_cons, List.map_nil]); first | done | rfl | (simp only [List.length_drop, List.length_take]; rfl)) ?_; (with_reducible refine (louverlaw02_bin.calls kj2 1 a0 t165 t166 _ A15.out).mono ?_); rintro e w' ⟨rfl, ⟨nd, rfl⟩⟩; refine ⟨_, rfl, ?_⟩) | (go_at_call 12; (with_reducible refine (louverlaw02_un.calls 17 a0 t167 _ A17.out).mono ?_); rintro e w' ⟨rfl, ⟨nd, rfl⟩⟩) | (go_at_call 12; (with_reducible refine (louverlaw02_un.calls 15 a0 t168 _ A18.out).mono ?_); rintro e w' ⟨rfl, ⟨nd, rfl⟩⟩) | (go_at_call 11; (with_reducible refine (louverlaw02_bin.calls kj2 2 t168 1 t169 _ A19.out).mono ?_); rintro e w' ⟨rfl, ⟨nd, rfl⟩⟩) | (go_at_call 11; (with_reducible refine (louverlaw02_bin.calls kj2 14 a1 a0 t170 _ A21.out).mono ?_); rintro e w' ⟨rfl, ⟨nd, rfl⟩⟩))
                go_meet
                case rel => exact ⟨_, (true), (by first | rfl | (simp; done) | (simp [*]; done)), H', ⟨by have := HJ2.out; first | omega | exact Nat.le_refl _⟩, by repeat (first | exact Drawn0.refl _ | apply Drawn0.step)⟩
            · rw [if_neg c20] at H
              have c20b0 : (t167 == t169) = false := beq_eq_false_iff_ne.mpr c20
              have c20b1 : (t167 != t169) = true := bne_iff_ne.mpr c20
              have H' := Aside0.mk H
              clear H
              go_wp2_with (first | ((with_reducible refine gate_callee (f := 11) rfl ?_); refine goesL_ (some 31) rfl rfl Try.func11 (by kernel_rfl) rfl #[.int .i64 2, .int .i64 a0, .int .i64 a1] rfl (by (try simp only [List.map_toArray, List.map_cons, List.map_nil]); first | done | rfl | (simp only [List.length_drop, List.length_take]; rfl)) ?_; (with_reducible refine (louverlaw02_bin.calls kj2 2 a0 a1 t164 _ A13.out).mono ?_); rintro e w' ⟨rfl, ⟨nd, rfl⟩⟩; refine ⟨_, rfl, ?_⟩) | ((with_reducible refine gate_callee (f := 12) rfl ?_); refine goesL_ (some 34) rfl rfl Try.func12 (by kernel_rfl) rfl #[.int .i64 15, .int .i64 a1] rfl (by (try simp only [List.map_toArray, List.map_cons, List.map_nil]); first | done | rfl | (simp only [List.length_drop, List.length_take]; rfl)) ?_; (with_reducible refine (louverlaw02_un.calls 15 a1 t165 _ A14.out).mono ?_); rintro e w' ⟨rfl, ⟨nd, rfl⟩⟩; refine ⟨_, rfl, ?_⟩) | ((with_reducible refine gate_callee (f := 11) rfl ?_); refine goesL_ (some 35) rfl rfl Try.func11 (by kernel_rfl) rfl #[.int .i64 1, .int .i64 a0, .int .i64 t165] rfl (by (try simp only [List.map_toArray, List.map_cons, List.map_nil]); first | done | rfl | (simp only [List.length_drop, List.length_take]; rfl)) ?_; (with_reducible refine (louverlaw02_bin.calls kj2 1 a0 t165 t166 _ A15.out).mono ?_); rintro e w' ⟨rfl, ⟨nd, rfl⟩⟩; refine ⟨_, rfl, ?_⟩) | (go_at_call 12; (with_reducible refine (louverlaw02_un.calls 17 a0 t167 _ A17.out).mono ?_); rintro e w' ⟨rfl, ⟨nd, rfl⟩⟩) | (go_at_call 12; (with_reducible refine (louverlaw02_un.calls 15 a0 t168 _ A18.out).mono ?_); rintro e w' ⟨rfl, ⟨nd, rfl⟩⟩) | (go_at_call 11; (with_reducible refine (louverlaw02_bin.calls kj2 2 t168 1 t169 _ A19.out).mono ?_); rintro e w' ⟨rfl, ⟨nd, rfl⟩⟩))
              go_meet
              case rel => exact ⟨_, (true), (by first | rfl | (simp; done) | (simp [*]; done)), H', ⟨by have := HJ2.out; first | omega | exact Nat.le_refl _⟩, by repeat (first | exact Drawn0.refl _ | apply Drawn0.step)⟩
          · rw [if_neg c16] at H
            have c16b0 : (t164 == t166) = false := beq_eq_false_iff_ne.mpr c16
            have c16b1 : (t164 != t166) = true := bne_iff_ne.mpr c16
            (first | rw [c16b0] | (simp only [i64_w, i32_w]; rw [c16b0]) | skip)
            have H' := Aside0.mk H
            clear H
            go_wp2_with (first | ((with_reducible refine gate_callee (f := 11) rfl ?_); refine goesL_ (some 31) rfl rfl Try.func11 (by kernel_rfl) rfl #[.int .i64 2, .int .i64 a0, .int .i64 a1] rfl (by (try simp only [List.map_toArray, List.map_cons, List.map_nil]); first | done | rfl | (simp only [List.length_drop, List.length_take]; rfl)) ?_; (with_reducible refine (louverlaw02_bin.calls kj2 2 a0 a1 t164 _ A13.out).mono ?_); rintro e w' ⟨rfl, ⟨nd, rfl⟩⟩; refine ⟨_, rfl, ?_⟩) | ((with_reducible refine gate_callee (f := 12) rfl ?_); refine goesL_ (some 34) rfl rfl Try.func12 (by kernel_rfl) rfl #[.int .i64 15, .int .i64 a1] rfl (by (try simp only [List.map_toArray, List.map_cons, List.map_nil]); first | done | rfl | (simp only [List.length_drop, List.length_take]; rfl)) ?_; (with_reducible refine (louverlaw02_un.calls 15 a1 t165 _ A14.out).mono ?_); rintro e w' ⟨rfl, ⟨nd, rfl⟩⟩; refine ⟨_, rfl, ?_⟩) | ((with_reducible refine gate_callee (f := 11) rfl ?_); refine goesL_ (some 35) rfl rfl Try.func11 (by kernel_rfl) rfl #[.int .i64 1, .int .i64 a0, .int .i64 t165] rfl (by (try simp only [List.map_toArray, List.map_cons, List.map_nil]); first | done | rfl | (simp only [List.length_drop, List.length_take]; rfl)) ?_; (with_reducible refine (louverlaw02_bin.calls kj2 1 a0 t165 t166 _ A15.out).mono ?_); rintro e w' ⟨rfl, ⟨nd, rfl⟩⟩; refine ⟨_, rfl, ?_⟩))
            go_meet
            case rel => exact ⟨_, (true), (by first | rfl | (simp; done) | (simp [*]; done)), H', ⟨by have := HJ2.out; first | omega | exact Nat.le_refl _⟩, by repeat (first | exact Drawn0.refl _ | apply Drawn0.step)⟩
        case rest =>
          clear HC12
          try clear c1
          try clear c2
          try clear p2
          try clear c3
          try clear c4
          try clear c4b0
          try clear c4b1
          try clear p6
          try clear c9
          try clear c11
          try clear c12
          try clear c16
          try clear c16b0
          try clear c16b1
          try clear c20
          try clear c20b0
          try clear c20b1
          try clear c22
          try clear c22b0
          try clear c22b1
          try clear c24
          try clear c24b0
          try clear c24b1
          try clear c25
          try clear c25b0
          try clear c25b1
          try clear c26
          try clear c26b0
          try clear c26b1
          try clear c28
          try clear c28b0
          try clear c28b1
          try clear c30
          try clear c30b0
          try clear c30b1
          try clear c31
          try clear c31b0
          try clear c31b1
          try clear c33
          try clear c33b0
          try clear c33b1
          try clear p2
          obtain ⟨kq, x85_11, rfl, HA, HJ11, ⟨mc11, rfl⟩⟩ := hcut
          cases kq with
          | zero => exact absurd HA.out (by simp [louverlaw02_OpsLaws.j1])
          | succ kj11 =>
            have H := HA.out
            clear HA
            simp only [louverlaw02_OpsLaws.j1] at H
            by_cases c35 : x85_11 = true
            · subst c35
              have H1 : (some false) = some r := by rw [if_pos rfl] at H; exact H
              clear H
              have H := H1
              clear H1
              obtain rfl := Option.some.inj H
              go_wp2
              go_ret
              exact ⟨by first | rfl | (simp; done) | (simp [*]; done), by repeat (first | exact Drawn0.refl _ | apply Drawn0.step)⟩
            · replace c35 := Bool.eq_false_iff.mpr c35
              subst c35
              have H1 : ((louverlaw02_bin.f kj11 9 a0 a1).bind fun t176 => ((louverlaw02_bin.f kj11 9 1 (Go.bits .and .i64 a1 63)).bind fun t177 => ((louverlaw02_bin.f kj11 3 a0 t177).bind fun t178 => (if t176 = t178 then ((louverlaw02_bin.f kj11 8 a0 a1).bind fun t179 => ((louverlaw02_bin.f kj11 7 a0 a1).bind fun t180 => ((louverlaw02_bin.f kj11 6 a0 a1).bind fun t181 => ((louverlaw02_un.f 17 t181).bind fun t182 => ((louverlaw02_bin.f kj11 6 t180 t182).bind fun t183 => (if t179 = t183 then ((louverlaw02_bin.f kj11 1 t181 t180).bind fun t184 => ((louverlaw02_bin.f kj11 1 a0 a1).bind fun t185 => (if t184 = t185 then ((louverlaw02_bin.f kj11 10 a0 a1).bind fun t186 => ((louverlaw02_bin.f kj11 9 t186 a1).bind fun t187 => ((louverlaw02_bin.f kj11 10 t187 a1).bind fun t188 => (if t188 = t186 then ((louverlaw02_awake.f kj11).bind fun t189 => (some t189)) else (some false))))) else (some false)))) else (some false))))))) else (some false))))) = some r := by rw [if_neg (show ¬ (false = true) by decide)] at H; exact H
              clear H
              have H := H1
              clear H1
              replace H := Option.bind_eq_some_iff.mp H
              obtain ⟨t176, A360, H⟩ := H
              replace H : ((louverlaw02_bin.f kj11 9 1 (Go.bits .and .i64 a1 63)).bind fun t177 => ((louverlaw02_bin.f kj11 3 a0 t177).bind fun t178 => (if t176 = t178 then ((louverlaw02_bin.f kj11 8 a0 a1).bind fun t179 => ((louverlaw02_bin.f kj11 7 a0 a1).bind fun t180 => ((louverlaw02_bin.f kj11 6 a0 a1).bind fun t181 => ((louverlaw02_un.f 17 t181).bind fun t182 => ((louverlaw02_bin.f kj11 6 t180 t182).bind fun t183 => (if t179 = t183 then ((louverlaw02_bin.f kj11 1 t181 t180).bind fun t184 => ((louverlaw02_bin.f kj11 1 a0 a1).bind fun t185 => (if t184 = t185 then ((louverlaw02_bin.f kj11 10 a0 a1).bind fun t186 => ((louverlaw02_bin.f kj11 9 t186 a1).bind fun t187 => ((louverlaw02_bin.f kj11 10 t187 a1).bind fun t188 => (if t188 = t186 then ((louverlaw02_awake.f kj11).bind fun t189 => (some t189)) else (some false))))) else (some false)))) else (some false))))))) else (some false)))) = some r := H
              have A36 := Aside0.mk A360
              clear A360
              replace H := Option.bind_eq_some_iff.mp H
              obtain ⟨t177, A370, H⟩ := H
              replace H : ((louverlaw02_bin.f kj11 3 a0 t177).bind fun t178 => (if t176 = t178 then ((louverlaw02_bin.f kj11 8 a0 a1).bind fun t179 => ((louverlaw02_bin.f kj11 7 a0 a1).bind fun t180 => ((louverlaw02_bin.f kj11 6 a0 a1).bind fun t181 => ((louverlaw02_un.f 17 t181).bind fun t182 => ((louverlaw02_bin.f kj11 6 t180 t182).bind fun t183 => (if t179 = t183 then ((louverlaw02_bin.f kj11 1 t181 t180).bind fun t184 => ((louverlaw02_bin.f kj11 1 a0 a1).bind fun t185 => (if t184 = t185 then ((louverlaw02_bin.f kj11 10 a0 a1).bind fun t186 => ((louverlaw02_bin.f kj11 9 t186 a1).bind fun t187 => ((louverlaw02_bin.f kj11 10 t187 a1).bind fun t188 => (if t188 = t186 then ((louverlaw02_awake.f kj11).bind fun t189 => (some t189)) else (some false))))) else (some false)))) else (some false))))))) else (some false))) = some r := H
              have A37 := Aside0.mk A370
              clear A370
              replace H := Option.bind_eq_some_iff.mp H
              obtain ⟨t178, A380, H⟩ := H
              replace H : (if t176 = t178 then ((louverlaw02_bin.f kj11 8 a0 a1).bind fun t179 => ((louverlaw02_bin.f kj11 7 a0 a1).bind fun t180 => ((louverlaw02_bin.f kj11 6 a0 a1).bind fun t181 => ((louverlaw02_un.f 17 t181).bind fun t182 => ((louverlaw02_bin.f kj11 6 t180 t182).bind fun t183 => (if t179 = t183 then ((louverlaw02_bin.f kj11 1 t181 t180).bind fun t184 => ((louverlaw02_bin.f kj11 1 a0 a1).bind fun t185 => (if t184 = t185 then ((louverlaw02_bin.f kj11 10 a0 a1).bind fun t186 => ((louverlaw02_bin.f kj11 9 t186 a1).bind fun t187 => ((louverlaw02_bin.f kj11 10 t187 a1).bind fun t188 => (if t188 = t186 then ((louverlaw02_awake.f kj11).bind fun t189 => (some t189)) else (some false))))) else (some false)))) else (some false))))))) else (some false)) = some r := H
              have A38 := Aside0.mk A380
              clear A380
              by_cases c39 : t176 = t178
              · rw [if_pos c39] at H
                have c39b0 : (t176 == t178) = true := beq_iff_eq.mpr c39
                have c39b1 : (t176 != t178) = false := bne_eq_false_iff_eq.mpr c39
                clear c39
                replace H := Option.bind_eq_some_iff.mp H
                obtain ⟨t179, A400, H⟩ := H
                replace H : ((louverlaw02_bin.f kj11 7 a0 a1).bind fun t180 => ((louverlaw02_bin.f kj11 6 a0 a1).bind fun t181 => ((louverlaw02_un.f 17 t181).bind fun t182 => ((louverlaw02_bin.f kj11 6 t180 t182).bind fun t183 => (if t179 = t183 then ((louverlaw02_bin.f kj11 1 t181 t180).bind fun t184 => ((louverlaw02_bin.f kj11 1 a0 a1).bind fun t185 => (if t184 = t185 then ((louverlaw02_bin.f kj11 10 a0 a1).bind fun t186 => ((louverlaw02_bin.f kj11 9 t186 a1).bind fun t187 => ((louverlaw02_bin.f kj11 10 t187 a1).bind fun t188 => (if t188 = t186 then ((louverlaw02_awake.f kj11).bind fun t189 => (some t189)) else (some false))))) else (some false)))) else (some false)))))) = some r := H
                have A40 := Aside0.mk A400
                clear A400
                replace H := Option.bind_eq_some_iff.mp H
                obtain ⟨t180, A410, H⟩ := H
                replace H : ((louverlaw02_bin.f kj11 6 a0 a1).bind fun t181 => ((louverlaw02_un.f 17 t181).bind fun t182 => ((louverlaw02_bin.f kj11 6 t180 t182).bind fun t183 => (if t179 = t183 then ((louverlaw02_bin.f kj11 1 t181 t180).bind fun t184 => ((louverlaw02_bin.f kj11 1 a0 a1).bind fun t185 => (if t184 = t185 then ((louverlaw02_bin.f kj11 10 a0 a1).bind fun t186 => ((louverlaw02_bin.f kj11 9 t186 a1).bind fun t187 => ((louverlaw02_bin.f kj11 10 t187 a1).bind fun t188 => (if t188 = t186 then ((louverlaw02_awake.f kj11).bind fun t189 => (some t189)) else (some false))))) else (some false)))) else (some false))))) = some r := H
                have A41 := Aside0.mk A410
                clear A410
                replace H := Option.bind_eq_some_iff.mp H
                obtain ⟨t181, A420, H⟩ := H
                replace H : ((louverlaw02_un.f 17 t181).bind fun t182 => ((louverlaw02_bin.f kj11 6 t180 t182).bind fun t183 => (if t179 = t183 then ((louverlaw02_bin.f kj11 1 t181 t180).bind fun t184 => ((louverlaw02_bin.f kj11 1 a0 a1).bind fun t185 => (if t184 = t185 then ((louverlaw02_bin.f kj11 10 a0 a1).bind fun t186 => ((louverlaw02_bin.f kj11 9 t186 a1).bind fun t187 => ((louverlaw02_bin.f kj11 10 t187 a1).bind fun t188 => (if t188 = t186 then ((louverlaw02_awake.f kj11).bind fun t189 => (some t189)) else (some false))))) else (some false)))) else (some false)))) = some r := H
                have A42 := Aside0.mk A420
                clear A420
                replace H := Option.bind_eq_some_iff.mp H
                obtain ⟨t182, A430, H⟩ := H
                replace H : ((louverlaw02_bin.f kj11 6 t180 t182).bind fun t183 => (if t179 = t183 then ((louverlaw02_bin.f kj11 1 t181 t180).bind fun t184 => ((louverlaw02_bin.f kj11 1 a0 a1).bind fun t185 => (if t184 = t185 then ((louverlaw02_bin.f kj11 10 a0 a1).bind fun t186 => ((louverlaw02_bin.f kj11 9 t186 a1).bind fun t187 => ((louverlaw02_bin.f kj11 10 t187 a1).bind fun t188 => (if t188 = t186 then ((louverlaw02_awake.f kj11).bind fun t189 => (some t189)) else (some false))))) else (some false)))) else (some false))) = some r := H
                have A43 := Aside0.mk A430
                clear A430
                replace H := Option.bind_eq_some_iff.mp H
                obtain ⟨t183, A440, H⟩ := H
                replace H : (if t179 = t183 then ((louverlaw02_bin.f kj11 1 t181 t180).bind fun t184 => ((louverlaw02_bin.f kj11 1 a0 a1).bind fun t185 => (if t184 = t185 then ((louverlaw02_bin.f kj11 10 a0 a1).bind fun t186 => ((louverlaw02_bin.f kj11 9 t186 a1).bind fun t187 => ((louverlaw02_bin.f kj11 10 t187 a1).bind fun t188 => (if t188 = t186 then ((louverlaw02_awake.f kj11).bind fun t189 => (some t189)) else (some false))))) else (some false)))) else (some false)) = some r := H
                have A44 := Aside0.mk A440
                clear A440
                by_cases c45 : t179 = t183
                · rw [if_pos c45] at H
                  have c45b0 : (t179 == t183) = true := beq_iff_eq.mpr c45
                  have c45b1 : (t179 != t183) = false := bne_eq_false_iff_eq.mpr c45
                  clear c45
                  replace H := Option.bind_eq_some_iff.mp H
                  obtain ⟨t184, A460, H⟩ := H
                  replace H : ((louverlaw02_bin.f kj11 1 a0 a1).bind fun t185 => (if t184 = t185 then ((louverlaw02_bin.f kj11 10 a0 a1).bind fun t186 => ((louverlaw02_bin.f kj11 9 t186 a1).bind fun t187 => ((louverlaw02_bin.f kj11 10 t187 a1).bind fun t188 => (if t188 = t186 then ((louverlaw02_awake.f kj11).bind fun t189 => (some t189)) else (some false))))) else (some false))) = some r := H
                  have A46 := Aside0.mk A460
                  clear A460
                  replace H := Option.bind_eq_some_iff.mp H
                  obtain ⟨t185, A470, H⟩ := H
                  replace H : (if t184 = t185 then ((louverlaw02_bin.f kj11 10 a0 a1).bind fun t186 => ((louverlaw02_bin.f kj11 9 t186 a1).bind fun t187 => ((louverlaw02_bin.f kj11 10 t187 a1).bind fun t188 => (if t188 = t186 then ((louverlaw02_awake.f kj11).bind fun t189 => (some t189)) else (some false))))) else (some false)) = some r := H
                  have A47 := Aside0.mk A470
                  clear A470
                  by_cases c48 : t184 = t185
                  · rw [if_pos c48] at H
                    have c48b0 : (t184 == t185) = true := beq_iff_eq.mpr c48
                    have c48b1 : (t184 != t185) = false := bne_eq_false_iff_eq.mpr c48
                    clear c48
                    replace H := Option.bind_eq_some_iff.mp H
                    obtain ⟨t186, A490, H⟩ := H
                    replace H : ((louverlaw02_bin.f kj11 9 t186 a1).bind fun t187 => ((louverlaw02_bin.f kj11 10 t187 a1).bind fun t188 => (if t188 = t186 then ((louverlaw02_awake.f kj11).bind fun t189 => (some t189)) else (some false)))) = some r := H
                    have A49 := Aside0.mk A490
                    clear A490
                    replace H := Option.bind_eq_some_iff.mp H
                    obtain ⟨t187, A500, H⟩ := H
                    replace H : ((louverlaw02_bin.f kj11 10 t187 a1).bind fun t188 => (if t188 = t186 then ((louverlaw02_awake.f kj11).bind fun t189 => (some t189)) else (some false))) = some r := H
                    have A50 := Aside0.mk A500
                    clear A500
                    replace H := Option.bind_eq_some_iff.mp H
                    obtain ⟨t188, A510, H⟩ := H
                    replace H : (if t188 = t186 then ((louverlaw02_awake.f kj11).bind fun t189 => (some t189)) else (some false)) = some r := H
                    have A51 := Aside0.mk A510
                    clear A510
                    by_cases c52 : t188 = t186
                    · rw [if_pos c52] at H
                      have c52b0 : (t188 == t186) = true := beq_iff_eq.mpr c52
                      have c52b1 : (t188 != t186) = false := bne_eq_false_iff_eq.mpr c52
                      clear c52
                      replace H := Option.bind_eq_some_iff.mp H
                      obtain ⟨t189, A530, H⟩ := H
                      replace H : (some t189) = some r := H
                      have A53 := Aside0.mk A530
                      clear A530
                      obtain rfl := Option.some.inj H
                      go_wp2_with (first | ((with_reducible refine gate_callee (f := 11) rfl ?_); refine goesL_ (some 90) rfl rfl Try.func11 (by kernel_rfl) rfl #[.int .i64 9, .int .i64 a0, .int .i64 a1] rfl (by (try simp only [List.map_toArray, List.map_cons, List.map_nil]); first | done | rfl | (simp only [List.length_drop, List.length_take]; rfl)) ?_; (with_reducible refine (louverlaw02_bin.calls kj11 9 a0 a1 t176 _ A36.out).mono ?_); rintro e w' ⟨rfl, ⟨nd, rfl⟩⟩; refine ⟨_, rfl, ?_⟩) | ((with_reducible refine gate_callee (f := 11) rfl ?_); refine goesL_ (some 93) rfl rfl Try.func11 (by kernel_rfl) rfl #[.int .i64 9, .int .i64 1, .int .i64 (Go.bits .and .i64 a1 63)] rfl (by (try simp only [List.map_toArray, List.map_cons, List.map_nil]); first | done | rfl | (simp only [List.length_drop, List.length_take]; rfl)) ?_; (with_reducible refine (louverlaw02_bin.calls kj11 9 1 (Go.bits .and .i64 a1 63) t177 _ A37.out).mono ?_); rintro e w' ⟨rfl, ⟨nd, rfl⟩⟩; refine ⟨_, rfl, ?_⟩) | ((with_reducible refine gate_callee (f := 11) rfl ?_); refine goesL_ (some 94) rfl rfl Try.func11 (by kernel_rfl) rfl #[.int .i64 3, .int .i64 a0, .int .i64 t177] rfl (by (try simp only [List.map_toArray, List.map_cons, List.map_nil]); first | done | rfl | (simp only [List.length_drop, List.length_take]; rfl)) ?_; (with_reducible refine (louverlaw02_bin.calls kj11 3 a0 t177 t178 _ A38.out).mono ?_); rintro e w' ⟨rfl, ⟨nd, rfl⟩⟩; refine ⟨_, rfl, ?_⟩) | (go_at_call 11; (with_reducible refine (louverlaw02_bin.calls kj11 8 a0 a1 t179 _ A40.out).mono ?_); rintro e w' ⟨rfl, ⟨nd, rfl⟩⟩) | (go_at_call 11; (with_reducible refine (louverlaw02_bin.calls kj11 7 a0 a1 t180 _ A41.out).mono ?_); rintro e w' ⟨rfl, ⟨nd, rfl⟩⟩) | (go_at_call 11; (with_reducible refine (louverlaw02_bin.calls kj11 6 a0 a1 t181 _ A42.out).mono ?_); rintro e w' ⟨rfl, ⟨nd, rfl⟩⟩) | (go_at_call 12; (with_reducible refine (louverlaw02_un.calls 17 t181 t182 _ A43.out).mono ?_); rintro e w' ⟨rfl, ⟨nd, rfl⟩⟩) | (go_at_call 11; (with_reducible refine (louverlaw02_bin.calls kj11 6 t180 t182 t183 _ A44.out).mono ?_); rintro e w' ⟨rfl, ⟨nd, rfl⟩⟩) | (go_at_call 11; (with_reducible refine (louverlaw02_bin.calls kj11 1 t181 t180 t184 _ A46.out).mono ?_); rintro e w' ⟨rfl, ⟨nd, rfl⟩⟩) | (go_at_call 11; (with_reducible refine (louverlaw02_bin.calls kj11 1 a0 a1 t185 _ A47.out).mono ?_); rintro e w' ⟨rfl, ⟨nd, rfl⟩⟩) | (go_at_call 11; (with_reducible refine (louverlaw02_bin.calls kj11 10 a0 a1 t186 _ A49.out).mono ?_); rintro e w' ⟨rfl, ⟨nd, rfl⟩⟩) | (go_at_call 11; (with_reducible refine (louverlaw02_bin.calls kj11 9 t186 a1 t187 _ A50.out).mono ?_); rintro e w' ⟨rfl, ⟨nd, rfl⟩⟩) | (go_at_call 11; (with_reducible refine (louverlaw02_bin.calls kj11 10 t187 a1 t188 _ A51.out).mono ?_); rintro e w' ⟨rfl, ⟨nd, rfl⟩⟩) | (go_at_call 10; (with_reducible refine (louverlaw02_awake.calls kj11  t189 _ A53.out).mono ?_); rintro e w' ⟨rfl, ⟨nd, rfl⟩⟩))
                      go_ret
                      exact ⟨by first | rfl | (simp; done) | (simp [*]; done), by repeat (first | exact Drawn0.refl _ | apply Drawn0.step)⟩
                    · rw [if_neg c52] at H
                      have c52b0 : (t188 == t186) = false := beq_eq_false_iff_ne.mpr c52
                      have c52b1 : (t188 != t186) = true := bne_iff_ne.mpr c52
                      obtain rfl := Option.some.inj H
                      go_wp2_with (first | ((with_reducible refine gate_callee (f := 11) rfl ?_); refine goesL_ (some 90) rfl rfl Try.func11 (by kernel_rfl) rfl #[.int .i64 9, .int .i64 a0, .int .i64 a1] rfl (by (try simp only [List.map_toArray, List.map_cons, List.map_nil]); first | done | rfl | (simp only [List.length_drop, List.length_take]; rfl)) ?_; (with_reducible refine (louverlaw02_bin.calls kj11 9 a0 a1 t176 _ A36.out).mono ?_); rintro e w' ⟨rfl, ⟨nd, rfl⟩⟩; refine ⟨_, rfl, ?_⟩) | ((with_reducible refine gate_callee (f := 11) rfl ?_); refine goesL_ (some 93) rfl rfl Try.func11 (by kernel_rfl) rfl #[.int .i64 9, .int .i64 1, .int .i64 (Go.bits .and .i64 a1 63)] rfl (by (try simp only [List.map_toArray, List.map_cons, List.map_nil]); first | done | rfl | (simp only [List.length_drop, List.length_take]; rfl)) ?_; (with_reducible refine (louverlaw02_bin.calls kj11 9 1 (Go.bits .and .i64 a1 63) t177 _ A37.out).mono ?_); rintro e w' ⟨rfl, ⟨nd, rfl⟩⟩; refine ⟨_, rfl, ?_⟩) | ((with_reducible refine gate_callee (f := 11) rfl ?_); refine goesL_ (some 94) rfl rfl Try.func11 (by kernel_rfl) rfl #[.int .i64 3, .int .i64 a0, .int .i64 t177] rfl (by (try simp only [List.map_toArray, List.map_cons, List.map_nil]); first | done | rfl | (simp only [List.length_drop, List.length_take]; rfl)) ?_; (with_reducible refine (louverlaw02_bin.calls kj11 3 a0 t177 t178 _ A38.out).mono ?_); rintro e w' ⟨rfl, ⟨nd, rfl⟩⟩; refine ⟨_, rfl, ?_⟩) | (go_at_call 11; (with_reducible refine (louverlaw02_bin.calls kj11 8 a0 a1 t179 _ A40.out).mono ?_); rintro e w' ⟨rfl, ⟨nd, rfl⟩⟩) | (go_at_call 11; (with_reducible refine (louverlaw02_bin.calls kj11 7 a0 a1 t180 _ A41.out).mono ?_); rintro e w' ⟨rfl, ⟨nd, rfl⟩⟩) | (go_at_call 11; (with_reducible refine (louverlaw02_bin.calls kj11 6 a0 a1 t181 _ A42.out).mono ?_); rintro e w' ⟨rfl, ⟨nd, rfl⟩⟩) | (go_at_call 12; (with_reducible refine (louverlaw02_un.calls 17 t181 t182 _ A43.out).mono ?_); rintro e w' ⟨rfl, ⟨nd, rfl⟩⟩) | (go_at_call 11; (with_reducible refine (louverlaw02_bin.calls kj11 6 t180 t182 t183 _ A44.out).mono ?_); rintro e w' ⟨rfl, ⟨nd, rfl⟩⟩) | (go_at_call 11; (with_reducible refine (louverlaw02_bin.calls kj11 1 t181 t180 t184 _ A46.out).mono ?_); rintro e w' ⟨rfl, ⟨nd, rfl⟩⟩) | (go_at_call 11; (with_reducible refine (louverlaw02_bin.calls kj11 1 a0 a1 t185 _ A47.out).mono ?_); rintro e w' ⟨rfl, ⟨nd, rfl⟩⟩) | (go_at_call 11; (with_reducible refine (louverlaw02_bin.calls kj11 10 a0 a1 t186 _ A49.out).mono ?_); rintro e w' ⟨rfl, ⟨nd, rfl⟩⟩) | (go_at_call 11; (with_reducible refine (louverlaw02_bin.calls kj11 9 t186 a1 t187 _ A50.out).mono ?_); rintro e w' ⟨rfl, ⟨nd, rfl⟩⟩) | (go_at_call 11; (with_reducible refine (louverlaw02_bin.calls kj11 10 t187 a1 t188 _ A51.out).mono ?_); rintro e w' ⟨rfl, ⟨nd, rfl⟩⟩))
                      go_ret
                      exact ⟨by first | rfl | (simp; done) | (simp [*]; done), by repeat (first | exact Drawn0.refl _ | apply Drawn0.step)⟩
                  · rw [if_neg c48] at H
                    have c48b0 : (t184 == t185) = false := beq_eq_false_iff_ne.mpr c48
                    have c48b1 : (t184 != t185) = true := bne_iff_ne.mpr c48
                    obtain rfl := Option.some.inj H
                    go_wp2_with (first | ((with_reducible refine gate_callee (f := 11) rfl ?_); refine goesL_ (some 90) rfl rfl Try.func11 (by kernel_rfl) rfl #[.int .i64 9, .int .i64 a0, .int .i64 a1] rfl (by (try simp only [List.map_toArray, List.map_cons, List.map_nil]); first | done | rfl | (simp only [List.length_drop, List.length_take]; rfl)) ?_; (with_reducible refine (louverlaw02_bin.calls kj11 9 a0 a1 t176 _ A36.out).mono ?_); rintro e w' ⟨rfl, ⟨nd, rfl⟩⟩; refine ⟨_, rfl, ?_⟩) | ((with_reducible refine gate_callee (f := 11) rfl ?_); refine goesL_ (some 93) rfl rfl Try.func11 (by kernel_rfl) rfl #[.int .i64 9, .int .i64 1, .int .i64 (Go.bits .and .i64 a1 63)] rfl (by (try simp only [List.map_toArray, List.map_cons, List.map_nil]); first | done | rfl | (simp only [List.length_drop, List.length_take]; rfl)) ?_; (with_reducible refine (louverlaw02_bin.calls kj11 9 1 (Go.bits .and .i64 a1 63) t177 _ A37.out).mono ?_); rintro e w' ⟨rfl, ⟨nd, rfl⟩⟩; refine ⟨_, rfl, ?_⟩) | ((with_reducible refine gate_callee (f := 11) rfl ?_); refine goesL_ (some 94) rfl rfl Try.func11 (by kernel_rfl) rfl #[.int .i64 3, .int .i64 a0, .int .i64 t177] rfl (by (try simp only [List.map_toArray, List.map_cons, List.map_nil]); first | done | rfl | (simp only [List.length_drop, List.length_take]; rfl)) ?_; (with_reducible refine (louverlaw02_bin.calls kj11 3 a0 t177 t178 _ A38.out).mono ?_); rintro e w' ⟨rfl, ⟨nd, rfl⟩⟩; refine ⟨_, rfl, ?_⟩) | (go_at_call 11; (with_reducible refine (louverlaw02_bin.calls kj11 8 a0 a1 t179 _ A40.out).mono ?_); rintro e w' ⟨rfl, ⟨nd, rfl⟩⟩) | (go_at_call 11; (with_reducible refine (louverlaw02_bin.calls kj11 7 a0 a1 t180 _ A41.out).mono ?_); rintro e w' ⟨rfl, ⟨nd, rfl⟩⟩) | (go_at_call 11; (with_reducible refine (louverlaw02_bin.calls kj11 6 a0 a1 t181 _ A42.out).mono ?_); rintro e w' ⟨rfl, ⟨nd, rfl⟩⟩) | (go_at_call 12; (with_reducible refine (louverlaw02_un.calls 17 t181 t182 _ A43.out).mono ?_); rintro e w' ⟨rfl, ⟨nd, rfl⟩⟩) | (go_at_call 11; (with_reducible refine (louverlaw02_bin.calls kj11 6 t180 t182 t183 _ A44.out).mono ?_); rintro e w' ⟨rfl, ⟨nd, rfl⟩⟩) | (go_at_call 11; (with_reducible refine (louverlaw02_bin.calls kj11 1 t181 t180 t184 _ A46.out).mono ?_); rintro e w' ⟨rfl, ⟨nd, rfl⟩⟩) | (go_at_call 11; (with_reducible refine (louverlaw02_bin.calls kj11 1 a0 a1 t185 _ A47.out).mono ?_); rintro e w' ⟨rfl, ⟨nd, rfl⟩⟩))
                    go_ret
                    exact ⟨by first | rfl | (simp; done) | (simp [*]; done), by repeat (first | exact Drawn0.refl _ | apply Drawn0.step)⟩
                · rw [if_neg c45] at H
                  have c45b0 : (t179 == t183) = false := beq_eq_false_iff_ne.mpr c45
                  have c45b1 : (t179 != t183) = true := bne_iff_ne.mpr c45
                  obtain rfl := Option.some.inj H
                  go_wp2_with (first | ((with_reducible refine gate_callee (f := 11) rfl ?_); refine goesL_ (some 90) rfl rfl Try.func11 (by kernel_rfl) rfl #[.int .i64 9, .int .i64 a0, .int .i64 a1] rfl (by (try simp only [List.map_toArray, List.map_cons, List.map_nil]); first | done | rfl | (simp only [List.length_drop, List.length_take]; rfl)) ?_; (with_reducible refine (louverlaw02_bin.calls kj11 9 a0 a1 t176 _ A36.out).mono ?_); rintro e w' ⟨rfl, ⟨nd, rfl⟩⟩; refine ⟨_, rfl, ?_⟩) | ((with_reducible refine gate_callee (f := 11) rfl ?_); refine goesL_ (some 93) rfl rfl Try.func11 (by kernel_rfl) rfl #[.int .i64 9, .int .i64 1, .int .i64 (Go.bits .and .i64 a1 63)] rfl (by (try simp only [List.map_toArray, List.map_cons, List.map_nil]); first | done | rfl | (simp only [List.length_drop, List.length_take]; rfl)) ?_; (with_reducible refine (louverlaw02_bin.calls kj11 9 1 (Go.bits .and .i64 a1 63) t177 _ A37.out).mono ?_); rintro e w' ⟨rfl, ⟨nd, rfl⟩⟩; refine ⟨_, rfl, ?_⟩) | ((with_reducible refine gate_callee (f := 11) rfl ?_); refine goesL_ (some 94) rfl rfl Try.func11 (by kernel_rfl) rfl #[.int .i64 3, .int .i64 a0, .int .i64 t177] rfl (by (try simp only [List.map_toArray, List.map_cons, List.map_nil]); first | done | rfl | (simp only [List.length_drop, List.length_take]; rfl)) ?_; (with_reducible refine (louverlaw02_bin.calls kj11 3 a0 t177 t178 _ A38.out).mono ?_); rintro e w' ⟨rfl, ⟨nd, rfl⟩⟩; refine ⟨_, rfl, ?_⟩) | (go_at_call 11; (with_reducible refine (louverlaw02_bin.calls kj11 8 a0 a1 t179 _ A40.out).mono ?_); rintro e w' ⟨rfl, ⟨nd, rfl⟩⟩) | (go_at_call 11; (with_reducible refine (louverlaw02_bin.calls kj11 7 a0 a1 t180 _ A41.out).mono ?_); rintro e w' ⟨rfl, ⟨nd, rfl⟩⟩) | (go_at_call 11; (with_reducible refine (louverlaw02_bin.calls kj11 6 a0 a1 t181 _ A42.out).mono ?_); rintro e w' ⟨rfl, ⟨nd, rfl⟩⟩) | (go_at_call 12; (with_reducible refine (louverlaw02_un.calls 17 t181 t182 _ A43.out).mono ?_); rintro e w' ⟨rfl, ⟨nd, rfl⟩⟩) | (go_at_call 11; (with_reducible refine (louverlaw02_bin.calls kj11 6 t180 t182 t183 _ A44.out).mono ?_); rintro e w' ⟨rfl, ⟨nd, rfl⟩⟩))
                  go_ret
                  exact ⟨by first | rfl | (simp; done) | (simp [*]; done), by repeat (first | exact Drawn0.refl _ | apply Drawn0.step)⟩
              · rw [if_neg c39] at H
                have c39b0 : (t176 == t178) = false := beq_eq_false_iff_ne.mpr c39
                have c39b1 : (t176 != t178) = true := bne_iff_ne.mpr c39
                obtain rfl := Option.some.inj H
                go_wp2_with (first | ((with_reducible refine gate_callee (f := 11) rfl ?_); refine goesL_ (some 90) rfl rfl Try.func11 (by kernel_rfl) rfl #[.int .i64 9, .int .i64 a0, .int .i64 a1] rfl (by (try simp only [List.map_toArray, List.map_cons, List.map_nil]); first | done | rfl | (simp only [List.length_drop, List.length_take]; rfl)) ?_; (with_reducible refine (louverlaw02_bin.calls kj11 9 a0 a1 t176 _ A36.out).mono ?_); rintro e w' ⟨rfl, ⟨nd, rfl⟩⟩; refine ⟨_, rfl, ?_⟩) | ((with_reducible refine gate_callee (f := 11) rfl ?_); refine goesL_ (some 93) rfl rfl Try.func11 (by kernel_rfl) rfl #[.int .i64 9, .int .i64 1, .int .i64 (Go.bits .and .i64 a1 63)] rfl (by (try simp only [List.map_toArray, List.map_cons, List.map_nil]); first | done | rfl | (simp only [List.length_drop, List.length_take]; rfl)) ?_; (with_reducible refine (louverlaw02_bin.calls kj11 9 1 (Go.bits .and .i64 a1 63) t177 _ A37.out).mono ?_); rintro e w' ⟨rfl, ⟨nd, rfl⟩⟩; refine ⟨_, rfl, ?_⟩) | ((with_reducible refine gate_callee (f := 11) rfl ?_); refine goesL_ (some 94) rfl rfl Try.func11 (by kernel_rfl) rfl #[.int .i64 3, .int .i64 a0, .int .i64 t177] rfl (by (try simp only [List.map_toArray, List.map_cons, List.map_nil]); first | done | rfl | (simp only [List.length_drop, List.length_take]; rfl)) ?_; (with_reducible refine (louverlaw02_bin.calls kj11 3 a0 t177 t178 _ A38.out).mono ?_); rintro e w' ⟨rfl, ⟨nd, rfl⟩⟩; refine ⟨_, rfl, ?_⟩))
                go_ret
                exact ⟨by first | rfl | (simp; done) | (simp [*]; done), by repeat (first | exact Drawn0.refl _ | apply Drawn0.step)⟩

/-- THE ONE PURE STATEMENT of louverlaw02_OpsLaws: yours. -/
def louverlaw02_OpsLaws.Pure : Prop := ∀ (a0 : Int) (a1 : Int), (Lit.int .i64 a0).wf = true → (Lit.int .i64 a1).wf = true → ∃ k, louverlaw02_OpsLaws.f k a0 a1 = some true
theorem louverlaw02_OpsLaws.walk (P : louverlaw02_OpsLaws.Pure) (a0 : Int) (a1 : Int) (w : World) (w0 : (Lit.int .i64 a0).wf = true) (w1 : (Lit.int .i64 a1).wf = true) :
    Calls Try.prog 4 #[.int .i64 a0, .int .i64 a1] w fun e w' => e = .returned (.bool true) ∧ Below w.heap.size w w' := by
  obtain ⟨k, h⟩ := P a0 a1 w0 w1
  refine (louverlaw02_OpsLaws.calls k a0 a1 true w h).mono ?_
  rintro e w' ⟨rfl, hd⟩
  exact ⟨rfl, hd.below⟩

-- NOT PRINTED: function 13 (louverkit_LentInt64s)

end Go.Proofs.Ytblhmmhhjkjcgaa.PJ
