/- code.effects, code.found, by hand. -/
import Derived.Test.YtgpdaihfjnihhaaDoorPJx0
import Derived.Test.YtgpdaihfjnihhaaDoorHandCode3
import Derived.Deep.WholeRow
namespace Go.Proofs.YtgpdaihfjnihhaaDoor.PJ
open Go.RowKit Go.Proofs.YtgpdaihfjnihhaaDoorW.PrintWords Go.Proofs.YtgpdaihfjnihhaaDoorW.PrintLast Go.Proofs.YtgpdaihfjnihhaaDoorW.PrintMore
set_option linter.unusedSimpArgs false
set_option linter.unusedVariables false
def effL : List (Int × Int) := [(0, 1), (0, 1), (1, 0), (0, 1), (1, 0), (1, 1), (2, 0), (1, 2), (2, 2), (1, 0), (0, 0), (0, 0), (1, 0), (0, 0), (0, 0), (1, 0)]
def effCells : Array Value := #[.int .i64 0, .int .i64 1, .int .i64 0, .int .i64 1, .int .i64 1, .int .i64 0, .int .i64 0, .int .i64 1, .int .i64 1, .int .i64 0, .int .i64 1, .int .i64 1, .int .i64 2, .int .i64 0, .int .i64 1, .int .i64 2, .int .i64 2, .int .i64 2, .int .i64 1, .int .i64 0, .int .i64 0, .int .i64 0, .int .i64 0, .int .i64 0, .int .i64 1, .int .i64 0, .int .i64 0, .int .i64 0, .int .i64 0, .int .i64 0, .int .i64 1, .int .i64 0]
/-- A store, by what it does. -/
theorem store_at {P : Program} {ops : Array Oper} {rest : List Oper} {o : Oper} {a : Act} {Q : Exit → Act → World → Prop} {W w1 : World} (hgd : o.guard = none) {t : TypeId} {p v : Operand} (ho : o.op = .store t p v) (hN : o.dst = none) (x y : Value) (hx : a.eval p = x) (hy : a.eval v = y)
    (hrun : (Instr.storeAt t x y).run P W = .ok () w1) (h : wpList P ops Q rest a w1) : wpList P ops Q (o :: rest) a W := by
  refine wpList_plain hgd fun K hK => ?_
  unfold Oper.wp execOp
  simp only [ho, Sem.run_bind, Sem.run_pure, hx, hy, hrun, Result.andThen_ok]
  show K (a.put o.dst undef) w1
  rw [hN]
  exact hK _ _ h
set_option maxHeartbeats 8000000 in
set_option maxRecDepth 100000 in
theorem code_effects.calls (w : World) : Calls Tryd.prog 75 #[] w fun e w' => e = .returned (.agg effCells) ∧ Below w.heap.size w w' := by
  go_enter Tryd.func75, Tryd.ntmps75
  go_wp2_with (first | ((with_reducible refine gate_store (t := 116) (p := 0) rfl ?_); refine store_at (w1 := w.alloc (.cells effCells 116)) rfl rfl rfl (.pointer (some ⟨w.heap.size, 0, none⟩)) (.agg effCells) rfl rfl ?hrun ?_; (case hrun => exact run_storeAt_new w 116 _ effCells (by kernel_rfl) rfl (by kernel_rfl))))
  refine bodyPost_ret (results_cell_row rfl _ _ w.heap.size 116 effCells (0, 0) _ rfl (heap_alloc_new w _) Tryd.underlying116 rfl (by kernel_rfl)) rfl ?_
  exact ⟨rfl, below_alloc (Below.refl _ _) _⟩
set_option maxHeartbeats 8000000 in
set_option maxRecDepth 100000 in
theorem eff_index (n : Nat) (hn : n < 16) (W : World) : (Instr.index 116 (.agg effCells) (.int .i64 (n : Int))).run Tryd.prog W = .ok (.agg #[.int .i64 (effL.getD n (0, 0)).1, .int .i64 (effL.getD n (0, 0)).2]) W := by
  by_cases h0 : n = 0
  · subst h0; exact (by kernel_rfl : (Instr.index 116 (.agg effCells) (.int .i64 ((0 : Nat) : Int))).run Tryd.prog W = .ok (.agg #[.int .i64 (effL.getD 0 (0, 0)).1, .int .i64 (effL.getD 0 (0, 0)).2]) W)
  by_cases h1 : n = 1
  · subst h1; exact (by kernel_rfl : (Instr.index 116 (.agg effCells) (.int .i64 ((1 : Nat) : Int))).run Tryd.prog W = .ok (.agg #[.int .i64 (effL.getD 1 (0, 0)).1, .int .i64 (effL.getD 1 (0, 0)).2]) W)
  by_cases h2 : n = 2
  · subst h2; exact (by kernel_rfl : (Instr.index 116 (.agg effCells) (.int .i64 ((2 : Nat) : Int))).run Tryd.prog W = .ok (.agg #[.int .i64 (effL.getD 2 (0, 0)).1, .int .i64 (effL.getD 2 (0, 0)).2]) W)
  by_cases h3 : n = 3
  · subst h3; exact (by kernel_rfl : (Instr.index 116 (.agg effCells) (.int .i64 ((3 : Nat) : Int))).run Tryd.prog W = .ok (.agg #[.int .i64 (effL.getD 3 (0, 0)).1, .int .i64 (effL.getD 3 (0, 0)).2]) W)
  by_cases h4 : n = 4
  · subst h4; exact (by kernel_rfl : (Instr.index 116 (.agg effCells) (.int .i64 ((4 : Nat) : Int))).run Tryd.prog W = .ok (.agg #[.int .i64 (effL.getD 4 (0, 0)).1, .int .i64 (effL.getD 4 (0, 0)).2]) W)
  by_cases h5 : n = 5
  · subst h5; exact (by kernel_rfl : (Instr.index 116 (.agg effCells) (.int .i64 ((5 : Nat) : Int))).run Tryd.prog W = .ok (.agg #[.int .i64 (effL.getD 5 (0, 0)).1, .int .i64 (effL.getD 5 (0, 0)).2]) W)
  by_cases h6 : n = 6
  · subst h6; exact (by kernel_rfl : (Instr.index 116 (.agg effCells) (.int .i64 ((6 : Nat) : Int))).run Tryd.prog W = .ok (.agg #[.int .i64 (effL.getD 6 (0, 0)).1, .int .i64 (effL.getD 6 (0, 0)).2]) W)
  by_cases h7 : n = 7
  · subst h7; exact (by kernel_rfl : (Instr.index 116 (.agg effCells) (.int .i64 ((7 : Nat) : Int))).run Tryd.prog W = .ok (.agg #[.int .i64 (effL.getD 7 (0, 0)).1, .int .i64 (effL.getD 7 (0, 0)).2]) W)
  by_cases h8 : n = 8
  · subst h8; exact (by kernel_rfl : (Instr.index 116 (.agg effCells) (.int .i64 ((8 : Nat) : Int))).run Tryd.prog W = .ok (.agg #[.int .i64 (effL.getD 8 (0, 0)).1, .int .i64 (effL.getD 8 (0, 0)).2]) W)
  by_cases h9 : n = 9
  · subst h9; exact (by kernel_rfl : (Instr.index 116 (.agg effCells) (.int .i64 ((9 : Nat) : Int))).run Tryd.prog W = .ok (.agg #[.int .i64 (effL.getD 9 (0, 0)).1, .int .i64 (effL.getD 9 (0, 0)).2]) W)
  by_cases h10 : n = 10
  · subst h10; exact (by kernel_rfl : (Instr.index 116 (.agg effCells) (.int .i64 ((10 : Nat) : Int))).run Tryd.prog W = .ok (.agg #[.int .i64 (effL.getD 10 (0, 0)).1, .int .i64 (effL.getD 10 (0, 0)).2]) W)
  by_cases h11 : n = 11
  · subst h11; exact (by kernel_rfl : (Instr.index 116 (.agg effCells) (.int .i64 ((11 : Nat) : Int))).run Tryd.prog W = .ok (.agg #[.int .i64 (effL.getD 11 (0, 0)).1, .int .i64 (effL.getD 11 (0, 0)).2]) W)
  by_cases h12 : n = 12
  · subst h12; exact (by kernel_rfl : (Instr.index 116 (.agg effCells) (.int .i64 ((12 : Nat) : Int))).run Tryd.prog W = .ok (.agg #[.int .i64 (effL.getD 12 (0, 0)).1, .int .i64 (effL.getD 12 (0, 0)).2]) W)
  by_cases h13 : n = 13
  · subst h13; exact (by kernel_rfl : (Instr.index 116 (.agg effCells) (.int .i64 ((13 : Nat) : Int))).run Tryd.prog W = .ok (.agg #[.int .i64 (effL.getD 13 (0, 0)).1, .int .i64 (effL.getD 13 (0, 0)).2]) W)
  by_cases h14 : n = 14
  · subst h14; exact (by kernel_rfl : (Instr.index 116 (.agg effCells) (.int .i64 ((14 : Nat) : Int))).run Tryd.prog W = .ok (.agg #[.int .i64 (effL.getD 14 (0, 0)).1, .int .i64 (effL.getD 14 (0, 0)).2]) W)
  by_cases h15 : n = 15
  · subst h15; exact (by kernel_rfl : (Instr.index 116 (.agg effCells) (.int .i64 ((15 : Nat) : Int))).run Tryd.prog W = .ok (.agg #[.int .i64 (effL.getD 15 (0, 0)).1, .int .i64 (effL.getD 15 (0, 0)).2]) W)
  omega
def foundOf (op a : Int) (ng na nc nf : Nat) (F : S41) : Bool :=
  if op = 33 ∨ op = 34 then (decide (a < (F.f1.length : Int)) || decide (wrap64 (a - (F.f1.length : Int)) < F.f3)) else if op = 35 ∨ op = 36 then decide (a < (ng : Int)) else if op = 37 ∨ op = 38 then decide (a < (na : Int)) else if op = 43 ∨ op = 44 then decide (a < (F.f5.length : Int)) else if op = 45 then decide (a < (nf : Int)) else if op = 47 then decide (a < (nc : Int)) else true
set_option maxHeartbeats 16000000 in
set_option maxRecDepth 100000 in
theorem code_found.calls (A0 : Option Addr) (c0 n0 : Nat) (A1 : Option Addr) (c1 n1 : Nat) (A2 : Option Addr) (c2 n2 : Nat) (A3 : Option Addr) (c3 : Nat) (l3 : List S41) (fn : Nat) (op a : Int) (w : World) (hr3 : Kd.C k41 w A3 l3.length l3) (hf : fn < l3.length) :
    Calls Tryd.prog 74 #[.agg #[.slice A0 n0 c0, .slice A1 n1 c1, .slice A2 n2 c2, .slice A3 l3.length c3], .int .i64 (fn : Int), .agg #[.int .i64 op, .int .i64 a]] w fun e w' => e = .returned (.bool (foundOf op a n0 n1 n2 l3.length (rd_T41 l3 (fn : Int)))) ∧ Below w.heap.size w w' := by
  obtain ⟨ad, A5, c5, A6, c6, A7, c7, rfl, q0, q1, q2, q3, q4, q5, _⟩ := at_T41 hr3 (fn : Int) (by omega) (by omega)
  rw [Int.toNat_natCast] at q0 q1 q2 q3 q4 q5
  have p0 : ∀ o1 o2, ((w.alloc o1).alloc o2).cell? _ = _ := fun o1 o2 => pw_cell_below (below_alloc (below_alloc (Below.refl _ _) o1) o2) q0
  have p1 : ∀ o1 o2, ((w.alloc o1).alloc o2).cell? _ = _ := fun o1 o2 => pw_cell_below (below_alloc (below_alloc (Below.refl _ _) o1) o2) q1
  have p2 : ∀ o1 o2, ((w.alloc o1).alloc o2).cell? _ = _ := fun o1 o2 => pw_cell_below (below_alloc (below_alloc (Below.refl _ _) o1) o2) q2
  have p3 : ∀ o1 o2, ((w.alloc o1).alloc o2).cell? _ = _ := fun o1 o2 => pw_cell_below (below_alloc (below_alloc (Below.refl _ _) o1) o2) q3
  have p4 : ∀ o1 o2, ((w.alloc o1).alloc o2).cell? _ = _ := fun o1 o2 => pw_cell_below (below_alloc (below_alloc (Below.refl _ _) o1) o2) q4
  have p5 : ∀ o1 o2, ((w.alloc o1).alloc o2).cell? _ = _ := fun o1 o2 => pw_cell_below (below_alloc (below_alloc (Below.refl _ _) o1) o2) q5
  clear q0 q1 q2 q3 q4 q5 hr3
  have hf1 : (fn : Int) < (l3.length : Int) := by omega
  obtain ⟨F, hF⟩ : ∃ F, rd_T41 l3 (fn : Int) = F := ⟨_, rfl⟩
  rw [hF] at p0 p1 p2 p3 p4 p5
  rw [hF]
  obtain ⟨R, hR⟩ : ∃ R, foundOf op a n0 n1 n2 l3.length F = R := ⟨_, rfl⟩
  rw [hR]
  have HR := Aside0.mk hR
  clear hR hF
  by_cases h33 : op = 33
  · subst h33
    by_cases hp : a < (F.f1.length : Int)
    · have hpb : decide (a < (F.f1.length : Int)) = true := decide_eq_true hp
      go_enter Tryd.func74, Tryd.ntmps74
      go_wp2_with (first | (go_at_call 113; go_in))
      go_ret
      exact ⟨by rw [← HR.out]; simp [foundOf, hp], by repeat (first | exact Below.refl _ _ | apply below_alloc | apply pw_below_drewN | apply below_drew1)⟩
    · have hpb : decide (a < (F.f1.length : Int)) = false := decide_eq_false hp
      have HNP := Aside0.mk hp
      go_enter Tryd.func74, Tryd.ntmps74
      go_wp2_with (first | (go_at_call 113; go_in))
      go_ret
      exact ⟨by rw [← HR.out]; simp [foundOf]; intro h; have := HNP.out; omega, by repeat (first | exact Below.refl _ _ | apply below_alloc | apply pw_below_drewN | apply below_drew1)⟩
  by_cases h34 : op = 34
  · subst h34
    by_cases hp : a < (F.f1.length : Int)
    · have hpb : decide (a < (F.f1.length : Int)) = true := decide_eq_true hp
      go_enter Tryd.func74, Tryd.ntmps74
      go_wp2_with (first | (go_at_call 113; go_in))
      go_ret
      exact ⟨by rw [← HR.out]; simp [foundOf, hp], by repeat (first | exact Below.refl _ _ | apply below_alloc | apply pw_below_drewN | apply below_drew1)⟩
    · have hpb : decide (a < (F.f1.length : Int)) = false := decide_eq_false hp
      have HNP := Aside0.mk hp
      go_enter Tryd.func74, Tryd.ntmps74
      go_wp2_with (first | (go_at_call 113; go_in))
      go_ret
      exact ⟨by rw [← HR.out]; simp [foundOf]; intro h; have := HNP.out; omega, by repeat (first | exact Below.refl _ _ | apply below_alloc | apply pw_below_drewN | apply below_drew1)⟩
  by_cases h35 : op = 35
  · subst h35
    go_enter Tryd.func74, Tryd.ntmps74
    go_wp2_with (first | (go_at_call 113; go_in))
    go_ret
    exact ⟨by rw [← HR.out]; simp [foundOf], by repeat (first | exact Below.refl _ _ | apply below_alloc | apply pw_below_drewN | apply below_drew1)⟩
  by_cases h36 : op = 36
  · subst h36
    go_enter Tryd.func74, Tryd.ntmps74
    go_wp2_with (first | (go_at_call 113; go_in))
    go_ret
    exact ⟨by rw [← HR.out]; simp [foundOf], by repeat (first | exact Below.refl _ _ | apply below_alloc | apply pw_below_drewN | apply below_drew1)⟩
  by_cases h37 : op = 37
  · subst h37
    go_enter Tryd.func74, Tryd.ntmps74
    go_wp2_with (first | (go_at_call 113; go_in))
    go_ret
    exact ⟨by rw [← HR.out]; simp [foundOf], by repeat (first | exact Below.refl _ _ | apply below_alloc | apply pw_below_drewN | apply below_drew1)⟩
  by_cases h38 : op = 38
  · subst h38
    go_enter Tryd.func74, Tryd.ntmps74
    go_wp2_with (first | (go_at_call 113; go_in))
    go_ret
    exact ⟨by rw [← HR.out]; simp [foundOf], by repeat (first | exact Below.refl _ _ | apply below_alloc | apply pw_below_drewN | apply below_drew1)⟩
  by_cases h43 : op = 43
  · subst h43
    go_enter Tryd.func74, Tryd.ntmps74
    go_wp2_with (first | (go_at_call 113; go_in))
    go_ret
    exact ⟨by rw [← HR.out]; simp [foundOf], by repeat (first | exact Below.refl _ _ | apply below_alloc | apply pw_below_drewN | apply below_drew1)⟩
  by_cases h44 : op = 44
  · subst h44
    go_enter Tryd.func74, Tryd.ntmps74
    go_wp2_with (first | (go_at_call 113; go_in))
    go_ret
    exact ⟨by rw [← HR.out]; simp [foundOf], by repeat (first | exact Below.refl _ _ | apply below_alloc | apply pw_below_drewN | apply below_drew1)⟩
  by_cases h45 : op = 45
  · subst h45
    go_enter Tryd.func74, Tryd.ntmps74
    go_wp2_with (first | (go_at_call 113; go_in))
    go_ret
    exact ⟨by rw [← HR.out]; simp [foundOf], by repeat (first | exact Below.refl _ _ | apply below_alloc | apply pw_below_drewN | apply below_drew1)⟩
  by_cases h47 : op = 47
  · subst h47
    go_enter Tryd.func74, Tryd.ntmps74
    go_wp2_with (first | (go_at_call 113; go_in))
    go_ret
    exact ⟨by rw [← HR.out]; simp [foundOf], by repeat (first | exact Below.refl _ _ | apply below_alloc | apply pw_below_drewN | apply below_drew1)⟩
  have b33 : (op == 33) = false := beq_eq_false_iff_ne.mpr h33
  have b34 : (op == 34) = false := beq_eq_false_iff_ne.mpr h34
  have b35 : (op == 35) = false := beq_eq_false_iff_ne.mpr h35
  have b36 : (op == 36) = false := beq_eq_false_iff_ne.mpr h36
  have b37 : (op == 37) = false := beq_eq_false_iff_ne.mpr h37
  have b38 : (op == 38) = false := beq_eq_false_iff_ne.mpr h38
  have b43 : (op == 43) = false := beq_eq_false_iff_ne.mpr h43
  have b44 : (op == 44) = false := beq_eq_false_iff_ne.mpr h44
  have b45 : (op == 45) = false := beq_eq_false_iff_ne.mpr h45
  have b47 : (op == 47) = false := beq_eq_false_iff_ne.mpr h47
  go_enter Tryd.func74, Tryd.ntmps74
  go_wp2_with (first | (go_at_call 113; go_in))
  go_ret
  exact ⟨by rw [← HR.out]; simp [foundOf, h33, h34, h35, h36, h37, h38, h43, h44, h45, h47], by repeat (first | exact Below.refl _ _ | apply below_alloc | apply pw_below_drewN | apply below_drew1)⟩
end Go.Proofs.YtgpdaihfjnihhaaDoor.PJ
