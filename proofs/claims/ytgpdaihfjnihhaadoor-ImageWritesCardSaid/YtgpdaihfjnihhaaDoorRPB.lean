/- Texts of this claim, joined: RPJx9, RPJx10, RPJx11, RPJx12, RPJx13. -/
import Derived.Test.YtgpdaihfjnihhaaDoorRPJx0
import Derived.Test.YtgpdaihfjnihhaaDoorRPA
import Derived.Test.YtgpdaihfjnihhaaDoorRHandClone
import Derived.Test.YtgpdaihfjnihhaaDoorRPJx3
namespace Go.Proofs.YtgpdaihfjnihhaaDoor.PJ
open Go.RowKit Go.Proofs.YtgpdaihfjnihhaaDoorW.PrintWords Go.Proofs.YtgpdaihfjnihhaaDoorW.PrintLast Go.Proofs.YtgpdaihfjnihhaaDoorW.PrintMore
attribute [local go_sem] max2_int min2_int max_two min_two max_three min_three max_four min_four   -- for this text's walks alone
set_option linter.unusedVariables false
set_option linter.unusedSimpArgs false
def louverref12_sealed.l0 : Nat → List Int → Int → Int → Option (List Int)
 | 0, _, _, _ => none
 | k + 1, x0, x3, x4 => if x4 ≥ 0 then (if 0 ≤ (IntKind.u64.wrap (wrap64 (8 * x4))) then (if x0.length < 140737488355328 then (louverref12_sealed.l0 k (x0 ++ [(shr .u64 x3 (IntKind.u64.wrap (wrap64 (8 * x4)))) % 256]) x3 (wrap64 (x4 - 1))) else (none)) else (none)) else (some x0)
def louverref12_sealed.f (k : Nat) (l0 : List Int) : Option (List Int) := (louverref12_Sum.f k l0).bind fun t287 => (louverref12_sealed.l0 k l0 t287 7)
set_option maxHeartbeats 8000000 in
set_option maxRecDepth 100000 in
theorem louverref12_sealed.calls (k : Nat) (P0_ : Nat → Prop) (u9000_ : Value) (l0 : List Int) (r : List Int) (w0 w : World) (hB : Below w0.heap.size w0 w) (ho0 : Kd.R (Kd.int .u8) 5 w w0.heap.size P0_ u9000_ l0) (h : louverref12_sealed.f k l0 = some r) :
  Calls Tryd.prog 118 #[u9000_] w fun e w' => ∃ v0_ : Value, e = .returned (v0_) ∧ Kd.R (Kd.int .u8) 5 w' w0.heap.size (fun k_ => (P0_ k_ ∨ w.heap.size ≤ k_)) v0_ r ∧ Below w0.heap.size w0 w' ∧ Kept w w' (fun k_ => P0_ k_) := by
 have HO0 := Aside0.mk (show Kd.R (Kd.int .u8) 5 w w0.heap.size (fun k_ => (P0_ k_ ∨ w.heap.size ≤ k_)) u9000_ l0 from Kd.R_mono ho0 (fun k_ hk => (.inl hk)))
 have HK := Aside0.mk (Kept.refl w (fun k_ => P0_ k_))
 have HW0 := Aside0.mk hB.size
 have HB := Aside0.mk hB
 clear hB
 have H : ((louverref12_Sum.f k l0).bind fun t287 => (louverref12_sealed.l0 k l0 t287 7)) = some r := h
 clear h
 replace H := Option.bind_eq_some_iff.mp H
 obtain ⟨t287, A20, H⟩ := H
 replace H : (louverref12_sealed.l0 k l0 t287 7) = some r := H
 have A2 := Aside0.mk A20
 clear A20
 have H' := Aside0.mk H
 clear H
 obtain ⟨Ao3, co3, eo3⟩ := Kd.R_slice HO0.out
 subst eo3
 go_enter Tryd.func118, Tryd.ntmps118
 go_wp2_with (first | ((with_reducible refine gate_callee (f := 47) rfl ?_); refine goesL_ (some 6) rfl rfl Tryd.func47 (by kernel_rfl) rfl #[.slice Ao3 l0.length co3] rfl (by (try simp only [List.map_toArray, List.map_cons, List.map_nil]); first | done | rfl | (simp only [List.length_drop, List.length_take]; rfl)) ?_; (with_reducible refine (louverref12_Sum.calls k _ _ l0 t287 _ ?side1 ?side2 A2.out).mono ?_); (case side1 => repeat (first | exact (Kd.R_reads' HO0.out).2.2 | (with_reducible refine Kd.C_alloc ?_ _) | (with_reducible refine Kd.C_drewN ?_ _) | (with_reducible refine Kd.C_drew ?_))); (case side2 => exact (Kd.R_reads' HO0.out).2.1); rintro e w' ⟨rfl, ⟨nd, rfl⟩⟩; refine ⟨_, rfl, ?_⟩))
 go_loopg [0, 4] k (fun kq v0 v4 w' => ∃ (x0_1 : List Int) (x4_1 : Int), v4 = .int .i64 x4_1 ∧ Aside0 (louverref12_sealed.l0 kq x0_1 t287 x4_1 = some r) ∧ Aside0 (kq ≤ k) ∧ Aside0 (Kd.R (Kd.int .u8) 5 w' w0.heap.size (fun k_ => (P0_ k_ ∨ w.heap.size ≤ k_)) v0 x0_1) ∧ Aside0 (Kept w w' (fun k_ => P0_ k_)) ∧ Aside0 (Below w0.heap.size w0 w'))
 case atStart => exact ⟨(l0), (7), (by first | rfl | (simp; done) | (simp [*]; done)), H', ⟨Nat.le_refl _⟩, ⟨by (with_reducible repeat (first | apply Kd.R_alloc | apply Kd.R_drewN | apply Kd.R_drew)); exact HO0.out⟩, ⟨by repeat (first | (with_reducible first | exact HK.out | apply Kept.alloc | apply Kept.drewN | apply Kept.drew) | exact HK.out)⟩, ⟨by repeat (first | (with_reducible first | exact HB.out | apply below_alloc | apply pw_below_drewN | apply below_drew1) | exact HB.out)⟩⟩
 case round =>
  clear H'
  try clear c1
  try clear p2
  obtain ⟨x0_1, x4_1, rfl, HA, HK1, HO_0, HK, HB⟩ := hrel
  cases gk with
  | zero => exact absurd HA.out (by simp [louverref12_sealed.l0])
  | succ k1 =>
   have H := HA.out
   clear HA
   simp only [louverref12_sealed.l0] at H
   by_cases c4 : x4_1 ≥ 0
   ·
    rw [if_pos c4] at H
    have c4b0 : decide (0 ≤ x4_1) = true := decide_eq_true c4
    clear c4
    obtain ⟨ji5, hji5⟩ : ∃ j_ : Int, (IntKind.u64.wrap (wrap64 (8 * x4_1))) = j_ := ⟨_, rfl⟩
    replace H : (if 0 ≤ (ji5) then (if x0_1.length < 140737488355328 then (louverref12_sealed.l0 k1 (x0_1 ++ [(shr .u64 t287 (ji5)) % 256]) t287 (wrap64 (x4_1 - 1))) else (none)) else (none)) = some r := by first | (rw [hji5] at H; exact H) | (simp only [hji5] at H ⊢; exact H)
    by_cases c6 : 0 ≤ (ji5)
    ·
     rw [if_pos c6] at H
     have c6b0 := eq_true c6
     have c6b1 : decide (0 ≤ (ji5)) = true := decide_eq_true c6
     clear c6
     obtain ⟨ji7, hji7⟩ : ∃ j_ : Int, (shr .u64 t287 (ji5)) = j_ := ⟨_, rfl⟩
     replace H : (if x0_1.length < 140737488355328 then (louverref12_sealed.l0 k1 (x0_1 ++ [(ji7) % 256]) t287 (wrap64 (x4_1 - 1))) else (none)) = some r := by first | (rw [hji7] at H; exact H) | (simp only [hji7] at H ⊢; exact H)
     have hji7_ : (t287 / 2 ^ min (ji5).toNat 64) = ji7 := hji7
     have hji7z : (ji5) ≤ 64 → (t287 / 2 ^ (ji5).toNat) = ji7 := shr_small hji7
     by_cases c8 : x0_1.length < 140737488355328
     ·
      rw [if_pos c8] at H
      have LMc8 := Aside0.mk c8
      clear c8
      obtain ⟨y288, hy288⟩ : ∃ y_ : List Int, y_ = (x0_1 ++ [(ji7) % 256]) := ⟨_, rfl⟩
      replace H : (louverref12_sealed.l0 k1 y288 t287 (wrap64 (x4_1 - 1))) = some r := by first | (rw [hy288]; with_reducible exact H) | (have H2_ := (Option.bind_some _ _).symm.trans H; rw [hy288]; with_reducible exact H2_) | (have H2_ := (Option.bind_some _ _).symm.trans H; with_reducible exact H2_) | with_reducible exact H | (rw [hy288]; exact H) | exact H
      have Ny288 := Aside0.mk hy288
      clear hy288
      have H' := Aside0.mk H
      clear H
      go_wp2_with (first | ((with_reducible refine gate_builtin (b := .append) (xs := #[.tmp 11, .tmp 18]) rfl ?_); at_builtin; refine Kd.R_append (Kd.int .u8) (w0 := w0) w0.heap.size rfl (.tmp 11) (.tmp 18) 27 5 (.int .u8 0) 1 rfl Tryd.underlying27 info5 rfl (by decide) (by omega) u0 x0_1 ((ji7) % 256) [.int .u8 ((ji7) % 256)] (fun k_ => (P0_ k_ ∨ w.heap.size ≤ k_)) (fun _ => False) rfl rfl ?aP (fun _ hk => hk.elim) ?aF ?aO ?aB ?aS ?aL ?_; (case aP => exact rfl); (case aB => exact (by repeat (first | (with_reducible first | exact HB.out | apply below_alloc | apply pw_below_drewN | apply below_drew1) | exact HB.out))); (case aF => exact (fun k_ hk => (.inr (Nat.le_trans (by first | exact HK.out.1 | exact (show Kept w _ (fun k_ => P0_ k_) from by repeat (first | (with_reducible first | exact HK.out | apply Kept.alloc | apply Kept.drewN | apply Kept.drew) | exact HK.out)).1) hk)))); (case aO => exact (by (with_reducible repeat (first | apply Kd.R_alloc | apply Kd.R_drewN | apply Kd.R_drew)); exact HO_0.out)); (case aS => exact (below_size (by repeat (first | (with_reducible first | exact HB.out | apply below_alloc | apply pw_below_drewN | apply below_drew1) | exact HB.out)))); (case aL => have := LMc8.out; omega); intro v289 w9 ho hb hg hat; rw [← Ny288.out] at ho; have n0_ := Aside0.mk (hb); have n1_ := Aside0.mk (Kept.of_grown (S := (fun k_ => P0_ k_)) hg (by repeat (first | (with_reducible first | exact HK.out | apply Kept.alloc | apply Kept.drewN | apply Kept.drew) | exact HK.out)) (fun k_ e_ => (HO_0.out.1 k_ e_))); have n2_ := Aside0.mk (ho); clear HB; clear HK; clear HO_0; have HB := n0_; have HK := n1_; have HO290 := n2_; clear n0_ n1_ n2_; clear ho hb hg hat))
      go_roundg k1
      case measure => have := HK1.out; omega
      case rel => exact ⟨(y288), (wrap64 (x4_1 - 1)), (by first | rfl | (simp; done) | (simp [*]; done)), H', ⟨by have := HK1.out; omega⟩, ⟨by (with_reducible repeat (first | apply Kd.R_alloc | apply Kd.R_drewN | apply Kd.R_drew)); exact HO290.out⟩, ⟨by repeat (first | (with_reducible first | exact HK.out | apply Kept.alloc | apply Kept.drewN | apply Kept.drew) | exact HK.out)⟩, ⟨by repeat (first | (with_reducible first | exact HB.out | apply below_alloc | apply pw_below_drewN | apply below_drew1) | exact HB.out)⟩⟩
     ·
      rw [if_neg c8] at H
      exact absurd H (by simp)
    ·
     rw [if_neg c6] at H
     exact absurd H (by simp)
   ·
    rw [if_neg c4] at H
    have c4b0 : decide (0 ≤ x4_1) = false := decide_eq_false c4
    clear c4
    obtain rfl := Option.some.inj H
    go_wp2
    go_ret
    exact ⟨_, by first | rfl | (simp [errW_none, errW_some] <;> rfl) | (simp [*, errW_none, errW_some] <;> rfl), by (with_reducible repeat (first | apply Kd.R_alloc | apply Kd.R_drewN | apply Kd.R_drew)); exact HO_0.out, by repeat (first | (with_reducible first | exact HB.out | apply below_alloc | apply pw_below_drewN | apply below_drew1) | exact HB.out), by repeat (first | (with_reducible first | exact HK.out | apply Kept.alloc | apply Kept.drewN | apply Kept.drew) | exact HK.out)⟩
end Go.Proofs.YtgpdaihfjnihhaaDoor.PJ

namespace Go.Proofs.YtgpdaihfjnihhaaDoor.PJ
open Go.RowKit Go.Proofs.YtgpdaihfjnihhaaDoorW.PrintWords Go.Proofs.YtgpdaihfjnihhaaDoorW.PrintLast Go.Proofs.YtgpdaihfjnihhaaDoorW.PrintMore
attribute [local go_sem] max2_int min2_int max_two min_two max_three min_three max_four min_four   -- for this text's walks alone
set_option linter.unusedVariables false
set_option linter.unusedSimpArgs false
mutual
def louverref12_Bytes.l0 : Nat → List Int → Int → List Int → List (S38) → List Int → List (S41) → Option (List Int)
 | 0, _, _, _, _, _, _ => none
 | k + 1, x3, x4, x292000, x292001, x292002, x292003 => if x4 < (x292001.length : Int) then (if 0 ≤ x4 then ((louverref12_put.f k x3 (IntKind.u64.wrap ((rd_T38 x292001 x4).f0))).bind fun t302 => ((louverref12_put.f k t302 ((rd_T38 x292001 x4).f1)).bind fun t306 => (louverref12_Bytes.l0 k t306 (wrap64 (x4 + 1)) x292000 x292001 x292002 x292003))) else (none)) else ((louverref12_labels.f k x3 x292002).bind fun t309 => ((louverref12_put.f k t309 (IntKind.u64.wrap ((x292003.length : Int)))).bind fun t312 => (louverref12_Bytes.l1 k t312 0 x292000 x292001 x292002 x292003)))
def louverref12_Bytes.l1 : Nat → List Int → Int → List Int → List (S38) → List Int → List (S41) → Option (List Int)
 | 0, _, _, _, _, _, _ => none
 | k + 1, x3, x5, x292000, x292001, x292002, x292003 => if x5 < (x292003.length : Int) then (louverref12_Bytes.j2 k x3 x5 (decide ((x3.length : Int) ≤ 262144)) x292000 x292001 x292002 x292003) else (louverref12_Bytes.j2 k x3 x5 false x292000 x292001 x292002 x292003)
def louverref12_Bytes.j2 : Nat → List Int → Int → Bool → List Int → List (S38) → List Int → List (S41) → Option (List Int)
 | 0, _, _, _, _, _, _, _ => none
 | k + 1, x3, x5, x63, x292000, x292001, x292002, x292003 => if x63 = true then (if 0 ≤ x5 then (if x5 < (x292003.length : Int) then ((louverref12_put.f k x3 ((rd_T41 x292003 x5).f0)).bind fun t320 => ((louverref12_labels.f k t320 ((rd_T41 x292003 x5).f1)).bind fun t323 => ((louverref12_labels.f k t323 ((rd_T41 x292003 x5).f2)).bind fun t326 => ((louverref12_put.f k t326 (IntKind.u64.wrap ((rd_T41 x292003 x5).f3))).bind fun t329 => ((louverref12_put.f k t329 (IntKind.u64.wrap ((rd_T41 x292003 x5).f4))).bind fun t332 => ((louverref12_put.f k t332 (IntKind.u64.wrap ((((rd_T41 x292003 x5).f5).length : Int)))).bind fun t335 => (louverref12_Bytes.l2 k t335 x5 0 x292000 x292001 x292002 x292003 ((rd_T41 x292003 x5).f0) ((rd_T41 x292003 x5).f1) ((rd_T41 x292003 x5).f2) ((rd_T41 x292003 x5).f3) ((rd_T41 x292003 x5).f4) ((rd_T41 x292003 x5).f5)))))))) else (none)) else (none)) else ((louverref12_sealed.f k x3).bind fun t315 => (some t315))
def louverref12_Bytes.l2 : Nat → List Int → Int → Int → List Int → List (S38) → List Int → List (S41) → Int → List Int → List Int → Int → Int → List (S44) → Option (List Int)
 | 0, _, _, _, _, _, _, _, _, _, _, _, _, _ => none
 | k + 1, x3, x5, x7, x292000, x292001, x292002, x292003, x320000, x320001, x320002, x320003, x320004, x320005 => if x7 < (x320005.length : Int) then (if (x3.length : Int) ≤ 262144 then (if 0 ≤ x7 then ((louverref10_Put.f k ((rd_T44 x320005 x7).f0) ((rd_T44 x320005 x7).f1)).bind fun t339 => (if x3.length + t339.length < 140737488355328 then (louverref12_Bytes.l2 k (x3 ++ t339) x5 (wrap64 (x7 + 1)) x292000 x292001 x292002 x292003 x320000 x320001 x320002 x320003 x320004 x320005) else (none))) else (none)) else (louverref12_Bytes.l1 k x3 (wrap64 (x5 + 1)) x292000 x292001 x292002 x292003)) else (louverref12_Bytes.l1 k x3 (wrap64 (x5 + 1)) x292000 x292001 x292002 x292003)
end
def louverref12_Bytes.f (k : Nat) (l0_0 : List Int) (l0_1 : List (S38)) (l0_2 : List Int) (l0_3 : List (S41)) : Option (List Int) := (louverref12_labels.f k (([76, 86, 82, 1] : List Int)) l0_0).bind fun t295 => ((louverref12_put.f k t295 (IntKind.u64.wrap ((l0_1.length : Int)))).bind fun t298 => (louverref12_Bytes.l0 k t298 0 l0_0 l0_1 l0_2 l0_3))
set_option maxHeartbeats 8000000 in
set_option maxRecDepth 100000 in
theorem louverref12_Bytes.calls (k : Nat) (A0_0 : Option Addr) (c0_0 : Nat) (l0_0 : List Int) (A0_1 : Option Addr) (c0_1 : Nat) (l0_1 : List (S38)) (A0_2 : Option Addr) (c0_2 : Nat) (l0_2 : List Int) (A0_3 : Option Addr) (c0_3 : Nat) (l0_3 : List (S41)) (r : List Int) (w : World) (hr0_0 : Kd.C (Kd.int .u64) w A0_0 l0_0.length l0_0) (hc0_0 : l0_0.length ≤ c0_0) (hr0_1 : Kd.C k38 w A0_1 l0_1.length l0_1) (hc0_1 : l0_1.length ≤ c0_1) (hr0_2 : Kd.C (Kd.int .u64) w A0_2 l0_2.length l0_2) (hc0_2 : l0_2.length ≤ c0_2) (hr0_3 : Kd.C k41 w A0_3 l0_3.length l0_3) (hc0_3 : l0_3.length ≤ c0_3) (h : louverref12_Bytes.f k l0_0 l0_1 l0_2 l0_3 = some r) :
  Calls Tryd.prog 83 #[.agg #[.slice A0_0 l0_0.length c0_0, .slice A0_1 l0_1.length c0_1, .slice A0_2 l0_2.length c0_2, .slice A0_3 l0_3.length c0_3]] w fun e w' => ∃ v0_ : Value, e = .returned (v0_) ∧ Kd.R (Kd.int .u8) 5 w' w.heap.size (fun _ => True) v0_ r ∧ Below w.heap.size w w' := by
 have hu26 := Tryd.underlying26
 have hu41 := Tryd.underlying41
 have hu44 := Tryd.underlying44
 have HR0_0 := Aside0.mk hr0_0
 have HC0_0 := Aside0.mk hc0_0
 clear hr0_0 hc0_0
 have HR0_1 := Aside0.mk hr0_1
 have HC0_1 := Aside0.mk hc0_1
 clear hr0_1 hc0_1
 have HR0_2 := Aside0.mk hr0_2
 have HC0_2 := Aside0.mk hc0_2
 clear hr0_2 hc0_2
 have HR0_3 := Aside0.mk hr0_3
 have HC0_3 := Aside0.mk hc0_3
 clear hr0_3 hc0_3
 have HB := Aside0.mk (Below.refl w.heap.size w)
 have H : ((louverref12_labels.f k (([76, 86, 82, 1] : List Int)) l0_0).bind fun t295 => ((louverref12_put.f k t295 (IntKind.u64.wrap ((l0_1.length : Int)))).bind fun t298 => (louverref12_Bytes.l0 k t298 0 l0_0 l0_1 l0_2 l0_3))) = some r := h
 clear h
 obtain ⟨y292, hy292⟩ : ∃ y_ : List Int, y_ = (([76, 86, 82, 1] : List Int)) := ⟨_, rfl⟩
 replace H : ((louverref12_labels.f k y292 l0_0).bind fun t295 => ((louverref12_put.f k t295 (IntKind.u64.wrap ((l0_1.length : Int)))).bind fun t298 => (louverref12_Bytes.l0 k t298 0 l0_0 l0_1 l0_2 l0_3))) = some r := by first | (rw [hy292]; with_reducible exact H) | (have H2_ := (Option.bind_some _ _).symm.trans H; rw [hy292]; with_reducible exact H2_) | (have H2_ := (Option.bind_some _ _).symm.trans H; with_reducible exact H2_) | with_reducible exact H | (rw [hy292]; exact H) | exact H
 have Ny292 := Aside0.mk hy292
 clear hy292
 replace H := Option.bind_eq_some_iff.mp H
 obtain ⟨t295, A20, H⟩ := H
 replace H : ((louverref12_put.f k t295 (IntKind.u64.wrap ((l0_1.length : Int)))).bind fun t298 => (louverref12_Bytes.l0 k t298 0 l0_0 l0_1 l0_2 l0_3)) = some r := H
 have A2 := Aside0.mk A20
 clear A20
 replace H := Option.bind_eq_some_iff.mp H
 obtain ⟨t298, A30, H⟩ := H
 replace H : (louverref12_Bytes.l0 k t298 0 l0_0 l0_1 l0_2 l0_3) = some r := H
 have A3 := Aside0.mk A30
 clear A30
 have H' := Aside0.mk H
 clear H
 go_enter Tryd.func83, Tryd.ntmps83
 go_wp2_with (first | ((with_reducible refine gate_dst (N := 1) rfl ?_); (try (refine gate_guard (by rfl) ?_; dsimp only)); refine box_event ?hg (N := 1) ?hd (cs := #[.slice A0_0 l0_0.length c0_0, .slice A0_1 l0_1.length c0_1, .slice A0_2 l0_2.length c0_2, .slice A0_3 l0_3.length c0_3]) (t := 26) ?hr ?_; (case hd => rfl); (case hg => rfl); (case hr => first | (go_simp; done) | (go_simp; rfl)); intro gb291 hg w4 hbox hb; have n0_ := Aside0.mk (below_step (by repeat (first | (with_reducible first | exact HB.out | apply below_alloc | apply pw_below_drewN | apply below_drew1) | exact HB.out)) hb); have n1_ := Aside0.mk (hbox); have n2_ := Aside0.mk ((by rw [hg]; exact (below_size (by repeat (first | (with_reducible first | exact HB.out | apply below_alloc | apply pw_below_drewN | apply below_drew1) | exact HB.out))) : w.heap.size ≤ gb291)); have n3_ := Aside0.mk ((by rw [hg]; exact (below_size (by repeat (first | (with_reducible first | exact HB.out | apply below_alloc | apply pw_below_drewN | apply below_drew1) | exact HB.out))) : w.heap.size ≤ gb291)); clear HB; have HB := n0_; have BK291 := n1_; have GW291 := n2_; have GE291 := n3_; clear n0_ n1_ n2_ n3_; clear hb hbox hg) | ((with_reducible refine gate_dst (N := 9) rfl ?_); (try (refine gate_guard (by rfl) ?_; dsimp only)); refine Kd.R_lit (Kd.int .u8) _ 5 ?hg (N := 9) ?hd (xs := ([76, 86, 82, 1] : List Int)) (inner := [.int .u8 76, .int .u8 86, .int .u8 82, .int .u8 1]) (ok := fun _ => True) (okp := fun _ => True) ?hr ?hp (fun _ hk => hk) trivial (Below.refl _ _) (Nat.le_refl _) (by simp) ?_; (case hd => rfl); (case hg => rfl); (case hr => first | (go_simp; done) | (go_simp; rfl)); (case hp => exact (Reps.one (show Kd.M (Kd.int .u8) _ _ _ 76 [.int .u8 76] from rfl) (Reps.one (show Kd.M (Kd.int .u8) _ _ _ 86 [.int .u8 86] from rfl) (Reps.one (show Kd.M (Kd.int .u8) _ _ _ 82 [.int .u8 82] from rfl) (Reps.one (show Kd.M (Kd.int .u8) _ _ _ 1 [.int .u8 1] from rfl) (Reps.none _ _)))))); intro v293 w5 ho6 hb hg_ hnew_; clear hg_ hnew_; (first | rw [← Ny292.out] at ho6 | (simp only [Int.reduceToNat] at ho6; rw [← Ny292.out] at ho6)); have n0_ := Aside0.mk (Kd.R_lower ho6 (below_size (by repeat (first | (with_reducible first | exact HB.out | apply below_alloc | apply pw_below_drewN | apply below_drew1 | refine below_set ?_ GE291.out) | exact HB.out)))); have n1_ := Aside0.mk (blk_below (g := gb291) (o := .cells #[.slice A0_0 l0_0.length c0_0, .slice A0_1 l0_1.length c0_1, .slice A0_2 l0_2.length c0_2, .slice A0_3 l0_3.length c0_3] 26 (0, 0)) (by (with_reducible repeat (first | refine blk_drewN ?_ _ | refine blk_drew ?_ | refine blk_alloc ?_ _)); exact BK291.out) hb); have n2_ := Aside0.mk (below_step (by repeat (first | (with_reducible first | exact HB.out | apply below_alloc | apply pw_below_drewN | apply below_drew1 | refine below_set ?_ GE291.out) | exact HB.out)) hb); clear BK291; clear HB; have HO294 := n0_; have BK291 := n1_; have HB := n2_; clear n0_ n1_ n2_; clear hb ho6; have hcz7_0 : w5.cell? ⟨gb291, 0, none⟩ = some (.slice A0_0 l0_0.length c0_0) := (blk_cell BK291.out 0).trans rfl; have hcz7_1 : w5.cell? ⟨gb291, 1, none⟩ = some (.slice A0_1 l0_1.length c0_1) := (blk_cell BK291.out 1).trans rfl; have hcz7_2 : w5.cell? ⟨gb291, 2, none⟩ = some (.slice A0_2 l0_2.length c0_2) := (blk_cell BK291.out 2).trans rfl; have hcz7_3 : w5.cell? ⟨gb291, 3, none⟩ = some (.slice A0_3 l0_3.length c0_3) := (blk_cell BK291.out 3).trans rfl; have hfz7_0 := blk_frozen BK291.out 0; have hfz7_1 := blk_frozen BK291.out 1; have hfz7_2 := blk_frozen BK291.out 2; have hfz7_3 := blk_frozen BK291.out 3; obtain ⟨Ao8, co8, eo8⟩ := Kd.R_slice HO294.out; subst eo8) | ((with_reducible refine gate_callee (f := 116) rfl ?_); refine goesL_ (some 13) rfl rfl Tryd.func116 (by kernel_rfl) rfl #[.slice Ao8 y292.length co8, .slice A0_0 l0_0.length c0_0] rfl (by (try simp only [List.map_toArray, List.map_cons, List.map_nil]); first | done | rfl | (simp only [List.length_drop, List.length_take]; rfl)) ?_; (with_reducible refine (louverref12_labels.calls k (fun k_ => some k_ = (.slice Ao8 y292.length co8 : Value).ownBlock) (.slice Ao8 y292.length co8) y292 _ _ l0_0 t295 w _ ?side1 ?side2 ?side3 ?side4 A2.out).mono ?_); (case side1 => repeat (first | (with_reducible first | exact HB.out | apply below_alloc | apply pw_below_drewN | apply below_drew1 | refine below_set ?_ GE291.out) | exact HB.out)); (case side2 => exact Kd.R_tight rfl HO294.out); (case side3 => exact Kd.C_kept_came (Kd.heap_int .u64) HR0_0.out (by repeat (first | (with_reducible first | exact HB.out | apply below_alloc | apply pw_below_drewN | apply below_drew1 | refine below_set ?_ GE291.out) | exact HB.out)) (fun k_ hs_ => (fun e_ => Kd.R_base HO294.out k_ e_.symm) hs_)); (case side4 => exact HC0_0.out); rintro e w9 ⟨v296, rfl, ho0, hb, hkp⟩; refine ⟨_, rfl, ?_⟩; have n0_ := Aside0.mk (blk_kept (by (with_reducible repeat (first | refine blk_drewN ?_ _ | refine blk_drew ?_ | refine blk_alloc ?_ _)); exact BK291.out) hkp (fun hs_ => (fun e_ => (Kd.R_ne HO294.out BK291.out (by decide)) e_) hs_)); have n1_ := Aside0.mk (Kd.R_mono (ok' := fun k_ => True) ho0 (fun k_ hk_ => trivial)); have n2_ := Aside0.mk (hb); clear BK291; clear HB; clear HO294; have BK291 := n0_; have HO297 := n1_; have HB := n2_; clear n0_ n1_ n2_; (try clear hb); (try clear hkp); (try clear ho0); have hcz10_0 : w9.cell? ⟨gb291, 0, none⟩ = some (.slice A0_0 l0_0.length c0_0) := (blk_cell BK291.out 0).trans rfl; have hcz10_1 : w9.cell? ⟨gb291, 1, none⟩ = some (.slice A0_1 l0_1.length c0_1) := (blk_cell BK291.out 1).trans rfl; have hcz10_2 : w9.cell? ⟨gb291, 2, none⟩ = some (.slice A0_2 l0_2.length c0_2) := (blk_cell BK291.out 2).trans rfl; have hcz10_3 : w9.cell? ⟨gb291, 3, none⟩ = some (.slice A0_3 l0_3.length c0_3) := (blk_cell BK291.out 3).trans rfl; have hfz10_0 := blk_frozen BK291.out 0; have hfz10_1 := blk_frozen BK291.out 1; have hfz10_2 := blk_frozen BK291.out 2; have hfz10_3 := blk_frozen BK291.out 3; obtain ⟨Ao11, co11, eo11⟩ := Kd.R_slice HO297.out; subst eo11) | ((with_reducible refine gate_callee (f := 117) rfl ?_); refine goesL_ (some 19) rfl rfl Tryd.func117 (by kernel_rfl) rfl #[.slice Ao11 t295.length co11, .int .u64 (IntKind.u64.wrap ((l0_1.length : Int)))] rfl (by (try simp only [List.map_toArray, List.map_cons, List.map_nil]); first | done | rfl | (simp only [List.length_drop, List.length_take]; rfl)) ?_; (with_reducible refine (louverref12_put.calls k (fun k_ => some k_ = (.slice Ao11 t295.length co11 : Value).ownBlock) (.slice Ao11 t295.length co11) t295 (IntKind.u64.wrap ((l0_1.length : Int))) t298 w _ ?side1 ?side2 A3.out).mono ?_); (case side1 => repeat (first | (with_reducible first | exact HB.out | apply below_alloc | apply pw_below_drewN | apply below_drew1 | refine below_set ?_ GE291.out) | exact HB.out)); (case side2 => exact Kd.R_tight rfl HO297.out); rintro e w12 ⟨v299, rfl, ho0, hb, hkp⟩; refine ⟨_, rfl, ?_⟩; have n0_ := Aside0.mk (blk_kept (by (with_reducible repeat (first | refine blk_drewN ?_ _ | refine blk_drew ?_ | refine blk_alloc ?_ _)); exact BK291.out) hkp (fun hs_ => (fun e_ => (Kd.R_ne HO297.out BK291.out (by decide)) e_) hs_)); have n1_ := Aside0.mk (Kd.R_mono (ok' := fun k_ => True) ho0 (fun k_ hk_ => trivial)); have n2_ := Aside0.mk (hb); clear BK291; clear HB; clear HO297; have BK291 := n0_; have HO300 := n1_; have HB := n2_; clear n0_ n1_ n2_; (try clear hb); (try clear hkp); (try clear ho0)))
 go_loopg [3, 4] k (fun kq v3 v4 w' => ∃ (x3_1 : List Int) (x4_1 : Int), v4 = .int .i64 x4_1 ∧ Aside0 (louverref12_Bytes.l0 kq x3_1 x4_1 l0_0 l0_1 l0_2 l0_3 = some r) ∧ Aside0 (kq ≤ k) ∧ Aside0 (Kd.R (Kd.int .u8) 5 w' w.heap.size (fun _ => True) v3 x3_1) ∧ Aside0 (w'.heap[gb291]? = some (.cells #[(.slice A0_0 l0_0.length c0_0), (.slice A0_1 l0_1.length c0_1), (.slice A0_2 l0_2.length c0_2), (.slice A0_3 l0_3.length c0_3)] 26 (0, 0))) ∧ Aside0 (Below w.heap.size w w'))
 case atStart => exact ⟨(t298), (0), (by first | rfl | (simp; done) | (simp [*]; done)), H', ⟨Nat.le_refl _⟩, ⟨by (with_reducible repeat (first | apply Kd.R_alloc | apply Kd.R_drewN | apply Kd.R_drew)); exact HO300.out⟩, ⟨by (with_reducible repeat (first | refine blk_drewN ?_ _ | refine blk_drew ?_ | refine blk_alloc ?_ _)); exact BK291.out⟩, ⟨by repeat (first | (with_reducible first | exact HB.out | apply below_alloc | apply pw_below_drewN | apply below_drew1 | refine below_set ?_ GE291.out) | exact HB.out)⟩⟩
 case round =>
  clear H'
  try clear c1
  try clear p2
  try clear c8
  try clear c11
  try clear hcz10_0
  try clear hcz10_1
  try clear hcz10_2
  try clear hcz10_3
  try clear hcz7_0
  try clear hcz7_1
  try clear hcz7_2
  try clear hcz7_3
  try clear hfz10_0
  try clear hfz10_1
  try clear hfz10_2
  try clear hfz10_3
  try clear hfz7_0
  try clear hfz7_1
  try clear hfz7_2
  try clear hfz7_3
  obtain ⟨x3_1, x4_1, rfl, HA, HK1, HO_3, BK291, HB⟩ := hrel
  cases gk with
  | zero => exact absurd HA.out (by simp [louverref12_Bytes.l0])
  | succ k1 =>
   have H := HA.out
   clear HA
   simp only [louverref12_Bytes.l0] at H
   by_cases c13 : x4_1 < (l0_1.length : Int)
   ·
    rw [if_pos c13] at H
    have c13b0 : decide (x4_1 < (l0_1.length : Int)) = true := decide_eq_true c13
    clear c13
    by_cases c14 : 0 ≤ x4_1
    ·
     rw [if_pos c14] at H
     have c14b0 : decide (0 ≤ x4_1) = true := decide_eq_true c14
     clear c14
     replace H := Option.bind_eq_some_iff.mp H
     obtain ⟨t302, A150, H⟩ := H
     replace H : ((louverref12_put.f k1 t302 ((rd_T38 l0_1 x4_1).f1)).bind fun t306 => (louverref12_Bytes.l0 k1 t306 (wrap64 (x4_1 + 1)) l0_0 l0_1 l0_2 l0_3)) = some r := H
     have A15 := Aside0.mk A150
     clear A150
     replace H := Option.bind_eq_some_iff.mp H
     obtain ⟨t306, A160, H⟩ := H
     replace H : (louverref12_Bytes.l0 k1 t306 (wrap64 (x4_1 + 1)) l0_0 l0_1 l0_2 l0_3) = some r := H
     have A16 := Aside0.mk A160
     clear A160
     have H' := Aside0.mk H
     clear H
     have hcz17_0 : wr.cell? ⟨gb291, 0, none⟩ = some (.slice A0_0 l0_0.length c0_0) := (blk_cell BK291.out 0).trans rfl
     have hcz17_1 : wr.cell? ⟨gb291, 1, none⟩ = some (.slice A0_1 l0_1.length c0_1) := (blk_cell BK291.out 1).trans rfl
     have hcz17_2 : wr.cell? ⟨gb291, 2, none⟩ = some (.slice A0_2 l0_2.length c0_2) := (blk_cell BK291.out 2).trans rfl
     have hcz17_3 : wr.cell? ⟨gb291, 3, none⟩ = some (.slice A0_3 l0_3.length c0_3) := (blk_cell BK291.out 3).trans rfl
     have hfz17_0 := blk_frozen BK291.out 0
     have hfz17_1 := blk_frozen BK291.out 1
     have hfz17_2 := blk_frozen BK291.out 2
     have hfz17_3 := blk_frozen BK291.out 3
     have p301 : 0 ≤ (x4_1 : Int) := of_decide_eq_true (by first | (with_reducible assumption) | assumption)
     have q301 : x4_1 < (l0_1.length : Int) := of_decide_eq_true (by first | (with_reducible assumption) | assumption)
     obtain ⟨ad301, e301, hx301_0, hx301_1⟩ := at_T38 HR0_1.out x4_1 p301 q301
     cases e301
     replace hx301_0 := (HB.out.cell (World.block_lt_of_cell? w _ hx301_0)).trans hx301_0
     replace hx301_1 := (HB.out.cell (World.block_lt_of_cell? w _ hx301_1)).trans hx301_1
     replace p301 := eq_true p301
     replace q301 := eq_true q301
     obtain ⟨Ao18, co18, eo18⟩ := Kd.R_slice HO_3.out
     subst eo18
     go_wp2_with (first | ((with_reducible refine gate_callee (f := 117) rfl ?_); refine goesL_ (some 35) rfl rfl Tryd.func117 (by kernel_rfl) rfl #[.slice Ao18 x3_1.length co18, .int .u64 (IntKind.u64.wrap ((rd_T38 l0_1 x4_1).f0))] rfl (by (try simp only [List.map_toArray, List.map_cons, List.map_nil]); first | done | rfl | (simp only [List.length_drop, List.length_take]; rfl)) ?_; (with_reducible refine (louverref12_put.calls k1 (fun k_ => some k_ = (.slice Ao18 x3_1.length co18 : Value).ownBlock) (.slice Ao18 x3_1.length co18) x3_1 (IntKind.u64.wrap ((rd_T38 l0_1 x4_1).f0)) t302 w _ ?side1 ?side2 A15.out).mono ?_); (case side1 => repeat (first | (with_reducible first | exact HB.out | apply below_alloc | apply pw_below_drewN | apply below_drew1 | refine below_set ?_ GE291.out) | exact HB.out)); (case side2 => exact Kd.R_tight rfl HO_3.out); rintro e w19 ⟨v303, rfl, ho0, hb, hkp⟩; refine ⟨_, rfl, ?_⟩; have n0_ := Aside0.mk (blk_kept (by (with_reducible repeat (first | refine blk_drewN ?_ _ | refine blk_drew ?_ | refine blk_alloc ?_ _)); exact BK291.out) hkp (fun hs_ => (fun e_ => (Kd.R_ne HO_3.out BK291.out (by decide)) e_) hs_)); have n1_ := Aside0.mk (Kd.R_mono (ok' := fun k_ => True) ho0 (fun k_ hk_ => trivial)); have n2_ := Aside0.mk (hb); clear BK291; clear HB; clear HO_3; have BK291 := n0_; have HO304 := n1_; have HB := n2_; clear n0_ n1_ n2_; (try clear hb); (try clear hkp); (try clear ho0); have hcz20_0 : w19.cell? ⟨gb291, 0, none⟩ = some (.slice A0_0 l0_0.length c0_0) := (blk_cell BK291.out 0).trans rfl; have hcz20_1 : w19.cell? ⟨gb291, 1, none⟩ = some (.slice (some ad301) l0_1.length c0_1) := (blk_cell BK291.out 1).trans rfl; have hcz20_2 : w19.cell? ⟨gb291, 2, none⟩ = some (.slice A0_2 l0_2.length c0_2) := (blk_cell BK291.out 2).trans rfl; have hcz20_3 : w19.cell? ⟨gb291, 3, none⟩ = some (.slice A0_3 l0_3.length c0_3) := (blk_cell BK291.out 3).trans rfl; have hfz20_0 := blk_frozen BK291.out 0; have hfz20_1 := blk_frozen BK291.out 1; have hfz20_2 := blk_frozen BK291.out 2; have hfz20_3 := blk_frozen BK291.out 3; have p305 : 0 ≤ (x4_1 : Int) := of_decide_eq_true (by first | (with_reducible assumption) | assumption); have q305 : x4_1 < (l0_1.length : Int) := of_decide_eq_true (by first | (with_reducible assumption) | assumption); obtain ⟨ad305, e305, hx305_0, hx305_1⟩ := at_T38 HR0_1.out x4_1 p305 q305; obtain rfl : ad301 = ad305 := (by injection e305); replace hx305_0 := (HB.out.cell (World.block_lt_of_cell? w _ hx305_0)).trans hx305_0; replace hx305_1 := (HB.out.cell (World.block_lt_of_cell? w _ hx305_1)).trans hx305_1; replace p305 := eq_true p305; replace q305 := eq_true q305; obtain ⟨Ao21, co21, eo21⟩ := Kd.R_slice HO304.out; subst eo21) | ((with_reducible refine gate_callee (f := 117) rfl ?_); refine goesL_ (some 43) rfl rfl Tryd.func117 (by kernel_rfl) rfl #[.slice Ao21 t302.length co21, .int .u64 ((rd_T38 l0_1 x4_1).f1)] rfl (by (try simp only [List.map_toArray, List.map_cons, List.map_nil]); first | done | rfl | (simp only [List.length_drop, List.length_take]; rfl)) ?_; (with_reducible refine (louverref12_put.calls k1 (fun k_ => some k_ = (.slice Ao21 t302.length co21 : Value).ownBlock) (.slice Ao21 t302.length co21) t302 ((rd_T38 l0_1 x4_1).f1) t306 w _ ?side1 ?side2 A16.out).mono ?_); (case side1 => repeat (first | (with_reducible first | exact HB.out | apply below_alloc | apply pw_below_drewN | apply below_drew1 | refine below_set ?_ GE291.out) | exact HB.out)); (case side2 => exact Kd.R_tight rfl HO304.out); rintro e w22 ⟨v307, rfl, ho0, hb, hkp⟩; refine ⟨_, rfl, ?_⟩; have n0_ := Aside0.mk (blk_kept (by (with_reducible repeat (first | refine blk_drewN ?_ _ | refine blk_drew ?_ | refine blk_alloc ?_ _)); exact BK291.out) hkp (fun hs_ => (fun e_ => (Kd.R_ne HO304.out BK291.out (by decide)) e_) hs_)); have n1_ := Aside0.mk (Kd.R_mono (ok' := fun k_ => True) ho0 (fun k_ hk_ => trivial)); have n2_ := Aside0.mk (hb); clear BK291; clear HB; clear HO304; have BK291 := n0_; have HO308 := n1_; have HB := n2_; clear n0_ n1_ n2_; (try clear hb); (try clear hkp); (try clear ho0)))
     go_roundg k1
     case measure => have := HK1.out; omega
     case rel => exact ⟨(t306), (wrap64 (x4_1 + 1)), (by first | rfl | (simp; done) | (simp [*]; done)), H', ⟨by have := HK1.out; omega⟩, ⟨by (with_reducible repeat (first | apply Kd.R_alloc | apply Kd.R_drewN | apply Kd.R_drew)); exact HO308.out⟩, ⟨by (with_reducible repeat (first | refine blk_drewN ?_ _ | refine blk_drew ?_ | refine blk_alloc ?_ _)); exact BK291.out⟩, ⟨by repeat (first | (with_reducible first | exact HB.out | apply below_alloc | apply pw_below_drewN | apply below_drew1 | refine below_set ?_ GE291.out) | exact HB.out)⟩⟩
    ·
     rw [if_neg c14] at H
     exact absurd H (by simp)
   ·
    rw [if_neg c13] at H
    have c13b0 : decide (x4_1 < (l0_1.length : Int)) = false := decide_eq_false c13
    clear c13
    replace H := Option.bind_eq_some_iff.mp H
    obtain ⟨t309, A230, H⟩ := H
    replace H : ((louverref12_put.f k1 t309 (IntKind.u64.wrap ((l0_3.length : Int)))).bind fun t312 => (louverref12_Bytes.l1 k1 t312 0 l0_0 l0_1 l0_2 l0_3)) = some r := H
    have A23 := Aside0.mk A230
    clear A230
    replace H := Option.bind_eq_some_iff.mp H
    obtain ⟨t312, A240, H⟩ := H
    replace H : (louverref12_Bytes.l1 k1 t312 0 l0_0 l0_1 l0_2 l0_3) = some r := H
    have A24 := Aside0.mk A240
    clear A240
    have H' := Aside0.mk H
    clear H
    have hcz25_0 : wr.cell? ⟨gb291, 0, none⟩ = some (.slice A0_0 l0_0.length c0_0) := (blk_cell BK291.out 0).trans rfl
    have hcz25_1 : wr.cell? ⟨gb291, 1, none⟩ = some (.slice A0_1 l0_1.length c0_1) := (blk_cell BK291.out 1).trans rfl
    have hcz25_2 : wr.cell? ⟨gb291, 2, none⟩ = some (.slice A0_2 l0_2.length c0_2) := (blk_cell BK291.out 2).trans rfl
    have hcz25_3 : wr.cell? ⟨gb291, 3, none⟩ = some (.slice A0_3 l0_3.length c0_3) := (blk_cell BK291.out 3).trans rfl
    have hfz25_0 := blk_frozen BK291.out 0
    have hfz25_1 := blk_frozen BK291.out 1
    have hfz25_2 := blk_frozen BK291.out 2
    have hfz25_3 := blk_frozen BK291.out 3
    obtain ⟨Ao26, co26, eo26⟩ := Kd.R_slice HO_3.out
    subst eo26
    go_wp2_with (first | ((with_reducible refine gate_callee (f := 116) rfl ?_); refine goesL_ (some 47) rfl rfl Tryd.func116 (by kernel_rfl) rfl #[.slice Ao26 x3_1.length co26, .slice A0_2 l0_2.length c0_2] rfl (by (try simp only [List.map_toArray, List.map_cons, List.map_nil]); first | done | rfl | (simp only [List.length_drop, List.length_take]; rfl)) ?_; (with_reducible refine (louverref12_labels.calls k1 (fun k_ => some k_ = (.slice Ao26 x3_1.length co26 : Value).ownBlock) (.slice Ao26 x3_1.length co26) x3_1 _ _ l0_2 t309 w _ ?side1 ?side2 ?side3 ?side4 A23.out).mono ?_); (case side1 => repeat (first | (with_reducible first | exact HB.out | apply below_alloc | apply pw_below_drewN | apply below_drew1 | refine below_set ?_ GE291.out) | exact HB.out)); (case side2 => exact Kd.R_tight rfl HO_3.out); (case side3 => exact Kd.C_kept_came (Kd.heap_int .u64) HR0_2.out (by repeat (first | (with_reducible first | exact HB.out | apply below_alloc | apply pw_below_drewN | apply below_drew1 | refine below_set ?_ GE291.out) | exact HB.out)) (fun k_ hs_ => (fun e_ => Kd.R_base HO_3.out k_ e_.symm) hs_)); (case side4 => exact HC0_2.out); rintro e w27 ⟨v310, rfl, ho0, hb, hkp⟩; refine ⟨_, rfl, ?_⟩; have n0_ := Aside0.mk (blk_kept (by (with_reducible repeat (first | refine blk_drewN ?_ _ | refine blk_drew ?_ | refine blk_alloc ?_ _)); exact BK291.out) hkp (fun hs_ => (fun e_ => (Kd.R_ne HO_3.out BK291.out (by decide)) e_) hs_)); have n1_ := Aside0.mk (Kd.R_mono (ok' := fun k_ => True) ho0 (fun k_ hk_ => trivial)); have n2_ := Aside0.mk (hb); clear BK291; clear HB; clear HO_3; have BK291 := n0_; have HO311 := n1_; have HB := n2_; clear n0_ n1_ n2_; (try clear hb); (try clear hkp); (try clear ho0); have hcz28_0 : w27.cell? ⟨gb291, 0, none⟩ = some (.slice A0_0 l0_0.length c0_0) := (blk_cell BK291.out 0).trans rfl; have hcz28_1 : w27.cell? ⟨gb291, 1, none⟩ = some (.slice A0_1 l0_1.length c0_1) := (blk_cell BK291.out 1).trans rfl; have hcz28_2 : w27.cell? ⟨gb291, 2, none⟩ = some (.slice A0_2 l0_2.length c0_2) := (blk_cell BK291.out 2).trans rfl; have hcz28_3 : w27.cell? ⟨gb291, 3, none⟩ = some (.slice A0_3 l0_3.length c0_3) := (blk_cell BK291.out 3).trans rfl; have hfz28_0 := blk_frozen BK291.out 0; have hfz28_1 := blk_frozen BK291.out 1; have hfz28_2 := blk_frozen BK291.out 2; have hfz28_3 := blk_frozen BK291.out 3; obtain ⟨Ao29, co29, eo29⟩ := Kd.R_slice HO311.out; subst eo29) | ((with_reducible refine gate_callee (f := 117) rfl ?_); refine goesL_ (some 53) rfl rfl Tryd.func117 (by kernel_rfl) rfl #[.slice Ao29 t309.length co29, .int .u64 (IntKind.u64.wrap ((l0_3.length : Int)))] rfl (by (try simp only [List.map_toArray, List.map_cons, List.map_nil]); first | done | rfl | (simp only [List.length_drop, List.length_take]; rfl)) ?_; (with_reducible refine (louverref12_put.calls k1 (fun k_ => some k_ = (.slice Ao29 t309.length co29 : Value).ownBlock) (.slice Ao29 t309.length co29) t309 (IntKind.u64.wrap ((l0_3.length : Int))) t312 w _ ?side1 ?side2 A24.out).mono ?_); (case side1 => repeat (first | (with_reducible first | exact HB.out | apply below_alloc | apply pw_below_drewN | apply below_drew1 | refine below_set ?_ GE291.out) | exact HB.out)); (case side2 => exact Kd.R_tight rfl HO311.out); rintro e w30 ⟨v313, rfl, ho0, hb, hkp⟩; refine ⟨_, rfl, ?_⟩; have n0_ := Aside0.mk (blk_kept (by (with_reducible repeat (first | refine blk_drewN ?_ _ | refine blk_drew ?_ | refine blk_alloc ?_ _)); exact BK291.out) hkp (fun hs_ => (fun e_ => (Kd.R_ne HO311.out BK291.out (by decide)) e_) hs_)); have n1_ := Aside0.mk (Kd.R_mono (ok' := fun k_ => True) ho0 (fun k_ hk_ => trivial)); have n2_ := Aside0.mk (hb); clear BK291; clear HB; clear HO311; have BK291 := n0_; have HO314 := n1_; have HB := n2_; clear n0_ n1_ n2_; (try clear hb); (try clear hkp); (try clear ho0)))
    go_loopg [3, 5] k1 (fun kq v3 v5 w' => ∃ (x3_2 : List Int) (x5_2 : Int), v5 = .int .i64 x5_2 ∧ Aside0 (louverref12_Bytes.l1 kq x3_2 x5_2 l0_0 l0_1 l0_2 l0_3 = some r) ∧ Aside0 (kq ≤ k1) ∧ Aside0 (Kd.R (Kd.int .u8) 5 w' w.heap.size (fun _ => True) v3 x3_2) ∧ Aside0 (w'.heap[gb291]? = some (.cells #[(.slice A0_0 l0_0.length c0_0), (.slice A0_1 l0_1.length c0_1), (.slice A0_2 l0_2.length c0_2), (.slice A0_3 l0_3.length c0_3)] 26 (0, 0))) ∧ Aside0 (Below w.heap.size w w'))
    case atStart => exact ⟨(t312), (0), (by first | rfl | (simp; done) | (simp [*]; done)), H', ⟨Nat.le_refl _⟩, ⟨by (with_reducible repeat (first | apply Kd.R_alloc | apply Kd.R_drewN | apply Kd.R_drew)); exact HO314.out⟩, ⟨by (with_reducible repeat (first | refine blk_drewN ?_ _ | refine blk_drew ?_ | refine blk_alloc ?_ _)); exact BK291.out⟩, ⟨by repeat (first | (with_reducible first | exact HB.out | apply below_alloc | apply pw_below_drewN | apply below_drew1 | refine below_set ?_ GE291.out) | exact HB.out)⟩⟩
    case round =>
     clear H'
     try clear c1
     try clear p2
     try clear p3
     try clear q3
     try clear hx3
     try clear p6
     try clear c8
     try clear c11
     try clear c13
     try clear c13b0
     try clear c14
     try clear c14b0
     try clear p30
     try clear q30
     try clear hx30
     try clear hcz10_0
     try clear hcz10_1
     try clear hcz10_2
     try clear hcz10_3
     try clear hcz17_0
     try clear hcz17_1
     try clear hcz17_2
     try clear hcz17_3
     try clear hcz20_0
     try clear hcz20_1
     try clear hcz20_2
     try clear hcz20_3
     try clear hcz25_0
     try clear hcz25_1
     try clear hcz25_2
     try clear hcz25_3
     try clear hcz28_0
     try clear hcz28_1
     try clear hcz28_2
     try clear hcz28_3
     try clear hcz7_0
     try clear hcz7_1
     try clear hcz7_2
     try clear hcz7_3
     try clear hfz10_0
     try clear hfz10_1
     try clear hfz10_2
     try clear hfz10_3
     try clear hfz17_0
     try clear hfz17_1
     try clear hfz17_2
     try clear hfz17_3
     try clear hfz20_0
     try clear hfz20_1
     try clear hfz20_2
     try clear hfz20_3
     try clear hfz25_0
     try clear hfz25_1
     try clear hfz25_2
     try clear hfz25_3
     try clear hfz28_0
     try clear hfz28_1
     try clear hfz28_2
     try clear hfz28_3
     try clear hfz7_0
     try clear hfz7_1
     try clear hfz7_2
     try clear hfz7_3
     try clear hx301_0
     try clear hx301_1
     try clear hx305_0
     try clear hx305_1
     try clear p2
     try clear p301
     try clear p305
     try clear q301
     try clear q305
     obtain ⟨x3_2, x5_2, rfl, HA, HK2, HO_3, BK291, HB⟩ := hrel
     cases gk with
     | zero => exact absurd HA.out (by simp [louverref12_Bytes.l1])
     | succ k2 =>
      have H := HA.out
      clear HA
      simp only [louverref12_Bytes.l1] at H
      have HC31 := Aside0.mk H
      clear H
      go_upto_region 12 with (fail)
      go_cut [63] (fun v63 wc => ∃ (kq : Nat) (x63_30 : Bool), v63 = .bool x63_30 ∧ Aside0 (louverref12_Bytes.j2 kq x3_2 x5_2 x63_30 l0_0 l0_1 l0_2 l0_3 = some r) ∧ Aside0 (kq ≤ k2) ∧ Aside0 (Kd.R (Kd.int .u8) 5 wc w.heap.size (fun _ => True) u3 x3_2) ∧ Aside0 (wc.heap[gb291]? = some (.cells #[(.slice A0_0 l0_0.length c0_0), (.slice A0_1 l0_1.length c0_1), (.slice A0_2 l0_2.length c0_2), (.slice A0_3 l0_3.length c0_3)] 26 (0, 0))) ∧ Aside0 (Below w.heap.size w wc))
      case first =>
       have H := HC31.out
       clear HC31
       by_cases c32 : x5_2 < (l0_3.length : Int)
       ·
        rw [if_pos c32] at H
        have c32b0 : decide (x5_2 < (l0_3.length : Int)) = true := decide_eq_true c32
        clear c32
        (first | rw [c32b0] | (simp only [i64_w, i32_w]; rw [c32b0]) | skip)
        have H' := Aside0.mk H
        clear H
        have hcz33_0 : wr.cell? ⟨gb291, 0, none⟩ = some (.slice A0_0 l0_0.length c0_0) := (blk_cell BK291.out 0).trans rfl
        have hcz33_1 : wr.cell? ⟨gb291, 1, none⟩ = some (.slice A0_1 l0_1.length c0_1) := (blk_cell BK291.out 1).trans rfl
        have hcz33_2 : wr.cell? ⟨gb291, 2, none⟩ = some (.slice A0_2 l0_2.length c0_2) := (blk_cell BK291.out 2).trans rfl
        have hcz33_3 : wr.cell? ⟨gb291, 3, none⟩ = some (.slice A0_3 l0_3.length c0_3) := (blk_cell BK291.out 3).trans rfl
        have hfz33_0 := blk_frozen BK291.out 0
        have hfz33_1 := blk_frozen BK291.out 1
        have hfz33_2 := blk_frozen BK291.out 2
        have hfz33_3 := blk_frozen BK291.out 3
        obtain ⟨Ao34, co34, eo34⟩ := Kd.R_slice HO_3.out
        subst eo34
        go_wp2
        go_meet
        case rel => exact ⟨_, (decide ((x3_2.length : Int) ≤ 262144)), (by first | rfl | (simp; done) | (simp [*]; done)), H', ⟨by have := HK1.out; have := HK2.out; first | omega | exact Nat.le_refl _⟩, ⟨by (with_reducible repeat (first | apply Kd.R_alloc | apply Kd.R_drewN | apply Kd.R_drew)); exact HO_3.out⟩, ⟨by (with_reducible repeat (first | refine blk_drewN ?_ _ | refine blk_drew ?_ | refine blk_alloc ?_ _)); exact BK291.out⟩, ⟨by repeat (first | (with_reducible first | exact HB.out | apply below_alloc | apply pw_below_drewN | apply below_drew1 | refine below_set ?_ GE291.out) | exact HB.out)⟩⟩
       ·
        rw [if_neg c32] at H
        have c32b0 : decide (x5_2 < (l0_3.length : Int)) = false := decide_eq_false c32
        clear c32
        (first | rw [c32b0] | (simp only [i64_w, i32_w]; rw [c32b0]) | skip)
        have H' := Aside0.mk H
        clear H
        have hcz35_0 : wr.cell? ⟨gb291, 0, none⟩ = some (.slice A0_0 l0_0.length c0_0) := (blk_cell BK291.out 0).trans rfl
        have hcz35_1 : wr.cell? ⟨gb291, 1, none⟩ = some (.slice A0_1 l0_1.length c0_1) := (blk_cell BK291.out 1).trans rfl
        have hcz35_2 : wr.cell? ⟨gb291, 2, none⟩ = some (.slice A0_2 l0_2.length c0_2) := (blk_cell BK291.out 2).trans rfl
        have hcz35_3 : wr.cell? ⟨gb291, 3, none⟩ = some (.slice A0_3 l0_3.length c0_3) := (blk_cell BK291.out 3).trans rfl
        have hfz35_0 := blk_frozen BK291.out 0
        have hfz35_1 := blk_frozen BK291.out 1
        have hfz35_2 := blk_frozen BK291.out 2
        have hfz35_3 := blk_frozen BK291.out 3
        go_wp2
        go_meet
        case rel => exact ⟨_, (false), (by first | rfl | (simp; done) | (simp [*]; done)), H', ⟨by have := HK1.out; have := HK2.out; first | omega | exact Nat.le_refl _⟩, ⟨by (with_reducible repeat (first | apply Kd.R_alloc | apply Kd.R_drewN | apply Kd.R_drew)); exact HO_3.out⟩, ⟨by (with_reducible repeat (first | refine blk_drewN ?_ _ | refine blk_drew ?_ | refine blk_alloc ?_ _)); exact BK291.out⟩, ⟨by repeat (first | (with_reducible first | exact HB.out | apply below_alloc | apply pw_below_drewN | apply below_drew1 | refine below_set ?_ GE291.out) | exact HB.out)⟩⟩
      case rest =>
       clear HC31
       try clear c1
       try clear p2
       try clear c3
       try clear p3
       try clear q3
       try clear hx3
       try clear p6
       try clear c8
       try clear c11
       try clear c13
       try clear c13b0
       try clear c14
       try clear c14b0
       try clear p30
       try clear q30
       try clear hx30
       try clear c32
       try clear c32b0
       try clear hcz10_0
       try clear hcz10_1
       try clear hcz10_2
       try clear hcz10_3
       try clear hcz17_0
       try clear hcz17_1
       try clear hcz17_2
       try clear hcz17_3
       try clear hcz20_0
       try clear hcz20_1
       try clear hcz20_2
       try clear hcz20_3
       try clear hcz25_0
       try clear hcz25_1
       try clear hcz25_2
       try clear hcz25_3
       try clear hcz28_0
       try clear hcz28_1
       try clear hcz28_2
       try clear hcz28_3
       try clear hcz33_0
       try clear hcz33_1
       try clear hcz33_2
       try clear hcz33_3
       try clear hcz35_0
       try clear hcz35_1
       try clear hcz35_2
       try clear hcz35_3
       try clear hcz7_0
       try clear hcz7_1
       try clear hcz7_2
       try clear hcz7_3
       try clear hfz10_0
       try clear hfz10_1
       try clear hfz10_2
       try clear hfz10_3
       try clear hfz17_0
       try clear hfz17_1
       try clear hfz17_2
       try clear hfz17_3
       try clear hfz20_0
       try clear hfz20_1
       try clear hfz20_2
       try clear hfz20_3
       try clear hfz25_0
       try clear hfz25_1
       try clear hfz25_2
       try clear hfz25_3
       try clear hfz28_0
       try clear hfz28_1
       try clear hfz28_2
       try clear hfz28_3
       try clear hfz33_0
       try clear hfz33_1
       try clear hfz33_2
       try clear hfz33_3
       try clear hfz35_0
       try clear hfz35_1
       try clear hfz35_2
       try clear hfz35_3
       try clear hfz7_0
       try clear hfz7_1
       try clear hfz7_2
       try clear hfz7_3
       try clear hx301_0
       try clear hx301_1
       try clear hx305_0
       try clear hx305_1
       try clear p2
       try clear p3
       try clear p30
       try clear p301
       try clear p305
       try clear p6
       try clear q3
       try clear q30
       try clear q301
       try clear q305
       obtain ⟨kq, x63_30, rfl, HA, HJ30, HO_3, BK291, HB⟩ := hcut
       cases kq with
       | zero => exact absurd HA.out (by simp [louverref12_Bytes.j2])
       | succ kj30 =>
        have H := HA.out
        clear HA
        simp only [louverref12_Bytes.j2] at H
        by_cases c36 : x63_30 = true
        ·
         subst c36
         have H1 : (if 0 ≤ x5_2 then (if x5_2 < (l0_3.length : Int) then ((louverref12_put.f kj30 x3_2 ((rd_T41 l0_3 x5_2).f0)).bind fun t320 => ((louverref12_labels.f kj30 t320 ((rd_T41 l0_3 x5_2).f1)).bind fun t323 => ((louverref12_labels.f kj30 t323 ((rd_T41 l0_3 x5_2).f2)).bind fun t326 => ((louverref12_put.f kj30 t326 (IntKind.u64.wrap ((rd_T41 l0_3 x5_2).f3))).bind fun t329 => ((louverref12_put.f kj30 t329 (IntKind.u64.wrap ((rd_T41 l0_3 x5_2).f4))).bind fun t332 => ((louverref12_put.f kj30 t332 (IntKind.u64.wrap ((((rd_T41 l0_3 x5_2).f5).length : Int)))).bind fun t335 => (louverref12_Bytes.l2 kj30 t335 x5_2 0 l0_0 l0_1 l0_2 l0_3 ((rd_T41 l0_3 x5_2).f0) ((rd_T41 l0_3 x5_2).f1) ((rd_T41 l0_3 x5_2).f2) ((rd_T41 l0_3 x5_2).f3) ((rd_T41 l0_3 x5_2).f4) ((rd_T41 l0_3 x5_2).f5)))))))) else (none)) else (none)) = some r := by rw [if_pos rfl] at H; exact H
         clear H
         have H := H1
         clear H1
         by_cases c37 : 0 ≤ x5_2
         ·
          rw [if_pos c37] at H
          have c37b0 : decide (0 ≤ x5_2) = true := decide_eq_true c37
          clear c37
          by_cases c38 : x5_2 < (l0_3.length : Int)
          ·
           rw [if_pos c38] at H
           have c38b0 : decide (x5_2 < (l0_3.length : Int)) = true := decide_eq_true c38
           clear c38
           replace H := Option.bind_eq_some_iff.mp H
           obtain ⟨t320, A390, H⟩ := H
           replace H : ((louverref12_labels.f kj30 t320 ((rd_T41 l0_3 x5_2).f1)).bind fun t323 => ((louverref12_labels.f kj30 t323 ((rd_T41 l0_3 x5_2).f2)).bind fun t326 => ((louverref12_put.f kj30 t326 (IntKind.u64.wrap ((rd_T41 l0_3 x5_2).f3))).bind fun t329 => ((louverref12_put.f kj30 t329 (IntKind.u64.wrap ((rd_T41 l0_3 x5_2).f4))).bind fun t332 => ((louverref12_put.f kj30 t332 (IntKind.u64.wrap ((((rd_T41 l0_3 x5_2).f5).length : Int)))).bind fun t335 => (louverref12_Bytes.l2 kj30 t335 x5_2 0 l0_0 l0_1 l0_2 l0_3 ((rd_T41 l0_3 x5_2).f0) ((rd_T41 l0_3 x5_2).f1) ((rd_T41 l0_3 x5_2).f2) ((rd_T41 l0_3 x5_2).f3) ((rd_T41 l0_3 x5_2).f4) ((rd_T41 l0_3 x5_2).f5))))))) = some r := H
           have A39 := Aside0.mk A390
           clear A390
           replace H := Option.bind_eq_some_iff.mp H
           obtain ⟨t323, A400, H⟩ := H
           replace H : ((louverref12_labels.f kj30 t323 ((rd_T41 l0_3 x5_2).f2)).bind fun t326 => ((louverref12_put.f kj30 t326 (IntKind.u64.wrap ((rd_T41 l0_3 x5_2).f3))).bind fun t329 => ((louverref12_put.f kj30 t329 (IntKind.u64.wrap ((rd_T41 l0_3 x5_2).f4))).bind fun t332 => ((louverref12_put.f kj30 t332 (IntKind.u64.wrap ((((rd_T41 l0_3 x5_2).f5).length : Int)))).bind fun t335 => (louverref12_Bytes.l2 kj30 t335 x5_2 0 l0_0 l0_1 l0_2 l0_3 ((rd_T41 l0_3 x5_2).f0) ((rd_T41 l0_3 x5_2).f1) ((rd_T41 l0_3 x5_2).f2) ((rd_T41 l0_3 x5_2).f3) ((rd_T41 l0_3 x5_2).f4) ((rd_T41 l0_3 x5_2).f5)))))) = some r := H
           have A40 := Aside0.mk A400
           clear A400
           replace H := Option.bind_eq_some_iff.mp H
           obtain ⟨t326, A410, H⟩ := H
           replace H : ((louverref12_put.f kj30 t326 (IntKind.u64.wrap ((rd_T41 l0_3 x5_2).f3))).bind fun t329 => ((louverref12_put.f kj30 t329 (IntKind.u64.wrap ((rd_T41 l0_3 x5_2).f4))).bind fun t332 => ((louverref12_put.f kj30 t332 (IntKind.u64.wrap ((((rd_T41 l0_3 x5_2).f5).length : Int)))).bind fun t335 => (louverref12_Bytes.l2 kj30 t335 x5_2 0 l0_0 l0_1 l0_2 l0_3 ((rd_T41 l0_3 x5_2).f0) ((rd_T41 l0_3 x5_2).f1) ((rd_T41 l0_3 x5_2).f2) ((rd_T41 l0_3 x5_2).f3) ((rd_T41 l0_3 x5_2).f4) ((rd_T41 l0_3 x5_2).f5))))) = some r := H
           have A41 := Aside0.mk A410
           clear A410
           replace H := Option.bind_eq_some_iff.mp H
           obtain ⟨t329, A420, H⟩ := H
           replace H : ((louverref12_put.f kj30 t329 (IntKind.u64.wrap ((rd_T41 l0_3 x5_2).f4))).bind fun t332 => ((louverref12_put.f kj30 t332 (IntKind.u64.wrap ((((rd_T41 l0_3 x5_2).f5).length : Int)))).bind fun t335 => (louverref12_Bytes.l2 kj30 t335 x5_2 0 l0_0 l0_1 l0_2 l0_3 ((rd_T41 l0_3 x5_2).f0) ((rd_T41 l0_3 x5_2).f1) ((rd_T41 l0_3 x5_2).f2) ((rd_T41 l0_3 x5_2).f3) ((rd_T41 l0_3 x5_2).f4) ((rd_T41 l0_3 x5_2).f5)))) = some r := H
           have A42 := Aside0.mk A420
           clear A420
           replace H := Option.bind_eq_some_iff.mp H
           obtain ⟨t332, A430, H⟩ := H
           replace H : ((louverref12_put.f kj30 t332 (IntKind.u64.wrap ((((rd_T41 l0_3 x5_2).f5).length : Int)))).bind fun t335 => (louverref12_Bytes.l2 kj30 t335 x5_2 0 l0_0 l0_1 l0_2 l0_3 ((rd_T41 l0_3 x5_2).f0) ((rd_T41 l0_3 x5_2).f1) ((rd_T41 l0_3 x5_2).f2) ((rd_T41 l0_3 x5_2).f3) ((rd_T41 l0_3 x5_2).f4) ((rd_T41 l0_3 x5_2).f5))) = some r := H
           have A43 := Aside0.mk A430
           clear A430
           replace H := Option.bind_eq_some_iff.mp H
           obtain ⟨t335, A440, H⟩ := H
           replace H : (louverref12_Bytes.l2 kj30 t335 x5_2 0 l0_0 l0_1 l0_2 l0_3 ((rd_T41 l0_3 x5_2).f0) ((rd_T41 l0_3 x5_2).f1) ((rd_T41 l0_3 x5_2).f2) ((rd_T41 l0_3 x5_2).f3) ((rd_T41 l0_3 x5_2).f4) ((rd_T41 l0_3 x5_2).f5)) = some r := H
           have A44 := Aside0.mk A440
           clear A440
           have H' := Aside0.mk H
           clear H
           have hcz45_0 : wc.cell? ⟨gb291, 0, none⟩ = some (.slice A0_0 l0_0.length c0_0) := (blk_cell BK291.out 0).trans rfl
           have hcz45_1 : wc.cell? ⟨gb291, 1, none⟩ = some (.slice A0_1 l0_1.length c0_1) := (blk_cell BK291.out 1).trans rfl
           have hcz45_2 : wc.cell? ⟨gb291, 2, none⟩ = some (.slice A0_2 l0_2.length c0_2) := (blk_cell BK291.out 2).trans rfl
           have hcz45_3 : wc.cell? ⟨gb291, 3, none⟩ = some (.slice A0_3 l0_3.length c0_3) := (blk_cell BK291.out 3).trans rfl
           have hfz45_0 := blk_frozen BK291.out 0
           have hfz45_1 := blk_frozen BK291.out 1
           have hfz45_2 := blk_frozen BK291.out 2
           have hfz45_3 := blk_frozen BK291.out 3
           have p318 : 0 ≤ (x5_2 : Int) := of_decide_eq_true (by first | (with_reducible assumption) | assumption)
           have q318 : x5_2 < (l0_3.length : Int) := of_decide_eq_true (by first | (with_reducible assumption) | assumption)
           obtain ⟨ad318, A318_1, c318_1, A318_2, c318_2, A318_5, c318_5, e318, hx318_0, hx318_1, hx318_2, hx318_3, hx318_4, hx318_5, hl318_1, hi318_1, hl318_2, hi318_2, hl318_5, hi318_5⟩ := at_T41 HR0_3.out x5_2 p318 q318
           cases e318
           replace hx318_0 := (HB.out.cell (World.block_lt_of_cell? w _ hx318_0)).trans hx318_0
           replace hx318_1 := (HB.out.cell (World.block_lt_of_cell? w _ hx318_1)).trans hx318_1
           replace hx318_2 := (HB.out.cell (World.block_lt_of_cell? w _ hx318_2)).trans hx318_2
           replace hx318_3 := (HB.out.cell (World.block_lt_of_cell? w _ hx318_3)).trans hx318_3
           replace hx318_4 := (HB.out.cell (World.block_lt_of_cell? w _ hx318_4)).trans hx318_4
           replace hx318_5 := (HB.out.cell (World.block_lt_of_cell? w _ hx318_5)).trans hx318_5
           have HR318_1 := Aside0.mk hi318_1
           have HC318_1 := Aside0.mk hl318_1
           clear hi318_1 hl318_1
           have HR318_2 := Aside0.mk hi318_2
           have HC318_2 := Aside0.mk hl318_2
           clear hi318_2 hl318_2
           have HR318_5 := Aside0.mk hi318_5
           have HC318_5 := Aside0.mk hl318_5
           clear hi318_5 hl318_5
           replace p318 := eq_true p318
           replace q318 := eq_true q318
           go_wp2_with (first | ((with_reducible refine gate_dst (N := 6) rfl ?_); (try (refine gate_guard (by rfl) ?_; dsimp only)); refine box_event ?hg (N := 6) ?hd (cs := #[.int .u64 0, .slice none 0 0, .slice none 0 0, .int .i64 0, .int .i64 0, .slice none 0 0]) (t := 41) ?hr ?_; (case hd => rfl); (case hg => rfl); (case hr => first | (go_simp; done) | (go_simp; rfl)); intro gb319 hg w46 hbox hb; have n0_ := Aside0.mk (Kd.R_below (by (with_reducible repeat (first | apply Kd.R_alloc | apply Kd.R_drewN | apply Kd.R_drew)); exact HO_3.out) hb); have n1_ := Aside0.mk (blk_below (g := gb291) (o := .cells #[.slice A0_0 l0_0.length c0_0, .slice A0_1 l0_1.length c0_1, .slice A0_2 l0_2.length c0_2, .slice (some ad318) l0_3.length c0_3] 26 (0, 0)) (by (with_reducible repeat (first | refine blk_drewN ?_ _ | refine blk_drew ?_ | refine blk_alloc ?_ _)); exact BK291.out) hb); have n2_ := Aside0.mk (below_step (by repeat (first | (with_reducible first | exact HB.out | apply below_alloc | apply pw_below_drewN | apply below_drew1 | refine below_set ?_ GE291.out) | exact HB.out)) hb); have n3_ := Aside0.mk (hbox); have n4_ := Aside0.mk ((by rw [hg]; exact (below_size (by repeat (first | (with_reducible first | exact HB.out | apply below_alloc | apply pw_below_drewN | apply below_drew1 | refine below_set ?_ GE291.out) | exact HB.out))) : w.heap.size ≤ gb319)); have n5_ := Aside0.mk ((by rw [hg]; exact (below_size (by repeat (first | (with_reducible first | exact HB.out | apply below_alloc | apply pw_below_drewN | apply below_drew1 | refine below_set ?_ GE291.out) | exact HB.out))) : w.heap.size ≤ gb319)); have n6_ := Aside0.mk ((by rw [hg]; exact Nat.ne_of_lt (blk_lt (g := gb291) (o := .cells #[.slice A0_0 l0_0.length c0_0, .slice A0_1 l0_1.length c0_1, .slice A0_2 l0_2.length c0_2, .slice (some ad318) l0_3.length c0_3] 26 (0, 0)) (by (with_reducible repeat (first | refine blk_drewN ?_ _ | refine blk_drew ?_ | refine blk_alloc ?_ _)); exact BK291.out)) : gb291 ≠ gb319)); have n7_ := Aside0.mk ((by rw [hg]; exact Nat.ne_of_gt (blk_lt (g := gb291) (o := .cells #[.slice A0_0 l0_0.length c0_0, .slice A0_1 l0_1.length c0_1, .slice A0_2 l0_2.length c0_2, .slice (some ad318) l0_3.length c0_3] 26 (0, 0)) (by (with_reducible repeat (first | refine blk_drewN ?_ _ | refine blk_drew ?_ | refine blk_alloc ?_ _)); exact BK291.out)) : gb319 ≠ gb291)); clear HO_3; clear BK291; clear HB; have HO_3 := n0_; have BK291 := n1_; have HB := n2_; have BK319 := n3_; have GW319 := n4_; have GE319 := n5_; have NB291_319 := n6_; have NB319_291 := n7_; clear n0_ n1_ n2_ n3_ n4_ n5_ n6_ n7_; clear hb hbox hg; have hnb47 := NB319_291.out; have hnc47 := NB291_319.out; have hcz48_0 : w46.cell? ⟨gb319, 0, none⟩ = some (.int .u64 0) := (blk_cell BK319.out 0).trans rfl; have hcz48_1 : w46.cell? ⟨gb319, 1, none⟩ = some (.slice none 0 0) := (blk_cell BK319.out 1).trans rfl; have hcz48_2 : w46.cell? ⟨gb319, 2, none⟩ = some (.slice none 0 0) := (blk_cell BK319.out 2).trans rfl; have hcz48_3 : w46.cell? ⟨gb319, 3, none⟩ = some (.int .i64 0) := (blk_cell BK319.out 3).trans rfl; have hcz48_4 : w46.cell? ⟨gb319, 4, none⟩ = some (.int .i64 0) := (blk_cell BK319.out 4).trans rfl; have hcz48_5 : w46.cell? ⟨gb319, 5, none⟩ = some (.slice none 0 0) := (blk_cell BK319.out 5).trans rfl; have hfz48_0 := blk_frozen BK319.out 0; have hfz48_1 := blk_frozen BK319.out 1; have hfz48_2 := blk_frozen BK319.out 2; have hfz48_3 := blk_frozen BK319.out 3; have hfz48_4 := blk_frozen BK319.out 4; have hfz48_5 := blk_frozen BK319.out 5) | ((with_reducible refine gate_store (t := 41) (p := 6) rfl ?_); refine store_event (t := 41) (p := 6) (v := ?vo_w49) (w1 := ((((((w46.setCell ⟨gb319, 0, none⟩ (.int .u64 ((rd_T41 l0_3 x5_2).f0))).setCell ⟨gb319, 1, none⟩ (.slice A318_1 ((rd_T41 l0_3 x5_2).f1).length c318_1)).setCell ⟨gb319, 2, none⟩ (.slice A318_2 ((rd_T41 l0_3 x5_2).f2).length c318_2)).setCell ⟨gb319, 3, none⟩ (.int .i64 ((rd_T41 l0_3 x5_2).f3))).setCell ⟨gb319, 4, none⟩ (.int .i64 ((rd_T41 l0_3 x5_2).f4))).setCell ⟨gb319, 5, none⟩ (.slice A318_5 ((rd_T41 l0_3 x5_2).f5).length c318_5))) ?hg ?ho ?hn ?hr ?_; (case ho => rfl); (case hg => rfl); (case hn => rfl); (case hr => first | (go_simp; done) | (go_simp; rfl)); intro w49 hw; have n0_ : Aside0 (Kd.R (Kd.int .u8) 5 w49 w.heap.size (fun _ => True) u3 x3_2) := ⟨(by rw [hw]; exact (by (with_reducible repeat (first | apply Kd.R_alloc | apply Kd.R_drewN | apply Kd.R_drew)); exact Kd.R_mono (Kd.R_far (p := ⟨gb319, 5, none⟩) (Kd.R_far (p := ⟨gb319, 4, none⟩) (Kd.R_far (p := ⟨gb319, 3, none⟩) (Kd.R_far (p := ⟨gb319, 2, none⟩) (Kd.R_far (p := ⟨gb319, 1, none⟩) (Kd.R_far (p := ⟨gb319, 0, none⟩) (Kd.R_types HO_3.out BK319.out (by decide)) (fun _ hk => hk.2) (.int .u64 ((rd_T41 l0_3 x5_2).f0))) (fun _ hk => hk.2) (.slice A318_1 ((rd_T41 l0_3 x5_2).f1).length c318_1)) (fun _ hk => hk.2) (.slice A318_2 ((rd_T41 l0_3 x5_2).f2).length c318_2)) (fun _ hk => hk.2) (.int .i64 ((rd_T41 l0_3 x5_2).f3))) (fun _ hk => hk.2) (.int .i64 ((rd_T41 l0_3 x5_2).f4))) (fun _ hk => hk.2) (.slice A318_5 ((rd_T41 l0_3 x5_2).f5).length c318_5)) (fun _ hk => trivial)))⟩; have n1_ : Aside0 (w49.heap[gb291]? = some (.cells #[.slice A0_0 l0_0.length c0_0, .slice A0_1 l0_1.length c0_1, .slice A0_2 l0_2.length c0_2, .slice (some ad318) l0_3.length c0_3] 26 (0, 0))) := ⟨(by rw [hw]; exact (by (with_reducible repeat (first | refine blk_drewN ?_ _ | refine blk_drew ?_ | refine blk_alloc ?_ _)); refine blk_far ?_ NB291_319.out _; (with_reducible repeat (first | refine blk_drewN ?_ _ | refine blk_drew ?_ | refine blk_alloc ?_ _)); refine blk_far ?_ NB291_319.out _; (with_reducible repeat (first | refine blk_drewN ?_ _ | refine blk_drew ?_ | refine blk_alloc ?_ _)); refine blk_far ?_ NB291_319.out _; (with_reducible repeat (first | refine blk_drewN ?_ _ | refine blk_drew ?_ | refine blk_alloc ?_ _)); refine blk_far ?_ NB291_319.out _; (with_reducible repeat (first | refine blk_drewN ?_ _ | refine blk_drew ?_ | refine blk_alloc ?_ _)); refine blk_far ?_ NB291_319.out _; (with_reducible repeat (first | refine blk_drewN ?_ _ | refine blk_drew ?_ | refine blk_alloc ?_ _)); refine blk_far ?_ NB291_319.out _; (with_reducible repeat (first | refine blk_drewN ?_ _ | refine blk_drew ?_ | refine blk_alloc ?_ _)); exact BK291.out))⟩; have n2_ : Aside0 (w49.heap[gb319]? = some (.cells #[.int .u64 ((rd_T41 l0_3 x5_2).f0), .slice A318_1 ((rd_T41 l0_3 x5_2).f1).length c318_1, .slice A318_2 ((rd_T41 l0_3 x5_2).f2).length c318_2, .int .i64 ((rd_T41 l0_3 x5_2).f3), .int .i64 ((rd_T41 l0_3 x5_2).f4), .slice A318_5 ((rd_T41 l0_3 x5_2).f5).length c318_5] 41 (0, 0))) := ⟨(by rw [hw]; exact (by (with_reducible repeat (first | refine blk_drewN ?_ _ | refine blk_drew ?_ | refine blk_alloc ?_ _)); refine blk_put (cs := #[.int .u64 ((rd_T41 l0_3 x5_2).f0), .slice A318_1 ((rd_T41 l0_3 x5_2).f1).length c318_1, .slice A318_2 ((rd_T41 l0_3 x5_2).f2).length c318_2, .int .i64 ((rd_T41 l0_3 x5_2).f3), .int .i64 ((rd_T41 l0_3 x5_2).f4), .slice none 0 0]) ?_ 5 _ rfl; (with_reducible repeat (first | refine blk_drewN ?_ _ | refine blk_drew ?_ | refine blk_alloc ?_ _)); refine blk_put (cs := #[.int .u64 ((rd_T41 l0_3 x5_2).f0), .slice A318_1 ((rd_T41 l0_3 x5_2).f1).length c318_1, .slice A318_2 ((rd_T41 l0_3 x5_2).f2).length c318_2, .int .i64 ((rd_T41 l0_3 x5_2).f3), .int .i64 0, .slice none 0 0]) ?_ 4 _ rfl; (with_reducible repeat (first | refine blk_drewN ?_ _ | refine blk_drew ?_ | refine blk_alloc ?_ _)); refine blk_put (cs := #[.int .u64 ((rd_T41 l0_3 x5_2).f0), .slice A318_1 ((rd_T41 l0_3 x5_2).f1).length c318_1, .slice A318_2 ((rd_T41 l0_3 x5_2).f2).length c318_2, .int .i64 0, .int .i64 0, .slice none 0 0]) ?_ 3 _ rfl; (with_reducible repeat (first | refine blk_drewN ?_ _ | refine blk_drew ?_ | refine blk_alloc ?_ _)); refine blk_put (cs := #[.int .u64 ((rd_T41 l0_3 x5_2).f0), .slice A318_1 ((rd_T41 l0_3 x5_2).f1).length c318_1, .slice none 0 0, .int .i64 0, .int .i64 0, .slice none 0 0]) ?_ 2 _ rfl; (with_reducible repeat (first | refine blk_drewN ?_ _ | refine blk_drew ?_ | refine blk_alloc ?_ _)); refine blk_put (cs := #[.int .u64 ((rd_T41 l0_3 x5_2).f0), .slice none 0 0, .slice none 0 0, .int .i64 0, .int .i64 0, .slice none 0 0]) ?_ 1 _ rfl; (with_reducible repeat (first | refine blk_drewN ?_ _ | refine blk_drew ?_ | refine blk_alloc ?_ _)); refine blk_put (cs := #[.int .u64 0, .slice none 0 0, .slice none 0 0, .int .i64 0, .int .i64 0, .slice none 0 0]) ?_ 0 _ rfl; (with_reducible repeat (first | refine blk_drewN ?_ _ | refine blk_drew ?_ | refine blk_alloc ?_ _)); exact BK319.out))⟩; have n3_ : Aside0 (Below w.heap.size w w49) := ⟨(by rw [hw]; exact (by repeat (first | (with_reducible first | exact HB.out | apply below_alloc | apply pw_below_drewN | apply below_drew1 | refine below_set ?_ GE291.out | refine below_set ?_ GE319.out) | exact HB.out)))⟩; clear hw; clear HO_3; clear BK291; clear BK319; clear HB; have HO_3 := n0_; have BK291 := n1_; have BK319 := n2_; have HB := n3_; clear n0_ n1_ n2_ n3_; have hcz50_0 : w49.cell? ⟨gb319, 0, none⟩ = some (.int .u64 ((rd_T41 l0_3 x5_2).f0)) := (blk_cell BK319.out 0).trans rfl; have hcz50_1 : w49.cell? ⟨gb319, 1, none⟩ = some (.slice A318_1 ((rd_T41 l0_3 x5_2).f1).length c318_1) := (blk_cell BK319.out 1).trans rfl; have hcz50_2 : w49.cell? ⟨gb319, 2, none⟩ = some (.slice A318_2 ((rd_T41 l0_3 x5_2).f2).length c318_2) := (blk_cell BK319.out 2).trans rfl; have hcz50_3 : w49.cell? ⟨gb319, 3, none⟩ = some (.int .i64 ((rd_T41 l0_3 x5_2).f3)) := (blk_cell BK319.out 3).trans rfl; have hcz50_4 : w49.cell? ⟨gb319, 4, none⟩ = some (.int .i64 ((rd_T41 l0_3 x5_2).f4)) := (blk_cell BK319.out 4).trans rfl; have hcz50_5 : w49.cell? ⟨gb319, 5, none⟩ = some (.slice A318_5 ((rd_T41 l0_3 x5_2).f5).length c318_5) := (blk_cell BK319.out 5).trans rfl; have hfz50_0 := blk_frozen BK319.out 0; have hfz50_1 := blk_frozen BK319.out 1; have hfz50_2 := blk_frozen BK319.out 2; have hfz50_3 := blk_frozen BK319.out 3; have hfz50_4 := blk_frozen BK319.out 4; have hfz50_5 := blk_frozen BK319.out 5; obtain ⟨Ao51, co51, eo51⟩ := Kd.R_slice HO_3.out; subst eo51) | ((with_reducible refine gate_callee (f := 117) rfl ?_); refine goesL_ (some 74) rfl rfl Tryd.func117 (by kernel_rfl) rfl #[.slice Ao51 x3_2.length co51, .int .u64 ((rd_T41 l0_3 x5_2).f0)] rfl (by (try simp only [List.map_toArray, List.map_cons, List.map_nil]); first | done | rfl | (simp only [List.length_drop, List.length_take]; rfl)) ?_; (with_reducible refine (louverref12_put.calls kj30 (fun k_ => some k_ = (.slice Ao51 x3_2.length co51 : Value).ownBlock) (.slice Ao51 x3_2.length co51) x3_2 ((rd_T41 l0_3 x5_2).f0) t320 w _ ?side1 ?side2 A39.out).mono ?_); (case side1 => repeat (first | (with_reducible first | exact HB.out | apply below_alloc | apply pw_below_drewN | apply below_drew1 | refine below_set ?_ GE291.out | refine below_set ?_ GE319.out) | exact HB.out)); (case side2 => exact Kd.R_tight rfl HO_3.out); rintro e w52 ⟨v321, rfl, ho0, hb, hkp⟩; refine ⟨_, rfl, ?_⟩; have n0_ := Aside0.mk (blk_kept (by (with_reducible repeat (first | refine blk_drewN ?_ _ | refine blk_drew ?_ | refine blk_alloc ?_ _)); exact BK291.out) hkp (fun hs_ => (fun e_ => (Kd.R_ne HO_3.out BK291.out (by decide)) e_) hs_)); have n1_ := Aside0.mk (blk_kept (by (with_reducible repeat (first | refine blk_drewN ?_ _ | refine blk_drew ?_ | refine blk_alloc ?_ _)); exact BK319.out) hkp (fun hs_ => (fun e_ => (Kd.R_ne HO_3.out BK319.out (by decide)) e_) hs_)); have n2_ := Aside0.mk (Kd.R_mono (ok' := fun k_ => True) ho0 (fun k_ hk_ => trivial)); have n3_ := Aside0.mk (hb); clear BK291; clear BK319; clear HB; clear HO_3; have BK291 := n0_; have BK319 := n1_; have HO322 := n2_; have HB := n3_; clear n0_ n1_ n2_ n3_; (try clear hb); (try clear hkp); (try clear ho0); have hcz53_0 : w52.cell? ⟨gb319, 0, none⟩ = some (.int .u64 ((rd_T41 l0_3 x5_2).f0)) := (blk_cell BK319.out 0).trans rfl; have hcz53_1 : w52.cell? ⟨gb319, 1, none⟩ = some (.slice A318_1 ((rd_T41 l0_3 x5_2).f1).length c318_1) := (blk_cell BK319.out 1).trans rfl; have hcz53_2 : w52.cell? ⟨gb319, 2, none⟩ = some (.slice A318_2 ((rd_T41 l0_3 x5_2).f2).length c318_2) := (blk_cell BK319.out 2).trans rfl; have hcz53_3 : w52.cell? ⟨gb319, 3, none⟩ = some (.int .i64 ((rd_T41 l0_3 x5_2).f3)) := (blk_cell BK319.out 3).trans rfl; have hcz53_4 : w52.cell? ⟨gb319, 4, none⟩ = some (.int .i64 ((rd_T41 l0_3 x5_2).f4)) := (blk_cell BK319.out 4).trans rfl; have hcz53_5 : w52.cell? ⟨gb319, 5, none⟩ = some (.slice A318_5 ((rd_T41 l0_3 x5_2).f5).length c318_5) := (blk_cell BK319.out 5).trans rfl; have hfz53_0 := blk_frozen BK319.out 0; have hfz53_1 := blk_frozen BK319.out 1; have hfz53_2 := blk_frozen BK319.out 2; have hfz53_3 := blk_frozen BK319.out 3; have hfz53_4 := blk_frozen BK319.out 4; have hfz53_5 := blk_frozen BK319.out 5; obtain ⟨Ao54, co54, eo54⟩ := Kd.R_slice HO322.out; subst eo54) | ((with_reducible refine gate_callee (f := 116) rfl ?_); refine goesL_ (some 78) rfl rfl Tryd.func116 (by kernel_rfl) rfl #[.slice Ao54 t320.length co54, .slice A318_1 ((rd_T41 l0_3 x5_2).f1).length c318_1] rfl (by (try simp only [List.map_toArray, List.map_cons, List.map_nil]); first | done | rfl | (simp only [List.length_drop, List.length_take]; rfl)) ?_; (with_reducible refine (louverref12_labels.calls kj30 (fun k_ => some k_ = (.slice Ao54 t320.length co54 : Value).ownBlock) (.slice Ao54 t320.length co54) t320 _ _ ((rd_T41 l0_3 x5_2).f1) t323 w _ ?side1 ?side2 ?side3 ?side4 A40.out).mono ?_); (case side1 => repeat (first | (with_reducible first | exact HB.out | apply below_alloc | apply pw_below_drewN | apply below_drew1 | refine below_set ?_ GE291.out | refine below_set ?_ GE319.out) | exact HB.out)); (case side2 => exact Kd.R_tight rfl HO322.out); (case side3 => exact Kd.C_kept_came (Kd.heap_int .u64) HR318_1.out (by repeat (first | (with_reducible first | exact HB.out | apply below_alloc | apply pw_below_drewN | apply below_drew1 | refine below_set ?_ GE291.out | refine below_set ?_ GE319.out) | exact HB.out)) (fun k_ hs_ => (fun e_ => Kd.R_base HO322.out k_ e_.symm) hs_)); (case side4 => exact HC318_1.out); rintro e w55 ⟨v324, rfl, ho0, hb, hkp⟩; refine ⟨_, rfl, ?_⟩; have n0_ := Aside0.mk (blk_kept (by (with_reducible repeat (first | refine blk_drewN ?_ _ | refine blk_drew ?_ | refine blk_alloc ?_ _)); exact BK291.out) hkp (fun hs_ => (fun e_ => (Kd.R_ne HO322.out BK291.out (by decide)) e_) hs_)); have n1_ := Aside0.mk (blk_kept (by (with_reducible repeat (first | refine blk_drewN ?_ _ | refine blk_drew ?_ | refine blk_alloc ?_ _)); exact BK319.out) hkp (fun hs_ => (fun e_ => (Kd.R_ne HO322.out BK319.out (by decide)) e_) hs_)); have n2_ := Aside0.mk (Kd.R_mono (ok' := fun k_ => True) ho0 (fun k_ hk_ => trivial)); have n3_ := Aside0.mk (hb); clear BK291; clear BK319; clear HB; clear HO322; have BK291 := n0_; have BK319 := n1_; have HO325 := n2_; have HB := n3_; clear n0_ n1_ n2_ n3_; (try clear hb); (try clear hkp); (try clear ho0); have hcz56_0 : w55.cell? ⟨gb319, 0, none⟩ = some (.int .u64 ((rd_T41 l0_3 x5_2).f0)) := (blk_cell BK319.out 0).trans rfl; have hcz56_1 : w55.cell? ⟨gb319, 1, none⟩ = some (.slice A318_1 ((rd_T41 l0_3 x5_2).f1).length c318_1) := (blk_cell BK319.out 1).trans rfl; have hcz56_2 : w55.cell? ⟨gb319, 2, none⟩ = some (.slice A318_2 ((rd_T41 l0_3 x5_2).f2).length c318_2) := (blk_cell BK319.out 2).trans rfl; have hcz56_3 : w55.cell? ⟨gb319, 3, none⟩ = some (.int .i64 ((rd_T41 l0_3 x5_2).f3)) := (blk_cell BK319.out 3).trans rfl; have hcz56_4 : w55.cell? ⟨gb319, 4, none⟩ = some (.int .i64 ((rd_T41 l0_3 x5_2).f4)) := (blk_cell BK319.out 4).trans rfl; have hcz56_5 : w55.cell? ⟨gb319, 5, none⟩ = some (.slice A318_5 ((rd_T41 l0_3 x5_2).f5).length c318_5) := (blk_cell BK319.out 5).trans rfl; have hfz56_0 := blk_frozen BK319.out 0; have hfz56_1 := blk_frozen BK319.out 1; have hfz56_2 := blk_frozen BK319.out 2; have hfz56_3 := blk_frozen BK319.out 3; have hfz56_4 := blk_frozen BK319.out 4; have hfz56_5 := blk_frozen BK319.out 5; obtain ⟨Ao57, co57, eo57⟩ := Kd.R_slice HO325.out; subst eo57) | ((with_reducible refine gate_callee (f := 116) rfl ?_); refine goesL_ (some 82) rfl rfl Tryd.func116 (by kernel_rfl) rfl #[.slice Ao57 t323.length co57, .slice A318_2 ((rd_T41 l0_3 x5_2).f2).length c318_2] rfl (by (try simp only [List.map_toArray, List.map_cons, List.map_nil]); first | done | rfl | (simp only [List.length_drop, List.length_take]; rfl)) ?_; (with_reducible refine (louverref12_labels.calls kj30 (fun k_ => some k_ = (.slice Ao57 t323.length co57 : Value).ownBlock) (.slice Ao57 t323.length co57) t323 _ _ ((rd_T41 l0_3 x5_2).f2) t326 w _ ?side1 ?side2 ?side3 ?side4 A41.out).mono ?_); (case side1 => repeat (first | (with_reducible first | exact HB.out | apply below_alloc | apply pw_below_drewN | apply below_drew1 | refine below_set ?_ GE291.out | refine below_set ?_ GE319.out) | exact HB.out)); (case side2 => exact Kd.R_tight rfl HO325.out); (case side3 => exact Kd.C_kept_came (Kd.heap_int .u64) HR318_2.out (by repeat (first | (with_reducible first | exact HB.out | apply below_alloc | apply pw_below_drewN | apply below_drew1 | refine below_set ?_ GE291.out | refine below_set ?_ GE319.out) | exact HB.out)) (fun k_ hs_ => (fun e_ => Kd.R_base HO325.out k_ e_.symm) hs_)); (case side4 => exact HC318_2.out); rintro e w58 ⟨v327, rfl, ho0, hb, hkp⟩; refine ⟨_, rfl, ?_⟩; have n0_ := Aside0.mk (blk_kept (by (with_reducible repeat (first | refine blk_drewN ?_ _ | refine blk_drew ?_ | refine blk_alloc ?_ _)); exact BK291.out) hkp (fun hs_ => (fun e_ => (Kd.R_ne HO325.out BK291.out (by decide)) e_) hs_)); have n1_ := Aside0.mk (blk_kept (by (with_reducible repeat (first | refine blk_drewN ?_ _ | refine blk_drew ?_ | refine blk_alloc ?_ _)); exact BK319.out) hkp (fun hs_ => (fun e_ => (Kd.R_ne HO325.out BK319.out (by decide)) e_) hs_)); have n2_ := Aside0.mk (Kd.R_mono (ok' := fun k_ => True) ho0 (fun k_ hk_ => trivial)); have n3_ := Aside0.mk (hb); clear BK291; clear BK319; clear HB; clear HO325; have BK291 := n0_; have BK319 := n1_; have HO328 := n2_; have HB := n3_; clear n0_ n1_ n2_ n3_; (try clear hb); (try clear hkp); (try clear ho0); have hcz59_0 : w58.cell? ⟨gb319, 0, none⟩ = some (.int .u64 ((rd_T41 l0_3 x5_2).f0)) := (blk_cell BK319.out 0).trans rfl; have hcz59_1 : w58.cell? ⟨gb319, 1, none⟩ = some (.slice A318_1 ((rd_T41 l0_3 x5_2).f1).length c318_1) := (blk_cell BK319.out 1).trans rfl; have hcz59_2 : w58.cell? ⟨gb319, 2, none⟩ = some (.slice A318_2 ((rd_T41 l0_3 x5_2).f2).length c318_2) := (blk_cell BK319.out 2).trans rfl; have hcz59_3 : w58.cell? ⟨gb319, 3, none⟩ = some (.int .i64 ((rd_T41 l0_3 x5_2).f3)) := (blk_cell BK319.out 3).trans rfl; have hcz59_4 : w58.cell? ⟨gb319, 4, none⟩ = some (.int .i64 ((rd_T41 l0_3 x5_2).f4)) := (blk_cell BK319.out 4).trans rfl; have hcz59_5 : w58.cell? ⟨gb319, 5, none⟩ = some (.slice A318_5 ((rd_T41 l0_3 x5_2).f5).length c318_5) := (blk_cell BK319.out 5).trans rfl; have hfz59_0 := blk_frozen BK319.out 0; have hfz59_1 := blk_frozen BK319.out 1; have hfz59_2 := blk_frozen BK319.out 2; have hfz59_3 := blk_frozen BK319.out 3; have hfz59_4 := blk_frozen BK319.out 4; have hfz59_5 := blk_frozen BK319.out 5; obtain ⟨Ao60, co60, eo60⟩ := Kd.R_slice HO328.out; subst eo60) | ((with_reducible refine gate_callee (f := 117) rfl ?_); refine goesL_ (some 87) rfl rfl Tryd.func117 (by kernel_rfl) rfl #[.slice Ao60 t326.length co60, .int .u64 (IntKind.u64.wrap ((rd_T41 l0_3 x5_2).f3))] rfl (by (try simp only [List.map_toArray, List.map_cons, List.map_nil]); first | done | rfl | (simp only [List.length_drop, List.length_take]; rfl)) ?_; (with_reducible refine (louverref12_put.calls kj30 (fun k_ => some k_ = (.slice Ao60 t326.length co60 : Value).ownBlock) (.slice Ao60 t326.length co60) t326 (IntKind.u64.wrap ((rd_T41 l0_3 x5_2).f3)) t329 w _ ?side1 ?side2 A42.out).mono ?_); (case side1 => repeat (first | (with_reducible first | exact HB.out | apply below_alloc | apply pw_below_drewN | apply below_drew1 | refine below_set ?_ GE291.out | refine below_set ?_ GE319.out) | exact HB.out)); (case side2 => exact Kd.R_tight rfl HO328.out); rintro e w61 ⟨v330, rfl, ho0, hb, hkp⟩; refine ⟨_, rfl, ?_⟩; have n0_ := Aside0.mk (blk_kept (by (with_reducible repeat (first | refine blk_drewN ?_ _ | refine blk_drew ?_ | refine blk_alloc ?_ _)); exact BK291.out) hkp (fun hs_ => (fun e_ => (Kd.R_ne HO328.out BK291.out (by decide)) e_) hs_)); have n1_ := Aside0.mk (blk_kept (by (with_reducible repeat (first | refine blk_drewN ?_ _ | refine blk_drew ?_ | refine blk_alloc ?_ _)); exact BK319.out) hkp (fun hs_ => (fun e_ => (Kd.R_ne HO328.out BK319.out (by decide)) e_) hs_)); have n2_ := Aside0.mk (Kd.R_mono (ok' := fun k_ => True) ho0 (fun k_ hk_ => trivial)); have n3_ := Aside0.mk (hb); clear BK291; clear BK319; clear HB; clear HO328; have BK291 := n0_; have BK319 := n1_; have HO331 := n2_; have HB := n3_; clear n0_ n1_ n2_ n3_; (try clear hb); (try clear hkp); (try clear ho0); have hcz62_0 : w61.cell? ⟨gb319, 0, none⟩ = some (.int .u64 ((rd_T41 l0_3 x5_2).f0)) := (blk_cell BK319.out 0).trans rfl; have hcz62_1 : w61.cell? ⟨gb319, 1, none⟩ = some (.slice A318_1 ((rd_T41 l0_3 x5_2).f1).length c318_1) := (blk_cell BK319.out 1).trans rfl; have hcz62_2 : w61.cell? ⟨gb319, 2, none⟩ = some (.slice A318_2 ((rd_T41 l0_3 x5_2).f2).length c318_2) := (blk_cell BK319.out 2).trans rfl; have hcz62_3 : w61.cell? ⟨gb319, 3, none⟩ = some (.int .i64 ((rd_T41 l0_3 x5_2).f3)) := (blk_cell BK319.out 3).trans rfl; have hcz62_4 : w61.cell? ⟨gb319, 4, none⟩ = some (.int .i64 ((rd_T41 l0_3 x5_2).f4)) := (blk_cell BK319.out 4).trans rfl; have hcz62_5 : w61.cell? ⟨gb319, 5, none⟩ = some (.slice A318_5 ((rd_T41 l0_3 x5_2).f5).length c318_5) := (blk_cell BK319.out 5).trans rfl; have hfz62_0 := blk_frozen BK319.out 0; have hfz62_1 := blk_frozen BK319.out 1; have hfz62_2 := blk_frozen BK319.out 2; have hfz62_3 := blk_frozen BK319.out 3; have hfz62_4 := blk_frozen BK319.out 4; have hfz62_5 := blk_frozen BK319.out 5; obtain ⟨Ao63, co63, eo63⟩ := Kd.R_slice HO331.out; subst eo63) | ((with_reducible refine gate_callee (f := 117) rfl ?_); refine goesL_ (some 92) rfl rfl Tryd.func117 (by kernel_rfl) rfl #[.slice Ao63 t329.length co63, .int .u64 (IntKind.u64.wrap ((rd_T41 l0_3 x5_2).f4))] rfl (by (try simp only [List.map_toArray, List.map_cons, List.map_nil]); first | done | rfl | (simp only [List.length_drop, List.length_take]; rfl)) ?_; (with_reducible refine (louverref12_put.calls kj30 (fun k_ => some k_ = (.slice Ao63 t329.length co63 : Value).ownBlock) (.slice Ao63 t329.length co63) t329 (IntKind.u64.wrap ((rd_T41 l0_3 x5_2).f4)) t332 w _ ?side1 ?side2 A43.out).mono ?_); (case side1 => repeat (first | (with_reducible first | exact HB.out | apply below_alloc | apply pw_below_drewN | apply below_drew1 | refine below_set ?_ GE291.out | refine below_set ?_ GE319.out) | exact HB.out)); (case side2 => exact Kd.R_tight rfl HO331.out); rintro e w64 ⟨v333, rfl, ho0, hb, hkp⟩; refine ⟨_, rfl, ?_⟩; have n0_ := Aside0.mk (blk_kept (by (with_reducible repeat (first | refine blk_drewN ?_ _ | refine blk_drew ?_ | refine blk_alloc ?_ _)); exact BK291.out) hkp (fun hs_ => (fun e_ => (Kd.R_ne HO331.out BK291.out (by decide)) e_) hs_)); have n1_ := Aside0.mk (blk_kept (by (with_reducible repeat (first | refine blk_drewN ?_ _ | refine blk_drew ?_ | refine blk_alloc ?_ _)); exact BK319.out) hkp (fun hs_ => (fun e_ => (Kd.R_ne HO331.out BK319.out (by decide)) e_) hs_)); have n2_ := Aside0.mk (Kd.R_mono (ok' := fun k_ => True) ho0 (fun k_ hk_ => trivial)); have n3_ := Aside0.mk (hb); clear BK291; clear BK319; clear HB; clear HO331; have BK291 := n0_; have BK319 := n1_; have HO334 := n2_; have HB := n3_; clear n0_ n1_ n2_ n3_; (try clear hb); (try clear hkp); (try clear ho0); have hcz65_0 : w64.cell? ⟨gb319, 0, none⟩ = some (.int .u64 ((rd_T41 l0_3 x5_2).f0)) := (blk_cell BK319.out 0).trans rfl; have hcz65_1 : w64.cell? ⟨gb319, 1, none⟩ = some (.slice A318_1 ((rd_T41 l0_3 x5_2).f1).length c318_1) := (blk_cell BK319.out 1).trans rfl; have hcz65_2 : w64.cell? ⟨gb319, 2, none⟩ = some (.slice A318_2 ((rd_T41 l0_3 x5_2).f2).length c318_2) := (blk_cell BK319.out 2).trans rfl; have hcz65_3 : w64.cell? ⟨gb319, 3, none⟩ = some (.int .i64 ((rd_T41 l0_3 x5_2).f3)) := (blk_cell BK319.out 3).trans rfl; have hcz65_4 : w64.cell? ⟨gb319, 4, none⟩ = some (.int .i64 ((rd_T41 l0_3 x5_2).f4)) := (blk_cell BK319.out 4).trans rfl; have hcz65_5 : w64.cell? ⟨gb319, 5, none⟩ = some (.slice A318_5 ((rd_T41 l0_3 x5_2).f5).length c318_5) := (blk_cell BK319.out 5).trans rfl; have hfz65_0 := blk_frozen BK319.out 0; have hfz65_1 := blk_frozen BK319.out 1; have hfz65_2 := blk_frozen BK319.out 2; have hfz65_3 := blk_frozen BK319.out 3; have hfz65_4 := blk_frozen BK319.out 4; have hfz65_5 := blk_frozen BK319.out 5; obtain ⟨Ao66, co66, eo66⟩ := Kd.R_slice HO334.out; subst eo66) | ((with_reducible refine gate_callee (f := 117) rfl ?_); refine goesL_ (some 98) rfl rfl Tryd.func117 (by kernel_rfl) rfl #[.slice Ao66 t332.length co66, .int .u64 (IntKind.u64.wrap ((((rd_T41 l0_3 x5_2).f5).length : Int)))] rfl (by (try simp only [List.map_toArray, List.map_cons, List.map_nil]); first | done | rfl | (simp only [List.length_drop, List.length_take]; rfl)) ?_; (with_reducible refine (louverref12_put.calls kj30 (fun k_ => some k_ = (.slice Ao66 t332.length co66 : Value).ownBlock) (.slice Ao66 t332.length co66) t332 (IntKind.u64.wrap ((((rd_T41 l0_3 x5_2).f5).length : Int))) t335 w _ ?side1 ?side2 A44.out).mono ?_); (case side1 => repeat (first | (with_reducible first | exact HB.out | apply below_alloc | apply pw_below_drewN | apply below_drew1 | refine below_set ?_ GE291.out | refine below_set ?_ GE319.out) | exact HB.out)); (case side2 => exact Kd.R_tight rfl HO334.out); rintro e w67 ⟨v336, rfl, ho0, hb, hkp⟩; refine ⟨_, rfl, ?_⟩; have n0_ := Aside0.mk (blk_kept (by (with_reducible repeat (first | refine blk_drewN ?_ _ | refine blk_drew ?_ | refine blk_alloc ?_ _)); exact BK291.out) hkp (fun hs_ => (fun e_ => (Kd.R_ne HO334.out BK291.out (by decide)) e_) hs_)); have n1_ := Aside0.mk (blk_kept (by (with_reducible repeat (first | refine blk_drewN ?_ _ | refine blk_drew ?_ | refine blk_alloc ?_ _)); exact BK319.out) hkp (fun hs_ => (fun e_ => (Kd.R_ne HO334.out BK319.out (by decide)) e_) hs_)); have n2_ := Aside0.mk (Kd.R_mono (ok' := fun k_ => True) ho0 (fun k_ hk_ => trivial)); have n3_ := Aside0.mk (hb); clear BK291; clear BK319; clear HB; clear HO334; have BK291 := n0_; have BK319 := n1_; have HO337 := n2_; have HB := n3_; clear n0_ n1_ n2_ n3_; (try clear hb); (try clear hkp); (try clear ho0)))
           go_loopg [3, 7] kj30 (fun kq v3 v7 w' => ∃ (x3_4 : List Int) (x7_4 : Int), v7 = .int .i64 x7_4 ∧ Aside0 (louverref12_Bytes.l2 kq x3_4 x5_2 x7_4 l0_0 l0_1 l0_2 l0_3 ((rd_T41 l0_3 x5_2).f0) ((rd_T41 l0_3 x5_2).f1) ((rd_T41 l0_3 x5_2).f2) ((rd_T41 l0_3 x5_2).f3) ((rd_T41 l0_3 x5_2).f4) ((rd_T41 l0_3 x5_2).f5) = some r) ∧ Aside0 (kq ≤ kj30) ∧ Aside0 (Kd.R (Kd.int .u8) 5 w' w.heap.size (fun _ => True) v3 x3_4) ∧ Aside0 (w'.heap[gb291]? = some (.cells #[(.slice A0_0 l0_0.length c0_0), (.slice A0_1 l0_1.length c0_1), (.slice A0_2 l0_2.length c0_2), (.slice (some ad318) l0_3.length c0_3)] 26 (0, 0))) ∧ Aside0 (w'.heap[gb319]? = some (.cells #[.int .u64 ((rd_T41 l0_3 x5_2).f0), (.slice A318_1 ((rd_T41 l0_3 x5_2).f1).length c318_1), (.slice A318_2 ((rd_T41 l0_3 x5_2).f2).length c318_2), .int .i64 ((rd_T41 l0_3 x5_2).f3), .int .i64 ((rd_T41 l0_3 x5_2).f4), (.slice A318_5 ((rd_T41 l0_3 x5_2).f5).length c318_5)] 41 (0, 0))) ∧ Aside0 (Below w.heap.size w w'))
           case atStart => exact ⟨(t335), (0), (by first | rfl | (simp; done) | (simp [*]; done)), H', ⟨Nat.le_refl _⟩, ⟨by (with_reducible repeat (first | apply Kd.R_alloc | apply Kd.R_drewN | apply Kd.R_drew)); exact HO337.out⟩, ⟨by (with_reducible repeat (first | refine blk_drewN ?_ _ | refine blk_drew ?_ | refine blk_alloc ?_ _)); exact BK291.out⟩, ⟨by (with_reducible repeat (first | refine blk_drewN ?_ _ | refine blk_drew ?_ | refine blk_alloc ?_ _)); exact BK319.out⟩, ⟨by repeat (first | (with_reducible first | exact HB.out | apply below_alloc | apply pw_below_drewN | apply below_drew1 | refine below_set ?_ GE291.out | refine below_set ?_ GE319.out) | exact HB.out)⟩⟩
           case round =>
            clear H'
            try clear c1
            try clear p2
            try clear c3
            try clear p3
            try clear q3
            try clear hx3
            try clear c4
            try clear p6
            try clear c8
            try clear c11
            try clear c13
            try clear c13b0
            try clear c14
            try clear c14b0
            try clear p30
            try clear q30
            try clear hx30
            try clear c31
            try clear p31
            try clear q31
            try clear hx31
            try clear c32
            try clear c32b0
            try clear c36
            try clear c37
            try clear c37b0
            try clear c38
            try clear c38b0
            try clear c47
            try clear p64
            try clear hcz10_0
            try clear hcz10_1
            try clear hcz10_2
            try clear hcz10_3
            try clear hcz17_0
            try clear hcz17_1
            try clear hcz17_2
            try clear hcz17_3
            try clear hcz20_0
            try clear hcz20_1
            try clear hcz20_2
            try clear hcz20_3
            try clear hcz25_0
            try clear hcz25_1
            try clear hcz25_2
            try clear hcz25_3
            try clear hcz28_0
            try clear hcz28_1
            try clear hcz28_2
            try clear hcz28_3
            try clear hcz33_0
            try clear hcz33_1
            try clear hcz33_2
            try clear hcz33_3
            try clear hcz35_0
            try clear hcz35_1
            try clear hcz35_2
            try clear hcz35_3
            try clear hcz45_0
            try clear hcz45_1
            try clear hcz45_2
            try clear hcz45_3
            try clear hcz48_0
            try clear hcz48_1
            try clear hcz48_2
            try clear hcz48_3
            try clear hcz48_4
            try clear hcz48_5
            try clear hcz50_0
            try clear hcz50_1
            try clear hcz50_2
            try clear hcz50_3
            try clear hcz50_4
            try clear hcz50_5
            try clear hcz53_0
            try clear hcz53_1
            try clear hcz53_2
            try clear hcz53_3
            try clear hcz53_4
            try clear hcz53_5
            try clear hcz56_0
            try clear hcz56_1
            try clear hcz56_2
            try clear hcz56_3
            try clear hcz56_4
            try clear hcz56_5
            try clear hcz59_0
            try clear hcz59_1
            try clear hcz59_2
            try clear hcz59_3
            try clear hcz59_4
            try clear hcz59_5
            try clear hcz62_0
            try clear hcz62_1
            try clear hcz62_2
            try clear hcz62_3
            try clear hcz62_4
            try clear hcz62_5
            try clear hcz65_0
            try clear hcz65_1
            try clear hcz65_2
            try clear hcz65_3
            try clear hcz65_4
            try clear hcz65_5
            try clear hcz7_0
            try clear hcz7_1
            try clear hcz7_2
            try clear hcz7_3
            try clear hfz10_0
            try clear hfz10_1
            try clear hfz10_2
            try clear hfz10_3
            try clear hfz17_0
            try clear hfz17_1
            try clear hfz17_2
            try clear hfz17_3
            try clear hfz20_0
            try clear hfz20_1
            try clear hfz20_2
            try clear hfz20_3
            try clear hfz25_0
            try clear hfz25_1
            try clear hfz25_2
            try clear hfz25_3
            try clear hfz28_0
            try clear hfz28_1
            try clear hfz28_2
            try clear hfz28_3
            try clear hfz33_0
            try clear hfz33_1
            try clear hfz33_2
            try clear hfz33_3
            try clear hfz35_0
            try clear hfz35_1
            try clear hfz35_2
            try clear hfz35_3
            try clear hfz45_0
            try clear hfz45_1
            try clear hfz45_2
            try clear hfz45_3
            try clear hfz48_0
            try clear hfz48_1
            try clear hfz48_2
            try clear hfz48_3
            try clear hfz48_4
            try clear hfz48_5
            try clear hfz50_0
            try clear hfz50_1
            try clear hfz50_2
            try clear hfz50_3
            try clear hfz50_4
            try clear hfz50_5
            try clear hfz53_0
            try clear hfz53_1
            try clear hfz53_2
            try clear hfz53_3
            try clear hfz53_4
            try clear hfz53_5
            try clear hfz56_0
            try clear hfz56_1
            try clear hfz56_2
            try clear hfz56_3
            try clear hfz56_4
            try clear hfz56_5
            try clear hfz59_0
            try clear hfz59_1
            try clear hfz59_2
            try clear hfz59_3
            try clear hfz59_4
            try clear hfz59_5
            try clear hfz62_0
            try clear hfz62_1
            try clear hfz62_2
            try clear hfz62_3
            try clear hfz62_4
            try clear hfz62_5
            try clear hfz65_0
            try clear hfz65_1
            try clear hfz65_2
            try clear hfz65_3
            try clear hfz65_4
            try clear hfz65_5
            try clear hfz7_0
            try clear hfz7_1
            try clear hfz7_2
            try clear hfz7_3
            try clear hx301_0
            try clear hx301_1
            try clear hx305_0
            try clear hx305_1
            try clear hx318_0
            try clear hx318_1
            try clear hx318_2
            try clear hx318_3
            try clear hx318_4
            try clear hx318_5
            try clear p2
            try clear p3
            try clear p30
            try clear p301
            try clear p305
            try clear p318
            try clear p6
            try clear q3
            try clear q30
            try clear q301
            try clear q305
            try clear q318
            obtain ⟨x3_4, x7_4, rfl, HA, HK4, HO_3, BK291, BK319, HB⟩ := hrel
            cases gk with
            | zero => exact absurd HA.out (by simp [louverref12_Bytes.l2])
            | succ k4 =>
             have H := HA.out
             clear HA
             simp only [louverref12_Bytes.l2] at H
             by_cases c68 : x7_4 < (((rd_T41 l0_3 x5_2).f5).length : Int)
             ·
              rw [if_pos c68] at H
              have c68b0 : decide (x7_4 < (((rd_T41 l0_3 x5_2).f5).length : Int)) = true := decide_eq_true c68
              clear c68
              by_cases c69 : (x3_4.length : Int) ≤ 262144
              ·
               rw [if_pos c69] at H
               have c69b0 : decide ((x3_4.length : Int) ≤ 262144) = true := decide_eq_true c69
               have c69b1 : decide (x3_4.length ≤ 262144) = true := decide_eq_true (by omega)
               clear c69
               by_cases c70 : 0 ≤ x7_4
               ·
                rw [if_pos c70] at H
                have c70b0 : decide (0 ≤ x7_4) = true := decide_eq_true c70
                clear c70
                replace H := Option.bind_eq_some_iff.mp H
                obtain ⟨t339, A710, H⟩ := H
                replace H : (if x3_4.length + t339.length < 140737488355328 then (louverref12_Bytes.l2 k4 (x3_4 ++ t339) x5_2 (wrap64 (x7_4 + 1)) l0_0 l0_1 l0_2 l0_3 ((rd_T41 l0_3 x5_2).f0) ((rd_T41 l0_3 x5_2).f1) ((rd_T41 l0_3 x5_2).f2) ((rd_T41 l0_3 x5_2).f3) ((rd_T41 l0_3 x5_2).f4) ((rd_T41 l0_3 x5_2).f5)) else (none)) = some r := H
                have A71 := Aside0.mk A710
                clear A710
                by_cases c72 : x3_4.length + t339.length < 140737488355328
                ·
                 rw [if_pos c72] at H
                 have LMc72 := Aside0.mk c72
                 clear c72
                 obtain ⟨y342, hy342⟩ : ∃ y_ : List Int, y_ = (x3_4 ++ t339) := ⟨_, rfl⟩
                 replace H : (louverref12_Bytes.l2 k4 y342 x5_2 (wrap64 (x7_4 + 1)) l0_0 l0_1 l0_2 l0_3 ((rd_T41 l0_3 x5_2).f0) ((rd_T41 l0_3 x5_2).f1) ((rd_T41 l0_3 x5_2).f2) ((rd_T41 l0_3 x5_2).f3) ((rd_T41 l0_3 x5_2).f4) ((rd_T41 l0_3 x5_2).f5)) = some r := by first | (rw [hy342]; with_reducible exact H) | (have H2_ := (Option.bind_some _ _).symm.trans H; rw [hy342]; with_reducible exact H2_) | (have H2_ := (Option.bind_some _ _).symm.trans H; with_reducible exact H2_) | with_reducible exact H | (rw [hy342]; exact H) | exact H
                 have Ny342 := Aside0.mk hy342
                 clear hy342
                 have H' := Aside0.mk H
                 clear H
                 have hnb73 := NB319_291.out
                 have hnc73 := NB291_319.out
                 have hcz74_0 : wr.cell? ⟨gb319, 0, none⟩ = some (.int .u64 ((rd_T41 l0_3 x5_2).f0)) := (blk_cell BK319.out 0).trans rfl
                 have hcz74_1 : wr.cell? ⟨gb319, 1, none⟩ = some (.slice A318_1 ((rd_T41 l0_3 x5_2).f1).length c318_1) := (blk_cell BK319.out 1).trans rfl
                 have hcz74_2 : wr.cell? ⟨gb319, 2, none⟩ = some (.slice A318_2 ((rd_T41 l0_3 x5_2).f2).length c318_2) := (blk_cell BK319.out 2).trans rfl
                 have hcz74_3 : wr.cell? ⟨gb319, 3, none⟩ = some (.int .i64 ((rd_T41 l0_3 x5_2).f3)) := (blk_cell BK319.out 3).trans rfl
                 have hcz74_4 : wr.cell? ⟨gb319, 4, none⟩ = some (.int .i64 ((rd_T41 l0_3 x5_2).f4)) := (blk_cell BK319.out 4).trans rfl
                 have hcz74_5 : wr.cell? ⟨gb319, 5, none⟩ = some (.slice A318_5 ((rd_T41 l0_3 x5_2).f5).length c318_5) := (blk_cell BK319.out 5).trans rfl
                 have hfz74_0 := blk_frozen BK319.out 0
                 have hfz74_1 := blk_frozen BK319.out 1
                 have hfz74_2 := blk_frozen BK319.out 2
                 have hfz74_3 := blk_frozen BK319.out 3
                 have hfz74_4 := blk_frozen BK319.out 4
                 have hfz74_5 := blk_frozen BK319.out 5
                 obtain ⟨Ao75, co75, eo75⟩ := Kd.R_slice HO_3.out
                 subst eo75
                 have p338 : 0 ≤ (x7_4 : Int) := of_decide_eq_true (by first | (with_reducible assumption) | assumption)
                 have q338 : x7_4 < (((rd_T41 l0_3 x5_2).f5).length : Int) := of_decide_eq_true (by first | (with_reducible assumption) | assumption)
                 obtain ⟨ad338, e338, hx338_0, hx338_1⟩ := at_T44 HR318_5.out x7_4 p338 q338
                 cases e338
                 replace hx338_0 := (HB.out.cell (World.block_lt_of_cell? w _ hx338_0)).trans hx338_0
                 replace hx338_1 := (HB.out.cell (World.block_lt_of_cell? w _ hx338_1)).trans hx338_1
                 replace p338 := eq_true p338
                 replace q338 := eq_true q338
                 go_wp2_with (first | ((with_reducible refine gate_callee (f := 22) rfl ?_); refine goesL_ (some 116) rfl rfl Tryd.func22 (by kernel_rfl) rfl #[.agg #[.int .i64 ((rd_T44 ((rd_T41 l0_3 x5_2).f5) x7_4).f0), .int .i64 ((rd_T44 ((rd_T41 l0_3 x5_2).f5) x7_4).f1)]] rfl (by (try simp only [List.map_toArray, List.map_cons, List.map_nil]); first | done | rfl | (simp only [List.length_drop, List.length_take]; rfl)) ?_; (with_reducible refine (louverref10_Put.calls k4 ((rd_T44 ((rd_T41 l0_3 x5_2).f5) x7_4).f0) ((rd_T44 ((rd_T41 l0_3 x5_2).f5) x7_4).f1) t339 _ A71.out).mono ?_); rintro e w76 ⟨v340, rfl, ho0, hb⟩; refine ⟨_, rfl, ?_⟩; have n0_ := Aside0.mk (Kd.R_elder' (by (with_reducible repeat (first | apply Kd.R_alloc | apply Kd.R_drewN | apply Kd.R_drew)); exact HO_3.out) (Kd.R_base ho0) hb); have n1_ := Aside0.mk (Kd.R_lower (Kd.R_new' ho0 (Kd.R_lt (by (with_reducible repeat (first | apply Kd.R_alloc | apply Kd.R_drewN | apply Kd.R_drew)); exact HO_3.out))) (below_size (by repeat (first | (with_reducible first | exact HB.out | apply below_alloc | apply pw_below_drewN | apply below_drew1 | refine below_set ?_ GE291.out | refine below_set ?_ GE319.out) | exact HB.out)))); have n2_ := Aside0.mk (blk_below (g := gb291) (o := .cells #[.slice A0_0 l0_0.length c0_0, .slice A0_1 l0_1.length c0_1, .slice A0_2 l0_2.length c0_2, .slice (some ad318) l0_3.length c0_3] 26 (0, 0)) (by (with_reducible repeat (first | refine blk_drewN ?_ _ | refine blk_drew ?_ | refine blk_alloc ?_ _)); exact BK291.out) hb); have n3_ := Aside0.mk (blk_below (g := gb319) (o := .cells #[.int .u64 ((rd_T41 l0_3 x5_2).f0), .slice A318_1 ((rd_T41 l0_3 x5_2).f1).length c318_1, .slice A318_2 ((rd_T41 l0_3 x5_2).f2).length c318_2, .int .i64 ((rd_T41 l0_3 x5_2).f3), .int .i64 ((rd_T41 l0_3 x5_2).f4), .slice (some ad338) ((rd_T41 l0_3 x5_2).f5).length c318_5] 41 (0, 0)) (by (with_reducible repeat (first | refine blk_drewN ?_ _ | refine blk_drew ?_ | refine blk_alloc ?_ _)); exact BK319.out) hb); have n4_ := Aside0.mk (below_step (by repeat (first | (with_reducible first | exact HB.out | apply below_alloc | apply pw_below_drewN | apply below_drew1 | refine below_set ?_ GE291.out | refine below_set ?_ GE319.out) | exact HB.out)) hb); clear HO_3; clear BK291; clear BK319; clear HB; have HO_3 := n0_; have HO341 := n1_; have BK291 := n2_; have BK319 := n3_; have HB := n4_; clear n0_ n1_ n2_ n3_ n4_; (try clear hb); (try clear hb2); (try clear hk); (try clear hi); (try clear ho0); obtain ⟨Ao78, co78, eo78⟩ := Kd.R_slice HO341.out; subst eo78) | ((with_reducible refine gate_builtin (b := .append) (xs := #[.tmp 117, .tmp 118]) rfl ?_); (try (refine gate_guard (by rfl) ?_; dsimp only)); at_builtin; refine Kd.R_append_rows (Kd.int .u8) (w0 := w) w.heap.size rfl (.tmp 117) (.tmp 118) 27 5 (.int .u8 0) 1 rfl Tryd.underlying27 info5 rfl (by decide) (by omega) (.slice Ao75 x3_4.length co75) x3_4 t339 _ _ _ (fun k_ => some k_ ≠ (.slice Ao78 t339.length co78 : Value).ownBlock) (fun _ => False) rfl rfl ?aO ?aR (fun _ _ h => h) (fun _ h => h.elim) ?aF ?aB ?aS ?aL ?_; (case aR => repeat (first | exact (Kd.R_reads' HO341.out).2.2 | (with_reducible refine Kd.C_alloc ?_ _) | (with_reducible refine Kd.C_drewN ?_ _) | (with_reducible refine Kd.C_drew ?_))); (case aB => exact (by repeat (first | (with_reducible first | exact HB.out | apply below_alloc | apply pw_below_drewN | apply below_drew1 | refine below_set ?_ GE291.out | refine below_set ?_ GE319.out) | exact HB.out))); (case aF => exact (fun k_ hk => Kd.fresh' (Kd.R_lt (by (with_reducible repeat (first | apply Kd.R_alloc | apply Kd.R_drewN | apply Kd.R_drew)); exact HO341.out)) k_ hk)); (case aO => exact (by (with_reducible repeat (first | apply Kd.R_alloc | apply Kd.R_drewN | apply Kd.R_drew)); exact Kd.R_mono HO_3.out (fun _ hk => hk.2))); (case aS => exact (below_size (by repeat (first | (with_reducible first | exact HB.out | apply below_alloc | apply pw_below_drewN | apply below_drew1 | refine below_set ?_ GE291.out | refine below_set ?_ GE319.out) | exact HB.out)))); (case aL => have := LMc72.out; omega); intro v343 w77 ho hb hg hat; rw [← Ny342.out] at ho; have n0_ := Aside0.mk (blk_grown (g := gb291) (o := .cells #[.slice A0_0 l0_0.length c0_0, .slice A0_1 l0_1.length c0_1, .slice A0_2 l0_2.length c0_2, .slice (some ad318) l0_3.length c0_3] 26 (0, 0)) (by (with_reducible repeat (first | refine blk_drewN ?_ _ | refine blk_drew ?_ | refine blk_alloc ?_ _)); exact BK291.out) hg (Kd.R_ne HO_3.out BK291.out (by decide))); have n1_ := Aside0.mk (blk_grown (g := gb319) (o := .cells #[.int .u64 ((rd_T41 l0_3 x5_2).f0), .slice A318_1 ((rd_T41 l0_3 x5_2).f1).length c318_1, .slice A318_2 ((rd_T41 l0_3 x5_2).f2).length c318_2, .int .i64 ((rd_T41 l0_3 x5_2).f3), .int .i64 ((rd_T41 l0_3 x5_2).f4), .slice (some ad338) ((rd_T41 l0_3 x5_2).f5).length c318_5] 41 (0, 0)) (by (with_reducible repeat (first | refine blk_drewN ?_ _ | refine blk_drew ?_ | refine blk_alloc ?_ _)); exact BK319.out) hg (Kd.R_ne HO_3.out BK319.out (by decide))); have n2_ := Aside0.mk (Kd.R_after (ok := (fun _ => True)) (by (with_reducible repeat (first | apply Kd.R_alloc | apply Kd.R_drewN | apply Kd.R_drew)); exact HO341.out) hg hat); have n3_ := Aside0.mk (hb); have n4_ := Aside0.mk (ho); clear BK291; clear BK319; clear HO341; clear HB; clear HO_3; have BK291 := n0_; have BK319 := n1_; have HO341 := n2_; have HB := n3_; have HO344 := n4_; clear n0_ n1_ n2_ n3_ n4_; clear ho hb hg hat))
                 go_roundg k4
                 case measure => have := HK1.out; have := HK2.out; have := HJ30.out; have := HK4.out; omega
                 case rel => exact ⟨(y342), (wrap64 (x7_4 + 1)), (by first | rfl | (simp; done) | (simp [*]; done)), H', ⟨by have := HK1.out; have := HK2.out; have := HJ30.out; have := HK4.out; omega⟩, ⟨by (with_reducible repeat (first | apply Kd.R_alloc | apply Kd.R_drewN | apply Kd.R_drew)); exact Kd.R_mono HO344.out (fun _ hk => trivial)⟩, ⟨by (with_reducible repeat (first | refine blk_drewN ?_ _ | refine blk_drew ?_ | refine blk_alloc ?_ _)); exact BK291.out⟩, ⟨by (with_reducible repeat (first | refine blk_drewN ?_ _ | refine blk_drew ?_ | refine blk_alloc ?_ _)); exact BK319.out⟩, ⟨by repeat (first | (with_reducible first | exact HB.out | apply below_alloc | apply pw_below_drewN | apply below_drew1 | refine below_set ?_ GE291.out | refine below_set ?_ GE319.out) | exact HB.out)⟩⟩
                ·
                 rw [if_neg c72] at H
                 exact absurd H (by simp)
               ·
                rw [if_neg c70] at H
                exact absurd H (by simp)
              ·
               rw [if_neg c69] at H
               have c69b0 : decide ((x3_4.length : Int) ≤ 262144) = false := decide_eq_false c69
               have c69b1 : decide (x3_4.length ≤ 262144) = false := decide_eq_false (by omega)
               clear c69
               have H' := Aside0.mk H
               clear H
               have hnb79 := NB319_291.out
               have hnc79 := NB291_319.out
               have hcz80_0 : wr.cell? ⟨gb319, 0, none⟩ = some (.int .u64 ((rd_T41 l0_3 x5_2).f0)) := (blk_cell BK319.out 0).trans rfl
               have hcz80_1 : wr.cell? ⟨gb319, 1, none⟩ = some (.slice A318_1 ((rd_T41 l0_3 x5_2).f1).length c318_1) := (blk_cell BK319.out 1).trans rfl
               have hcz80_2 : wr.cell? ⟨gb319, 2, none⟩ = some (.slice A318_2 ((rd_T41 l0_3 x5_2).f2).length c318_2) := (blk_cell BK319.out 2).trans rfl
               have hcz80_3 : wr.cell? ⟨gb319, 3, none⟩ = some (.int .i64 ((rd_T41 l0_3 x5_2).f3)) := (blk_cell BK319.out 3).trans rfl
               have hcz80_4 : wr.cell? ⟨gb319, 4, none⟩ = some (.int .i64 ((rd_T41 l0_3 x5_2).f4)) := (blk_cell BK319.out 4).trans rfl
               have hcz80_5 : wr.cell? ⟨gb319, 5, none⟩ = some (.slice A318_5 ((rd_T41 l0_3 x5_2).f5).length c318_5) := (blk_cell BK319.out 5).trans rfl
               have hfz80_0 := blk_frozen BK319.out 0
               have hfz80_1 := blk_frozen BK319.out 1
               have hfz80_2 := blk_frozen BK319.out 2
               have hfz80_3 := blk_frozen BK319.out 3
               have hfz80_4 := blk_frozen BK319.out 4
               have hfz80_5 := blk_frozen BK319.out 5
               obtain ⟨Ao81, co81, eo81⟩ := Kd.R_slice HO_3.out
               subst eo81
               go_wp2
               go_roundg k4
               case measure => have := HK1.out; have := HK2.out; have := HJ30.out; have := HK4.out; omega
               case rel => exact ⟨(x3_4), (wrap64 (x5_2 + 1)), (by first | rfl | (simp; done) | (simp [*]; done)), H', ⟨by have := HK1.out; have := HK2.out; have := HJ30.out; have := HK4.out; omega⟩, ⟨by (with_reducible repeat (first | apply Kd.R_alloc | apply Kd.R_drewN | apply Kd.R_drew)); exact HO_3.out⟩, ⟨by (with_reducible repeat (first | refine blk_drewN ?_ _ | refine blk_drew ?_ | refine blk_alloc ?_ _)); exact BK291.out⟩, ⟨by repeat (first | (with_reducible first | exact HB.out | apply below_alloc | apply pw_below_drewN | apply below_drew1 | refine below_set ?_ GE291.out | refine below_set ?_ GE319.out) | exact HB.out)⟩⟩
             ·
              rw [if_neg c68] at H
              have c68b0 : decide (x7_4 < (((rd_T41 l0_3 x5_2).f5).length : Int)) = false := decide_eq_false c68
              clear c68
              have H' := Aside0.mk H
              clear H
              have hnb82 := NB319_291.out
              have hnc82 := NB291_319.out
              have hcz83_0 : wr.cell? ⟨gb319, 0, none⟩ = some (.int .u64 ((rd_T41 l0_3 x5_2).f0)) := (blk_cell BK319.out 0).trans rfl
              have hcz83_1 : wr.cell? ⟨gb319, 1, none⟩ = some (.slice A318_1 ((rd_T41 l0_3 x5_2).f1).length c318_1) := (blk_cell BK319.out 1).trans rfl
              have hcz83_2 : wr.cell? ⟨gb319, 2, none⟩ = some (.slice A318_2 ((rd_T41 l0_3 x5_2).f2).length c318_2) := (blk_cell BK319.out 2).trans rfl
              have hcz83_3 : wr.cell? ⟨gb319, 3, none⟩ = some (.int .i64 ((rd_T41 l0_3 x5_2).f3)) := (blk_cell BK319.out 3).trans rfl
              have hcz83_4 : wr.cell? ⟨gb319, 4, none⟩ = some (.int .i64 ((rd_T41 l0_3 x5_2).f4)) := (blk_cell BK319.out 4).trans rfl
              have hcz83_5 : wr.cell? ⟨gb319, 5, none⟩ = some (.slice A318_5 ((rd_T41 l0_3 x5_2).f5).length c318_5) := (blk_cell BK319.out 5).trans rfl
              have hfz83_0 := blk_frozen BK319.out 0
              have hfz83_1 := blk_frozen BK319.out 1
              have hfz83_2 := blk_frozen BK319.out 2
              have hfz83_3 := blk_frozen BK319.out 3
              have hfz83_4 := blk_frozen BK319.out 4
              have hfz83_5 := blk_frozen BK319.out 5
              go_wp2
              go_roundg k4
              case measure => have := HK1.out; have := HK2.out; have := HJ30.out; have := HK4.out; omega
              case rel => exact ⟨(x3_4), (wrap64 (x5_2 + 1)), (by first | rfl | (simp; done) | (simp [*]; done)), H', ⟨by have := HK1.out; have := HK2.out; have := HJ30.out; have := HK4.out; omega⟩, ⟨by (with_reducible repeat (first | apply Kd.R_alloc | apply Kd.R_drewN | apply Kd.R_drew)); exact HO_3.out⟩, ⟨by (with_reducible repeat (first | refine blk_drewN ?_ _ | refine blk_drew ?_ | refine blk_alloc ?_ _)); exact BK291.out⟩, ⟨by repeat (first | (with_reducible first | exact HB.out | apply below_alloc | apply pw_below_drewN | apply below_drew1 | refine below_set ?_ GE291.out | refine below_set ?_ GE319.out) | exact HB.out)⟩⟩
          ·
           rw [if_neg c38] at H
           exact absurd H (by simp)
         ·
          rw [if_neg c37] at H
          exact absurd H (by simp)
        ·
         replace c36 := Bool.eq_false_iff.mpr c36
         subst c36
         have H1 : ((louverref12_sealed.f kj30 x3_2).bind fun t315 => (some t315)) = some r := by rw [if_neg (show ¬ (false = true) by decide)] at H; exact H
         clear H
         have H := H1
         clear H1
         replace H := Option.bind_eq_some_iff.mp H
         obtain ⟨t315, A840, H⟩ := H
         replace H : (some t315) = some r := H
         have A84 := Aside0.mk A840
         clear A840
         obtain rfl := Option.some.inj H
         obtain ⟨Ao85, co85, eo85⟩ := Kd.R_slice HO_3.out
         subst eo85
         go_wp2_with (first | ((with_reducible refine gate_callee (f := 118) rfl ?_); refine goesL_ (some 121) rfl rfl Tryd.func118 (by kernel_rfl) rfl #[.slice Ao85 x3_2.length co85] rfl (by (try simp only [List.map_toArray, List.map_cons, List.map_nil]); first | done | rfl | (simp only [List.length_drop, List.length_take]; rfl)) ?_; (with_reducible refine (louverref12_sealed.calls kj30 (fun k_ => some k_ = (.slice Ao85 x3_2.length co85 : Value).ownBlock) (.slice Ao85 x3_2.length co85) x3_2 t315 w _ ?side1 ?side2 A84.out).mono ?_); (case side1 => repeat (first | (with_reducible first | exact HB.out | apply below_alloc | apply pw_below_drewN | apply below_drew1 | refine below_set ?_ GE291.out) | exact HB.out)); (case side2 => exact Kd.R_tight rfl HO_3.out); rintro e w86 ⟨v316, rfl, ho0, hb, hkp⟩; refine ⟨_, rfl, ?_⟩; have n0_ := Aside0.mk (blk_kept (by (with_reducible repeat (first | refine blk_drewN ?_ _ | refine blk_drew ?_ | refine blk_alloc ?_ _)); exact BK291.out) hkp (fun hs_ => (fun e_ => (Kd.R_ne HO_3.out BK291.out (by decide)) e_) hs_)); have n1_ := Aside0.mk (Kd.R_mono (ok' := fun k_ => True) ho0 (fun k_ hk_ => trivial)); have n2_ := Aside0.mk (hb); clear BK291; clear HB; clear HO_3; have BK291 := n0_; have HO317 := n1_; have HB := n2_; clear n0_ n1_ n2_; (try clear hb); (try clear hkp); (try clear ho0)))
         go_ret
         exact ⟨_, by first | rfl | (simp [errW_none, errW_some] <;> rfl) | (simp [*, errW_none, errW_some] <;> rfl), by (with_reducible repeat (first | apply Kd.R_alloc | apply Kd.R_drewN | apply Kd.R_drew)); exact HO317.out, by repeat (first | (with_reducible first | exact HB.out | apply below_alloc | apply pw_below_drewN | apply below_drew1 | refine below_set ?_ GE291.out) | exact HB.out)⟩
end Go.Proofs.YtgpdaihfjnihhaaDoor.PJ

namespace Go.Proofs.YtgpdaihfjnihhaaDoor.PJ
open Go.RowKit Go.Proofs.YtgpdaihfjnihhaaDoorW.PrintWords Go.Proofs.YtgpdaihfjnihhaaDoorW.PrintLast Go.Proofs.YtgpdaihfjnihhaaDoorW.PrintMore
attribute [local go_sem] max2_int min2_int max_two min_two max_three min_three max_four min_four   -- for this text's walks alone
set_option linter.unusedVariables false
set_option linter.unusedSimpArgs false
def louverref12_Write.f (k : Nat) (l0_0 : List Int) (l0_1 : List (S38)) (l0_2 : List Int) (l0_3 : List (S41)) : Option (List Int × Int) := (louverref12_May.f k l0_0 l0_1 l0_2 l0_3).bind fun t346 => (if t346 = true then ((louverref12_Bytes.f k l0_0 l0_1 l0_2 l0_3).bind fun t347 => (if (t347.length : Int) > 262144 then (some (([] : List Int), 3)) else (some (t347, 0)))) else (some (([] : List Int), 1)))
set_option maxHeartbeats 8000000 in
set_option maxRecDepth 100000 in
theorem louverref12_Write.calls (k : Nat) (A0_0 : Option Addr) (c0_0 : Nat) (l0_0 : List Int) (A0_1 : Option Addr) (c0_1 : Nat) (l0_1 : List (S38)) (A0_2 : Option Addr) (c0_2 : Nat) (l0_2 : List Int) (A0_3 : Option Addr) (c0_3 : Nat) (l0_3 : List (S41)) (r1 : List Int) (r2 : Int) (w : World) (hr0_0 : Kd.C (Kd.int .u64) w A0_0 l0_0.length l0_0) (hc0_0 : l0_0.length ≤ c0_0) (hr0_1 : Kd.C k38 w A0_1 l0_1.length l0_1) (hc0_1 : l0_1.length ≤ c0_1) (hr0_2 : Kd.C (Kd.int .u64) w A0_2 l0_2.length l0_2) (hc0_2 : l0_2.length ≤ c0_2) (hr0_3 : Kd.C k41 w A0_3 l0_3.length l0_3) (hc0_3 : l0_3.length ≤ c0_3) (h : louverref12_Write.f k l0_0 l0_1 l0_2 l0_3 = some (r1, r2)) :
  Calls Tryd.prog 42 #[.agg #[.slice A0_0 l0_0.length c0_0, .slice A0_1 l0_1.length c0_1, .slice A0_2 l0_2.length c0_2, .slice A0_3 l0_3.length c0_3]] w fun e w' => ∃ v0_ : Value, e = .returned (.tuple #[v0_, .int .i64 r2]) ∧ Kd.R (Kd.int .u8) 5 w' w.heap.size (fun _ => True) v0_ r1 ∧ Below w.heap.size w w' := by
 have hu26 := Tryd.underlying26
 have HR0_0 := Aside0.mk hr0_0
 have HC0_0 := Aside0.mk hc0_0
 clear hr0_0 hc0_0
 have HR0_1 := Aside0.mk hr0_1
 have HC0_1 := Aside0.mk hc0_1
 clear hr0_1 hc0_1
 have HR0_2 := Aside0.mk hr0_2
 have HC0_2 := Aside0.mk hc0_2
 clear hr0_2 hc0_2
 have HR0_3 := Aside0.mk hr0_3
 have HC0_3 := Aside0.mk hc0_3
 clear hr0_3 hc0_3
 have HB := Aside0.mk (Below.refl w.heap.size w)
 have H : ((louverref12_May.f k l0_0 l0_1 l0_2 l0_3).bind fun t346 => (if t346 = true then ((louverref12_Bytes.f k l0_0 l0_1 l0_2 l0_3).bind fun t347 => (if (t347.length : Int) > 262144 then (some (([] : List Int), 3)) else (some (t347, 0)))) else (some (([] : List Int), 1)))) = some (r1, r2) := h
 clear h
 replace H := Option.bind_eq_some_iff.mp H
 obtain ⟨t346, A20, H⟩ := H
 replace H : (if t346 = true then ((louverref12_Bytes.f k l0_0 l0_1 l0_2 l0_3).bind fun t347 => (if (t347.length : Int) > 262144 then (some (([] : List Int), 3)) else (some (t347, 0)))) else (some (([] : List Int), 1))) = some (r1, r2) := H
 have A2 := Aside0.mk A20
 clear A20
 by_cases c3 : t346 = true
 ·
  subst c3
  have H1 : ((louverref12_Bytes.f k l0_0 l0_1 l0_2 l0_3).bind fun t347 => (if (t347.length : Int) > 262144 then (some (([] : List Int), 3)) else (some (t347, 0)))) = some (r1, r2) := by rw [if_pos rfl] at H; exact H
  clear H
  have H := H1
  clear H1
  replace H := Option.bind_eq_some_iff.mp H
  obtain ⟨t347, A40, H⟩ := H
  replace H : (if (t347.length : Int) > 262144 then (some (([] : List Int), 3)) else (some (t347, 0))) = some (r1, r2) := H
  have A4 := Aside0.mk A40
  clear A40
  by_cases c5 : (t347.length : Int) > 262144
  ·
   rw [if_pos c5] at H
   have c5b0 : decide (262144 < (t347.length : Int)) = true := decide_eq_true c5
   have c5b1 : decide (262144 < t347.length) = true := decide_eq_true (by omega)
   clear c5
   simp only [Option.some.injEq, Prod.mk.injEq] at H
   obtain ⟨rfl, rfl⟩ := H
   go_enter Tryd.func42, Tryd.ntmps42
   go_wp2_with (first | ((with_reducible refine gate_dst (N := 1) rfl ?_); refine box_event ?hg (N := 1) ?hd (cs := #[.slice A0_0 l0_0.length c0_0, .slice A0_1 l0_1.length c0_1, .slice A0_2 l0_2.length c0_2, .slice A0_3 l0_3.length c0_3]) (t := 26) ?hr ?_; (case hd => rfl); (case hg => rfl); (case hr => first | (go_simp; done) | (go_simp; rfl)); intro gb345 hg w6 hbox hb; have n0_ := Aside0.mk (below_step (by repeat (first | (with_reducible first | exact HB.out | apply below_alloc | apply pw_below_drewN | apply below_drew1) | exact HB.out)) hb); have n1_ := Aside0.mk (hbox); have n2_ := Aside0.mk ((by rw [hg]; exact (below_size (by repeat (first | (with_reducible first | exact HB.out | apply below_alloc | apply pw_below_drewN | apply below_drew1) | exact HB.out))) : w.heap.size ≤ gb345)); have n3_ := Aside0.mk ((by rw [hg]; exact (below_size (by repeat (first | (with_reducible first | exact HB.out | apply below_alloc | apply pw_below_drewN | apply below_drew1) | exact HB.out))) : w.heap.size ≤ gb345)); clear HB; have HB := n0_; have BK345 := n1_; have GW345 := n2_; have GE345 := n3_; clear n0_ n1_ n2_ n3_; clear hb hbox hg; have hcz7_0 : w6.cell? ⟨gb345, 0, none⟩ = some (.slice A0_0 l0_0.length c0_0) := (blk_cell BK345.out 0).trans rfl; have hcz7_1 : w6.cell? ⟨gb345, 1, none⟩ = some (.slice A0_1 l0_1.length c0_1) := (blk_cell BK345.out 1).trans rfl; have hcz7_2 : w6.cell? ⟨gb345, 2, none⟩ = some (.slice A0_2 l0_2.length c0_2) := (blk_cell BK345.out 2).trans rfl; have hcz7_3 : w6.cell? ⟨gb345, 3, none⟩ = some (.slice A0_3 l0_3.length c0_3) := (blk_cell BK345.out 3).trans rfl; have hfz7_0 := blk_frozen BK345.out 0; have hfz7_1 := blk_frozen BK345.out 1; have hfz7_2 := blk_frozen BK345.out 2; have hfz7_3 := blk_frozen BK345.out 3) | ((with_reducible refine gate_callee (f := 82) rfl ?_); refine goesL_ (some 6) rfl rfl Tryd.func82 (by kernel_rfl) rfl #[.agg #[.slice A0_0 l0_0.length c0_0, .slice A0_1 l0_1.length c0_1, .slice A0_2 l0_2.length c0_2, .slice A0_3 l0_3.length c0_3]] rfl (by (try simp only [List.map_toArray, List.map_cons, List.map_nil]); first | done | rfl | (simp only [List.length_drop, List.length_take]; rfl)) ?_; (with_reducible refine (louverref12_May.calls k _ _ l0_0 _ _ l0_1 _ _ l0_2 _ _ l0_3 true _ ?side1 ?side2 ?side3 ?side4 ?side5 ?side6 ?side7 ?side8 A2.out).mono ?_); (case side1 => repeat (first | exact (Kd.C_below HR0_0.out HB.out) | (with_reducible refine Kd.C_alloc ?_ _) | (with_reducible refine Kd.C_drewN ?_ _) | (with_reducible refine Kd.C_drew ?_))); (case side2 => exact HC0_0.out); (case side3 => repeat (first | exact (Kd.C_below HR0_1.out HB.out) | (with_reducible refine Kd.C_alloc ?_ _) | (with_reducible refine Kd.C_drewN ?_ _) | (with_reducible refine Kd.C_drew ?_))); (case side4 => exact HC0_1.out); (case side5 => repeat (first | exact (Kd.C_below HR0_2.out HB.out) | (with_reducible refine Kd.C_alloc ?_ _) | (with_reducible refine Kd.C_drewN ?_ _) | (with_reducible refine Kd.C_drew ?_))); (case side6 => exact HC0_2.out); (case side7 => repeat (first | exact (Kd.C_below HR0_3.out HB.out) | (with_reducible refine Kd.C_alloc ?_ _) | (with_reducible refine Kd.C_drewN ?_ _) | (with_reducible refine Kd.C_drew ?_))); (case side8 => exact HC0_3.out); rintro e w8 ⟨rfl, hb⟩; refine ⟨_, rfl, ?_⟩; have n0_ := Aside0.mk (blk_below (g := gb345) (o := .cells #[.slice A0_0 l0_0.length c0_0, .slice A0_1 l0_1.length c0_1, .slice A0_2 l0_2.length c0_2, .slice A0_3 l0_3.length c0_3] 26 (0, 0)) (by (with_reducible repeat (first | refine blk_drewN ?_ _ | refine blk_drew ?_ | refine blk_alloc ?_ _)); exact BK345.out) hb); have n1_ := Aside0.mk (below_step (by repeat (first | (with_reducible first | exact HB.out | apply below_alloc | apply pw_below_drewN | apply below_drew1 | refine below_set ?_ GE345.out) | exact HB.out)) hb); clear BK345; clear HB; have BK345 := n0_; have HB := n1_; clear n0_ n1_; (try clear hb); (try clear hb2); (try clear hk); (try clear hi); have hcz9_0 : w8.cell? ⟨gb345, 0, none⟩ = some (.slice A0_0 l0_0.length c0_0) := (blk_cell BK345.out 0).trans rfl; have hcz9_1 : w8.cell? ⟨gb345, 1, none⟩ = some (.slice A0_1 l0_1.length c0_1) := (blk_cell BK345.out 1).trans rfl; have hcz9_2 : w8.cell? ⟨gb345, 2, none⟩ = some (.slice A0_2 l0_2.length c0_2) := (blk_cell BK345.out 2).trans rfl; have hcz9_3 : w8.cell? ⟨gb345, 3, none⟩ = some (.slice A0_3 l0_3.length c0_3) := (blk_cell BK345.out 3).trans rfl; have hfz9_0 := blk_frozen BK345.out 0; have hfz9_1 := blk_frozen BK345.out 1; have hfz9_2 := blk_frozen BK345.out 2; have hfz9_3 := blk_frozen BK345.out 3) | ((with_reducible refine gate_callee (f := 83) rfl ?_); refine goesL_ (some 9) rfl rfl Tryd.func83 (by kernel_rfl) rfl #[.agg #[.slice A0_0 l0_0.length c0_0, .slice A0_1 l0_1.length c0_1, .slice A0_2 l0_2.length c0_2, .slice A0_3 l0_3.length c0_3]] rfl (by (try simp only [List.map_toArray, List.map_cons, List.map_nil]); first | done | rfl | (simp only [List.length_drop, List.length_take]; rfl)) ?_; (with_reducible refine (louverref12_Bytes.calls k _ _ l0_0 _ _ l0_1 _ _ l0_2 _ _ l0_3 t347 _ ?side1 ?side2 ?side3 ?side4 ?side5 ?side6 ?side7 ?side8 A4.out).mono ?_); (case side1 => repeat (first | exact (Kd.C_below HR0_0.out HB.out) | (with_reducible refine Kd.C_alloc ?_ _) | (with_reducible refine Kd.C_drewN ?_ _) | (with_reducible refine Kd.C_drew ?_))); (case side2 => exact HC0_0.out); (case side3 => repeat (first | exact (Kd.C_below HR0_1.out HB.out) | (with_reducible refine Kd.C_alloc ?_ _) | (with_reducible refine Kd.C_drewN ?_ _) | (with_reducible refine Kd.C_drew ?_))); (case side4 => exact HC0_1.out); (case side5 => repeat (first | exact (Kd.C_below HR0_2.out HB.out) | (with_reducible refine Kd.C_alloc ?_ _) | (with_reducible refine Kd.C_drewN ?_ _) | (with_reducible refine Kd.C_drew ?_))); (case side6 => exact HC0_2.out); (case side7 => repeat (first | exact (Kd.C_below HR0_3.out HB.out) | (with_reducible refine Kd.C_alloc ?_ _) | (with_reducible refine Kd.C_drewN ?_ _) | (with_reducible refine Kd.C_drew ?_))); (case side8 => exact HC0_3.out); rintro e w10 ⟨v348, rfl, ho0, hb⟩; refine ⟨_, rfl, ?_⟩; have n0_ := Aside0.mk (Kd.R_lower ho0 (below_size (by repeat (first | (with_reducible first | exact HB.out | apply below_alloc | apply pw_below_drewN | apply below_drew1 | refine below_set ?_ GE345.out) | exact HB.out)))); have n1_ := Aside0.mk (blk_below (g := gb345) (o := .cells #[.slice A0_0 l0_0.length c0_0, .slice A0_1 l0_1.length c0_1, .slice A0_2 l0_2.length c0_2, .slice A0_3 l0_3.length c0_3] 26 (0, 0)) (by (with_reducible repeat (first | refine blk_drewN ?_ _ | refine blk_drew ?_ | refine blk_alloc ?_ _)); exact BK345.out) hb); have n2_ := Aside0.mk (below_step (by repeat (first | (with_reducible first | exact HB.out | apply below_alloc | apply pw_below_drewN | apply below_drew1 | refine below_set ?_ GE345.out) | exact HB.out)) hb); clear BK345; clear HB; have HO349 := n0_; have BK345 := n1_; have HB := n2_; clear n0_ n1_ n2_; (try clear hb); (try clear hb2); (try clear hk); (try clear hi); (try clear ho0); obtain ⟨Ao11, co11, eo11⟩ := Kd.R_slice HO349.out; subst eo11))
   go_ret2
   exact ⟨_, by first | rfl | (simp [errW_none, errW_some] <;> rfl) | (simp [*, errW_none, errW_some] <;> rfl), by first | exact Kd.R_nil _ _ _ _ _ | exact Kd.N_nil _ _ _ _ _ | exact Kd.V_nil _ _ _ _ _ | exact Kd.Q_nil _ _ _ _ _ | exact Kd.S_nil _ _ _ _ _, by repeat (first | (with_reducible first | exact HB.out | apply below_alloc | apply pw_below_drewN | apply below_drew1 | refine below_set ?_ GE345.out) | exact HB.out)⟩
  ·
   rw [if_neg c5] at H
   have c5b0 : decide (262144 < (t347.length : Int)) = false := decide_eq_false c5
   have c5b1 : decide (262144 < t347.length) = false := decide_eq_false (by omega)
   clear c5
   simp only [Option.some.injEq, Prod.mk.injEq] at H
   obtain ⟨rfl, rfl⟩ := H
   go_enter Tryd.func42, Tryd.ntmps42
   go_wp2_with (first | ((with_reducible refine gate_dst (N := 1) rfl ?_); refine box_event ?hg (N := 1) ?hd (cs := #[.slice A0_0 l0_0.length c0_0, .slice A0_1 l0_1.length c0_1, .slice A0_2 l0_2.length c0_2, .slice A0_3 l0_3.length c0_3]) (t := 26) ?hr ?_; (case hd => rfl); (case hg => rfl); (case hr => first | (go_simp; done) | (go_simp; rfl)); intro gb345 hg w12 hbox hb; have n0_ := Aside0.mk (below_step (by repeat (first | (with_reducible first | exact HB.out | apply below_alloc | apply pw_below_drewN | apply below_drew1) | exact HB.out)) hb); have n1_ := Aside0.mk (hbox); have n2_ := Aside0.mk ((by rw [hg]; exact (below_size (by repeat (first | (with_reducible first | exact HB.out | apply below_alloc | apply pw_below_drewN | apply below_drew1) | exact HB.out))) : w.heap.size ≤ gb345)); have n3_ := Aside0.mk ((by rw [hg]; exact (below_size (by repeat (first | (with_reducible first | exact HB.out | apply below_alloc | apply pw_below_drewN | apply below_drew1) | exact HB.out))) : w.heap.size ≤ gb345)); clear HB; have HB := n0_; have BK345 := n1_; have GW345 := n2_; have GE345 := n3_; clear n0_ n1_ n2_ n3_; clear hb hbox hg; have hcz13_0 : w12.cell? ⟨gb345, 0, none⟩ = some (.slice A0_0 l0_0.length c0_0) := (blk_cell BK345.out 0).trans rfl; have hcz13_1 : w12.cell? ⟨gb345, 1, none⟩ = some (.slice A0_1 l0_1.length c0_1) := (blk_cell BK345.out 1).trans rfl; have hcz13_2 : w12.cell? ⟨gb345, 2, none⟩ = some (.slice A0_2 l0_2.length c0_2) := (blk_cell BK345.out 2).trans rfl; have hcz13_3 : w12.cell? ⟨gb345, 3, none⟩ = some (.slice A0_3 l0_3.length c0_3) := (blk_cell BK345.out 3).trans rfl; have hfz13_0 := blk_frozen BK345.out 0; have hfz13_1 := blk_frozen BK345.out 1; have hfz13_2 := blk_frozen BK345.out 2; have hfz13_3 := blk_frozen BK345.out 3) | ((with_reducible refine gate_callee (f := 82) rfl ?_); refine goesL_ (some 6) rfl rfl Tryd.func82 (by kernel_rfl) rfl #[.agg #[.slice A0_0 l0_0.length c0_0, .slice A0_1 l0_1.length c0_1, .slice A0_2 l0_2.length c0_2, .slice A0_3 l0_3.length c0_3]] rfl (by (try simp only [List.map_toArray, List.map_cons, List.map_nil]); first | done | rfl | (simp only [List.length_drop, List.length_take]; rfl)) ?_; (with_reducible refine (louverref12_May.calls k _ _ l0_0 _ _ l0_1 _ _ l0_2 _ _ l0_3 true _ ?side1 ?side2 ?side3 ?side4 ?side5 ?side6 ?side7 ?side8 A2.out).mono ?_); (case side1 => repeat (first | exact (Kd.C_below HR0_0.out HB.out) | (with_reducible refine Kd.C_alloc ?_ _) | (with_reducible refine Kd.C_drewN ?_ _) | (with_reducible refine Kd.C_drew ?_))); (case side2 => exact HC0_0.out); (case side3 => repeat (first | exact (Kd.C_below HR0_1.out HB.out) | (with_reducible refine Kd.C_alloc ?_ _) | (with_reducible refine Kd.C_drewN ?_ _) | (with_reducible refine Kd.C_drew ?_))); (case side4 => exact HC0_1.out); (case side5 => repeat (first | exact (Kd.C_below HR0_2.out HB.out) | (with_reducible refine Kd.C_alloc ?_ _) | (with_reducible refine Kd.C_drewN ?_ _) | (with_reducible refine Kd.C_drew ?_))); (case side6 => exact HC0_2.out); (case side7 => repeat (first | exact (Kd.C_below HR0_3.out HB.out) | (with_reducible refine Kd.C_alloc ?_ _) | (with_reducible refine Kd.C_drewN ?_ _) | (with_reducible refine Kd.C_drew ?_))); (case side8 => exact HC0_3.out); rintro e w14 ⟨rfl, hb⟩; refine ⟨_, rfl, ?_⟩; have n0_ := Aside0.mk (blk_below (g := gb345) (o := .cells #[.slice A0_0 l0_0.length c0_0, .slice A0_1 l0_1.length c0_1, .slice A0_2 l0_2.length c0_2, .slice A0_3 l0_3.length c0_3] 26 (0, 0)) (by (with_reducible repeat (first | refine blk_drewN ?_ _ | refine blk_drew ?_ | refine blk_alloc ?_ _)); exact BK345.out) hb); have n1_ := Aside0.mk (below_step (by repeat (first | (with_reducible first | exact HB.out | apply below_alloc | apply pw_below_drewN | apply below_drew1 | refine below_set ?_ GE345.out) | exact HB.out)) hb); clear BK345; clear HB; have BK345 := n0_; have HB := n1_; clear n0_ n1_; (try clear hb); (try clear hb2); (try clear hk); (try clear hi); have hcz15_0 : w14.cell? ⟨gb345, 0, none⟩ = some (.slice A0_0 l0_0.length c0_0) := (blk_cell BK345.out 0).trans rfl; have hcz15_1 : w14.cell? ⟨gb345, 1, none⟩ = some (.slice A0_1 l0_1.length c0_1) := (blk_cell BK345.out 1).trans rfl; have hcz15_2 : w14.cell? ⟨gb345, 2, none⟩ = some (.slice A0_2 l0_2.length c0_2) := (blk_cell BK345.out 2).trans rfl; have hcz15_3 : w14.cell? ⟨gb345, 3, none⟩ = some (.slice A0_3 l0_3.length c0_3) := (blk_cell BK345.out 3).trans rfl; have hfz15_0 := blk_frozen BK345.out 0; have hfz15_1 := blk_frozen BK345.out 1; have hfz15_2 := blk_frozen BK345.out 2; have hfz15_3 := blk_frozen BK345.out 3) | ((with_reducible refine gate_callee (f := 83) rfl ?_); refine goesL_ (some 9) rfl rfl Tryd.func83 (by kernel_rfl) rfl #[.agg #[.slice A0_0 l0_0.length c0_0, .slice A0_1 l0_1.length c0_1, .slice A0_2 l0_2.length c0_2, .slice A0_3 l0_3.length c0_3]] rfl (by (try simp only [List.map_toArray, List.map_cons, List.map_nil]); first | done | rfl | (simp only [List.length_drop, List.length_take]; rfl)) ?_; (with_reducible refine (louverref12_Bytes.calls k _ _ l0_0 _ _ l0_1 _ _ l0_2 _ _ l0_3 t347 _ ?side1 ?side2 ?side3 ?side4 ?side5 ?side6 ?side7 ?side8 A4.out).mono ?_); (case side1 => repeat (first | exact (Kd.C_below HR0_0.out HB.out) | (with_reducible refine Kd.C_alloc ?_ _) | (with_reducible refine Kd.C_drewN ?_ _) | (with_reducible refine Kd.C_drew ?_))); (case side2 => exact HC0_0.out); (case side3 => repeat (first | exact (Kd.C_below HR0_1.out HB.out) | (with_reducible refine Kd.C_alloc ?_ _) | (with_reducible refine Kd.C_drewN ?_ _) | (with_reducible refine Kd.C_drew ?_))); (case side4 => exact HC0_1.out); (case side5 => repeat (first | exact (Kd.C_below HR0_2.out HB.out) | (with_reducible refine Kd.C_alloc ?_ _) | (with_reducible refine Kd.C_drewN ?_ _) | (with_reducible refine Kd.C_drew ?_))); (case side6 => exact HC0_2.out); (case side7 => repeat (first | exact (Kd.C_below HR0_3.out HB.out) | (with_reducible refine Kd.C_alloc ?_ _) | (with_reducible refine Kd.C_drewN ?_ _) | (with_reducible refine Kd.C_drew ?_))); (case side8 => exact HC0_3.out); rintro e w16 ⟨v348, rfl, ho0, hb⟩; refine ⟨_, rfl, ?_⟩; have n0_ := Aside0.mk (Kd.R_lower ho0 (below_size (by repeat (first | (with_reducible first | exact HB.out | apply below_alloc | apply pw_below_drewN | apply below_drew1 | refine below_set ?_ GE345.out) | exact HB.out)))); have n1_ := Aside0.mk (blk_below (g := gb345) (o := .cells #[.slice A0_0 l0_0.length c0_0, .slice A0_1 l0_1.length c0_1, .slice A0_2 l0_2.length c0_2, .slice A0_3 l0_3.length c0_3] 26 (0, 0)) (by (with_reducible repeat (first | refine blk_drewN ?_ _ | refine blk_drew ?_ | refine blk_alloc ?_ _)); exact BK345.out) hb); have n2_ := Aside0.mk (below_step (by repeat (first | (with_reducible first | exact HB.out | apply below_alloc | apply pw_below_drewN | apply below_drew1 | refine below_set ?_ GE345.out) | exact HB.out)) hb); clear BK345; clear HB; have HO349 := n0_; have BK345 := n1_; have HB := n2_; clear n0_ n1_ n2_; (try clear hb); (try clear hb2); (try clear hk); (try clear hi); (try clear ho0); obtain ⟨Ao17, co17, eo17⟩ := Kd.R_slice HO349.out; subst eo17))
   go_ret2
   exact ⟨_, by first | rfl | (simp [errW_none, errW_some] <;> rfl) | (simp [*, errW_none, errW_some] <;> rfl), by (with_reducible repeat (first | apply Kd.R_alloc | apply Kd.R_drewN | apply Kd.R_drew)); exact HO349.out, by repeat (first | (with_reducible first | exact HB.out | apply below_alloc | apply pw_below_drewN | apply below_drew1 | refine below_set ?_ GE345.out) | exact HB.out)⟩
 ·
  replace c3 := Bool.eq_false_iff.mpr c3
  subst c3
  have H1 : (some (([] : List Int), 1)) = some (r1, r2) := by rw [if_neg (show ¬ (false = true) by decide)] at H; exact H
  clear H
  have H := H1
  clear H1
  simp only [Option.some.injEq, Prod.mk.injEq] at H
  obtain ⟨rfl, rfl⟩ := H
  go_enter Tryd.func42, Tryd.ntmps42
  go_wp2_with (first | ((with_reducible refine gate_dst (N := 1) rfl ?_); refine box_event ?hg (N := 1) ?hd (cs := #[.slice A0_0 l0_0.length c0_0, .slice A0_1 l0_1.length c0_1, .slice A0_2 l0_2.length c0_2, .slice A0_3 l0_3.length c0_3]) (t := 26) ?hr ?_; (case hd => rfl); (case hg => rfl); (case hr => first | (go_simp; done) | (go_simp; rfl)); intro gb345 hg w18 hbox hb; have n0_ := Aside0.mk (below_step (by repeat (first | (with_reducible first | exact HB.out | apply below_alloc | apply pw_below_drewN | apply below_drew1) | exact HB.out)) hb); have n1_ := Aside0.mk (hbox); have n2_ := Aside0.mk ((by rw [hg]; exact (below_size (by repeat (first | (with_reducible first | exact HB.out | apply below_alloc | apply pw_below_drewN | apply below_drew1) | exact HB.out))) : w.heap.size ≤ gb345)); have n3_ := Aside0.mk ((by rw [hg]; exact (below_size (by repeat (first | (with_reducible first | exact HB.out | apply below_alloc | apply pw_below_drewN | apply below_drew1) | exact HB.out))) : w.heap.size ≤ gb345)); clear HB; have HB := n0_; have BK345 := n1_; have GW345 := n2_; have GE345 := n3_; clear n0_ n1_ n2_ n3_; clear hb hbox hg; have hcz19_0 : w18.cell? ⟨gb345, 0, none⟩ = some (.slice A0_0 l0_0.length c0_0) := (blk_cell BK345.out 0).trans rfl; have hcz19_1 : w18.cell? ⟨gb345, 1, none⟩ = some (.slice A0_1 l0_1.length c0_1) := (blk_cell BK345.out 1).trans rfl; have hcz19_2 : w18.cell? ⟨gb345, 2, none⟩ = some (.slice A0_2 l0_2.length c0_2) := (blk_cell BK345.out 2).trans rfl; have hcz19_3 : w18.cell? ⟨gb345, 3, none⟩ = some (.slice A0_3 l0_3.length c0_3) := (blk_cell BK345.out 3).trans rfl; have hfz19_0 := blk_frozen BK345.out 0; have hfz19_1 := blk_frozen BK345.out 1; have hfz19_2 := blk_frozen BK345.out 2; have hfz19_3 := blk_frozen BK345.out 3) | ((with_reducible refine gate_callee (f := 82) rfl ?_); refine goesL_ (some 6) rfl rfl Tryd.func82 (by kernel_rfl) rfl #[.agg #[.slice A0_0 l0_0.length c0_0, .slice A0_1 l0_1.length c0_1, .slice A0_2 l0_2.length c0_2, .slice A0_3 l0_3.length c0_3]] rfl (by (try simp only [List.map_toArray, List.map_cons, List.map_nil]); first | done | rfl | (simp only [List.length_drop, List.length_take]; rfl)) ?_; (with_reducible refine (louverref12_May.calls k _ _ l0_0 _ _ l0_1 _ _ l0_2 _ _ l0_3 false _ ?side1 ?side2 ?side3 ?side4 ?side5 ?side6 ?side7 ?side8 A2.out).mono ?_); (case side1 => repeat (first | exact (Kd.C_below HR0_0.out HB.out) | (with_reducible refine Kd.C_alloc ?_ _) | (with_reducible refine Kd.C_drewN ?_ _) | (with_reducible refine Kd.C_drew ?_))); (case side2 => exact HC0_0.out); (case side3 => repeat (first | exact (Kd.C_below HR0_1.out HB.out) | (with_reducible refine Kd.C_alloc ?_ _) | (with_reducible refine Kd.C_drewN ?_ _) | (with_reducible refine Kd.C_drew ?_))); (case side4 => exact HC0_1.out); (case side5 => repeat (first | exact (Kd.C_below HR0_2.out HB.out) | (with_reducible refine Kd.C_alloc ?_ _) | (with_reducible refine Kd.C_drewN ?_ _) | (with_reducible refine Kd.C_drew ?_))); (case side6 => exact HC0_2.out); (case side7 => repeat (first | exact (Kd.C_below HR0_3.out HB.out) | (with_reducible refine Kd.C_alloc ?_ _) | (with_reducible refine Kd.C_drewN ?_ _) | (with_reducible refine Kd.C_drew ?_))); (case side8 => exact HC0_3.out); rintro e w20 ⟨rfl, hb⟩; refine ⟨_, rfl, ?_⟩; have n0_ := Aside0.mk (blk_below (g := gb345) (o := .cells #[.slice A0_0 l0_0.length c0_0, .slice A0_1 l0_1.length c0_1, .slice A0_2 l0_2.length c0_2, .slice A0_3 l0_3.length c0_3] 26 (0, 0)) (by (with_reducible repeat (first | refine blk_drewN ?_ _ | refine blk_drew ?_ | refine blk_alloc ?_ _)); exact BK345.out) hb); have n1_ := Aside0.mk (below_step (by repeat (first | (with_reducible first | exact HB.out | apply below_alloc | apply pw_below_drewN | apply below_drew1 | refine below_set ?_ GE345.out) | exact HB.out)) hb); clear BK345; clear HB; have BK345 := n0_; have HB := n1_; clear n0_ n1_; (try clear hb); (try clear hb2); (try clear hk); (try clear hi)))
  go_ret2
  exact ⟨_, by first | rfl | (simp [errW_none, errW_some] <;> rfl) | (simp [*, errW_none, errW_some] <;> rfl), by first | exact Kd.R_nil _ _ _ _ _ | exact Kd.N_nil _ _ _ _ _ | exact Kd.V_nil _ _ _ _ _ | exact Kd.Q_nil _ _ _ _ _ | exact Kd.S_nil _ _ _ _ _, by repeat (first | (with_reducible first | exact HB.out | apply below_alloc | apply pw_below_drewN | apply below_drew1 | refine below_set ?_ GE345.out) | exact HB.out)⟩
-- NOT PRINTED: function 11 (louverlaw12_ImageWrites)
-- NOT PRINTED: function 20 (louverkit_LentBytes)
-- NOT PRINTED: function 26 (louverkit_KeptBytes)
mutual
def louverref03_size.l0 : Nat → List Int → Int → Option (Int × Int)
 | 0, _, _ => none
 | k + 1, x0, x4 => if x4 < (x0.length : Int) then (if 0 ≤ x4 then (louverref03_size.j1 k x0 x4 (decide ((rd x0 x4) ≥ 128))) else (none)) else (louverref03_size.j1 k x0 x4 false)
def louverref03_size.j1 : Nat → List Int → Int → Bool → Option (Int × Int)
 | 0, _, _, _ => none
 | k + 1, x0, x4, x15 => if x15 = true then (if x4 = 9 then (some (0, 31)) else (louverref03_size.l0 k x0 (wrap64 (x4 + 1)))) else (if x4 = (x0.length : Int) then (some (0, 30)) else (some (wrap64 (x4 + 1), 0)))
end
def louverref03_same.l0 : Nat → List Int → List Int → Int → Option (Bool)
 | 0, _, _, _ => none
 | k + 1, x0, x1, x5 => if x5 < (x0.length : Int) then (if 0 ≤ x5 then (if x5 < (x1.length : Int) then (if (rd x0 x5) = (rd x1 x5) then (louverref03_same.l0 k x0 x1 (wrap64 (x5 + 1))) else (some false)) else (none)) else (none)) else (some true)
def louverref03_same.f (k : Nat) (l0 : List Int) (l1 : List Int) : Option (Bool) := if (l0.length : Int) = (l1.length : Int) then (louverref03_same.l0 k l0 l1 0) else (some false)
-- NOT PRINTED: function 86 (louverref12_reader_number)
-- NOT PRINTED: function 85 (louverref12_reader_int)
-- NOT PRINTED: function 84 (louverref12_reader_labels)
end Go.Proofs.YtgpdaihfjnihhaaDoor.PJ

namespace Go.Proofs.YtgpdaihfjnihhaaDoor.PJ
open Go.RowKit Go.Proofs.YtgpdaihfjnihhaaDoorW.PrintWords Go.Proofs.YtgpdaihfjnihhaaDoorW.PrintLast Go.Proofs.YtgpdaihfjnihhaaDoorW.PrintMore
attribute [local go_sem] max2_int min2_int max_two min_two max_three min_three max_four min_four   -- for this text's walks alone
set_option linter.unusedVariables false
set_option linter.unusedSimpArgs false
mutual
def louverref03_GetSigned.j0 : Nat → List Int → Int → Int → Option (Int × Int × Int)
 | 0, _, _, _ => none
 | k + 1, x0, x5, x7 => louverref03_GetSigned.l0 k x0 x5 x7 (wrap64 (x5 - 1))
def louverref03_GetSigned.l0 : Nat → List Int → Int → Int → Int → Option (Int × Int × Int)
 | 0, _, _, _, _ => none
 | k + 1, x0, x5, x7, x8 => if x8 ≥ 0 then (if 0 ≤ x8 then (if x8 < (x0.length : Int) then (louverref03_GetSigned.l0 k x0 x5 (Go.bits .or .i64 (wrap64 (x7 * 128)) (wrap64 (Int.tmod (rd x0 x8) 128))) (wrap64 (x8 - 1))) else (none)) else (none)) else ((louverref03_PutSigned.f k x7).bind fun t366 => (if 0 ≤ x5 then (if x5 ≤ (x0.length : Int) then ((louverref03_same.f k t366 (x0.take (x5 : Int).toNat)).bind fun t370 => (if t370 = true then (some (x7, x5, 0)) else (some (0, 0, 31)))) else (none)) else (none)))
end
-- NOT PRINTED: function 24 (louverref10_Get)
-- NOT PRINTED: function 87 (louverref12_reader_function)
-- NOT PRINTED: function 43 (louverref12_Read)
-- NOT PRINTED: function 90 (louverkit_ApartLabels)
-- NOT PRINTED: function 91 (louverkit_ApartCode)
-- NOT PRINTED: function 45 (louverkit_Modules)
-- NOT PRINTED: function 12 (louverlaw12_ImageReads)
-- NOT PRINTED: function 13 (louverlaw12_ImageSums)
-- NOT PRINTED: function 49 (louverlaw12_wrong)
-- NOT PRINTED: function 14 (louverlaw12_ImageKnown)
-- NOT PRINTED: function 15 (louverlaw12_ImageBack)
-- NOT PRINTED: function 105 (leb_PutSigned_1)
def leb_put_int64_105.l0 : Nat → Int → List Int → Option (List Int)
 | 0, _, _ => none
 | k + 1, x1, x7 => if x1 ≥ (-64) then (if x1 < 64 then (if x7.length < 140737488355328 then (some (x7 ++ [Go.bits .and .u8 ((x1) % 256) 127])) else (none)) else (if x7.length < 140737488355328 then (leb_put_int64_105.l0 k (x1 / 128) (x7 ++ [Go.bits .or .u8 (Go.bits .and .u8 ((x1) % 256) 127) 128])) else (none))) else (if x7.length < 140737488355328 then (leb_put_int64_105.l0 k (x1 / 128) (x7 ++ [Go.bits .or .u8 (Go.bits .and .u8 ((x1) % 256) 127) 128])) else (none))
def leb_put_int64_105.f (k : Nat) (l0 : List Int) (a1 : Int)  : Option (List Int) := (slices_Clone_byte_byte.f l0).bind fun t443 => (leb_put_int64_105.l0 k a1 t443)
set_option maxHeartbeats 8000000 in
set_option maxRecDepth 100000 in
theorem leb_put_int64_105.calls (k : Nat) (A0 : Option Addr) (c0 : Nat) (l0 : List Int) (a1 : Int)  (r : List Int) (w : World) (hr0 : Kd.C (Kd.int .u8) w A0 l0.length l0) (hc0 : l0.length ≤ c0) (h : leb_put_int64_105.f k l0 a1 = some r) :
  Calls Tryd.prog 104 #[.slice A0 l0.length c0, .int .i64 a1, (.func (.func 105) #[] #[])] w fun e w' => ∃ v0_ : Value, e = .returned (v0_) ∧ Kd.V (Kd.int .u8) 5 w' w.heap.size (fun k_ => (w.heap.size ≤ k_)) v0_ r ∧ Below w.heap.size w w' := by
 have HR0 := Aside0.mk hr0
 have HC0 := Aside0.mk hc0
 clear hr0 hc0
 have HB := Aside0.mk (Below.refl w.heap.size w)
 have H : ((slices_Clone_byte_byte.f l0).bind fun t443 => (leb_put_int64_105.l0 k a1 t443)) = some r := h
 clear h
 replace H := Option.bind_eq_some_iff.mp H
 obtain ⟨t443, A40, H⟩ := H
 replace H : (leb_put_int64_105.l0 k a1 t443) = some r := H
 have A4 := Aside0.mk A40
 clear A40
 have H' := Aside0.mk H
 clear H
 go_enter Tryd.func104, Tryd.ntmps104
 go_wp2_with (first | ((with_reducible refine gate_callee (f := 127) rfl ?_); refine goesL_ (some 9) rfl rfl Tryd.func127 (by kernel_rfl) rfl #[.slice A0 l0.length c0] rfl (by (try simp only [List.map_toArray, List.map_cons, List.map_nil]); first | done | rfl | (simp only [List.length_drop, List.length_take]; rfl)) ?_; (with_reducible refine (slices_Clone_byte_byte.calls _ _ l0 t443 _ ?side1 ?side2 A4.out).mono ?_); (case side1 => repeat (first | exact HR0.out | (with_reducible refine Kd.C_alloc ?_ _) | (with_reducible refine Kd.C_drewN ?_ _) | (with_reducible refine Kd.C_drew ?_))); (case side2 => exact HC0.out); rintro e w5 ⟨v444, rfl, ho0, hb⟩; refine ⟨_, rfl, ?_⟩; have n0_ := Aside0.mk (Kd.R_lower (Kd.R_newM (M := fun k_ => (w.heap.size ≤ k_)) ho0 (below_size (by repeat (first | (with_reducible first | exact HB.out | apply below_alloc | apply pw_below_drewN | apply below_drew1) | exact HB.out))) (fun k_ h_ => h_)) (below_size (by repeat (first | (with_reducible first | exact HB.out | apply below_alloc | apply pw_below_drewN | apply below_drew1) | exact HB.out)))); have n1_ := Aside0.mk (below_step (by repeat (first | (with_reducible first | exact HB.out | apply below_alloc | apply pw_below_drewN | apply below_drew1) | exact HB.out)) hb); clear HB; have HO445 := n0_; have HB := n1_; clear n0_ n1_; (try clear hb); (try clear hb2); (try clear hk); (try clear hi); (try clear ho0)) | (go_at_call 58; go_in) | (go_at_call 105; go_in))
 go_loopg [1, 7] k (fun kq v1 v7 w' => ∃ (x1_1 : Int) (x7_1 : List Int), v1 = .int .i64 x1_1 ∧ Aside0 (leb_put_int64_105.l0 kq x1_1 x7_1 = some r) ∧ Aside0 (kq ≤ k) ∧ Aside0 (Kd.R (Kd.int .u8) 5 w' w.heap.size (fun k_ => (w.heap.size ≤ k_)) v7 x7_1) ∧ Aside0 (Below w.heap.size w w'))
 case atStart => exact ⟨(a1), (t443), (by first | rfl | (simp; done) | (simp [*]; done)), H', ⟨Nat.le_refl _⟩, ⟨by (with_reducible repeat (first | apply Kd.R_alloc | apply Kd.R_drewN | apply Kd.R_drew)); exact Kd.R_mono HO445.out (fun _ hk => hk.1)⟩, ⟨by repeat (first | (with_reducible first | exact HB.out | apply below_alloc | apply pw_below_drewN | apply below_drew1) | exact HB.out)⟩⟩
 case round =>
  clear H'
  try clear c1
  try clear p2
  obtain ⟨x1_1, x7_1, rfl, HA, HK1, HO_7, HB⟩ := hrel
  cases gk with
  | zero => exact absurd HA.out (by simp [leb_put_int64_105.l0])
  | succ k1 =>
   have H := HA.out
   clear HA
   simp only [leb_put_int64_105.l0] at H
   by_cases c6 : x1_1 ≥ (-64)
   ·
    rw [if_pos c6] at H
    have c6b0 : decide ((-64) ≤ x1_1) = true := decide_eq_true c6
    clear c6
    by_cases c7 : x1_1 < 64
    ·
     rw [if_pos c7] at H
     have c7b0 : decide (x1_1 < 64) = true := decide_eq_true c7
     clear c7
     by_cases c8 : x7_1.length < 140737488355328
     ·
      rw [if_pos c8] at H
      have LMc8 := Aside0.mk c8
      clear c8
      obtain ⟨y446, hy446⟩ : ∃ y_ : List Int, y_ = (x7_1 ++ [Go.bits .and .u8 ((x1_1) % 256) 127]) := ⟨_, rfl⟩
      replace H : (some y446) = some r := by first | (rw [hy446]; with_reducible exact H) | (have H2_ := (Option.bind_some _ _).symm.trans H; rw [hy446]; with_reducible exact H2_) | (have H2_ := (Option.bind_some _ _).symm.trans H; with_reducible exact H2_) | with_reducible exact H | (rw [hy446]; exact H) | exact H
      have Ny446 := Aside0.mk hy446
      clear hy446
      obtain rfl := Option.some.inj H
      go_wp2_with (first | ((with_reducible refine gate_builtin (b := .append) (xs := #[.tmp 23, .tmp 27]) rfl ?_); at_builtin; refine Kd.R_append (Kd.int .u8) (w0 := w) w.heap.size rfl (.tmp 23) (.tmp 27) 27 5 (.int .u8 0) 1 rfl Tryd.underlying27 info5 rfl (by decide) (by omega) u7 x7_1 (Go.bits .and .u8 ((x1_1) % 256) 127) [.int .u8 (Go.bits .and .u8 ((x1_1) % 256) 127)] (fun k_ => (w.heap.size ≤ k_)) (fun _ => False) rfl rfl ?aP (fun _ hk => hk.elim) ?aF ?aO ?aB ?aS ?aL ?_; (case aP => exact rfl); (case aB => exact (by repeat (first | (with_reducible first | exact HB.out | apply below_alloc | apply pw_below_drewN | apply below_drew1) | exact HB.out))); (case aF => exact (fun k_ hk => (Nat.le_trans (below_size (by repeat (first | (with_reducible first | exact HB.out | apply below_alloc | apply pw_below_drewN | apply below_drew1) | exact HB.out))) hk))); (case aO => exact (by (with_reducible repeat (first | apply Kd.R_alloc | apply Kd.R_drewN | apply Kd.R_drew)); exact HO_7.out)); (case aS => exact (below_size (by repeat (first | (with_reducible first | exact HB.out | apply below_alloc | apply pw_below_drewN | apply below_drew1) | exact HB.out)))); (case aL => have := LMc8.out; omega); intro v447 w9 ho hb hg hat; rw [← Ny446.out] at ho; have n0_ := Aside0.mk (hb); have n1_ := Aside0.mk (ho); clear HB; clear HO_7; have HB := n0_; have HO448 := n1_; clear n0_ n1_; clear ho hb hg hat; obtain ⟨Ao10, co10, eo10⟩ := Kd.R_slice HO448.out; subst eo10; obtain ⟨i011, hi011, _⟩ := info_parts info5; have hclip11 := clip_run (P := Tryd.prog) 27 5 Tryd.underlying27 hi011 Ao10 y446.length co10 (Kd.R_reads' HO448.out).2.1; clear hi011; have HO450 := Aside0.mk (clip_V (base := w.heap.size) (Kd.R_V HO448.out))) | (go_at_call 58; go_in) | (go_at_call 105; go_in))
      go_ret
      exact ⟨_, by first | rfl | (simp [errW_none, errW_some] <;> rfl) | (simp [*, errW_none, errW_some] <;> rfl), by (with_reducible repeat (first | apply Kd.V_alloc | apply Kd.V_drewN | apply Kd.V_drew)); exact HO450.out, by repeat (first | (with_reducible first | exact HB.out | apply below_alloc | apply pw_below_drewN | apply below_drew1) | exact HB.out)⟩
     ·
      rw [if_neg c8] at H
      exact absurd H (by simp)
    ·
     rw [if_neg c7] at H
     have c7b0 : decide (x1_1 < 64) = false := decide_eq_false c7
     clear c7
     by_cases c12 : x7_1.length < 140737488355328
     ·
      rw [if_pos c12] at H
      have LMc12 := Aside0.mk c12
      clear c12
      obtain ⟨y451, hy451⟩ : ∃ y_ : List Int, y_ = (x7_1 ++ [Go.bits .or .u8 (Go.bits .and .u8 ((x1_1) % 256) 127) 128]) := ⟨_, rfl⟩
      replace H : (leb_put_int64_105.l0 k1 (x1_1 / 128) y451) = some r := by first | (rw [hy451]; with_reducible exact H) | (have H2_ := (Option.bind_some _ _).symm.trans H; rw [hy451]; with_reducible exact H2_) | (have H2_ := (Option.bind_some _ _).symm.trans H; with_reducible exact H2_) | with_reducible exact H | (rw [hy451]; exact H) | exact H
      have Ny451 := Aside0.mk hy451
      clear hy451
      have H' := Aside0.mk H
      clear H
      go_wp2_with (first | ((with_reducible refine gate_builtin (b := .append) (xs := #[.tmp 14, .tmp 19]) rfl ?_); at_builtin; refine Kd.R_append (Kd.int .u8) (w0 := w) w.heap.size rfl (.tmp 14) (.tmp 19) 27 5 (.int .u8 0) 1 rfl Tryd.underlying27 info5 rfl (by decide) (by omega) u7 x7_1 (Go.bits .or .u8 (Go.bits .and .u8 ((x1_1) % 256) 127) 128) [.int .u8 (Go.bits .or .u8 (Go.bits .and .u8 ((x1_1) % 256) 127) 128)] (fun k_ => (w.heap.size ≤ k_)) (fun _ => False) rfl rfl ?aP (fun _ hk => hk.elim) ?aF ?aO ?aB ?aS ?aL ?_; (case aP => exact rfl); (case aB => exact (by repeat (first | (with_reducible first | exact HB.out | apply below_alloc | apply pw_below_drewN | apply below_drew1) | exact HB.out))); (case aF => exact (fun k_ hk => (Nat.le_trans (below_size (by repeat (first | (with_reducible first | exact HB.out | apply below_alloc | apply pw_below_drewN | apply below_drew1) | exact HB.out))) hk))); (case aO => exact (by (with_reducible repeat (first | apply Kd.R_alloc | apply Kd.R_drewN | apply Kd.R_drew)); exact HO_7.out)); (case aS => exact (below_size (by repeat (first | (with_reducible first | exact HB.out | apply below_alloc | apply pw_below_drewN | apply below_drew1) | exact HB.out)))); (case aL => have := LMc12.out; omega); intro v452 w13 ho hb hg hat; rw [← Ny451.out] at ho; have n0_ := Aside0.mk (hb); have n1_ := Aside0.mk (ho); clear HB; clear HO_7; have HB := n0_; have HO453 := n1_; clear n0_ n1_; clear ho hb hg hat) | (go_at_call 58; go_in) | (go_at_call 105; go_in))
      go_roundg k1
      case measure => have := HK1.out; omega
      case rel => exact ⟨(x1_1 / 128), (y451), (by first | rfl | (simp; done) | (simp [*]; done)), H', ⟨by have := HK1.out; omega⟩, ⟨by (with_reducible repeat (first | apply Kd.R_alloc | apply Kd.R_drewN | apply Kd.R_drew)); exact HO453.out⟩, ⟨by repeat (first | (with_reducible first | exact HB.out | apply below_alloc | apply pw_below_drewN | apply below_drew1) | exact HB.out)⟩⟩
     ·
      rw [if_neg c12] at H
      exact absurd H (by simp)
   ·
    rw [if_neg c6] at H
    have c6b0 : decide ((-64) ≤ x1_1) = false := decide_eq_false c6
    clear c6
    by_cases c14 : x7_1.length < 140737488355328
    ·
     rw [if_pos c14] at H
     have LMc14 := Aside0.mk c14
     clear c14
     obtain ⟨y454, hy454⟩ : ∃ y_ : List Int, y_ = (x7_1 ++ [Go.bits .or .u8 (Go.bits .and .u8 ((x1_1) % 256) 127) 128]) := ⟨_, rfl⟩
     replace H : (leb_put_int64_105.l0 k1 (x1_1 / 128) y454) = some r := by first | (rw [hy454]; with_reducible exact H) | (have H2_ := (Option.bind_some _ _).symm.trans H; rw [hy454]; with_reducible exact H2_) | (have H2_ := (Option.bind_some _ _).symm.trans H; with_reducible exact H2_) | with_reducible exact H | (rw [hy454]; exact H) | exact H
     have Ny454 := Aside0.mk hy454
     clear hy454
     have H' := Aside0.mk H
     clear H
     go_wp2_with (first | ((with_reducible refine gate_builtin (b := .append) (xs := #[.tmp 14, .tmp 19]) rfl ?_); at_builtin; refine Kd.R_append (Kd.int .u8) (w0 := w) w.heap.size rfl (.tmp 14) (.tmp 19) 27 5 (.int .u8 0) 1 rfl Tryd.underlying27 info5 rfl (by decide) (by omega) u7 x7_1 (Go.bits .or .u8 (Go.bits .and .u8 ((x1_1) % 256) 127) 128) [.int .u8 (Go.bits .or .u8 (Go.bits .and .u8 ((x1_1) % 256) 127) 128)] (fun k_ => (w.heap.size ≤ k_)) (fun _ => False) rfl rfl ?aP (fun _ hk => hk.elim) ?aF ?aO ?aB ?aS ?aL ?_; (case aP => exact rfl); (case aB => exact (by repeat (first | (with_reducible first | exact HB.out | apply below_alloc | apply pw_below_drewN | apply below_drew1) | exact HB.out))); (case aF => exact (fun k_ hk => (Nat.le_trans (below_size (by repeat (first | (with_reducible first | exact HB.out | apply below_alloc | apply pw_below_drewN | apply below_drew1) | exact HB.out))) hk))); (case aO => exact (by (with_reducible repeat (first | apply Kd.R_alloc | apply Kd.R_drewN | apply Kd.R_drew)); exact HO_7.out)); (case aS => exact (below_size (by repeat (first | (with_reducible first | exact HB.out | apply below_alloc | apply pw_below_drewN | apply below_drew1) | exact HB.out)))); (case aL => have := LMc14.out; omega); intro v455 w15 ho hb hg hat; rw [← Ny454.out] at ho; have n0_ := Aside0.mk (hb); have n1_ := Aside0.mk (ho); clear HB; clear HO_7; have HB := n0_; have HO456 := n1_; clear n0_ n1_; clear ho hb hg hat) | (go_at_call 58; go_in) | (go_at_call 105; go_in))
     go_roundg k1
     case measure => have := HK1.out; omega
     case rel => exact ⟨(x1_1 / 128), (y454), (by first | rfl | (simp; done) | (simp [*]; done)), H', ⟨by have := HK1.out; omega⟩, ⟨by (with_reducible repeat (first | apply Kd.R_alloc | apply Kd.R_drewN | apply Kd.R_drew)); exact HO456.out⟩, ⟨by repeat (first | (with_reducible first | exact HB.out | apply below_alloc | apply pw_below_drewN | apply below_drew1) | exact HB.out)⟩⟩
    ·
     rw [if_neg c14] at H
     exact absurd H (by simp)
def leb_PutSigned.f (k : Nat) (l0 : List Int) (a1 : Int) : Option (List Int) := (leb_put_int64_105.f k l0 a1).bind fun t457 => (some t457)
set_option maxHeartbeats 8000000 in
set_option maxRecDepth 100000 in
theorem leb_PutSigned.calls (k : Nat) (A0 : Option Addr) (c0 : Nat) (l0 : List Int) (a1 : Int) (r : List Int) (w : World) (hr0 : Kd.C (Kd.int .u8) w A0 l0.length l0) (hc0 : l0.length ≤ c0) (h : leb_PutSigned.f k l0 a1 = some r) :
  Calls Tryd.prog 64 #[.slice A0 l0.length c0, .int .i64 a1] w fun e w' => ∃ v0_ : Value, e = .returned (v0_) ∧ Kd.V (Kd.int .u8) 5 w' w.heap.size (fun k_ => (w.heap.size ≤ k_)) v0_ r ∧ Below w.heap.size w w' := by
 have HR0 := Aside0.mk hr0
 have HC0 := Aside0.mk hc0
 clear hr0 hc0
 have HB := Aside0.mk (Below.refl w.heap.size w)
 have H : ((leb_put_int64_105.f k l0 a1).bind fun t457 => (some t457)) = some r := h
 clear h
 replace H := Option.bind_eq_some_iff.mp H
 obtain ⟨t457, A30, H⟩ := H
 replace H : (some t457) = some r := H
 have A3 := Aside0.mk A30
 clear A30
 obtain rfl := Option.some.inj H
 go_enter Tryd.func64, Tryd.ntmps64
 go_wp2_with (first | (go_at_call 104; (with_reducible refine (leb_put_int64_105.calls k _ _ l0 a1 t457 _ ?side1 ?side2 A3.out).mono ?_); (case side1 => repeat (first | exact HR0.out | (with_reducible refine Kd.C_alloc ?_ _) | (with_reducible refine Kd.C_drewN ?_ _) | (with_reducible refine Kd.C_drew ?_))); (case side2 => exact HC0.out); rintro e w4 ⟨v458, rfl, ho0, hb⟩; have n0_ := Aside0.mk (Kd.V_lower (Kd.V_mono (ok' := fun k_ => (w.heap.size ≤ k_)) ho0 (fun k_ hk_ => (Nat.le_trans (below_size (by repeat (first | (with_reducible first | exact HB.out | apply below_alloc | apply pw_below_drewN | apply below_drew1) | exact HB.out))) hk_))) (below_size (by repeat (first | (with_reducible first | exact HB.out | apply below_alloc | apply pw_below_drewN | apply below_drew1) | exact HB.out)))); have n1_ := Aside0.mk (below_step (by repeat (first | (with_reducible first | exact HB.out | apply below_alloc | apply pw_below_drewN | apply below_drew1) | exact HB.out)) hb); clear HB; have HO459 := n0_; have HB := n1_; clear n0_ n1_; (try clear hb); (try clear hb2); (try clear hk); (try clear hi); (try clear ho0)))
 go_ret
 exact ⟨_, by first | rfl | (simp [errW_none, errW_some] <;> rfl) | (simp [*, errW_none, errW_some] <;> rfl), by (with_reducible repeat (first | apply Kd.V_alloc | apply Kd.V_drewN | apply Kd.V_drew)); exact HO459.out, by repeat (first | (with_reducible first | exact HB.out | apply below_alloc | apply pw_below_drewN | apply below_drew1) | exact HB.out)⟩
-- NOT PRINTED: function 21 (code_Put)
-- NOT PRINTED: function 39 (louverlaw10_put)
end Go.Proofs.YtgpdaihfjnihhaaDoor.PJ

namespace Go.Proofs.YtgpdaihfjnihhaaDoor.PJ
open Go.RowKit Go.Proofs.YtgpdaihfjnihhaaDoorW.PrintWords Go.Proofs.YtgpdaihfjnihhaaDoorW.PrintLast Go.Proofs.YtgpdaihfjnihhaaDoorW.PrintMore
attribute [local go_sem] max2_int min2_int max_two min_two max_three min_three max_four min_four   -- for this text's walks alone
set_option linter.unusedVariables false
set_option linter.unusedSimpArgs false
mutual
def leb_GetSigned.l0 : Nat → List Int → Int → Int → Int → Int → Option (Int × Int × Int)
 | 0, _, _, _, _, _ => none
 | k + 1, x0, x5, x7, x17, x18 => if x18 < x17 then (if 0 ≤ x18 then (if x18 < (x0.length : Int) then (if 0 ≤ (wrap64 (7 * x18)) then (leb_GetSigned.l0 k x0 x5 (Go.bits .or .i64 x7 (shl .i64 (wrap64 (Go.bits .and .u8 (rd x0 x18) 127)) (wrap64 (7 * x18)))) x17 (wrap64 (x18 + 1))) else (none)) else (none)) else (none)) else (if x5 < 10 then (if 0 ≤ (wrap64 (x5 - 1)) then (if (wrap64 (x5 - 1)) < (x0.length : Int) then (leb_GetSigned.j1 k x0 x5 x7 ((Go.bits .and .u8 (rd x0 (wrap64 (x5 - 1))) 64) != 0)) else (none)) else (none)) else (leb_GetSigned.j1 k x0 x5 x7 false))
def leb_GetSigned.j1 : Nat → List Int → Int → Int → Bool → Option (Int × Int × Int)
 | 0, _, _, _, _ => none
 | k + 1, x0, x5, x7, x43 => if x43 = true then (if 0 ≤ (wrap64 (7 * x5)) then (leb_GetSigned.j2 k x0 x5 (Go.bits .or .i64 x7 (shl .i64 (-1) (wrap64 (7 * x5))))) else (none)) else (leb_GetSigned.j2 k x0 x5 x7)
def leb_GetSigned.j2 : Nat → List Int → Int → Int → Option (Int × Int × Int)
 | 0, _, _, _ => none
 | k + 1, x0, x5, x7 => (leb_PutSigned.f k ([] : List Int) x7).bind fun t465 => (if 0 ≤ x5 then (if x5 ≤ (x0.length : Int) then ((bytes_Equal.f t465 (x0.take (x5 : Int).toNat)).bind fun t469 => (if t469 = true then (some (x7, x5, 0)) else (some (0, 0, 31)))) else (none)) else (none))
end
def leb_GetSigned.f (k : Nat) (l0 : List Int) : Option (Int × Int × Int) := (leb_groups.f k l0).bind fun bt461 => (if bt461.2 = 0 then (leb_GetSigned.l0 k l0 bt461.1 0 bt461.1 0) else (some (0, 0, bt461.2)))
set_option maxHeartbeats 8000000 in
set_option maxRecDepth 100000 in
theorem leb_GetSigned.calls (k : Nat) (A0 : Option Addr) (c0 : Nat) (l0 : List Int) (r1 : Int) (r2 : Int) (r3 : Int) (w : World) (hr0 : Kd.C (Kd.int .u8) w A0 l0.length l0) (hc0 : l0.length ≤ c0) (h : leb_GetSigned.f k l0 = some (r1, r2, r3)) :
  Calls Tryd.prog 68 #[.slice A0 l0.length c0] w fun e w' => e = .returned (.tuple #[.int .i64 r1, .int .i64 r2, .int .i64 r3]) ∧ Below w.heap.size w w' := by
 have HR0 := Aside0.mk hr0
 have HC0 := Aside0.mk hc0
 clear hr0 hc0
 have HB := Aside0.mk (Below.refl w.heap.size w)
 have H : ((leb_groups.f k l0).bind fun bt461 => (if bt461.2 = 0 then (leb_GetSigned.l0 k l0 bt461.1 0 bt461.1 0) else (some (0, 0, bt461.2)))) = some (r1, r2, r3) := h
 clear h
 replace H := Option.bind_eq_some_iff.mp H
 obtain ⟨⟨t461, t462⟩, A20, H⟩ := H
 replace H : (if t462 = 0 then (leb_GetSigned.l0 k l0 t461 0 t461 0) else (some (0, 0, t462))) = some (r1, r2, r3) := H
 have A2 := Aside0.mk A20
 clear A20
 by_cases c3 : t462 = 0
 ·
  rw [if_pos c3] at H
  have c3b0 : (t462 == 0) = true := beq_iff_eq.mpr c3
  have c3b1 : (t462 != 0) = false := bne_eq_false_iff_eq.mpr c3
  clear c3
  have H' := Aside0.mk H
  clear H
  go_enter Tryd.func68, Tryd.ntmps68
  go_wp2_with (first | ((with_reducible refine gate_callee (f := 109) rfl ?_); refine goesL_ (some 11) rfl rfl Tryd.func109 (by kernel_rfl) rfl #[.slice A0 l0.length c0] rfl (by (try simp only [List.map_toArray, List.map_cons, List.map_nil]); first | done | rfl | (simp only [List.length_drop, List.length_take]; rfl)) ?_; (with_reducible refine (leb_groups.calls k _ _ l0 t461 t462 _ ?side1 ?side2 A2.out).mono ?_); (case side1 => repeat (first | exact HR0.out | (with_reducible refine Kd.C_alloc ?_ _) | (with_reducible refine Kd.C_drewN ?_ _) | (with_reducible refine Kd.C_drew ?_))); (case side2 => exact HC0.out); rintro e w' ⟨rfl, ⟨nd, rfl⟩⟩; refine ⟨_, rfl, ?_⟩))
  go_loopg [7, 18] k (fun kq v7 v18 w' => ∃ (x7_1 : Int) (x18_1 : Int), v7 = .int .i64 x7_1 ∧ v18 = .int .i64 x18_1 ∧ Aside0 (leb_GetSigned.l0 kq l0 t461 x7_1 t461 x18_1 = some (r1, r2, r3)) ∧ Aside0 (kq ≤ k) ∧ Aside0 (Below w.heap.size w w'))
  case atStart => exact ⟨(0), (0), (by first | rfl | (simp; done) | (simp [*]; done)), (by first | rfl | (simp; done) | (simp [*]; done)), H', ⟨Nat.le_refl _⟩, ⟨by repeat (first | (with_reducible first | exact HB.out | apply below_alloc | apply pw_below_drewN | apply below_drew1) | exact HB.out)⟩⟩
  case round =>
   clear H'
   try clear c1
   try clear p2
   try clear c3
   try clear c3b0
   try clear c3b1
   obtain ⟨x7_1, x18_1, rfl, rfl, HA, HK1, HB⟩ := hrel
   cases gk with
   | zero => exact absurd HA.out (by simp [leb_GetSigned.l0])
   | succ k1 =>
    have H := HA.out
    clear HA
    simp only [leb_GetSigned.l0] at H
    by_cases c4 : x18_1 < t461
    ·
     rw [if_pos c4] at H
     have c4b0 : decide (x18_1 < t461) = true := decide_eq_true c4
     clear c4
     by_cases c5 : 0 ≤ x18_1
     ·
      rw [if_pos c5] at H
      have c5b0 : decide (0 ≤ x18_1) = true := decide_eq_true c5
      clear c5
      by_cases c6 : x18_1 < (l0.length : Int)
      ·
       rw [if_pos c6] at H
       have c6b0 : decide (x18_1 < (l0.length : Int)) = true := decide_eq_true c6
       clear c6
       obtain ⟨ji7, hji7⟩ : ∃ j_ : Int, (wrap64 (7 * x18_1)) = j_ := ⟨_, rfl⟩
       replace H : (if 0 ≤ (ji7) then (leb_GetSigned.l0 k1 l0 t461 (Go.bits .or .i64 x7_1 (shl .i64 (wrap64 (Go.bits .and .u8 (rd l0 x18_1) 127)) (ji7))) t461 (wrap64 (x18_1 + 1))) else (none)) = some (r1, r2, r3) := by first | (rw [hji7] at H; exact H) | (simp only [hji7] at H ⊢; exact H)
       have hji7w : (IntKind.i64.wrap (7 * x18_1)) = ji7 := (i64_w _).trans hji7
       by_cases c8 : 0 ≤ (ji7)
       ·
        rw [if_pos c8] at H
        have c8b0 := eq_true c8
        have c8b1 : decide (0 ≤ (ji7)) = true := decide_eq_true c8
        clear c8
        obtain ⟨ji9, hji9⟩ : ∃ j_ : Int, (shl .i64 (wrap64 (Go.bits .and .u8 (rd l0 x18_1) 127)) (ji7)) = j_ := ⟨_, rfl⟩
        replace H : (leb_GetSigned.l0 k1 l0 t461 (Go.bits .or .i64 x7_1 (ji9)) t461 (wrap64 (x18_1 + 1))) = some (r1, r2, r3) := by first | (rw [hji9] at H; exact H) | (simp only [hji9] at H ⊢; exact H)
        have hji9_ : (IntKind.i64.wrap ((wrap64 (Go.bits .and .u8 (rd l0 x18_1) 127)) * 2 ^ min (ji7).toNat 64)) = ji9 := hji9
        have hji9z : (ji7) ≤ 64 → (IntKind.i64.wrap ((wrap64 (Go.bits .and .u8 (rd l0 x18_1) 127)) * 2 ^ (ji7).toNat)) = ji9 := shl_small hji9
        have hji9y : (wrap64 ((wrap64 (Go.bits .and .u8 (rd l0 x18_1) 127)) * 2 ^ min (ji7).toNat 64)) = ji9 := (i64_w _).symm.trans hji9_
        have hji9x : (ji7) ≤ 64 → (wrap64 ((wrap64 (Go.bits .and .u8 (rd l0 x18_1) 127)) * 2 ^ (ji7).toNat)) = ji9 := fun h_ => (i64_w _).symm.trans (hji9z h_)
        have H' := Aside0.mk H
        clear H
        have p463 : 0 ≤ (x18_1 : Int) := of_decide_eq_true (by first | (with_reducible assumption) | assumption)
        have q463 : x18_1 < (l0.length : Int) := of_decide_eq_true (by first | (with_reducible assumption) | assumption)
        obtain ⟨ad463, e463, hx463_0⟩ := Kd.at_int HR0.out x18_1 p463 q463
        cases e463
        replace hx463_0 := (HB.out.cell (World.block_lt_of_cell? w _ hx463_0)).trans hx463_0
        replace p463 := eq_true p463
        replace q463 := eq_true q463
        go_wp2
        go_roundg k1
        case measure => have := HK1.out; omega
        case rel => exact ⟨(Go.bits .or .i64 x7_1 (ji9)), (wrap64 (x18_1 + 1)), (by first | rfl | (simp; done) | (simp only [← hji9] <;> (first | rfl | simp)) | (simp [*]; done)), (by first | rfl | (simp; done) | (simp [*]; done)), H', ⟨by have := HK1.out; omega⟩, ⟨by repeat (first | (with_reducible first | exact HB.out | apply below_alloc | apply pw_below_drewN | apply below_drew1) | exact HB.out)⟩⟩
       ·
        rw [if_neg c8] at H
        exact absurd H (by simp)
      ·
       rw [if_neg c6] at H
       exact absurd H (by simp)
     ·
      rw [if_neg c5] at H
      exact absurd H (by simp)
    ·
     rw [if_neg c4] at H
     have c4b0 : decide (x18_1 < t461) = false := decide_eq_false c4
     clear c4
     have HC10 := Aside0.mk H
     clear H
     go_upto_region 10 with (fail)
     go_cut [43] (fun v43 wc => ∃ (kq : Nat) (x43_9 : Bool), v43 = .bool x43_9 ∧ Aside0 (leb_GetSigned.j1 kq l0 t461 x7_1 x43_9 = some (r1, r2, r3)) ∧ Aside0 (kq ≤ k1) ∧ Aside0 (Below w.heap.size w wc))
     case first =>
      have H := HC10.out
      clear HC10
      by_cases c11 : t461 < 10
      ·
       rw [if_pos c11] at H
       have c11b0 : decide (t461 < 10) = true := decide_eq_true c11
       clear c11
       (first | rw [c11b0] | (simp only [i64_w, i32_w]; rw [c11b0]) | skip)
       obtain ⟨ji12, hji12⟩ : ∃ j_ : Int, (wrap64 (t461 - 1)) = j_ := ⟨_, rfl⟩
       replace H : (if 0 ≤ (ji12) then (if (ji12) < (l0.length : Int) then (leb_GetSigned.j1 k1 l0 t461 x7_1 ((Go.bits .and .u8 (rd l0 (ji12)) 64) != 0)) else (none)) else (none)) = some (r1, r2, r3) := by first | (rw [hji12] at H; exact H) | (simp only [hji12] at H ⊢; exact H)
       have hji12w : (IntKind.i64.wrap (t461 - 1)) = ji12 := (i64_w _).trans hji12
       by_cases c13 : 0 ≤ (ji12)
       ·
        rw [if_pos c13] at H
        have c13b0 : decide (0 ≤ (ji12)) = true := decide_eq_true c13
        clear c13
        by_cases c14 : (ji12) < (l0.length : Int)
        ·
         rw [if_pos c14] at H
         have c14b0 : decide ((ji12) < (l0.length : Int)) = true := decide_eq_true c14
         clear c14
         have H' := Aside0.mk H
         clear H
         have p464 : 0 ≤ ((ji12) : Int) := of_decide_eq_true (by first | (with_reducible assumption) | assumption)
         have q464 : (ji12) < (l0.length : Int) := of_decide_eq_true (by first | (with_reducible assumption) | assumption)
         obtain ⟨ad464, e464, hx464_0⟩ := Kd.at_int HR0.out (ji12) p464 q464
         cases e464
         replace hx464_0 := (HB.out.cell (World.block_lt_of_cell? w _ hx464_0)).trans hx464_0
         replace p464 := eq_true p464
         replace q464 := eq_true q464
         go_wp2
         go_meet
         case rel => exact ⟨_, (((Go.bits .and .u8 (rd l0 (ji12)) 64) != 0)), (by first | rfl | (simp; done) | (simp only [← hji12] <;> (first | rfl | simp)) | (simp [*]; done)), H', ⟨by have := HK1.out; first | omega | exact Nat.le_refl _⟩, ⟨by repeat (first | (with_reducible first | exact HB.out | apply below_alloc | apply pw_below_drewN | apply below_drew1) | exact HB.out)⟩⟩
        ·
         rw [if_neg c14] at H
         exact absurd H (by simp)
       ·
        rw [if_neg c13] at H
        exact absurd H (by simp)
      ·
       rw [if_neg c11] at H
       have c11b0 : decide (t461 < 10) = false := decide_eq_false c11
       clear c11
       (first | rw [c11b0] | (simp only [i64_w, i32_w]; rw [c11b0]) | skip)
       have H' := Aside0.mk H
       clear H
       go_wp2
       go_meet
       case rel => exact ⟨_, (false), (by first | rfl | (simp; done) | (simp [*]; done)), H', ⟨by have := HK1.out; first | omega | exact Nat.le_refl _⟩, ⟨by repeat (first | (with_reducible first | exact HB.out | apply below_alloc | apply pw_below_drewN | apply below_drew1) | exact HB.out)⟩⟩
     case rest =>
      clear HC10
      try clear c1
      try clear p2
      try clear c3
      try clear c3b0
      try clear c3b1
      try clear c4
      try clear c4b0
      try clear p4
      try clear q4
      try clear hx4
      try clear c5
      try clear c5b0
      try clear c6
      try clear c6b0
      try clear p6
      try clear c8
      try clear c8b0
      try clear c8b1
      try clear c10
      try clear c11
      try clear c11b0
      try clear c13
      try clear c13b0
      try clear c14
      try clear c14b0
      try clear hx463_0
      try clear hx464_0
      try clear p2
      try clear p463
      try clear p464
      try clear q463
      try clear q464
      obtain ⟨kq, x43_9, rfl, HA, HJ9, HB⟩ := hcut
      cases kq with
      | zero => exact absurd HA.out (by simp [leb_GetSigned.j1])
      | succ kj9 =>
       have H := HA.out
       clear HA
       simp only [leb_GetSigned.j1] at H
       have HC15 := Aside0.mk H
       clear H
       go_upto_if 43 with (fail)
       go_cut [7] (fun v7 wc => ∃ (kq : Nat) (x7_14 : Int), v7 = .int .i64 x7_14 ∧ Aside0 (leb_GetSigned.j2 kq l0 t461 x7_14 = some (r1, r2, r3)) ∧ Aside0 (kq ≤ kj9) ∧ Aside0 (Below w.heap.size w wc))
       case first =>
        have H := HC15.out
        clear HC15
        by_cases c16 : x43_9 = true
        ·
         subst c16
         have H1 : (if 0 ≤ (wrap64 (7 * t461)) then (leb_GetSigned.j2 kj9 l0 t461 (Go.bits .or .i64 x7_1 (shl .i64 (-1) (wrap64 (7 * t461))))) else (none)) = some (r1, r2, r3) := by rw [if_pos rfl] at H; exact H
         clear H
         have H := H1
         clear H1
         obtain ⟨ji17, hji17⟩ : ∃ j_ : Int, (wrap64 (7 * t461)) = j_ := ⟨_, rfl⟩
         replace H : (if 0 ≤ (ji17) then (leb_GetSigned.j2 kj9 l0 t461 (Go.bits .or .i64 x7_1 (shl .i64 (-1) (ji17)))) else (none)) = some (r1, r2, r3) := by first | (rw [hji17] at H; exact H) | (simp only [hji17] at H ⊢; exact H)
         have hji17w : (IntKind.i64.wrap (7 * t461)) = ji17 := (i64_w _).trans hji17
         by_cases c18 : 0 ≤ (ji17)
         ·
          rw [if_pos c18] at H
          have c18b0 := eq_true c18
          have c18b1 : decide (0 ≤ (ji17)) = true := decide_eq_true c18
          clear c18
          obtain ⟨ji19, hji19⟩ : ∃ j_ : Int, (shl .i64 (-1) (ji17)) = j_ := ⟨_, rfl⟩
          replace H : (leb_GetSigned.j2 kj9 l0 t461 (Go.bits .or .i64 x7_1 (ji19))) = some (r1, r2, r3) := by first | (rw [hji19] at H; exact H) | (simp only [hji19] at H ⊢; exact H)
          have hji19_ : (IntKind.i64.wrap ((-1) * 2 ^ min (ji17).toNat 64)) = ji19 := hji19
          have hji19z : (ji17) ≤ 64 → (IntKind.i64.wrap ((-1) * 2 ^ (ji17).toNat)) = ji19 := shl_small hji19
          have hji19y : (wrap64 ((-1) * 2 ^ min (ji17).toNat 64)) = ji19 := (i64_w _).symm.trans hji19_
          have hji19x : (ji17) ≤ 64 → (wrap64 ((-1) * 2 ^ (ji17).toNat)) = ji19 := fun h_ => (i64_w _).symm.trans (hji19z h_)
          have hji19n : (wrap64 (-2 ^ min (ji17).toNat 64)) = ji19 := by rw [← Int.neg_one_mul]; exact hji19y
          have H' := Aside0.mk H
          clear H
          go_wp2
          go_meet
          case rel => exact ⟨_, (Go.bits .or .i64 x7_1 (ji19)), (by first | rfl | (simp; done) | (simp only [← hji19] <;> (first | rfl | simp)) | (simp [*]; done)), H', ⟨by have := HK1.out; have := HJ9.out; first | omega | exact Nat.le_refl _⟩, ⟨by repeat (first | (with_reducible first | exact HB.out | apply below_alloc | apply pw_below_drewN | apply below_drew1) | exact HB.out)⟩⟩
         ·
          rw [if_neg c18] at H
          exact absurd H (by simp)
        ·
         replace c16 := Bool.eq_false_iff.mpr c16
         subst c16
         have H1 : (leb_GetSigned.j2 kj9 l0 t461 x7_1) = some (r1, r2, r3) := by rw [if_neg (show ¬ (false = true) by decide)] at H; exact H
         clear H
         have H := H1
         clear H1
         have H' := Aside0.mk H
         clear H
         go_wp2
         go_meet
         case rel => exact ⟨_, (x7_1), (by first | rfl | (simp; done) | (simp [*]; done)), H', ⟨by have := HK1.out; have := HJ9.out; first | omega | exact Nat.le_refl _⟩, ⟨by repeat (first | (with_reducible first | exact HB.out | apply below_alloc | apply pw_below_drewN | apply below_drew1) | exact HB.out)⟩⟩
       case rest =>
        clear HC15
        try clear c1
        try clear p2
        try clear c3
        try clear c3b0
        try clear c3b1
        try clear c4
        try clear c4b0
        try clear p4
        try clear q4
        try clear hx4
        try clear c5
        try clear c5b0
        try clear c6
        try clear c6b0
        try clear p6
        try clear c8
        try clear c8b0
        try clear c8b1
        try clear c10
        try clear c11
        try clear c11b0
        try clear c13
        try clear c13b0
        try clear c14
        try clear c14b0
        try clear c16
        try clear c18
        try clear c18b0
        try clear c18b1
        try clear hx463_0
        try clear hx464_0
        try clear p2
        try clear p4
        try clear p463
        try clear p464
        try clear p6
        try clear q4
        try clear q463
        try clear q464
        obtain ⟨kq, x7_14, rfl, HA, HJ14, HB⟩ := hcut
        cases kq with
        | zero => exact absurd HA.out (by simp [leb_GetSigned.j2])
        | succ kj14 =>
         have H := HA.out
         clear HA
         simp only [leb_GetSigned.j2] at H
         replace H := Option.bind_eq_some_iff.mp H
         obtain ⟨t465, A200, H⟩ := H
         replace H : (if 0 ≤ t461 then (if t461 ≤ (l0.length : Int) then ((bytes_Equal.f t465 (l0.take (t461 : Int).toNat)).bind fun t469 => (if t469 = true then (some (x7_14, t461, 0)) else (some (0, 0, 31)))) else (none)) else (none)) = some (r1, r2, r3) := H
         have A20 := Aside0.mk A200
         clear A200
         by_cases c21 : 0 ≤ t461
         ·
          rw [if_pos c21] at H
          have c21b0 := eq_true c21
          have c21b1 : decide (0 ≤ t461) = true := decide_eq_true c21
          clear c21
          by_cases c22 : t461 ≤ (l0.length : Int)
          ·
           rw [if_pos c22] at H
           have c22b0 := eq_true c22
           have c22b1 : decide (t461 ≤ (l0.length : Int)) = true := decide_eq_true c22
           clear c22
           replace H := Option.bind_eq_some_iff.mp H
           obtain ⟨t469, A230, H⟩ := H
           replace H : (if t469 = true then (some (x7_14, t461, 0)) else (some (0, 0, 31))) = some (r1, r2, r3) := H
           have A23 := Aside0.mk A230
           clear A230
           by_cases c24 : t469 = true
           ·
            subst c24
            have H1 : (some (x7_14, t461, 0)) = some (r1, r2, r3) := by rw [if_pos rfl] at H; exact H
            clear H
            have H := H1
            clear H1
            simp only [Option.some.injEq, Prod.mk.injEq] at H
            obtain ⟨rfl, rfl, rfl⟩ := H
            try go_wp2
            have n0_ := Aside0.mk (below_drew1 HB.out)
            clear HB
            have HB := n0_
            clear n0_
            obtain ⟨i026, hi026, _, hsz26, _⟩ := info_parts info5
            obtain ⟨hcut26, hA26, hC26⟩ := print_take_of (P := Tryd.prog) (Value.int .u8) 0 27 5 .i64 Tryd.underlying27 hi026 hsz26 A0 c0 l0 t461 (of_decide_eq_true (by first | (with_reducible assumption) | assumption)) (of_decide_eq_true (by first | (with_reducible assumption) | assumption)) HC0.out
            have HR468 := Aside0.mk (Kd.C_of_reads (h1 := fun _ => rfl) (hA26 _ (Kd.reads_of_C HR0.out)))
            have HC468 := Aside0.mk hC26
            clear hA26 hC26 hi026 hsz26
            refine start_ (n := 7) (S := fun w' => True) (ds := []) #[false, false, false, false, false, false, false] (by kernel_rfl) rfl rfl trivial (fun hHeld => ?_)
            generalize wc.drew = w25 at HB HR468 hHeld ⊢
            refine pure_ (i := 0) (N := some 49) (v := ?_) (a' := ?_) #[true, false, false, false, false, false, false] rfl rfl (by kernel_rfl) (fun _ _ _ h => h) (Or.inl ⟨by rfl, ?_⟩) ?_ ?_
            rotate_left
            ·
             intro w'
             go_simp
             with_reducible rfl
            rotate_left
            ·
             simp only [Act.put, List.setIfInBounds_toArray, List.set_cons_zero, List.set_cons_succ, i64_w, i32_w]
             rfl
            refine pure_ (i := 2) (N := some 51) (v := ?_) (a' := ?_) #[true, false, true, false, false, false, false] rfl rfl (by kernel_rfl) (fun _ _ _ h => h) (Or.inl ⟨by rfl, ?_⟩) ?_ ?_
            rotate_left
            ·
             intro w'
             go_simp
             with_reducible rfl
            rotate_left
            ·
             simp only [Act.put, List.setIfInBounds_toArray, List.set_cons_zero, List.set_cons_succ, i64_w, i32_w]
             rfl
            refine pure_ (i := 3) (N := some 52) (v := ?_) (a' := ?_) #[true, false, true, true, false, false, false] rfl rfl (by kernel_rfl) (fun _ _ _ h => h) (Or.inl ⟨by rfl, ?_⟩) ?_ ?_
            rotate_left
            ·
             intro w'
             go_simp
             with_reducible rfl
            rotate_left
            ·
             simp only [Act.put, List.setIfInBounds_toArray, List.set_cons_zero, List.set_cons_succ, i64_w, i32_w]
             rfl
            refine pure_ (i := 4) (N := some 53) (v := ?_) (a' := ?_) #[true, false, true, true, true, false, false] rfl rfl (by kernel_rfl) (fun _ _ _ h => h) (Or.inl ⟨by rfl, ?_⟩) ?_ ?_
            rotate_left
            ·
             intro w'
             go_simp
             with_reducible rfl
            rotate_left
            ·
             simp only [Act.put, List.setIfInBounds_toArray, List.set_cons_zero, List.set_cons_succ, i64_w, i32_w]
             rfl
            refine one_ (i := 1) (N := some 50) #[true, true, true, true, true, false, false] rfl rfl (by kernel_rfl) (by decide) (fun K hK => ?_)
            refine goes_ Tryd.func64 (by kernel_rfl) rfl #[.slice none 0 0, .int .i64 x7_14] (by rfl) rfl rfl (by (try simp only [List.map_toArray, List.map_cons, List.map_nil]); first | done | rfl | (simp only [List.length_drop, List.length_take]; rfl)) ?_
            refine (leb_PutSigned.calls kj14 _ _ ([] : List Int) x7_14 t465 _ ?side1 ?side2 A20.out).mono ?_
            (case side1 => exact Kd.C_nil _ _)
            (case side2 => exact Nat.le_refl _)
            rintro e w27 ⟨v466, rfl, ho0, hb⟩
            refine ⟨_, rfl, ?_⟩
            have n0_ := Aside0.mk (Kd.V_lower (Kd.V_mono (ok' := fun k_ => True) ho0 (fun k_ hk_ => trivial)) (below_size (by repeat (first | (with_reducible first | exact HB.out | apply below_alloc | apply pw_below_drewN | apply below_drew1) | exact HB.out))))
            have n1_ := Aside0.mk (below_step (by repeat (first | (with_reducible first | exact HB.out | apply below_alloc | apply pw_below_drewN | apply below_drew1) | exact HB.out)) hb)
            clear HB
            have HO467 := n0_
            have HB := n1_
            clear n0_ n1_
            (try clear hb)
            (try clear hb2)
            (try clear hk)
            (try clear hi)
            (try clear ho0)
            obtain ⟨Ao28, co28, eo28⟩ := Kd.V_slice HO467.out
            (first | subst eo28 | (injection eo28 with f1_ f2_ f3_; have f4_ := f1_.symm; have f5_ := f3_.symm; clear f1_ f2_ f3_; subst f4_; subst f5_))
            refine hK.out _ _ trivial (fun hHeld => ?_)
            clear hK K
            refine norm_ (a' := ?_) ?_ ?_
            rotate_left
            ·
             show Act.put _ (some 50) _ = _
             simp only [Act.put, List.setIfInBounds_toArray, List.set_cons_zero, List.set_cons_succ, i64_w, i32_w]
             rfl
            refine one_ (i := 5) (N := some 54) #[true, true, true, true, true, true, false] rfl rfl (by kernel_rfl) (by decide) (fun K hK => ?_)
            refine goes_ Tryd.func62 (by kernel_rfl) rfl #[.slice Ao28 t465.length co28, .slice A0 (l0.take (t461 : Int).toNat).length c0] (by rfl) rfl rfl (by (try simp only [List.map_toArray, List.map_cons, List.map_nil]); first | done | (rw [show (l0.take (t461 : Int).toNat).length = t461.toNat from (by rw [List.length_take]; have h_ : (t461 : Int) ≤ (l0.length : Int) := of_decide_eq_true (by first | (with_reducible assumption) | assumption); omega)] <;> rfl) | rfl | (simp only [List.length_drop, List.length_take]; rfl)) ?_
            with_reducible refine (bytes_Equal.calls _ _ t465 _ _ (l0.take (t461 : Int).toNat) true _ ?side1 ?side2 ?side3 ?side4 A23.out).mono ?_
            (case side1 => repeat (first | exact (Kd.V_reads' HO467.out).2.2 | (with_reducible refine Kd.C_alloc ?_ _) | (with_reducible refine Kd.C_drewN ?_ _) | (with_reducible refine Kd.C_drew ?_)))
            (case side2 => exact (Kd.V_reads' HO467.out).2.1)
            (case side3 => repeat (first | exact (Kd.C_below HR468.out HB.out) | (with_reducible refine Kd.C_alloc ?_ _) | (with_reducible refine Kd.C_drewN ?_ _) | (with_reducible refine Kd.C_drew ?_)))
            (case side4 => exact HC468.out)
            rintro e w' ⟨rfl, ⟨nd, rfl⟩⟩
            refine ⟨_, rfl, ?_⟩
            refine hK.out _ _ trivial (fun hHeld => ?_)
            clear hK K
            refine norm_ (a' := ?_) ?_ ?_
            rotate_left
            ·
             show Act.put _ (some 54) _ = _
             simp only [Act.put, List.setIfInBounds_toArray, List.set_cons_zero, List.set_cons_succ, i64_w, i32_w]
             rfl
            refine pure_ (i := 6) (N := some 55) (v := ?_) (a' := ?_) #[true, true, true, true, true, true, true] rfl rfl (by kernel_rfl) (fun _ _ _ h => h) (Or.inl ⟨by rfl, ?_⟩) ?_ ?_
            rotate_left
            ·
             intro w'
             go_simp
             with_reducible rfl
            rotate_left
            ·
             simp only [Act.put, List.setIfInBounds_toArray, List.set_cons_zero, List.set_cons_succ, i64_w, i32_w]
             rfl
            refine done_ (by kernel_rfl) ?_
            try go_wp2
            go_ret3
            exact ⟨by first | rfl | (simp [errW_none, errW_some] <;> rfl) | (simp [*, errW_none, errW_some] <;> rfl), by repeat (first | (with_reducible first | exact HB.out | apply below_alloc | apply pw_below_drewN | apply below_drew1) | exact HB.out)⟩
           ·
            replace c24 := Bool.eq_false_iff.mpr c24
            subst c24
            have H1 : (some (0, 0, 31)) = some (r1, r2, r3) := by rw [if_neg (show ¬ (false = true) by decide)] at H; exact H
            clear H
            have H := H1
            clear H1
            simp only [Option.some.injEq, Prod.mk.injEq] at H
            obtain ⟨rfl, rfl, rfl⟩ := H
            try go_wp2
            have n0_ := Aside0.mk (below_drew1 HB.out)
            clear HB
            have HB := n0_
            clear n0_
            obtain ⟨i030, hi030, _, hsz30, _⟩ := info_parts info5
            obtain ⟨hcut30, hA30, hC30⟩ := print_take_of (P := Tryd.prog) (Value.int .u8) 0 27 5 .i64 Tryd.underlying27 hi030 hsz30 A0 c0 l0 t461 (of_decide_eq_true (by first | (with_reducible assumption) | assumption)) (of_decide_eq_true (by first | (with_reducible assumption) | assumption)) HC0.out
            have HR468 := Aside0.mk (Kd.C_of_reads (h1 := fun _ => rfl) (hA30 _ (Kd.reads_of_C HR0.out)))
            have HC468 := Aside0.mk hC30
            clear hA30 hC30 hi030 hsz30
            refine start_ (n := 7) (S := fun w' => True) (ds := []) #[false, false, false, false, false, false, false] (by kernel_rfl) rfl rfl trivial (fun hHeld => ?_)
            generalize wc.drew = w29 at HB HR468 hHeld ⊢
            refine pure_ (i := 0) (N := some 49) (v := ?_) (a' := ?_) #[true, false, false, false, false, false, false] rfl rfl (by kernel_rfl) (fun _ _ _ h => h) (Or.inl ⟨by rfl, ?_⟩) ?_ ?_
            rotate_left
            ·
             intro w'
             go_simp
             with_reducible rfl
            rotate_left
            ·
             simp only [Act.put, List.setIfInBounds_toArray, List.set_cons_zero, List.set_cons_succ, i64_w, i32_w]
             rfl
            refine pure_ (i := 2) (N := some 51) (v := ?_) (a' := ?_) #[true, false, true, false, false, false, false] rfl rfl (by kernel_rfl) (fun _ _ _ h => h) (Or.inl ⟨by rfl, ?_⟩) ?_ ?_
            rotate_left
            ·
             intro w'
             go_simp
             with_reducible rfl
            rotate_left
            ·
             simp only [Act.put, List.setIfInBounds_toArray, List.set_cons_zero, List.set_cons_succ, i64_w, i32_w]
             rfl
            refine pure_ (i := 3) (N := some 52) (v := ?_) (a' := ?_) #[true, false, true, true, false, false, false] rfl rfl (by kernel_rfl) (fun _ _ _ h => h) (Or.inl ⟨by rfl, ?_⟩) ?_ ?_
            rotate_left
            ·
             intro w'
             go_simp
             with_reducible rfl
            rotate_left
            ·
             simp only [Act.put, List.setIfInBounds_toArray, List.set_cons_zero, List.set_cons_succ, i64_w, i32_w]
             rfl
            refine pure_ (i := 4) (N := some 53) (v := ?_) (a' := ?_) #[true, false, true, true, true, false, false] rfl rfl (by kernel_rfl) (fun _ _ _ h => h) (Or.inl ⟨by rfl, ?_⟩) ?_ ?_
            rotate_left
            ·
             intro w'
             go_simp
             with_reducible rfl
            rotate_left
            ·
             simp only [Act.put, List.setIfInBounds_toArray, List.set_cons_zero, List.set_cons_succ, i64_w, i32_w]
             rfl
            refine one_ (i := 1) (N := some 50) #[true, true, true, true, true, false, false] rfl rfl (by kernel_rfl) (by decide) (fun K hK => ?_)
            refine goes_ Tryd.func64 (by kernel_rfl) rfl #[.slice none 0 0, .int .i64 x7_14] (by rfl) rfl rfl (by (try simp only [List.map_toArray, List.map_cons, List.map_nil]); first | done | rfl | (simp only [List.length_drop, List.length_take]; rfl)) ?_
            refine (leb_PutSigned.calls kj14 _ _ ([] : List Int) x7_14 t465 _ ?side1 ?side2 A20.out).mono ?_
            (case side1 => exact Kd.C_nil _ _)
            (case side2 => exact Nat.le_refl _)
            rintro e w31 ⟨v466, rfl, ho0, hb⟩
            refine ⟨_, rfl, ?_⟩
            have n0_ := Aside0.mk (Kd.V_lower (Kd.V_mono (ok' := fun k_ => True) ho0 (fun k_ hk_ => trivial)) (below_size (by repeat (first | (with_reducible first | exact HB.out | apply below_alloc | apply pw_below_drewN | apply below_drew1) | exact HB.out))))
            have n1_ := Aside0.mk (below_step (by repeat (first | (with_reducible first | exact HB.out | apply below_alloc | apply pw_below_drewN | apply below_drew1) | exact HB.out)) hb)
            clear HB
            have HO467 := n0_
            have HB := n1_
            clear n0_ n1_
            (try clear hb)
            (try clear hb2)
            (try clear hk)
            (try clear hi)
            (try clear ho0)
            obtain ⟨Ao32, co32, eo32⟩ := Kd.V_slice HO467.out
            (first | subst eo32 | (injection eo32 with f1_ f2_ f3_; have f4_ := f1_.symm; have f5_ := f3_.symm; clear f1_ f2_ f3_; subst f4_; subst f5_))
            refine hK.out _ _ trivial (fun hHeld => ?_)
            clear hK K
            refine norm_ (a' := ?_) ?_ ?_
            rotate_left
            ·
             show Act.put _ (some 50) _ = _
             simp only [Act.put, List.setIfInBounds_toArray, List.set_cons_zero, List.set_cons_succ, i64_w, i32_w]
             rfl
            refine one_ (i := 5) (N := some 54) #[true, true, true, true, true, true, false] rfl rfl (by kernel_rfl) (by decide) (fun K hK => ?_)
            refine goes_ Tryd.func62 (by kernel_rfl) rfl #[.slice Ao32 t465.length co32, .slice A0 (l0.take (t461 : Int).toNat).length c0] (by rfl) rfl rfl (by (try simp only [List.map_toArray, List.map_cons, List.map_nil]); first | done | (rw [show (l0.take (t461 : Int).toNat).length = t461.toNat from (by rw [List.length_take]; have h_ : (t461 : Int) ≤ (l0.length : Int) := of_decide_eq_true (by first | (with_reducible assumption) | assumption); omega)] <;> rfl) | rfl | (simp only [List.length_drop, List.length_take]; rfl)) ?_
            with_reducible refine (bytes_Equal.calls _ _ t465 _ _ (l0.take (t461 : Int).toNat) false _ ?side1 ?side2 ?side3 ?side4 A23.out).mono ?_
            (case side1 => repeat (first | exact (Kd.V_reads' HO467.out).2.2 | (with_reducible refine Kd.C_alloc ?_ _) | (with_reducible refine Kd.C_drewN ?_ _) | (with_reducible refine Kd.C_drew ?_)))
            (case side2 => exact (Kd.V_reads' HO467.out).2.1)
            (case side3 => repeat (first | exact (Kd.C_below HR468.out HB.out) | (with_reducible refine Kd.C_alloc ?_ _) | (with_reducible refine Kd.C_drewN ?_ _) | (with_reducible refine Kd.C_drew ?_)))
            (case side4 => exact HC468.out)
            rintro e w' ⟨rfl, ⟨nd, rfl⟩⟩
            refine ⟨_, rfl, ?_⟩
            refine hK.out _ _ trivial (fun hHeld => ?_)
            clear hK K
            refine norm_ (a' := ?_) ?_ ?_
            rotate_left
            ·
             show Act.put _ (some 54) _ = _
             simp only [Act.put, List.setIfInBounds_toArray, List.set_cons_zero, List.set_cons_succ, i64_w, i32_w]
             rfl
            refine pure_ (i := 6) (N := some 55) (v := ?_) (a' := ?_) #[true, true, true, true, true, true, true] rfl rfl (by kernel_rfl) (fun _ _ _ h => h) (Or.inl ⟨by rfl, ?_⟩) ?_ ?_
            rotate_left
            ·
             intro w'
             go_simp
             with_reducible rfl
            rotate_left
            ·
             simp only [Act.put, List.setIfInBounds_toArray, List.set_cons_zero, List.set_cons_succ, i64_w, i32_w]
             rfl
            refine done_ (by kernel_rfl) ?_
            try go_wp2
            go_ret3
            exact ⟨by first | rfl | (simp [errW_none, errW_some] <;> rfl) | (simp [*, errW_none, errW_some] <;> rfl), by repeat (first | (with_reducible first | exact HB.out | apply below_alloc | apply pw_below_drewN | apply below_drew1) | exact HB.out)⟩
          ·
           rw [if_neg c22] at H
           exact absurd H (by simp)
         ·
          rw [if_neg c21] at H
          exact absurd H (by simp)
 ·
  rw [if_neg c3] at H
  have c3b0 : (t462 == 0) = false := beq_eq_false_iff_ne.mpr c3
  have c3b1 : (t462 != 0) = true := bne_iff_ne.mpr c3
  simp only [Option.some.injEq, Prod.mk.injEq] at H
  obtain ⟨rfl, rfl, rfl⟩ := H
  go_enter Tryd.func68, Tryd.ntmps68
  go_wp2_with (first | ((with_reducible refine gate_callee (f := 109) rfl ?_); refine goesL_ (some 11) rfl rfl Tryd.func109 (by kernel_rfl) rfl #[.slice A0 l0.length c0] rfl (by (try simp only [List.map_toArray, List.map_cons, List.map_nil]); first | done | rfl | (simp only [List.length_drop, List.length_take]; rfl)) ?_; (with_reducible refine (leb_groups.calls k _ _ l0 t461 t462 _ ?side1 ?side2 A2.out).mono ?_); (case side1 => repeat (first | exact HR0.out | (with_reducible refine Kd.C_alloc ?_ _) | (with_reducible refine Kd.C_drewN ?_ _) | (with_reducible refine Kd.C_drew ?_))); (case side2 => exact HC0.out); rintro e w' ⟨rfl, ⟨nd, rfl⟩⟩; refine ⟨_, rfl, ?_⟩))
  go_ret3
  exact ⟨by first | rfl | (simp [errW_none, errW_some] <;> rfl) | (simp [*, errW_none, errW_some] <;> rfl), by repeat (first | (with_reducible first | exact HB.out | apply below_alloc | apply pw_below_drewN | apply below_drew1) | exact HB.out)⟩
-- NOT PRINTED: function 23 (code_Get)
-- NOT PRINTED: function 40 (louverlaw10_got)
-- NOT PRINTED: function 113 (code_found_1)
-- NOT PRINTED: function 74 (code_found)
-- NOT PRINTED: function 75 (code_effects)
-- NOT PRINTED: function 30 (code_Effect)
-- NOT PRINTED: function 41 (louverlaw10_effect)
-- NOT PRINTED: function 28 (louverlaw10_awake)
-- NOT PRINTED: function 34 (code_ByName)
end Go.Proofs.YtgpdaihfjnihhaaDoor.PJ
