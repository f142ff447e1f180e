/- code.Put and code.Get by hand. -/
import Derived.Test.YtgpdaihfjnihhaaDoorQPJx0
import Derived.Test.YtgpdaihfjnihhaaDoorQPJx3
import Derived.Test.YtgpdaihfjnihhaaDoorQPA
import Derived.Test.YtgpdaihfjnihhaaDoorQPB
import Derived.Test.YtgpdaihfjnihhaaDoorQHandCode1
import Derived.Test.YtgpdaihfjnihhaaDoorQPutC
import Derived.Test.YtgpdaihfjnihhaaDoorQAppendFull
namespace Go.Proofs.YtgpdaihfjnihhaaDoor.PJ
open Go.RowKit Go.Proofs.YtgpdaihfjnihhaaDoorW.PrintWords Go.Proofs.YtgpdaihfjnihhaaDoorW.PrintLast Go.Proofs.YtgpdaihfjnihhaaDoorW.PrintMore
set_option linter.unusedSimpArgs false
set_option linter.unusedVariables false
theorem lit_R (W : World) (xs : List Int) (g : Nat) (hg : W.heap.size = g) (h : xs.length ≤ 1000) (base : Nat) (hb : base ≤ W.heap.size) : Kd.R (Kd.int .u8) 5 (W.alloc (.cells (xs.map (Value.int .u8)).toArray 5)) base (fun k => base ≤ k) (.slice (some ⟨g, 0, none⟩) xs.length xs.length) xs := by
 subst hg
 exact Kd.R_of_own ⟨by simp [encs], .inr ⟨W.heap.size, xs.length, (xs.map (Value.int .u8)).toArray, rfl, hb, heap_alloc_new W _, Nat.le_refl _, by simp only [maxLen]; omega, by simp, by simp [encs, List.take_of_length_le]⟩⟩ (fun k hk => by simp [Value.ownBlock] at hk; omega)
set_option maxHeartbeats 8000000 in
set_option maxRecDepth 100000 in
theorem clip_calls (A : Option Addr) (n c : Nat) (h : n ≤ c) (w : World) : Calls Tryd.prog 58 #[.slice A n c] w fun e w' => e = .returned (.slice A n n) ∧ Drawn0 w w' := by
 obtain ⟨i010, hi010, _⟩ := info_parts info5
 have hclip10 := clip_run (P := Tryd.prog) 27 5 Tryd.underlying27 hi010 A n c h
 clear hi010
 go_enter Tryd.func58, Tryd.ntmps58
 go_wp2
 go_ret
 exact ⟨rfl, by repeat (first | exact Drawn0.refl _ | apply Drawn0.step)⟩
theorem Clipped.lower {W : World} {base base' : Nat} {v : Value} {l : List Int} (h : Clipped W base v l) (hb : base' ≤ base) : Clipped W base' v l := by
 obtain ⟨A, c, rfl, hR⟩ := h
 exact ⟨A, c, rfl, Kd.R_mono (Kd.R_lower hR hb) (fun k hk => Nat.le_trans hb hk)⟩
set_option maxHeartbeats 8000000 in
set_option maxRecDepth 100000 in
theorem code_Put.callsC (k : Nat) (op a : Int) (r : List Int) (w : World) (ht : Lib.TabIs Tryd.prog w "strings.asciiSpace" .u8 Lib.asciiSpaceTab)
  (h0 : mayOf op a = false → r = []) (h1 : mayOf op a = true → op = 32 → leb_PutSigned.f k [op % 256] a = some r) (h2 : mayOf op a = true → op ≠ 32 → operandOp op = true → leb_Put.f k [op % 256] (IntKind.u64.wrap a) = some r) (h3 : mayOf op a = true → operandOp op = false → r = [op % 256]) :
  Calls Tryd.prog 21 #[.agg #[.int .i64 op, .int .i64 a]] w fun e w' => ∃ v, e = .returned v ∧ Clipped w' w.heap.size v r ∧ Below w.heap.size w w' := by
 have HT := Aside0.mk ht
 have HG := Aside0.mk (heap_alloc_new w (.cells #[.int .i64 op, .int .i64 a] 44))
 clear ht
 by_cases hm : mayOf op a = true
 ·
  have HM := Aside0.mk hm
  by_cases h32 : op = 32
  ·
   subst h32
   have H1 := Aside0.mk (show leb_PutSigned.f k [32] a = some r from h1 hm rfl)
   clear h0 h1 h2 h3 hm
   go_enter Tryd.func21, Tryd.ntmps21
   go_wp2_with fail
   refine (code_May.calls 32 a _ (tab_below HT.out (below_alloc (Below.refl _ _) _))).mono ?_
   rintro e w1 ⟨rfl, hb⟩
   rw [HM.out]
   obtain ⟨c0, c1⟩ := cell_at2 (blk_below HG.out hb)
   have HB := Aside0.mk (below_step (below_alloc (Below.refl _ _) _) hb)
   clear hb
   have c1' : ∀ o, (w1.alloc o).cell? ⟨w.heap.size, 1, none⟩ = some (.int .i64 a) := fun o => pw_cell_below (below_alloc (Below.refl _ _) o) c1
   have c0' : ∀ o, (w1.alloc o).cell? ⟨w.heap.size, 0, none⟩ = some (.int .i64 32) := fun o => pw_cell_below (below_alloc (Below.refl _ _) o) c0
   go_wp2_with fail
   refine (leb_PutSigned.callsC k _ 1 [32] a r _ (Kd.R_reads' (lit_R w1 [32] _ rfl (by simp) w.heap.size (below_size HB.out))).2.2 (Nat.le_refl 1) H1.out).mono ?_
   rintro e w2 ⟨v, rfl, hC, hb⟩
   obtain ⟨A2, c2, rfl, hR2⟩ := id hC
   have HCl := Aside0.mk hC
   have HB2 := Aside0.mk (below_step (below_alloc HB.out _) hb)
   have HS := Aside0.mk (below_size (below_alloc HB.out (.cells #[.int .u8 32] 5)))
   clear hC hb hR2
   go_wp2_with fail
   refine (clip_calls A2 _ _ (Nat.le_refl _) _).mono ?_
   rintro e w3 ⟨rfl, ⟨nd, rfl⟩⟩
   go_wp2_with fail
   go_ret
   exact ⟨_, rfl, (HCl.out.below (pw_below_drewN (Below.refl _ _) _)).lower HS.out, pw_below_drewN HB2.out _⟩
  ·
   have h32b : (op == 32) = false := beq_eq_false_iff_ne.mpr h32
   by_cases ho : operandOp op = true
   ·
    have HO := Aside0.mk (Operand_f 0 op)
    rw [ho] at HO
    have H2 := Aside0.mk (h2 hm h32 ho)
    clear h0 h1 h2 h3 hm ho
    go_enter Tryd.func21, Tryd.ntmps21
    go_wp2_with fail
    refine (code_May.calls op a _ (tab_below HT.out (below_alloc (Below.refl _ _) _))).mono ?_
    rintro e w1 ⟨rfl, hb⟩
    rw [HM.out]
    obtain ⟨c0, c1⟩ := cell_at2 (blk_below HG.out hb)
    have HB := Aside0.mk (below_step (below_alloc (Below.refl _ _) _) hb)
    clear hb
    have c0' : ∀ o, (w1.alloc o).cell? ⟨w.heap.size, 0, none⟩ = some (.int .i64 op) := fun o => pw_cell_below (below_alloc (Below.refl _ _) o) c0
    have c1' : ∀ o n, ((w1.alloc o).drewN n).cell? ⟨w.heap.size, 1, none⟩ = some (.int .i64 a) := fun o n => pw_cell_below (pw_below_drewN (below_alloc (Below.refl _ _) o) n) c1
    go_wp2_with fail
    refine (code_Operand.calls 2 op true _ HO.out).mono ?_
    rintro e w2 ⟨rfl, ⟨nd, rfl⟩⟩
    go_wp2_with fail
    refine (leb_Put.callsC k _ 1 [op % 256] (IntKind.u64.wrap a) r _ (Kd.C_drewN (Kd.R_reads' (lit_R w1 [op % 256] _ rfl (by simp) w.heap.size (below_size HB.out))).2.2 _) (Nat.le_refl 1) H2.out).mono ?_
    rintro e w2 ⟨v, rfl, hC, hb⟩
    obtain ⟨A2, c2, rfl, hR2⟩ := id hC
    have HCl := Aside0.mk hC
    have HB2 := Aside0.mk (below_step (pw_below_drewN (below_alloc HB.out _) _) hb)
    have HS := Aside0.mk (below_size (pw_below_drewN (below_alloc HB.out (.cells #[.int .u8 (op % 256)] 5)) nd))
    clear hC hb hR2
    go_wp2_with fail
    refine (clip_calls A2 _ _ (Nat.le_refl _) _).mono ?_
    rintro e w3 ⟨rfl, ⟨nd2, rfl⟩⟩
    go_wp2_with fail
    go_ret
    exact ⟨_, rfl, (HCl.out.below (pw_below_drewN (Below.refl _ _) _)).lower HS.out, pw_below_drewN HB2.out _⟩
   ·
    have ho2 : operandOp op = false := by simpa using ho
    have HO := Aside0.mk (Operand_f 0 op)
    rw [ho2] at HO
    obtain rfl := h3 hm ho2
    clear h0 h1 h2 h3 hm ho ho2
    go_enter Tryd.func21, Tryd.ntmps21
    go_wp2_with fail
    refine (code_May.calls op a _ (tab_below HT.out (below_alloc (Below.refl _ _) _))).mono ?_
    rintro e w1 ⟨rfl, hb⟩
    rw [HM.out]
    obtain ⟨c0, c1⟩ := cell_at2 (blk_below HG.out hb)
    have HB := Aside0.mk (below_step (below_alloc (Below.refl _ _) _) hb)
    clear hb
    have c0' : ∀ o, (w1.alloc o).cell? ⟨w.heap.size, 0, none⟩ = some (.int .i64 op) := fun o => pw_cell_below (below_alloc (Below.refl _ _) o) c0
    go_wp2_with fail
    refine (code_Operand.calls 2 op false _ HO.out).mono ?_
    rintro e w2 ⟨rfl, ⟨nd, rfl⟩⟩
    go_wp2_with fail
    refine (clip_calls _ 1 1 (Nat.le_refl _) _).mono ?_
    rintro e w3 ⟨rfl, ⟨nd2, rfl⟩⟩
    go_wp2_with fail
    go_ret
    exact ⟨_, rfl, ⟨_, 1, rfl, Kd.R_drewN (lit_R w1 [op % 256] _ rfl (by simp) w.heap.size (below_size HB.out)) _⟩, pw_below_drewN (below_alloc HB.out _) _⟩
 ·
  have hm2 : mayOf op a = false := by simpa using hm
  have HM := Aside0.mk hm2
  obtain rfl := h0 hm2
  clear h0 h1 h2 h3 hm hm2
  go_enter Tryd.func21, Tryd.ntmps21
  go_wp2_with fail
  refine (code_May.calls op a _ (tab_below HT.out (below_alloc (Below.refl _ _) _))).mono ?_
  rintro e w1 ⟨rfl, hb⟩
  rw [HM.out]
  have HB := Aside0.mk (below_step (below_alloc (Below.refl _ _) _) hb)
  clear hb
  go_wp2_with fail
  go_ret
  exact ⟨_, rfl, ⟨none, 0, rfl, Kd.R_nil _ _ _ _ _⟩, HB.out⟩
end Go.Proofs.YtgpdaihfjnihhaaDoor.PJ
