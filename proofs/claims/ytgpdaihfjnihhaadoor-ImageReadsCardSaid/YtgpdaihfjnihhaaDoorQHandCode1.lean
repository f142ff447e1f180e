/- code.Name, code.ByName, code.May by hand, over code.names. -/
import Derived.Test.YtgpdaihfjnihhaaDoorQPA
import Derived.Test.YtgpdaihfjnihhaaDoorQPB
import Derived.Test.YtgpdaihfjnihhaaDoorQNamesAll
namespace Go.Proofs.YtgpdaihfjnihhaaDoor.PJ
open Go.RowKit Go.Proofs.YtgpdaihfjnihhaaDoorW.PrintWords Go.Proofs.YtgpdaihfjnihhaaDoorW.PrintLast Go.Proofs.YtgpdaihfjnihhaaDoorW.PrintMore
set_option linter.unusedSimpArgs false
set_option linter.unusedVariables false
def nameOf (op : Int) : ByteArray := if 1 ≤ op ∧ op ≤ 17 then opL.getD (op - 1).toNat ByteArray.empty else if 32 ≤ op ∧ op ≤ 47 then inL.getD (op - 32).toNat ByteArray.empty else ByteArray.empty
def validOp (op : Int) : Bool := decide (1 ≤ op ∧ op ≤ 17 ∨ 32 ≤ op ∧ op ≤ 47)
def operandOp (op : Int) : Bool := decide (32 ≤ op ∧ op ≤ 38 ∨ 43 ≤ op ∧ op ≤ 47 ∧ op ≠ 46)
def mayOf (op a : Int) : Bool := validOp op && (if operandOp op then decide (op = 32 ∨ 0 ≤ a) else decide (a = 0))
theorem nameOf_empty (op : Int) : (nameOf op).toList.isEmpty = !validOp op := by
 unfold nameOf validOp
 by_cases h1 : 1 ≤ op ∧ op ≤ 17
 ·
  rw [if_pos h1, decide_eq_true (.inl h1)]
  obtain ⟨n, hn, rfl⟩ : ∃ n : Nat, n < 17 ∧ op = (n : Int) + 1 := ⟨(op - 1).toNat, by omega, by omega⟩
  rw [show ((n : Int) + 1 - 1).toNat = n by omega]
  have h := (show (List.range 17).all (fun n => (opL.getD n ByteArray.empty).toList.isEmpty == !true) = true by kernel_rfl)
  simpa using List.all_eq_true.mp h n (List.mem_range.mpr hn)
 ·
  rw [if_neg h1]
  by_cases h2 : 32 ≤ op ∧ op ≤ 47
  ·
   rw [if_pos h2, decide_eq_true (.inr h2)]
   obtain ⟨n, hn, rfl⟩ : ∃ n : Nat, n < 16 ∧ op = (n : Int) + 32 := ⟨(op - 32).toNat, by omega, by omega⟩
   rw [show ((n : Int) + 32 - 32).toNat = n by omega]
   have h := (show (List.range 16).all (fun n => (inL.getD n ByteArray.empty).toList.isEmpty == !true) = true by kernel_rfl)
   simpa using List.all_eq_true.mp h n (List.mem_range.mpr hn)
  ·
   rw [if_neg h2, decide_eq_false (by rintro (h | h); exact h1 h; exact h2 h)]
   kernel_rfl
set_option maxHeartbeats 8000000 in
set_option maxRecDepth 100000 in
theorem code_Name.calls (op : Int) (w : World) (ht : Lib.TabIs Tryd.prog w "strings.asciiSpace" .u8 Lib.asciiSpaceTab) :
  Calls Tryd.prog 38 #[.int .i64 op] w fun e w' => e = .returned (.string (nameOf op)) ∧ Below w.heap.size w w' := by
 have HT := Aside0.mk ht
 clear ht
 by_cases h1 : 1 ≤ op
 ·
  have h1b : decide (1 ≤ op) = true := decide_eq_true h1
  by_cases h2 : op ≤ 17
  ·
   have h2b : decide (op ≤ 17) = true := decide_eq_true h2
   obtain ⟨n, hn, rfl⟩ : ∃ n : Nat, n < 17 ∧ op = (n : Int) + 1 := ⟨(op - 1).toNat, by omega, by omega⟩
   have hw : wrap64 (n : Int) = (n : Int) := by unfold wrap64; omega
   have hn2 : (n : Int) < 17 := by omega
   obtain ⟨x, hx⟩ : ∃ x, opL[n]? = some x := ⟨opL[n]'hn, List.getElem?_eq_getElem hn⟩
   have hN : nameOf ((n : Int) + 1) = x := by
    unfold nameOf
    rw [if_pos ⟨h1, h2⟩, show ((n : Int) + 1 - 1).toNat = n by omega, List.getD_eq_getElem?_getD, hx]
    rfl
   rw [hN]
   have HX := Aside0.mk hx
   clear hN hx
   go_enter Tryd.func38, Tryd.ntmps38
   go_wp2_with fail
   refine (names_calls _ HT.out).mono ?_
   rintro e w1 ⟨g1, g2, rfl, hc1, hc2, _, _, hb⟩
   have hcn := hc1 n x HX.out
   clear hc1 hc2
   have HB := Aside0.mk hb
   clear hb
   go_wp2_with fail
   go_ret
   exact ⟨rfl, HB.out⟩
  ·
   have h2b : decide (op ≤ 17) = false := decide_eq_false h2
   by_cases h3 : 32 ≤ op
   ·
    have h3b : decide (32 ≤ op) = true := decide_eq_true h3
    by_cases h4 : op ≤ 47
    ·
     have h4b : decide (op ≤ 47) = true := decide_eq_true h4
     obtain ⟨n, hn, rfl⟩ : ∃ n : Nat, n < 16 ∧ op = (n : Int) + 32 := ⟨(op - 32).toNat, by omega, by omega⟩
     have hw : wrap64 (n : Int) = (n : Int) := by unfold wrap64; omega
     have hn2 : (n : Int) < 16 := by omega
     obtain ⟨x, hx⟩ : ∃ x, inL[n]? = some x := ⟨inL[n]'hn, List.getElem?_eq_getElem hn⟩
     have hN : nameOf ((n : Int) + 32) = x := by
      unfold nameOf
      rw [if_neg (by omega), if_pos ⟨h3, h4⟩, show ((n : Int) + 32 - 32).toNat = n by omega, List.getD_eq_getElem?_getD, hx]
      rfl
     rw [hN]
     have HX := Aside0.mk hx
     clear hN hx
     go_enter Tryd.func38, Tryd.ntmps38
     go_wp2_with fail
     refine (names_calls _ HT.out).mono ?_
     rintro e w1 ⟨g1, g2, rfl, hc1, hc2, _, _, hb⟩
     have hcn := hc2 n x HX.out
     clear hc1 hc2
     have HB := Aside0.mk hb
     clear hb
     go_wp2_with fail
     go_ret
     exact ⟨rfl, HB.out⟩
    ·
     have h4b : decide (op ≤ 47) = false := decide_eq_false h4
     have HN := Aside0.mk (show nameOf op = ByteArray.empty by unfold nameOf; rw [if_neg (by omega), if_neg (by omega)])
     rw [HN.out]
     go_enter Tryd.func38, Tryd.ntmps38
     go_wp2_with fail
     refine (names_calls _ HT.out).mono ?_
     rintro e w1 ⟨g1, g2, rfl, _, _, _, _, hb⟩
     have HB := Aside0.mk hb
     clear hb
     go_wp2_with fail
     go_ret
     exact ⟨rfl, HB.out⟩
   ·
    have h3b : decide (32 ≤ op) = false := decide_eq_false h3
    have HN := Aside0.mk (show nameOf op = ByteArray.empty by unfold nameOf; rw [if_neg (by omega), if_neg (by omega)])
    rw [HN.out]
    go_enter Tryd.func38, Tryd.ntmps38
    go_wp2_with fail
    refine (names_calls _ HT.out).mono ?_
    rintro e w1 ⟨g1, g2, rfl, _, _, _, _, hb⟩
    have HB := Aside0.mk hb
    clear hb
    go_wp2_with fail
    go_ret
    exact ⟨rfl, HB.out⟩
 ·
  have h1b : decide (1 ≤ op) = false := decide_eq_false h1
  have h3b : decide (32 ≤ op) = false := decide_eq_false (by omega)
  have HN := Aside0.mk (show nameOf op = ByteArray.empty by unfold nameOf; rw [if_neg (by omega), if_neg (by omega)])
  rw [HN.out]
  go_enter Tryd.func38, Tryd.ntmps38
  go_wp2_with fail
  refine (names_calls _ HT.out).mono ?_
  rintro e w1 ⟨g1, g2, rfl, _, _, _, _, hb⟩
  have HB := Aside0.mk hb
  clear hb
  go_wp2_with fail
  go_ret
  exact ⟨rfl, HB.out⟩
theorem Operand_f (kk : Nat) (op : Int) : code_Operand.f (kk + 2) op = some (operandOp op) := by
 unfold code_Operand.f operandOp
 by_cases h1 : 32 ≤ op
 ·
  rw [if_pos h1]
  by_cases h2 : op ≤ 38
  ·
   rw [decide_eq_true h2, decide_eq_true (.inl ⟨h1, h2⟩)]
   simp [code_Operand.j0]
  ·
   rw [decide_eq_false h2]
   by_cases h3 : 43 ≤ op <;> by_cases h4 : op ≤ 47 <;> by_cases h5 : op = 46 <;> simp [code_Operand.j0, h1, h2, h3, h4, h5] <;> first | done | omega
 ·
  rw [if_neg h1]
  have e : (decide (32 ≤ op ∧ op ≤ 38 ∨ 43 ≤ op ∧ op ≤ 47 ∧ op ≠ 46)) = false := decide_eq_false (by omega)
  rw [e]
  have h3 : ¬ 43 ≤ op := by omega
  simp [code_Operand.j0, h3]
theorem cell_at2 {w : World} {g t : Nat} {x y : Value} (h : w.heap[g]? = some (.cells #[x, y] t (0, 0))) : w.cell? ⟨g, 0, none⟩ = some x ∧ w.cell? ⟨g, 1, none⟩ = some y := by
 constructor <;> (unfold World.cell?; rw [h]; rfl)
set_option maxHeartbeats 8000000 in
set_option maxRecDepth 100000 in
theorem code_May.calls (op a : Int) (w : World) (ht : Lib.TabIs Tryd.prog w "strings.asciiSpace" .u8 Lib.asciiSpaceTab) :
  Calls Tryd.prog 19 #[.agg #[.int .i64 op, .int .i64 a]] w fun e w' => e = .returned (.bool (mayOf op a)) ∧ Below w.heap.size w w' := by
 have HT := Aside0.mk ht
 clear ht
 have HG := Aside0.mk (heap_alloc_new w (.cells #[.int .i64 op, .int .i64 a] 44))
 have hne := nameOf_empty op
 by_cases hv : validOp op = true
 ·
  have HV := Aside0.mk hv
  rw [hv] at hne
  have hne2 : (nameOf op).toList.isEmpty = false := hne
  by_cases ho : operandOp op = true
  ·
   have HO := Aside0.mk (Operand_f 0 op)
   have HE := Aside0.mk (show mayOf op a = decide (op = 32 ∨ 0 ≤ a) by unfold mayOf; rw [hv, ho]; simp)
   rw [ho] at HO
   rw [HE.out]
   clear hne ho hv
   by_cases h32 : op = 32
   ·
    subst h32
    rw [decide_eq_true (.inl rfl)]
    go_enter Tryd.func19, Tryd.ntmps19
    go_wp2_with fail
    refine (code_Name.calls 32 _ (tab_below HT.out (below_alloc (Below.refl _ _) _))).mono ?_
    rintro e w1 ⟨rfl, hb⟩
    obtain ⟨c0, c1⟩ := cell_at2 (blk_below HG.out hb)
    have HB := Aside0.mk (below_step (below_alloc (Below.refl _ _) _) hb)
    clear hb
    go_wp2_with fail
    refine (code_Operand.calls 2 32 true _ HO.out).mono ?_
    rintro e w2 ⟨rfl, ⟨nd, rfl⟩⟩
    go_wp2_with fail
    go_ret
    exact ⟨rfl, pw_below_drewN HB.out _⟩
   ·
    have h32b : (op == 32) = false := beq_eq_false_iff_ne.mpr h32
    by_cases ha : 0 ≤ a
    ·
     have hab : decide (0 ≤ a) = true := decide_eq_true ha
     rw [decide_eq_true (.inr ha)]
     go_enter Tryd.func19, Tryd.ntmps19
     go_wp2_with fail
     refine (code_Name.calls op _ (tab_below HT.out (below_alloc (Below.refl _ _) _))).mono ?_
     rintro e w1 ⟨rfl, hb⟩
     obtain ⟨c0, c1⟩ := cell_at2 (blk_below HG.out hb)
     have HB := Aside0.mk (below_step (below_alloc (Below.refl _ _) _) hb)
     clear hb
     go_wp2_with fail
     refine (code_Operand.calls 2 op true _ HO.out).mono ?_
     rintro e w2 ⟨rfl, ⟨nd, rfl⟩⟩
     go_wp2_with fail
     go_ret
     exact ⟨rfl, pw_below_drewN HB.out _⟩
    ·
     have hab : decide (0 ≤ a) = false := decide_eq_false ha
     rw [decide_eq_false (by rintro (h | h); exact h32 h; exact ha h)]
     go_enter Tryd.func19, Tryd.ntmps19
     go_wp2_with fail
     refine (code_Name.calls op _ (tab_below HT.out (below_alloc (Below.refl _ _) _))).mono ?_
     rintro e w1 ⟨rfl, hb⟩
     obtain ⟨c0, c1⟩ := cell_at2 (blk_below HG.out hb)
     have HB := Aside0.mk (below_step (below_alloc (Below.refl _ _) _) hb)
     clear hb
     go_wp2_with fail
     refine (code_Operand.calls 2 op true _ HO.out).mono ?_
     rintro e w2 ⟨rfl, ⟨nd, rfl⟩⟩
     go_wp2_with fail
     go_ret
     exact ⟨rfl, pw_below_drewN HB.out _⟩
  ·
   have HO := Aside0.mk (Operand_f 0 op)
   have HE := Aside0.mk (show mayOf op a = (a == 0) by unfold mayOf; rw [hv]; by_cases h0 : a = 0 <;> simp [ho, h0])
   rw [show operandOp op = false by simpa using ho] at HO
   rw [HE.out]
   clear hne ho hv
   go_enter Tryd.func19, Tryd.ntmps19
   go_wp2_with fail
   refine (code_Name.calls op _ (tab_below HT.out (below_alloc (Below.refl _ _) _))).mono ?_
   rintro e w1 ⟨rfl, hb⟩
   obtain ⟨c0, c1⟩ := cell_at2 (blk_below HG.out hb)
   have HB := Aside0.mk (below_step (below_alloc (Below.refl _ _) _) hb)
   clear hb
   go_wp2_with fail
   refine (code_Operand.calls 2 op false _ HO.out).mono ?_
   rintro e w2 ⟨rfl, ⟨nd, rfl⟩⟩
   go_wp2_with fail
   go_ret
   exact ⟨rfl, pw_below_drewN HB.out _⟩
 ·
  have hv2 : validOp op = false := by simpa using hv
  rw [hv2] at hne
  have hne2 : (nameOf op).toList.isEmpty = true := hne
  have HE := Aside0.mk (show mayOf op a = false by unfold mayOf; rw [hv2]; rfl)
  rw [HE.out]
  clear hne hv hv2
  go_enter Tryd.func19, Tryd.ntmps19
  go_wp2_with fail
  refine (code_Name.calls op _ (tab_below HT.out (below_alloc (Below.refl _ _) _))).mono ?_
  rintro e w1 ⟨rfl, hb⟩
  have HB := Aside0.mk (below_step (below_alloc (Below.refl _ _) _) hb)
  clear hb
  go_wp2_with fail
  go_ret
  exact ⟨rfl, HB.out⟩
end Go.Proofs.YtgpdaihfjnihhaaDoor.PJ
