/- The law CodeBack from its row's form: what is put is got; what is got is what would be put; names lead back. -/
import Derived.Test.YtgpdaihfjnihhaaDoorPJx0
import Derived.Test.YtgpdaihfjnihhaaDoorPJx10
import Derived.Test.YtgpdaihfjnihhaaDoorHandCodeBack
import Derived.Test.YtgpdaihfjnihhaaDoorHandTab
import Derived.Test.YtgpdaihfjnihhaaDoorOpenCode
import Derived.Test.YtgpdaihfjnihhaaDoorLebGetS
namespace Go.Proofs.YtgpdaihfjnihhaaDoor.PJ
open Go.RowKit Go.Proofs.YtgpdaihfjnihhaaDoorW.PrintWords Go.Proofs.YtgpdaihfjnihhaaDoorW.PrintLast Go.Proofs.YtgpdaihfjnihhaaDoorW.PrintMore Go.Proofs.YtgpdaihfjnihhaaDoor.LebPure Go.Proofs.YtgpdaihfjnihhaaDoor.LebForm Go.Proofs.YtgpdaihfjnihhaaDoor.B64
theorem w64s {i : Int} (h0 : 0 ≤ i) (h : i ≤ 9223372036854775807) : wrap64 i = i := by unfold wrap64; omega
def nameBackOk (op : Int) : Bool := !validOp op || match slices_Index_string_string.f 60 opL (nameOf op), slices_Index_string_string.f 60 inL (nameOf op) with
  | some q1, some q2 => byName q1 q2 == (op, true)
  | _, _ => false
set_option maxRecDepth 100000 in
theorem name_back_small : (List.range 48).all (fun n => nameBackOk (n : Int)) = true := by kernel_rfl
theorem valid_range {op : Int} (h : validOp op = true) : 1 ≤ op ∧ op ≤ 47 := by
  unfold validOp at h
  have := of_decide_eq_true h
  omega
theorem name_back (op : Int) (h : validOp op = true) : ∃ q1 q2, slices_Index_string_string.f 60 opL (nameOf op) = some q1 ∧ slices_Index_string_string.f 60 inL (nameOf op) = some q2 ∧ byName q1 q2 = (op, true) := by
  have hr := valid_range h
  have hs := List.all_eq_true.mp name_back_small op.toNat (List.mem_range.mpr (by omega))
  rw [show ((op.toNat : Nat) : Int) = op by omega] at hs
  unfold nameBackOk at hs
  rw [h, Bool.not_true, Bool.false_or] at hs
  split at hs
  · rename_i q1 q2 h1 h2
    exact ⟨q1, q2, h1, h2, by simpa using hs⟩
  · cases hs
theorem may_parts {op a : Int} (h : mayOf op a = true) : validOp op = true ∧ (operandOp op = true → op = 32 ∨ 0 ≤ a) ∧ (operandOp op = false → a = 0) := by
  unfold mayOf at h
  rw [Bool.and_eq_true] at h
  refine ⟨h.1, fun ho => ?_, fun ho => ?_⟩
  · have := h.2
    rw [ho, if_pos rfl] at this
    exact of_decide_eq_true this
  · have := h.2
    rw [ho, if_neg (by decide)] at this
    exact of_decide_eq_true this
theorem may_of {op a : Int} (hv : validOp op = true) (h1 : operandOp op = true → op = 32 ∨ 0 ≤ a) (h2 : operandOp op = false → a = 0) : mayOf op a = true := by
  unfold mayOf
  rw [hv, Bool.true_and]
  by_cases ho : operandOp op = true
  · rw [if_pos ho]
    exact decide_eq_true (h1 ho)
  · rw [if_neg ho]
    exact decide_eq_true (h2 (by simpa using ho))
/-- The bytes of an instruction. -/
def putOf (op a : Int) : List Int := op :: (if op = 32 then sform a else if operandOp op = true then form a.toNat else [])
theorem put_is (op a : Int) (ha : -9223372036854775808 ≤ a ∧ a ≤ 9223372036854775807) (h : mayOf op a = true) : PutIs 2000 op a (putOf op a) := by
  obtain ⟨hv, h1, h2⟩ := may_parts h
  have hr := valid_range hv
  have hm : op % 256 = op := by omega
  refine ⟨fun h' => absurd (h.symm.trans h') (by decide), fun _ he => ?_, fun _ hne ho => ?_, fun _ ho => ?_⟩
  · rw [PutSigned_f _ _ _ ha (by simp) (by omega), hm]
    simp [putOf, he]
  · have h0 : 0 ≤ a := (h1 ho).resolve_left hne
    have hp := Put_f 2000 [op % 256] a.toNat (by omega) (by simp) (by omega)
    rw [show ((a.toNat : Nat) : Int) = a by omega, hm] at hp
    rw [u64_small h0 (by omega), hm, hp]
    simp [putOf, hne, ho]
  · have hne : op ≠ 32 := fun he => by subst he; revert ho; decide
    simp [putOf, hne, ho, hm]
theorem put_len (op a : Int) (ha : -9223372036854775808 ≤ a ∧ a ≤ 9223372036854775807) : (putOf op a).length ≤ 100 := by
  unfold putOf
  have h1 := slen_i64 ha
  have h2 := ulen_u64 (n := a.toNat) (by omega)
  split
  · rw [List.length_cons, sform_length]; omega
  · split
    · rw [List.length_cons, form_length]; omega
    · simp
theorem put_bytes (op a : Int) (h : mayOf op a = true) : Bts (putOf op a) := by
  have hr := valid_range (may_parts h).1
  intro x hx
  unfold putOf at hx
  rcases List.mem_cons.mp hx with rfl | hx
  · omega
  · split at hx
    · exact sform_byte _ _ hx
    · split at hx
      · exact form_byte _ _ hx
      · cases hx
theorem put_one (op a : Int) (h : mayOf op a = true) : ((((putOf op a).length : Int) == 1) == operandOp op) = false := by
  obtain ⟨hv, h1, h2⟩ := may_parts h
  unfold putOf
  by_cases he : op = 32
  · subst he
    have := slen_pos a
    have ho : operandOp 32 = true := by decide
    have : ¬ (((32 :: sform a).length : Int) = 1) := by rw [List.length_cons, sform_length]; omega
    simp [ho, beq_eq_false_iff_ne] at this ⊢
    try omega
  · by_cases ho : operandOp op = true
    · have := ulen_pos a.toNat
      have : ¬ (((op :: form a.toNat).length : Int) = 1) := by rw [List.length_cons, form_length]; omega
      rw [if_neg he, if_pos ho, ho, beq_eq_false_iff_ne.mpr this]
      rfl
    · rw [if_neg he, if_neg ho, show operandOp op = false by simpa using ho]
      rfl
theorem get_put (op a : Int) (ha : -9223372036854775808 ≤ a ∧ a ≤ 9223372036854775807) (h : mayOf op a = true) (l : List Int) : codeGet (putOf op a ++ l) (getU (putOf op a ++ l).tail) (getS (putOf op a ++ l).tail) = (op, a, ((putOf op a).length : Int), 0) := by
  obtain ⟨hv, h1, h2⟩ := may_parts h
  unfold putOf
  rw [List.cons_append, codeGet_cons, if_pos hv, List.tail_cons]
  by_cases he : op = 32
  · rw [if_pos he, if_pos he, getS_form a ha, List.length_cons, sform_length]
    have := slen_i64 ha
    unfold instrErr
    simp only [Bool.false_eq_true, and_false, if_false, if_true]
    rw [w64s (by omega) (by omega)]
    rfl
  · rw [if_neg he, if_neg he]
    by_cases ho : operandOp op = true
    · have h0 : 0 ≤ a := (h1 ho).resolve_left he
      have hu := ulen_u64 (n := a.toNat) (by omega)
      rw [if_pos ho, if_pos ho, getU_form a.toNat (by omega), List.length_cons, form_length]
      unfold instrErr
      have hw : wrap64 ((a.toNat : Nat) : Int) = a := by rw [w64s (by omega) (by omega)]; omega
      have hd : decide (a < 0) = false := decide_eq_false (by omega)
      simp only [hw, hd, Bool.false_eq_true, and_false, if_false, if_true]
      rw [w64s (by omega) (by omega)]
      rfl
    · rw [if_neg ho, if_neg ho, h2 (by simpa using ho)]
      rfl
theorem get_back (l : List Int) (hb : Bts l) (hl : l.length ≤ 1000) : ∃ ko ka m f, codeGet l (getU l.tail) (getS l.tail) = (ko, ka, m, f) ∧ (f ≠ 0 ∨ f = 0 ∧ ∃ M : Nat, m = (M : Int) ∧ mayOf ko ka = true ∧ (-9223372036854775808 ≤ ka ∧ ka ≤ 9223372036854775807) ∧ M ≤ l.length ∧ l.take M = putOf ko ka) := by
  cases l with
  | nil => exact ⟨0, 0, 0, 30, rfl, Or.inl (by decide)⟩
  | cons b t =>
    rw [codeGet_cons, List.tail_cons]
    rw [List.length_cons] at hl
    by_cases hv : validOp b = true
    · rw [if_pos hv]
      by_cases he : b = 32
      · subst he
        rw [if_pos rfl]
        by_cases hz : (getS t).2.2 = 0
        · obtain ⟨K, u, hg, hu, hf, hk⟩ := getS_back t hz
          rw [hg]
          refine ⟨32, u, wrap64 ((K : Int) + 1), 0, rfl, Or.inr ⟨rfl, K + 1, ?_, ?_, hu, ?_, ?_⟩⟩
          · rw [w64s (by omega) (by omega)]; omega
          · exact may_of hv (fun _ => Or.inl rfl) (fun h => absurd h (by decide))
          · rw [List.length_cons]; omega
          · rw [List.take_succ_cons, ← hf]; rfl
        · refine ⟨0, 0, 0, (getS t).2.2, ?_, Or.inl hz⟩
          unfold instrErr
          simp only [Bool.false_eq_true, and_false, if_false]
          rw [if_neg hz]
      · rw [if_neg he]
        by_cases ho : operandOp b = true
        · rw [if_pos ho]
          by_cases hz : (getU t).2.2 = 0
          · obtain ⟨K, u, hg, hu, hf, hk⟩ := getU_back t hz
            rw [hg]
            by_cases hn : wrap64 (u : Int) < 0
            · refine ⟨0, 0, 0, 100, ?_, Or.inl (by decide)⟩
              unfold instrErr
              simp only [decide_eq_true hn, and_self, if_true]
              rfl
            · have hu' : u < 2 ^ 63 := by unfold wrap64 at hn; omega
              have hw : wrap64 (u : Int) = u := w64s (by omega) (by omega)
              refine ⟨b, (u : Int), wrap64 ((K : Int) + 1), 0, ?_, Or.inr ⟨rfl, K + 1, ?_, ?_, by omega, ?_, ?_⟩⟩
              · unfold instrErr
                simp only [hw, decide_eq_false (show ¬ ((u : Int) < 0) by omega), Bool.false_eq_true, and_false, if_false, if_true]
              · rw [w64s (by omega) (by omega)]; omega
              · exact may_of hv (fun _ => Or.inr (by omega)) (fun h => by rw [ho] at h; cases h)
              · rw [List.length_cons]; omega
              · rw [List.take_succ_cons, ← hf]; simp [putOf, he, ho]
          · refine ⟨0, 0, 0, (getU t).2.2, ?_, Or.inl hz⟩
            unfold instrErr
            simp only [hz, false_and, if_false]
        · rw [if_neg ho]
          refine ⟨b, 0, 1, 0, rfl, Or.inr ⟨rfl, 1, rfl, ?_, by decide, ?_, ?_⟩⟩
          · exact may_of hv (fun h => absurd h ho) (fun _ => rfl)
          · rw [List.length_cons]; omega
          · simp [putOf, he, ho]
    · rw [if_neg hv]
      exact ⟨0, 0, 0, 100, rfl, Or.inl (by decide)⟩
theorem louverlaw10_CodeBack.walk (cs0 : Array Value) (z0 : S44) (a1 : Option Addr) (len1 cap1 : Nat) (z1 : List Int) (w : World) (w0 : k44.K w z0 cs0.toList) (y0 : (Lit.int .i64 z0.f0).wf = true ∧ (Lit.int .i64 z0.f1).wf = true)
    (w1 : (a1 = none ∧ len1 = 0 ∧ cap1 = 0 ∧ z1 = []) ∨ ∃ x, a1 = some x ∧ len1 ≤ cap1 ∧ cap1 ≤ maxLen ∧ z1.length = cap1 ∧ (∀ i, i < z1.length → w.cell? (x.add i) = some (.int .u8 (z1.getD i 0))) ∧ ∀ n ∈ z1, (Lit.int .u8 n).wf = true) (_y1 : len1 * 1 ≤ 140737488351232) (hL : laidMetH Tryd.prog Rows.codeBackRow.laid w) :
    Calls Tryd.prog 10 #[.agg cs0, .slice a1 len1 cap1] w fun e w' => e = .returned (.bool true) ∧ Below w.heap.size w w' := by
  have e0 := k44_open w0
  obtain rfl : cs0 = #[.int .i64 z0.f0, .int .i64 z0.f1] := by
    apply Array.toList_inj.mp
    simpa using e0
  obtain ⟨l1, rfl, hr1, hm1, hw1, hc1⟩ := ReadsInt.ofRowC w1
  have hb1 := bts_of_wf hw1
  have hC := Kd.C_of_reads (d := (0 : Int)) (h1 := fun _ => rfl) hr1
  have ht := tab_of_laid hL
  have ha := B64.wf_i64 y0.2
  by_cases hn : 1000 < (l1.length : Int)
  · exact codeBack.long z0.f0 z0.f1 a1 cap1 l1 w ht hC hc1 hn
  · have hn' : (l1.length : Int) ≤ 1000 := by omega
    by_cases hm : mayOf z0.f0 z0.f1 = true
    · obtain ⟨q1, q2, hi1, hi2, hbn⟩ := name_back z0.f0 (may_parts hm).1
      have hpl := put_len z0.f0 z0.f1 ha
      have hpb : Bts (putOf z0.f0 z0.f1 ++ l1) := Bts.append (put_bytes _ _ hm) hb1
      have htl : Bts (putOf z0.f0 z0.f1 ++ l1).tail := fun x hx => hpb x (List.mem_of_mem_tail hx)
      have hlen : (putOf z0.f0 z0.f1 ++ l1).tail.length ≤ 1100 := by rw [List.length_tail, List.length_append]; omega
      have htl1 : Bts l1.tail := fun x hx => hb1 x (List.mem_of_mem_tail hx)
      have hlen1 : l1.tail.length ≤ 1000 := by rw [List.length_tail]; omega
      have g1 := Get_f 2000 _ htl (by omega) (by omega)
      have g2 := GetSigned_f 2000 _ htl (by omega) (by omega)
      have g3 := Get_f 2000 _ htl1 (by omega) (by omega)
      have g4 := GetSigned_f 2000 _ htl1 (by omega) (by omega)
      have hp := put_is z0.f0 z0.f1 ha hm
      obtain ⟨ko, ka, m, f, hk, hor⟩ := get_back l1 hb1 (by omega)
      rcases hor with hf | ⟨rfl, M, rfl, hmk, hka, hM, hcut⟩
      · exact codeBack.left z0.f0 z0.f1 a1 cap1 l1 (putOf z0.f0 z0.f1) _ _ _ _ _ q1 q2 ko ka 2000 m f w ht hC hc1 hm hn' hb1 hp hpl rfl hpb g1 g2 (get_put _ _ ha hm l1) hi1 hi2 hbn (put_one _ _ hm) g3 g4 hk hf
      · have hb2 := Bytes_f 2000 (putOf ko ka) (putOf ko ka) (by have := put_len ko ka hka; omega) (by have := put_len ko ka hka; omega)
        rw [decide_eq_true rfl] at hb2
        exact codeBack.got z0.f0 z0.f1 a1 cap1 l1 (putOf z0.f0 z0.f1) _ (putOf ko ka) (putOf ko ka) _ _ _ _ q1 q2 ko ka 2000 M w ht hC hc1 hm hn' hb1 hp hpl rfl hpb g1 g2 (get_put _ _ ha hm l1) hi1 hi2 hbn (put_one _ _ hm) g3 g4 hk hmk (put_is ko ka hka hmk) hM hcut hb2
    · exact codeBack.no z0.f0 z0.f1 a1 cap1 l1 w ht hC hc1 hn' (by simpa using hm)
end Go.Proofs.YtgpdaihfjnihhaaDoor.PJ
