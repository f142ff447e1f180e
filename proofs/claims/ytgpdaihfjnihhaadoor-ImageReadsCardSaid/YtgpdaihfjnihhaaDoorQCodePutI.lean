/- Plain facts of an instruction's bytes (for the Image laws). -/
import Derived.Test.YtgpdaihfjnihhaaDoorQPJx3
import Derived.Test.YtgpdaihfjnihhaaDoorQPB
import Derived.Test.YtgpdaihfjnihhaaDoorQHandCode3
import Derived.Test.YtgpdaihfjnihhaaDoorQLebAll
namespace Go.Proofs.YtgpdaihfjnihhaaDoor.PJ
open Go.RowKit Go.Proofs.YtgpdaihfjnihhaaDoorW.PrintWords Go.Proofs.YtgpdaihfjnihhaaDoorW.PrintLast Go.Proofs.YtgpdaihfjnihhaaDoorW.PrintMore Go.Proofs.YtgpdaihfjnihhaaDoor.LebPure Go.Proofs.YtgpdaihfjnihhaaDoor.LebForm Go.Proofs.YtgpdaihfjnihhaaDoor.B64
theorem w64s {i : Int} (h0 : 0 ≤ i) (h : i ≤ 9223372036854775807) : wrap64 i = i := by unfold wrap64; omega
def PutIs (k : Nat) (op a : Int) (r : List Int) : Prop :=
 (mayOf op a = false → r = []) ∧ (mayOf op a = true → op = 32 → leb_PutSigned.f k [op % 256] a = some r) ∧ (mayOf op a = true → op ≠ 32 → operandOp op = true → leb_Put.f k [op % 256] (IntKind.u64.wrap a) = some r) ∧ (mayOf op a = true → operandOp op = false → r = [op % 256])
theorem valid_range {op : Int} (h : validOp op = true) : 1 ≤ op ∧ op ≤ 47 := by
 unfold validOp at h
 have := of_decide_eq_true h
 omega
theorem may_parts {op a : Int} (h : mayOf op a = true) : validOp op = true ∧ (operandOp op = true → op = 32 ∨ 0 ≤ a) ∧ (operandOp op = false → a = 0) := by
 unfold mayOf at h
 rw [Bool.and_eq_true] at h
 refine ⟨h.1, fun ho => ?_, fun ho => ?_⟩
 ·
  have := h.2
  rw [ho, if_pos rfl] at this
  exact of_decide_eq_true this
 ·
  have := h.2
  rw [ho, if_neg (by decide)] at this
  exact of_decide_eq_true this
theorem may_of {op a : Int} (hv : validOp op = true) (h1 : operandOp op = true → op = 32 ∨ 0 ≤ a) (h2 : operandOp op = false → a = 0) : mayOf op a = true := by
 unfold mayOf
 rw [hv, Bool.true_and]
 by_cases ho : operandOp op = true
 ·
  rw [if_pos ho]
  exact decide_eq_true (h1 ho)
 ·
  rw [if_neg ho]
  exact decide_eq_true (h2 (by simpa using ho))
def putOf (op a : Int) : List Int := op :: (if op = 32 then sform a else if operandOp op = true then form a.toNat else [])
theorem put_is_k (k : Nat) (op a : Int) (ha : -9223372036854775808 ≤ a ∧ a ≤ 9223372036854775807) (h : mayOf op a = true) (hk : 100 ≤ k) : PutIs k op a (putOf op a) := by
 obtain ⟨hv, h1, h2⟩ := may_parts h
 have hr := valid_range hv
 have hm : op % 256 = op := by omega
 refine ⟨fun h' => absurd (h.symm.trans h') (by decide), fun _ he => ?_, fun _ hne ho => ?_, fun _ ho => ?_⟩
 ·
  rw [PutSigned_f _ _ _ ha (by simp) (by omega), hm]
  simp [putOf, he]
 ·
  have h0 : 0 ≤ a := (h1 ho).resolve_left hne
  have hp := Put_f k [op % 256] a.toNat (by omega) (by simp) (by omega)
  rw [show ((a.toNat : Nat) : Int) = a by omega, hm] at hp
  rw [u64_small h0 (by omega), hm, hp]
  simp [putOf, hne, ho]
 ·
  have hne : op ≠ 32 := fun he => by subst he; revert ho; decide
  simp [putOf, hne, ho, hm]
theorem put_len (op a : Int) (ha : -9223372036854775808 ≤ a ∧ a ≤ 9223372036854775807) : (putOf op a).length ≤ 100 := by
 unfold putOf
 have h1 := slen_i64 ha
 have h2 := ulen_u64 (n := a.toNat) (by omega)
 split
 ·
  rw [List.length_cons, sform_length]; omega
 ·
  split
  ·
   rw [List.length_cons, form_length]; omega
  ·
   simp
theorem put_bytes (op a : Int) (h : mayOf op a = true) : Bts (putOf op a) := by
 have hr := valid_range (may_parts h).1
 intro x hx
 unfold putOf at hx
 rcases List.mem_cons.mp hx with rfl | hx
 ·
  omega
 ·
  split at hx
  ·
   exact sform_byte _ _ hx
  ·
   split at hx
   ·
    exact form_byte _ _ hx
   ·
    cases hx
end Go.Proofs.YtgpdaihfjnihhaaDoor.PJ
