/- Folds of the program and of the document over one list of int64 come to one answer. Lists shorter than 2^63. -/
import Derived.Test.YtblhmmhhjkjcgaaPureOpsAll
import Derived.Test.YtblhmmhhjkjcgaaPJx4
namespace Go.Proofs.Ytblhmmhhjkjcgaa.OpsRef
open Go.RowKit Go.Proofs.Ytblhmmhhjkjcgaa.PJ Go.Proofs.YtblhmmhhjkjcgaaW.PrintWords Go.Proofs.YtblhmmhhjkjcgaaW.PrintLast Go.Proofs.YtblhmmhhjkjcgaaW.PrintMore Go.Proofs.Ytblhmmhhjkjcgaa.B64 Go.Proofs.Ytblhmmhhjkjcgaa.OpsBits

theorem small_word (p : Prop) [Decidable p] : ∃ z : BitVec 64, (if p then (1 : Int) else 0) = z.toInt := by
  by_cases h : p
  · exact ⟨1#64, by rw [if_pos h]; decide⟩
  · exact ⟨0#64, by rw [if_neg h]; decide⟩
theorem Binary_word (op : Int) (k : Nat) (x y : BitVec 64) : ∃ (z : BitVec 64) (b : Bool), ops_Binary.f (k + 2) op x.toInt y.toInt = some (z.toInt, b) := by
  by_cases h : op < 1 ∨ 14 < op
  · exact ⟨0#64, false, (Binary_none k op _ _ h).trans (by decide)⟩
  · have h' : op = 1 ∨ op = 2 ∨ op = 3 ∨ op = 4 ∨ op = 5 ∨ op = 6 ∨ op = 7 ∨ op = 8 ∨ op = 9 ∨ op = 10 ∨ op = 11 ∨ op = 12 ∨ op = 13 ∨ op = 14 := by omega
    rcases h' with rfl | rfl | rfl | rfl | rfl | rfl | rfl | rfl | rfl | rfl | rfl | rfl | rfl | rfl
    · exact ⟨_, _, Binary_add k x y⟩
    · exact ⟨_, _, Binary_sub k x y⟩
    · exact ⟨_, _, Binary_mul k x y⟩
    · rw [ops_quot]
      unfold quot
      by_cases h0 : y.toInt = 0
      · rw [if_pos h0]
        exact ⟨0#64, true, by decide⟩
      · rw [if_neg h0, wrap64_ofInt]
        exact ⟨_, _, rfl⟩
    · rw [ops_rest]
      unfold rest
      by_cases h0 : y.toInt = 0
      · rw [if_pos h0]
        exact ⟨0#64, true, by decide⟩
      · rw [if_neg h0, wrap64_ofInt]
        exact ⟨_, _, rfl⟩
    · exact ⟨_, _, Binary_and k x y⟩
    · exact ⟨_, _, Binary_or k x y⟩
    · exact ⟨_, _, Binary_xor k x y⟩
    · exact ⟨_, _, Binary_shl k x y⟩
    · exact ⟨_, _, Binary_shr k x y⟩
    · obtain ⟨z, hz⟩ := small_word (x.toInt = y.toInt)
      exact ⟨z, true, by rw [Binary_eq, hz]⟩
    · obtain ⟨z, hz⟩ := small_word (¬ x.toInt = y.toInt)
      refine ⟨z, true, ?_⟩
      rw [Binary_ne, ← hz]
      by_cases e : x.toInt = y.toInt <;> simp [e]
    · obtain ⟨z, hz⟩ := small_word (x.toInt < y.toInt)
      exact ⟨z, true, by rw [Binary_lt, hz]⟩
    · obtain ⟨z, hz⟩ := small_word (x.toInt ≤ y.toInt)
      exact ⟨z, true, by rw [Binary_le, hz]⟩
/-- One step of a fold. -/
def step (op : Int) (x y : BitVec 64) : BitVec 64 := BitVec.ofInt 64 (((ops_Binary.f 2 op x.toInt y.toInt).getD (0, false)).1)
theorem step_ops (op : Int) (k : Nat) (x y : BitVec 64) : ∃ b, ops_Binary.f (k + 2) op x.toInt y.toInt = some ((step op x y).toInt, b) := by
  obtain ⟨z, b, h⟩ := Binary_word op 0 x y
  have hm := at_rounds (g := fun k => ops_Binary.f k op x.toInt y.toInt) (ops_Binary.mono op x.toInt y.toInt) (show 0 + 2 ≤ k + 2 by omega) h
  refine ⟨b, ?_⟩
  have e : step op x y = z := by
    unfold step
    rw [h]
    exact BitVec.ofInt_toInt
  rw [e]
  exact hm
theorem step_ref (op : Int) (k : Nat) (x y : BitVec 64) : ∃ b, louverref02_Binary.f (k + 140) op x.toInt y.toInt = some ((step op x y).toInt, b) := by
  obtain ⟨r, h1, h2⟩ := Binary_same op k x y
  obtain ⟨b, h3⟩ := step_ops op k x y
  have e : r = ((step op x y).toInt, b) := Option.some.inj (h1.symm.trans h3)
  exact ⟨b, by rw [h2, e]⟩
theorem rd_map (L : List (BitVec 64)) (i : Nat) (hi : i < L.length) : rd (L.map BitVec.toInt) i = (L[i]).toInt := by
  unfold rd
  rw [Int.toNat_natCast]
  simp [List.getD, hi]
theorem fold_l0 (op : Int) (L : List (BitVec 64)) (hl : L.length < 9223372036854775807) (d : Nat) : ∀ (k i : Nat) (a : BitVec 64), i + d = L.length → d + 3 < k →
    ops_Fold.l0 k op a.toInt (L.map BitVec.toInt) (L.length : Int) i = some (((L.drop i).foldl (step op) a).toInt, true) := by
  induction d with
  | zero =>
    intro k i a hi hk
    obtain ⟨k, rfl⟩ : ∃ m, k = m + 1 := ⟨k - 1, by omega⟩
    rw [ops_Fold.l0, if_neg (by omega), List.drop_of_length_le (by omega)]
    rfl
  | succ d ih =>
    intro k i a hi hk
    obtain ⟨k, rfl⟩ : ∃ m, k = m + 3 := ⟨k - 3, by omega⟩
    have hil : i < L.length := by omega
    obtain ⟨b, hb⟩ := step_ops op k a L[i]
    rw [ops_Fold.l0, if_pos (by omega), if_pos (by omega), if_pos (by rw [List.length_map]; omega), rd_map L i hil, hb, Option.bind_some, wrap_small (by omega) (by omega), List.drop_eq_getElem_cons hil]
    exact ih (k + 2) (i + 1) _ (by omega) (by omega)
theorem ref_l0 (op : Int) (L : List (BitVec 64)) (hl : L.length < 9223372036854775807) (d : Nat) : ∀ (k i : Nat) (a : BitVec 64), i + d = L.length → d + 141 < k →
    louverref02_Fold.l0 k op (L.map BitVec.toInt) a.toInt i = some (((L.drop i).foldl (step op) a).toInt, true) := by
  induction d with
  | zero =>
    intro k i a hi hk
    obtain ⟨k, rfl⟩ : ∃ m, k = m + 1 := ⟨k - 1, by omega⟩
    rw [louverref02_Fold.l0, if_neg (by rw [List.length_map]; omega), List.drop_of_length_le (by omega)]
    rfl
  | succ d ih =>
    intro k i a hi hk
    obtain ⟨k, rfl⟩ : ∃ m, k = m + 141 := ⟨k - 141, by omega⟩
    have hil : i < L.length := by omega
    obtain ⟨b, hb⟩ := step_ref op k a L[i]
    rw [louverref02_Fold.l0, if_pos (by rw [List.length_map]; omega), if_pos (by omega), rd_map L i hil, hb, Option.bind_some, wrap_small (by omega) (by omega), List.drop_eq_getElem_cons hil]
    exact ih (k + 140) (i + 1) _ (by omega) (by omega)
def arity (op : Int) : Int := if 1 ≤ op ∧ op ≤ 14 then 2 else if 15 ≤ op ∧ op ≤ 17 then 1 else 0
theorem Arity_f (k : Nat) (op : Int) : ops_Arity.f (k + 1) op = some (arity op) := by
  unfold ops_Arity.f ops_Arity.j0 arity
  by_cases h1 : op ≥ 1 <;> by_cases h2 : op ≤ 14 <;> by_cases h3 : op ≥ 15 <;> by_cases h4 : op ≤ 17 <;> simp [h1, h2, h3, h4] <;> omega
theorem refArity_f (k : Nat) (op : Int) : louverref02_Arity.f (k + 1) op = some (arity op) := by
  unfold louverref02_Arity.f louverref02_Arity.j0 arity
  by_cases h1 : op ≥ 1 <;> by_cases h2 : op ≤ 14 <;> by_cases h3 : op ≥ 15 <;> by_cases h4 : op ≤ 17 <;> simp [h1, h2, h3, h4] <;> omega
def fold (op : Int) (L : List (BitVec 64)) : Int × Bool :=
  if arity op = 2 then (match L with | [] => (0, false) | a :: t => ((t.foldl (step op) a).toInt, true)) else (0, false)
theorem Fold_f (k : Nat) (op : Int) (L : List (BitVec 64)) (hl : L.length < 9223372036854775807) (hk : L.length + 10 < k) : ops_Fold.f k op (L.map BitVec.toInt) = some (fold op L) := by
  obtain ⟨k, rfl⟩ : ∃ m, k = m + 1 := ⟨k - 1, by omega⟩
  unfold ops_Fold.f fold
  rw [Arity_f, Option.bind_some]
  by_cases h : arity op = 2
  · rw [if_pos h, if_pos h, ops_Fold.j0]
    cases L with
    | nil => rfl
    | cons a t =>
      rw [if_neg (by simp; omega), if_pos (by simp), if_pos (by simp; omega), Option.bind_some]
      have e1 : rd ((a :: t).map BitVec.toInt) 0 = a.toInt := rfl
      have e2 : ((a :: t).map BitVec.toInt).drop 1 = t.map BitVec.toInt := rfl
      rw [e1, e2, List.length_map]
      simp only [List.length_cons] at hl hk
      have := fold_l0 op t (by omega) t.length k 0 a (by omega) (by omega)
      simpa using this
  · rw [if_neg h, if_neg h, ops_Fold.j0, if_pos rfl]
theorem refFold_f (k : Nat) (op : Int) (L : List (BitVec 64)) (hl : L.length < 9223372036854775807) (hk : L.length + 150 < k) : louverref02_Fold.f k op (L.map BitVec.toInt) = some (fold op L) := by
  obtain ⟨k, rfl⟩ : ∃ m, k = m + 1 := ⟨k - 1, by omega⟩
  unfold louverref02_Fold.f fold
  rw [refArity_f, Option.bind_some]
  by_cases h : arity op = 2
  · rw [if_pos h, if_pos h, louverref02_Fold.j0]
    cases L with
    | nil => rfl
    | cons a t =>
      rw [if_neg (by simp; omega), if_pos (by simp)]
      have e1 : rd ((a :: t).map BitVec.toInt) 0 = a.toInt := rfl
      rw [e1]
      simp only [List.length_cons] at hl hk
      have := ref_l0 op (a :: t) (by simp; omega) t.length k 1 a (by simp; omega) (by omega)
      simpa using this
  · rw [if_neg h, if_neg h, louverref02_Fold.j0, if_pos rfl]
theorem Int64s_l0 (a b : List Int) (hab : a.length = b.length) (hl : a.length < 9223372036854775807) (d : Nat) : ∀ (k i : Nat), i + d = a.length → d < k → louverkit_Int64s.l0 k a b i = some (decide (a.drop i = b.drop i)) := by
  induction d with
  | zero =>
    intro k i hi hk
    obtain ⟨k, rfl⟩ : ∃ m, k = m + 1 := ⟨k - 1, by omega⟩
    rw [louverkit_Int64s.l0, if_neg (by omega), List.drop_of_length_le (by omega), List.drop_of_length_le (by omega)]
    simp
  | succ d ih =>
    intro k i hi hk
    obtain ⟨k, rfl⟩ : ∃ m, k = m + 1 := ⟨k - 1, by omega⟩
    have ha : i < a.length := by omega
    have hb : i < b.length := by omega
    have ra : rd a i = a[i] := by unfold rd; rw [Int.toNat_natCast]; simp [List.getD, ha]
    have rb : rd b i = b[i] := by unfold rd; rw [Int.toNat_natCast]; simp [List.getD, hb]
    rw [louverkit_Int64s.l0, if_pos (by omega), if_pos (by omega), if_pos (by omega), ra, rb, List.drop_eq_getElem_cons ha, List.drop_eq_getElem_cons hb, wrap_small (by omega) (by omega)]
    by_cases h : a[i] = b[i]
    · rw [if_pos h]
      refine (ih k (i + 1) (by omega) (by omega)).trans ?_
      rw [h]
      congr 1
      rw [decide_eq_decide]
      simp only [List.cons.injEq, true_and]
    · rw [if_neg h]
      congr 1
      exact (decide_eq_false (fun e => h (List.cons.inj e).1)).symm
theorem Int64s_f (k : Nat) (a b : List Int) (hl : a.length < 9223372036854775807) (hk : a.length < k) : louverkit_Int64s.f k a b = some (decide (a = b)) := by
  unfold louverkit_Int64s.f
  by_cases h : a.length = b.length
  · rw [if_pos (by omega)]
    have := Int64s_l0 a b h hl a.length k 0 (by omega) hk
    simpa using this
  · rw [if_neg (by omega)]
    have : ¬ a = b := fun e => h (by rw [e])
    simp [this]
theorem words_of {l : List Int} (h : ∀ x ∈ l, (Lit.int .i64 x).wf = true) : ∃ L : List (BitVec 64), l = L.map BitVec.toInt := by
  induction l with
  | nil => exact ⟨[], rfl⟩
  | cons a t ih =>
    obtain ⟨x, hx⟩ := i64_exists (wf_i64 (h a List.mem_cons_self))
    obtain ⟨T, hT⟩ := ih (fun y hy => h y (List.mem_cons_of_mem _ hy))
    exact ⟨x :: T, by rw [List.map_cons, hx, hT]⟩
end Go.Proofs.Ytblhmmhhjkjcgaa.OpsRef
