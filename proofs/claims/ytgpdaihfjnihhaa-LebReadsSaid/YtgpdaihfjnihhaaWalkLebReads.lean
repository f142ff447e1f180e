/- The law LebReads from its row's form. -/
import Derived.Test.YtgpdaihfjnihhaaHandLebReads
namespace Go.Proofs.Ytgpdaihfjnihhaa.PJ
open Go.RowKit Go.Proofs.YtgpdaihfjnihhaaW.PrintWords Go.Proofs.YtgpdaihfjnihhaaW.PrintLast Go.Proofs.YtgpdaihfjnihhaaW.PrintMore Go.Proofs.Ytgpdaihfjnihhaa.LebPure Go.Proofs.Ytgpdaihfjnihhaa.LebForm
theorem bts_drop {l : List Int} (h : Bts l) (i : Nat) : Bts (l.drop i) := fun x hx => h x (List.mem_of_mem_drop hx)
theorem getU_zero (l : List Int) : (getU l).2.2 = 0 ∨ getU l = (0, 0, (getU l).2.2) := by
  unfold getU
  split
  · split
    · exact .inl rfl
    · exact .inr rfl
  · exact .inr rfl
theorem getS_zero (l : List Int) : (getS l).2.2 = 0 ∨ getS l = (0, 0, (getS l).2.2) := by
  unfold getS
  split
  · split
    · exact .inl rfl
    · exact .inr rfl
  · exact .inr rfl
theorem sameU (k : Nat) (l : List Int) (hb : Bts l) (hl : l.length < 9223372036854775807) (hk : 2 * l.length + 60 < k) : Same l (leb_Get.f k) (louverref03_Get.f k) := by
  intro i hi
  have hln : (l.drop i).length = l.length - i := List.length_drop
  have h1 := Get_f k (l.drop i) (bts_drop hb i) (by omega) (by omega)
  have h2 := refGet_f k (l.drop i) (bts_drop hb i) (by omega) (by omega)
  by_cases h : (getU (l.drop i)).2.2 = 0
  · obtain ⟨K, u, he, _, _, hK⟩ := getU_back (l.drop i) h
    rw [he] at h1 h2
    exact ⟨u, K, 0, h1, h2, fun h => absurd rfl h, by omega⟩
  · have he := (getU_zero (l.drop i)).resolve_left h
    rw [he] at h1 h2
    exact ⟨0, 0, (getU (l.drop i)).2.2, h1, h2, fun _ => ⟨rfl, rfl⟩, by omega⟩
theorem sameS (k : Nat) (l : List Int) (hb : Bts l) (hl : l.length < 9223372036854775807) (hk : 2 * l.length + 60 < k) : Same l (leb_GetSigned.f k) (louverref03_GetSigned.f k) := by
  intro i hi
  have hln : (l.drop i).length = l.length - i := List.length_drop
  have h1 := GetSigned_f k (l.drop i) (bts_drop hb i) (by omega) (by omega)
  have h2 := refGetSigned_f k (l.drop i) (bts_drop hb i) (by omega) (by omega)
  by_cases h : (getS (l.drop i)).2.2 = 0
  · obtain ⟨K, u, he, _, _, hK⟩ := getS_back (l.drop i) h
    rw [he] at h1 h2
    exact ⟨u, K, 0, h1, h2, fun h => absurd rfl h, by omega⟩
  · have he := (getS_zero (l.drop i)).resolve_left h
    rw [he] at h1 h2
    exact ⟨0, 0, (getS (l.drop i)).2.2, h1, h2, fun _ => ⟨rfl, rfl⟩, by omega⟩
theorem louverlaw03_LebReads.walk (a0 : Option Addr) (len0 cap0 : Nat) (z0 : List Int) (a1 : Option Addr) (len1 cap1 : Nat) (z1 : List Int) (w : World)
    (w0 : (a0 = none ∧ len0 = 0 ∧ cap0 = 0 ∧ z0 = []) ∨ ∃ x, a0 = some x ∧ len0 ≤ cap0 ∧ cap0 ≤ maxLen ∧ z0.length = cap0 ∧ (∀ i, i < z0.length → w.cell? (x.add i) = some (.int .u8 (z0.getD i 0))) ∧ ∀ n ∈ z0, (Lit.int .u8 n).wf = true) (y0 : len0 * 1 ≤ 140737488351232)
    (w1 : (a1 = none ∧ len1 = 0 ∧ cap1 = 0 ∧ z1 = []) ∨ ∃ x, a1 = some x ∧ len1 ≤ cap1 ∧ cap1 ≤ maxLen ∧ z1.length = cap1 ∧ (∀ i, i < z1.length → w.cell? (x.add i) = some (.int .u8 (z1.getD i 0))) ∧ ∀ n ∈ z1, (Lit.int .u8 n).wf = true) (y1 : len1 * 1 ≤ 140737488351232) :
    Calls Try.prog 6 #[.slice a0 len0 cap0, .slice a1 len1 cap1] w fun e w' => e = .returned (.bool true) ∧ Below w.heap.size w w' := by
  obtain ⟨l0, rfl, hr0, hm0, hw0, hc0⟩ := ReadsInt.ofRowC w0
  obtain ⟨l1, rfl, hr1, hm1, hw1, hc1⟩ := ReadsInt.ofRowC w1
  have hb := bts_of_wf hw0
  have hl : l0.length < 9223372036854775807 := by omega
  exact lebReads.calls (2 * l0.length + 100) _ _ l0 _ _ l1 w (Kd.C_of_reads (d := (0 : Int)) (h1 := fun _ => rfl) hr0) hc0 (by omega) (Kd.C_of_reads (d := (0 : Int)) (h1 := fun _ => rfl) hr1) hc1 (by omega)
    (sameU _ l0 hb hl (by omega)) (sameS _ l0 hb hl (by omega)) (by rw [Bytes_f _ l0 l0 hl (by omega)]; simp) (awake_f _ (by omega))
end Go.Proofs.Ytgpdaihfjnihhaa.PJ
