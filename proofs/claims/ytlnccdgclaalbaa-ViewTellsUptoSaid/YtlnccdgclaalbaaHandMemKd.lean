/- Memories that were handed out: rows of numbers whose capacity is their length, each with cells of its own, and a row of their slices. -/
import Derived.Test.YtlnccdgclaalbaaPJx0
namespace Go.Proofs.Ytlnccdgclaalbaa.PJ
open Go.RowKit Go.Proofs.YtlnccdgclaalbaaW.PrintWords Go.Proofs.YtlnccdgclaalbaaW.PrintLast Go.Proofs.YtlnccdgclaalbaaW.PrintMore
set_option linter.unusedVariables false
set_option linter.unusedSimpArgs false
/-- Rows i < n: what is not empty lies at the head of a block of its own. -/
structure Mem (W : World) (base n : Nat) (V : Nat → Option Addr) (G : Nat → Nat) (xs : Nat → List Int) : Prop where
  at_ : ∀ i, i < n → 0 < (xs i).length → V i = some ⟨G i, 0, none⟩ ∧ base ≤ G i ∧ ∃ tl, W.heap[G i]? = some (.cells (nums .i64 (xs i) ++ tl).toArray 2 (0, 0))
  ne : ∀ i j, i < n → j < n → 0 < (xs i).length → 0 < (xs j).length → G i = G j → i = j
  max : ∀ i, i < n → (xs i).length ≤ 9223372036854775807
  room : ∀ i, i < n → 0 < (xs i).length → ∀ cs t fr, W.heap[G i]? = some (.cells cs t fr) → cs.size ≤ 9223372036854775807
section
variable {W W' : World} {base base' n : Nat} {V V' : Nat → Option Addr} {G G' : Nat → Nat} {xs ys : Nat → List Int}
theorem Mem.step (h : Mem W base n V G xs) (hm : ∀ i, i < n → 0 < (xs i).length → G i < W.heap.size → W'.heap[G i]? = W.heap[G i]?) : Mem W' base n V G xs :=
  ⟨fun i hi hp => by
    obtain ⟨h1, h2, tl, h3⟩ := h.at_ i hi hp
    exact ⟨h1, h2, tl, (hm i hi hp (blk_lt h3)).trans h3⟩, h.ne, h.max, fun i hi hp cs t fr hc => by
    obtain ⟨_, _, tl, h3⟩ := h.at_ i hi hp
    exact h.room i hi hp cs t fr ((hm i hi hp (blk_lt h3)).symm.trans hc)⟩
theorem Mem.below (h : Mem W base n V G xs) (hb : Below W.heap.size W W') : Mem W' base n V G xs := h.step (fun i _ _ hl => hb.block _ hl)
theorem Mem.lt (h : Mem W base n V G xs) {i : Nat} (hi : i < n) (hp : 0 < (xs i).length) : G i < W.heap.size := by
  obtain ⟨_, _, _, h3⟩ := h.at_ i hi hp
  exact blk_lt h3
theorem Mem.low (h : Mem W base n V G xs) (hb : base' ≤ base) : Mem W base' n V G xs :=
  ⟨fun i hi hp => by
    obtain ⟨h1, h2, h3⟩ := h.at_ i hi hp
    exact ⟨h1, Nat.le_trans hb h2, h3⟩, h.ne, h.max, h.room⟩
theorem Mem.congr (h : Mem W base n V G xs) (he : ∀ i, i < n → ys i = xs i) (hv : ∀ i, i < n → 0 < (xs i).length → V' i = V i ∧ G' i = G i) : Mem W base n V' G' ys :=
  ⟨fun i hi hp => by
    rw [he i hi] at hp ⊢
    obtain ⟨h1, h2, h3⟩ := h.at_ i hi hp
    rw [(hv i hi hp).1, (hv i hi hp).2]
    exact ⟨h1, h2, h3⟩, fun i j hi hj hp hq hg => by
    rw [he i hi] at hp
    rw [he j hj] at hq
    rw [(hv i hi hp).2, (hv j hj hq).2] at hg
    exact h.ne i j hi hj hp hq hg, fun i hi => by rw [he i hi]; exact h.max i hi, fun i hi hp cs t fr hc => by
    rw [he i hi] at hp
    rw [(hv i hi hp).2] at hc
    exact h.room i hi hp cs t fr hc⟩
theorem nums_at {k : IntKind} {l : List Int} {tl : List Value} {j : Nat} (hj : j < l.length) : (nums k l ++ tl)[j]? = some (.int k (rd l (j : Int))) := by
  rw [List.getElem?_append_left (by rw [nums_length]; exact hj)]
  simp [nums, rd, List.getElem?_eq_getElem hj]
theorem Mem.cell (h : Mem W base n V G xs) {i j : Nat} (hi : i < n) (hj : j < (xs i).length) : V i = some ⟨G i, 0, none⟩ ∧ W.cell? ⟨G i, j, none⟩ = some (.int .i64 (rd (xs i) (j : Int))) ∧ W.frozen? ⟨G i, j, none⟩ = false := by
  obtain ⟨h1, _, tl, h3⟩ := h.at_ i hi (by omega)
  refine ⟨h1, ?_, blk_frozen h3 j⟩
  refine (blk_cell h3 j).trans ?_
  have := nums_at (k := .i64) (tl := tl) hj
  simpa using this
theorem Mem.reads (h : Mem W base n V G xs) {i : Nat} (hi : i < n) : Kd.C (Kd.int .i64) W (V i) (xs i).length (xs i) := by
  refine ⟨rfl, h.max i hi, fun hp => ?_⟩
  obtain ⟨h1, _, tl, h3⟩ := h.at_ i hi hp
  refine ⟨_, h1, fun j p hj => ⟨[.int .i64 p], rfl, rfl, fun q u hu => ?_⟩⟩
  have hjl := (List.getElem?_eq_some_iff.1 hj).1
  match q, hu with
  | 0, hu =>
    obtain rfl : Value.int .i64 p = u := by simpa using hu
    have hc := (h.cell hi hjl).2.1
    have : rd (xs i) (j : Int) = p := by simp [rd, hj]
    rw [this] at hc
    show W.cell? ((⟨G i, 0, none⟩ : Addr).add (j * 1 + 0)) = _
    rw [add_plain, Nat.mul_one, Nat.add_zero]
    exact hc
  | q + 1, hu => simp at hu
theorem Mem.snoc {w1 : World} (h : Mem W base n V G xs) (hb : Below W.heap.size W w1) (hbase : base ≤ W.heap.size) {v : Value} {l : List Int} (hR : Kd.R (Kd.int .i64) 2 w1 W.heap.size (fun _ => True) v l) :
    ∃ A c g, v = .slice A l.length c ∧ ∀ i, i = n → Mem w1 base (n + 1) (fun j => if j = i then A else V j) (fun j => if j = i then g else G j) (fun j => if j = i then l else xs j) := by
  have hown := Kd.own_of_R hR
  have hm : l.length ≤ 9223372036854775807 := by
    obtain ⟨A, c, _, _, hC⟩ := Kd.R_reads hR
    exact hC.2.1
  have hW : ∀ i, i < n → (xs i).length ≤ 9223372036854775807 := h.max
  rcases id hown.2 with ⟨he, h0⟩ | ⟨g, cap, cur, he, hg, hh, hn, hcap, hsz, ht⟩
  · refine ⟨none, 0, 0, by rw [he, h0], fun i hi => ?_⟩
    subst hi
    refine ⟨fun j hj hp => ?_, fun j k hj hk hp hq hgg => ?_, fun j hj => ?_, fun j hj hp cs t fr hc => ?_⟩
    · by_cases e : j = i
      · subst e
        simp [h0] at hp
      · simp only [e, if_false] at hp ⊢
        obtain ⟨h1, h2, tl, h3⟩ := h.at_ j (by omega) hp
        exact ⟨h1, h2, tl, (hb.block _ (blk_lt h3)).trans h3⟩
    · by_cases e : j = i
      · subst e
        simp [h0] at hp
      · by_cases e2 : k = i
        · subst e2
          simp [h0] at hq
        · simp only [e, e2, if_false] at hp hq hgg
          exact h.ne j k (by omega) (by omega) hp hq hgg
    · by_cases e : j = i
      · simp [e, hm]
      · simp only [e, if_false]
        exact hW j (by omega)
    · by_cases e : j = i
      · subst e
        simp [h0] at hp
      · simp only [e, if_false] at hp hc
        obtain ⟨_, _, tl, h3⟩ := h.at_ j (by omega) hp
        exact h.room j (by omega) hp cs t fr ((hb.block _ (blk_lt h3)).symm.trans hc)
  · refine ⟨some ⟨g, 0, none⟩, cap, g, he, fun i hi => ?_⟩
    subst hi
    refine ⟨fun j hj hp => ?_, fun j k hj hk hp hq hgg => ?_, fun j hj => ?_, fun j hj hp cs t fr hc => ?_⟩
    · by_cases e : j = i
      · simp only [e, if_true] at hp ⊢
        refine ⟨trivial, Nat.le_trans hbase hg, cur.toList.drop l.length, ?_⟩
        rw [Nat.mul_one] at ht
        have : nums .i64 l ++ cur.toList.drop l.length = cur.toList := by
          have h4 : nums .i64 l = encs (Value.int .i64) l := rfl
          rw [h4, ← ht, List.take_append_drop]
        rw [this]
        exact hh
      · simp only [e, if_false] at hp ⊢
        obtain ⟨h1, h2, tl, h3⟩ := h.at_ j (by omega) hp
        exact ⟨h1, h2, tl, (hb.block _ (blk_lt h3)).trans h3⟩
    · by_cases e : j = i
      · by_cases e2 : k = i
        · omega
        · simp only [e, e2, if_true, if_false] at hp hq hgg
          have := h.lt (show k < i by omega) hq
          omega
      · by_cases e2 : k = i
        · simp only [e, e2, if_true, if_false] at hp hq hgg
          have := h.lt (show j < i by omega) hp
          omega
        · simp only [e, e2, if_false] at hp hq hgg
          exact h.ne j k (by omega) (by omega) hp hq hgg
    · by_cases e : j = i
      · simp [e, hm]
      · simp only [e, if_false]
        exact hW j (by omega)
    · by_cases e : j = i
      · simp only [e, if_true] at hc
        rw [hh] at hc
        injection hc with hc
        injection hc with hc
        rw [← hc, hsz, Nat.mul_one]
        exact hcap
      · simp only [e, if_false] at hp hc
        obtain ⟨_, _, tl, h3⟩ := h.at_ j (by omega) hp
        exact h.room j (by omega) hp cs t fr ((hb.block _ (blk_lt h3)).symm.trans hc)
/-- The slices of rows 1 .. n, in a row. -/
def heads (n : Nat) (V : Nat → Option Addr) (xs : Nat → List Int) : List Value := (List.range n).map fun j => .slice (V (j + 1)) (xs (j + 1)).length (xs (j + 1)).length
theorem heads_length (n : Nat) (V : Nat → Option Addr) (xs : Nat → List Int) : (heads n V xs).length = n := by simp [heads]
theorem heads_at {n : Nat} {V : Nat → Option Addr} {xs : Nat → List Int} {j : Nat} (h : j < n) : (heads n V xs)[j]? = some (.slice (V (j + 1)) (xs (j + 1)).length (xs (j + 1)).length) := by simp [heads, h]
theorem heads_set {n : Nat} {V V' : Nat → Option Addr} {xs ys : Nat → List Int} {i : Nat} {v : Value} (hv : v = .slice (V' (i + 1)) (ys (i + 1)).length (ys (i + 1)).length) (he : ∀ j, j ≠ i + 1 → V' j = V j ∧ ys j = xs j) : (heads n V xs).set i v = heads n V' ys := by
  apply List.ext_getElem?
  intro j
  by_cases hj : j < n
  · rw [heads_at hj, List.getElem?_set]
    by_cases e : i = j
    · subst e
      simp [heads_length, hj, hv]
    · rw [if_neg e, heads_at hj, (he (j + 1) (by omega)).1, (he (j + 1) (by omega)).2]
  · rw [List.getElem?_eq_none (by rw [List.length_set, heads_length]; omega), List.getElem?_eq_none (by rw [heads_length]; omega)]
/-- A memory that was handed out: v0 its globals (row 0), v1 the n arrays (rows 1 .. n). -/
def MemOut (W : World) (base : Nat) (v0 v1 : Value) (n : Nat) (xs : Nat → List Int) : Prop :=
  ∃ V G A, v0 = .slice (V 0) (xs 0).length (xs 0).length ∧ v1 = .slice A n n ∧ n ≤ 9223372036854775807 ∧
    (0 < n → ∃ b, A = some ⟨b, 0, none⟩ ∧ base ≤ b ∧ W.heap[b]? = some (.cells (heads n V xs).toArray 27 (0, 0))) ∧ Mem W base (n + 1) V G xs
theorem MemOut.step {v0 v1 : Value} (h : MemOut W base v0 v1 n xs) (hm : ∀ k, base ≤ k → k < W.heap.size → W'.heap[k]? = W.heap[k]?) : MemOut W' base v0 v1 n xs := by
  obtain ⟨V, G, A, e0, e1, hn, hA, hM⟩ := h
  refine ⟨V, G, A, e0, e1, hn, fun hp => ?_, hM.step (fun i hi hp hl => hm _ (hM.at_ i hi hp).2.1 hl)⟩
  obtain ⟨b, hb, h1, h2⟩ := hA hp
  exact ⟨b, hb, h1, (hm _ h1 (blk_lt h2)).trans h2⟩
theorem MemOut.below {v0 v1 : Value} (h : MemOut W base v0 v1 n xs) (hb : Below W.heap.size W W') : MemOut W' base v0 v1 n xs := h.step (fun k _ hk => hb.block k hk)
/-- The arrays as a list. -/
def rowsOf (n : Nat) (xs : Nat → List Int) : List (List Int) := (List.range n).map fun j => xs (j + 1)
theorem rowsOf_length (n : Nat) (xs : Nat → List Int) : (rowsOf n xs).length = n := by simp [rowsOf]
theorem rowsOf_at {n : Nat} {xs : Nat → List Int} {j : Nat} (h : j < n) : (rowsOf n xs)[j]? = some (xs (j + 1)) := by simp [rowsOf, h]
theorem MemOut.reads {v0 v1 : Value} (h : MemOut W base v0 v1 n xs) : ∃ A0 A1, v0 = .slice A0 (xs 0).length (xs 0).length ∧ v1 = .slice A1 n n ∧ Kd.C (Kd.int .i64) W A0 (xs 0).length (xs 0) ∧ Kd.C (Kd.slice 2 (Kd.int .i64)) W A1 n (rowsOf n xs) := by
  obtain ⟨V, G, A, e0, e1, hn, hA, hM⟩ := h
  refine ⟨_, _, e0, e1, hM.reads (by omega), rowsOf_length _ _, hn, fun hp => ?_⟩
  obtain ⟨b, hb, _, h2⟩ := hA hp
  refine ⟨_, hb, fun j p hj => ?_⟩
  have hjl : j < n := by have := (List.getElem?_eq_some_iff.1 hj).1; rwa [rowsOf_length] at this
  rw [rowsOf_at hjl] at hj
  injection hj with hj
  subst hj
  refine ⟨[.slice (V (j + 1)) (xs (j + 1)).length (xs (j + 1)).length], rfl, ⟨_, _, rfl, Nat.le_refl _, hM.reads (by omega)⟩, fun q u hu => ?_⟩
  match q, hu with
  | 0, hu =>
    obtain rfl : Value.slice (V (j + 1)) (xs (j + 1)).length (xs (j + 1)).length = u := by simpa using hu
    show W.cell? ((⟨b, 0, none⟩ : Addr).add (j * 1 + 0)) = _
    rw [add_plain, Nat.mul_one, Nat.add_zero]
    refine (blk_cell h2 j).trans ?_
    have := heads_at (V := V) (xs := xs) hjl
    simpa using this
  | q + 1, hu => simp at hu
theorem MemOut.shared {v0 v1 : Value} {b0 b1 : Nat} (h : MemOut W base v0 v1 n xs) : Kd.V (Kd.int .i64) 2 W b0 (fun k => base ≤ k) v0 (xs 0) ∧ Kd.V (Kd.slice 2 (Kd.int .i64)) 27 W b1 (fun k => base ≤ k) v1 (rowsOf n xs) := by
  obtain ⟨A0, A1, e0, e1, _, _⟩ := h.reads
  refine ⟨⟨A0, _, e0, Nat.le_refl _, fun W' hW => ?_⟩, ⟨A1, n, by rw [rowsOf_length]; exact e1, by rw [rowsOf_length]; exact Nat.le_refl _, fun W' hW => ?_⟩⟩
  · obtain ⟨B0, B1, f0, f1, g0, g1⟩ := (h.step hW).reads
    rw [e0] at f0
    injection f0 with f0
    rw [f0]
    exact g0
  · obtain ⟨B0, B1, f0, f1, g0, g1⟩ := (h.step hW).reads
    rw [e1] at f1
    injection f1 with f1
    rw [f1, rowsOf_length]
    exact g1
end
end Go.Proofs.Ytlnccdgclaalbaa.PJ
