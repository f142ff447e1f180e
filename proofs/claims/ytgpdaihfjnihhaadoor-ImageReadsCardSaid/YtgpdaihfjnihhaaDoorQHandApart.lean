/- ApartBytes: rows whose capacity is their length, in blocks of their own, are written full, gone on with and looked at: it answers true; only their blocks are written. -/
import Derived.Test.YtgpdaihfjnihhaaDoorQPJx0
import Derived.Test.YtgpdaihfjnihhaaDoorQAppendFull
import Derived.WalkKit
namespace Go.Proofs.YtgpdaihfjnihhaaDoor.PJ
open Go.RowKit Go.Proofs.YtgpdaihfjnihhaaDoorW.PrintWords Go.Proofs.YtgpdaihfjnihhaaDoorW.PrintLast Go.Proofs.YtgpdaihfjnihhaaDoorW.PrintMore
set_option linter.unusedSimpArgs false
set_option linter.unusedVariables false
structure Wrote (S : Nat → Prop) (w w' : World) : Prop where
 os : w'.os = w.os
 tape : w'.tape = w.tape
 output : w'.output = w.output
 size : w.heap.size ≤ w'.heap.size
 block : ∀ k, k < w.heap.size → ¬ S k → w'.heap[k]? = w.heap[k]?
theorem Wrote.refl (S : Nat → Prop) (w : World) : Wrote S w w := ⟨rfl, rfl, rfl, Nat.le_refl _, fun _ _ _ => rfl⟩
theorem Wrote.grown {S : Nat → Prop} {w w1 w2 : World} {row : Option Nat} (h : Wrote S w w1) (hg : w1.grownBy w2 row) (hs : ∀ g, row = some g → S g ∨ w.heap.size ≤ g) : Wrote S w w2 :=
 ⟨hg.os.trans h.os, hg.tape.trans h.tape, hg.output.trans h.output, Nat.le_trans h.size hg.size, fun k hk hn => (hg.block k (Nat.lt_of_lt_of_le hk h.size) (fun he => by
  rcases hs k he.symm with h1 | h1
  ·
   exact hn h1
  ·
   omega)).trans (h.block k hk hn)⟩
theorem Wrote.below {S : Nat → Prop} {w w1 w2 : World} (h : Wrote S w w1) (hb : Below w1.heap.size w1 w2) : Wrote S w w2 := h.grown (row := none) (grown_of_below hb none) (fun g hg => by cases hg)
theorem Wrote.toBelow {S : Nat → Prop} {w w' : World} (h : Wrote S w w') (B : Nat) (hB : B ≤ w.heap.size) (hS : ∀ k, S k → B ≤ k) : Below B w w' :=
 ⟨h.os, h.tape, h.output, h.size, fun k hk => h.block k (by omega) (fun hs => by have := hS k hs; omega)⟩
theorem Wrote.cell {S : Nat → Prop} {w w' : World} (h : Wrote S w w') {a : Addr} {v : Value} (hc : w.cell? a = some v) (hn : ¬ S a.block) : w'.cell? a = some v := by
 have hlt := World.block_lt_of_cell? _ _ hc
 have := h.block _ hlt hn
 unfold World.cell? at hc ⊢
 rw [this]
 exact hc
structure Rws (n : Nat) (V : Nat → Option Addr) (m cc : Nat → Nat) (ok : Nat → Nat → Prop) (base : Nat) (W : World) (xs : Nat → List Int) : Prop where
 len : ∀ i, i < n → (xs i).length = m i
 row : ∀ i, i < n → Kd.R (Kd.int .u8) 5 W base (ok i) (.slice (V i) (m i) (cc i)) (xs i)
section
variable {n : Nat} {V : Nat → Option Addr} {m cc : Nat → Nat} {ok : Nat → Nat → Prop} {base : Nat} {W W' : World} {xs ys : Nat → List Int}
theorem Rws.step (h : Rws n V m cc ok base W xs) (hm : ∀ i k, i < n → ok i k → k < W.heap.size → W'.heap[k]? = W.heap[k]?) : Rws n V m cc ok base W' xs :=
 ⟨h.len, fun i hi => Kd.R_step (h.row i hi) (fun k hk hlt => hm i k hi hk hlt)⟩
theorem Rws.below (h : Rws n V m cc ok base W xs) (hb : Below W.heap.size W W') : Rws n V m cc ok base W' xs := h.step (fun i k _ _ hk => hb.block k hk)
theorem Rws.congr (h : Rws n V m cc ok base W xs) (he : ∀ i, i < n → xs i = ys i) : Rws n V m cc ok base W ys := ⟨fun i hi => by rw [← he i hi]; exact h.len i hi, fun i hi => by rw [← he i hi]; exact h.row i hi⟩
theorem Rws.bound (h : Rws n V m cc ok base W xs) : Rws n V m cc (fun i k => ok i k ∧ k < W.heap.size) base W xs := ⟨h.len, fun i hi => Kd.R_mono (Kd.R_bound (h.row i hi)) (fun k hk => ⟨hk.1, hk.2.2.1⟩)⟩
theorem Rws.reads (h : Rws n V m cc ok base W xs) (i : Nat) (hi : i < n) : Kd.C (Kd.int .u8) W (V i) (xs i).length (xs i) := by
 obtain ⟨h1, _, h2⟩ := Kd.R_reads' (h.row i hi)
 exact h2
theorem Rws.at_ (h : Rws n V m cc ok base W xs) (i k : Nat) (hi : i < n) (hk : k < m i) : ∃ g, V i = some ⟨g, 0, none⟩ ∧ ok i g ∧ g < W.heap.size ∧ W.cell? ⟨g, k, none⟩ = some (.int .u8 (rd (xs i) (k : Int))) ∧ W.frozen? ⟨g, k, none⟩ = false := by
 have hR := h.row i hi
 have hl := h.len i hi
 have ho := Kd.own_of_R hR
 rcases id ho.2 with ⟨h', _⟩ | ⟨g, cap, cur, h', hg, hh, _⟩
 ·
  injection h' with _ h' _
  omega
 ·
  injection h' with h' _ _
  rw [h'] at hR ho
  obtain ⟨c1, c2⟩ := Kd.R_celln (0 : Int) hR (k : Int) (by omega) (by omega)
  rw [Int.toNat_natCast] at c1 c2
  exact ⟨g, h', hR.1 g rfl, own_lt ho g rfl, c1, c2⟩
theorem Rws.put (h : Rws n V m cc ok base W xs) (hd : ∀ i j k, i < n → j < n → ok i k → ok j k → i = j) (i k g : Nat) (hi : i < n) (hV : V i = some ⟨g, 0, none⟩) (hok : ok i g) (y : Int) :
  Rws n V m cc ok base (W.setCell ⟨g, k, none⟩ (.int .u8 y)) (fun j => if j = i then (xs i).set k y else xs j) ∧ W.grownBy (W.setCell ⟨g, k, none⟩ (.int .u8 y)) (some g) := by
 have hR := h.row i hi
 rw [hV] at hR
 obtain ⟨h1, h2⟩ := Kd.R_putg hR (k : Int) y
 rw [Int.toNat_natCast] at h1 h2
 refine ⟨⟨fun j hj => ?_, fun j hj => ?_⟩, h2⟩
 ·
  by_cases e : j = i
  ·
   subst e
   simp [h.len j hj]
  ·
   simp [e, h.len j hj]
 ·
  by_cases e : j = i
  ·
   subst e
   show Kd.R _ _ _ _ _ _ (if j = j then _ else _)
   rw [if_pos rfl, hV]
   exact h1
  ·
   simp only [e, if_false]
   exact Kd.R_grown (h.row j hj) h2 (fun q hq he => e (by injection he with he; subst he; exact hd j i q hj hi hq hok))
end
end Go.Proofs.YtgpdaihfjnihhaaDoor.PJ
