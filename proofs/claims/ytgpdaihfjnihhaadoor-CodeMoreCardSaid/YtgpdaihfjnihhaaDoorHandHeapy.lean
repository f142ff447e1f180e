/- A row that came in, read with its footprint: what hangs on the memory alone stays while the memory stays. -/
import Derived.Test.YtgpdaihfjnihhaaDoorPJx0
namespace Go.Proofs.YtgpdaihfjnihhaaDoor.PJ
open Go.RowKit Go.Proofs.YtgpdaihfjnihhaaDoorW.PrintWords Go.Proofs.YtgpdaihfjnihhaaDoorW.PrintLast Go.Proofs.YtgpdaihfjnihhaaDoorW.PrintMore
set_option linter.unusedVariables false
/-- What d tells of cells hangs on the memory alone. -/
def Heapy {α : Type} (d : Kd α) : Prop := ∀ (w w' : World) (x : α) (cs : List Value), w'.heap = w.heap → d.K w x cs → d.K w' x cs
theorem cell_heap {w w' : World} (h : w'.heap = w.heap) (a : Addr) : w'.cell? a = w.cell? a := by unfold World.cell?; rw [h]
theorem C_heapy {α : Type} {d : Kd α} (hd : Heapy d) {w w' : World} {A : Option Addr} {n : Nat} {xs : List α} (h : w'.heap = w.heap) (hc : d.C w A n xs) : d.C w' A n xs := by
  refine ⟨hc.1, hc.2.1, fun hn => ?_⟩
  obtain ⟨ad, e, hr⟩ := hc.2.2 hn
  refine ⟨ad, e, fun j p hj => ?_⟩
  obtain ⟨c, h1, h2, h3⟩ := hr j p hj
  exact ⟨c, h1, hd _ _ _ _ h h2, fun i u hu => by rw [cell_heap h]; exact h3 i u hu⟩
theorem heapy_int (k : IntKind) : Heapy (Kd.int k) := fun _ _ _ _ _ h => h
theorem heapy_slice {α : Type} {d : Kd α} (e : Nat) (hd : Heapy d) : Heapy (Kd.slice e d) := fun w w' x cs h hk => by
  obtain ⟨A, c, he, hl, hc⟩ := hk
  exact ⟨A, c, he, hl, C_heapy hd h hc⟩
theorem heapy_pair {α β : Type} {d : Kd α} {d' : Kd β} (h1 : Heapy d) (h2 : Heapy d') : Heapy (Kd.pair d d') := fun w w' x cs h hk => by
  obtain ⟨a, b, he, p, q⟩ := hk
  exact ⟨a, b, he, h1 _ _ _ _ h p, h2 _ _ _ _ h q⟩
theorem heapy_iso {α β : Type} {d : Kd β} (f : α → β) (h : Heapy d) : Heapy (Kd.iso d f) := fun w w' x cs he hk => h w w' (f x) cs he hk
theorem F_of_C {α : Type} {d : Kd α} (hd : Heapy d) {w : World} {A : Option Addr} {n : Nat} {xs : List α} (h : d.C w A n xs) : Kd.F d w (fun k => k < w.heap.size) A n xs := by
  intro W' hW
  have hs : w.heap.size ≤ W'.heap.size := by
    rcases Nat.eq_zero_or_pos w.heap.size with h0 | h0
    · omega
    · have hlt : w.heap.size - 1 < w.heap.size := by omega
      have := hW (w.heap.size - 1) hlt hlt
      rw [Array.getElem?_eq_getElem hlt] at this
      have := (Array.getElem?_eq_some_iff.1 this).1
      omega
  have hb : Below w.heap.size w { w with heap := W'.heap } := ⟨rfl, rfl, rfl, hs, fun k hk => hW k hk hk⟩
  exact C_heapy (w := { w with heap := W'.heap }) hd rfl (Kd.C_below h hb)
theorem pairK {α β : Type} {d : Kd α} {d' : Kd β} {w : World} {a : α} {b : β} {c1 c2 : List Value} (h1 : d.K w a c1) (h2 : d'.K w b c2) : (Kd.pair d d').K w (a, b) (c1 ++ c2) := ⟨_, _, rfl, h1, h2⟩
theorem heapy44 : Heapy k44 := heapy_iso _ (heapy_pair (heapy_int _) (heapy_int _))
theorem heapy41 : Heapy k41 := heapy_iso _ (heapy_pair (heapy_int _) (heapy_pair (heapy_slice _ (heapy_int _)) (heapy_pair (heapy_slice _ (heapy_int _)) (heapy_pair (heapy_int _) (heapy_pair (heapy_int _) (heapy_slice _ heapy44))))))
theorem heapy38 : Heapy k38 := heapy_iso _ (heapy_pair (heapy_int _) (heapy_int _))
theorem C_lit1 {k : IntKind} {W : World} {g t : Nat} {y : Int} (h : W.heap[g]? = some (.cells #[.int k y] t (0, 0))) : Kd.C (Kd.int k) W (some ⟨g, 0, none⟩) 1 [y] := by
  refine ⟨rfl, by decide, fun _ => ⟨_, rfl, fun j p hj => ?_⟩⟩
  match j with
  | 0 =>
    obtain rfl : y = p := by simpa using hj
    refine ⟨[.int k y], rfl, rfl, fun i u hu => ?_⟩
    match i with
    | 0 =>
      obtain rfl : (Value.int k y) = u := by simpa using hu
      exact blk_cell h 0
    | i + 1 => simp at hu
  | j + 1 => simp at hj
/-- The function of one parameter that CodeMore puts behind a module's functions. -/
theorem fn_elem {W : World} {g : Nat} (hg : W.heap[g]? = some (.cells #[.int .u64 0] 36 (0, 0))) :
    Kd.FK k41 W (fun k => k = g) ⟨0, [0], [], 0, 0, []⟩ [.int .u64 0, .slice (some ⟨g, 0, none⟩) 1 1, .slice none 0 0, .int .i64 0, .int .i64 0, .slice none 0 0] := by
  intro W' hW
  have h' : W'.heap[g]? = some (.cells #[.int .u64 0] 36 (0, 0)) := (hW g rfl (blk_lt hg)).trans hg
  exact pairK (c1 := [.int .u64 0]) rfl (pairK (c1 := [.slice (some ⟨g, 0, none⟩) 1 1]) ⟨some ⟨g, 0, none⟩, 1, rfl, Nat.le_refl _, C_lit1 h'⟩ (pairK (c1 := [.slice none 0 0]) ⟨none, 0, rfl, Nat.le_refl _, Kd.C_nil _ _⟩
    (pairK (c1 := [.int .i64 0]) rfl (pairK (c1 := [.int .i64 0]) rfl ⟨none, 0, rfl, Nat.le_refl _, Kd.C_nil _ _⟩))))
theorem below_low {B B' : Nat} {w w' : World} (h : Below B w w') (hb : B' ≤ B) : Below B' w w' := ⟨h.os, h.tape, h.output, h.size, fun k hk => h.block k (by omega)⟩
theorem blkB {B : Nat} {w w' : World} {g : Nat} {o : Obj} (h : w.heap[g]? = some o) (hb : Below B w w') (hg : g < B) : w'.heap[g]? = some o := (hb.block g hg).trans h
end Go.Proofs.YtgpdaihfjnihhaaDoor.PJ
