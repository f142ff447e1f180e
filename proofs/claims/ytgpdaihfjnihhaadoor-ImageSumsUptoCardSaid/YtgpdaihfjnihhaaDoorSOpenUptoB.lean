/- What comes in, opened, with its bulk: whatever the row's form lets in at a type reads as a value of the type's kind, of no more bulk than the data. -/
import Derived.Test.YtgpdaihfjnihhaaDoorRows
import Derived.Test.YtgpdaihfjnihhaaDoorSNamesAll
namespace Go.Proofs.YtgpdaihfjnihhaaDoor.PJ
open Go.RowKit Go.Proofs.YtgpdaihfjnihhaaDoorW.PrintWords Go.Proofs.YtgpdaihfjnihhaaDoorW.PrintLast Go.Proofs.YtgpdaihfjnihhaaDoorW.PrintMore
set_option linter.unusedVariables false
set_option linter.unusedSimpArgs false
theorem bulk_one {H : Type} (d : DataW H) : 1 ≤ Rows.uptoBulk d := by
 cases d with
 | lit l => cases l <;> simp [Rows.uptoBulk]
 | nil => simp [Rows.uptoBulk]
 | ptr d => simp [Rows.uptoBulk]
 | slice elems spare => simp [Rows.uptoBulk]
 | agg parts => simp [Rows.uptoBulk]
 | iface t d => simp [Rows.uptoBulk]
 | map entries => simp [Rows.uptoBulk]
 | held h => simp [Rows.uptoBulk]
structure OpensU (P : Program) (t : TypeId) {α : Type} (d : Kd α) (ok : α → Prop) (bk : α → Nat) : Prop where
 sz : P.cellsOf t = d.sz
 op : ∀ {H : Type} {enc : TypeId × Value → H} {w : World} {base : Nat} {spare : Nat → Bool} {held : Bool} {fuel : Nat} {cs : List Value} {x : DataW H × List MemPlace},
  DataW.trod enc P w base spare held fuel t cs = some x → (∀ n ∈ x.1.weights P t, n ≤ reachBytes) → ∃ y, d.K w y cs ∧ ok y ∧ bk y + 1 ≤ Rows.uptoBulk x.1
structure OpensFU (P : Program) (fs : List Field) (off : Nat) {α : Type} (d : Kd α) (ok : α → Prop) (bk : α → Nat) : Prop where
 op : ∀ {H : Type} {enc : TypeId × Value → H} {w : World} {base : Nat} {spare : Nat → Bool} {held : Bool} {fuel : Nat} {cs : List Value} (xs : List (DataW H × List MemPlace)), xs.length = fs.length → cs.length = off + d.sz →
  (∀ (i : Nat) (f : Field), fs[i]? = some f → DataW.trod enc P w base spare held fuel f.type ((cs.drop f.offset).take (P.cellsOf f.type)) = xs[i]?) → (∀ n ∈ DataW.weightsEach P (fs.map (·.type)) (xs.map (·.1)), n ≤ reachBytes) → ∃ y, d.K w y (cs.drop off) ∧ ok y ∧ bk y ≤ Rows.uptoBulkAll (xs.map (·.1))
variable {P : Program} {t e : TypeId} {α β : Type}
theorem Opens.upto {d : Kd α} {ok : α → Prop} (h : Opens P t d ok) : OpensU P t d ok (fun _ => 0) :=
 ⟨h.sz, fun ht hw => by
  obtain ⟨y, h1, h2⟩ := h.op ht hw
  exact ⟨y, h1, h2, bulk_one _⟩⟩
def bkL (bk : α → Nat) (l : List α) : Nat := (l.map fun y => bk y + 1).sum
theorem bkL_le (bk : α → Nat) {H : Type} : ∀ (l : List α) (es : List (DataW H × List MemPlace)), l.length ≤ es.length → (∀ (i : Nat) (y : α), l[i]? = some y → ∃ z, es[i]? = some z ∧ bk y + 1 ≤ Rows.uptoBulk z.1) → bkL bk l ≤ Rows.uptoBulkAll (es.map (·.1))
 | [], es, _, _ => by simp [bkL]
 | y :: l, [], hl, _ => by simp at hl
 | y :: l, z :: es, hl, h => by
  obtain ⟨z', hz, hb⟩ := h 0 y rfl
  simp only [List.getElem?_cons_zero, Option.some.injEq] at hz
  subst hz
  have ih := bkL_le bk l es (by simpa using hl) (fun i y' hi => by simpa using h (i + 1) y' (by simpa using hi))
  simp only [bkL, List.map_cons, List.sum_cons, Rows.uptoBulkAll] at ih ⊢
  omega
theorem opensU_slice {d : Kd α} {ok : α → Prop} {bk : α → Nat} (ht : P.underlying t = some (.slice e)) (hc : P.cellsOf t = 1) (hd : OpensU P e d ok bk) : OpensU P t (Kd.slice e d) (fun l => (∀ x ∈ l, ok x) ∧ l.length * P.bytesOf e ≤ 140737488351232) (bkL bk) :=
 ⟨hc, by
  intro H enc w base spare held fuel cs x h hw
  rcases DataW.trod_slice ht h with ⟨rfl, _⟩ | ⟨a, len, cap, elems, rest, n, _, rfl, rfl, hb, hl, hm, hlen, hel, hsp, hns⟩
  ·
   exact ⟨[], ⟨none, 0, rfl, Nat.le_refl _, Kd.C_nil _ _⟩, by simp, by simpa [bkL] using bulk_one x.1⟩
  ·
   have each : ∀ i, i < len → ∃ y c, c.length = d.sz ∧ d.K w y c ∧ (∀ j u, c[j]? = some u → w.cell? (a.add (i * d.sz + j)) = some u) ∧ ok y ∧ ∃ z, elems[i]? = some z ∧ bk y + 1 ≤ Rows.uptoBulk z.1 := by
    intro i hi
    obtain ⟨z, hz⟩ : ∃ z, elems[i]? = some z := ⟨elems[i]'(by omega), List.getElem?_eq_getElem (by omega)⟩
    have h1 := hel i hi
    rw [hz] at h1
    obtain ⟨c, hc1, hc2⟩ := Option.bind_eq_some_iff.mp h1
    obtain ⟨_, hcl, hcc⟩ := World.cells?_some hc1
    obtain ⟨y, hK, hok, hbk⟩ := hd.op hc2 (fun m hm => hw m (by
     simp only [DataW.weights, ht, List.mem_cons, List.mem_append]
     exact .inr (.inl (all_weights (i := i) (d := z.1) (by simp [hz]) m hm))))
    refine ⟨y, c, hcl.trans hd.sz, hK, fun j u hj => ?_, hok, z, hz, hbk⟩
    have hjl : j < P.cellsOf e := by
     have := (List.getElem?_eq_some_iff.mp hj).1
     omega
    have h2 := hcc j hjl
    rw [hj] at h2
    rw [hd.sz] at h2
    rw [Addr.add_add] at h2
    exact h2
   obtain ⟨l, hll, hf⟩ := list_of_each len (fun i y => ∃ c, c.length = d.sz ∧ d.K w y c ∧ (∀ j u, c[j]? = some u → w.cell? (a.add (i * d.sz + j)) = some u) ∧ ok y ∧ ∃ z, elems[i]? = some z ∧ bk y + 1 ≤ Rows.uptoBulk z.1) each
   refine ⟨l, ⟨some a, cap, by rw [hll], by rw [hll]; exact hl, rfl, by have hmx : maxLen = 9223372036854775807 := rfl; rw [hll, ← hmx]; exact Nat.le_trans hl hm, fun h0 => ⟨a, rfl, fun j p hj => ?_⟩⟩, ⟨fun y hy => ?_, ?_⟩, ?_⟩
   ·
    obtain ⟨c, h1, h2, h3, _⟩ := hf j p hj
    exact ⟨c, h1, h2, h3⟩
   ·
    obtain ⟨i, hi⟩ := List.mem_iff_getElem?.mp hy
    obtain ⟨c, _, _, _, h4, _⟩ := hf i y hi
    exact h4
   ·
    have := hw ((elems.length + rest.length) * P.bytesOf e) (by simp [DataW.weights, ht])
    have h2 : reachBytes = 140737488351232 := by decide
    have h3 : len * P.bytesOf e ≤ (elems.length + rest.length) * P.bytesOf e := Nat.mul_le_mul_right _ (by omega)
    rw [hll]
    omega
   ·
    have := bkL_le bk l elems (by omega) (fun i y hi => by
     obtain ⟨c, _, _, _, _, h5⟩ := hf i y hi
     exact h5)
    simp only [Rows.uptoBulk]
    omega⟩
theorem OpensU.imp {d : Kd α} {ok ok' : α → Prop} {bk : α → Nat} (h : OpensU P t d ok bk) (hi : ∀ x, ok x → ok' x) : OpensU P t d ok' bk :=
 ⟨h.sz, fun ht hw => by
  obtain ⟨y, hy, hok, hb⟩ := h.op ht hw
  exact ⟨y, hy, hi y hok, hb⟩⟩
theorem OpensU.param {d : Kd α} {ok : α → Prop} {bk : α → Nat} (h : OpensU P t d ok bk) {H : Type} {enc : TypeId × Value → H} {w : World} {base : Nat} {spare : Nat → Bool} {held : Bool} {v : Value} {x : DataW H} {ps : List MemPlace} {ts : List TypeId} {ds : List (DataW H)} {j : Nat}
  (ht : DataW.Trod enc P w base spare held t v x ps) (hsz : (DataW.weightsEach P ts ds).all (· ≤ reachBytes) = true) (h1 : ts[j]? = some t) (h2 : ds[j]? = some x) : ∃ y, d.K w y v.cells.toList ∧ ok y ∧ bk y + 1 ≤ Rows.uptoBulk x := by
 obtain ⟨fuel, hf⟩ := ht
 exact h.op hf (fun n hn => by simpa using List.all_eq_true.1 hsz _ (DataW.weights_mem_each h1 h2 n hn))
theorem bkL_len (bk : α → Nat) (l : List α) : l.length ≤ bkL bk l := by
 induction l with
 | nil => simp [bkL]
 | cons y l ih => simp only [bkL, List.map_cons, List.sum_cons, List.length_cons] at ih ⊢; omega
theorem opensU8 : Opens Tryd.prog 5 (Kd.int .u8) (fun n => (Lit.int .u8 n).wf = true) := opens_int Tryd.underlying5 (by kernel_rfl)
theorem opensUBytes : OpensU Tryd.prog 27 (Kd.slice 5 (Kd.int .u8)) (fun l => (∀ x ∈ l, (Lit.int .u8 x).wf = true) ∧ l.length * 1 ≤ 140737488351232) (bkL (fun _ => 0)) :=
 (opensU_slice Tryd.underlying27 (by kernel_rfl) opensU8.upto).imp (fun x h => ⟨h.1, by rw [show Program.bytesOf Tryd.prog 5 = 1 by kernel_rfl] at h; exact h.2⟩)
end Go.Proofs.YtgpdaihfjnihhaaDoor.PJ
