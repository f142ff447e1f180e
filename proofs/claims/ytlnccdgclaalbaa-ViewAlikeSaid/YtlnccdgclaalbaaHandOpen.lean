/- What comes in, opened: whatever the row's form lets in at a type reads as a value of the type's kind (Kd), with its bounds. -/
import Derived.Test.YtlnccdgclaalbaaWMore
import Derived.ChangeArms
import Derived.DataElems
import Derived.DataReads
import Derived.WideShapes
import Derived.SizedLaws
namespace Go.Proofs.Ytlnccdgclaalbaa.PJ
open Go.RowKit Go.Proofs.YtlnccdgclaalbaaW.PrintWords Go.Proofs.YtlnccdgclaalbaaW.PrintLast Go.Proofs.YtlnccdgclaalbaaW.PrintMore
set_option linter.unusedVariables false
set_option linter.unusedSimpArgs false
structure Opens (P : Program) (t : TypeId) {α : Type} (d : Kd α) (ok : α → Prop) : Prop where
  sz : P.cellsOf t = d.sz
  op : ∀ {H : Type} {enc : TypeId × Value → H} {w : World} {base : Nat} {spare : Nat → Bool} {held : Bool} {fuel : Nat} {cs : List Value} {x : DataW H × List MemPlace},
    DataW.trod enc P w base spare held fuel t cs = some x → (∀ n ∈ x.1.weights P t, n ≤ reachBytes) → ∃ y, d.K w y cs ∧ ok y
/-- Fields in line, from an offset on. -/
structure OpensF (P : Program) (fs : List Field) (off : Nat) {α : Type} (d : Kd α) (ok : α → Prop) : Prop where
  op : ∀ {H : Type} {enc : TypeId × Value → H} {w : World} {base : Nat} {spare : Nat → Bool} {held : Bool} {fuel : Nat} {cs : List Value} (xs : List (DataW H × List MemPlace)), xs.length = fs.length → cs.length = off + d.sz →
    (∀ (i : Nat) (f : Field), fs[i]? = some f → DataW.trod enc P w base spare held fuel f.type ((cs.drop f.offset).take (P.cellsOf f.type)) = xs[i]?) → (∀ n ∈ DataW.weightsEach P (fs.map (·.type)) (xs.map (·.1)), n ≤ reachBytes) → ∃ y, d.K w y (cs.drop off) ∧ ok y
variable {P : Program} {t e : TypeId} {α β : Type}
theorem opens_int {k : IntKind} (ht : P.underlying t = some (.int k)) (hc : P.cellsOf t = 1) : Opens P t (Kd.int k) (fun n => (Lit.int k n).wf = true) :=
  ⟨hc, fun h _ => by
    obtain ⟨n, rfl, _, hw⟩ := DataW.trod_int ht h
    exact ⟨n, rfl, hw⟩⟩
theorem all_weights {H : Type} {e : TypeId} : ∀ {l : List (DataW H)} {i : Nat} {d : DataW H}, l[i]? = some d → ∀ n ∈ d.weights P e, n ∈ DataW.weightsAll P e l
  | a :: l, 0, d, h, n, hn => by
    simp only [List.getElem?_cons_zero, Option.some.injEq] at h
    subst h
    simp only [DataW.weightsAll, List.mem_append]
    exact .inl hn
  | a :: l, i + 1, d, h, n, hn => by
    simp only [List.getElem?_cons_succ] at h
    simp only [DataW.weightsAll, List.mem_append]
    exact .inr (all_weights h n hn)
  | [], i, d, h, _, _ => by simp at h
theorem list_of_each (n : Nat) (Q : Nat → α → Prop) : (∀ i, i < n → ∃ y, Q i y) → ∃ l : List α, l.length = n ∧ ∀ (i : Nat) (y : α), l[i]? = some y → Q i y := by
  intro Q'
  induction n with
  | zero => exact ⟨[], rfl, fun i y h => by simp at h⟩
  | succ n ih =>
    obtain ⟨l, hl, h⟩ := ih (fun i hi => Q' i (by omega))
    obtain ⟨y, hy⟩ := Q' n (by omega)
    refine ⟨l ++ [y], by simp [hl], fun i z hz => ?_⟩
    rw [List.getElem?_append] at hz
    split at hz
    · exact h i z hz
    · have hi : i = l.length := by
        have := (List.getElem?_eq_some_iff.mp hz).1
        simp at this
        omega
      rw [hi] at hz
      simp at hz
      rw [hi, hl, ← hz]
      exact hy
theorem opens_slice {d : Kd α} {ok : α → Prop} (ht : P.underlying t = some (.slice e)) (hc : P.cellsOf t = 1) (hd : Opens P e d ok) : Opens P t (Kd.slice e d) (fun l => (∀ x ∈ l, ok x) ∧ l.length * P.bytesOf e ≤ 140737488351232) :=
  ⟨hc, by
    intro H enc w base spare held fuel cs x h hw
    rcases DataW.trod_slice ht h with ⟨rfl, _⟩ | ⟨a, len, cap, elems, rest, n, _, rfl, rfl, hb, hl, hm, hlen, hel, hsp, hns⟩
    · exact ⟨[], ⟨none, 0, rfl, Nat.le_refl _, Kd.C_nil _ _⟩, by simp, by simp⟩
    · have each : ∀ i, i < len → ∃ y c, c.length = d.sz ∧ d.K w y c ∧ (∀ j u, c[j]? = some u → w.cell? (a.add (i * d.sz + j)) = some u) ∧ ok y := by
        intro i hi
        obtain ⟨z, hz⟩ : ∃ z, elems[i]? = some z := ⟨elems[i]'(by omega), List.getElem?_eq_getElem (by omega)⟩
        have h1 := hel i hi
        rw [hz] at h1
        obtain ⟨c, hc1, hc2⟩ := Option.bind_eq_some_iff.mp h1
        obtain ⟨_, hcl, hcc⟩ := World.cells?_some hc1
        obtain ⟨y, hK, hok⟩ := hd.op hc2 (fun m hm => hw m (by
          simp only [DataW.weights, ht, List.mem_cons, List.mem_append]
          exact .inr (.inl (all_weights (i := i) (d := z.1) (by simp [hz]) m hm))))
        refine ⟨y, c, hcl.trans hd.sz, hK, fun j u hj => ?_, hok⟩
        have hjl : j < P.cellsOf e := by
          have := (List.getElem?_eq_some_iff.mp hj).1
          omega
        have h2 := hcc j hjl
        rw [hj] at h2
        rw [hd.sz] at h2
        rw [Addr.add_add] at h2
        exact h2
      obtain ⟨l, hll, hf⟩ := list_of_each len (fun i y => ∃ c, c.length = d.sz ∧ d.K w y c ∧ (∀ j u, c[j]? = some u → w.cell? (a.add (i * d.sz + j)) = some u) ∧ ok y) each
      refine ⟨l, ⟨some a, cap, by rw [hll], by rw [hll]; exact hl, rfl, by have hmx : maxLen = 9223372036854775807 := rfl; rw [hll, ← hmx]; exact Nat.le_trans hl hm, fun h0 => ⟨a, rfl, fun j p hj => ?_⟩⟩, fun y hy => ?_, ?_⟩
      · obtain ⟨c, h1, h2, h3, _⟩ := hf j p hj
        exact ⟨c, h1, h2, h3⟩
      · obtain ⟨i, hi⟩ := List.mem_iff_getElem?.mp hy
        obtain ⟨c, _, _, _, h4⟩ := hf i y hi
        exact h4
      · have := hw ((elems.length + rest.length) * P.bytesOf e) (by simp [DataW.weights, ht])
        have h2 : reachBytes = 140737488351232 := by decide
        have h3 : len * P.bytesOf e ≤ (elems.length + rest.length) * P.bytesOf e := Nat.mul_le_mul_right _ (by omega)
        rw [hll]
        omega⟩
theorem opensF_one {f : Field} {off : Nat} {d : Kd α} {ok : α → Prop} (ho : f.offset = off) (hd : Opens P f.type d ok) : OpensF P [f] off d ok :=
  ⟨by
    intro H enc w base spare held fuel cs xs hl hcs hx hw
    have h0 := hx 0 f rfl
    match xs, hl with
    | [x], _ =>
      have h1 : ((cs.drop off).take (P.cellsOf f.type)) = cs.drop off := List.take_of_length_le (by rw [List.length_drop, hd.sz]; omega)
      rw [ho, h1] at h0
      exact hd.op (by simpa using h0) (fun n hn => hw n (by simp [DataW.weightsEach, hn]))⟩
theorem opensF_cons {f : Field} {fs : List Field} {off : Nat} {a : Kd α} {b : Kd β} {oka : α → Prop} {okb : β → Prop} (ho : f.offset = off) (ha : Opens P f.type a oka) (hb : OpensF P fs (off + a.sz) b okb) : OpensF P (f :: fs) off (Kd.pair a b) (fun x => oka x.1 ∧ okb x.2) :=
  ⟨by
    intro H enc w base spare held fuel cs xs hl hcs hx hw
    match xs, hl with
    | x :: xs, hl =>
      have h0 := hx 0 f rfl
      rw [ho, ha.sz] at h0
      have hsz : (Kd.pair a b).sz = a.sz + b.sz := rfl
      obtain ⟨y, hy, oky⟩ := ha.op (by simpa using h0) (fun n hn => hw n (by simp [DataW.weightsEach, hn]))
      obtain ⟨z, hz, okz⟩ := hb.op (cs := cs) xs (by simpa using hl) (by rw [hcs, hsz]; omega) (fun i g hg => by simpa using hx (i + 1) g (by simpa using hg)) (fun n hn => hw n (by simp [DataW.weightsEach, hn]))
      exact ⟨(y, z), ⟨(cs.drop off).take a.sz, cs.drop (off + a.sz), by rw [← List.drop_drop, List.take_append_drop], hy, hz⟩, oky, okz⟩⟩
theorem opens_struct {fs : Array Field} {d : Kd α} {ok : α → Prop} (ht : P.underlying t = some (.struct fs)) (hc : P.cellsOf t = d.sz) (hf : OpensF P fs.toList 0 d ok) : Opens P t d ok :=
  ⟨hc, by
    intro H enc w base spare held fuel cs x h hw
    obtain ⟨xs, n, _, rfl, hl, hn, hx⟩ := DataW.trod_struct ht h
    obtain ⟨y, hy, oky⟩ := hf.op (cs := cs) xs (by simpa using hn) (by rw [hl, hc]; omega) (fun i f hi => hx i f (by simpa using hi)) (fun m hm => hw m (by simpa [DataW.weights, ht] using hm))
    exact ⟨y, by simpa using hy, oky⟩⟩
theorem opens_iso {d : Kd α} {ok : α → Prop} (f : β → α) (g : α → β) (hg : ∀ x, f (g x) = x) (h : Opens P t d ok) : Opens P t (Kd.iso d f) (fun x => ok (f x)) :=
  ⟨h.sz, fun ht hw => by
    obtain ⟨y, hy, hok⟩ := h.op ht hw
    exact ⟨g y, by show d.K _ (f (g y)) _; rw [hg]; exact hy, by rw [hg]; exact hok⟩⟩
theorem Opens.imp {d : Kd α} {ok ok' : α → Prop} (h : Opens P t d ok) (hi : ∀ x, ok x → ok' x) : Opens P t d ok' :=
  ⟨h.sz, fun ht hw => by
    obtain ⟨y, hy, hok⟩ := h.op ht hw
    exact ⟨y, hy, hi y hok⟩⟩
/-- A parameter. -/
theorem Opens.param {d : Kd α} {ok : α → Prop} (h : Opens P t d ok) {H : Type} {enc : TypeId × Value → H} {w : World} {base : Nat} {spare : Nat → Bool} {held : Bool} {v : Value} {x : DataW H} {ps : List MemPlace} {ts : List TypeId} {ds : List (DataW H)} {j : Nat}
    (ht : DataW.Trod enc P w base spare held t v x ps) (hsz : (DataW.weightsEach P ts ds).all (· ≤ reachBytes) = true) (h1 : ts[j]? = some t) (h2 : ds[j]? = some x) : ∃ y, d.K w y v.cells.toList ∧ ok y := by
  obtain ⟨fuel, hf⟩ := ht
  exact h.op hf (fun n hn => by simpa using List.all_eq_true.1 hsz _ (DataW.weights_mem_each h1 h2 n hn))
end Go.Proofs.Ytlnccdgclaalbaa.PJ
