/- Texts of this claim, joined: HandOpen, OpenMod, OpenMem, AppendFull, HandApart64, HandMems, HandMemories, ViewTellsPure, HandViewTells, OpenUpto, WalkViewTells. -/
import Derived.Test.YtlnccdgclaalbaaWMore
import Derived.ChangeArms
import Derived.DataElems
import Derived.DataReads
import Derived.WideShapes
import Derived.SizedLaws
import Derived.Test.YtlnccdgclaalbaaPJx0
import Derived.WalkKit
import Derived.Test.YtlnccdgclaalbaaHandMemKd
import Derived.Test.YtlnccdgclaalbaaPJx2
import Derived.Test.YtlnccdgclaalbaaPJx4
import Derived.Test.YtlnccdgclaalbaaViewAlikePure
import Derived.Test.YtlnccdgclaalbaaHandMem
import Derived.Test.YtlnccdgclaalbaaHandViewAlike
import Derived.Test.YtlnccdgclaalbaaRows
namespace Go.Proofs.Ytlnccdgclaalbaa.PJ
open Go.RowKit Go.Proofs.YtlnccdgclaalbaaW.PrintWords Go.Proofs.YtlnccdgclaalbaaW.PrintLast Go.Proofs.YtlnccdgclaalbaaW.PrintMore
set_option linter.unusedVariables false
set_option linter.unusedSimpArgs false
structure Opens (P : Program) (t : TypeId) {α : Type} (d : Kd α) (ok : α → Prop) : Prop where
  sz : P.cellsOf t = d.sz
  op : ∀ {H : Type} {enc : TypeId × Value → H} {w : World} {base : Nat} {spare : Nat → Bool} {held : Bool} {fuel : Nat} {cs : List Value} {x : DataW H × List MemPlace},
    DataW.trod enc P w base spare held fuel t cs = some x → (∀ n ∈ x.1.weights P t, n ≤ reachBytes) → ∃ y, d.K w y cs ∧ ok y
/-- Fields in line, from an offset on. -/
structure OpensF (P : Program) (fs : List Field) (off : Nat) {α : Type} (d : Kd α) (ok : α → Prop) : Prop where
  op : ∀ {H : Type} {enc : TypeId × Value → H} {w : World} {base : Nat} {spare : Nat → Bool} {held : Bool} {fuel : Nat} {cs : List Value} (xs : List (DataW H × List MemPlace)), xs.length = fs.length → cs.length = off + d.sz →
    (∀ (i : Nat) (f : Field), fs[i]? = some f → DataW.trod enc P w base spare held fuel f.type ((cs.drop f.offset).take (P.cellsOf f.type)) = xs[i]?) → (∀ n ∈ DataW.weightsEach P (fs.map (·.type)) (xs.map (·.1)), n ≤ reachBytes) → ∃ y, d.K w y (cs.drop off) ∧ ok y
variable {P : Program} {t e : TypeId} {α β : Type}
theorem opens_int {k : IntKind} (ht : P.underlying t = some (.int k)) (hc : P.cellsOf t = 1) : Opens P t (Kd.int k) (fun n => (Lit.int k n).wf = true) :=
  ⟨hc, fun h _ => by
    obtain ⟨n, rfl, _, hw⟩ := DataW.trod_int ht h
    exact ⟨n, rfl, hw⟩⟩
theorem all_weights {H : Type} {e : TypeId} : ∀ {l : List (DataW H)} {i : Nat} {d : DataW H}, l[i]? = some d → ∀ n ∈ d.weights P e, n ∈ DataW.weightsAll P e l
  | a :: l, 0, d, h, n, hn => by
    simp only [List.getElem?_cons_zero, Option.some.injEq] at h
    subst h
    simp only [DataW.weightsAll, List.mem_append]
    exact .inl hn
  | a :: l, i + 1, d, h, n, hn => by
    simp only [List.getElem?_cons_succ] at h
    simp only [DataW.weightsAll, List.mem_append]
    exact .inr (all_weights h n hn)
  | [], i, d, h, _, _ => by simp at h
theorem list_of_each (n : Nat) (Q : Nat → α → Prop) : (∀ i, i < n → ∃ y, Q i y) → ∃ l : List α, l.length = n ∧ ∀ (i : Nat) (y : α), l[i]? = some y → Q i y := by
  intro Q'
  induction n with
  | zero => exact ⟨[], rfl, fun i y h => by simp at h⟩
  | succ n ih =>
    obtain ⟨l, hl, h⟩ := ih (fun i hi => Q' i (by omega))
    obtain ⟨y, hy⟩ := Q' n (by omega)
    refine ⟨l ++ [y], by simp [hl], fun i z hz => ?_⟩
    rw [List.getElem?_append] at hz
    split at hz
    · exact h i z hz
    · have hi : i = l.length := by
        have := (List.getElem?_eq_some_iff.mp hz).1
        simp at this
        omega
      rw [hi] at hz
      simp at hz
      rw [hi, hl, ← hz]
      exact hy
theorem opens_slice {d : Kd α} {ok : α → Prop} (ht : P.underlying t = some (.slice e)) (hc : P.cellsOf t = 1) (hd : Opens P e d ok) : Opens P t (Kd.slice e d) (fun l => (∀ x ∈ l, ok x) ∧ l.length * P.bytesOf e ≤ 140737488351232) :=
  ⟨hc, by
    intro H enc w base spare held fuel cs x h hw
    rcases DataW.trod_slice ht h with ⟨rfl, _⟩ | ⟨a, len, cap, elems, rest, n, _, rfl, rfl, hb, hl, hm, hlen, hel, hsp, hns⟩
    · exact ⟨[], ⟨none, 0, rfl, Nat.le_refl _, Kd.C_nil _ _⟩, by simp, by simp⟩
    · have each : ∀ i, i < len → ∃ y c, c.length = d.sz ∧ d.K w y c ∧ (∀ j u, c[j]? = some u → w.cell? (a.add (i * d.sz + j)) = some u) ∧ ok y := by
        intro i hi
        obtain ⟨z, hz⟩ : ∃ z, elems[i]? = some z := ⟨elems[i]'(by omega), List.getElem?_eq_getElem (by omega)⟩
        have h1 := hel i hi
        rw [hz] at h1
        obtain ⟨c, hc1, hc2⟩ := Option.bind_eq_some_iff.mp h1
        obtain ⟨_, hcl, hcc⟩ := World.cells?_some hc1
        obtain ⟨y, hK, hok⟩ := hd.op hc2 (fun m hm => hw m (by
          simp only [DataW.weights, ht, List.mem_cons, List.mem_append]
          exact .inr (.inl (all_weights (i := i) (d := z.1) (by simp [hz]) m hm))))
        refine ⟨y, c, hcl.trans hd.sz, hK, fun j u hj => ?_, hok⟩
        have hjl : j < P.cellsOf e := by
          have := (List.getElem?_eq_some_iff.mp hj).1
          omega
        have h2 := hcc j hjl
        rw [hj] at h2
        rw [hd.sz] at h2
        rw [Addr.add_add] at h2
        exact h2
      obtain ⟨l, hll, hf⟩ := list_of_each len (fun i y => ∃ c, c.length = d.sz ∧ d.K w y c ∧ (∀ j u, c[j]? = some u → w.cell? (a.add (i * d.sz + j)) = some u) ∧ ok y) each
      refine ⟨l, ⟨some a, cap, by rw [hll], by rw [hll]; exact hl, rfl, by have hmx : maxLen = 9223372036854775807 := rfl; rw [hll, ← hmx]; exact Nat.le_trans hl hm, fun h0 => ⟨a, rfl, fun j p hj => ?_⟩⟩, fun y hy => ?_, ?_⟩
      · obtain ⟨c, h1, h2, h3, _⟩ := hf j p hj
        exact ⟨c, h1, h2, h3⟩
      · obtain ⟨i, hi⟩ := List.mem_iff_getElem?.mp hy
        obtain ⟨c, _, _, _, h4⟩ := hf i y hi
        exact h4
      · have := hw ((elems.length + rest.length) * P.bytesOf e) (by simp [DataW.weights, ht])
        have h2 : reachBytes = 140737488351232 := by decide
        have h3 : len * P.bytesOf e ≤ (elems.length + rest.length) * P.bytesOf e := Nat.mul_le_mul_right _ (by omega)
        rw [hll]
        omega⟩
theorem opensF_one {f : Field} {off : Nat} {d : Kd α} {ok : α → Prop} (ho : f.offset = off) (hd : Opens P f.type d ok) : OpensF P [f] off d ok :=
  ⟨by
    intro H enc w base spare held fuel cs xs hl hcs hx hw
    have h0 := hx 0 f rfl
    match xs, hl with
    | [x], _ =>
      have h1 : ((cs.drop off).take (P.cellsOf f.type)) = cs.drop off := List.take_of_length_le (by rw [List.length_drop, hd.sz]; omega)
      rw [ho, h1] at h0
      exact hd.op (by simpa using h0) (fun n hn => hw n (by simp [DataW.weightsEach, hn]))⟩
theorem opensF_cons {f : Field} {fs : List Field} {off : Nat} {a : Kd α} {b : Kd β} {oka : α → Prop} {okb : β → Prop} (ho : f.offset = off) (ha : Opens P f.type a oka) (hb : OpensF P fs (off + a.sz) b okb) : OpensF P (f :: fs) off (Kd.pair a b) (fun x => oka x.1 ∧ okb x.2) :=
  ⟨by
    intro H enc w base spare held fuel cs xs hl hcs hx hw
    match xs, hl with
    | x :: xs, hl =>
      have h0 := hx 0 f rfl
      rw [ho, ha.sz] at h0
      have hsz : (Kd.pair a b).sz = a.sz + b.sz := rfl
      obtain ⟨y, hy, oky⟩ := ha.op (by simpa using h0) (fun n hn => hw n (by simp [DataW.weightsEach, hn]))
      obtain ⟨z, hz, okz⟩ := hb.op (cs := cs) xs (by simpa using hl) (by rw [hcs, hsz]; omega) (fun i g hg => by simpa using hx (i + 1) g (by simpa using hg)) (fun n hn => hw n (by simp [DataW.weightsEach, hn]))
      exact ⟨(y, z), ⟨(cs.drop off).take a.sz, cs.drop (off + a.sz), by rw [← List.drop_drop, List.take_append_drop], hy, hz⟩, oky, okz⟩⟩
theorem opens_struct {fs : Array Field} {d : Kd α} {ok : α → Prop} (ht : P.underlying t = some (.struct fs)) (hc : P.cellsOf t = d.sz) (hf : OpensF P fs.toList 0 d ok) : Opens P t d ok :=
  ⟨hc, by
    intro H enc w base spare held fuel cs x h hw
    obtain ⟨xs, n, _, rfl, hl, hn, hx⟩ := DataW.trod_struct ht h
    obtain ⟨y, hy, oky⟩ := hf.op (cs := cs) xs (by simpa using hn) (by rw [hl, hc]; omega) (fun i f hi => hx i f (by simpa using hi)) (fun m hm => hw m (by simpa [DataW.weights, ht] using hm))
    exact ⟨y, by simpa using hy, oky⟩⟩
theorem opens_iso {d : Kd α} {ok : α → Prop} (f : β → α) (g : α → β) (hg : ∀ x, f (g x) = x) (h : Opens P t d ok) : Opens P t (Kd.iso d f) (fun x => ok (f x)) :=
  ⟨h.sz, fun ht hw => by
    obtain ⟨y, hy, hok⟩ := h.op ht hw
    exact ⟨g y, by show d.K _ (f (g y)) _; rw [hg]; exact hy, by rw [hg]; exact hok⟩⟩
theorem Opens.imp {d : Kd α} {ok ok' : α → Prop} (h : Opens P t d ok) (hi : ∀ x, ok x → ok' x) : Opens P t d ok' :=
  ⟨h.sz, fun ht hw => by
    obtain ⟨y, hy, hok⟩ := h.op ht hw
    exact ⟨y, hy, hi y hok⟩⟩
/-- A parameter. -/
theorem Opens.param {d : Kd α} {ok : α → Prop} (h : Opens P t d ok) {H : Type} {enc : TypeId × Value → H} {w : World} {base : Nat} {spare : Nat → Bool} {held : Bool} {v : Value} {x : DataW H} {ps : List MemPlace} {ts : List TypeId} {ds : List (DataW H)} {j : Nat}
    (ht : DataW.Trod enc P w base spare held t v x ps) (hsz : (DataW.weightsEach P ts ds).all (· ≤ reachBytes) = true) (h1 : ts[j]? = some t) (h2 : ds[j]? = some x) : ∃ y, d.K w y v.cells.toList ∧ ok y := by
  obtain ⟨fuel, hf⟩ := ht
  exact h.op hf (fun n hn => by simpa using List.all_eq_true.1 hsz _ (DataW.weights_mem_each h1 h2 n hn))
end Go.Proofs.Ytlnccdgclaalbaa.PJ

namespace Go.Proofs.Ytlnccdgclaalbaa.PJ
open Go.RowKit Go.Proofs.YtlnccdgclaalbaaW.PrintWords Go.Proofs.YtlnccdgclaalbaaW.PrintLast Go.Proofs.YtlnccdgclaalbaaW.PrintMore
set_option linter.unusedVariables false
theorem opensI64 : Opens Try.prog 3 (Kd.int .i64) (fun n => (Lit.int .i64 n).wf = true) := opens_int Try.underlying3 (by kernel_rfl)
theorem opensInt64 : Opens Try.prog 2 (Kd.int .i64) (fun n => (Lit.int .i64 n).wf = true) := opens_int Try.underlying2 (by kernel_rfl)
theorem opensLabel : Opens Try.prog 32 (Kd.int .u64) (fun n => (Lit.int .u64 n).wf = true) := opens_int Try.underlying32 (by kernel_rfl)
theorem opens77 : Opens Try.prog 77 k77 (fun x => (Lit.int .i64 x.f0).wf = true ∧ (Lit.int .i64 x.f1).wf = true) :=
  opens_iso (fun x : S77 => (x.f0, x.f1)) (fun y => ⟨y.1, y.2⟩) (fun _ => rfl) (opens_struct Try.underlying77 (by kernel_rfl) (opensF_cons rfl opensI64 (opensF_one rfl opensInt64)))
theorem opens57 : Opens Try.prog 57 k57 (fun x => (Lit.int .i64 x.f0).wf = true ∧ (Lit.int .u64 x.f1).wf = true) :=
  opens_iso (fun x : S57 => (x.f0, x.f1)) (fun y => ⟨y.1, y.2⟩) (fun _ => rfl) (opens_struct Try.underlying57 (by kernel_rfl) (opensF_cons rfl opensI64 (opensF_one rfl opensLabel)))
theorem opensLabels : Opens Try.prog 22 (Kd.slice 32 (Kd.int .u64)) (fun l => (∀ x ∈ l, (Lit.int .u64 x).wf = true) ∧ l.length * 8 ≤ 140737488351232) :=
  (opens_slice Try.underlying22 (by kernel_rfl) opensLabel).imp (fun x h => ⟨h.1, by rw [show Program.bytesOf Try.prog 32 = 8 by kernel_rfl] at h; exact h.2⟩)
theorem opensCode : Opens Try.prog 46 (Kd.slice 77 k77) (fun l => (∀ x ∈ l, (Lit.int .i64 x.f0).wf = true ∧ (Lit.int .i64 x.f1).wf = true) ∧ l.length * 16 ≤ 140737488351232) :=
  (opens_slice Try.underlying46 (by kernel_rfl) opens77).imp (fun x h => ⟨h.1, by rw [show Program.bytesOf Try.prog 77 = 16 by kernel_rfl] at h; exact h.2⟩)
def okFunc (x : S48) : Prop := (Lit.int .u64 x.f0).wf = true ∧ ((∀ y ∈ x.f1, (Lit.int .u64 y).wf = true) ∧ x.f1.length * 8 ≤ 140737488351232) ∧ ((∀ y ∈ x.f2, (Lit.int .u64 y).wf = true) ∧ x.f2.length * 8 ≤ 140737488351232) ∧ (Lit.int .i64 x.f3).wf = true ∧ (Lit.int .i64 x.f4).wf = true ∧ ((∀ y ∈ x.f5, (Lit.int .i64 y.f0).wf = true ∧ (Lit.int .i64 y.f1).wf = true) ∧ x.f5.length * 16 ≤ 140737488351232)
theorem opens48 : Opens Try.prog 48 k48 okFunc :=
  opens_iso (fun x : S48 => (x.f0, x.f1, x.f2, x.f3, x.f4, x.f5)) (fun y => ⟨y.1, y.2.1, y.2.2.1, y.2.2.2.1, y.2.2.2.2.1, y.2.2.2.2.2⟩) (fun _ => rfl)
    (opens_struct Try.underlying48 (by kernel_rfl) (opensF_cons rfl opensLabel (opensF_cons rfl opensLabels (opensF_cons rfl opensLabels (opensF_cons rfl opensI64 (opensF_cons rfl opensI64 (opensF_one rfl opensCode)))))))
theorem opensFuncs : Opens Try.prog 24 (Kd.slice 48 k48) (fun l => (∀ x ∈ l, okFunc x) ∧ l.length * 96 ≤ 140737488351232) :=
  (opens_slice Try.underlying24 (by kernel_rfl) opens48).imp (fun x h => ⟨h.1, by rw [show Program.bytesOf Try.prog 48 = 96 by kernel_rfl] at h; exact h.2⟩)
/-- A module: globals, arrays, channels, functions. -/
abbrev kMod : Kd (List Int × List S57 × List Int × List S48) := Kd.pair (Kd.slice 32 (Kd.int .u64)) (Kd.pair (Kd.slice 57 k57) (Kd.pair (Kd.slice 32 (Kd.int .u64)) (Kd.slice 48 k48)))
end Go.Proofs.Ytlnccdgclaalbaa.PJ

namespace Go.Proofs.Ytlnccdgclaalbaa.PJ
open Go.RowKit Go.Proofs.YtlnccdgclaalbaaW.PrintWords Go.Proofs.YtlnccdgclaalbaaW.PrintLast Go.Proofs.YtlnccdgclaalbaaW.PrintMore
set_option linter.unusedVariables false
abbrev kMem : Kd (List Int × List (List Int)) := Kd.pair (Kd.slice 2 (Kd.int .i64)) (Kd.slice 27 (Kd.slice 2 (Kd.int .i64)))
def okMem (m : List Int × List (List Int)) : Prop := ((∀ y ∈ m.1, (Lit.int .i64 y).wf = true) ∧ m.1.length * 8 ≤ 140737488351232) ∧ ((∀ x ∈ m.2, (∀ y ∈ x, (Lit.int .i64 y).wf = true) ∧ x.length * 8 ≤ 140737488351232) ∧ m.2.length * 24 ≤ 140737488351232)
end Go.Proofs.Ytlnccdgclaalbaa.PJ

namespace Go.Proofs.Ytlnccdgclaalbaa.PJ
open Go.RowKit Go.Proofs.YtlnccdgclaalbaaW.PrintWords Go.Proofs.YtlnccdgclaalbaaW.PrintLast Go.Proofs.YtlnccdgclaalbaaW.PrintMore

theorem C_none {α : Type} {d : Kd α} {W : World} {n : Nat} {xs : List α} (h : Kd.C d W none n xs) : xs = [] ∧ n = 0 := by
  by_cases h0 : 0 < n
  · obtain ⟨_, e, _⟩ := h.2.2 h0
    cases e
  · have := h.1
    exact ⟨List.eq_nil_of_length_eq_zero (by omega), by omega⟩
theorem C_cells {k : IntKind} {W : World} {b : Addr} {n : Nat} {xs : List Int} (h : Kd.C (Kd.int k) W (some b) n xs) : ∀ j u, (xs.map (Value.int k))[j]? = some u → W.cell? (b.add j) = some u := by
  intro j u hu
  rw [List.getElem?_map] at hu
  obtain ⟨x, hx, rfl⟩ := Option.map_eq_some_iff.mp hu
  have hj : j < xs.length := (List.getElem?_eq_some_iff.mp hx).1
  obtain ⟨ad, e, hc⟩ := h.2.2 (by have := h.1; omega)
  injection e with e
  subst e
  obtain ⟨cs, h1, h2, h3⟩ := hc j x hx
  have e2 : cs = [.int k x] := h2
  have := h3 0 (.int k x) (by rw [e2]; rfl)
  have e3 : j * (Kd.int k).sz + 0 = j := by show j * 1 + 0 = j; omega
  rw [e3] at this
  exact this
end Go.Proofs.Ytlnccdgclaalbaa.PJ
namespace Go.Proofs.Ytlnccdgclaalbaa.PJ
open Go.RowKit Go.Proofs.YtlnccdgclaalbaaW.PrintWords Go.Proofs.YtlnccdgclaalbaaW.PrintLast Go.Proofs.YtlnccdgclaalbaaW.PrintMore
end Go.Proofs.Ytlnccdgclaalbaa.PJ

namespace Go.Proofs.Ytlnccdgclaalbaa.PJ
open Go.RowKit Go.Proofs.YtlnccdgclaalbaaW.PrintWords Go.Proofs.YtlnccdgclaalbaaW.PrintLast Go.Proofs.YtlnccdgclaalbaaW.PrintMore
set_option linter.unusedSimpArgs false
set_option linter.unusedVariables false

/-- Of the blocks that were there, only those of S were written. -/
structure Wrote (S : Nat → Prop) (w w' : World) : Prop where
  os : w'.os = w.os
  tape : w'.tape = w.tape
  output : w'.output = w.output
  size : w.heap.size ≤ w'.heap.size
  block : ∀ k, k < w.heap.size → ¬ S k → w'.heap[k]? = w.heap[k]?
theorem Wrote.refl (S : Nat → Prop) (w : World) : Wrote S w w := ⟨rfl, rfl, rfl, Nat.le_refl _, fun _ _ _ => rfl⟩
theorem Wrote.grown {S : Nat → Prop} {w w1 w2 : World} {row : Option Nat} (h : Wrote S w w1) (hg : w1.grownBy w2 row) (hs : ∀ g, row = some g → S g ∨ w.heap.size ≤ g) : Wrote S w w2 :=
  ⟨hg.os.trans h.os, hg.tape.trans h.tape, hg.output.trans h.output, Nat.le_trans h.size hg.size, fun k hk hn => (hg.block k (Nat.lt_of_lt_of_le hk h.size) (fun he => by
    rcases hs k he.symm with h1 | h1
    · exact hn h1
    · omega)).trans (h.block k hk hn)⟩
theorem Wrote.below {S : Nat → Prop} {w w1 w2 : World} (h : Wrote S w w1) (hb : Below w1.heap.size w1 w2) : Wrote S w w2 := h.grown (row := none) (grown_of_below hb none) (fun g hg => by cases hg)
theorem Wrote.toBelow {S : Nat → Prop} {w w' : World} (h : Wrote S w w') (B : Nat) (hB : B ≤ w.heap.size) (hS : ∀ k, S k → B ≤ k) : Below B w w' :=
  ⟨h.os, h.tape, h.output, h.size, fun k hk => h.block k (by omega) (fun hs => by have := hS k hs; omega)⟩
theorem Wrote.cell {S : Nat → Prop} {w w' : World} (h : Wrote S w w') {a : Addr} {v : Value} (hc : w.cell? a = some v) (hn : ¬ S a.block) : w'.cell? a = some v := by
  have hlt := World.block_lt_of_cell? _ _ hc
  have := h.block _ hlt hn
  unfold World.cell? at hc ⊢
  rw [this]
  exact hc
/-- append(x, y) where x has no room: a new row. -/
theorem append_one_full {P : Program} {ops : Array Oper} {rest : List Oper} {o : Oper} {a : Act} {Q : Exit → Act → World → Prop} {k : IntKind} {W : World} (hgd : o.guard = none) (s x : Operand) (t e : TypeId) (bytes : Nat)
    (ho : o.op = .call { callee := .builtin .append, args := #[s, x], argTypes := #[t, t] })
    (ht : P.underlying t = some (.slice e)) (hinfo : (P.info? e).map (fun i => (i.zero, i.size, i.bytes)) = some (some (.int k 0), 1, bytes)) (hb0 : 0 < bytes)
    (xs : List Int) (y : Int) (A : Option Addr) (hs : a.eval s = .slice A xs.length xs.length) (hx : a.eval x = .slice (some ⟨W.heap.size, 0, none⟩) 1 1)
    (HX : Kd.C (Kd.int k) W A xs.length xs) (hl : (xs.length + 1) * bytes ≤ 140737488355328)
    (h : ∀ v1 w1, Kd.R (Kd.int k) e w1 W.heap.size (fun j => W.heap.size ≤ j) v1 (xs ++ [y]) → Below W.heap.size W w1 → wpList P ops Q rest (a.put o.dst v1) w1) :
    wpList P ops Q (o :: rest) a (W.alloc (.cells #[.int k y] e)) := by
  cases A with
  | none =>
    obtain ⟨rfl, _⟩ := C_none HX
    refine print_append_num (w0 := W) W.heap.size hgd s x t e k bytes ho ht hinfo hb0 (.slice none 0 0) [] y hs hx (own_nil _ _ _ _) (Below.refl _ _) (Nat.le_refl _) (by simpa using hl) ?_
    intro v1 w1 hown hb hg hat
    exact h v1 w1 (Kd.R_of_own hown (fun j hj => own_base hown j hj)) hb
  | some b =>
    obtain ⟨i0, hi, hzz⟩ := Option.map_eq_some_iff.1 hinfo
    simp only [Prod.mk.injEq] at hzz
    obtain ⟨hz0, hz1, hz2⟩ := hzz
    have hlen : xs.length + 1 ≤ 140737488355328 := Nat.le_trans (Nat.le_mul_of_pos_right _ hb0) hl
    have HX' : Kd.C (Kd.int k) (W.alloc (.cells #[.int k y] e)) (some b) xs.length xs := Kd.C_below HX (below_alloc (Below.refl _ _) _)
    obtain ⟨v1, w1, hr, ho', hg⟩ := run_append_arg_grows (P := P) (w := W.alloc (.cells #[.int k y] e)) t o.type e i0 (.int k 0) 1 bytes ht hi hz0 hz1 hz2 rfl (by omega) b xs.length xs.length (xs.map (Value.int k)) (by rw [List.length_map, Nat.mul_one]) (C_cells HX') ⟨W.heap.size, 0, none⟩ 1 1 [.int k y] rfl
      (World.news_of_block (cs := #[.int k y]) (t := e) (fr := (0, 0)) (heap_alloc_new W _)) (by omega) (by simp only [maxLen]; omega) hl
    have hb1 : Below W.heap.size W w1 := by
      have h0 : Below W.heap.size W (W.alloc (.cells #[.int k y] e)) := below_alloc (Below.refl _ _) _
      exact h0.grown hg (by simp) (fun q hq => by cases hq)
    have hown : w1.ownsRow W.heap.size e 1 v1 (xs ++ [y]).length (nums k (xs ++ [y])) := by
      have h2 := own_weaken ho' (base' := W.heap.size) (by simp)
      simpa [nums] using h2
    refine wpList_plain hgd fun K hK => ?_
    unfold Oper.wp execOp
    simp only [ho, resolve, invoke, builtin, Sem.run_bind, Sem.run_pure, Result.andThen_ok, List.map_toArray, List.map_cons, List.map_nil, hs, hx, hr]
    exact hK _ _ (h v1 w1 (Kd.R_of_own hown (fun j hj => own_base hown j hj)) hb1)

def mkP (i k : Nat) : Int := wrap64 (wrap64 (1000 * (i : Int)) + (k : Int))
def mkQ (i k : Nat) : Int := wrap64 (wrap64 (500000 + wrap64 (1000 * (i : Int))) + (k : Int))
def tl64 (f : Nat → Nat → Int) (i q : Nat) : List Int := (List.range q).map (f i)
theorem tl64_length (f : Nat → Nat → Int) (i q : Nat) : (tl64 f i q).length = q := by simp [tl64]
theorem tl64_succ (f : Nat → Nat → Int) (i q : Nat) : tl64 f i (q + 1) = tl64 f i q ++ [f i q] := by simp [tl64, List.range_succ]
theorem tl64_rd (f : Nat → Nat → Int) (i q k : Nat) (h : k < q) : rd (tl64 f i q) (k : Int) = f i k := by
  simp [rd, tl64, List.getElem?_range h]
theorem rd_left (xs ys : List Int) (k : Nat) (h : k < xs.length) : rd (xs ++ ys) (k : Int) = rd xs (k : Int) := by
  simp [rd, List.getElem?_append_left h]
theorem rd_right (xs ys : List Int) (k : Nat) : rd (xs ++ ys) ((xs.length + k : Nat) : Int) = rd ys (k : Int) := by
  simp only [rd, Int.toNat_natCast, List.getD_eq_getElem?_getD]
  rw [List.getElem?_append_right (by omega)]
  simp
theorem rd_set (xs : List Int) (k j : Nat) (y : Int) (h : k < xs.length) : rd (xs.set k y) (j : Int) = if j = k then y else rd xs (j : Int) := by
  simp only [rd, Int.toNat_natCast, List.getD_eq_getElem?_getD, List.getElem?_set]
  by_cases e : k = j
  · subst e
    simp [h]
  · rw [if_neg e, if_neg (Ne.symm e)]
theorem ext_rd (xs ys : List Int) (hl : xs.length = ys.length) (h : ∀ k : Nat, k < xs.length → rd xs (k : Int) = rd ys (k : Int)) : xs = ys := by
  apply List.ext_getElem hl
  intro i h1 h2
  have := h i h1
  simpa [rd, List.getElem?_eq_getElem h1, List.getElem?_eq_getElem h2] using this

/-- Rows i < n at V i, m i long; those that are not empty lie in blocks of ok i. -/
structure Rws (n : Nat) (V : Nat → Option Addr) (m cc : Nat → Nat) (ok : Nat → Nat → Prop) (base : Nat) (W : World) (xs : Nat → List Int) : Prop where
  len : ∀ i, i < n → (xs i).length = m i
  row : ∀ i, i < n → 0 < m i → Kd.R (Kd.int .i64) 2 W base (ok i) (.slice (V i) (m i) (cc i)) (xs i)
  max : ∀ i, i < n → m i ≤ 9223372036854775807
section
variable {n : Nat} {V : Nat → Option Addr} {m cc : Nat → Nat} {ok : Nat → Nat → Prop} {base : Nat} {W W' : World} {xs ys : Nat → List Int}
theorem Rws.step (h : Rws n V m cc ok base W xs) (hm : ∀ i k, i < n → ok i k → k < W.heap.size → W'.heap[k]? = W.heap[k]?) : Rws n V m cc ok base W' xs :=
  ⟨h.len, fun i hi hp => Kd.R_step (h.row i hi hp) (fun k hk hlt => hm i k hi hk hlt), h.max⟩
theorem Rws.below (h : Rws n V m cc ok base W xs) (hb : Below W.heap.size W W') : Rws n V m cc ok base W' xs := h.step (fun i k _ _ hk => hb.block k hk)
theorem Rws.congr (h : Rws n V m cc ok base W xs) (he : ∀ i, i < n → xs i = ys i) : Rws n V m cc ok base W ys := ⟨fun i hi => by rw [← he i hi]; exact h.len i hi, fun i hi hp => by rw [← he i hi]; exact h.row i hi hp, h.max⟩
theorem Rws.bound (h : Rws n V m cc ok base W xs) : Rws n V m cc (fun i k => ok i k ∧ k < W.heap.size) base W xs := ⟨h.len, fun i hi hp => Kd.R_mono (Kd.R_bound (h.row i hi hp)) (fun k hk => ⟨hk.1, hk.2.2.1⟩), h.max⟩
theorem Rws.reads (h : Rws n V m cc ok base W xs) (i : Nat) (hi : i < n) : Kd.C (Kd.int .i64) W (V i) (xs i).length (xs i) := by
  by_cases hp : 0 < m i
  · obtain ⟨h1, _, h2⟩ := Kd.R_reads' (h.row i hi hp)
    exact h2
  · have hl := h.len i hi
    have : xs i = [] := List.eq_nil_of_length_eq_zero (by omega)
    rw [this]
    exact ⟨rfl, by simp, fun h => absurd h (by simp)⟩
theorem Rws.at_ (h : Rws n V m cc ok base W xs) (i k : Nat) (hi : i < n) (hk : k < m i) : ∃ g, V i = some ⟨g, 0, none⟩ ∧ ok i g ∧ g < W.heap.size ∧ W.cell? ⟨g, k, none⟩ = some (.int .i64 (rd (xs i) (k : Int))) ∧ W.frozen? ⟨g, k, none⟩ = false := by
  have hR := h.row i hi (by omega)
  have hl := h.len i hi
  have ho := Kd.own_of_R hR
  rcases id ho.2 with ⟨h', _⟩ | ⟨g, cap, cur, h', hg, hh, _⟩
  · injection h' with _ h' _
    omega
  · injection h' with h' _ _
    rw [h'] at hR ho
    obtain ⟨c1, c2⟩ := Kd.R_celln (0 : Int) hR (k : Int) (by omega) (by omega)
    rw [Int.toNat_natCast] at c1 c2
    exact ⟨g, h', hR.1 g rfl, own_lt ho g rfl, c1, c2⟩
theorem Rws.put (h : Rws n V m cc ok base W xs) (hd : ∀ i j k, i < n → j < n → ok i k → ok j k → i = j) (i k g : Nat) (hi : i < n) (hk : k < m i) (hV : V i = some ⟨g, 0, none⟩) (hok : ok i g) (y : Int) :
    Rws n V m cc ok base (W.setCell ⟨g, k, none⟩ (.int .i64 y)) (fun j => if j = i then (xs i).set k y else xs j) ∧ W.grownBy (W.setCell ⟨g, k, none⟩ (.int .i64 y)) (some g) := by
  have hR := h.row i hi (by omega)
  rw [hV] at hR
  obtain ⟨h1, h2⟩ := Kd.R_putg hR (k : Int) y
  rw [Int.toNat_natCast] at h1 h2
  refine ⟨⟨fun j hj => ?_, fun j hj hp => ?_, h.max⟩, h2⟩
  · by_cases e : j = i
    · subst e
      simp [h.len j hj]
    · simp [e, h.len j hj]
  · by_cases e : j = i
    · subst e
      show Kd.R _ _ _ _ _ _ (if j = j then _ else _)
      rw [if_pos rfl, hV]
      exact h1
    · simp only [e, if_false]
      exact Kd.R_grown (h.row j hj hp) h2 (fun q hq he => e (by injection he with he; subst he; exact hd j i q hj hi hq hok))
end
theorem linfoN9 : (Try.prog.info? 2).map (fun i => (i.zero, i.size, i.bytes)) = some (some (.int .i64 0), 1, 8) := by kernel_rfl

set_option maxHeartbeats 16000000 in
set_option maxRecDepth 100000 in
theorem apartInt64s.calls (n : Nat) (V : Nat → Option Addr) (m cc : Nat → Nat) (ok0 : Nat → Nat → Prop) (xs0 : Nat → List Int) (ad : Addr) (c : Nat) (w : World)
    (hn : n ≤ 100000000000) (hm : ∀ i, i < n → (m i + 80) * 8 ≤ 140737488355328) (hall : ∀ i, i < n → w.cell? (ad.add i) = some (.slice (V i) (m i) (m i))) (hab : ∀ i, (ad.add i).block = ad.block)
    (hr : Rws n V m cc ok0 0 w xs0) (hd0 : ∀ i j k, i < n → j < n → ok0 i k → ok0 j k → i = j) (ha0 : ∀ i, i < n → ¬ ok0 i ad.block) :
    Calls Try.prog 48 #[.slice (some ad) n c] w fun e w' => e = .returned (.bool true) ∧ Wrote (fun k => ∃ i, i < n ∧ ok0 i k) w w' := by
  obtain ⟨ok, hok⟩ : ∃ ok : Nat → Nat → Prop, ok = fun i k => ok0 i k ∧ k < w.heap.size := ⟨_, rfl⟩
  obtain ⟨S, hS⟩ : ∃ S : Nat → Prop, S = fun k => ∃ i, i < n ∧ ok0 i k := ⟨_, rfl⟩
  rw [← hS]
  have hSi : ∀ i k, i < n → ok i k → S k := fun i k hi hk => by rw [hS]; rw [hok] at hk; exact ⟨i, hi, hk.1⟩
  have hSa : ¬ S ad.block := by
    rw [hS]
    rintro ⟨i, hi, h⟩
    exact ha0 i hi h
  have hlt : ∀ i k, ok i k → k < w.heap.size := fun i k hk => by rw [hok] at hk; exact hk.2
  have hd : ∀ i j k, i < n → j < n → ok i k → ok j k → i = j := fun i j k hi hj h1 h2 => by rw [hok] at h1 h2; exact hd0 i j k hi hj h1.1 h2.1
  have hr1 : Rws n V m cc ok 0 w xs0 := by rw [hok]; exact hr.bound
  have HALL := Aside0.mk (show ∀ W, Wrote S w W → ∀ i, i < n → W.cell? (ad.add i) = some (.slice (V i) (m i) (m i)) from fun W hW i hi => hW.cell (hall i hi) (by rw [hab i]; exact hSa))
  have HN := Aside0.mk hn
  have HM := Aside0.mk hm
  have HSI := Aside0.mk hSi
  have HLT := Aside0.mk hlt
  have HD := Aside0.mk hd
  have HR := Aside0.mk hr1
  have HW := Aside0.mk (Wrote.refl S w)
  clear hr hd0 ha0 hall hab hS hok hSi hSa hlt hd hr1 hn hm
  go_enter Try.func48, Try.ntmps48
  go_wp2
  go_loopg [3] (n + 1) (fun kq v3 w' => ∃ (i : Nat) (xs : Nat → List Int), v3 = .int .i64 (i : Int) ∧ Aside0 (i + kq = n + 1) ∧ Aside0 (1 ≤ kq) ∧ Aside0 (Rws n V m cc ok 0 w' xs) ∧ Aside0 (∀ j, j < i → j < n → ∀ k, k < m j → rd (xs j) (k : Int) = mkP j k) ∧ Aside0 (Wrote S w w'))
  case atStart => exact ⟨0, xs0, rfl, ⟨by omega⟩, ⟨by omega⟩, HR, ⟨fun j hj => by omega⟩, HW⟩
  case round =>
    clear HR HW
    obtain ⟨i, xs, rfl, HI, HI1, HR, HX, HW⟩ := hrel
    cases gk with
    | zero => exact absurd HI1.out (by omega)
    | succ k1 =>
      by_cases ci : i < n
      · have cib : decide ((i : Int) < (n : Int)) = true := decide_eq_true (by omega)
        have hw2 : wrap64 ((i : Int) + 1) = (i : Int) + 1 := by have := HN.out; unfold wrap64; omega
        go_wp2
        go_loopg [4] (m i + 1) (fun kq v4 w' => ∃ (k : Nat) (xs : Nat → List Int), v4 = .int .i64 (k : Int) ∧ Aside0 (k + kq = m i + 1) ∧ Aside0 (1 ≤ kq) ∧ Aside0 (Rws n V m cc ok 0 w' xs) ∧ Aside0 (∀ j, j < i → j < n → ∀ k, k < m j → rd (xs j) (k : Int) = mkP j k) ∧ Aside0 (∀ k', k' < k → rd (xs i) (k' : Int) = mkP i k') ∧ Aside0 (Wrote S w w'))
        case atStart => exact ⟨0, xs, rfl, ⟨by omega⟩, ⟨by omega⟩, HR, HX, ⟨fun j hj => by omega⟩, HW⟩
        case round =>
          clear HR HX HW
          obtain ⟨k, xs, rfl, HK, HK1, HR, HX, HY, HW⟩ := hrel
          have hcA := HALL.out _ HW.out i ci
          have hii : (i : Int) < (n : Int) := by omega
          cases gk with
          | zero => exact absurd HK1.out (by omega)
          | succ k2 =>
            by_cases ck : k < m i
            · have ckb : decide ((k : Int) < (m i : Int)) = true := decide_eq_true (by omega)
              have hki : (k : Int) < (m i : Int) := by omega
              have hw3 : wrap64 ((k : Int) + 1) = (k : Int) + 1 := by have := HM.out i ci; unfold wrap64; omega
              obtain ⟨g, hV, hokg, hgl, hc1, hf1⟩ := HR.out.at_ i k ci ck
              rw [hV] at hcA
              have HV := Aside0.mk hV
              have HOK := Aside0.mk hokg
              clear hV hokg hgl
              go_wp2
              obtain ⟨hP, hG⟩ := HR.out.put HD.out i k g ci ck HV.out HOK.out (mkP i k)
              go_roundg k2
              case measure => omega
              case rel =>
                refine ⟨k + 1, _, by simp [hw3], ⟨by have := HK.out; omega⟩, ⟨by have := HK.out; omega⟩, ⟨hP⟩, ⟨fun j hj hjn q hq => ?_⟩, ⟨fun q hq => ?_⟩, ⟨HW.out.grown hG (fun q hq => by injection hq with hq; subst hq; exact .inl (HSI.out i g ci HOK.out))⟩⟩
                · simp only [show j ≠ i by omega, if_false]
                  exact HX.out j hj hjn q hq
                · simp only [if_true]
                  rw [rd_set _ _ _ _ (by rw [HR.out.len i ci]; exact ck)]
                  by_cases e : q = k
                  · subst e
                    simp
                  · simp only [e, if_false]
                    exact HY.out q (by omega)
            · have ckb : decide ((k : Int) < (m i : Int)) = false := decide_eq_false (by omega)
              go_wp2
              go_roundg k1
              case measure => omega
              case rel =>
                refine ⟨i + 1, xs, by simp [hw2], ⟨by have := HI.out; omega⟩, ⟨by have := HI.out; omega⟩, HR, ⟨fun j hj hjn q hq => ?_⟩, HW⟩
                by_cases e : j = i
                · subst e
                  exact HY.out q (by have := HK.out; omega)
                · exact HX.out j (by omega) hjn q hq
      · have cib : decide ((i : Int) < (n : Int)) = false := decide_eq_false (by omega)
        have hi : i = n := by have := HI.out; omega
        subst hi
        obtain ⟨n0, hn0⟩ : ∃ n0, n0 = i := ⟨i, rfl⟩
        have HRM := Aside0.mk (HR.out.congr (ys := fun j => tl64 mkP j (m j)) (fun j hj => ext_rd _ _ (by rw [HR.out.len j hj, tl64_length]) (fun q hq => by rw [HR.out.len j hj] at hq; rw [HX.out j hj hj q hq, tl64_rd _ _ _ _ hq])))
        clear HR HX HI HI1 hn0
        go_wp2
        go_loopg [5, 6] (i + 1) (fun kq v5 v6 w' => ∃ (j : Nat), v6 = .int .i64 (j : Int) ∧ Aside0 (j + kq = i + 1) ∧ Aside0 (1 ≤ kq) ∧ Aside0 (Rws i V m cc ok 0 w' (fun j => tl64 mkP j (m j))) ∧ Aside0 (Kd.R (Kd.slice 2 (Kd.int .i64)) 27 w' w.heap.size (fun k => w.heap.size ≤ k) v5 ((List.range j).map fun q => tl64 mkP q (m q) ++ tl64 mkQ q 30)) ∧ Aside0 (Wrote S w w'))
        case atStart => exact ⟨0, rfl, ⟨by omega⟩, ⟨by omega⟩, HRM, ⟨Kd.R_nil _ _ _ _ _⟩, HW⟩
        case round =>
          clear HRM HW
          obtain ⟨j, rfl, HJ, HJ1, HR, HE, HW⟩ := hrel
          cases gk with
          | zero => exact absurd HJ1.out (by omega)
          | succ k1 =>
            by_cases cj : j < i
            · have cjb : decide ((j : Int) < (i : Int)) = true := decide_eq_true (by omega)
              have hji : (j : Int) < (i : Int) := by omega
              have hw2 : wrap64 ((j : Int) + 1) = (j : Int) + 1 := by have := HN.out; unfold wrap64; omega
              have hcA := HALL.out _ HW.out j cj
              go_wp2
              obtain ⟨wi, hwi⟩ : ∃ wi : World, wi = wr := ⟨_, rfl⟩
              rw [← hwi] at HR HE HW
              go_loopg [7, 8] 31 (fun kq v7 v8 w' => ∃ (q : Nat), v8 = .int .i64 (q : Int) ∧ Aside0 (q + kq = 31) ∧ Aside0 (1 ≤ kq) ∧ Aside0 ((q = 0 ∧ v7 = .slice (V j) (m j) (m j)) ∨ (1 ≤ q ∧ Kd.R (Kd.int .i64) 2 w' wi.heap.size (fun k => wi.heap.size ≤ k) v7 (tl64 mkP j (m j) ++ tl64 mkQ j q))) ∧ Aside0 (Below wi.heap.size wi w'))
              case atStart => exact ⟨0, rfl, ⟨by omega⟩, ⟨by omega⟩, ⟨.inl ⟨rfl, rfl⟩⟩, ⟨by rw [hwi]; exact Below.refl _ _⟩⟩
              case round =>
                obtain ⟨q, rfl, HQ, HQ1, HV, HB⟩ := hrel
                cases gk with
                | zero => exact absurd HQ1.out (by omega)
                | succ k2 =>
                  by_cases cq : q < 30
                  · have cqb : decide ((q : Int) < 30) = true := decide_eq_true (by omega)
                    have hw3 : wrap64 ((q : Int) + 1) = (q : Int) + 1 := by unfold wrap64; omega
                    rcases HV.out with ⟨hq0, hv7⟩ | ⟨hq1, hR7⟩
                    · subst hq0
                      subst hv7
                      clear HV
                      have hC7 := (HR.out.below HB.out).reads j cj
                      have HC7 := Aside0.mk hC7
                      clear hC7
                      go_wp2_with (first | ((with_reducible refine gate_builtin (b := .append) (xs := #[.tmp 52, .tmp 58]) rfl ?_); at_builtin; refine append_one_full rfl (.tmp 52) (.tmp 58) 27 2 8 rfl Try.underlying27 linfoN9 (by decide) (tl64 mkP j (m j)) (wrap64 (wrap64 (500000 + wrap64 (1000 * (j : Int))))) (V j) ?hs rfl ?hC ?hl ?_; (case hs => rw [tl64_length]; rfl); (case hC => exact HC7.out); (case hl => have := HM.out j cj; rw [tl64_length]; omega); intro v1 w1 hR1 hb1; have HR1 := Aside0.mk hR1; have HB1 := Aside0.mk hb1; clear hR1 hb1))
                      go_roundg k2
                      case measure => omega
                      case rel => exact ⟨1, by simp, ⟨by have := HQ.out; omega⟩, ⟨by have := HQ.out; omega⟩, ⟨.inr ⟨Nat.le_refl _, by rw [show tl64 mkQ j 1 = [wrap64 (wrap64 (500000 + wrap64 (1000 * (j : Int))))] by simp [tl64, mkQ]]; exact Kd.R_lower (Kd.R_mono HR1.out (fun k hk => Nat.le_trans HB.out.size hk)) HB.out.size⟩⟩, ⟨below_step HB.out HB1.out⟩⟩
                    · have HR7 := Aside0.mk hR7
                      have HQ2 := Aside0.mk hq1
                      clear HV hR7 hq1
                      go_wp2_with (first | ((with_reducible refine gate_builtin (b := .append) (xs := #[.tmp 52, .tmp 58]) rfl ?_); at_builtin; refine Kd.R_append (Kd.int .i64) (w0 := wi) wi.heap.size rfl (.tmp 52) (.tmp 58) 27 2 (.int .i64 0) 8 rfl Try.underlying27 linfoN9 rfl (by decide) (by omega) u7 (tl64 mkP j (m j) ++ tl64 mkQ j q) (mkQ j q) [.int .i64 (mkQ j q)] (fun k_ => wi.heap.size ≤ k_) (fun _ => False) rfl rfl ?aP (fun _ hk => hk.elim) ?aF ?aO ?aB ?aS ?aL ?_; (case aP => exact rfl); (case aB => exact HB.out); (case aF => exact (fun k_ hk => Nat.le_trans HB.out.size hk)); (case aO => exact HR7.out); (case aS => exact HB.out.size); (case aL => have := HM.out j cj; rw [List.length_append, tl64_length, tl64_length]; omega); intro v1 w1 ho hb hg hat; have HR1 := Aside0.mk ho; have HB1 := Aside0.mk hb; clear ho hb hg hat))
                      go_roundg k2
                      case measure => omega
                      case rel => exact ⟨q + 1, by simp [hw3], ⟨by have := HQ.out; omega⟩, ⟨by have := HQ.out; omega⟩, ⟨.inr ⟨by omega, by rw [tl64_succ, ← List.append_assoc]; exact HR1.out⟩⟩, HB1⟩
                  · have cqb : decide ((q : Int) < 30) = false := decide_eq_false (by omega)
                    obtain rfl : q = 30 := by have := HQ.out; omega
                    obtain ⟨L7, hL7⟩ : ∃ L7, tl64 mkP j (m j) ++ tl64 mkQ j 30 = L7 := ⟨_, rfl⟩
                    have hR7 := (HV.out.resolve_left (by omega)).2
                    rw [hL7] at hR7
                    obtain ⟨A7, c7, rfl⟩ := Kd.R_slice hR7
                    have HR7 := Aside0.mk hR7
                    have HL7 := Aside0.mk hL7
                    clear HV hR7 hL7
                    have HEr := Aside0.mk (Kd.R_below HE.out HB.out)
                    have HRr := Aside0.mk (HR.out.below HB.out)
                    have HWr := Aside0.mk (HW.out.below HB.out)
                    have HOL := Aside0.mk (show ∀ k, u5.ownBlock = some k → w.heap.size ≤ k ∧ k < wi.heap.size from fun k hk => by
                      obtain ⟨inner, ho⟩ := Kd.R_own HE.out
                      exact ⟨own_base ho k hk, own_lt ho k hk⟩)
                    go_wp2_with (first | ((with_reducible refine gate_builtin (b := .append) (xs := #[.tmp 60, .tmp 62]) rfl ?_); at_builtin; refine Kd.R_append (Kd.slice 2 (Kd.int .i64)) (w0 := wr) w.heap.size rfl (.tmp 60) (.tmp 62) 28 27 (.slice none 0 0) 24 rfl Try.underlying28 (by kernel_rfl) rfl (by decide) (by omega) u5 ((List.range j).map fun q => tl64 mkP q (m q) ++ tl64 mkQ q 30) L7 [.slice A7 L7.length c7] (fun k_ => w.heap.size ≤ k_) (fun k_ => wi.heap.size ≤ k_) rfl rfl ?aP ?aK ?aF ?aO ?aB ?aS ?aL ?_; (case aP => exact ⟨_, rfl, Kd.R_lower HR7.out HW.out.size⟩); (case aK => exact (fun k_ hk => ⟨Nat.le_trans HW.out.size hk, fun he => by have := (HOL.out k_ he.symm).2; omega⟩)); (case aB => exact Below.refl _ _); (case aF => exact (fun k_ hk => Nat.le_trans HWr.out.size hk)); (case aO => exact HEr.out); (case aS => exact HWr.out.size); (case aL => have := HN.out; rw [List.length_map, List.length_range]; omega); intro v1 w1 ho hb hg hat; have HE1 := Aside0.mk ho; have HG1 := Aside0.mk hg; clear ho hb hg hat))
                    go_roundg k1
                    case measure => omega
                    case rel =>
                      refine ⟨j + 1, by simp [hw2], ⟨by have := HJ.out; omega⟩, ⟨by have := HJ.out; omega⟩, ⟨HRr.out.step (fun x k hx hk hlt => HG1.out.block k hlt (fun he => by have := (HOL.out k he.symm).1; have := HLT.out x k hk; omega))⟩, ⟨by rw [List.range_succ, List.map_append, List.map_singleton, HL7.out]; exact HE1.out⟩, ⟨HWr.out.grown HG1.out (fun g hg => .inr (HOL.out g hg).1)⟩⟩
            · have cjb : decide ((j : Int) < (i : Int)) = false := decide_eq_false (by omega)
              obtain rfl : j = i := by have := HJ.out; omega
              clear HJ HJ1 cj cjb
              obtain ⟨w9, hw9⟩ : ∃ w9 : World, w9 = wr := ⟨_, rfl⟩
              rw [← hw9] at HR HE HW
              have H9 := Aside0.mk hw9
              clear hw9
              obtain ⟨AM, cM, hu5, _, hCM⟩ := Kd.R_reads HE.out
              rw [List.length_map, List.length_range] at hu5 hCM
              subst hu5
              have FA := Aside0.mk (HALL.out w9 HW.out)
              have FR := Aside0.mk (show ∀ q, q < j → ∀ k, k < m q → ∃ g, V q = some ⟨g, 0, none⟩ ∧ w9.cell? ⟨g, k, none⟩ = some (.int .i64 (wrap64 (wrap64 (1000 * (q : Int)) + (k : Int)))) from fun q hq k hk => by
                obtain ⟨g, h1, _, _, h2, _⟩ := HR.out.at_ q k hq hk
                rw [tl64_rd _ _ _ _ hk] at h2
                exact ⟨g, h1, h2⟩)
              have FM := Aside0.mk (show ∀ q, q < j → ∃ (am : Addr) (a' : Addr) (c' : Nat), AM = some am ∧ w9.cell? (am.add q) = some (.slice (some a') (m q + 30) c') ∧ (∀ k, k < m q → w9.cell? (a'.add k) = some (.int .i64 (wrap64 (wrap64 (1000 * (q : Int)) + (k : Int))))) ∧ ∀ k, k < 30 → w9.cell? (a'.add (m q + k)) = some (.int .i64 (wrap64 (wrap64 (500000 + wrap64 (1000 * (q : Int))) + (k : Int)))) from fun q hq => by
                obtain ⟨am, cs, e1, _, hK, hc⟩ := Kd.C_get hCM [] (q : Int) (by omega) (by omega)
                obtain ⟨A', c', rfl, hl', hC'⟩ := hK
                have h0 := hc 0 _ rfl
                rw [Int.toNat_natCast, show q * (Kd.slice 2 (Kd.int .i64)).sz + 0 = q by show q * 1 + 0 = q; omega] at h0
                have hel : (List.map (fun q => tl64 mkP q (m q) ++ tl64 mkQ q 30) (List.range j)).getD q [] = tl64 mkP q (m q) ++ tl64 mkQ q 30 := by
                  simp [List.getElem?_range hq]
                rw [Int.toNat_natCast] at hC'
                rw [hel] at h0 hC'
                rw [List.length_append, tl64_length, tl64_length] at h0
                rw [List.length_append, tl64_length, tl64_length] at hC'
                obtain ⟨a', e2, _⟩ := Kd.at_int hC' 0 (by omega) (by omega)
                subst e2
                refine ⟨am, a', c', e1, h0, fun k hk => ?_, fun k hk => ?_⟩
                · obtain ⟨a2, e3, h3⟩ := Kd.at_int hC' (k : Int) (by omega) (by omega)
                  injection e3 with e3
                  subst e3
                  rw [Int.toNat_natCast, rd_left _ _ _ (by rw [tl64_length]; exact hk), tl64_rd _ _ _ _ hk] at h3
                  exact h3
                · obtain ⟨a2, e3, h3⟩ := Kd.at_int hC' ((m q + k : Nat) : Int) (by omega) (by omega)
                  injection e3 with e3
                  subst e3
                  have e4 := rd_right (tl64 mkP q (m q)) (tl64 mkQ q 30) k
                  rw [tl64_length] at e4
                  rw [Int.toNat_natCast, e4, tl64_rd _ _ _ _ hk] at h3
                  exact h3)
              clear HR HE hCM
              go_wp2
              go_loopg [9] (j + 1) (fun kq v9 w' => ∃ (x : Nat), v9 = .int .i64 (x : Int) ∧ Aside0 (x + kq = j + 1) ∧ Aside0 (1 ≤ kq) ∧ Aside0 (w' = w9))
              case atStart => exact ⟨0, rfl, ⟨by omega⟩, ⟨by omega⟩, ⟨H9.out.symm⟩⟩
              case round =>
                clear H9
                obtain ⟨x, rfl, HI, HI1, H9⟩ := hrel
                cases gk with
                | zero => exact absurd HI1.out (by omega)
                | succ k1 =>
                  by_cases cx : x < j
                  · have cxb : decide ((x : Int) < (j : Int)) = true := decide_eq_true (by omega)
                    have hxj : (x : Int) < (j : Int) := by omega
                    have hw2 : wrap64 ((x : Int) + 1) = (x : Int) + 1 := by have := HN.out; unfold wrap64; omega
                    have hcA := FA.out x cx
                    obtain ⟨am, a', c', e1, hcM, hM1, hM2⟩ := FM.out x cx
                    subst e1
                    rw [← H9.out] at hcA hcM
                    have HM1 := Aside0.mk hM1
                    have HM2 := Aside0.mk hM2
                    have HCA := Aside0.mk (FA.out x cx)
                    have HCM := Aside0.mk (show w9.cell? (am.add x) = some (.slice (some a') (m x + 30) c') by rw [← H9.out]; exact hcM)
                    clear hM1 hM2
                    go_wp2
                    go_loopg [11] (m x + 1) (fun kq v11 w' => ∃ (k : Nat), v11 = .int .i64 (k : Int) ∧ Aside0 (k + kq = m x + 1) ∧ Aside0 (1 ≤ kq) ∧ Aside0 (w' = w9))
                    case atStart => exact ⟨0, rfl, ⟨by omega⟩, ⟨by omega⟩, H9⟩
                    case round =>
                      clear H9 hcA hcM
                      obtain ⟨k, rfl, HK, HK1, H9⟩ := hrel
                      cases gk with
                      | zero => exact absurd HK1.out (by omega)
                      | succ k2 =>
                        have hcA := HCA.out
                        have hcM := HCM.out
                        rw [← H9.out] at hcA hcM
                        by_cases ck : k < m x
                        · have ckb : decide ((k : Int) < (m x : Int)) = true := decide_eq_true (by omega)
                          have hki : (k : Int) < (m x : Int) := by omega
                          have hki2 : (k : Int) < (m x : Int) + 30 := by omega
                          have hki3 : (k : Int) < ((m x + 30 : Nat) : Int) := by omega
                          have hw3 : wrap64 ((k : Int) + 1) = (k : Int) + 1 := by have := HM.out x cx; unfold wrap64; omega
                          obtain ⟨g, hV, hc1⟩ := FR.out x cx k ck
                          have hc2 := HM1.out k ck
                          rw [← H9.out] at hc1 hc2
                          rw [hV] at hcA
                          have HV := Aside0.mk hV
                          clear hV
                          go_wp2
                          go_roundg k2
                          case measure => omega
                          case rel => exact ⟨k + 1, by simp [hw3], ⟨by have := HK.out; omega⟩, ⟨by have := HK.out; omega⟩, H9⟩
                        · have ckb : decide ((k : Int) < (m x : Int)) = false := decide_eq_false (by omega)
                          go_wp2
                          go_loopg [12] 31 (fun kq v12 w' => ∃ (q : Nat), v12 = .int .i64 (q : Int) ∧ Aside0 (q + kq = 31) ∧ Aside0 (1 ≤ kq) ∧ Aside0 (w' = w9))
                          case atStart => exact ⟨0, rfl, ⟨by omega⟩, ⟨by omega⟩, H9⟩
                          case round =>
                            clear H9 hcA hcM
                            obtain ⟨q, rfl, HQ, HQ1, H9⟩ := hrel
                            cases gk with
                            | zero => exact absurd HQ1.out (by omega)
                            | succ k3 =>
                              have hcM := HCM.out
                              rw [← H9.out] at hcM
                              by_cases cq : q < 30
                              · have cqb : decide ((q : Int) < 30) = true := decide_eq_true (by omega)
                                have HQ3 := Aside0.mk (show q + 1 + k3 = 31 ∧ 1 ≤ k3 from by have := HQ.out; omega)
                                have hq1 : (m x : Int) + (q : Int) < (m x : Int) + 30 := by omega
                                have hq2 : 0 ≤ (m x : Int) + (q : Int) := by omega
                                have hq3 : ((m x : Int) + (q : Int)).toNat = m x + q := by omega
                                have hw4 : wrap64 ((m x : Int) + (q : Int)) = (m x : Int) + (q : Int) := by have := HM.out x cx; unfold wrap64; omega
                                have hw3 : wrap64 ((q : Int) + 1) = (q : Int) + 1 := by unfold wrap64; omega
                                have hc2 := HM2.out q cq
                                rw [← H9.out] at hc2
                                obtain ⟨Y1, hY1⟩ : ∃ Y, wrap64 (500000 + wrap64 (1000 * (x : Int))) = Y := ⟨_, rfl⟩
                                rw [hY1] at hc2
                                obtain ⟨Y2, hY2⟩ : ∃ Y, wrap64 (Y1 + (q : Int)) = Y := ⟨_, rfl⟩
                                rw [hY2] at hc2
                                have hYY : (Y2 != Y2) = false := by simp
                                iterate 66 (first | go_values | go_skip | go_guarded | go_step | go_upon | go_back)
                                clear hc2 hY1 hY2 hYY
                                generalize wrap64 (500000 + wrap64 (1000 * (x : Int))) = Y9
                                clear hq1 hq2 hq3 hw4 hcM
                                go_wp2
                                go_roundg k3
                                case measure => omega
                                case rel => exact ⟨q + 1, by simp [hw3], ⟨HQ3.out.1⟩, ⟨HQ3.out.2⟩, H9⟩
                              · have cqb : decide ((q : Int) < 30) = false := decide_eq_false (by omega)
                                go_wp2
                                go_roundg k1
                                case measure => omega
                                case rel => exact ⟨x + 1, by simp [hw2], ⟨by have := HI.out; omega⟩, ⟨by have := HI.out; omega⟩, H9⟩
                  · have cxb : decide ((x : Int) < (j : Int)) = false := decide_eq_false (by omega)
                    go_wp2
                    go_ret
                    exact ⟨rfl, by rw [H9.out]; exact HW.out⟩
end Go.Proofs.Ytlnccdgclaalbaa.PJ

namespace Go.Proofs.Ytlnccdgclaalbaa.PJ
open Go.RowKit Go.Proofs.YtlnccdgclaalbaaW.PrintWords Go.Proofs.YtlnccdgclaalbaaW.PrintLast Go.Proofs.YtlnccdgclaalbaaW.PrintMore
set_option linter.unusedVariables false
set_option linter.unusedSimpArgs false
theorem mem_R {W : World} {base n : Nat} {V : Nat → Option Addr} {G : Nat → Nat} {xs : Nat → List Int} (h : Mem W base n V G xs) {i : Nat} (hi : i < n) (hp : 0 < (xs i).length) :
    ∃ cap, Kd.R (Kd.int .i64) 2 W 0 (fun k => k = G i) (.slice (V i) (xs i).length cap) (xs i) := by
  obtain ⟨hV, _, tl, hh⟩ := h.at_ i hi hp
  have hroom := h.room i hi hp _ _ _ hh
  refine ⟨(nums .i64 (xs i) ++ tl).toArray.size, ?_⟩
  refine Kd.R_of_own (enc := Value.int .i64) (h1 := fun _ => rfl) ⟨by simp [encs], .inr ⟨G i, _, _, by rw [hV], Nat.zero_le _, hh, ?_, ?_, by simp, ?_⟩⟩ (fun k hk => ?_)
  · simp [nums]
  · exact hroom
  · simp [nums, encs]
  · rw [hV] at hk
    simpa [Value.ownBlock] using hk.symm
/-- A memory that was handed out, with where its rows lie. -/
structure MB where
  v0 : Value
  v1 : Value
  n : Nat
  xs : Nat → List Int
  V : Nat → Option Addr
  G : Nat → Nat
  A : Option Addr
structure MB.Ok (m : MB) (W : World) (lo hi : Nat) : Prop where
  e0 : m.v0 = .slice (m.V 0) (m.xs 0).length (m.xs 0).length
  e1 : m.v1 = .slice m.A m.n m.n
  nmax : m.n ≤ 9223372036854775807
  arr : 0 < m.n → ∃ b, m.A = some ⟨b, 0, none⟩ ∧ lo ≤ b ∧ W.heap[b]? = some (.cells (heads m.n m.V m.xs).toArray 27 (0, 0))
  mem : Mem W lo (m.n + 1) m.V m.G m.xs
  lt : ∀ i, i < m.n + 1 → 0 < (m.xs i).length → m.G i < hi
theorem MB.of {W : World} {lo n : Nat} {v0 v1 : Value} {xs : Nat → List Int} (h : MemOut W lo v0 v1 n xs) : ∃ m : MB, m.v0 = v0 ∧ m.v1 = v1 ∧ m.n = n ∧ m.xs = xs ∧ m.Ok W lo W.heap.size := by
  obtain ⟨V, G, A, e0, e1, hn, hA, hM⟩ := h
  exact ⟨⟨v0, v1, n, xs, V, G, A⟩, rfl, rfl, rfl, rfl, e0, e1, hn, hA, hM, fun i hi hp => hM.lt hi hp⟩
theorem MB.Ok.below {m : MB} {W W' : World} {lo hi : Nat} (h : m.Ok W lo hi) (hb : Below W.heap.size W W') : m.Ok W' lo hi :=
  ⟨h.e0, h.e1, h.nmax, fun hp => by
    obtain ⟨b, h1, h2, h3⟩ := h.arr hp
    exact ⟨b, h1, h2, (hb.block _ (blk_lt h3)).trans h3⟩, h.mem.below hb, h.lt⟩
/-- The memories of a row, one behind the other. -/
def Chain (W : World) : Nat → List MB → Prop
  | _, [] => True
  | lo, m :: ms => ∃ hi, lo ≤ hi ∧ m.Ok W lo hi ∧ Chain W hi ms
theorem Chain.below {W W' : World} (hb : Below W.heap.size W W') : ∀ {ms : List MB} {lo : Nat}, Chain W lo ms → Chain W' lo ms
  | [], _, _ => trivial
  | _ :: _, _, ⟨hi, h1, h2, h3⟩ => ⟨hi, h1, h2.below hb, h3.below hb⟩
theorem Chain.get {W : World} : ∀ {ms : List MB} {lo : Nat}, Chain W lo ms → ∀ m ∈ ms, ∃ l h, lo ≤ l ∧ m.Ok W l h
  | [], _, _, m, hm => by cases hm
  | m0 :: ms, lo, ⟨hi, h1, h2, h3⟩, m, hm => by
    rcases List.mem_cons.1 hm with rfl | hm
    · exact ⟨lo, hi, Nat.le_refl _, h2⟩
    · obtain ⟨l, h, hl, ho⟩ := h3.get m hm
      exact ⟨l, h, Nat.le_trans h1 hl, ho⟩
/-- A row of numbers: where, its block, its numbers. -/
abbrev Rw : Type := Option Addr × Nat × List Int
def rowsM (m : MB) : List Rw := (List.range (m.n + 1)).map fun j => (m.V j, m.G j, m.xs j)
def flatM (ms : List MB) : List Rw := ms.flatMap rowsM
def hdr (r : Rw) : List Value := [.slice r.1 r.2.2.length r.2.2.length]
theorem rowsM_length (m : MB) : (rowsM m).length = m.n + 1 := by simp [rowsM]
theorem rowsM_hdr (m : MB) {W : World} {lo hi : Nat} (h : m.Ok W lo hi) : (rowsM m).map hdr = [m.v0] :: (heads m.n m.V m.xs).map (fun v => [v]) := by
  rw [rowsM, List.range_succ_eq_map, List.map_cons, List.map_cons, List.map_map, List.map_map, h.e0, heads, List.map_map]
  rfl
theorem mem_rowsM {m : MB} {r : Rw} (h : r ∈ rowsM m) : ∃ j, j < m.n + 1 ∧ r = (m.V j, m.G j, m.xs j) := by
  simp only [rowsM, List.mem_map, List.mem_range] at h
  obtain ⟨j, hj, rfl⟩ := h
  exact ⟨j, hj, rfl⟩
theorem Chain.row {W : World} {lo : Nat} {ms : List MB} (h : Chain W lo ms) : ∀ r ∈ flatM ms, r.2.2.length ≤ 9223372036854775807 ∧ (0 < r.2.2.length → lo ≤ r.2.1 ∧ ∃ cap, Kd.R (Kd.int .i64) 2 W 0 (fun k => k = r.2.1) (.slice r.1 r.2.2.length cap) r.2.2) := by
  intro r hr
  obtain ⟨m, hm, hr⟩ := List.mem_flatMap.1 hr
  obtain ⟨j, hj, rfl⟩ := mem_rowsM hr
  obtain ⟨l, hh, hl, ho⟩ := h.get m hm
  exact ⟨ho.mem.max j hj, fun hp => ⟨Nat.le_trans hl (ho.mem.at_ j hj hp).2.1, mem_R ho.mem hj hp⟩⟩
theorem Chain.apart {W : World} : ∀ {ms : List MB} {lo : Nat}, Chain W lo ms → (flatM ms).Pairwise (fun a b => 0 < a.2.2.length → 0 < b.2.2.length → a.2.1 ≠ b.2.1)
  | [], _, _ => List.Pairwise.nil
  | m :: ms, lo, ⟨hi, h1, h2, h3⟩ => by
    have e : flatM (m :: ms) = rowsM m ++ flatM ms := rfl
    rw [e]
    refine List.pairwise_append.2 ⟨?_, h3.apart, fun a ha b hb hp hq => ?_⟩
    · rw [rowsM]
      refine List.pairwise_map.2 ((List.pairwise_lt_range (n := m.n + 1)).imp_of_mem ?_)
      intro a b ha hb hlt hp hq he
      have := h2.mem.ne a b (List.mem_range.1 ha) (List.mem_range.1 hb) hp hq he
      omega
    · obtain ⟨j, hj, rfl⟩ := mem_rowsM ha
      have h4 := h2.lt j hj hp
      have h5 := ((h3.row b hb).2 hq).1
      simp only
      omega
def r0 : Rw := (none, 0, [])
theorem getD_mem {L : List Rw} {i : Nat} (h : i < L.length) : L.getD i r0 ∈ L := by
  rw [List.getD_eq_getElem?_getD, List.getElem?_eq_getElem h]
  exact List.getElem_mem h
theorem Chain.rws {W : World} {lo : Nat} {ms : List MB} (h : Chain W lo ms) : ∃ cc, Rws (flatM ms).length (fun i => ((flatM ms).getD i r0).1) (fun i => ((flatM ms).getD i r0).2.2.length) cc (fun i k => 0 < ((flatM ms).getD i r0).2.2.length ∧ k = ((flatM ms).getD i r0).2.1) 0 W (fun i => ((flatM ms).getD i r0).2.2) := by
  have hc : ∀ i, ∃ c, i < (flatM ms).length → 0 < ((flatM ms).getD i r0).2.2.length → Kd.R (Kd.int .i64) 2 W 0 (fun k => k = ((flatM ms).getD i r0).2.1) (.slice ((flatM ms).getD i r0).1 ((flatM ms).getD i r0).2.2.length c) ((flatM ms).getD i r0).2.2 := by
    intro i
    by_cases hi : i < (flatM ms).length
    · by_cases hp : 0 < ((flatM ms).getD i r0).2.2.length
      · obtain ⟨c, hR⟩ := ((h.row _ (getD_mem hi)).2 hp).2
        exact ⟨c, fun _ _ => hR⟩
      · exact ⟨0, fun _ hq => absurd hq hp⟩
    · exact ⟨0, fun hq => absurd hq hi⟩
  exact ⟨fun i => (hc i).choose, fun i hi => rfl, fun i hi hp => Kd.R_mono ((hc i).choose_spec hi hp) (fun k hk => ⟨hp, hk⟩), fun i hi => (h.row _ (getD_mem hi)).1⟩
theorem Chain.one {W : World} {lo : Nat} {ms : List MB} (h : Chain W lo ms) : ∀ i j k, i < (flatM ms).length → j < (flatM ms).length → (0 < ((flatM ms).getD i r0).2.2.length ∧ k = ((flatM ms).getD i r0).2.1) → (0 < ((flatM ms).getD j r0).2.2.length ∧ k = ((flatM ms).getD j r0).2.1) → i = j := by
  intro i j k hi hj ⟨p1, e1⟩ ⟨p2, e2⟩
  have hP := List.pairwise_iff_getElem.1 h.apart
  have hgi : (flatM ms).getD i r0 = (flatM ms)[i] := by rw [List.getD_eq_getElem?_getD, List.getElem?_eq_getElem hi]; rfl
  have hgj : (flatM ms).getD j r0 = (flatM ms)[j] := by rw [List.getD_eq_getElem?_getD, List.getElem?_eq_getElem hj]; rfl
  rw [hgi] at p1 e1
  rw [hgj] at p2 e2
  rcases Nat.lt_trichotomy i j with hlt | heq | hgt
  · exact absurd (e1.symm.trans e2) (hP i j hi hj hlt p1 p2)
  · exact heq
  · exact absurd (e2.symm.trans e1) (hP j i hj hi hgt p2 p1)
end Go.Proofs.Ytlnccdgclaalbaa.PJ

namespace Go.Proofs.Ytlnccdgclaalbaa.PJ
open Go.RowKit Go.Proofs.YtlnccdgclaalbaaW.PrintWords Go.Proofs.YtlnccdgclaalbaaW.PrintLast Go.Proofs.YtlnccdgclaalbaaW.PrintMore
set_option linter.unusedVariables false
set_option linter.unusedSimpArgs false
theorem heads_reads {m : MB} {W : World} {lo hi : Nat} (h : m.Ok W lo hi) : Kd.C (Kd.raw 1) W m.A m.n ((heads m.n m.V m.xs).map (fun v => [v])) := by
  refine ⟨by rw [List.length_map, heads_length], h.nmax, fun hp => ?_⟩
  obtain ⟨b, hb, _, h2⟩ := h.arr hp
  refine ⟨_, hb, fun j p hj => ?_⟩
  have hjl : j < m.n := by have := (List.getElem?_eq_some_iff.1 hj).1; rwa [List.length_map, heads_length] at this
  rw [List.getElem?_map, heads_at hjl] at hj
  injection hj with hj
  subst hj
  refine ⟨_, rfl, ⟨rfl, rfl, fun u hu => by rw [List.mem_singleton.1 hu]; rfl⟩, fun q u hu => ?_⟩
  match q, hu with
  | 0, hu =>
    obtain rfl : Value.slice (m.V (j + 1)) (m.xs (j + 1)).length (m.xs (j + 1)).length = u := by simpa using hu
    show W.cell? ((⟨b, 0, none⟩ : Addr).add (j * 1 + 0)) = _
    rw [add_plain, Nat.mul_one, Nat.add_zero]
    refine (blk_cell h2 j).trans ?_
    have := heads_at (V := m.V) (xs := m.xs) hjl
    simpa using this
  | q + 1, hu => simp at hu
theorem flatM_len (N : Nat) : ∀ (ms : List MB), (∀ m ∈ ms, m.n ≤ N) → (flatM ms).length ≤ ms.length * (N + 1) := by
  intro ms
  induction ms with
  | nil => intro _; simp [flatM]
  | cons m ms ih =>
    intro h
    have e : flatM (m :: ms) = rowsM m ++ flatM ms := rfl
    have h1 := h m List.mem_cons_self
    have h2 := ih (fun x hx => h x (List.mem_cons_of_mem _ hx))
    rw [e, List.length_append, rowsM_length, List.length_cons, Nat.add_mul]
    omega
theorem flatM_take (ms : List MB) (i : Nat) (hi : i < ms.length) : flatM (ms.take (i + 1)) = flatM (ms.take i) ++ rowsM ms[i] := by
  rw [List.take_succ_eq_append_getElem hi, flatM, List.flatMap_append, List.flatMap_singleton]
  rfl
theorem linfoS9 : (Try.prog.info? 27).map (fun i => (i.zero, i.size, i.bytes)) = some (some (.slice none 0 0), 1, 24) := by kernel_rfl
set_option maxHeartbeats 16000000 in
set_option maxRecDepth 100000 in
theorem memories.calls (ms : List MB) (ad : Addr) (c lo : Nat) (w : World) (hall : ∀ i m, ms[i]? = some m → w.cell? (ad.add (i * 2)) = some m.v0 ∧ w.cell? ⟨(ad.add (i * 2)).block, (ad.add (i * 2)).off + 1, none⟩ = some m.v1)
    (hc : Chain w lo ms) (hn : ms.length ≤ 1000) (hs : ∀ m ∈ ms, m.n ≤ 1048576 ∧ ∀ j, j < m.n + 1 → (m.xs j).length ≤ 1048576) (hp : 0 < ms.length) :
    Calls Try.prog 19 #[.slice (some ad) ms.length c] w fun e w' => e = .returned (.bool true) ∧ Wrote (fun k => lo ≤ k) w w' := by
  have HALL := Aside0.mk hall
  have HC := Aside0.mk hc
  have HN := Aside0.mk hn
  have HS := Aside0.mk hs
  have HP := Aside0.mk hp
  have HF := Aside0.mk (show ∀ i, i ≤ ms.length → (flatM (ms.take i)).length ≤ 1048577000 from fun i hi => by
    have := flatM_len 1048576 (ms.take i) (fun m hm => (hs m (List.mem_of_mem_take hm)).1)
    have h2 : (ms.take i).length ≤ 1000 := by rw [List.length_take]; omega
    have h3 := Nat.mul_le_mul_right 1048577 h2
    omega)
  clear hall hc hn hs hp
  have HB := Aside0.mk (Below.refl w.heap.size w)
  go_enter Try.func19, Try.ntmps19
  go_wp2
  go_loopg [3, 4] (ms.length + 1) (fun kq v3 v4 w' => ∃ (i : Nat), v4 = .int .i64 (i : Int) ∧ Aside0 (i + kq = ms.length + 1) ∧ Aside0 (1 ≤ kq) ∧ Aside0 (Kd.R (Kd.raw 1) 27 w' w.heap.size (fun k => w.heap.size ≤ k) v3 ((flatM (ms.take i)).map hdr)) ∧ Aside0 (Below w.heap.size w w'))
  case atStart => exact ⟨0, rfl, ⟨by omega⟩, ⟨by omega⟩, ⟨by rw [List.take_zero]; exact Kd.R_nil _ _ _ _ _⟩, HB⟩
  case round =>
    clear HB
    obtain ⟨i, rfl, HI, HI1, HR, HB⟩ := hrel
    cases gk with
    | zero => exact absurd HI1.out (by omega)
    | succ k1 =>
      by_cases ci : i < ms.length
      · have cib : decide ((i : Int) < (ms.length : Int)) = true := decide_eq_true (by omega)
        have hii : (i : Int) < (ms.length : Int) := by omega
        have hw2 : wrap64 ((i : Int) + 1) = (i : Int) + 1 := by have := HN.out; unfold wrap64; omega
        obtain ⟨l1, h1, hl1, hok⟩ := HC.out.get ms[i] (List.getElem_mem ci)
        obtain ⟨c0, c1⟩ := HALL.out i ms[i] (List.getElem?_eq_getElem ci)
        rw [hok.e0] at c0
        rw [hok.e1] at c1
        have HOK := Aside0.mk hok
        have HM := Aside0.mk (HS.out _ (List.getElem_mem ci))
        have HFT := Aside0.mk (flatM_take ms i ci)
        have HFL := Aside0.mk (HF.out i (Nat.le_of_lt ci))
        clear hok
        obtain ⟨m, hm⟩ : ∃ m, ms[i] = m := ⟨_, rfl⟩
        rw [hm] at c0 c1 HOK HM HFT
        clear hm
        obtain ⟨V0, hV0⟩ : ∃ V0, m.V 0 = V0 := ⟨_, rfl⟩
        obtain ⟨L0, hL0⟩ : ∃ L0, (m.xs 0).length = L0 := ⟨_, rfl⟩
        obtain ⟨VA, hVA⟩ : ∃ VA, m.A = VA := ⟨_, rfl⟩
        obtain ⟨LA, hLA⟩ : ∃ LA, m.n = LA := ⟨_, rfl⟩
        obtain ⟨ROWS, hROWS⟩ : ∃ R, (flatM (ms.take i)).map hdr = R := ⟨_, rfl⟩
        obtain ⟨NEW, hNEW⟩ : ∃ R, (heads m.n m.V m.xs).map (fun v => [v]) = R := ⟨_, rfl⟩
        have HNEW := Aside0.mk (show Kd.C (Kd.raw 1) w VA LA NEW by have := heads_reads HOK.out; rw [hNEW, hVA, hLA] at this; exact this)
        have HROW := Aside0.mk (show (flatM (ms.take (i + 1))).map hdr = (ROWS ++ [[.slice V0 L0 L0]]) ++ NEW by
          rw [HFT.out, List.map_append, rowsM_hdr m HOK.out, hNEW, hROWS, HOK.out.e0, hV0, hL0]
          simp)
        have HRL := Aside0.mk (show ROWS.length ≤ 1048577000 by rw [← hROWS, List.length_map]; exact HFL.out)
        have HLA := Aside0.mk (show LA ≤ 1048576 by rw [← hLA]; exact HM.out.1)
        rw [hV0, hL0] at c0
        rw [hVA, hLA] at c1
        rw [hROWS] at HR
        clear hV0 hL0 hVA hLA hROWS hNEW
        have C0 := Aside0.mk c0
        have C1 := Aside0.mk c1
        clear c0 c1
        have c0 := pw_cell_below HB.out C0.out
        go_wp2_with (first | ((with_reducible refine gate_builtin (b := .append) (xs := #[.tmp 11, .tmp 17]) rfl ?_); at_builtin; refine Kd.R_append (Kd.raw 1) (w0 := w) w.heap.size rfl (.tmp 11) (.tmp 17) 28 27 (.slice none 0 0) 24 rfl Try.underlying28 linfoS9 rfl (by decide) (by omega) u3 ROWS [.slice V0 L0 L0] [.slice V0 L0 L0] (fun k => w.heap.size ≤ k) (fun _ => False) rfl rfl ?aP (fun _ hk => hk.elim) ?aF ?aO ?aB ?aS ?aL ?_; (case aP => exact ⟨rfl, rfl, fun u hu => by rw [List.mem_singleton.1 hu]; rfl⟩); (case aB => exact HB.out); (case aF => exact (fun k hk => Nat.le_trans HB.out.size hk)); (case aO => exact HR.out); (case aS => exact HB.out.size); (case aL => have := HRL.out; omega); intro v1 w1 ho hb hg hat; have HR1 := Aside0.mk ho; have HB1 := Aside0.mk hb; have c1 := pw_cell_below HB1.out C1.out; clear ho hb hg hat c0) | ((with_reducible refine gate_builtin (b := .append) (xs := #[.tmp 19, .tmp 24]) rfl ?_); at_builtin; refine Kd.R_append_rows (Kd.raw 1) (w0 := w) w.heap.size rfl (.tmp 19) (.tmp 24) 28 27 (.slice none 0 0) 24 rfl Try.underlying28 linfoS9 rfl (by decide) (by omega) v1 (ROWS ++ [[.slice V0 L0 L0]]) NEW VA LA LA (fun k => w.heap.size ≤ k) (fun _ => False) rfl rfl ?aO ?aR (fun _ _ h => h) (fun _ h => h.elim) ?aF ?aB ?aS ?aL ?_; (case aR => exact (Kd.C_below HNEW.out HB1.out)); (case aB => exact HB1.out); (case aF => exact (fun k hk => Nat.le_trans HB1.out.size hk)); (case aO => exact HR1.out); (case aS => exact HB1.out.size); (case aL => have := HRL.out; have := HLA.out; rw [List.length_append, List.length_singleton]; omega); intro v2 w2 ho hb hg hat; have HR2 := Aside0.mk ho; have HB2 := Aside0.mk hb; clear ho hb hg hat))
        go_roundg k1
        case measure => omega
        case rel => exact ⟨i + 1, by simp [hw2], ⟨by have := HI.out; omega⟩, ⟨by have := HI.out; omega⟩, ⟨by rw [HROW.out]; exact HR2.out⟩, HB2⟩
      · have cib : decide ((i : Int) < (ms.length : Int)) = false := decide_eq_false (by omega)
        obtain rfl : i = ms.length := by have := HI.out; omega
        have hR := HR.out
        rw [List.take_length] at hR
        have hfl : 0 < (flatM ms).length := by
          obtain ⟨m, t, e⟩ : ∃ m t, ms = m :: t := by
            cases hms : ms with
            | nil => have := HP.out; rw [hms] at this; cases this
            | cons m t => exact ⟨m, t, rfl⟩
          rw [e, show flatM (m :: t) = rowsM m ++ flatM t from rfl, List.length_append, rowsM_length]
          omega
        obtain ⟨A, cA, rfl, _, hC⟩ := Kd.R_reads hR
        rw [List.length_map] at hR hC ⊢
        obtain ⟨aa, hA, _⟩ := hC.2.2 (by omega)
        subst hA
        obtain ⟨g, rfl⟩ := Kd.R_head hR
        have hg : w.heap.size ≤ g := hR.1 g rfl
        have hcells : ∀ j, j < (flatM ms).length → wr.cell? ((⟨g, 0, none⟩ : Addr).add j) = some (.slice ((flatM ms).getD j r0).1 ((flatM ms).getD j r0).2.2.length ((flatM ms).getD j r0).2.2.length) := fun j hj => by
          obtain ⟨ad', e, hc⟩ := hC.2.2 (by omega)
          injection e with e
          subst e
          obtain ⟨cs, _, hK, hcc⟩ := hc j (hdr ((flatM ms)[j])) (by rw [List.getElem?_map, List.getElem?_eq_getElem hj]; rfl)
          have e2 : cs = hdr ((flatM ms)[j]) := hK.1
          subst e2
          have := hcc 0 _ rfl
          rw [show j * (Kd.raw 1).sz + 0 = j by show j * 1 + 0 = j; omega] at this
          rw [this, List.getD_eq_getElem?_getD, List.getElem?_eq_getElem hj]
          rfl
        have hch := HC.out.below HB.out
        obtain ⟨cc, hrws⟩ := hch.rws
        have hblk : ∀ j, ((⟨g, 0, none⟩ : Addr).add j).block = g := fun j => by rw [add_plain]
        have HFLs := HF.out ms.length (Nat.le_refl _)
        rw [List.take_length] at HFLs
        have hlen : ∀ j, j < (flatM ms).length → (((flatM ms).getD j r0).2.2.length + 80) * 8 ≤ 140737488355328 := fun j hj => by
          obtain ⟨m, hm, hr⟩ := List.mem_flatMap.1 (show (flatM ms).getD j r0 ∈ ms.flatMap rowsM from getD_mem hj)
          obtain ⟨q, hq, e⟩ := mem_rowsM hr
          have := (HS.out m hm).2 q hq
          rw [e]
          simp only
          omega
        have hap := apartInt64s.calls (flatM ms).length _ _ cc _ _ ⟨g, 0, none⟩ cA wr (by omega) hlen hcells hblk hrws hch.one (fun j hj hh => by
          obtain ⟨hp, he⟩ := hh
          obtain ⟨m, hm, hr⟩ := List.mem_flatMap.1 (show (flatM ms).getD j r0 ∈ ms.flatMap rowsM from getD_mem hj)
          obtain ⟨q, hq, e⟩ := mem_rowsM hr
          obtain ⟨l1, h1, _, ho⟩ := HC.out.get m hm
          have h2 : ((flatM ms).getD j r0).2.1 < w.heap.size := by
            rw [e] at hp ⊢
            exact ho.mem.lt hq hp
          have : g = ((flatM ms).getD j r0).2.1 := he
          omega)
        have HAP := Aside0.mk hap
        have HLO := Aside0.mk (show ∀ k, (∃ j, j < (flatM ms).length ∧ (0 < ((flatM ms).getD j r0).2.2.length ∧ k = ((flatM ms).getD j r0).2.1)) → lo ≤ k from fun k ⟨j, hj, hp, e⟩ => by
          rw [e]
          exact ((hch.row _ (getD_mem hj)).2 hp).1)
        clear hap hrws hch hcells hC hR hg hfl hlen hblk HFLs
        go_wp2_with fail
        refine HAP.out.mono ?_
        rintro e w3 ⟨rfl, hW⟩
        have HW := Aside0.mk hW
        clear hW
        go_wp2
        go_ret
        exact ⟨rfl, ⟨HW.out.os.trans HB.out.os, HW.out.tape.trans HB.out.tape, HW.out.output.trans HB.out.output, Nat.le_trans HB.out.size HW.out.size, fun k hk hn => (HW.out.block k (Nat.lt_of_lt_of_le hk HB.out.size) (fun hs => hn (HLO.out k hs))).trans (HB.out.block k hk)⟩⟩
end Go.Proofs.Ytlnccdgclaalbaa.PJ

namespace Go.Proofs.Ytlnccdgclaalbaa.PJ
open Go.RowKit Go.Proofs.YtlnccdgclaalbaaW.PrintWords Go.Proofs.YtlnccdgclaalbaaW.PrintLast Go.Proofs.YtlnccdgclaalbaaW.PrintMore
set_option linter.unusedVariables false
set_option linter.unusedSimpArgs false
set_option maxRecDepth 100000
section
variable (gs : List Int) (arr : List S57) (l2 : List Int) (l3 : List S48)
theorem zero_l2 (j : Nat) (R : List Int × List (List Int)) (F : Nat) (G : List Int) (acc : List (List Int)) (q0 : j < arr.length) (hm : arr.length ≤ 1048576) (hacc : acc.length ≤ 1048576)
    (hV : ∀ k, F ≤ k → louverref20_Zero.l1 k ((j + 1 : Nat) : Int) gs arr l2 l3 G (acc ++ [zrow arr[j]]) = some R) : ∀ d i k, i + d = (zrow arr[j]).length → F + d < k →
    louverref20_Zero.l2 k (j : Int) (List.replicate i 0) arr[j].f0 (i : Int) gs arr l2 l3 G acc = some R := by
  intro d
  have hz : (zrow arr[j]).length ≤ 256 := by
    unfold zrow
    split
    · rw [List.length_replicate]; omega
    · simp
  induction d with
  | zero =>
    intro i k hi hk
    obtain ⟨m, rfl⟩ : ∃ m, k = m + 1 := ⟨k - 1, by omega⟩
    have hr : zrow arr[j] = List.replicate i 0 := by
      have hi' : i = (zrow arr[j]).length := by omega
      rw [hi']
      unfold zrow
      split <;> simp
    have hw : wrap64 ((j : Int) + 1) = ((j + 1 : Nat) : Int) := wrap_succ q0 (by omega)
    rw [louverref20_Zero.l2, hw, if_pos (show acc.length < 5864062014805 by omega)]
    have hV' := hV m (by omega)
    rw [hr] at hV'
    by_cases c : (i : Int) < arr[j].f0
    · rw [if_pos c]
      by_cases c2 : arr[j].f0 ≤ 256
      · exfalso
        have : (zrow arr[j]).length = arr[j].f0.toNat := by unfold zrow; rw [if_pos (by omega), List.length_replicate]
        omega
      · rw [if_neg c2]; exact hV'
    · rw [if_neg c]; exact hV'
  | succ d ih =>
    intro i k hi hk
    obtain ⟨m, rfl⟩ : ∃ m, k = m + 1 := ⟨k - 1, by omega⟩
    have hc : 1 ≤ arr[j].f0 ∧ arr[j].f0 ≤ 256 := by
      apply Classical.byContradiction
      intro h
      have : (zrow arr[j]).length = 0 := by unfold zrow; rw [if_neg h]; rfl
      omega
    have hl : (zrow arr[j]).length = arr[j].f0.toNat := by unfold zrow; rw [if_pos hc, List.length_replicate]
    rw [louverref20_Zero.l2, if_pos (by omega), if_pos hc.2, if_pos (by rw [List.length_replicate]; omega), show wrap64 ((i : Int) + 1) = ((i + 1 : Nat) : Int) from wrap_succ (n := 256) (by omega) (by omega), ← List.replicate_succ']
    exact ih (i + 1) m (by omega) (by omega)
theorem zero_l1 (G : List Int) (hm : arr.length ≤ 1048576) : ∀ d j k, j + d = arr.length → d * 300 < k →
    louverref20_Zero.l1 k (j : Int) gs arr l2 l3 G ((arr.take j).map zrow) = some (G, arr.map zrow) := by
  intro d
  induction d with
  | zero =>
    intro j k hi hk
    obtain ⟨m, rfl⟩ : ∃ m, k = m + 1 := ⟨k - 1, by omega⟩
    rw [louverref20_Zero.l1, if_neg (by omega), List.take_of_length_le (by omega)]
  | succ d ih =>
    intro j k hi hk
    obtain ⟨m, rfl⟩ : ∃ m, k = m + 1 := ⟨k - 1, by omega⟩
    have q0 : j < arr.length := by omega
    have e0 : rd_T57 arr (j : Int) = arr[j] := by simp [rd_T57, List.getD_eq_getElem?_getD, q0]
    have hz : (zrow arr[j]).length ≤ 256 := by
      unfold zrow
      split
      · rw [List.length_replicate]; omega
      · simp
    rw [louverref20_Zero.l1, if_pos (by omega), if_pos (by omega), e0]
    refine zero_l2 gs arr l2 l3 j _ (d * 300 + 1) G _ q0 hm (by simp; omega) (fun k hk => ?_) (zrow arr[j]).length 0 m (by omega) (by omega)
    rw [show ((arr.take j).map zrow) ++ [zrow arr[j]] = (arr.take (j + 1)).map zrow by rw [List.take_succ_eq_append_getElem q0, List.map_append, List.map_singleton]]
    exact ih (j + 1) k (by omega) (by omega)
theorem zero_l0 (hm0 : gs.length ≤ 1048576) (hm : arr.length ≤ 1048576) : ∀ d i k, i + d = gs.length → d + arr.length * 300 + 1 < k →
    louverref20_Zero.l0 k (i : Int) gs arr l2 l3 (List.replicate i 0) = some (List.replicate gs.length 0, arr.map zrow) := by
  intro d
  induction d with
  | zero =>
    intro i k hi hk
    obtain ⟨m, rfl⟩ : ∃ m, k = m + 1 := ⟨k - 1, by omega⟩
    obtain rfl : i = gs.length := by omega
    rw [louverref20_Zero.l0, if_neg (by omega)]
    exact zero_l1 gs arr l2 l3 _ hm arr.length 0 m (by omega) (by omega)
  | succ d ih =>
    intro i k hi hk
    obtain ⟨m, rfl⟩ : ∃ m, k = m + 1 := ⟨k - 1, by omega⟩
    rw [louverref20_Zero.l0, if_pos (by omega), if_pos (by rw [List.length_replicate]; omega), show wrap64 ((i : Int) + 1) = ((i + 1 : Nat) : Int) from wrap_succ (n := gs.length) (by omega) (by omega), ← List.replicate_succ']
    exact ih (i + 1) m (by omega) (by omega)
theorem refZero_f (hm0 : gs.length ≤ 1048576) (hm : arr.length ≤ 1048576) (k : Nat) (hk : gs.length + arr.length * 300 + 1 < k) : louverref20_Zero.f k gs arr l2 l3 = some (List.replicate gs.length 0, arr.map zrow) :=
  zero_l0 gs arr l2 l3 hm0 hm gs.length 0 k (by omega) hk
variable (g : List Int) (r : List (List Int)) (l : Int)
theorem seen_l2 (j : Nat) (R : List Int × List (List Int)) (F : Nat) (G : List Int) (acc : List (List Int)) (hl : (Lit.int .u64 l).wf = true) (q0 : j < arr.length) (q1 : j < r.length) (ha : (Lit.int .u64 arr[j].f1).wf = true) (hm : arr.length ≤ 1048576) (hr : r[j].length ≤ 1048576) (hacc : acc.length ≤ 1048576)
    (hV : ∀ k, F ≤ k → louverref20_Seen.l1 k l ((j + 1 : Nat) : Int) gs arr l2 l3 g r G (acc ++ [blot (wi arr[j].f1 l) r[j]]) = some R) : ∀ d i k, i + d = r[j].length → F + d + 66 < k →
    louverref20_Seen.l2 k l (j : Int) ((blot (wi arr[j].f1 l) r[j]).take i) (i : Int) gs arr l2 l3 g r G acc = some R := by
  intro d
  have e0 : rd_T57 arr (j : Int) = arr[j] := by simp [rd_T57, List.getD_eq_getElem?_getD, q0]
  have hbl : (blot (wi arr[j].f1 l) r[j]).length = r[j].length := blot_length _ _
  induction d with
  | zero =>
    intro i k hi hk
    obtain ⟨m, rfl⟩ : ∃ m, k = m + 1 := ⟨k - 1, by omega⟩
    rw [louverref20_Seen.l2, if_pos (by omega), if_pos (by omega), rdL_get q1, if_neg (by omega), if_pos (by omega), wrap_succ q0 (by omega), List.take_of_length_le (by omega)]
    exact hV m (by omega)
  | succ d ih =>
    intro i k hi hk
    obtain ⟨m, rfl⟩ : ∃ m, k = m + 1 := ⟨k - 1, by omega⟩
    have p1 : i < r[j].length := by omega
    have p2 : i < (blot (wi arr[j].f1 l) r[j]).length := by omega
    have hx := ih (i + 1) m (by omega) (by omega)
    rw [List.take_succ_eq_append_getElem p2] at hx
    rw [louverref20_Seen.l2, if_pos (by omega), if_pos (by omega), rdL_get q1, if_pos (by omega), if_pos (by omega), e0, within_f ha hl m (by omega), Option.bind_some, if_pos (show 0 ≤ (i : Int) by omega), rd_get p1, wrap_succ p1 (by omega)]
    have ht : (List.take i (blot (wi arr[j].f1 l) r[j])).length < 17592186044416 := by rw [List.length_take]; omega
    rw [if_pos ht, if_pos ht]
    have hg : (blot (wi arr[j].f1 l) r[j])[i] = (if wi arr[j].f1 l = true then r[j][i] else 0) := by
      unfold blot
      split <;> simp
    rw [hg] at hx
    cases hw : wi arr[j].f1 l
    · rw [if_neg (by decide)]
      rw [hw, if_neg (by decide)] at hx
      exact hx
    · rw [if_pos rfl]
      rw [hw, if_pos rfl] at hx
      exact hx
theorem seen_l1 (C : Nat) (hC : 1048700 ≤ C) (G : List Int) (hl : (Lit.int .u64 l).wf = true) (ha : ∀ a ∈ arr, (Lit.int .u64 a.f1).wf = true) (hn : arr.length = r.length) (hm : arr.length ≤ 1048576) (hr : ∀ x ∈ r, x.length ≤ 1048576) : ∀ d j k, j + d = arr.length → d * C < k →
    louverref20_Seen.l1 k l (j : Int) gs arr l2 l3 g r G ((seenR l arr r).take j) = some (G, seenR l arr r) := by
  intro d
  have hlen : (seenR l arr r).length = arr.length := by simp [seenR]; omega
  induction d with
  | zero =>
    intro j k hi hk
    obtain ⟨m, rfl⟩ : ∃ m, k = m + 1 := ⟨k - 1, by omega⟩
    rw [louverref20_Seen.l1, if_neg (by omega), List.take_of_length_le (by omega)]
  | succ d ih =>
    intro j k hi hk
    obtain ⟨m, rfl⟩ : ∃ m, k = m + 1 := ⟨k - 1, by omega⟩
    have q0 : j < arr.length := by omega
    have q1 : j < r.length := by omega
    have hb := hr _ (List.getElem_mem q1)
    rw [Nat.add_mul, Nat.one_mul] at hk
    rw [louverref20_Seen.l1, if_pos (by omega)]
    refine seen_l2 gs arr l2 l3 g r l j _ (d * C + 1) G _ hl q0 q1 (ha _ (List.getElem_mem q0)) hm hb (by rw [List.length_take]; omega) (fun k hk => ?_) r[j].length 0 m (by omega) (by omega)
    have he : (seenR l arr r)[j]'(by omega) = blot (wi arr[j].f1 l) r[j] := by simp [seenR]
    rw [← he, ← List.take_succ_eq_append_getElem (by omega)]
    exact ih (j + 1) k (by omega) (by omega)
theorem seen_l0 (hl : (Lit.int .u64 l).wf = true) (hg : ∀ a ∈ gs, (Lit.int .u64 a).wf = true) (ha : ∀ a ∈ arr, (Lit.int .u64 a.f1).wf = true) (hn0 : g.length = gs.length) (hn : arr.length = r.length) (hm0 : gs.length ≤ 1048576) (hm : arr.length ≤ 1048576) (hr : ∀ x ∈ r, x.length ≤ 1048576) : ∀ d i k, i + d = gs.length → d + arr.length * 1048700 + 70 < k →
    louverref20_Seen.l0 k l (i : Int) gs arr l2 l3 g r ((seenG l gs g).take i) = some (seenG l gs g, seenR l arr r) := by
  intro d
  have hlen : (seenG l gs g).length = gs.length := by simp [seenG]; omega
  induction d with
  | zero =>
    intro i k hi hk
    obtain ⟨m, rfl⟩ : ∃ m, k = m + 1 := ⟨k - 1, by omega⟩
    rw [louverref20_Seen.l0, if_neg (by omega), List.take_of_length_le (by omega)]
    exact seen_l1 gs arr l2 l3 g r l 1048700 (Nat.le_refl _) _ hl ha hn hm hr arr.length 0 m (by omega) (by omega)
  | succ d ih =>
    intro i k hi hk
    obtain ⟨m, rfl⟩ : ∃ m, k = m + 1 := ⟨k - 1, by omega⟩
    have q0 : i < gs.length := by omega
    have q1 : i < g.length := by omega
    have p2 : i < (seenG l gs g).length := by omega
    have hx := ih (i + 1) m (by omega) (by omega)
    rw [List.take_succ_eq_append_getElem p2, show (seenG l gs g)[i] = (if wi gs[i] l = true then g[i] else 0) by simp [seenG]] at hx
    have ht : (List.take i (seenG l gs g)).length < 17592186044416 := by rw [List.length_take]; omega
    rw [louverref20_Seen.l0, if_pos (by omega), if_pos (by omega), rd_get q0, within_f (hg _ (List.getElem_mem q0)) hl m (by omega), Option.bind_some, if_pos (show (i : Int) < (g.length : Int) by omega), rd_get q1, wrap_succ q0 (by omega), if_pos ht, if_pos ht]
    cases hw : wi gs[i] l
    · rw [if_neg (by decide)]
      rw [hw, if_neg (by decide)] at hx
      exact hx
    · rw [if_pos rfl]
      rw [hw, if_pos rfl] at hx
      exact hx
theorem refSeen_f (hl : (Lit.int .u64 l).wf = true) (hg : ∀ a ∈ gs, (Lit.int .u64 a).wf = true) (ha : ∀ a ∈ arr, (Lit.int .u64 a.f1).wf = true) (hm0 : gs.length ≤ 1048576) (hm : arr.length ≤ 1048576) (hr : ∀ x ∈ r, x.length ≤ 1048576) (k : Nat) (hk : gs.length + arr.length * 1048700 + arr.length + 80 < k) :
    louverref20_Seen.f k gs arr l2 l3 g r l = some (seenM gs arr l g r) := by
  unfold louverref20_Seen.f seenM
  rw [fitsRef_f gs arr l2 l3 g r (by omega) _ (by omega), Option.bind_some]
  cases f1 : fitsB gs arr g r
  · rw [if_neg (by decide), if_neg (by decide)]
  rw [if_pos rfl, if_pos rfl]
  obtain ⟨a1, a2, a3⟩ := fitsB_parts f1
  exact seen_l0 gs arr l2 l3 g r l hl hg ha a1 a2 hm0 hm hr gs.length 0 k (by omega) (by omega)
end
end Go.Proofs.Ytlnccdgclaalbaa.PJ

namespace Go.Proofs.Ytlnccdgclaalbaa.PJ
open Go.RowKit Go.Proofs.YtlnccdgclaalbaaW.PrintWords Go.Proofs.YtlnccdgclaalbaaW.PrintLast Go.Proofs.YtlnccdgclaalbaaW.PrintMore
set_option linter.unusedSimpArgs false
set_option linter.unusedVariables false
theorem MB.Ok.weaken {m : MB} {W : World} {lo lo' hi hi' : Nat} (h : m.Ok W lo hi) (h1 : lo' ≤ lo) (h2 : hi ≤ hi') : m.Ok W lo' hi' :=
  ⟨h.e0, h.e1, h.nmax, fun hp => by
    obtain ⟨b, e, hb, hh⟩ := h.arr hp
    exact ⟨b, e, Nat.le_trans h1 hb, hh⟩, h.mem.low h1, fun i hi hp => Nat.lt_of_lt_of_le (h.lt i hi hp) h2⟩
/-- Memories one behind the other, all of them below hi. -/
def Chn (W : World) : Nat → List MB → Nat → Prop
  | lo, [], hi => lo ≤ hi
  | lo, m :: ms, hi => ∃ mid, lo ≤ mid ∧ m.Ok W lo mid ∧ Chn W mid ms hi
theorem Chn.chain {W : World} : ∀ {ms : List MB} {lo hi : Nat}, Chn W lo ms hi → Chain W lo ms
  | [], _, _, _ => trivial
  | _ :: _, _, _, ⟨mid, h1, h2, h3⟩ => ⟨mid, h1, h2, h3.chain⟩
theorem Chn.below {W W' : World} (hb : Below W.heap.size W W') : ∀ {ms : List MB} {lo hi : Nat}, Chn W lo ms hi → Chn W' lo ms hi
  | [], _, _, h => h
  | _ :: _, _, _, ⟨mid, h1, h2, h3⟩ => ⟨mid, h1, h2.below hb, h3.below hb⟩
theorem Chn.grow {W : World} {hi hi' : Nat} (hh : hi ≤ hi') : ∀ {ms : List MB} {lo : Nat}, Chn W lo ms hi → Chn W lo ms hi'
  | [], _, h => Nat.le_trans h hh
  | _ :: _, _, ⟨mid, h1, h2, h3⟩ => ⟨mid, h1, h2, h3.grow hh⟩
theorem Chn.snoc0 {W : World} {m : MB} {hi hi' : Nat} (hh : hi ≤ hi') (hm : m.Ok W hi hi') : ∀ {ms : List MB} {lo : Nat}, Chn W lo ms hi → Chn W lo (ms ++ [m]) hi'
  | [], lo, h => ⟨hi', Nat.le_trans h hh, hm.weaken h (Nat.le_refl _), Nat.le_refl _⟩
  | _ :: _, _, ⟨mid, h1, h2, h3⟩ => ⟨mid, h1, h2, h3.snoc0 hh hm⟩
theorem Chn.step {W W' : World} {ms : List MB} {lo : Nat} (h : Chn W lo ms W.heap.size) (hb : Below W.heap.size W W') : Chn W' lo ms W'.heap.size := (h.below hb).grow hb.size
theorem Chn.snoc {W W' : World} {ms : List MB} {lo : Nat} {m : MB} (h : Chn W lo ms W.heap.size) (hb : Below W.heap.size W W') (hm : m.Ok W' W.heap.size W'.heap.size) : Chn W' lo (ms ++ [m]) W'.heap.size := (h.below hb).snoc0 hb.size hm
/-- A memory that a call hands out. -/
def OutM (w w' : World) (v : Value) (g : List Int) (r : List (List Int)) : Prop := ∃ (mb : MB) (A0 A1 : Option Addr), v = .agg #[.slice A0 g.length g.length, .slice A1 r.length r.length] ∧ mb.v0 = .slice A0 g.length g.length ∧ mb.v1 = .slice A1 r.length r.length ∧ mb.Ok w' w.heap.size w'.heap.size ∧ MemR w' v g r ∧ mb.n ≤ 1048576 ∧ ∀ j, j < mb.n + 1 → (mb.xs j).length ≤ 1048576
theorem outM_of {w w' : World} {v0 v1 : Value} {n : Nat} {xs : Nat → List Int} {g : List Int} {r : List (List Int)} (h : MemOut w' w.heap.size v0 v1 n xs) (e0 : xs 0 = g) (e1 : rowsOf n xs = r) (sz : Sized 1048576 g r) : OutM w w' (.agg #[v0, v1]) g r := by
  have hn : r.length = n := by rw [← e1, rowsOf_length]
  obtain ⟨A0, A1, f0, f1, c0, c1⟩ := h.reads
  obtain ⟨mb, b0, b1, bn, bx, hok⟩ := MB.of h
  rw [e0] at f0 c0
  rw [e1] at c1
  rw [← hn] at f1 c1
  refine ⟨mb, A0, A1, by rw [f0, f1], by rw [b0, f0], by rw [b1, f1], hok, ⟨A0, _, A1, _, by rw [f0, f1], c0, Nat.le_refl _, c1, Nat.le_refl _⟩, by rw [bn, ← hn]; exact sz.n, fun j hj => ?_⟩
  rw [bx]
  rw [bn] at hj
  cases j with
  | zero => rw [e0]; exact sz.g
  | succ j =>
    have : (rowsOf n xs)[j]? = some (xs (j + 1)) := rowsOf_at (by omega)
    rw [e1] at this
    exact sz.r _ (List.mem_of_getElem? this)
section
variable {w : World} {m x : Value} {gs : List Int} {arr : List S57} {l2 : List Int} {l3 : List S48} {g1 g : List Int} {r1 r : List (List Int)}
theorem zrow_len (x : S57) : (zrow x).length ≤ 256 := by
  unfold zrow
  split
  · rw [List.length_replicate]; omega
  · simp
theorem zero_sized (h0 : gs.length ≤ 1048576) (h1 : arr.length ≤ 1048576) (eg : List.replicate gs.length 0 = g) (er : arr.map zrow = r) : Sized 1048576 g r := by
  refine ⟨by rw [← eg, List.length_replicate]; exact h0, by rw [← er, List.length_map]; exact h1, by rw [← er, List.length_map]; omega, fun x hx => ?_⟩
  rw [← er] at hx
  obtain ⟨y, _, rfl⟩ := List.mem_map.1 hx
  have := zrow_len y
  omega
theorem zeroB (hm : ModR w m gs arr l2 l3) (h0 : gs.length ≤ 1048576) (h1 : arr.length ≤ 1048576) (eg : List.replicate gs.length 0 = g) (er : arr.map zrow = r) :
    Calls Try.prog 9 #[m] w fun e w' => ∃ v, e = .returned v ∧ OutM w w' v g r ∧ Below w.heap.size w w' := by
  obtain ⟨A0, c0, A1, c1, A2, c2, A3, c3, rfl, k0, m0, k1, m1, k2, m2, k3, m3⟩ := hm
  refine (view_Zero.out A0 c0 gs.length A1 c1 arr A2 c2 l2.length A3 c3 l3.length w k1 (by omega) (by omega)).mono ?_
  rintro e w' ⟨v0, v1, rfl, hM, hb⟩
  exact ⟨_, rfl, outM_of hM (by rw [← eg]; rfl) (by rw [rows_zeroX, er]) (zero_sized h0 h1 eg er), hb⟩
theorem copyB (hx : MemR w x g1 r1) (hs : Sized 1048576 g1 r1) :
    Calls Try.prog 10 #[x] w fun e w' => ∃ v, e = .returned v ∧ OutM w w' v g1 r1 ∧ Below w.heap.size w w' := by
  obtain ⟨A0, c0, A1, c1, rfl, h0, l0, h1, l1⟩ := hx
  have q0 := hs.g
  have q1 := hs.n2
  refine (view_Copy.out A0 c0 g1 A1 c1 r1 w h0 l0 h1 l1 (by omega) q1 (fun z hz => by have := hs.r z hz; omega)).mono ?_
  rintro e w' ⟨v0, v1, rfl, hM, hb⟩
  exact ⟨_, rfl, outM_of hM rfl (rows_memX _ _) hs, hb⟩
theorem nilM (w : World) : OutM w w (.agg #[.slice none 0 0, .slice none 0 0]) [] [] :=
  outM_of (n := 0) (xs := fun _ => []) ⟨fun _ => none, fun _ => 0, none, rfl, rfl, by omega, fun h => absurd h (by omega), ⟨fun i hi hp => absurd hp (by simp), fun i j hi hj hp => absurd hp (by simp), fun i hi => by simp, fun i hi hp => absurd hp (by simp)⟩⟩ rfl rfl ⟨by simp, by simp, by simp, fun x hx => by cases hx⟩
theorem OutM.below {w w1 : World} {v : Value} (h : OutM w w v g r) (hb : Below w.heap.size w w1) : OutM w w1 v g r := by
  obtain ⟨mb, A0, A1, e, e0, e1, hok, hR, hn⟩ := h
  exact ⟨mb, A0, A1, e, e0, e1, (hok.below hb).weaken (Nat.le_refl _) hb.size, hR.below hb, hn⟩
theorem seen_sized (l : Int) (hs : Sized 1048576 g1 r1) (es : seenM gs arr l g1 r1 = (g, r)) : Sized 1048576 g r := by
  unfold seenM at es
  split at es
  · injection es with e1 e2
    subst e1 e2
    exact sized_seen l hs
  · injection es with e1 e2
    subst e1 e2
    exact ⟨by simp, by simp, by simp, fun x hx => by cases hx⟩
theorem seenB (hm : ModR w m gs arr l2 l3) (hx : MemR w x g1 r1) (l : Int) (h1 : arr.length ≤ 1048576) (hs : Sized 1048576 g1 r1) (es : seenM gs arr l g1 r1 = (g, r)) :
    Calls Try.prog 11 #[m, x, .int .u64 l] w fun e w' => ∃ v, e = .returned v ∧ OutM w w' v g r ∧ Below w.heap.size w w' := by
  have hsz := seen_sized l hs es
  obtain ⟨A0, c0, A1, c1, A2, c2, A3, c3, rfl, h0, l0, k1, l1, h2, l2_, h3, l3_⟩ := hm
  obtain ⟨B0, d0, B1, d1, rfl, n0, m0, n1, m1⟩ := hx
  unfold seenM at es
  split at es
  · rename_i hf
    injection es with e1 e2
    subst e1 e2
    refine (view_Seen.out A0 c0 gs A1 c1 arr A2 c2 l2 A3 c3 l3 B0 d0 g1 B1 d1 r1 l w h0 l0 k1 l1 h2 l2_ h3 l3_ n0 m0 n1 m1 (by omega) (by have := hs.g; omega) (fun z hz => by have := hs.r z hz; omega) hf).mono ?_
    rintro e w' ⟨v0, v1, rfl, hM, hb⟩
    have hfl : arr.length = r1.length := (fitsB_parts hf).2.1
    have e2 := rows_memX (seenG l gs g1) (seenR l arr r1)
    rw [seenR_length _ _ _ hfl] at e2
    exact ⟨_, rfl, outM_of hM rfl e2 hsz, hb⟩
  · rename_i hf
    injection es with e1 e2
    subst e1 e2
    refine (view_Seen.not A0 c0 gs A1 c1 arr A2 c2 l2 A3 c3 l3 B0 d0 g1 B1 d1 r1 l w h0 l0 k1 l1 h2 l2_ h3 l3_ n0 m0 n1 m1 (by omega) (by simpa using hf)).mono ?_
    rintro e w' ⟨rfl, hb⟩
    exact ⟨_, rfl, (nilM w).below hb, hb⟩
theorem refZeroB (hm : ModR w m gs arr l2 l3) (h0 : gs.length ≤ 1048576) (h1 : arr.length ≤ 1048576) (eg : List.replicate gs.length 0 = g) (er : arr.map zrow = r) :
    Calls Try.prog 12 #[m] w fun e w' => ∃ v, e = .returned v ∧ MemR w' v g r ∧ Below w.heap.size w w' := by
  obtain ⟨A0, c0, A1, c1, A2, c2, A3, c3, rfl, k0, m0, k1, m1, k2, m2, k3, m3⟩ := hm
  refine (louverref20_Zero.calls (gs.length + arr.length * 300 + 2) A0 c0 gs A1 c1 arr A2 c2 l2 A3 c3 l3 g r w k0 m0 k1 m1 k2 m2 k3 m3 (by rw [refZero_f gs arr l2 l3 h0 h1 _ (by omega), eg, er])).mono ?_
  rintro e w' ⟨v0, v1, rfl, q0, q1, hb⟩
  exact ⟨_, rfl, memR_V (b0 := 0) (b1 := 0) (Kd.R_V q0) (Kd.R_V (Kd.S_R q1)), hb⟩
theorem refSeenB (hm : ModR w m gs arr l2 l3) (hx : MemR w x g1 r1) (l : Int) (hl : (Lit.int .u64 l).wf = true) (hg : ∀ a ∈ gs, (Lit.int .u64 a).wf = true) (ha : ∀ a ∈ arr, (Lit.int .u64 a.f1).wf = true) (h0 : gs.length ≤ 1048576) (h1 : arr.length ≤ 1048576) (hs : Sized 1048576 g1 r1) (es : seenM gs arr l g1 r1 = (g, r)) :
    Calls Try.prog 13 #[m, x, .int .u64 l] w fun e w' => ∃ v, e = .returned v ∧ MemR w' v g r ∧ Below w.heap.size w w' := by
  obtain ⟨A0, c0, A1, c1, A2, c2, A3, c3, rfl, k0, m0, k1, m1, k2, m2, k3, m3⟩ := hm
  obtain ⟨B0, d0, B1, d1, rfl, n0, o0, n1, o1⟩ := hx
  refine (louverref20_Seen.calls (gs.length + arr.length * 1048700 + arr.length + 81) A0 c0 gs A1 c1 arr A2 c2 l2 A3 c3 l3 B0 d0 g1 B1 d1 r1 l g r w k0 m0 k1 m1 k2 m2 k3 m3 n0 o0 n1 o1 (by rw [refSeen_f gs arr l2 l3 g1 r1 l hl hg ha h0 h1 hs.r _ (by omega), es])).mono ?_
  rintro e w' ⟨v0, v1, rfl, q0, q1, hb⟩
  exact ⟨_, rfl, memR_V (b0 := 0) (b1 := 0) (Kd.R_V q0) (Kd.R_V (Kd.S_R q1)), hb⟩
theorem refFitsB (hm : ModR w m gs arr l2 l3) (hx : MemR w x g1 r1) : Calls Try.prog 15 #[m, x] w fun e w' => e = .returned (.bool (fitsB gs arr g1 r1)) ∧ Below w.heap.size w w' := by
  obtain ⟨A0, c0, A1, c1, A2, c2, A3, c3, rfl, h0, l0, h1, l1, h2, l2_, h3, l3_⟩ := hm
  obtain ⟨B0, d0, B1, d1, rfl, k0, m0, k1, m1⟩ := hx
  exact louverref20_Fits.calls (arr.length + 2) A0 c0 gs A1 c1 arr A2 c2 l2 A3 c3 l3 B0 d0 g1 B1 d1 r1 _ w h0 l0 h1 l1 h2 l2_ h3 l3_ k0 m0 k1 m1 (fitsRef_f gs arr l2 l3 g1 r1 (Kd.C_max h1) _ (by omega))
theorem six_hall {W : World} {b t : Nat} {m1 m2 m3 m4 m5 m6 : MB} (h : W.heap[b]? = some (.cells #[m1.v0, m1.v1, m2.v0, m2.v1, m3.v0, m3.v1, m4.v0, m4.v1, m5.v0, m5.v1, m6.v0, m6.v1] t (0, 0))) :
    ∀ i m, [m1, m2, m3, m4, m5, m6][i]? = some m → W.cell? ((⟨b, 0, none⟩ : Addr).add (i * 2)) = some m.v0 ∧ W.cell? ⟨((⟨b, 0, none⟩ : Addr).add (i * 2)).block, ((⟨b, 0, none⟩ : Addr).add (i * 2)).off + 1, none⟩ = some m.v1 := by
  intro i m hi
  rw [add_plain]
  match i, hi with
  | 0, hi => obtain rfl : m1 = m := by simpa using hi
             exact ⟨blk_cell h 0, blk_cell h 1⟩
  | 1, hi => obtain rfl : m2 = m := by simpa using hi
             exact ⟨blk_cell h 2, blk_cell h 3⟩
  | 2, hi => obtain rfl : m3 = m := by simpa using hi
             exact ⟨blk_cell h 4, blk_cell h 5⟩
  | 3, hi => obtain rfl : m4 = m := by simpa using hi
             exact ⟨blk_cell h 6, blk_cell h 7⟩
  | 4, hi => obtain rfl : m5 = m := by simpa using hi
             exact ⟨blk_cell h 8, blk_cell h 9⟩
  | 5, hi => obtain rfl : m6 = m := by simpa using hi
             exact ⟨blk_cell h 10, blk_cell h 11⟩
  | n + 6, hi => simp at hi
end
set_option maxHeartbeats 32000000 in
set_option maxRecDepth 100000 in
theorem viewTells.calls (A0 A1 A2 A3 : Option Addr) (c0 c1 c2 c3 : Nat) (gs : List Int) (arr : List S57) (l2 : List Int) (l3 : List S48) (P1 Q1 : Option Addr) (p1 q1 : Nat) (g1 : List Int) (r1 : List (List Int)) (l : Int) (w : World) (hm : ModR w (.agg #[.slice A0 gs.length c0, .slice A1 arr.length c1, .slice A2 l2.length c2, .slice A3 l3.length c3]) gs arr l2 l3) (h1 : MemR w (.agg #[.slice P1 g1.length p1, .slice Q1 r1.length q1]) g1 r1) (s1 : Sized 1048576 g1 r1) (n0 : gs.length ≤ 1048576) (n1 : arr.length ≤ 1048576) (wl : (Lit.int .u64 l).wf = true) (wg : ∀ a ∈ gs, (Lit.int .u64 a).wf = true) (wa : ∀ a ∈ arr, (Lit.int .u64 a.f1).wf = true) (z0 : (gs.length + 1) * 8 ≤ 140737488355328) (z1 : (arr.length + 1) * 16 ≤ 140737488355328) (z2 : (l2.length + 1) * 8 ≤ 140737488355328) (z3 : (l3.length + 1) * 96 ≤ 140737488355328) (zf : ∀ x ∈ l3, (x.f1.length + 1) * 8 ≤ 140737488355328 ∧ (x.f2.length + 1) * 8 ≤ 140737488355328 ∧ (x.f5.length + 1) * 16 ≤ 140737488355328) (y1 : ((g1.length + 1) * 8 ≤ 140737488355328 ∧ (r1.length + 1) * 24 ≤ 140737488355328 ∧ ∀ x ∈ r1, (x.length + 1) * 8 ≤ 140737488355328)) :
    Calls Try.prog 3 #[.agg #[.slice A0 gs.length c0, .slice A1 arr.length c1, .slice A2 l2.length c2, .slice A3 l3.length c3], .agg #[.slice P1 g1.length p1, .slice Q1 r1.length q1], .int .u64 l] w fun e w' => e = .returned (.bool true) ∧ Below w.heap.size w w' := by
  have Zhm := Aside0.mk hm
  have Zh1 := Aside0.mk h1
  have Zs1 := Aside0.mk s1
  have Zn0 := Aside0.mk n0
  have Zn1 := Aside0.mk n1
  have Zwl := Aside0.mk wl
  have Zwg := Aside0.mk wg
  have Zwa := Aside0.mk wa
  have Zz0 := Aside0.mk z0
  have Zz1 := Aside0.mk z1
  have Zz2 := Aside0.mk z2
  have Zz3 := Aside0.mk z3
  have Zzf := Aside0.mk zf
  have Zy1 := Aside0.mk y1
  clear hm h1 s1 n0 n1 wl wg wa z0 z1 z2 z3 zf y1
  obtain ⟨gz, hgz⟩ : ∃ g, List.replicate gs.length (0 : Int) = g := ⟨_, rfl⟩
  obtain ⟨rz, hrz⟩ : ∃ r, arr.map zrow = r := ⟨_, rfl⟩
  obtain ⟨⟨gn, rn⟩, hsn⟩ : ∃ p, seenM gs arr l g1 r1 = p := ⟨_, rfl⟩
  obtain ⟨fb, hfb⟩ : ∃ b, fitsB gs arr g1 r1 = b := ⟨_, rfl⟩
  have ZGZ := Aside0.mk hgz
  have ZRZ := Aside0.mk hrz
  have ZSN := Aside0.mk hsn
  have ZFB := Aside0.mk hfb
  have ZSZ := Aside0.mk (zero_sized Zn0.out Zn1.out hgz hrz)
  have ZSS := Aside0.mk (seen_sized l Zs1.out hsn)
  clear hgz hrz hsn hfb
  have HB := Aside0.mk (below_alloc (below_alloc (Below.refl w.heap.size w) (.cells #[.slice A0 gs.length c0, .slice A1 arr.length c1, .slice A2 l2.length c2, .slice A3 l3.length c3] 26)) (.cells #[.slice P1 g1.length p1, .slice Q1 r1.length q1] 30))
  have G0_ : (w.alloc (.cells #[.slice A0 gs.length c0, .slice A1 arr.length c1, .slice A2 l2.length c2, .slice A3 l3.length c3] 26)).heap[w.heap.size + 0]? = some (.cells #[.slice A0 gs.length c0, .slice A1 arr.length c1, .slice A2 l2.length c2, .slice A3 l3.length c3] 26 (0, 0)) := by
    have := heap_alloc_new w (.cells #[.slice A0 gs.length c0, .slice A1 arr.length c1, .slice A2 l2.length c2, .slice A3 l3.length c3] 26)
    simpa using this
  have HG0 := Aside0.mk (blk_alloc (G0_) (.cells #[.slice P1 g1.length p1, .slice Q1 r1.length q1] 30))
  clear G0_
  have G1_ : ((w.alloc (.cells #[.slice A0 gs.length c0, .slice A1 arr.length c1, .slice A2 l2.length c2, .slice A3 l3.length c3] 26)).alloc (.cells #[.slice P1 g1.length p1, .slice Q1 r1.length q1] 30)).heap[w.heap.size + 1]? = some (.cells #[.slice P1 g1.length p1, .slice Q1 r1.length q1] 30 (0, 0)) := by
    have := heap_alloc_new (w.alloc (.cells #[.slice A0 gs.length c0, .slice A1 arr.length c1, .slice A2 l2.length c2, .slice A3 l3.length c3] 26)) (.cells #[.slice P1 g1.length p1, .slice Q1 r1.length q1] 30)
    simpa using this
  have HG1 := Aside0.mk (G1_)
  clear G1_
  simp only [Nat.add_zero] at HG0
  obtain ⟨m0_, m1_, m2_, m3_⟩ := va4 HG0.out
  obtain ⟨⟨a0_, a1_⟩, _, _⟩ := blk2 HG1.out
  go_enter Try.func3, Try.ntmps3
  go_wp2_with fail
  refine (lentModR _ _ _ _ _ _ (Zhm.out.below HB.out) Zz0.out Zz1.out Zz2.out Zz3.out Zzf.out).mono ?_
  rintro e t1 ⟨v, rfl, hL, hb⟩
  clear m0_ m1_ m2_ m3_ a0_ a1_
  replace HG0 := Aside0.mk (blk_below HG0.out hb)
  replace HG1 := Aside0.mk (blk_below HG1.out hb)
  replace HB := Aside0.mk (below_step HB.out hb)
  clear hb
  obtain ⟨K0, k0, K1, k1, K2, k2, K3, k3, rfl, hL0⟩ := hL
  have hLL : LentM t1 (.agg #[.slice K0 gs.length k0, .slice K1 arr.length k1, .slice K2 l2.length k2, .slice K3 l3.length k3]) gs arr l2 l3 := ⟨K0, k0, K1, k1, K2, k2, K3, k3, rfl, hL0⟩
  clear hL0
  have hgs := heap_alloc_new t1 (.cells #[.slice K0 gs.length k0, .slice K1 arr.length k1, .slice K2 l2.length k2, .slice K3 l3.length k3] 26)
  have hb := below_alloc (Below.refl t1.heap.size t1) (.cells #[.slice K0 gs.length k0, .slice K1 arr.length k1, .slice K2 l2.length k2, .slice K3 l3.length k3] 26)
  replace HG0 := Aside0.mk (blk_below HG0.out hb)
  replace HG1 := Aside0.mk (blk_below HG1.out hb)
  replace HB := Aside0.mk (below_step HB.out hb)
  have HK1 := Aside0.mk (hLL.below hb)
  clear hb
  have HQ1 := Aside0.mk hgs
  clear hgs
  obtain ⟨m0_, m1_, m2_, m3_⟩ := va4 HG0.out
  obtain ⟨⟨a0_, a1_⟩, _, _⟩ := blk2 HG1.out
  obtain ⟨i0_, i1_, i2_, i3_⟩ := va4 HQ1.out
  go_wp2_with fail
  obtain ⟨b1, hq⟩ : ∃ q, t1.heap.size = q := ⟨_, rfl⟩
  obtain ⟨u1, hu2⟩ : ∃ W, t1.alloc (.cells #[.slice K0 gs.length k0, .slice K1 arr.length k1, .slice K2 l2.length k2, .slice K3 l3.length k3] 26) = W := ⟨_, rfl⟩
  clear m0_ m1_ m2_ m3_ a0_ a1_ i0_ i1_ i2_ i3_
  rw [hu2] at HG0 HG1 HQ1 HK1 HB ⊢
  rw [hq] at HQ1 ⊢
  clear hu2 hq
  obtain ⟨m0_, m1_, m2_, m3_⟩ := va4 HG0.out
  obtain ⟨⟨a0_, a1_⟩, _, _⟩ := blk2 HG1.out
  obtain ⟨i0_, i1_, i2_, i3_⟩ := va4 HQ1.out
  refine (lentMemR _ _ _ _ (Zh1.out.below HB.out) Zy1.out.1 Zy1.out.2.1 Zy1.out.2.2).mono ?_
  rintro e t2 ⟨v, rfl, hL, hb⟩
  clear m0_ m1_ m2_ m3_ a0_ a1_ i0_ i1_ i2_ i3_
  replace HG0 := Aside0.mk (blk_below HG0.out hb)
  replace HG1 := Aside0.mk (blk_below HG1.out hb)
  replace HQ1 := Aside0.mk (blk_below HQ1.out hb)
  replace HK1 := Aside0.mk (HK1.out.below hb)
  replace HB := Aside0.mk (below_step HB.out hb)
  clear hb
  obtain ⟨X1, x1, Y1, y1, rfl, hL0⟩ := hL
  have hLL : LentMm t2 (.agg #[.slice X1 g1.length x1, .slice Y1 r1.length y1]) g1 r1 := ⟨X1, x1, Y1, y1, rfl, hL0⟩
  clear hL0
  have hgs := heap_alloc_new t2 (.cells #[.slice X1 g1.length x1, .slice Y1 r1.length y1] 30)
  have hb := below_alloc (Below.refl t2.heap.size t2) (.cells #[.slice X1 g1.length x1, .slice Y1 r1.length y1] 30)
  replace HG0 := Aside0.mk (blk_below HG0.out hb)
  replace HG1 := Aside0.mk (blk_below HG1.out hb)
  replace HQ1 := Aside0.mk (blk_below HQ1.out hb)
  replace HK1 := Aside0.mk (HK1.out.below hb)
  replace HB := Aside0.mk (below_step HB.out hb)
  have HK2 := Aside0.mk (hLL.below hb)
  clear hb
  have HQ2 := Aside0.mk hgs
  clear hgs
  obtain ⟨m0_, m1_, m2_, m3_⟩ := va4 HG0.out
  obtain ⟨⟨a0_, a1_⟩, _, _⟩ := blk2 HG1.out
  obtain ⟨i0_, i1_, i2_, i3_⟩ := va4 HQ1.out
  obtain ⟨⟨x0_, x1_⟩, _, _⟩ := blk2 HQ2.out
  go_wp2_with fail
  obtain ⟨b2, hq⟩ : ∃ q, t2.heap.size = q := ⟨_, rfl⟩
  obtain ⟨u2, hu2⟩ : ∃ W, t2.alloc (.cells #[.slice X1 g1.length x1, .slice Y1 r1.length y1] 30) = W := ⟨_, rfl⟩
  clear m0_ m1_ m2_ m3_ a0_ a1_ i0_ i1_ i2_ i3_ x0_ x1_
  rw [hu2] at HG0 HG1 HQ1 HQ2 HK1 HK2 HB ⊢
  rw [hq] at HQ2 ⊢
  clear hu2 hq
  obtain ⟨m0_, m1_, m2_, m3_⟩ := va4 HG0.out
  obtain ⟨⟨a0_, a1_⟩, _, _⟩ := blk2 HG1.out
  obtain ⟨i0_, i1_, i2_, i3_⟩ := va4 HQ1.out
  obtain ⟨⟨x0_, x1_⟩, _, _⟩ := blk2 HQ2.out
  clear m0_ m1_ m2_ m3_ a0_ a1_ i0_ i1_ i2_ i3_ x0_ x1_
  have HB2 := Aside0.mk (Below.refl u2.heap.size u2)
  have HCH := Aside0.mk (show Chn u2 u2.heap.size [] u2.heap.size from Nat.le_refl _)
  obtain ⟨m0_, m1_, m2_, m3_⟩ := va4 (blk_below HG0.out HB2.out)
  obtain ⟨⟨a0_, a1_⟩, _, _⟩ := blk2 (blk_below HG1.out HB2.out)
  obtain ⟨i0_, i1_, i2_, i3_⟩ := va4 (blk_below HQ1.out HB2.out)
  obtain ⟨⟨x0_, x1_⟩, _, _⟩ := blk2 (blk_below HQ2.out HB2.out)
  refine (zeroB (HK1.out.below HB2.out).modR Zn0.out Zn1.out ZGZ.out ZRZ.out).mono ?_
  rintro e t3 ⟨v, rfl, hL, hb⟩
  obtain ⟨m_z, Ez, Fz, rfl, em0, em1, hOK, hR, hS⟩ := hL
  clear m0_ m1_ m2_ m3_ a0_ a1_ i0_ i1_ i2_ i3_ x0_ x1_
  replace HCH := Aside0.mk (HCH.out.snoc hb hOK)
  replace HB2 := Aside0.mk (below_step HB2.out hb)
  clear hb hOK
  have hgs := heap_alloc_new t3 (.cells #[.slice Ez gz.length gz.length, .slice Fz rz.length rz.length] 30)
  have hb := below_alloc (Below.refl t3.heap.size t3) (.cells #[.slice Ez gz.length gz.length, .slice Fz rz.length rz.length] 30)
  replace HCH := Aside0.mk (HCH.out.step hb)
  replace HB2 := Aside0.mk (below_step HB2.out hb)
  have HMz := Aside0.mk (hR.below hb)
  clear hb hR
  have HEz := Aside0.mk (And.intro em0 em1)
  have HSz := Aside0.mk hS
  clear em0 em1 hS
  have HZz := Aside0.mk hgs
  clear hgs
  obtain ⟨m0_, m1_, m2_, m3_⟩ := va4 (blk_below HG0.out HB2.out)
  obtain ⟨⟨a0_, a1_⟩, _, _⟩ := blk2 (blk_below HG1.out HB2.out)
  obtain ⟨i0_, i1_, i2_, i3_⟩ := va4 (blk_below HQ1.out HB2.out)
  obtain ⟨⟨x0_, x1_⟩, _, _⟩ := blk2 (blk_below HQ2.out HB2.out)
  obtain ⟨⟨z0_, z1_⟩, _, _⟩ := blk2 HZz.out
  go_wp2_with fail
  obtain ⟨b3, hq⟩ : ∃ q, t3.heap.size = q := ⟨_, rfl⟩
  obtain ⟨u3, hu2⟩ : ∃ W, t3.alloc (.cells #[.slice Ez gz.length gz.length, .slice Fz rz.length rz.length] 30) = W := ⟨_, rfl⟩
  clear m0_ m1_ m2_ m3_ a0_ a1_ i0_ i1_ i2_ i3_ x0_ x1_ z0_ z1_
  rw [hu2] at HZz HMz HB2 HCH ⊢
  rw [hq] at HZz ⊢
  clear hu2 hq
  obtain ⟨m0_, m1_, m2_, m3_⟩ := va4 (blk_below HG0.out HB2.out)
  obtain ⟨⟨a0_, a1_⟩, _, _⟩ := blk2 (blk_below HG1.out HB2.out)
  obtain ⟨i0_, i1_, i2_, i3_⟩ := va4 (blk_below HQ1.out HB2.out)
  obtain ⟨⟨x0_, x1_⟩, _, _⟩ := blk2 (blk_below HQ2.out HB2.out)
  obtain ⟨⟨z0_, z1_⟩, _, _⟩ := blk2 HZz.out
  refine (zeroB (HK1.out.below HB2.out).modR Zn0.out Zn1.out ZGZ.out ZRZ.out).mono ?_
  rintro e t4 ⟨v, rfl, hL, hb⟩
  obtain ⟨m_y, Ey, Fy, rfl, em0, em1, hOK, hR, hS⟩ := hL
  clear m0_ m1_ m2_ m3_ a0_ a1_ i0_ i1_ i2_ i3_ x0_ x1_ z0_ z1_
  replace HZz := Aside0.mk (blk_below HZz.out hb)
  replace HMz := Aside0.mk (HMz.out.below hb)
  replace HCH := Aside0.mk (HCH.out.snoc hb hOK)
  replace HB2 := Aside0.mk (below_step HB2.out hb)
  clear hb hOK
  have hgs := heap_alloc_new t4 (.cells #[.slice Ey gz.length gz.length, .slice Fy rz.length rz.length] 30)
  have hb := below_alloc (Below.refl t4.heap.size t4) (.cells #[.slice Ey gz.length gz.length, .slice Fy rz.length rz.length] 30)
  replace HZz := Aside0.mk (blk_below HZz.out hb)
  replace HMz := Aside0.mk (HMz.out.below hb)
  replace HCH := Aside0.mk (HCH.out.step hb)
  replace HB2 := Aside0.mk (below_step HB2.out hb)
  have HMy := Aside0.mk (hR.below hb)
  clear hb hR
  have HEy := Aside0.mk (And.intro em0 em1)
  have HSy := Aside0.mk hS
  clear em0 em1 hS
  have HZy := Aside0.mk hgs
  clear hgs
  obtain ⟨m0_, m1_, m2_, m3_⟩ := va4 (blk_below HG0.out HB2.out)
  obtain ⟨⟨a0_, a1_⟩, _, _⟩ := blk2 (blk_below HG1.out HB2.out)
  obtain ⟨i0_, i1_, i2_, i3_⟩ := va4 (blk_below HQ1.out HB2.out)
  obtain ⟨⟨x0_, x1_⟩, _, _⟩ := blk2 (blk_below HQ2.out HB2.out)
  obtain ⟨⟨z0_, z1_⟩, _, _⟩ := blk2 HZz.out
  obtain ⟨⟨y0_, y1_⟩, _, _⟩ := blk2 HZy.out
  go_wp2_with fail
  obtain ⟨b4, hq⟩ : ∃ q, t4.heap.size = q := ⟨_, rfl⟩
  obtain ⟨u4, hu2⟩ : ∃ W, t4.alloc (.cells #[.slice Ey gz.length gz.length, .slice Fy rz.length rz.length] 30) = W := ⟨_, rfl⟩
  clear m0_ m1_ m2_ m3_ a0_ a1_ i0_ i1_ i2_ i3_ x0_ x1_ z0_ z1_ y0_ y1_
  rw [hu2] at HZz HZy HMz HMy HB2 HCH ⊢
  rw [hq] at HZy ⊢
  clear hu2 hq
  obtain ⟨m0_, m1_, m2_, m3_⟩ := va4 (blk_below HG0.out HB2.out)
  obtain ⟨⟨a0_, a1_⟩, _, _⟩ := blk2 (blk_below HG1.out HB2.out)
  obtain ⟨i0_, i1_, i2_, i3_⟩ := va4 (blk_below HQ1.out HB2.out)
  obtain ⟨⟨x0_, x1_⟩, _, _⟩ := blk2 (blk_below HQ2.out HB2.out)
  obtain ⟨⟨z0_, z1_⟩, _, _⟩ := blk2 HZz.out
  obtain ⟨⟨y0_, y1_⟩, _, _⟩ := blk2 HZy.out
  refine (copyB (HK2.out.below HB2.out).memR Zs1.out).mono ?_
  rintro e t5 ⟨v, rfl, hL, hb⟩
  obtain ⟨m_c, Ec, Fc, rfl, em0, em1, hOK, hR, hS⟩ := hL
  clear m0_ m1_ m2_ m3_ a0_ a1_ i0_ i1_ i2_ i3_ x0_ x1_ z0_ z1_ y0_ y1_
  replace HZz := Aside0.mk (blk_below HZz.out hb)
  replace HZy := Aside0.mk (blk_below HZy.out hb)
  replace HMz := Aside0.mk (HMz.out.below hb)
  replace HMy := Aside0.mk (HMy.out.below hb)
  replace HCH := Aside0.mk (HCH.out.snoc hb hOK)
  replace HB2 := Aside0.mk (below_step HB2.out hb)
  clear hb hOK
  have hgs := heap_alloc_new t5 (.cells #[.slice Ec g1.length g1.length, .slice Fc r1.length r1.length] 30)
  have hb := below_alloc (Below.refl t5.heap.size t5) (.cells #[.slice Ec g1.length g1.length, .slice Fc r1.length r1.length] 30)
  replace HZz := Aside0.mk (blk_below HZz.out hb)
  replace HZy := Aside0.mk (blk_below HZy.out hb)
  replace HMz := Aside0.mk (HMz.out.below hb)
  replace HMy := Aside0.mk (HMy.out.below hb)
  replace HCH := Aside0.mk (HCH.out.step hb)
  replace HB2 := Aside0.mk (below_step HB2.out hb)
  have HMc := Aside0.mk (hR.below hb)
  clear hb hR
  have HEc := Aside0.mk (And.intro em0 em1)
  have HSc := Aside0.mk hS
  clear em0 em1 hS
  have HZc := Aside0.mk hgs
  clear hgs
  obtain ⟨m0_, m1_, m2_, m3_⟩ := va4 (blk_below HG0.out HB2.out)
  obtain ⟨⟨a0_, a1_⟩, _, _⟩ := blk2 (blk_below HG1.out HB2.out)
  obtain ⟨i0_, i1_, i2_, i3_⟩ := va4 (blk_below HQ1.out HB2.out)
  obtain ⟨⟨x0_, x1_⟩, _, _⟩ := blk2 (blk_below HQ2.out HB2.out)
  obtain ⟨⟨z0_, z1_⟩, _, _⟩ := blk2 HZz.out
  obtain ⟨⟨y0_, y1_⟩, _, _⟩ := blk2 HZy.out
  obtain ⟨⟨c0_, c1_⟩, _, _⟩ := blk2 HZc.out
  go_wp2_with fail
  obtain ⟨b5, hq⟩ : ∃ q, t5.heap.size = q := ⟨_, rfl⟩
  obtain ⟨u5, hu2⟩ : ∃ W, t5.alloc (.cells #[.slice Ec g1.length g1.length, .slice Fc r1.length r1.length] 30) = W := ⟨_, rfl⟩
  clear m0_ m1_ m2_ m3_ a0_ a1_ i0_ i1_ i2_ i3_ x0_ x1_ z0_ z1_ y0_ y1_ c0_ c1_
  rw [hu2] at HZz HZy HZc HMz HMy HMc HB2 HCH ⊢
  rw [hq] at HZc ⊢
  clear hu2 hq
  obtain ⟨m0_, m1_, m2_, m3_⟩ := va4 (blk_below HG0.out HB2.out)
  obtain ⟨⟨a0_, a1_⟩, _, _⟩ := blk2 (blk_below HG1.out HB2.out)
  obtain ⟨i0_, i1_, i2_, i3_⟩ := va4 (blk_below HQ1.out HB2.out)
  obtain ⟨⟨x0_, x1_⟩, _, _⟩ := blk2 (blk_below HQ2.out HB2.out)
  obtain ⟨⟨z0_, z1_⟩, _, _⟩ := blk2 HZz.out
  obtain ⟨⟨y0_, y1_⟩, _, _⟩ := blk2 HZy.out
  obtain ⟨⟨c0_, c1_⟩, _, _⟩ := blk2 HZc.out
  refine (copyB (HK2.out.below HB2.out).memR Zs1.out).mono ?_
  rintro e t6 ⟨v, rfl, hL, hb⟩
  obtain ⟨m_d, Ed, Fd, rfl, em0, em1, hOK, hR, hS⟩ := hL
  clear m0_ m1_ m2_ m3_ a0_ a1_ i0_ i1_ i2_ i3_ x0_ x1_ z0_ z1_ y0_ y1_ c0_ c1_
  replace HZz := Aside0.mk (blk_below HZz.out hb)
  replace HZy := Aside0.mk (blk_below HZy.out hb)
  replace HZc := Aside0.mk (blk_below HZc.out hb)
  replace HMz := Aside0.mk (HMz.out.below hb)
  replace HMy := Aside0.mk (HMy.out.below hb)
  replace HMc := Aside0.mk (HMc.out.below hb)
  replace HCH := Aside0.mk (HCH.out.snoc hb hOK)
  replace HB2 := Aside0.mk (below_step HB2.out hb)
  clear hb hOK
  have hgs := heap_alloc_new t6 (.cells #[.slice Ed g1.length g1.length, .slice Fd r1.length r1.length] 30)
  have hb := below_alloc (Below.refl t6.heap.size t6) (.cells #[.slice Ed g1.length g1.length, .slice Fd r1.length r1.length] 30)
  replace HZz := Aside0.mk (blk_below HZz.out hb)
  replace HZy := Aside0.mk (blk_below HZy.out hb)
  replace HZc := Aside0.mk (blk_below HZc.out hb)
  replace HMz := Aside0.mk (HMz.out.below hb)
  replace HMy := Aside0.mk (HMy.out.below hb)
  replace HMc := Aside0.mk (HMc.out.below hb)
  replace HCH := Aside0.mk (HCH.out.step hb)
  replace HB2 := Aside0.mk (below_step HB2.out hb)
  have HMd := Aside0.mk (hR.below hb)
  clear hb hR
  have HEd := Aside0.mk (And.intro em0 em1)
  have HSd := Aside0.mk hS
  clear em0 em1 hS
  have HZd := Aside0.mk hgs
  clear hgs
  obtain ⟨m0_, m1_, m2_, m3_⟩ := va4 (blk_below HG0.out HB2.out)
  obtain ⟨⟨a0_, a1_⟩, _, _⟩ := blk2 (blk_below HG1.out HB2.out)
  obtain ⟨i0_, i1_, i2_, i3_⟩ := va4 (blk_below HQ1.out HB2.out)
  obtain ⟨⟨x0_, x1_⟩, _, _⟩ := blk2 (blk_below HQ2.out HB2.out)
  obtain ⟨⟨z0_, z1_⟩, _, _⟩ := blk2 HZz.out
  obtain ⟨⟨y0_, y1_⟩, _, _⟩ := blk2 HZy.out
  obtain ⟨⟨c0_, c1_⟩, _, _⟩ := blk2 HZc.out
  obtain ⟨⟨d0_, d1_⟩, _, _⟩ := blk2 HZd.out
  go_wp2_with fail
  obtain ⟨b6, hq⟩ : ∃ q, t6.heap.size = q := ⟨_, rfl⟩
  obtain ⟨u6, hu2⟩ : ∃ W, t6.alloc (.cells #[.slice Ed g1.length g1.length, .slice Fd r1.length r1.length] 30) = W := ⟨_, rfl⟩
  clear m0_ m1_ m2_ m3_ a0_ a1_ i0_ i1_ i2_ i3_ x0_ x1_ z0_ z1_ y0_ y1_ c0_ c1_ d0_ d1_
  rw [hu2] at HZz HZy HZc HZd HMz HMy HMc HMd HB2 HCH ⊢
  rw [hq] at HZd ⊢
  clear hu2 hq
  obtain ⟨m0_, m1_, m2_, m3_⟩ := va4 (blk_below HG0.out HB2.out)
  obtain ⟨⟨a0_, a1_⟩, _, _⟩ := blk2 (blk_below HG1.out HB2.out)
  obtain ⟨i0_, i1_, i2_, i3_⟩ := va4 (blk_below HQ1.out HB2.out)
  obtain ⟨⟨x0_, x1_⟩, _, _⟩ := blk2 (blk_below HQ2.out HB2.out)
  obtain ⟨⟨z0_, z1_⟩, _, _⟩ := blk2 HZz.out
  obtain ⟨⟨y0_, y1_⟩, _, _⟩ := blk2 HZy.out
  obtain ⟨⟨c0_, c1_⟩, _, _⟩ := blk2 HZc.out
  obtain ⟨⟨d0_, d1_⟩, _, _⟩ := blk2 HZd.out
  refine (seenB (HK1.out.below HB2.out).modR (HK2.out.below HB2.out).memR l Zn1.out Zs1.out ZSN.out).mono ?_
  rintro e t7 ⟨v, rfl, hL, hb⟩
  obtain ⟨m_s, Es, Fs, rfl, em0, em1, hOK, hR, hS⟩ := hL
  clear m0_ m1_ m2_ m3_ a0_ a1_ i0_ i1_ i2_ i3_ x0_ x1_ z0_ z1_ y0_ y1_ c0_ c1_ d0_ d1_
  replace HZz := Aside0.mk (blk_below HZz.out hb)
  replace HZy := Aside0.mk (blk_below HZy.out hb)
  replace HZc := Aside0.mk (blk_below HZc.out hb)
  replace HZd := Aside0.mk (blk_below HZd.out hb)
  replace HMz := Aside0.mk (HMz.out.below hb)
  replace HMy := Aside0.mk (HMy.out.below hb)
  replace HMc := Aside0.mk (HMc.out.below hb)
  replace HMd := Aside0.mk (HMd.out.below hb)
  replace HCH := Aside0.mk (HCH.out.snoc hb hOK)
  replace HB2 := Aside0.mk (below_step HB2.out hb)
  clear hb hOK
  have hgs := heap_alloc_new t7 (.cells #[.slice Es gn.length gn.length, .slice Fs rn.length rn.length] 30)
  have hb := below_alloc (Below.refl t7.heap.size t7) (.cells #[.slice Es gn.length gn.length, .slice Fs rn.length rn.length] 30)
  replace HZz := Aside0.mk (blk_below HZz.out hb)
  replace HZy := Aside0.mk (blk_below HZy.out hb)
  replace HZc := Aside0.mk (blk_below HZc.out hb)
  replace HZd := Aside0.mk (blk_below HZd.out hb)
  replace HMz := Aside0.mk (HMz.out.below hb)
  replace HMy := Aside0.mk (HMy.out.below hb)
  replace HMc := Aside0.mk (HMc.out.below hb)
  replace HMd := Aside0.mk (HMd.out.below hb)
  replace HCH := Aside0.mk (HCH.out.step hb)
  replace HB2 := Aside0.mk (below_step HB2.out hb)
  have HMs := Aside0.mk (hR.below hb)
  clear hb hR
  have HEs := Aside0.mk (And.intro em0 em1)
  have HSs := Aside0.mk hS
  clear em0 em1 hS
  have HZs := Aside0.mk hgs
  clear hgs
  obtain ⟨m0_, m1_, m2_, m3_⟩ := va4 (blk_below HG0.out HB2.out)
  obtain ⟨⟨a0_, a1_⟩, _, _⟩ := blk2 (blk_below HG1.out HB2.out)
  obtain ⟨i0_, i1_, i2_, i3_⟩ := va4 (blk_below HQ1.out HB2.out)
  obtain ⟨⟨x0_, x1_⟩, _, _⟩ := blk2 (blk_below HQ2.out HB2.out)
  obtain ⟨⟨z0_, z1_⟩, _, _⟩ := blk2 HZz.out
  obtain ⟨⟨y0_, y1_⟩, _, _⟩ := blk2 HZy.out
  obtain ⟨⟨c0_, c1_⟩, _, _⟩ := blk2 HZc.out
  obtain ⟨⟨d0_, d1_⟩, _, _⟩ := blk2 HZd.out
  obtain ⟨⟨s0_, s1_⟩, _, _⟩ := blk2 HZs.out
  go_wp2_with fail
  obtain ⟨b7, hq⟩ : ∃ q, t7.heap.size = q := ⟨_, rfl⟩
  obtain ⟨u7, hu2⟩ : ∃ W, t7.alloc (.cells #[.slice Es gn.length gn.length, .slice Fs rn.length rn.length] 30) = W := ⟨_, rfl⟩
  clear m0_ m1_ m2_ m3_ a0_ a1_ i0_ i1_ i2_ i3_ x0_ x1_ z0_ z1_ y0_ y1_ c0_ c1_ d0_ d1_ s0_ s1_
  rw [hu2] at HZz HZy HZc HZd HZs HMz HMy HMc HMd HMs HB2 HCH ⊢
  rw [hq] at HZs ⊢
  clear hu2 hq
  obtain ⟨m0_, m1_, m2_, m3_⟩ := va4 (blk_below HG0.out HB2.out)
  obtain ⟨⟨a0_, a1_⟩, _, _⟩ := blk2 (blk_below HG1.out HB2.out)
  obtain ⟨i0_, i1_, i2_, i3_⟩ := va4 (blk_below HQ1.out HB2.out)
  obtain ⟨⟨x0_, x1_⟩, _, _⟩ := blk2 (blk_below HQ2.out HB2.out)
  obtain ⟨⟨z0_, z1_⟩, _, _⟩ := blk2 HZz.out
  obtain ⟨⟨y0_, y1_⟩, _, _⟩ := blk2 HZy.out
  obtain ⟨⟨c0_, c1_⟩, _, _⟩ := blk2 HZc.out
  obtain ⟨⟨d0_, d1_⟩, _, _⟩ := blk2 HZd.out
  obtain ⟨⟨s0_, s1_⟩, _, _⟩ := blk2 HZs.out
  refine (seenB (HK1.out.below HB2.out).modR (HK2.out.below HB2.out).memR l Zn1.out Zs1.out ZSN.out).mono ?_
  rintro e t8 ⟨v, rfl, hL, hb⟩
  obtain ⟨m_t, Et, Ft, rfl, em0, em1, hOK, hR, hS⟩ := hL
  clear m0_ m1_ m2_ m3_ a0_ a1_ i0_ i1_ i2_ i3_ x0_ x1_ z0_ z1_ y0_ y1_ c0_ c1_ d0_ d1_ s0_ s1_
  replace HZz := Aside0.mk (blk_below HZz.out hb)
  replace HZy := Aside0.mk (blk_below HZy.out hb)
  replace HZc := Aside0.mk (blk_below HZc.out hb)
  replace HZd := Aside0.mk (blk_below HZd.out hb)
  replace HZs := Aside0.mk (blk_below HZs.out hb)
  replace HMz := Aside0.mk (HMz.out.below hb)
  replace HMy := Aside0.mk (HMy.out.below hb)
  replace HMc := Aside0.mk (HMc.out.below hb)
  replace HMd := Aside0.mk (HMd.out.below hb)
  replace HMs := Aside0.mk (HMs.out.below hb)
  replace HCH := Aside0.mk (HCH.out.snoc hb hOK)
  replace HB2 := Aside0.mk (below_step HB2.out hb)
  clear hb hOK
  have hgs := heap_alloc_new t8 (.cells #[.slice Et gn.length gn.length, .slice Ft rn.length rn.length] 30)
  have hb := below_alloc (Below.refl t8.heap.size t8) (.cells #[.slice Et gn.length gn.length, .slice Ft rn.length rn.length] 30)
  replace HZz := Aside0.mk (blk_below HZz.out hb)
  replace HZy := Aside0.mk (blk_below HZy.out hb)
  replace HZc := Aside0.mk (blk_below HZc.out hb)
  replace HZd := Aside0.mk (blk_below HZd.out hb)
  replace HZs := Aside0.mk (blk_below HZs.out hb)
  replace HMz := Aside0.mk (HMz.out.below hb)
  replace HMy := Aside0.mk (HMy.out.below hb)
  replace HMc := Aside0.mk (HMc.out.below hb)
  replace HMd := Aside0.mk (HMd.out.below hb)
  replace HMs := Aside0.mk (HMs.out.below hb)
  replace HCH := Aside0.mk (HCH.out.step hb)
  replace HB2 := Aside0.mk (below_step HB2.out hb)
  have HMt := Aside0.mk (hR.below hb)
  clear hb hR
  have HEt := Aside0.mk (And.intro em0 em1)
  have HSt := Aside0.mk hS
  clear em0 em1 hS
  have HZt := Aside0.mk hgs
  clear hgs
  obtain ⟨m0_, m1_, m2_, m3_⟩ := va4 (blk_below HG0.out HB2.out)
  obtain ⟨⟨a0_, a1_⟩, _, _⟩ := blk2 (blk_below HG1.out HB2.out)
  obtain ⟨i0_, i1_, i2_, i3_⟩ := va4 (blk_below HQ1.out HB2.out)
  obtain ⟨⟨x0_, x1_⟩, _, _⟩ := blk2 (blk_below HQ2.out HB2.out)
  obtain ⟨⟨z0_, z1_⟩, _, _⟩ := blk2 HZz.out
  obtain ⟨⟨y0_, y1_⟩, _, _⟩ := blk2 HZy.out
  obtain ⟨⟨c0_, c1_⟩, _, _⟩ := blk2 HZc.out
  obtain ⟨⟨d0_, d1_⟩, _, _⟩ := blk2 HZd.out
  obtain ⟨⟨s0_, s1_⟩, _, _⟩ := blk2 HZs.out
  obtain ⟨⟨t0_, t1_⟩, _, _⟩ := blk2 HZt.out
  go_wp2_with fail
  obtain ⟨b8, hq⟩ : ∃ q, t8.heap.size = q := ⟨_, rfl⟩
  obtain ⟨u8, hu2⟩ : ∃ W, t8.alloc (.cells #[.slice Et gn.length gn.length, .slice Ft rn.length rn.length] 30) = W := ⟨_, rfl⟩
  clear m0_ m1_ m2_ m3_ a0_ a1_ i0_ i1_ i2_ i3_ x0_ x1_ z0_ z1_ y0_ y1_ c0_ c1_ d0_ d1_ s0_ s1_ t0_ t1_
  rw [hu2] at HZz HZy HZc HZd HZs HZt HMz HMy HMc HMd HMs HMt HB2 HCH ⊢
  rw [hq] at HZt ⊢
  clear hu2 hq
  obtain ⟨m0_, m1_, m2_, m3_⟩ := va4 (blk_below HG0.out HB2.out)
  obtain ⟨⟨a0_, a1_⟩, _, _⟩ := blk2 (blk_below HG1.out HB2.out)
  obtain ⟨i0_, i1_, i2_, i3_⟩ := va4 (blk_below HQ1.out HB2.out)
  obtain ⟨⟨x0_, x1_⟩, _, _⟩ := blk2 (blk_below HQ2.out HB2.out)
  obtain ⟨⟨z0_, z1_⟩, _, _⟩ := blk2 HZz.out
  obtain ⟨⟨y0_, y1_⟩, _, _⟩ := blk2 HZy.out
  obtain ⟨⟨c0_, c1_⟩, _, _⟩ := blk2 HZc.out
  obtain ⟨⟨d0_, d1_⟩, _, _⟩ := blk2 HZd.out
  obtain ⟨⟨s0_, s1_⟩, _, _⟩ := blk2 HZs.out
  obtain ⟨⟨t0_, t1_⟩, _, _⟩ := blk2 HZt.out
  refine (refZeroB ((Zhm.out.below HB.out).below HB2.out) Zn0.out Zn1.out ZGZ.out ZRZ.out).mono ?_
  rintro e t9 ⟨v, rfl, hL, hb⟩
  obtain ⟨Eo, eo, Fo, fo, rfl, hR0⟩ := hL
  have hR : MemR t9 (.agg #[.slice Eo gz.length eo, .slice Fo rz.length fo]) gz rz := ⟨_, _, _, _, rfl, hR0⟩
  clear hR0
  clear m0_ m1_ m2_ m3_ a0_ a1_ i0_ i1_ i2_ i3_ x0_ x1_ z0_ z1_ y0_ y1_ c0_ c1_ d0_ d1_ s0_ s1_ t0_ t1_
  replace HZz := Aside0.mk (blk_below HZz.out hb)
  replace HZy := Aside0.mk (blk_below HZy.out hb)
  replace HZc := Aside0.mk (blk_below HZc.out hb)
  replace HZd := Aside0.mk (blk_below HZd.out hb)
  replace HZs := Aside0.mk (blk_below HZs.out hb)
  replace HZt := Aside0.mk (blk_below HZt.out hb)
  replace HMz := Aside0.mk (HMz.out.below hb)
  replace HMy := Aside0.mk (HMy.out.below hb)
  replace HMc := Aside0.mk (HMc.out.below hb)
  replace HMd := Aside0.mk (HMd.out.below hb)
  replace HMs := Aside0.mk (HMs.out.below hb)
  replace HMt := Aside0.mk (HMt.out.below hb)
  replace HCH := Aside0.mk (HCH.out.step hb)
  replace HB2 := Aside0.mk (below_step HB2.out hb)
  clear hb
  have hgs := heap_alloc_new t9 (.cells #[.slice Eo gz.length eo, .slice Fo rz.length fo] 30)
  have hb := below_alloc (Below.refl t9.heap.size t9) (.cells #[.slice Eo gz.length eo, .slice Fo rz.length fo] 30)
  replace HZz := Aside0.mk (blk_below HZz.out hb)
  replace HZy := Aside0.mk (blk_below HZy.out hb)
  replace HZc := Aside0.mk (blk_below HZc.out hb)
  replace HZd := Aside0.mk (blk_below HZd.out hb)
  replace HZs := Aside0.mk (blk_below HZs.out hb)
  replace HZt := Aside0.mk (blk_below HZt.out hb)
  replace HMz := Aside0.mk (HMz.out.below hb)
  replace HMy := Aside0.mk (HMy.out.below hb)
  replace HMc := Aside0.mk (HMc.out.below hb)
  replace HMd := Aside0.mk (HMd.out.below hb)
  replace HMs := Aside0.mk (HMs.out.below hb)
  replace HMt := Aside0.mk (HMt.out.below hb)
  replace HCH := Aside0.mk (HCH.out.step hb)
  replace HB2 := Aside0.mk (below_step HB2.out hb)
  have HMo := Aside0.mk (hR.below hb)
  clear hb hR
  have HZo := Aside0.mk hgs
  clear hgs
  obtain ⟨m0_, m1_, m2_, m3_⟩ := va4 (blk_below HG0.out HB2.out)
  obtain ⟨⟨a0_, a1_⟩, _, _⟩ := blk2 (blk_below HG1.out HB2.out)
  obtain ⟨i0_, i1_, i2_, i3_⟩ := va4 (blk_below HQ1.out HB2.out)
  obtain ⟨⟨x0_, x1_⟩, _, _⟩ := blk2 (blk_below HQ2.out HB2.out)
  obtain ⟨⟨z0_, z1_⟩, _, _⟩ := blk2 HZz.out
  obtain ⟨⟨y0_, y1_⟩, _, _⟩ := blk2 HZy.out
  obtain ⟨⟨c0_, c1_⟩, _, _⟩ := blk2 HZc.out
  obtain ⟨⟨d0_, d1_⟩, _, _⟩ := blk2 HZd.out
  obtain ⟨⟨s0_, s1_⟩, _, _⟩ := blk2 HZs.out
  obtain ⟨⟨t0_, t1_⟩, _, _⟩ := blk2 HZt.out
  obtain ⟨⟨o0_, o1_⟩, _, _⟩ := blk2 HZo.out
  go_wp2_with fail
  obtain ⟨b9, hq⟩ : ∃ q, t9.heap.size = q := ⟨_, rfl⟩
  obtain ⟨u9, hu2⟩ : ∃ W, t9.alloc (.cells #[.slice Eo gz.length eo, .slice Fo rz.length fo] 30) = W := ⟨_, rfl⟩
  clear m0_ m1_ m2_ m3_ a0_ a1_ i0_ i1_ i2_ i3_ x0_ x1_ z0_ z1_ y0_ y1_ c0_ c1_ d0_ d1_ s0_ s1_ t0_ t1_ o0_ o1_
  rw [hu2] at HZz HZy HZc HZd HZs HZt HZo HMz HMy HMc HMd HMs HMt HMo HB2 HCH ⊢
  rw [hq] at HZo ⊢
  clear hu2 hq
  obtain ⟨m0_, m1_, m2_, m3_⟩ := va4 (blk_below HG0.out HB2.out)
  obtain ⟨⟨a0_, a1_⟩, _, _⟩ := blk2 (blk_below HG1.out HB2.out)
  obtain ⟨i0_, i1_, i2_, i3_⟩ := va4 (blk_below HQ1.out HB2.out)
  obtain ⟨⟨x0_, x1_⟩, _, _⟩ := blk2 (blk_below HQ2.out HB2.out)
  obtain ⟨⟨z0_, z1_⟩, _, _⟩ := blk2 HZz.out
  obtain ⟨⟨y0_, y1_⟩, _, _⟩ := blk2 HZy.out
  obtain ⟨⟨c0_, c1_⟩, _, _⟩ := blk2 HZc.out
  obtain ⟨⟨d0_, d1_⟩, _, _⟩ := blk2 HZd.out
  obtain ⟨⟨s0_, s1_⟩, _, _⟩ := blk2 HZs.out
  obtain ⟨⟨t0_, t1_⟩, _, _⟩ := blk2 HZt.out
  obtain ⟨⟨o0_, o1_⟩, _, _⟩ := blk2 HZo.out
  refine (refSeenB ((Zhm.out.below HB.out).below HB2.out) ((Zh1.out.below HB.out).below HB2.out) l Zwl.out Zwg.out Zwa.out Zn0.out Zn1.out Zs1.out ZSN.out).mono ?_
  rintro e t10 ⟨v, rfl, hL, hb⟩
  obtain ⟨En, en, Fn, fn, rfl, hR0⟩ := hL
  have hR : MemR t10 (.agg #[.slice En gn.length en, .slice Fn rn.length fn]) gn rn := ⟨_, _, _, _, rfl, hR0⟩
  clear hR0
  clear m0_ m1_ m2_ m3_ a0_ a1_ i0_ i1_ i2_ i3_ x0_ x1_ z0_ z1_ y0_ y1_ c0_ c1_ d0_ d1_ s0_ s1_ t0_ t1_ o0_ o1_
  replace HZz := Aside0.mk (blk_below HZz.out hb)
  replace HZy := Aside0.mk (blk_below HZy.out hb)
  replace HZc := Aside0.mk (blk_below HZc.out hb)
  replace HZd := Aside0.mk (blk_below HZd.out hb)
  replace HZs := Aside0.mk (blk_below HZs.out hb)
  replace HZt := Aside0.mk (blk_below HZt.out hb)
  replace HZo := Aside0.mk (blk_below HZo.out hb)
  replace HMz := Aside0.mk (HMz.out.below hb)
  replace HMy := Aside0.mk (HMy.out.below hb)
  replace HMc := Aside0.mk (HMc.out.below hb)
  replace HMd := Aside0.mk (HMd.out.below hb)
  replace HMs := Aside0.mk (HMs.out.below hb)
  replace HMt := Aside0.mk (HMt.out.below hb)
  replace HMo := Aside0.mk (HMo.out.below hb)
  replace HCH := Aside0.mk (HCH.out.step hb)
  replace HB2 := Aside0.mk (below_step HB2.out hb)
  clear hb
  have hgs := heap_alloc_new t10 (.cells #[.slice En gn.length en, .slice Fn rn.length fn] 30)
  have hb := below_alloc (Below.refl t10.heap.size t10) (.cells #[.slice En gn.length en, .slice Fn rn.length fn] 30)
  replace HZz := Aside0.mk (blk_below HZz.out hb)
  replace HZy := Aside0.mk (blk_below HZy.out hb)
  replace HZc := Aside0.mk (blk_below HZc.out hb)
  replace HZd := Aside0.mk (blk_below HZd.out hb)
  replace HZs := Aside0.mk (blk_below HZs.out hb)
  replace HZt := Aside0.mk (blk_below HZt.out hb)
  replace HZo := Aside0.mk (blk_below HZo.out hb)
  replace HMz := Aside0.mk (HMz.out.below hb)
  replace HMy := Aside0.mk (HMy.out.below hb)
  replace HMc := Aside0.mk (HMc.out.below hb)
  replace HMd := Aside0.mk (HMd.out.below hb)
  replace HMs := Aside0.mk (HMs.out.below hb)
  replace HMt := Aside0.mk (HMt.out.below hb)
  replace HMo := Aside0.mk (HMo.out.below hb)
  replace HCH := Aside0.mk (HCH.out.step hb)
  replace HB2 := Aside0.mk (below_step HB2.out hb)
  have HMn := Aside0.mk (hR.below hb)
  clear hb hR
  have HZn := Aside0.mk hgs
  clear hgs
  obtain ⟨m0_, m1_, m2_, m3_⟩ := va4 (blk_below HG0.out HB2.out)
  obtain ⟨⟨a0_, a1_⟩, _, _⟩ := blk2 (blk_below HG1.out HB2.out)
  obtain ⟨i0_, i1_, i2_, i3_⟩ := va4 (blk_below HQ1.out HB2.out)
  obtain ⟨⟨x0_, x1_⟩, _, _⟩ := blk2 (blk_below HQ2.out HB2.out)
  obtain ⟨⟨z0_, z1_⟩, _, _⟩ := blk2 HZz.out
  obtain ⟨⟨y0_, y1_⟩, _, _⟩ := blk2 HZy.out
  obtain ⟨⟨c0_, c1_⟩, _, _⟩ := blk2 HZc.out
  obtain ⟨⟨d0_, d1_⟩, _, _⟩ := blk2 HZd.out
  obtain ⟨⟨s0_, s1_⟩, _, _⟩ := blk2 HZs.out
  obtain ⟨⟨t0_, t1_⟩, _, _⟩ := blk2 HZt.out
  obtain ⟨⟨o0_, o1_⟩, _, _⟩ := blk2 HZo.out
  obtain ⟨⟨n0_, n1_⟩, _, _⟩ := blk2 HZn.out
  go_wp2_with fail
  obtain ⟨b10, hq⟩ : ∃ q, t10.heap.size = q := ⟨_, rfl⟩
  obtain ⟨u10, hu2⟩ : ∃ W, t10.alloc (.cells #[.slice En gn.length en, .slice Fn rn.length fn] 30) = W := ⟨_, rfl⟩
  clear m0_ m1_ m2_ m3_ a0_ a1_ i0_ i1_ i2_ i3_ x0_ x1_ z0_ z1_ y0_ y1_ c0_ c1_ d0_ d1_ s0_ s1_ t0_ t1_ o0_ o1_ n0_ n1_
  rw [hu2] at HZz HZy HZc HZd HZs HZt HZo HZn HMz HMy HMc HMd HMs HMt HMo HMn HB2 HCH ⊢
  rw [hq] at HZn ⊢
  clear hu2 hq
  obtain ⟨m0_, m1_, m2_, m3_⟩ := va4 (blk_below HG0.out HB2.out)
  obtain ⟨⟨a0_, a1_⟩, _, _⟩ := blk2 (blk_below HG1.out HB2.out)
  obtain ⟨i0_, i1_, i2_, i3_⟩ := va4 (blk_below HQ1.out HB2.out)
  obtain ⟨⟨x0_, x1_⟩, _, _⟩ := blk2 (blk_below HQ2.out HB2.out)
  obtain ⟨⟨z0_, z1_⟩, _, _⟩ := blk2 HZz.out
  obtain ⟨⟨y0_, y1_⟩, _, _⟩ := blk2 HZy.out
  obtain ⟨⟨c0_, c1_⟩, _, _⟩ := blk2 HZc.out
  obtain ⟨⟨d0_, d1_⟩, _, _⟩ := blk2 HZd.out
  obtain ⟨⟨s0_, s1_⟩, _, _⟩ := blk2 HZs.out
  obtain ⟨⟨t0_, t1_⟩, _, _⟩ := blk2 HZt.out
  obtain ⟨⟨o0_, o1_⟩, _, _⟩ := blk2 HZo.out
  obtain ⟨⟨n0_, n1_⟩, _, _⟩ := blk2 HZn.out
  have HV := Aside0.mk (Below.refl u10.heap.size u10)
  refine start_ (n := 43) (S := fun w' => w'.cell? ⟨w.heap.size, 0, none⟩ = some (.slice A0 gs.length c0) ∧ w'.cell? ⟨w.heap.size, 1, none⟩ = some (.slice A1 arr.length c1) ∧ w'.cell? ⟨w.heap.size, 2, none⟩ = some (.slice A2 l2.length c2) ∧ w'.cell? ⟨w.heap.size, 3, none⟩ = some (.slice A3 l3.length c3) ∧ w'.cell? ⟨w.heap.size + 1, 0, none⟩ = some (.slice P1 g1.length p1) ∧ w'.cell? ⟨w.heap.size + 1, 1, none⟩ = some (.slice Q1 r1.length q1) ∧ w'.cell? ⟨b1, 0, none⟩ = some (.slice K0 gs.length k0) ∧ w'.cell? ⟨b1, 1, none⟩ = some (.slice K1 arr.length k1) ∧ w'.cell? ⟨b1, 2, none⟩ = some (.slice K2 l2.length k2) ∧ w'.cell? ⟨b1, 3, none⟩ = some (.slice K3 l3.length k3) ∧ w'.cell? ⟨b2, 0, none⟩ = some (.slice X1 g1.length x1) ∧ w'.cell? ⟨b2, 1, none⟩ = some (.slice Y1 r1.length y1) ∧ w'.cell? ⟨b3, 0, none⟩ = some (.slice Ez gz.length gz.length) ∧ w'.cell? ⟨b3, 1, none⟩ = some (.slice Fz rz.length rz.length) ∧ w'.cell? ⟨b4, 0, none⟩ = some (.slice Ey gz.length gz.length) ∧ w'.cell? ⟨b4, 1, none⟩ = some (.slice Fy rz.length rz.length) ∧ w'.cell? ⟨b5, 0, none⟩ = some (.slice Ec g1.length g1.length) ∧ w'.cell? ⟨b5, 1, none⟩ = some (.slice Fc r1.length r1.length) ∧ w'.cell? ⟨b6, 0, none⟩ = some (.slice Ed g1.length g1.length) ∧ w'.cell? ⟨b6, 1, none⟩ = some (.slice Fd r1.length r1.length) ∧ w'.cell? ⟨b7, 0, none⟩ = some (.slice Es gn.length gn.length) ∧ w'.cell? ⟨b7, 1, none⟩ = some (.slice Fs rn.length rn.length) ∧ w'.cell? ⟨b8, 0, none⟩ = some (.slice Et gn.length gn.length) ∧ w'.cell? ⟨b8, 1, none⟩ = some (.slice Ft rn.length rn.length) ∧ w'.cell? ⟨b9, 0, none⟩ = some (.slice Eo gz.length eo) ∧ w'.cell? ⟨b9, 1, none⟩ = some (.slice Fo rz.length fo) ∧ w'.cell? ⟨b10, 0, none⟩ = some (.slice En gn.length en) ∧ w'.cell? ⟨b10, 1, none⟩ = some (.slice Fn rn.length fn)) (ds := []) #[false, false, false, false, false, false, false, false, false, false, false, false, false, false, false, false, false, false, false, false, false, false, false, false, false, false, false, false, false, false, false, false, false, false, false, false, false, false, false, false, false, false, false] (by kernel_rfl) rfl rfl ⟨m0_, m1_, m2_, m3_, a0_, a1_, i0_, i1_, i2_, i3_, x0_, x1_, z0_, z1_, y0_, y1_, c0_, c1_, d0_, d1_, s0_, s1_, t0_, t1_, o0_, o1_, n0_, n1_⟩ (fun hHeld => ?_)
  refine take_ (i := 0) (N := some 43) (v := ?_) (a' := ?_) #[true, false, false, false, false, false, false, false, false, false, false, false, false, false, false, false, false, false, false, false, false, false, false, false, false, false, false, false, false, false, false, false, false, false, false, false, false, false, false, false, false, false, false] rfl rfl (by kernel_rfl) (fun _ _ _ h => h) (Or.inl ⟨by rfl, ?_⟩) hHeld ?_ ?_
  rotate_left
  · rintro w' ⟨s0, s1, s2, s3, s4, s5, s6, s7, s8, s9, s10, s11, s12, s13, s14, s15, s16, s17, s18, s19, s20, s21, s22, s23, s24, s25, s26, s27⟩
    go_simp
    with_reducible rfl
  rotate_left
  · simp only [Act.put, List.setIfInBounds_toArray, List.set_cons_zero, List.set_cons_succ, i64_w, i32_w]
    rfl
  refine take_ (i := 1) (N := some 44) (v := ?_) (a' := ?_) #[true, true, false, false, false, false, false, false, false, false, false, false, false, false, false, false, false, false, false, false, false, false, false, false, false, false, false, false, false, false, false, false, false, false, false, false, false, false, false, false, false, false, false] rfl rfl (by kernel_rfl) (fun _ _ _ h => h) (Or.inl ⟨by rfl, ?_⟩) hHeld ?_ ?_
  rotate_left
  · rintro w' ⟨s0, s1, s2, s3, s4, s5, s6, s7, s8, s9, s10, s11, s12, s13, s14, s15, s16, s17, s18, s19, s20, s21, s22, s23, s24, s25, s26, s27⟩
    go_simp
    with_reducible rfl
  rotate_left
  · simp only [Act.put, List.setIfInBounds_toArray, List.set_cons_zero, List.set_cons_succ, i64_w, i32_w]
    rfl
  refine take_ (i := 3) (N := some 46) (v := ?_) (a' := ?_) #[true, true, false, true, false, false, false, false, false, false, false, false, false, false, false, false, false, false, false, false, false, false, false, false, false, false, false, false, false, false, false, false, false, false, false, false, false, false, false, false, false, false, false] rfl rfl (by kernel_rfl) (fun _ _ _ h => h) (Or.inl ⟨by rfl, ?_⟩) hHeld ?_ ?_
  rotate_left
  · rintro w' ⟨s0, s1, s2, s3, s4, s5, s6, s7, s8, s9, s10, s11, s12, s13, s14, s15, s16, s17, s18, s19, s20, s21, s22, s23, s24, s25, s26, s27⟩
    go_simp
    with_reducible rfl
  rotate_left
  · simp only [Act.put, List.setIfInBounds_toArray, List.set_cons_zero, List.set_cons_succ, i64_w, i32_w]
    rfl
  refine take_ (i := 4) (N := some 47) (v := ?_) (a' := ?_) #[true, true, false, true, true, false, false, false, false, false, false, false, false, false, false, false, false, false, false, false, false, false, false, false, false, false, false, false, false, false, false, false, false, false, false, false, false, false, false, false, false, false, false] rfl rfl (by kernel_rfl) (fun _ _ _ h => h) (Or.inl ⟨by rfl, ?_⟩) hHeld ?_ ?_
  rotate_left
  · rintro w' ⟨s0, s1, s2, s3, s4, s5, s6, s7, s8, s9, s10, s11, s12, s13, s14, s15, s16, s17, s18, s19, s20, s21, s22, s23, s24, s25, s26, s27⟩
    go_simp
    with_reducible rfl
  rotate_left
  · simp only [Act.put, List.setIfInBounds_toArray, List.set_cons_zero, List.set_cons_succ, i64_w, i32_w]
    rfl
  refine one_ (i := 2) (N := some 45) #[true, true, true, true, true, false, false, false, false, false, false, false, false, false, false, false, false, false, false, false, false, false, false, false, false, false, false, false, false, false, false, false, false, false, false, false, false, false, false, false, false, false, false] rfl rfl (by kernel_rfl) (by decide) (fun K hK => ?_)
  refine goes_ Try.func14 (by kernel_rfl) rfl #[.agg #[.slice K0 gs.length k0, .slice K1 arr.length k1, .slice K2 l2.length k2, .slice K3 l3.length k3], .agg #[.slice X1 g1.length x1, .slice Y1 r1.length y1]] (by rfl) rfl rfl (by simp only [List.map_toArray, List.map_cons, List.map_nil]; rfl) ?_
  with_reducible refine (fitsC (HK1.out.below (below_step HB2.out (show Below u10.heap.size u10 u10.drew from below_drew1 (Below.refl _ _)))).modR (HK2.out.below (below_step HB2.out (show Below u10.heap.size u10 u10.drew from below_drew1 (Below.refl _ _)))).memR).mono ?_
  rintro e v1 ⟨rfl, hb⟩
  refine ⟨_, rfl, ?_⟩
  replace hb : Below u10.heap.size u10 _ := ⟨hb.os, hb.tape, hb.output, hb.size, hb.block⟩
  rw [ZFB.out]
  replace HV := Aside0.mk (below_step HV.out hb)
  refine hK.out _ _ ⟨(pw_cell_below hb hHeld.1), (pw_cell_below hb hHeld.2.1), (pw_cell_below hb hHeld.2.2.1), (pw_cell_below hb hHeld.2.2.2.1), (pw_cell_below hb hHeld.2.2.2.2.1), (pw_cell_below hb hHeld.2.2.2.2.2.1), (pw_cell_below hb hHeld.2.2.2.2.2.2.1), (pw_cell_below hb hHeld.2.2.2.2.2.2.2.1), (pw_cell_below hb hHeld.2.2.2.2.2.2.2.2.1), (pw_cell_below hb hHeld.2.2.2.2.2.2.2.2.2.1), (pw_cell_below hb hHeld.2.2.2.2.2.2.2.2.2.2.1), (pw_cell_below hb hHeld.2.2.2.2.2.2.2.2.2.2.2.1), (pw_cell_below hb hHeld.2.2.2.2.2.2.2.2.2.2.2.2.1), (pw_cell_below hb hHeld.2.2.2.2.2.2.2.2.2.2.2.2.2.1), (pw_cell_below hb hHeld.2.2.2.2.2.2.2.2.2.2.2.2.2.2.1), (pw_cell_below hb hHeld.2.2.2.2.2.2.2.2.2.2.2.2.2.2.2.1), (pw_cell_below hb hHeld.2.2.2.2.2.2.2.2.2.2.2.2.2.2.2.2.1), (pw_cell_below hb hHeld.2.2.2.2.2.2.2.2.2.2.2.2.2.2.2.2.2.1), (pw_cell_below hb hHeld.2.2.2.2.2.2.2.2.2.2.2.2.2.2.2.2.2.2.1), (pw_cell_below hb hHeld.2.2.2.2.2.2.2.2.2.2.2.2.2.2.2.2.2.2.2.1), (pw_cell_below hb hHeld.2.2.2.2.2.2.2.2.2.2.2.2.2.2.2.2.2.2.2.2.1), (pw_cell_below hb hHeld.2.2.2.2.2.2.2.2.2.2.2.2.2.2.2.2.2.2.2.2.2.1), (pw_cell_below hb hHeld.2.2.2.2.2.2.2.2.2.2.2.2.2.2.2.2.2.2.2.2.2.2.1), (pw_cell_below hb hHeld.2.2.2.2.2.2.2.2.2.2.2.2.2.2.2.2.2.2.2.2.2.2.2.1), (pw_cell_below hb hHeld.2.2.2.2.2.2.2.2.2.2.2.2.2.2.2.2.2.2.2.2.2.2.2.2.1), (pw_cell_below hb hHeld.2.2.2.2.2.2.2.2.2.2.2.2.2.2.2.2.2.2.2.2.2.2.2.2.2.1), (pw_cell_below hb hHeld.2.2.2.2.2.2.2.2.2.2.2.2.2.2.2.2.2.2.2.2.2.2.2.2.2.2.1), (pw_cell_below hb hHeld.2.2.2.2.2.2.2.2.2.2.2.2.2.2.2.2.2.2.2.2.2.2.2.2.2.2.2)⟩ (fun hHeld => ?_)
  clear hK K
  refine norm_ (a' := ?_) ?_ ?_
  rotate_left
  · show Act.put _ (some 45) _ = _
    simp only [Act.put, List.setIfInBounds_toArray, List.set_cons_zero, List.set_cons_succ, i64_w, i32_w]
    rfl
  refine one_ (i := 5) (N := some 48) #[true, true, true, true, true, true, false, false, false, false, false, false, false, false, false, false, false, false, false, false, false, false, false, false, false, false, false, false, false, false, false, false, false, false, false, false, false, false, false, false, false, false, false] rfl rfl (by kernel_rfl) (by decide) (fun K hK => ?_)
  refine goes_ Try.func15 (by kernel_rfl) rfl #[.agg #[.slice A0 gs.length c0, .slice A1 arr.length c1, .slice A2 l2.length c2, .slice A3 l3.length c3], .agg #[.slice P1 g1.length p1, .slice Q1 r1.length q1]] (by rfl) rfl rfl (by simp only [List.map_toArray, List.map_cons, List.map_nil]; rfl) ?_
  with_reducible refine (refFitsB ((Zhm.out.below HB.out).below (below_step HB2.out HV.out)) ((Zh1.out.below HB.out).below (below_step HB2.out HV.out))).mono ?_
  rintro e v2 ⟨rfl, hb⟩
  refine ⟨_, rfl, ?_⟩
  rw [ZFB.out]
  replace HV := Aside0.mk (below_step HV.out hb)
  refine hK.out _ _ ⟨(pw_cell_below hb hHeld.1), (pw_cell_below hb hHeld.2.1), (pw_cell_below hb hHeld.2.2.1), (pw_cell_below hb hHeld.2.2.2.1), (pw_cell_below hb hHeld.2.2.2.2.1), (pw_cell_below hb hHeld.2.2.2.2.2.1), (pw_cell_below hb hHeld.2.2.2.2.2.2.1), (pw_cell_below hb hHeld.2.2.2.2.2.2.2.1), (pw_cell_below hb hHeld.2.2.2.2.2.2.2.2.1), (pw_cell_below hb hHeld.2.2.2.2.2.2.2.2.2.1), (pw_cell_below hb hHeld.2.2.2.2.2.2.2.2.2.2.1), (pw_cell_below hb hHeld.2.2.2.2.2.2.2.2.2.2.2.1), (pw_cell_below hb hHeld.2.2.2.2.2.2.2.2.2.2.2.2.1), (pw_cell_below hb hHeld.2.2.2.2.2.2.2.2.2.2.2.2.2.1), (pw_cell_below hb hHeld.2.2.2.2.2.2.2.2.2.2.2.2.2.2.1), (pw_cell_below hb hHeld.2.2.2.2.2.2.2.2.2.2.2.2.2.2.2.1), (pw_cell_below hb hHeld.2.2.2.2.2.2.2.2.2.2.2.2.2.2.2.2.1), (pw_cell_below hb hHeld.2.2.2.2.2.2.2.2.2.2.2.2.2.2.2.2.2.1), (pw_cell_below hb hHeld.2.2.2.2.2.2.2.2.2.2.2.2.2.2.2.2.2.2.1), (pw_cell_below hb hHeld.2.2.2.2.2.2.2.2.2.2.2.2.2.2.2.2.2.2.2.1), (pw_cell_below hb hHeld.2.2.2.2.2.2.2.2.2.2.2.2.2.2.2.2.2.2.2.2.1), (pw_cell_below hb hHeld.2.2.2.2.2.2.2.2.2.2.2.2.2.2.2.2.2.2.2.2.2.1), (pw_cell_below hb hHeld.2.2.2.2.2.2.2.2.2.2.2.2.2.2.2.2.2.2.2.2.2.2.1), (pw_cell_below hb hHeld.2.2.2.2.2.2.2.2.2.2.2.2.2.2.2.2.2.2.2.2.2.2.2.1), (pw_cell_below hb hHeld.2.2.2.2.2.2.2.2.2.2.2.2.2.2.2.2.2.2.2.2.2.2.2.2.1), (pw_cell_below hb hHeld.2.2.2.2.2.2.2.2.2.2.2.2.2.2.2.2.2.2.2.2.2.2.2.2.2.1), (pw_cell_below hb hHeld.2.2.2.2.2.2.2.2.2.2.2.2.2.2.2.2.2.2.2.2.2.2.2.2.2.2.1), (pw_cell_below hb hHeld.2.2.2.2.2.2.2.2.2.2.2.2.2.2.2.2.2.2.2.2.2.2.2.2.2.2.2)⟩ (fun hHeld => ?_)
  clear hK K
  refine norm_ (a' := ?_) ?_ ?_
  rotate_left
  · show Act.put _ (some 48) _ = _
    simp only [Act.put, List.setIfInBounds_toArray, List.set_cons_zero, List.set_cons_succ, i64_w, i32_w]
    rfl
  refine pure_ (i := 6) (N := some 49) (v := ?_) (a' := ?_) #[true, true, true, true, true, true, true, false, false, false, false, false, false, false, false, false, false, false, false, false, false, false, false, false, false, false, false, false, false, false, false, false, false, false, false, false, false, false, false, false, false, false, false] rfl rfl (by kernel_rfl) (fun _ _ _ h => h) (Or.inl ⟨by rfl, ?_⟩) ?_ ?_
  rotate_left
  · intro w'
    go_simp
    with_reducible rfl
  rotate_left
  · simp only [Act.put, List.setIfInBounds_toArray, List.set_cons_zero, List.set_cons_succ, i64_w, i32_w]
    rfl
  refine pure_ (i := 7) (N := some 50) (v := ?_) (a' := ?_) #[true, true, true, true, true, true, true, true, false, false, false, false, false, false, false, false, false, false, false, false, false, false, false, false, false, false, false, false, false, false, false, false, false, false, false, false, false, false, false, false, false, false, false] rfl rfl (by kernel_rfl) (fun _ _ _ h => h) (Or.inl ⟨by rfl, ?_⟩) ?_ ?_
  rotate_left
  · intro w'
    go_simp
    with_reducible rfl
  rotate_left
  · simp only [Act.put, List.setIfInBounds_toArray, List.set_cons_zero, List.set_cons_succ, i64_w, i32_w]
    rfl
  refine take_ (i := 8) (N := some 51) (v := ?_) (a' := ?_) #[true, true, true, true, true, true, true, true, true, false, false, false, false, false, false, false, false, false, false, false, false, false, false, false, false, false, false, false, false, false, false, false, false, false, false, false, false, false, false, false, false, false, false] rfl rfl (by kernel_rfl) (fun _ _ _ h => h) (Or.inl ⟨by rfl, ?_⟩) hHeld ?_ ?_
  rotate_left
  · rintro w' ⟨s0, s1, s2, s3, s4, s5, s6, s7, s8, s9, s10, s11, s12, s13, s14, s15, s16, s17, s18, s19, s20, s21, s22, s23, s24, s25, s26, s27⟩
    go_simp
    with_reducible rfl
  rotate_left
  · simp only [Act.put, List.setIfInBounds_toArray, List.set_cons_zero, List.set_cons_succ, i64_w, i32_w]
    rfl
  refine take_ (i := 9) (N := some 52) (v := ?_) (a' := ?_) #[true, true, true, true, true, true, true, true, true, true, false, false, false, false, false, false, false, false, false, false, false, false, false, false, false, false, false, false, false, false, false, false, false, false, false, false, false, false, false, false, false, false, false] rfl rfl (by kernel_rfl) (fun _ _ _ h => h) (Or.inl ⟨by rfl, ?_⟩) hHeld ?_ ?_
  rotate_left
  · rintro w' ⟨s0, s1, s2, s3, s4, s5, s6, s7, s8, s9, s10, s11, s12, s13, s14, s15, s16, s17, s18, s19, s20, s21, s22, s23, s24, s25, s26, s27⟩
    go_simp
    with_reducible rfl
  rotate_left
  · simp only [Act.put, List.setIfInBounds_toArray, List.set_cons_zero, List.set_cons_succ, i64_w, i32_w]
    rfl
  refine one_ (i := 10) (N := some 53) #[true, true, true, true, true, true, true, true, true, true, true, false, false, false, false, false, false, false, false, false, false, false, false, false, false, false, false, false, false, false, false, false, false, false, false, false, false, false, false, false, false, false, false] rfl rfl (by kernel_rfl) (by decide) (fun K hK => ?_)
  refine goes_ Try.func16 (by kernel_rfl) rfl #[.agg #[.slice Ez gz.length gz.length, .slice Fz rz.length rz.length], .agg #[.slice Eo gz.length eo, .slice Fo rz.length fo]] (by rfl) rfl rfl (by simp only [List.map_toArray, List.map_cons, List.map_nil]; rfl) ?_
  with_reducible refine (memoryC (HMz.out.below HV.out) (HMo.out.below HV.out) 1048576 (by omega) ZSZ.out).mono ?_
  rintro e v5 ⟨rfl, hb⟩
  refine ⟨_, rfl, ?_⟩
  rw [sameB_refl]
  replace HV := Aside0.mk (below_step HV.out hb)
  refine hK.out _ _ ⟨(pw_cell_below hb hHeld.1), (pw_cell_below hb hHeld.2.1), (pw_cell_below hb hHeld.2.2.1), (pw_cell_below hb hHeld.2.2.2.1), (pw_cell_below hb hHeld.2.2.2.2.1), (pw_cell_below hb hHeld.2.2.2.2.2.1), (pw_cell_below hb hHeld.2.2.2.2.2.2.1), (pw_cell_below hb hHeld.2.2.2.2.2.2.2.1), (pw_cell_below hb hHeld.2.2.2.2.2.2.2.2.1), (pw_cell_below hb hHeld.2.2.2.2.2.2.2.2.2.1), (pw_cell_below hb hHeld.2.2.2.2.2.2.2.2.2.2.1), (pw_cell_below hb hHeld.2.2.2.2.2.2.2.2.2.2.2.1), (pw_cell_below hb hHeld.2.2.2.2.2.2.2.2.2.2.2.2.1), (pw_cell_below hb hHeld.2.2.2.2.2.2.2.2.2.2.2.2.2.1), (pw_cell_below hb hHeld.2.2.2.2.2.2.2.2.2.2.2.2.2.2.1), (pw_cell_below hb hHeld.2.2.2.2.2.2.2.2.2.2.2.2.2.2.2.1), (pw_cell_below hb hHeld.2.2.2.2.2.2.2.2.2.2.2.2.2.2.2.2.1), (pw_cell_below hb hHeld.2.2.2.2.2.2.2.2.2.2.2.2.2.2.2.2.2.1), (pw_cell_below hb hHeld.2.2.2.2.2.2.2.2.2.2.2.2.2.2.2.2.2.2.1), (pw_cell_below hb hHeld.2.2.2.2.2.2.2.2.2.2.2.2.2.2.2.2.2.2.2.1), (pw_cell_below hb hHeld.2.2.2.2.2.2.2.2.2.2.2.2.2.2.2.2.2.2.2.2.1), (pw_cell_below hb hHeld.2.2.2.2.2.2.2.2.2.2.2.2.2.2.2.2.2.2.2.2.2.1), (pw_cell_below hb hHeld.2.2.2.2.2.2.2.2.2.2.2.2.2.2.2.2.2.2.2.2.2.2.1), (pw_cell_below hb hHeld.2.2.2.2.2.2.2.2.2.2.2.2.2.2.2.2.2.2.2.2.2.2.2.1), (pw_cell_below hb hHeld.2.2.2.2.2.2.2.2.2.2.2.2.2.2.2.2.2.2.2.2.2.2.2.2.1), (pw_cell_below hb hHeld.2.2.2.2.2.2.2.2.2.2.2.2.2.2.2.2.2.2.2.2.2.2.2.2.2.1), (pw_cell_below hb hHeld.2.2.2.2.2.2.2.2.2.2.2.2.2.2.2.2.2.2.2.2.2.2.2.2.2.2.1), (pw_cell_below hb hHeld.2.2.2.2.2.2.2.2.2.2.2.2.2.2.2.2.2.2.2.2.2.2.2.2.2.2.2)⟩ (fun hHeld => ?_)
  clear hK K
  refine norm_ (a' := ?_) ?_ ?_
  rotate_left
  · show Act.put _ (some 53) _ = _
    simp only [Act.put, List.setIfInBounds_toArray, List.set_cons_zero, List.set_cons_succ, i64_w, i32_w]
    rfl
  refine pure_ (i := 11) (N := some 54) (v := ?_) (a' := ?_) #[true, true, true, true, true, true, true, true, true, true, true, true, false, false, false, false, false, false, false, false, false, false, false, false, false, false, false, false, false, false, false, false, false, false, false, false, false, false, false, false, false, false, false] rfl rfl (by kernel_rfl) (fun _ _ _ h => h) (Or.inl ⟨by rfl, ?_⟩) ?_ ?_
  rotate_left
  · intro w'
    go_simp
    with_reducible rfl
  rotate_left
  · simp only [Act.put, List.setIfInBounds_toArray, List.set_cons_zero, List.set_cons_succ, i64_w, i32_w]
    rfl
  refine pure_ (i := 12) (N := some 55) (v := ?_) (a' := ?_) #[true, true, true, true, true, true, true, true, true, true, true, true, true, false, false, false, false, false, false, false, false, false, false, false, false, false, false, false, false, false, false, false, false, false, false, false, false, false, false, false, false, false, false] rfl rfl (by kernel_rfl) (fun _ _ _ h => h) (Or.inl ⟨by rfl, ?_⟩) ?_ ?_
  rotate_left
  · intro w'
    go_simp
    with_reducible rfl
  rotate_left
  · simp only [Act.put, List.setIfInBounds_toArray, List.set_cons_zero, List.set_cons_succ, i64_w, i32_w]
    rfl
  refine pure_ (i := 13) (N := some 56) (v := ?_) (a' := ?_) #[true, true, true, true, true, true, true, true, true, true, true, true, true, true, false, false, false, false, false, false, false, false, false, false, false, false, false, false, false, false, false, false, false, false, false, false, false, false, false, false, false, false, false] rfl rfl (by kernel_rfl) (fun _ _ _ h => h) (Or.inl ⟨by rfl, ?_⟩) ?_ ?_
  rotate_left
  · intro w'
    go_simp
    with_reducible rfl
  rotate_left
  · simp only [Act.put, List.setIfInBounds_toArray, List.set_cons_zero, List.set_cons_succ, i64_w, i32_w]
    rfl
  refine take_ (i := 14) (N := some 57) (v := ?_) (a' := ?_) #[true, true, true, true, true, true, true, true, true, true, true, true, true, true, true, false, false, false, false, false, false, false, false, false, false, false, false, false, false, false, false, false, false, false, false, false, false, false, false, false, false, false, false] rfl rfl (by kernel_rfl) (fun _ _ _ h => h) (Or.inl ⟨by rfl, ?_⟩) hHeld ?_ ?_
  rotate_left
  · rintro w' ⟨s0, s1, s2, s3, s4, s5, s6, s7, s8, s9, s10, s11, s12, s13, s14, s15, s16, s17, s18, s19, s20, s21, s22, s23, s24, s25, s26, s27⟩
    go_simp
    with_reducible rfl
  rotate_left
  · simp only [Act.put, List.setIfInBounds_toArray, List.set_cons_zero, List.set_cons_succ, i64_w, i32_w]
    rfl
  refine take_ (i := 15) (N := some 58) (v := ?_) (a' := ?_) #[true, true, true, true, true, true, true, true, true, true, true, true, true, true, true, true, false, false, false, false, false, false, false, false, false, false, false, false, false, false, false, false, false, false, false, false, false, false, false, false, false, false, false] rfl rfl (by kernel_rfl) (fun _ _ _ h => h) (Or.inl ⟨by rfl, ?_⟩) hHeld ?_ ?_
  rotate_left
  · rintro w' ⟨s0, s1, s2, s3, s4, s5, s6, s7, s8, s9, s10, s11, s12, s13, s14, s15, s16, s17, s18, s19, s20, s21, s22, s23, s24, s25, s26, s27⟩
    go_simp
    with_reducible rfl
  rotate_left
  · simp only [Act.put, List.setIfInBounds_toArray, List.set_cons_zero, List.set_cons_succ, i64_w, i32_w]
    rfl
  refine one_ (i := 16) (N := some 59) #[true, true, true, true, true, true, true, true, true, true, true, true, true, true, true, true, true, false, false, false, false, false, false, false, false, false, false, false, false, false, false, false, false, false, false, false, false, false, false, false, false, false, false] rfl rfl (by kernel_rfl) (by decide) (fun K hK => ?_)
  refine goes_ Try.func16 (by kernel_rfl) rfl #[.agg #[.slice Ey gz.length gz.length, .slice Fy rz.length rz.length], .agg #[.slice Eo gz.length eo, .slice Fo rz.length fo]] (by rfl) rfl rfl (by simp only [List.map_toArray, List.map_cons, List.map_nil]; rfl) ?_
  with_reducible refine (memoryC (HMy.out.below HV.out) (HMo.out.below HV.out) 1048576 (by omega) ZSZ.out).mono ?_
  rintro e v6 ⟨rfl, hb⟩
  refine ⟨_, rfl, ?_⟩
  rw [sameB_refl]
  replace HV := Aside0.mk (below_step HV.out hb)
  refine hK.out _ _ ⟨(pw_cell_below hb hHeld.1), (pw_cell_below hb hHeld.2.1), (pw_cell_below hb hHeld.2.2.1), (pw_cell_below hb hHeld.2.2.2.1), (pw_cell_below hb hHeld.2.2.2.2.1), (pw_cell_below hb hHeld.2.2.2.2.2.1), (pw_cell_below hb hHeld.2.2.2.2.2.2.1), (pw_cell_below hb hHeld.2.2.2.2.2.2.2.1), (pw_cell_below hb hHeld.2.2.2.2.2.2.2.2.1), (pw_cell_below hb hHeld.2.2.2.2.2.2.2.2.2.1), (pw_cell_below hb hHeld.2.2.2.2.2.2.2.2.2.2.1), (pw_cell_below hb hHeld.2.2.2.2.2.2.2.2.2.2.2.1), (pw_cell_below hb hHeld.2.2.2.2.2.2.2.2.2.2.2.2.1), (pw_cell_below hb hHeld.2.2.2.2.2.2.2.2.2.2.2.2.2.1), (pw_cell_below hb hHeld.2.2.2.2.2.2.2.2.2.2.2.2.2.2.1), (pw_cell_below hb hHeld.2.2.2.2.2.2.2.2.2.2.2.2.2.2.2.1), (pw_cell_below hb hHeld.2.2.2.2.2.2.2.2.2.2.2.2.2.2.2.2.1), (pw_cell_below hb hHeld.2.2.2.2.2.2.2.2.2.2.2.2.2.2.2.2.2.1), (pw_cell_below hb hHeld.2.2.2.2.2.2.2.2.2.2.2.2.2.2.2.2.2.2.1), (pw_cell_below hb hHeld.2.2.2.2.2.2.2.2.2.2.2.2.2.2.2.2.2.2.2.1), (pw_cell_below hb hHeld.2.2.2.2.2.2.2.2.2.2.2.2.2.2.2.2.2.2.2.2.1), (pw_cell_below hb hHeld.2.2.2.2.2.2.2.2.2.2.2.2.2.2.2.2.2.2.2.2.2.1), (pw_cell_below hb hHeld.2.2.2.2.2.2.2.2.2.2.2.2.2.2.2.2.2.2.2.2.2.2.1), (pw_cell_below hb hHeld.2.2.2.2.2.2.2.2.2.2.2.2.2.2.2.2.2.2.2.2.2.2.2.1), (pw_cell_below hb hHeld.2.2.2.2.2.2.2.2.2.2.2.2.2.2.2.2.2.2.2.2.2.2.2.2.1), (pw_cell_below hb hHeld.2.2.2.2.2.2.2.2.2.2.2.2.2.2.2.2.2.2.2.2.2.2.2.2.2.1), (pw_cell_below hb hHeld.2.2.2.2.2.2.2.2.2.2.2.2.2.2.2.2.2.2.2.2.2.2.2.2.2.2.1), (pw_cell_below hb hHeld.2.2.2.2.2.2.2.2.2.2.2.2.2.2.2.2.2.2.2.2.2.2.2.2.2.2.2)⟩ (fun hHeld => ?_)
  clear hK K
  refine norm_ (a' := ?_) ?_ ?_
  rotate_left
  · show Act.put _ (some 59) _ = _
    simp only [Act.put, List.setIfInBounds_toArray, List.set_cons_zero, List.set_cons_succ, i64_w, i32_w]
    rfl
  refine pure_ (i := 17) (N := some 60) (v := ?_) (a' := ?_) #[true, true, true, true, true, true, true, true, true, true, true, true, true, true, true, true, true, true, false, false, false, false, false, false, false, false, false, false, false, false, false, false, false, false, false, false, false, false, false, false, false, false, false] rfl rfl (by kernel_rfl) (fun _ _ _ h => h) (Or.inl ⟨by rfl, ?_⟩) ?_ ?_
  rotate_left
  · intro w'
    go_simp
    with_reducible rfl
  rotate_left
  · simp only [Act.put, List.setIfInBounds_toArray, List.set_cons_zero, List.set_cons_succ, i64_w, i32_w]
    rfl
  refine pure_ (i := 18) (N := some 61) (v := ?_) (a' := ?_) #[true, true, true, true, true, true, true, true, true, true, true, true, true, true, true, true, true, true, true, false, false, false, false, false, false, false, false, false, false, false, false, false, false, false, false, false, false, false, false, false, false, false, false] rfl rfl (by kernel_rfl) (fun _ _ _ h => h) (Or.inl ⟨by rfl, ?_⟩) ?_ ?_
  rotate_left
  · intro w'
    go_simp
    with_reducible rfl
  rotate_left
  · simp only [Act.put, List.setIfInBounds_toArray, List.set_cons_zero, List.set_cons_succ, i64_w, i32_w]
    rfl
  refine pure_ (i := 19) (N := some 62) (v := ?_) (a' := ?_) #[true, true, true, true, true, true, true, true, true, true, true, true, true, true, true, true, true, true, true, true, false, false, false, false, false, false, false, false, false, false, false, false, false, false, false, false, false, false, false, false, false, false, false] rfl rfl (by kernel_rfl) (fun _ _ _ h => h) (Or.inl ⟨by rfl, ?_⟩) ?_ ?_
  rotate_left
  · intro w'
    go_simp
    with_reducible rfl
  rotate_left
  · simp only [Act.put, List.setIfInBounds_toArray, List.set_cons_zero, List.set_cons_succ, i64_w, i32_w]
    rfl
  refine take_ (i := 20) (N := some 63) (v := ?_) (a' := ?_) #[true, true, true, true, true, true, true, true, true, true, true, true, true, true, true, true, true, true, true, true, true, false, false, false, false, false, false, false, false, false, false, false, false, false, false, false, false, false, false, false, false, false, false] rfl rfl (by kernel_rfl) (fun _ _ _ h => h) (Or.inl ⟨by rfl, ?_⟩) hHeld ?_ ?_
  rotate_left
  · rintro w' ⟨s0, s1, s2, s3, s4, s5, s6, s7, s8, s9, s10, s11, s12, s13, s14, s15, s16, s17, s18, s19, s20, s21, s22, s23, s24, s25, s26, s27⟩
    go_simp
    with_reducible rfl
  rotate_left
  · simp only [Act.put, List.setIfInBounds_toArray, List.set_cons_zero, List.set_cons_succ, i64_w, i32_w]
    rfl
  refine take_ (i := 21) (N := some 64) (v := ?_) (a' := ?_) #[true, true, true, true, true, true, true, true, true, true, true, true, true, true, true, true, true, true, true, true, true, true, false, false, false, false, false, false, false, false, false, false, false, false, false, false, false, false, false, false, false, false, false] rfl rfl (by kernel_rfl) (fun _ _ _ h => h) (Or.inl ⟨by rfl, ?_⟩) hHeld ?_ ?_
  rotate_left
  · rintro w' ⟨s0, s1, s2, s3, s4, s5, s6, s7, s8, s9, s10, s11, s12, s13, s14, s15, s16, s17, s18, s19, s20, s21, s22, s23, s24, s25, s26, s27⟩
    go_simp
    with_reducible rfl
  rotate_left
  · simp only [Act.put, List.setIfInBounds_toArray, List.set_cons_zero, List.set_cons_succ, i64_w, i32_w]
    rfl
  refine one_ (i := 22) (N := some 65) #[true, true, true, true, true, true, true, true, true, true, true, true, true, true, true, true, true, true, true, true, true, true, true, false, false, false, false, false, false, false, false, false, false, false, false, false, false, false, false, false, false, false, false] rfl rfl (by kernel_rfl) (by decide) (fun K hK => ?_)
  refine goes_ Try.func16 (by kernel_rfl) rfl #[.agg #[.slice Ec g1.length g1.length, .slice Fc r1.length r1.length], .agg #[.slice P1 g1.length p1, .slice Q1 r1.length q1]] (by rfl) rfl rfl (by simp only [List.map_toArray, List.map_cons, List.map_nil]; rfl) ?_
  with_reducible refine (memoryC (HMc.out.below HV.out) ((Zh1.out.below HB.out).below (below_step HB2.out HV.out)) 1048576 (by omega) Zs1.out).mono ?_
  rintro e v7 ⟨rfl, hb⟩
  refine ⟨_, rfl, ?_⟩
  rw [sameB_refl]
  replace HV := Aside0.mk (below_step HV.out hb)
  refine hK.out _ _ ⟨(pw_cell_below hb hHeld.1), (pw_cell_below hb hHeld.2.1), (pw_cell_below hb hHeld.2.2.1), (pw_cell_below hb hHeld.2.2.2.1), (pw_cell_below hb hHeld.2.2.2.2.1), (pw_cell_below hb hHeld.2.2.2.2.2.1), (pw_cell_below hb hHeld.2.2.2.2.2.2.1), (pw_cell_below hb hHeld.2.2.2.2.2.2.2.1), (pw_cell_below hb hHeld.2.2.2.2.2.2.2.2.1), (pw_cell_below hb hHeld.2.2.2.2.2.2.2.2.2.1), (pw_cell_below hb hHeld.2.2.2.2.2.2.2.2.2.2.1), (pw_cell_below hb hHeld.2.2.2.2.2.2.2.2.2.2.2.1), (pw_cell_below hb hHeld.2.2.2.2.2.2.2.2.2.2.2.2.1), (pw_cell_below hb hHeld.2.2.2.2.2.2.2.2.2.2.2.2.2.1), (pw_cell_below hb hHeld.2.2.2.2.2.2.2.2.2.2.2.2.2.2.1), (pw_cell_below hb hHeld.2.2.2.2.2.2.2.2.2.2.2.2.2.2.2.1), (pw_cell_below hb hHeld.2.2.2.2.2.2.2.2.2.2.2.2.2.2.2.2.1), (pw_cell_below hb hHeld.2.2.2.2.2.2.2.2.2.2.2.2.2.2.2.2.2.1), (pw_cell_below hb hHeld.2.2.2.2.2.2.2.2.2.2.2.2.2.2.2.2.2.2.1), (pw_cell_below hb hHeld.2.2.2.2.2.2.2.2.2.2.2.2.2.2.2.2.2.2.2.1), (pw_cell_below hb hHeld.2.2.2.2.2.2.2.2.2.2.2.2.2.2.2.2.2.2.2.2.1), (pw_cell_below hb hHeld.2.2.2.2.2.2.2.2.2.2.2.2.2.2.2.2.2.2.2.2.2.1), (pw_cell_below hb hHeld.2.2.2.2.2.2.2.2.2.2.2.2.2.2.2.2.2.2.2.2.2.2.1), (pw_cell_below hb hHeld.2.2.2.2.2.2.2.2.2.2.2.2.2.2.2.2.2.2.2.2.2.2.2.1), (pw_cell_below hb hHeld.2.2.2.2.2.2.2.2.2.2.2.2.2.2.2.2.2.2.2.2.2.2.2.2.1), (pw_cell_below hb hHeld.2.2.2.2.2.2.2.2.2.2.2.2.2.2.2.2.2.2.2.2.2.2.2.2.2.1), (pw_cell_below hb hHeld.2.2.2.2.2.2.2.2.2.2.2.2.2.2.2.2.2.2.2.2.2.2.2.2.2.2.1), (pw_cell_below hb hHeld.2.2.2.2.2.2.2.2.2.2.2.2.2.2.2.2.2.2.2.2.2.2.2.2.2.2.2)⟩ (fun hHeld => ?_)
  clear hK K
  refine norm_ (a' := ?_) ?_ ?_
  rotate_left
  · show Act.put _ (some 65) _ = _
    simp only [Act.put, List.setIfInBounds_toArray, List.set_cons_zero, List.set_cons_succ, i64_w, i32_w]
    rfl
  refine pure_ (i := 23) (N := some 66) (v := ?_) (a' := ?_) #[true, true, true, true, true, true, true, true, true, true, true, true, true, true, true, true, true, true, true, true, true, true, true, true, false, false, false, false, false, false, false, false, false, false, false, false, false, false, false, false, false, false, false] rfl rfl (by kernel_rfl) (fun _ _ _ h => h) (Or.inl ⟨by rfl, ?_⟩) ?_ ?_
  rotate_left
  · intro w'
    go_simp
    with_reducible rfl
  rotate_left
  · simp only [Act.put, List.setIfInBounds_toArray, List.set_cons_zero, List.set_cons_succ, i64_w, i32_w]
    rfl
  refine pure_ (i := 24) (N := some 67) (v := ?_) (a' := ?_) #[true, true, true, true, true, true, true, true, true, true, true, true, true, true, true, true, true, true, true, true, true, true, true, true, true, false, false, false, false, false, false, false, false, false, false, false, false, false, false, false, false, false, false] rfl rfl (by kernel_rfl) (fun _ _ _ h => h) (Or.inl ⟨by rfl, ?_⟩) ?_ ?_
  rotate_left
  · intro w'
    go_simp
    with_reducible rfl
  rotate_left
  · simp only [Act.put, List.setIfInBounds_toArray, List.set_cons_zero, List.set_cons_succ, i64_w, i32_w]
    rfl
  refine pure_ (i := 25) (N := some 68) (v := ?_) (a' := ?_) #[true, true, true, true, true, true, true, true, true, true, true, true, true, true, true, true, true, true, true, true, true, true, true, true, true, true, false, false, false, false, false, false, false, false, false, false, false, false, false, false, false, false, false] rfl rfl (by kernel_rfl) (fun _ _ _ h => h) (Or.inl ⟨by rfl, ?_⟩) ?_ ?_
  rotate_left
  · intro w'
    go_simp
    with_reducible rfl
  rotate_left
  · simp only [Act.put, List.setIfInBounds_toArray, List.set_cons_zero, List.set_cons_succ, i64_w, i32_w]
    rfl
  refine take_ (i := 26) (N := some 69) (v := ?_) (a' := ?_) #[true, true, true, true, true, true, true, true, true, true, true, true, true, true, true, true, true, true, true, true, true, true, true, true, true, true, true, false, false, false, false, false, false, false, false, false, false, false, false, false, false, false, false] rfl rfl (by kernel_rfl) (fun _ _ _ h => h) (Or.inl ⟨by rfl, ?_⟩) hHeld ?_ ?_
  rotate_left
  · rintro w' ⟨s0, s1, s2, s3, s4, s5, s6, s7, s8, s9, s10, s11, s12, s13, s14, s15, s16, s17, s18, s19, s20, s21, s22, s23, s24, s25, s26, s27⟩
    go_simp
    with_reducible rfl
  rotate_left
  · simp only [Act.put, List.setIfInBounds_toArray, List.set_cons_zero, List.set_cons_succ, i64_w, i32_w]
    rfl
  refine take_ (i := 27) (N := some 70) (v := ?_) (a' := ?_) #[true, true, true, true, true, true, true, true, true, true, true, true, true, true, true, true, true, true, true, true, true, true, true, true, true, true, true, true, false, false, false, false, false, false, false, false, false, false, false, false, false, false, false] rfl rfl (by kernel_rfl) (fun _ _ _ h => h) (Or.inl ⟨by rfl, ?_⟩) hHeld ?_ ?_
  rotate_left
  · rintro w' ⟨s0, s1, s2, s3, s4, s5, s6, s7, s8, s9, s10, s11, s12, s13, s14, s15, s16, s17, s18, s19, s20, s21, s22, s23, s24, s25, s26, s27⟩
    go_simp
    with_reducible rfl
  rotate_left
  · simp only [Act.put, List.setIfInBounds_toArray, List.set_cons_zero, List.set_cons_succ, i64_w, i32_w]
    rfl
  refine one_ (i := 28) (N := some 71) #[true, true, true, true, true, true, true, true, true, true, true, true, true, true, true, true, true, true, true, true, true, true, true, true, true, true, true, true, true, false, false, false, false, false, false, false, false, false, false, false, false, false, false] rfl rfl (by kernel_rfl) (by decide) (fun K hK => ?_)
  refine goes_ Try.func16 (by kernel_rfl) rfl #[.agg #[.slice Ed g1.length g1.length, .slice Fd r1.length r1.length], .agg #[.slice P1 g1.length p1, .slice Q1 r1.length q1]] (by rfl) rfl rfl (by simp only [List.map_toArray, List.map_cons, List.map_nil]; rfl) ?_
  with_reducible refine (memoryC (HMd.out.below HV.out) ((Zh1.out.below HB.out).below (below_step HB2.out HV.out)) 1048576 (by omega) Zs1.out).mono ?_
  rintro e v8 ⟨rfl, hb⟩
  refine ⟨_, rfl, ?_⟩
  rw [sameB_refl]
  replace HV := Aside0.mk (below_step HV.out hb)
  refine hK.out _ _ ⟨(pw_cell_below hb hHeld.1), (pw_cell_below hb hHeld.2.1), (pw_cell_below hb hHeld.2.2.1), (pw_cell_below hb hHeld.2.2.2.1), (pw_cell_below hb hHeld.2.2.2.2.1), (pw_cell_below hb hHeld.2.2.2.2.2.1), (pw_cell_below hb hHeld.2.2.2.2.2.2.1), (pw_cell_below hb hHeld.2.2.2.2.2.2.2.1), (pw_cell_below hb hHeld.2.2.2.2.2.2.2.2.1), (pw_cell_below hb hHeld.2.2.2.2.2.2.2.2.2.1), (pw_cell_below hb hHeld.2.2.2.2.2.2.2.2.2.2.1), (pw_cell_below hb hHeld.2.2.2.2.2.2.2.2.2.2.2.1), (pw_cell_below hb hHeld.2.2.2.2.2.2.2.2.2.2.2.2.1), (pw_cell_below hb hHeld.2.2.2.2.2.2.2.2.2.2.2.2.2.1), (pw_cell_below hb hHeld.2.2.2.2.2.2.2.2.2.2.2.2.2.2.1), (pw_cell_below hb hHeld.2.2.2.2.2.2.2.2.2.2.2.2.2.2.2.1), (pw_cell_below hb hHeld.2.2.2.2.2.2.2.2.2.2.2.2.2.2.2.2.1), (pw_cell_below hb hHeld.2.2.2.2.2.2.2.2.2.2.2.2.2.2.2.2.2.1), (pw_cell_below hb hHeld.2.2.2.2.2.2.2.2.2.2.2.2.2.2.2.2.2.2.1), (pw_cell_below hb hHeld.2.2.2.2.2.2.2.2.2.2.2.2.2.2.2.2.2.2.2.1), (pw_cell_below hb hHeld.2.2.2.2.2.2.2.2.2.2.2.2.2.2.2.2.2.2.2.2.1), (pw_cell_below hb hHeld.2.2.2.2.2.2.2.2.2.2.2.2.2.2.2.2.2.2.2.2.2.1), (pw_cell_below hb hHeld.2.2.2.2.2.2.2.2.2.2.2.2.2.2.2.2.2.2.2.2.2.2.1), (pw_cell_below hb hHeld.2.2.2.2.2.2.2.2.2.2.2.2.2.2.2.2.2.2.2.2.2.2.2.1), (pw_cell_below hb hHeld.2.2.2.2.2.2.2.2.2.2.2.2.2.2.2.2.2.2.2.2.2.2.2.2.1), (pw_cell_below hb hHeld.2.2.2.2.2.2.2.2.2.2.2.2.2.2.2.2.2.2.2.2.2.2.2.2.2.1), (pw_cell_below hb hHeld.2.2.2.2.2.2.2.2.2.2.2.2.2.2.2.2.2.2.2.2.2.2.2.2.2.2.1), (pw_cell_below hb hHeld.2.2.2.2.2.2.2.2.2.2.2.2.2.2.2.2.2.2.2.2.2.2.2.2.2.2.2)⟩ (fun hHeld => ?_)
  clear hK K
  refine norm_ (a' := ?_) ?_ ?_
  rotate_left
  · show Act.put _ (some 71) _ = _
    simp only [Act.put, List.setIfInBounds_toArray, List.set_cons_zero, List.set_cons_succ, i64_w, i32_w]
    rfl
  refine pure_ (i := 29) (N := some 72) (v := ?_) (a' := ?_) #[true, true, true, true, true, true, true, true, true, true, true, true, true, true, true, true, true, true, true, true, true, true, true, true, true, true, true, true, true, true, false, false, false, false, false, false, false, false, false, false, false, false, false] rfl rfl (by kernel_rfl) (fun _ _ _ h => h) (Or.inl ⟨by rfl, ?_⟩) ?_ ?_
  rotate_left
  · intro w'
    go_simp
    with_reducible rfl
  rotate_left
  · simp only [Act.put, List.setIfInBounds_toArray, List.set_cons_zero, List.set_cons_succ, i64_w, i32_w]
    rfl
  refine pure_ (i := 30) (N := some 73) (v := ?_) (a' := ?_) #[true, true, true, true, true, true, true, true, true, true, true, true, true, true, true, true, true, true, true, true, true, true, true, true, true, true, true, true, true, true, true, false, false, false, false, false, false, false, false, false, false, false, false] rfl rfl (by kernel_rfl) (fun _ _ _ h => h) (Or.inl ⟨by rfl, ?_⟩) ?_ ?_
  rotate_left
  · intro w'
    go_simp
    with_reducible rfl
  rotate_left
  · simp only [Act.put, List.setIfInBounds_toArray, List.set_cons_zero, List.set_cons_succ, i64_w, i32_w]
    rfl
  refine pure_ (i := 31) (N := some 74) (v := ?_) (a' := ?_) #[true, true, true, true, true, true, true, true, true, true, true, true, true, true, true, true, true, true, true, true, true, true, true, true, true, true, true, true, true, true, true, true, false, false, false, false, false, false, false, false, false, false, false] rfl rfl (by kernel_rfl) (fun _ _ _ h => h) (Or.inl ⟨by rfl, ?_⟩) ?_ ?_
  rotate_left
  · intro w'
    go_simp
    with_reducible rfl
  rotate_left
  · simp only [Act.put, List.setIfInBounds_toArray, List.set_cons_zero, List.set_cons_succ, i64_w, i32_w]
    rfl
  refine take_ (i := 32) (N := some 75) (v := ?_) (a' := ?_) #[true, true, true, true, true, true, true, true, true, true, true, true, true, true, true, true, true, true, true, true, true, true, true, true, true, true, true, true, true, true, true, true, true, false, false, false, false, false, false, false, false, false, false] rfl rfl (by kernel_rfl) (fun _ _ _ h => h) (Or.inl ⟨by rfl, ?_⟩) hHeld ?_ ?_
  rotate_left
  · rintro w' ⟨s0, s1, s2, s3, s4, s5, s6, s7, s8, s9, s10, s11, s12, s13, s14, s15, s16, s17, s18, s19, s20, s21, s22, s23, s24, s25, s26, s27⟩
    go_simp
    with_reducible rfl
  rotate_left
  · simp only [Act.put, List.setIfInBounds_toArray, List.set_cons_zero, List.set_cons_succ, i64_w, i32_w]
    rfl
  refine take_ (i := 33) (N := some 76) (v := ?_) (a' := ?_) #[true, true, true, true, true, true, true, true, true, true, true, true, true, true, true, true, true, true, true, true, true, true, true, true, true, true, true, true, true, true, true, true, true, true, false, false, false, false, false, false, false, false, false] rfl rfl (by kernel_rfl) (fun _ _ _ h => h) (Or.inl ⟨by rfl, ?_⟩) hHeld ?_ ?_
  rotate_left
  · rintro w' ⟨s0, s1, s2, s3, s4, s5, s6, s7, s8, s9, s10, s11, s12, s13, s14, s15, s16, s17, s18, s19, s20, s21, s22, s23, s24, s25, s26, s27⟩
    go_simp
    with_reducible rfl
  rotate_left
  · simp only [Act.put, List.setIfInBounds_toArray, List.set_cons_zero, List.set_cons_succ, i64_w, i32_w]
    rfl
  refine one_ (i := 34) (N := some 77) #[true, true, true, true, true, true, true, true, true, true, true, true, true, true, true, true, true, true, true, true, true, true, true, true, true, true, true, true, true, true, true, true, true, true, true, false, false, false, false, false, false, false, false] rfl rfl (by kernel_rfl) (by decide) (fun K hK => ?_)
  refine goes_ Try.func16 (by kernel_rfl) rfl #[.agg #[.slice Es gn.length gn.length, .slice Fs rn.length rn.length], .agg #[.slice En gn.length en, .slice Fn rn.length fn]] (by rfl) rfl rfl (by simp only [List.map_toArray, List.map_cons, List.map_nil]; rfl) ?_
  with_reducible refine (memoryC (HMs.out.below HV.out) (HMn.out.below HV.out) 1048576 (by omega) ZSS.out).mono ?_
  rintro e v9 ⟨rfl, hb⟩
  refine ⟨_, rfl, ?_⟩
  rw [sameB_refl]
  replace HV := Aside0.mk (below_step HV.out hb)
  refine hK.out _ _ ⟨(pw_cell_below hb hHeld.1), (pw_cell_below hb hHeld.2.1), (pw_cell_below hb hHeld.2.2.1), (pw_cell_below hb hHeld.2.2.2.1), (pw_cell_below hb hHeld.2.2.2.2.1), (pw_cell_below hb hHeld.2.2.2.2.2.1), (pw_cell_below hb hHeld.2.2.2.2.2.2.1), (pw_cell_below hb hHeld.2.2.2.2.2.2.2.1), (pw_cell_below hb hHeld.2.2.2.2.2.2.2.2.1), (pw_cell_below hb hHeld.2.2.2.2.2.2.2.2.2.1), (pw_cell_below hb hHeld.2.2.2.2.2.2.2.2.2.2.1), (pw_cell_below hb hHeld.2.2.2.2.2.2.2.2.2.2.2.1), (pw_cell_below hb hHeld.2.2.2.2.2.2.2.2.2.2.2.2.1), (pw_cell_below hb hHeld.2.2.2.2.2.2.2.2.2.2.2.2.2.1), (pw_cell_below hb hHeld.2.2.2.2.2.2.2.2.2.2.2.2.2.2.1), (pw_cell_below hb hHeld.2.2.2.2.2.2.2.2.2.2.2.2.2.2.2.1), (pw_cell_below hb hHeld.2.2.2.2.2.2.2.2.2.2.2.2.2.2.2.2.1), (pw_cell_below hb hHeld.2.2.2.2.2.2.2.2.2.2.2.2.2.2.2.2.2.1), (pw_cell_below hb hHeld.2.2.2.2.2.2.2.2.2.2.2.2.2.2.2.2.2.2.1), (pw_cell_below hb hHeld.2.2.2.2.2.2.2.2.2.2.2.2.2.2.2.2.2.2.2.1), (pw_cell_below hb hHeld.2.2.2.2.2.2.2.2.2.2.2.2.2.2.2.2.2.2.2.2.1), (pw_cell_below hb hHeld.2.2.2.2.2.2.2.2.2.2.2.2.2.2.2.2.2.2.2.2.2.1), (pw_cell_below hb hHeld.2.2.2.2.2.2.2.2.2.2.2.2.2.2.2.2.2.2.2.2.2.2.1), (pw_cell_below hb hHeld.2.2.2.2.2.2.2.2.2.2.2.2.2.2.2.2.2.2.2.2.2.2.2.1), (pw_cell_below hb hHeld.2.2.2.2.2.2.2.2.2.2.2.2.2.2.2.2.2.2.2.2.2.2.2.2.1), (pw_cell_below hb hHeld.2.2.2.2.2.2.2.2.2.2.2.2.2.2.2.2.2.2.2.2.2.2.2.2.2.1), (pw_cell_below hb hHeld.2.2.2.2.2.2.2.2.2.2.2.2.2.2.2.2.2.2.2.2.2.2.2.2.2.2.1), (pw_cell_below hb hHeld.2.2.2.2.2.2.2.2.2.2.2.2.2.2.2.2.2.2.2.2.2.2.2.2.2.2.2)⟩ (fun hHeld => ?_)
  clear hK K
  refine norm_ (a' := ?_) ?_ ?_
  rotate_left
  · show Act.put _ (some 77) _ = _
    simp only [Act.put, List.setIfInBounds_toArray, List.set_cons_zero, List.set_cons_succ, i64_w, i32_w]
    rfl
  refine pure_ (i := 35) (N := some 78) (v := ?_) (a' := ?_) #[true, true, true, true, true, true, true, true, true, true, true, true, true, true, true, true, true, true, true, true, true, true, true, true, true, true, true, true, true, true, true, true, true, true, true, true, false, false, false, false, false, false, false] rfl rfl (by kernel_rfl) (fun _ _ _ h => h) (Or.inl ⟨by rfl, ?_⟩) ?_ ?_
  rotate_left
  · intro w'
    go_simp
    with_reducible rfl
  rotate_left
  · simp only [Act.put, List.setIfInBounds_toArray, List.set_cons_zero, List.set_cons_succ, i64_w, i32_w]
    rfl
  refine pure_ (i := 36) (N := some 79) (v := ?_) (a' := ?_) #[true, true, true, true, true, true, true, true, true, true, true, true, true, true, true, true, true, true, true, true, true, true, true, true, true, true, true, true, true, true, true, true, true, true, true, true, true, false, false, false, false, false, false] rfl rfl (by kernel_rfl) (fun _ _ _ h => h) (Or.inl ⟨by rfl, ?_⟩) ?_ ?_
  rotate_left
  · intro w'
    go_simp
    with_reducible rfl
  rotate_left
  · simp only [Act.put, List.setIfInBounds_toArray, List.set_cons_zero, List.set_cons_succ, i64_w, i32_w]
    rfl
  refine pure_ (i := 37) (N := some 80) (v := ?_) (a' := ?_) #[true, true, true, true, true, true, true, true, true, true, true, true, true, true, true, true, true, true, true, true, true, true, true, true, true, true, true, true, true, true, true, true, true, true, true, true, true, true, false, false, false, false, false] rfl rfl (by kernel_rfl) (fun _ _ _ h => h) (Or.inl ⟨by rfl, ?_⟩) ?_ ?_
  rotate_left
  · intro w'
    go_simp
    with_reducible rfl
  rotate_left
  · simp only [Act.put, List.setIfInBounds_toArray, List.set_cons_zero, List.set_cons_succ, i64_w, i32_w]
    rfl
  refine take_ (i := 38) (N := some 81) (v := ?_) (a' := ?_) #[true, true, true, true, true, true, true, true, true, true, true, true, true, true, true, true, true, true, true, true, true, true, true, true, true, true, true, true, true, true, true, true, true, true, true, true, true, true, true, false, false, false, false] rfl rfl (by kernel_rfl) (fun _ _ _ h => h) (Or.inl ⟨by rfl, ?_⟩) hHeld ?_ ?_
  rotate_left
  · rintro w' ⟨s0, s1, s2, s3, s4, s5, s6, s7, s8, s9, s10, s11, s12, s13, s14, s15, s16, s17, s18, s19, s20, s21, s22, s23, s24, s25, s26, s27⟩
    go_simp
    with_reducible rfl
  rotate_left
  · simp only [Act.put, List.setIfInBounds_toArray, List.set_cons_zero, List.set_cons_succ, i64_w, i32_w]
    rfl
  refine take_ (i := 39) (N := some 82) (v := ?_) (a' := ?_) #[true, true, true, true, true, true, true, true, true, true, true, true, true, true, true, true, true, true, true, true, true, true, true, true, true, true, true, true, true, true, true, true, true, true, true, true, true, true, true, true, false, false, false] rfl rfl (by kernel_rfl) (fun _ _ _ h => h) (Or.inl ⟨by rfl, ?_⟩) hHeld ?_ ?_
  rotate_left
  · rintro w' ⟨s0, s1, s2, s3, s4, s5, s6, s7, s8, s9, s10, s11, s12, s13, s14, s15, s16, s17, s18, s19, s20, s21, s22, s23, s24, s25, s26, s27⟩
    go_simp
    with_reducible rfl
  rotate_left
  · simp only [Act.put, List.setIfInBounds_toArray, List.set_cons_zero, List.set_cons_succ, i64_w, i32_w]
    rfl
  refine one_ (i := 40) (N := some 83) #[true, true, true, true, true, true, true, true, true, true, true, true, true, true, true, true, true, true, true, true, true, true, true, true, true, true, true, true, true, true, true, true, true, true, true, true, true, true, true, true, true, false, false] rfl rfl (by kernel_rfl) (by decide) (fun K hK => ?_)
  refine goes_ Try.func16 (by kernel_rfl) rfl #[.agg #[.slice Et gn.length gn.length, .slice Ft rn.length rn.length], .agg #[.slice En gn.length en, .slice Fn rn.length fn]] (by rfl) rfl rfl (by simp only [List.map_toArray, List.map_cons, List.map_nil]; rfl) ?_
  with_reducible refine (memoryC (HMt.out.below HV.out) (HMn.out.below HV.out) 1048576 (by omega) ZSS.out).mono ?_
  rintro e v10 ⟨rfl, hb⟩
  refine ⟨_, rfl, ?_⟩
  rw [sameB_refl]
  replace HV := Aside0.mk (below_step HV.out hb)
  refine hK.out _ _ ⟨(pw_cell_below hb hHeld.1), (pw_cell_below hb hHeld.2.1), (pw_cell_below hb hHeld.2.2.1), (pw_cell_below hb hHeld.2.2.2.1), (pw_cell_below hb hHeld.2.2.2.2.1), (pw_cell_below hb hHeld.2.2.2.2.2.1), (pw_cell_below hb hHeld.2.2.2.2.2.2.1), (pw_cell_below hb hHeld.2.2.2.2.2.2.2.1), (pw_cell_below hb hHeld.2.2.2.2.2.2.2.2.1), (pw_cell_below hb hHeld.2.2.2.2.2.2.2.2.2.1), (pw_cell_below hb hHeld.2.2.2.2.2.2.2.2.2.2.1), (pw_cell_below hb hHeld.2.2.2.2.2.2.2.2.2.2.2.1), (pw_cell_below hb hHeld.2.2.2.2.2.2.2.2.2.2.2.2.1), (pw_cell_below hb hHeld.2.2.2.2.2.2.2.2.2.2.2.2.2.1), (pw_cell_below hb hHeld.2.2.2.2.2.2.2.2.2.2.2.2.2.2.1), (pw_cell_below hb hHeld.2.2.2.2.2.2.2.2.2.2.2.2.2.2.2.1), (pw_cell_below hb hHeld.2.2.2.2.2.2.2.2.2.2.2.2.2.2.2.2.1), (pw_cell_below hb hHeld.2.2.2.2.2.2.2.2.2.2.2.2.2.2.2.2.2.1), (pw_cell_below hb hHeld.2.2.2.2.2.2.2.2.2.2.2.2.2.2.2.2.2.2.1), (pw_cell_below hb hHeld.2.2.2.2.2.2.2.2.2.2.2.2.2.2.2.2.2.2.2.1), (pw_cell_below hb hHeld.2.2.2.2.2.2.2.2.2.2.2.2.2.2.2.2.2.2.2.2.1), (pw_cell_below hb hHeld.2.2.2.2.2.2.2.2.2.2.2.2.2.2.2.2.2.2.2.2.2.1), (pw_cell_below hb hHeld.2.2.2.2.2.2.2.2.2.2.2.2.2.2.2.2.2.2.2.2.2.2.1), (pw_cell_below hb hHeld.2.2.2.2.2.2.2.2.2.2.2.2.2.2.2.2.2.2.2.2.2.2.2.1), (pw_cell_below hb hHeld.2.2.2.2.2.2.2.2.2.2.2.2.2.2.2.2.2.2.2.2.2.2.2.2.1), (pw_cell_below hb hHeld.2.2.2.2.2.2.2.2.2.2.2.2.2.2.2.2.2.2.2.2.2.2.2.2.2.1), (pw_cell_below hb hHeld.2.2.2.2.2.2.2.2.2.2.2.2.2.2.2.2.2.2.2.2.2.2.2.2.2.2.1), (pw_cell_below hb hHeld.2.2.2.2.2.2.2.2.2.2.2.2.2.2.2.2.2.2.2.2.2.2.2.2.2.2.2)⟩ (fun hHeld => ?_)
  clear hK K
  refine norm_ (a' := ?_) ?_ ?_
  rotate_left
  · show Act.put _ (some 83) _ = _
    simp only [Act.put, List.setIfInBounds_toArray, List.set_cons_zero, List.set_cons_succ, i64_w, i32_w]
    rfl
  refine pure_ (i := 41) (N := some 84) (v := ?_) (a' := ?_) #[true, true, true, true, true, true, true, true, true, true, true, true, true, true, true, true, true, true, true, true, true, true, true, true, true, true, true, true, true, true, true, true, true, true, true, true, true, true, true, true, true, true, false] rfl rfl (by kernel_rfl) (fun _ _ _ h => h) (Or.inl ⟨by rfl, ?_⟩) ?_ ?_
  rotate_left
  · intro w'
    go_simp
    with_reducible rfl
  rotate_left
  · simp only [Act.put, List.setIfInBounds_toArray, List.set_cons_zero, List.set_cons_succ, i64_w, i32_w]
    rfl
  refine pure_ (i := 42) (N := some 85) (v := ?_) (a' := ?_) #[true, true, true, true, true, true, true, true, true, true, true, true, true, true, true, true, true, true, true, true, true, true, true, true, true, true, true, true, true, true, true, true, true, true, true, true, true, true, true, true, true, true, true] rfl rfl (by kernel_rfl) (fun _ _ _ h => h) (Or.inl ⟨by rfl, ?_⟩) ?_ ?_
  rotate_left
  · intro w'
    go_simp
    with_reducible rfl
  rotate_left
  · simp only [Act.put, List.setIfInBounds_toArray, List.set_cons_zero, List.set_cons_succ, i64_w, i32_w]
    rfl
  refine done_ (by kernel_rfl) ?_
  replace HV := Aside0.mk HV.out
  clear m0_ m1_ m2_ m3_ a0_ a1_ i0_ i1_ i2_ i3_ x0_ x1_ z0_ z1_ y0_ y1_ c0_ c1_ d0_ d1_ s0_ s1_ t0_ t1_ o0_ o1_ n0_ n1_
  replace HZz := Aside0.mk (blk_below HZz.out HV.out)
  replace HZy := Aside0.mk (blk_below HZy.out HV.out)
  replace HZc := Aside0.mk (blk_below HZc.out HV.out)
  replace HZd := Aside0.mk (blk_below HZd.out HV.out)
  replace HZs := Aside0.mk (blk_below HZs.out HV.out)
  replace HZt := Aside0.mk (blk_below HZt.out HV.out)
  replace HZo := Aside0.mk (blk_below HZo.out HV.out)
  replace HZn := Aside0.mk (blk_below HZn.out HV.out)
  replace HMz := Aside0.mk (HMz.out.below HV.out)
  replace HMy := Aside0.mk (HMy.out.below HV.out)
  replace HMc := Aside0.mk (HMc.out.below HV.out)
  replace HMd := Aside0.mk (HMd.out.below HV.out)
  replace HMs := Aside0.mk (HMs.out.below HV.out)
  replace HMt := Aside0.mk (HMt.out.below HV.out)
  replace HMo := Aside0.mk (HMo.out.below HV.out)
  replace HMn := Aside0.mk (HMn.out.below HV.out)
  replace HCH := Aside0.mk (HCH.out.step HV.out)
  replace HB2 := Aside0.mk (below_step HB2.out HV.out)
  obtain ⟨m0_, m1_, m2_, m3_⟩ := va4 (blk_below HG0.out HB2.out)
  obtain ⟨⟨a0_, a1_⟩, _, _⟩ := blk2 (blk_below HG1.out HB2.out)
  obtain ⟨i0_, i1_, i2_, i3_⟩ := va4 (blk_below HQ1.out HB2.out)
  obtain ⟨⟨x0_, x1_⟩, _, _⟩ := blk2 (blk_below HQ2.out HB2.out)
  obtain ⟨⟨z0_, z1_⟩, _, _⟩ := blk2 HZz.out
  obtain ⟨⟨y0_, y1_⟩, _, _⟩ := blk2 HZy.out
  obtain ⟨⟨c0_, c1_⟩, _, _⟩ := blk2 HZc.out
  obtain ⟨⟨d0_, d1_⟩, _, _⟩ := blk2 HZd.out
  obtain ⟨⟨s0_, s1_⟩, _, _⟩ := blk2 HZs.out
  obtain ⟨⟨t0_, t1_⟩, _, _⟩ := blk2 HZt.out
  obtain ⟨⟨o0_, o1_⟩, _, _⟩ := blk2 HZo.out
  obtain ⟨⟨n0_, n1_⟩, _, _⟩ := blk2 HZn.out
  clear HV
  go_wp2_with fail
  refine (keptModR _ _ gs arr l2 l3 _ (HK1.out.below HB2.out) ((Zhm.out.below HB.out).below HB2.out)).mono ?_
  rintro e w_ ⟨rfl, hb⟩
  clear m0_ m1_ m2_ m3_ a0_ a1_ i0_ i1_ i2_ i3_ x0_ x1_ z0_ z1_ y0_ y1_ c0_ c1_ d0_ d1_ s0_ s1_ t0_ t1_ o0_ o1_ n0_ n1_
  replace HZz := Aside0.mk (blk_below HZz.out hb)
  replace HZy := Aside0.mk (blk_below HZy.out hb)
  replace HZc := Aside0.mk (blk_below HZc.out hb)
  replace HZd := Aside0.mk (blk_below HZd.out hb)
  replace HZs := Aside0.mk (blk_below HZs.out hb)
  replace HZt := Aside0.mk (blk_below HZt.out hb)
  replace HZo := Aside0.mk (blk_below HZo.out hb)
  replace HZn := Aside0.mk (blk_below HZn.out hb)
  replace HMz := Aside0.mk (HMz.out.below hb)
  replace HMy := Aside0.mk (HMy.out.below hb)
  replace HMc := Aside0.mk (HMc.out.below hb)
  replace HMd := Aside0.mk (HMd.out.below hb)
  replace HMs := Aside0.mk (HMs.out.below hb)
  replace HMt := Aside0.mk (HMt.out.below hb)
  replace HMo := Aside0.mk (HMo.out.below hb)
  replace HMn := Aside0.mk (HMn.out.below hb)
  replace HCH := Aside0.mk (HCH.out.step hb)
  replace HB2 := Aside0.mk (below_step HB2.out hb)
  clear hb
  obtain ⟨m0_, m1_, m2_, m3_⟩ := va4 (blk_below HG0.out HB2.out)
  obtain ⟨⟨a0_, a1_⟩, _, _⟩ := blk2 (blk_below HG1.out HB2.out)
  obtain ⟨i0_, i1_, i2_, i3_⟩ := va4 (blk_below HQ1.out HB2.out)
  obtain ⟨⟨x0_, x1_⟩, _, _⟩ := blk2 (blk_below HQ2.out HB2.out)
  obtain ⟨⟨z0_, z1_⟩, _, _⟩ := blk2 HZz.out
  obtain ⟨⟨y0_, y1_⟩, _, _⟩ := blk2 HZy.out
  obtain ⟨⟨c0_, c1_⟩, _, _⟩ := blk2 HZc.out
  obtain ⟨⟨d0_, d1_⟩, _, _⟩ := blk2 HZd.out
  obtain ⟨⟨s0_, s1_⟩, _, _⟩ := blk2 HZs.out
  obtain ⟨⟨t0_, t1_⟩, _, _⟩ := blk2 HZt.out
  obtain ⟨⟨o0_, o1_⟩, _, _⟩ := blk2 HZo.out
  obtain ⟨⟨n0_, n1_⟩, _, _⟩ := blk2 HZn.out
  go_wp2_with fail
  refine (keptMemR _ _ g1 r1 _ (HK2.out.below HB2.out) ((Zh1.out.below HB.out).below HB2.out)).mono ?_
  rintro e w_ ⟨rfl, hb⟩
  clear m0_ m1_ m2_ m3_ a0_ a1_ i0_ i1_ i2_ i3_ x0_ x1_ z0_ z1_ y0_ y1_ c0_ c1_ d0_ d1_ s0_ s1_ t0_ t1_ o0_ o1_ n0_ n1_
  replace HZz := Aside0.mk (blk_below HZz.out hb)
  replace HZy := Aside0.mk (blk_below HZy.out hb)
  replace HZc := Aside0.mk (blk_below HZc.out hb)
  replace HZd := Aside0.mk (blk_below HZd.out hb)
  replace HZs := Aside0.mk (blk_below HZs.out hb)
  replace HZt := Aside0.mk (blk_below HZt.out hb)
  replace HZo := Aside0.mk (blk_below HZo.out hb)
  replace HZn := Aside0.mk (blk_below HZn.out hb)
  replace HMz := Aside0.mk (HMz.out.below hb)
  replace HMy := Aside0.mk (HMy.out.below hb)
  replace HMc := Aside0.mk (HMc.out.below hb)
  replace HMd := Aside0.mk (HMd.out.below hb)
  replace HMs := Aside0.mk (HMs.out.below hb)
  replace HMt := Aside0.mk (HMt.out.below hb)
  replace HMo := Aside0.mk (HMo.out.below hb)
  replace HMn := Aside0.mk (HMn.out.below hb)
  replace HCH := Aside0.mk (HCH.out.step hb)
  replace HB2 := Aside0.mk (below_step HB2.out hb)
  clear hb
  obtain ⟨m0_, m1_, m2_, m3_⟩ := va4 (blk_below HG0.out HB2.out)
  obtain ⟨⟨a0_, a1_⟩, _, _⟩ := blk2 (blk_below HG1.out HB2.out)
  obtain ⟨i0_, i1_, i2_, i3_⟩ := va4 (blk_below HQ1.out HB2.out)
  obtain ⟨⟨x0_, x1_⟩, _, _⟩ := blk2 (blk_below HQ2.out HB2.out)
  obtain ⟨⟨z0_, z1_⟩, _, _⟩ := blk2 HZz.out
  obtain ⟨⟨y0_, y1_⟩, _, _⟩ := blk2 HZy.out
  obtain ⟨⟨c0_, c1_⟩, _, _⟩ := blk2 HZc.out
  obtain ⟨⟨d0_, d1_⟩, _, _⟩ := blk2 HZd.out
  obtain ⟨⟨s0_, s1_⟩, _, _⟩ := blk2 HZs.out
  obtain ⟨⟨t0_, t1_⟩, _, _⟩ := blk2 HZt.out
  obtain ⟨⟨o0_, o1_⟩, _, _⟩ := blk2 HZo.out
  obtain ⟨⟨n0_, n1_⟩, _, _⟩ := blk2 HZn.out
  go_wp2_with fail
  have hch : Chain w_ u2.heap.size [m_z, m_y, m_c, m_d, m_s, m_t] := HCH.out.chain
  have hO : (w_.alloc (.cells #[.slice Ez gz.length gz.length, .slice Fz rz.length rz.length, .slice Ey gz.length gz.length, .slice Fy rz.length rz.length, .slice Ec g1.length g1.length, .slice Fc r1.length r1.length, .slice Ed g1.length g1.length, .slice Fd r1.length r1.length, .slice Es gn.length gn.length, .slice Fs rn.length rn.length, .slice Et gn.length gn.length, .slice Ft rn.length rn.length] 30)).heap[w_.heap.size]? = some (.cells #[m_z.v0, m_z.v1, m_y.v0, m_y.v1, m_c.v0, m_c.v1, m_d.v0, m_d.v1, m_s.v0, m_s.v1, m_t.v0, m_t.v1] 30 (0, 0)) := by
    rw [HEz.out.1, HEz.out.2, HEy.out.1, HEy.out.2, HEc.out.1, HEc.out.2, HEd.out.1, HEd.out.2, HEs.out.1, HEs.out.2, HEt.out.1, HEt.out.2]
    exact heap_alloc_new w_ (.cells #[.slice Ez gz.length gz.length, .slice Fz rz.length rz.length, .slice Ey gz.length gz.length, .slice Fy rz.length rz.length, .slice Ec g1.length g1.length, .slice Fc r1.length r1.length, .slice Ed g1.length g1.length, .slice Fd r1.length r1.length, .slice Es gn.length gn.length, .slice Fs rn.length rn.length, .slice Et gn.length gn.length, .slice Ft rn.length rn.length] 30)
  have hbA := below_alloc (Below.refl w_.heap.size w_) (.cells #[.slice Ez gz.length gz.length, .slice Fz rz.length rz.length, .slice Ey gz.length gz.length, .slice Fy rz.length rz.length, .slice Ec g1.length g1.length, .slice Fc r1.length r1.length, .slice Ed g1.length g1.length, .slice Fd r1.length r1.length, .slice Es gn.length gn.length, .slice Fs rn.length rn.length, .slice Et gn.length gn.length, .slice Ft rn.length rn.length] 30)
  refine (memories.calls [m_z, m_y, m_c, m_d, m_s, m_t] ⟨w_.heap.size, 0, none⟩ 6 u2.heap.size _ (six_hall hO) (hch.below hbA) (by simp) (fun m hm => by
    simp only [List.mem_cons, List.not_mem_nil, or_false] at hm
    rcases hm with rfl | rfl | rfl | rfl | rfl | rfl
    · exact HSz.out
    · exact HSy.out
    · exact HSc.out
    · exact HSd.out
    · exact HSs.out
    · exact HSt.out) (by simp)).mono ?_
  rintro e w5 ⟨rfl, hW⟩
  have hB3 : Below u2.heap.size u2 w5 := Below.trans (below_step HB2.out hbA) (hW.toBelow u2.heap.size (Nat.le_trans HB2.out.size hbA.size) (fun k hk => hk))
  clear m0_ m1_ m2_ m3_ a0_ a1_ i0_ i1_ i2_ i3_ x0_ x1_ z0_ z1_ y0_ y1_ c0_ c1_ d0_ d1_ s0_ s1_ t0_ t1_ o0_ o1_ n0_ n1_
  clear hW hbA hO hch HCH
  replace HB2 := Aside0.mk hB3
  clear hB3
  obtain ⟨m0_, m1_, m2_, m3_⟩ := va4 (blk_below HG0.out HB2.out)
  obtain ⟨⟨a0_, a1_⟩, _, _⟩ := blk2 (blk_below HG1.out HB2.out)
  obtain ⟨i0_, i1_, i2_, i3_⟩ := va4 (blk_below HQ1.out HB2.out)
  obtain ⟨⟨x0_, x1_⟩, _, _⟩ := blk2 (blk_below HQ2.out HB2.out)
  go_wp2_with fail
  refine (keptMemR _ _ g1 r1 _ (HK2.out.below HB2.out) ((Zh1.out.below HB.out).below HB2.out)).mono ?_
  rintro e w6 ⟨rfl, hb⟩
  clear m0_ m1_ m2_ m3_ a0_ a1_ i0_ i1_ i2_ i3_ x0_ x1_
  replace HB2 := Aside0.mk (below_step HB2.out hb)
  clear hb
  obtain ⟨m0_, m1_, m2_, m3_⟩ := va4 (blk_below HG0.out HB2.out)
  obtain ⟨⟨a0_, a1_⟩, _, _⟩ := blk2 (blk_below HG1.out HB2.out)
  obtain ⟨i0_, i1_, i2_, i3_⟩ := va4 (blk_below HQ1.out HB2.out)
  obtain ⟨⟨x0_, x1_⟩, _, _⟩ := blk2 (blk_below HQ2.out HB2.out)
  go_wp2_with fail
  refine (awakeC _).mono ?_
  rintro e w7 ⟨rfl, hb⟩
  clear m0_ m1_ m2_ m3_ a0_ a1_ i0_ i1_ i2_ i3_ x0_ x1_
  replace HB2 := Aside0.mk (below_step HB2.out hb)
  clear hb
  go_wp2
  go_ret
  exact ⟨rfl, Below.trans HB.out (below_low HB2.out HB.out.size)⟩
end Go.Proofs.Ytlnccdgclaalbaa.PJ

namespace Go.Proofs.Ytlnccdgclaalbaa.PJ
open Go.RowKit Go.Proofs.YtlnccdgclaalbaaW.PrintWords Go.Proofs.YtlnccdgclaalbaaW.PrintLast Go.Proofs.YtlnccdgclaalbaaW.PrintMore
set_option linter.unusedVariables false
set_option linter.unusedSimpArgs false
theorem bulk_one {H : Type} (d : DataW H) : 1 ≤ Rows.uptoBulk d := by
  cases d with
  | lit l => cases l <;> simp [Rows.uptoBulk]
  | nil => simp [Rows.uptoBulk]
  | ptr d => simp [Rows.uptoBulk]
  | slice elems spare => simp [Rows.uptoBulk]
  | agg parts => simp [Rows.uptoBulk]
  | iface t d => simp [Rows.uptoBulk]
  | map entries => simp [Rows.uptoBulk]
  | held h => simp [Rows.uptoBulk]
structure OpensU (P : Program) (t : TypeId) {α : Type} (d : Kd α) (ok : α → Prop) (bk : α → Nat) : Prop where
  sz : P.cellsOf t = d.sz
  op : ∀ {H : Type} {enc : TypeId × Value → H} {w : World} {base : Nat} {spare : Nat → Bool} {held : Bool} {fuel : Nat} {cs : List Value} {x : DataW H × List MemPlace},
    DataW.trod enc P w base spare held fuel t cs = some x → (∀ n ∈ x.1.weights P t, n ≤ reachBytes) → ∃ y, d.K w y cs ∧ ok y ∧ bk y + 1 ≤ Rows.uptoBulk x.1
structure OpensFU (P : Program) (fs : List Field) (off : Nat) {α : Type} (d : Kd α) (ok : α → Prop) (bk : α → Nat) : Prop where
  op : ∀ {H : Type} {enc : TypeId × Value → H} {w : World} {base : Nat} {spare : Nat → Bool} {held : Bool} {fuel : Nat} {cs : List Value} (xs : List (DataW H × List MemPlace)), xs.length = fs.length → cs.length = off + d.sz →
    (∀ (i : Nat) (f : Field), fs[i]? = some f → DataW.trod enc P w base spare held fuel f.type ((cs.drop f.offset).take (P.cellsOf f.type)) = xs[i]?) → (∀ n ∈ DataW.weightsEach P (fs.map (·.type)) (xs.map (·.1)), n ≤ reachBytes) → ∃ y, d.K w y (cs.drop off) ∧ ok y ∧ bk y ≤ Rows.uptoBulkAll (xs.map (·.1))
variable {P : Program} {t e : TypeId} {α β : Type}
theorem Opens.upto {d : Kd α} {ok : α → Prop} (h : Opens P t d ok) : OpensU P t d ok (fun _ => 0) :=
  ⟨h.sz, fun ht hw => by
    obtain ⟨y, h1, h2⟩ := h.op ht hw
    exact ⟨y, h1, h2, bulk_one _⟩⟩
def bkL (bk : α → Nat) (l : List α) : Nat := (l.map fun y => bk y + 1).sum
theorem bkL_le (bk : α → Nat) {H : Type} : ∀ (l : List α) (es : List (DataW H × List MemPlace)), l.length ≤ es.length → (∀ (i : Nat) (y : α), l[i]? = some y → ∃ z, es[i]? = some z ∧ bk y + 1 ≤ Rows.uptoBulk z.1) → bkL bk l ≤ Rows.uptoBulkAll (es.map (·.1))
  | [], es, _, _ => by simp [bkL]
  | y :: l, [], hl, _ => by simp at hl
  | y :: l, z :: es, hl, h => by
    obtain ⟨z', hz, hb⟩ := h 0 y rfl
    simp only [List.getElem?_cons_zero, Option.some.injEq] at hz
    subst hz
    have ih := bkL_le bk l es (by simpa using hl) (fun i y' hi => by simpa using h (i + 1) y' (by simpa using hi))
    simp only [bkL, List.map_cons, List.sum_cons, Rows.uptoBulkAll] at ih ⊢
    omega
theorem opensU_slice {d : Kd α} {ok : α → Prop} {bk : α → Nat} (ht : P.underlying t = some (.slice e)) (hc : P.cellsOf t = 1) (hd : OpensU P e d ok bk) : OpensU P t (Kd.slice e d) (fun l => (∀ x ∈ l, ok x) ∧ l.length * P.bytesOf e ≤ 140737488351232) (bkL bk) :=
  ⟨hc, by
    intro H enc w base spare held fuel cs x h hw
    rcases DataW.trod_slice ht h with ⟨rfl, _⟩ | ⟨a, len, cap, elems, rest, n, _, rfl, rfl, hb, hl, hm, hlen, hel, hsp, hns⟩
    · exact ⟨[], ⟨none, 0, rfl, Nat.le_refl _, Kd.C_nil _ _⟩, by simp, by simpa [bkL] using bulk_one x.1⟩
    · have each : ∀ i, i < len → ∃ y c, c.length = d.sz ∧ d.K w y c ∧ (∀ j u, c[j]? = some u → w.cell? (a.add (i * d.sz + j)) = some u) ∧ ok y ∧ ∃ z, elems[i]? = some z ∧ bk y + 1 ≤ Rows.uptoBulk z.1 := by
        intro i hi
        obtain ⟨z, hz⟩ : ∃ z, elems[i]? = some z := ⟨elems[i]'(by omega), List.getElem?_eq_getElem (by omega)⟩
        have h1 := hel i hi
        rw [hz] at h1
        obtain ⟨c, hc1, hc2⟩ := Option.bind_eq_some_iff.mp h1
        obtain ⟨_, hcl, hcc⟩ := World.cells?_some hc1
        obtain ⟨y, hK, hok, hbk⟩ := hd.op hc2 (fun m hm => hw m (by
          simp only [DataW.weights, ht, List.mem_cons, List.mem_append]
          exact .inr (.inl (all_weights (i := i) (d := z.1) (by simp [hz]) m hm))))
        refine ⟨y, c, hcl.trans hd.sz, hK, fun j u hj => ?_, hok, z, hz, hbk⟩
        have hjl : j < P.cellsOf e := by
          have := (List.getElem?_eq_some_iff.mp hj).1
          omega
        have h2 := hcc j hjl
        rw [hj] at h2
        rw [hd.sz] at h2
        rw [Addr.add_add] at h2
        exact h2
      obtain ⟨l, hll, hf⟩ := list_of_each len (fun i y => ∃ c, c.length = d.sz ∧ d.K w y c ∧ (∀ j u, c[j]? = some u → w.cell? (a.add (i * d.sz + j)) = some u) ∧ ok y ∧ ∃ z, elems[i]? = some z ∧ bk y + 1 ≤ Rows.uptoBulk z.1) each
      refine ⟨l, ⟨some a, cap, by rw [hll], by rw [hll]; exact hl, rfl, by have hmx : maxLen = 9223372036854775807 := rfl; rw [hll, ← hmx]; exact Nat.le_trans hl hm, fun h0 => ⟨a, rfl, fun j p hj => ?_⟩⟩, ⟨fun y hy => ?_, ?_⟩, ?_⟩
      · obtain ⟨c, h1, h2, h3, _⟩ := hf j p hj
        exact ⟨c, h1, h2, h3⟩
      · obtain ⟨i, hi⟩ := List.mem_iff_getElem?.mp hy
        obtain ⟨c, _, _, _, h4, _⟩ := hf i y hi
        exact h4
      · have := hw ((elems.length + rest.length) * P.bytesOf e) (by simp [DataW.weights, ht])
        have h2 : reachBytes = 140737488351232 := by decide
        have h3 : len * P.bytesOf e ≤ (elems.length + rest.length) * P.bytesOf e := Nat.mul_le_mul_right _ (by omega)
        rw [hll]
        omega
      · have := bkL_le bk l elems (by omega) (fun i y hi => by
          obtain ⟨c, _, _, _, _, h5⟩ := hf i y hi
          exact h5)
        simp only [Rows.uptoBulk]
        omega⟩
theorem opensFU_one {f : Field} {off : Nat} {d : Kd α} {ok : α → Prop} {bk : α → Nat} (ho : f.offset = off) (hd : OpensU P f.type d ok bk) : OpensFU P [f] off d ok bk :=
  ⟨by
    intro H enc w base spare held fuel cs xs hl hcs hx hw
    have h0 := hx 0 f rfl
    match xs, hl with
    | [x], _ =>
      have h1 : ((cs.drop off).take (P.cellsOf f.type)) = cs.drop off := List.take_of_length_le (by rw [List.length_drop, hd.sz]; omega)
      rw [ho, h1] at h0
      obtain ⟨y, a1, a2, a3⟩ := hd.op (by simpa using h0) (fun n hn => hw n (by simp [DataW.weightsEach, hn]))
      exact ⟨y, a1, a2, by simp only [List.map_cons, List.map_nil, Rows.uptoBulkAll]; omega⟩⟩
theorem opensFU_cons {f : Field} {fs : List Field} {off : Nat} {a : Kd α} {b : Kd β} {oka : α → Prop} {okb : β → Prop} {bka : α → Nat} {bkb : β → Nat} (ho : f.offset = off) (ha : OpensU P f.type a oka bka) (hb : OpensFU P fs (off + a.sz) b okb bkb) : OpensFU P (f :: fs) off (Kd.pair a b) (fun x => oka x.1 ∧ okb x.2) (fun x => bka x.1 + bkb x.2) :=
  ⟨by
    intro H enc w base spare held fuel cs xs hl hcs hx hw
    match xs, hl with
    | x :: xs, hl =>
      have h0 := hx 0 f rfl
      rw [ho, ha.sz] at h0
      have hsz : (Kd.pair a b).sz = a.sz + b.sz := rfl
      obtain ⟨y, hy, oky, by_⟩ := ha.op (by simpa using h0) (fun n hn => hw n (by simp [DataW.weightsEach, hn]))
      obtain ⟨z, hz, okz, bz⟩ := hb.op (cs := cs) xs (by simpa using hl) (by rw [hcs, hsz]; omega) (fun i g hg => by simpa using hx (i + 1) g (by simpa using hg)) (fun n hn => hw n (by simp [DataW.weightsEach, hn]))
      exact ⟨(y, z), ⟨(cs.drop off).take a.sz, cs.drop (off + a.sz), by rw [← List.drop_drop, List.take_append_drop], hy, hz⟩, ⟨oky, okz⟩, by simp only [List.map_cons, Rows.uptoBulkAll]; omega⟩⟩
theorem opensU_struct {fs : Array Field} {d : Kd α} {ok : α → Prop} {bk : α → Nat} (ht : P.underlying t = some (.struct fs)) (hc : P.cellsOf t = d.sz) (hf : OpensFU P fs.toList 0 d ok bk) : OpensU P t d ok bk :=
  ⟨hc, by
    intro H enc w base spare held fuel cs x h hw
    obtain ⟨xs, n, _, rfl, hl, hn, hx⟩ := DataW.trod_struct ht h
    obtain ⟨y, hy, oky, by_⟩ := hf.op (cs := cs) xs (by simpa using hn) (by rw [hl, hc]; omega) (fun i f hi => hx i f (by simpa using hi)) (fun m hm => hw m (by simpa [DataW.weights, ht] using hm))
    exact ⟨y, by simpa using hy, oky, by simp only [Rows.uptoBulk]; omega⟩⟩
theorem OpensU.imp {d : Kd α} {ok ok' : α → Prop} {bk : α → Nat} (h : OpensU P t d ok bk) (hi : ∀ x, ok x → ok' x) : OpensU P t d ok' bk :=
  ⟨h.sz, fun ht hw => by
    obtain ⟨y, hy, hok, hb⟩ := h.op ht hw
    exact ⟨y, hy, hi y hok, hb⟩⟩
/-- A parameter. -/
theorem OpensU.param {d : Kd α} {ok : α → Prop} {bk : α → Nat} (h : OpensU P t d ok bk) {H : Type} {enc : TypeId × Value → H} {w : World} {base : Nat} {spare : Nat → Bool} {held : Bool} {v : Value} {x : DataW H} {ps : List MemPlace} {ts : List TypeId} {ds : List (DataW H)} {j : Nat}
    (ht : DataW.Trod enc P w base spare held t v x ps) (hsz : (DataW.weightsEach P ts ds).all (· ≤ reachBytes) = true) (h1 : ts[j]? = some t) (h2 : ds[j]? = some x) : ∃ y, d.K w y v.cells.toList ∧ ok y ∧ bk y + 1 ≤ Rows.uptoBulk x := by
  obtain ⟨fuel, hf⟩ := ht
  exact h.op hf (fun n hn => by simpa using List.all_eq_true.1 hsz _ (DataW.weights_mem_each h1 h2 n hn))
/-! the parameters of ViewTells -/
theorem opensUInt64s : OpensU Try.prog 27 (Kd.slice 2 (Kd.int .i64)) (fun l => (∀ x ∈ l, (Lit.int .i64 x).wf = true) ∧ l.length * 8 ≤ 140737488351232) (bkL (fun _ => 0)) :=
  (opensU_slice Try.underlying27 (by kernel_rfl) opensInt64.upto).imp (fun x h => ⟨h.1, by rw [show Program.bytesOf Try.prog 2 = 8 by kernel_rfl] at h; exact h.2⟩)
theorem opensURows : OpensU Try.prog 28 (Kd.slice 27 (Kd.slice 2 (Kd.int .i64))) (fun l => (∀ x ∈ l, (∀ y ∈ x, (Lit.int .i64 y).wf = true) ∧ x.length * 8 ≤ 140737488351232) ∧ l.length * 24 ≤ 140737488351232) (bkL (bkL (fun _ => 0))) :=
  (opensU_slice Try.underlying28 (by kernel_rfl) opensUInt64s).imp (fun x h => ⟨h.1, by rw [show Program.bytesOf Try.prog 27 = 24 by kernel_rfl] at h; exact h.2⟩)
theorem opensUMem : OpensU Try.prog 30 kMem okMem (fun x => bkL (fun _ => 0) x.1 + bkL (bkL (fun _ => 0)) x.2) :=
  (opensU_struct (d := kMem) Try.underlying30 (by kernel_rfl) (opensFU_cons rfl opensUInt64s (opensFU_one rfl opensURows))).imp (fun _ h => h)
theorem opensULabels : OpensU Try.prog 22 (Kd.slice 32 (Kd.int .u64)) (fun l => (∀ x ∈ l, (Lit.int .u64 x).wf = true) ∧ l.length * 8 ≤ 140737488351232) (bkL (fun _ => 0)) :=
  (opensU_slice Try.underlying22 (by kernel_rfl) opensLabel.upto).imp (fun x h => ⟨h.1, by rw [show Program.bytesOf Try.prog 32 = 8 by kernel_rfl] at h; exact h.2⟩)
theorem opensUArrs : OpensU Try.prog 23 (Kd.slice 57 k57) (fun l => (∀ x ∈ l, (Lit.int .i64 x.f0).wf = true ∧ (Lit.int .u64 x.f1).wf = true) ∧ l.length * 16 ≤ 140737488351232) (bkL (fun _ => 0)) :=
  (opensU_slice Try.underlying23 (by kernel_rfl) opens57.upto).imp (fun x h => ⟨h.1, by rw [show Program.bytesOf Try.prog 57 = 16 by kernel_rfl] at h; exact h.2⟩)
theorem opensUMod : OpensU Try.prog 26 kMod (fun m => ((∀ y ∈ m.1, (Lit.int .u64 y).wf = true) ∧ m.1.length * 8 ≤ 140737488351232) ∧ ((∀ x ∈ m.2.1, (Lit.int .i64 x.f0).wf = true ∧ (Lit.int .u64 x.f1).wf = true) ∧ m.2.1.length * 16 ≤ 140737488351232) ∧ ((∀ y ∈ m.2.2.1, (Lit.int .u64 y).wf = true) ∧ m.2.2.1.length * 8 ≤ 140737488351232) ∧ ((∀ x ∈ m.2.2.2, okFunc x) ∧ m.2.2.2.length * 96 ≤ 140737488351232))
    (fun m => bkL (fun _ => 0) m.1 + (bkL (fun _ => 0) m.2.1 + (bkL (fun _ => 0) m.2.2.1 + 0))) :=
  (opensU_struct (d := kMod) Try.underlying26 (by kernel_rfl) (opensFU_cons rfl opensULabels (opensFU_cons rfl opensUArrs (opensFU_cons rfl opensULabels (opensFU_one rfl opensFuncs.upto))))).imp (fun _ h => h)
theorem bkL_len (bk : α → Nat) (l : List α) : l.length ≤ bkL bk l := by
  induction l with
  | nil => simp [bkL]
  | cons y l ih => simp only [bkL, List.map_cons, List.sum_cons, List.length_cons] at ih ⊢; omega
theorem bkL_mem (bk : α → Nat) {l : List α} {y : α} (h : y ∈ l) : bk y + 1 ≤ bkL bk l := by
  induction l with
  | nil => cases h
  | cons x l ih =>
    simp only [bkL, List.map_cons, List.sum_cons] at ih ⊢
    rcases List.mem_cons.1 h with rfl | h
    · omega
    · have := ih h
      omega
end Go.Proofs.Ytlnccdgclaalbaa.PJ

namespace Go.Proofs.Ytlnccdgclaalbaa.PJ
open Go.RowKit Go.Proofs.YtlnccdgclaalbaaW.PrintWords Go.Proofs.YtlnccdgclaalbaaW.PrintLast Go.Proofs.YtlnccdgclaalbaaW.PrintMore
set_option linter.unusedVariables false
abbrev ModZb : Type := List Int × List S57 × List Int × List S48
def okModB (m : ModZb) : Prop := ((∀ y ∈ m.1, (Lit.int .u64 y).wf = true) ∧ m.1.length * 8 ≤ 140737488351232) ∧ ((∀ x ∈ m.2.1, (Lit.int .i64 x.f0).wf = true ∧ (Lit.int .u64 x.f1).wf = true) ∧ m.2.1.length * 16 ≤ 140737488351232) ∧ ((∀ y ∈ m.2.2.1, (Lit.int .u64 y).wf = true) ∧ m.2.2.1.length * 8 ≤ 140737488351232) ∧ ((∀ x ∈ m.2.2.2, okFunc x) ∧ m.2.2.2.length * 96 ≤ 140737488351232)
def bkMod (m : ModZb) : Nat := bkL (fun _ => 0) m.1 + (bkL (fun _ => 0) m.2.1 + (bkL (fun _ => 0) m.2.2.1 + 0))
def bkMem (x : List Int × List (List Int)) : Nat := bkL (fun _ => 0) x.1 + bkL (bkL (fun _ => 0)) x.2
theorem modB_of {w : World} {cs : Array Value} {z : ModZb} (h : kMod.K w z cs.toList) : ModR w (.agg cs) z.1 z.2.1 z.2.2.1 z.2.2.2 := by
  obtain ⟨_, _, e, ⟨A0, c0, rfl, h0, g0⟩, ⟨_, _, rfl, ⟨A1, c1, rfl, h1, g1⟩, ⟨_, _, rfl, ⟨A2, c2, rfl, h2, g2⟩, ⟨A3, c3, rfl, h3, g3⟩⟩⟩⟩ := h
  have : cs = #[.slice A0 z.1.length c0, .slice A1 z.2.1.length c1, .slice A2 z.2.2.1.length c2, .slice A3 z.2.2.2.length c3] := by
    apply Array.toList_inj.mp
    simpa using e
  exact ⟨A0, c0, A1, c1, A2, c2, A3, c3, by rw [this], g0, h0, g1, h1, g2, h2, g3, h3⟩
theorem memB_of {w : World} {cs : Array Value} {z : List Int × List (List Int)} (h : kMem.K w z cs.toList) : MemR w (.agg cs) z.1 z.2 := by
  obtain ⟨_, _, e, ⟨A0, c0, rfl, h0, g0⟩, ⟨A1, c1, rfl, h1, g1⟩⟩ := h
  have : cs = #[.slice A0 z.1.length c0, .slice A1 z.2.length c1] := by
    apply Array.toList_inj.mp
    simpa using e
  exact ⟨A0, c0, A1, c1, by rw [this], g0, h0, g1, h1⟩
theorem sizesB {z : List Int × List (List Int)} (h : okMem z) : (z.1.length + 1) * 8 ≤ 140737488355328 ∧ (z.2.length + 1) * 24 ≤ 140737488355328 ∧ ∀ x ∈ z.2, (x.length + 1) * 8 ≤ 140737488355328 := ⟨by have := h.1.2; omega, by have := h.2.2; omega, fun x hx => by have := (h.2.1 x hx).2; omega⟩
theorem louverlaw20_ViewTells.walk (cs0 : Array Value) (z0 : ModZb) (cs1 : Array Value) (z1 : List Int × List (List Int)) (a2 : Int) (w : World)
    (w0 : kMod.K w z0 cs0.toList) (y0 : okModB z0) (w1 : kMem.K w z1 cs1.toList) (y1 : okMem z1) (w2 : (Lit.int .u64 a2).wf = true) (hb : bkMod z0 + bkMem z1 ≤ 1048576) :
    Calls Try.prog 3 #[.agg cs0, .agg cs1, .int .u64 a2] w fun e w' => e = .returned (.bool true) ∧ Below w.heap.size w w' := by
  obtain ⟨gs, arr, l2, l3⟩ := z0
  obtain ⟨g1, r1⟩ := z1
  obtain ⟨A0, c0, A1, c1, A2, c2, A3, c3, e0, m⟩ := modB_of w0
  obtain ⟨P1, p1, Q1, q1, e1, n1⟩ := memB_of w1
  have hm : ModR w (.agg #[.slice A0 gs.length c0, .slice A1 arr.length c1, .slice A2 l2.length c2, .slice A3 l3.length c3]) gs arr l2 l3 := ⟨A0, c0, A1, c1, A2, c2, A3, c3, rfl, m⟩
  have h1 : MemR w (.agg #[.slice P1 g1.length p1, .slice Q1 r1.length q1]) g1 r1 := ⟨P1, p1, Q1, q1, rfl, n1⟩
  rw [e0, e1]
  have t1 := sizesB y1
  simp only [bkMod, bkMem] at hb
  have b1 := bkL_len (fun _ => 0) gs
  have b2 := bkL_len (fun _ => 0) arr
  have b3 := bkL_len (fun _ => 0) g1
  have b4 := bkL_len (bkL (fun _ => 0)) r1
  have s1 : Sized 1048576 g1 r1 := ⟨by omega, by omega, by omega, fun x hx => by
    have h2 := bkL_mem (bkL (fun _ => 0)) hx
    have h3 := bkL_len (fun _ => 0) x
    omega⟩
  obtain ⟨⟨wg, b0⟩, ⟨wa, c1_⟩, ⟨_, c2_⟩, ⟨wf, c3_⟩⟩ := y0
  simp only at wg b0 wa c1_ c2_ wf c3_
  exact viewTells.calls A0 A1 A2 A3 c0 c1 c2 c3 gs arr l2 l3 P1 Q1 p1 q1 g1 r1 a2 w hm h1 s1 (by omega) (by omega) w2 wg (fun a ha => (wa a ha).2)
    (by omega) (by omega) (by omega) (by omega) (fun x hx => by
      obtain ⟨_, ⟨_, t1⟩, ⟨_, t2⟩, _, _, ⟨_, t3⟩⟩ := wf x hx
      exact ⟨by omega, by omega, by omega⟩) t1
end Go.Proofs.Ytlnccdgclaalbaa.PJ
