/- Rows whose capacity is their length, by their blocks; append to such a row. -/
import Derived.Test.YtgpdaihfjnihhaaDoorQHandApart
import Derived.WalkKit
namespace Go.Proofs.YtgpdaihfjnihhaaDoor.PJ
open Go.RowKit Go.Proofs.YtgpdaihfjnihhaaDoorW.PrintWords Go.Proofs.YtgpdaihfjnihhaaDoorW.PrintLast Go.Proofs.YtgpdaihfjnihhaaDoorW.PrintMore
set_option linter.unusedSimpArgs false
set_option linter.unusedVariables false
theorem Wrote.put {S : Nat → Prop} {w W : World} (h : Wrote S w W) {p : Addr} (hs : S p.block ∨ w.heap.size ≤ p.block) (y : Value) : Wrote S w (W.setCell p y) :=
 ⟨h.os, h.tape, h.output, by simpa [World.setCell] using h.size, fun k hk hn => (Below.heap_setCell W p y k (fun e => by
  rcases hs with h1 | h1
  ·
   exact hn (e ▸ h1)
  ·
   omega)).trans (h.block k hk hn)⟩
structure Bks (t sz n : Nat) (m : Nat → Nat) (V : Nat → Option Addr) (G : Nat → Nat) (W : World) (C : Nat → Array Value) : Prop where
 at_ : ∀ i, i < n → 0 < m i → V i = some ⟨G i, 0, none⟩
 blk : ∀ i, i < n → 0 < m i → W.heap[G i]? = some (.cells (C i) t (0, 0))
 room : ∀ i, i < n → 0 < m i → m i * sz ≤ (C i).size
 one : ∀ i j, i < n → j < n → 0 < m i → 0 < m j → G i = G j → i = j
section
variable {t sz n : Nat} {m : Nat → Nat} {V : Nat → Option Addr} {G : Nat → Nat} {W W' : World} {C : Nat → Array Value}
theorem Bks.step (h : Bks t sz n m V G W C) (hm : ∀ i, i < n → 0 < m i → G i < W.heap.size → W'.heap[G i]? = W.heap[G i]?) : Bks t sz n m V G W' C :=
 ⟨h.at_, fun i hi hp => (hm i hi hp (blk_lt (h.blk i hi hp))).trans (h.blk i hi hp), h.room, h.one⟩
theorem Bks.below (h : Bks t sz n m V G W C) (hb : Below W.heap.size W W') : Bks t sz n m V G W' C := h.step (fun i _ _ hk => hb.block _ hk)
theorem Bks.put (h : Bks t sz n m V G W C) {i g : Nat} (hi : i < n) (hp : 0 < m i) (hg : G i = g) (q : Nat) (y : Value) : Bks t sz n m V G (W.setCell ⟨g, q, none⟩ y) (fun j => if j = i then (C i).setIfInBounds q y else C j) := by
 subst hg
 refine ⟨h.at_, fun j hj hq => ?_, fun j hj hq => ?_, h.one⟩
 ·
  by_cases e : j = i
  ·
   subst e
   simp only [if_true]
   exact blk_put (h.blk j hj hq) q y rfl
  ·
   simp only [e, if_false]
   exact (Below.heap_setCell W ⟨G i, q, none⟩ y (G j) (fun he => e (h.one j i hj hi hq hp he))).trans (h.blk j hj hq)
 ·
  by_cases e : j = i
  ·
   subst e
   simp only [if_true, Array.size_setIfInBounds]
   exact h.room j hj hq
  ·
   simp only [e, if_false]
   exact h.room j hj hq
theorem Bks.cell (h : Bks t sz n m V G W C) {i : Nat} (hi : i < n) {k q : Nat} (hk : k < m i) (hq : q < sz) : ∃ y, W.cell? ⟨G i, k * sz + q, none⟩ = some y ∧ W.frozen? ⟨G i, k * sz + q, none⟩ = false := by
 have hp : 0 < m i := by omega
 have h1 := h.room i hi hp
 have h2 : k * sz + q < m i * sz := by
  have := Nat.mul_le_mul_right sz (show k + 1 ≤ m i by omega)
  rw [Nat.add_mul] at this
  omega
 exact ⟨_, (blk_cell (h.blk i hi hp) (k * sz + q)).trans (Array.getElem?_eq_getElem (by omega)), blk_frozen (h.blk i hi hp) _⟩
end
theorem set_ne {c : Array Value} {i j : Nat} {y : Value} (h : i ≠ j) : (c.setIfInBounds i y)[j]? = c[j]? := by simp [Array.getElem?_setIfInBounds, h]
theorem set_eq {c : Array Value} {i : Nat} {y : Value} (h : i < c.size) : (c.setIfInBounds i y)[i]? = some y := by simp [Array.getElem?_setIfInBounds, h]
def RawOk (sz : Nat) (rows : List (List Value)) : Prop := ∀ c ∈ rows, c.length = sz ∧ ∀ u ∈ c, u.oneCell' = true
theorem reps_raw {sz : Nat} {rows : List (List Value)} (h : RawOk sz rows) : Reps (fun (x cs : List Value) => cs = x ∧ cs.length = sz ∧ ∀ u ∈ cs, u.oneCell' = true) sz rows rows.flatten := by
 have key : ∀ (n : Nat) (rs : List (List Value)), rs.length = n → RawOk sz rs → Reps (fun (x cs : List Value) => cs = x ∧ cs.length = sz ∧ ∀ u ∈ cs, u.oneCell' = true) sz rs rs.flatten := by
  intro n
  induction n with
  | zero =>
   intro rs hl _
   rw [List.eq_nil_of_length_eq_zero hl]
   exact Reps.none _ _
  | succ n ih =>
   intro rs hl hr
   rcases List.eq_nil_or_concat rs with e | ⟨init, last, e⟩
   ·
    rw [e] at hl; simp at hl
   ·
    rw [e] at hl hr ⊢
    rw [List.concat_eq_append] at hl hr ⊢
    rw [List.flatten_append, List.flatten_cons, List.flatten_nil, List.append_nil]
    have hlast := hr last (by simp)
    exact (ih init (by simpa using hl) (fun c hc => hr c (by simp [hc]))).snoc ⟨rfl, hlast.1, hlast.2⟩ hlast.1
 exact key _ rows rfl h
theorem flat_at {sz : Nat} : ∀ {rows : List (List Value)}, (∀ c ∈ rows, c.length = sz) → ∀ {j i : Nat} {c : List Value} {u : Value}, rows[j]? = some c → c[i]? = some u → rows.flatten[j * sz + i]? = some u
 | [], _, j, i, c, u, hj, _ => by simp at hj
 | r :: rs, h, 0, i, c, u, hj, hi => by
  have e : r = c := by simpa using hj
  subst e
  rw [List.flatten_cons, Nat.zero_mul, Nat.zero_add, List.getElem?_append_left (List.getElem?_eq_some_iff.1 hi).1]
  exact hi
 | r :: rs, h, j + 1, i, c, u, hj, hi => by
  have h1 := flat_at (rows := rs) (fun c hc => h c (List.mem_cons_of_mem _ hc)) (j := j) (i := i) (by simpa using hj) hi
  have h2 := h r (List.mem_cons_self ..)
  rw [List.flatten_cons, List.getElem?_append_right (by rw [h2, Nat.add_mul]; omega), h2, show (j + 1) * sz + i - sz = j * sz + i by rw [Nat.add_mul]; omega]
  exact h1
theorem flat_len {sz : Nat} : ∀ {rows : List (List Value)}, (∀ c ∈ rows, c.length = sz) → rows.flatten.length = rows.length * sz
 | [], _ => by simp
 | r :: rs, h => by
  rw [List.flatten_cons, List.length_append, flat_len (fun c hc => h c (List.mem_cons_of_mem _ hc)), h r (List.mem_cons_self ..), List.length_cons, Nat.add_mul]
  omega
theorem rawC_ok {sz : Nat} {W : World} {A : Option Addr} {rows : List (List Value)} (h : Kd.C (Kd.raw sz) W A rows.length rows) : RawOk sz rows := fun c hc => by
 obtain ⟨j, hj, rfl⟩ := List.mem_iff_getElem.1 hc
 obtain ⟨ad, _, hcc⟩ := h.2.2 (by omega)
 obtain ⟨c2, _, h2, _⟩ := hcc j _ (List.getElem?_eq_getElem hj)
 obtain ⟨e, h3, h4⟩ := h2
 subst e
 exact ⟨h3, h4⟩
theorem rawC_cells {sz : Nat} (hs : 0 < sz) {W : World} {b : Addr} {rows : List (List Value)} (h : Kd.C (Kd.raw sz) W (some b) rows.length rows) : ∀ j u, rows.flatten[j]? = some u → W.cell? (b.add j) = some u := by
 intro j u hj
 have hok := rawC_ok h
 have hlen := flat_len (fun c hc => (hok c hc).1)
 have hjl : j < rows.flatten.length := (List.getElem?_eq_some_iff.1 hj).1
 have hd : j / sz < rows.length := (Nat.div_lt_iff_lt_mul hs).2 (by rw [← hlen]; exact hjl)
 obtain ⟨ad, e, hcc⟩ := h.2.2 (Nat.lt_of_le_of_lt (Nat.zero_le _) hd)
 injection e with e
 subst e
 obtain ⟨c2, h1, h2, h3⟩ := hcc (j / sz) _ (List.getElem?_eq_getElem hd)
 obtain ⟨e, _, _⟩ := h2
 have hm : j % sz < rows[j / sz].length := by rw [(hok _ (List.getElem_mem hd)).1]; exact Nat.mod_lt _ hs
 have h4 := flat_at (fun c hc => (hok c hc).1) (List.getElem?_eq_getElem hd) (List.getElem?_eq_getElem hm)
 have hje : j / sz * sz + j % sz = j := by rw [Nat.mul_comm]; exact Nat.div_add_mod j sz
 rw [hje, hj] at h4
 have h5 := h3 (j % sz) u (by rw [e, List.getElem?_eq_getElem hm]; exact h4.symm)
 rw [show j / sz * (Kd.raw sz).sz + j % sz = j from hje] at h5
 exact h5
theorem append_one_raw {P : Program} {ops : Array Oper} {rest : List Oper} {o : Oper} {a : Act} {Q : Exit → Act → World → Prop} {sz : Nat} {W : World} (hgd : o.guard = none) (s x : Operand) (t e : TypeId) (z : Value) (bytes : Nat)
  (ho : o.op = .call { callee := .builtin .append, args := #[s, x], argTypes := #[t, t] })
  (ht : P.underlying t = some (.slice e)) (hinfo : (P.info? e).map (fun i => (i.zero, i.size, i.bytes)) = some (some z, sz, bytes)) (hz : z.cells.size = sz) (hs0 : 0 < sz) (hb0 : 0 < bytes)
  (rows : List (List Value)) (cs : List Value) (hcs : cs.length = sz ∧ ∀ u ∈ cs, u.oneCell' = true) (A : Option Addr) (hs : a.eval s = .slice A rows.length rows.length) (hx : a.eval x = .slice (some ⟨W.heap.size, 0, none⟩) 1 1)
  (HX : Kd.C (Kd.raw sz) W A rows.length rows) (hl : (rows.length + 1) * bytes ≤ 140737488355328)
  (h : ∀ v1 w1, Kd.R (Kd.raw sz) e w1 W.heap.size (fun j => W.heap.size ≤ j) v1 (rows ++ [cs]) → Below W.heap.size W w1 → wpList P ops Q rest (a.put o.dst v1) w1) :
  wpList P ops Q (o :: rest) a (W.alloc (.cells cs.toArray e)) := by
 have hok := rawC_ok HX
 cases A with
 | none =>
  have hr0 : rows = [] := by
   cases rows with
   | nil => rfl
   | cons r rs =>
    obtain ⟨ad, e1, _⟩ := HX.2.2 (by simp)
    cases e1
  subst hr0
  refine Kd.R_append (Kd.raw sz) (w0 := W) W.heap.size hgd s x t e z bytes ho ht hinfo hz hs0 hb0 (.slice none 0 0) [] cs cs (fun j => W.heap.size ≤ j) (fun _ => False) hs hx (Kd.FK_raw (d := Kd.raw sz) (W := W) (ok := fun _ => False) (fun _ _ => ⟨rfl, hcs.1, hcs.2⟩)) (fun _ hk => hk.elim) (fun _ hk => hk) (Kd.R_nil _ _ _ _ _) (Below.refl _ _) (Nat.le_refl _) (by simpa using hl) ?_
  intro v1 w1 hown hb hg hat
  exact h v1 w1 hown hb
 | some b =>
  obtain ⟨i0, hi, hzz⟩ := Option.map_eq_some_iff.1 hinfo
  simp only [Prod.mk.injEq] at hzz
  obtain ⟨hz0, hz1, hz2⟩ := hzz
  have hlen : rows.length + 1 ≤ 140737488355328 := Nat.le_trans (Nat.le_mul_of_pos_right _ hb0) hl
  have HX' : Kd.C (Kd.raw sz) (W.alloc (.cells cs.toArray e)) (some b) rows.length rows := Kd.C_below HX (below_alloc (Below.refl _ _) _)
  have hfl := flat_len (fun c hc => (hok c hc).1)
  obtain ⟨v1, w1, hr, ho', hg⟩ := run_append_arg_grows (P := P) (w := W.alloc (.cells cs.toArray e)) t o.type e i0 z sz bytes ht hi hz0 hz1 hz2 hz (by omega) b rows.length rows.length rows.flatten hfl (rawC_cells hs0 HX') ⟨W.heap.size, 0, none⟩ 1 1 cs (by rw [hcs.1, Nat.one_mul])
   (World.news_of_block (cs := cs.toArray) (t := e) (fr := (0, 0)) (heap_alloc_new W _)) (by omega) (by simp only [maxLen]; omega) hl
  have hb1 : Below W.heap.size W w1 := by
   have h0 : Below W.heap.size W (W.alloc (.cells cs.toArray e)) := below_alloc (Below.refl _ _) _
   exact h0.grown hg (by simp) (fun q hq => by cases hq)
  have hown : Kd.R (Kd.raw sz) e w1 W.heap.size (fun j => W.heap.size ≤ j) v1 (rows ++ [cs]) := by
   have h2 := own_weaken ho' (base' := W.heap.size) (by simp)
   have h3 := (reps_raw hok).snoc (R := fun (x cs : List Value) => cs = x ∧ cs.length = sz ∧ ∀ u ∈ cs, u.oneCell' = true) (p := cs) (c := cs) ⟨rfl, hcs.1, hcs.2⟩ hcs.1
   refine ⟨fun k hk => own_base h2 k hk, _, ?_, h3⟩
   rw [List.length_append]
   exact h2
  refine wpList_plain hgd fun K hK => ?_
  unfold Oper.wp execOp
  simp only [ho, resolve, invoke, builtin, Sem.run_bind, Sem.run_pure, Result.andThen_ok, List.map_toArray, List.map_cons, List.map_nil, hs, hx, hr]
  exact hK _ _ (h v1 w1 hown hb1)
theorem u64_sm {i : Int} (h0 : 0 ≤ i) (h : i ≤ 18446744073709551615) : IntKind.u64.wrap i = i := by
 have : IntKind.u64.wrap i = i % 18446744073709551616 := rfl
 omega
theorem arA {i : Nat} (h : i ≤ 1000000000) : wrap64 (1000 * (i : Int)) = 1000 * (i : Int) := by unfold wrap64; omega
theorem arB {i k : Nat} (h : i ≤ 1000000000) (hk : k ≤ 1000000000) : wrap64 (1000 * (i : Int) + (k : Int)) = 1000 * (i : Int) + (k : Int) := by unfold wrap64; omega
theorem arC {i k : Nat} (h : i ≤ 1000000000) (hk : k ≤ 1000000000) : IntKind.u64.wrap (1000 * (i : Int) + (k : Int)) = 1000 * (i : Int) + (k : Int) := u64_sm (by omega) (by omega)
theorem arD {i : Nat} (h : i ≤ 1000000000) : wrap64 (500000 + 1000 * (i : Int)) = 500000 + 1000 * (i : Int) := by unfold wrap64; omega
theorem arE {i : Nat} (h : i ≤ 1000000000) : IntKind.u64.wrap (500000 + 1000 * (i : Int)) = 500000 + 1000 * (i : Int) := u64_sm (by omega) (by omega)
theorem arF {i k : Nat} (h : i ≤ 1000000000) (hk : k ≤ 1000000000) : wrap64 (500000 + 1000 * (i : Int) + (k : Int)) = 500000 + 1000 * (i : Int) + (k : Int) := by unfold wrap64; omega
theorem arG {i k : Nat} (h : i ≤ 1000000000) (hk : k ≤ 1000000000) : IntKind.u64.wrap (500000 + 1000 * (i : Int) + (k : Int)) = 500000 + 1000 * (i : Int) + (k : Int) := u64_sm (by omega) (by omega)
theorem ar1 {i : Nat} (h : i ≤ 1000000000) : wrap64 ((i : Int) + 1) = (i : Int) + 1 := by unfold wrap64; omega
theorem ne2 (q : Nat) : q * 2 + 1 ≠ q * 2 := by omega
theorem rm2 {k m s : Nat} (h : k < m) (hs : m * 2 ≤ s) : k * 2 < s ∧ k * 2 + 1 < s := by omega
theorem rows_at (f : Nat → List Value) (q j : Nat) (h : j < q) : ((List.range q).map f)[j]? = some (f j) := by simp [List.getElem?_range h]
end Go.Proofs.YtgpdaihfjnihhaaDoor.PJ
