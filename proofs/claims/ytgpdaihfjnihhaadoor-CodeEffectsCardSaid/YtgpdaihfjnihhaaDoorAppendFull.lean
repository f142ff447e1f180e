/- append(x, y...) where x is a row that is only read and has no room (its capacity is its length): the row of both, nothing elder written. -/
import Derived.Test.YtgpdaihfjnihhaaDoorPJx0
import Derived.WalkKit
namespace Go.Proofs.YtgpdaihfjnihhaaDoor.PJ
open Go.RowKit Go.Proofs.YtgpdaihfjnihhaaDoorW.PrintWords Go.Proofs.YtgpdaihfjnihhaaDoorW.PrintLast Go.Proofs.YtgpdaihfjnihhaaDoorW.PrintMore

theorem C_none {α : Type} {d : Kd α} {W : World} {n : Nat} {xs : List α} (h : Kd.C d W none n xs) : xs = [] ∧ n = 0 := by
  by_cases h0 : 0 < n
  · obtain ⟨_, e, _⟩ := h.2.2 h0
    cases e
  · have := h.1
    exact ⟨List.eq_nil_of_length_eq_zero (by omega), by omega⟩
theorem C_cells {k : IntKind} {W : World} {b : Addr} {n : Nat} {xs : List Int} (h : Kd.C (Kd.int k) W (some b) n xs) : ∀ j u, (xs.map (Value.int k))[j]? = some u → W.cell? (b.add j) = some u := by
  intro j u hu
  rw [List.getElem?_map] at hu
  obtain ⟨x, hx, rfl⟩ := Option.map_eq_some_iff.mp hu
  have hj : j < xs.length := (List.getElem?_eq_some_iff.mp hx).1
  obtain ⟨ad, e, hc⟩ := h.2.2 (by have := h.1; omega)
  injection e with e
  subst e
  obtain ⟨cs, h1, h2, h3⟩ := hc j x hx
  have e2 : cs = [.int k x] := h2
  have := h3 0 (.int k x) (by rw [e2]; rfl)
  have e3 : j * (Kd.int k).sz + 0 = j := by show j * 1 + 0 = j; omega
  rw [e3] at this
  exact this
theorem append_full {P : Program} {ops : Array Oper} {rest : List Oper} {o : Oper} {a : Act} {Q : Exit → Act → World → Prop} {k : IntKind} {W : World} (hgd : o.guard = none) (s x : Operand) (t e : TypeId) (bytes : Nat)
    (ho : o.op = .call { callee := .builtin .append, args := #[s, x], argTypes := #[t, t] })
    (ht : P.underlying t = some (.slice e)) (hinfo : (P.info? e).map (fun i => (i.zero, i.size, i.bytes)) = some (some (.int k 0), 1, bytes)) (hb0 : 0 < bytes)
    (xs ys zs : List Int) (hzs : xs ++ ys = zs) (A A' : Option Addr) (m c : Nat) (hs : a.eval s = .slice A xs.length xs.length) (hx : a.eval x = .slice A' m c)
    (HX : Kd.C (Kd.int k) W A xs.length xs) (HR : Kd.C (Kd.int k) W A' m ys) (hl : (xs.length + m) * bytes ≤ 140737488355328)
    (h : ∀ v1 w1, (∃ B c', v1 = .slice B zs.length c' ∧ zs.length ≤ c' ∧ Kd.C (Kd.int k) w1 B zs.length zs) → Below W.heap.size W w1 → wpList P ops Q rest (a.put o.dst v1) w1) :
    wpList P ops Q (o :: rest) a W := by
  subst hzs
  obtain ⟨i0, hi, hzz⟩ := Option.map_eq_some_iff.1 hinfo
  simp only [Prod.mk.injEq] at hzz
  obtain ⟨hz0, hz1, hz2⟩ := hzz
  have hm : ys.length = m := HR.1
  have hlen : xs.length + m ≤ 140737488355328 := Nat.le_trans (Nat.le_mul_of_pos_right _ hb0) hl
  have hrun : ∃ v1 w1, (Builtin.append_ #[t, t] o.type #[.slice A xs.length xs.length, .slice A' m c]).run P W = .ok v1 w1 ∧ (∃ B c', v1 = .slice B (xs ++ ys).length c' ∧ (xs ++ ys).length ≤ c' ∧ Kd.C (Kd.int k) w1 B (xs ++ ys).length (xs ++ ys)) ∧ Below W.heap.size W w1 := by
    by_cases h0 : m = 0
    · subst h0
      obtain rfl : ys = [] := List.eq_nil_of_length_eq_zero hm
      refine ⟨.slice A xs.length xs.length, W, ?_, ⟨A, xs.length, by rw [List.append_nil], by rw [List.append_nil]; exact Nat.le_refl _, by rw [List.append_nil]; exact HX⟩, Below.refl _ _⟩
      cases A' <;> cases A with
      | none =>
        obtain ⟨rfl, _⟩ := C_none HX
        simp [Builtin.append_, run_underlying ht, sizeOf, typeInfo, hi, Builtin.lenOf, Builtin.firstCells, loadCells, loadCellsFrom, Result.andThen]
      | some ad => simp [Builtin.append_, run_underlying ht, sizeOf, typeInfo, hi, Builtin.lenOf, Builtin.firstCells, storeCells, loadCells, loadCellsFrom, Result.andThen]
    · cases A' with
      | none => exact absurd (C_none HR).2 h0
      | some b' =>
        have hnews : (ys.map (Value.int k)).length = m * 1 := by rw [List.length_map, hm, Nat.mul_one]
        have hone : ∀ u ∈ ys.map (Value.int k), u.oneCell' = true := by
          intro u hu
          obtain ⟨y, _, rfl⟩ := List.mem_map.mp hu
          rfl
        have fin : ∀ v1 w1, (w1.ownsRow W.heap.size e 1 v1 (xs.length + m) (xs.map (Value.int k) ++ ys.map (Value.int k))) → ∃ B c', v1 = .slice B (xs ++ ys).length c' ∧ (xs ++ ys).length ≤ c' ∧ Kd.C (Kd.int k) w1 B (xs ++ ys).length (xs ++ ys) := by
          intro v1 w1 hown
          rw [← hm, ← List.length_append, ← List.map_append] at hown
          have hR : Kd.R (Kd.int k) e w1 W.heap.size (fun _ => True) v1 (xs ++ ys) := Kd.R_of_own hown (fun _ _ => trivial)
          obtain ⟨B, c', rfl⟩ := Kd.R_slice hR
          obtain ⟨_, h2, h3⟩ := Kd.R_reads' hR
          exact ⟨B, c', rfl, h2, h3⟩
        cases A with
        | none =>
          obtain ⟨rfl, _⟩ := C_none HX
          obtain ⟨v1, w1, hr, ho', hg, _, hat⟩ := run_append_own_at (P := P) W W.heap.size t o.type e i0 (.int k 0) 1 bytes ht hi hz0 hz1 hz2 rfl (by omega) (.slice none 0 0) 0 [] ⟨rfl, .inl ⟨rfl, rfl⟩⟩ b' m c _ hnews (C_cells HR) hone (by simp only [maxLen]; omega) (by simpa using hl) (Nat.le_refl _)
          refine ⟨v1, w1, hr, fin v1 w1 (by simpa using ho'), Below.grown (Below.refl _ _) hg (Nat.le_refl _) (by intro q hq; simp [Value.ownBlock] at hq)⟩
        | some b =>
          obtain ⟨v1, w1, hr, ho', hg⟩ := run_append_arg_grows (P := P) (w := W) t o.type e i0 (.int k 0) 1 bytes ht hi hz0 hz1 hz2 rfl (by omega) b xs.length xs.length (xs.map (Value.int k)) (by rw [List.length_map, Nat.mul_one]) (C_cells HX) b' m c _ hnews (C_cells HR) (by omega) (by simp only [maxLen]; omega) hl
          exact ⟨v1, w1, hr, fin v1 w1 ho', Below.grown (Below.refl _ _) hg (Nat.le_refl _) (by intro q hq; cases hq)⟩
  obtain ⟨v1, w1, hr1, h1, hb⟩ := hrun
  refine wpList_plain hgd fun K hK => ?_
  unfold Oper.wp execOp
  simp only [ho, resolve, invoke, builtin, Sem.run_bind, Sem.run_pure, Result.andThen_ok, List.map_toArray, List.map_cons, List.map_nil, hs, hx, hr1]
  exact hK _ _ (h v1 w1 h1 hb)
end Go.Proofs.YtgpdaihfjnihhaaDoor.PJ
namespace Go.Proofs.YtgpdaihfjnihhaaDoor.PJ
open Go.RowKit Go.Proofs.YtgpdaihfjnihhaaDoorW.PrintWords Go.Proofs.YtgpdaihfjnihhaaDoorW.PrintLast Go.Proofs.YtgpdaihfjnihhaaDoorW.PrintMore
/-- 'x[j:]' and 'x[a:b]' of a row of integers that is read: the run's answer, and what reads there in every world where the row reads. -/
theorem cut_drop_int {P : Program} {k : IntKind} (t e : TypeId) {z : Value} {by_ : Nat} (ht : P.underlying t = some (.slice e)) (hinfo : (P.info? e).map (fun i => (i.zero, i.size, i.bytes)) = some (some z, 1, by_)) (A : Option Addr) (c : Nat) (xs ys : List Int) (j : Nat) (hm : j ≤ xs.length) (hc : xs.length ≤ c) (hy : xs.drop j = ys) :
    ∃ A' : Option Addr, (∀ W : World, (Instr.slice t (.slice A xs.length c) (some (.int .i64 (j : Int))) none none).run P W = .ok (.slice A' ys.length (c - j)) W) ∧
      (∀ w : World, Kd.C (Kd.int k) w A xs.length xs → Kd.C (Kd.int k) w A' ys.length ys) ∧ ys.length ≤ c - j := by
  obtain ⟨i0, hi, _, hsz, _⟩ := info_parts hinfo
  obtain ⟨A', h1, h2, h3⟩ := print_drop_of (P := P) (Value.int k) (0 : Int) t e .i64 ht hi hsz A c xs (j : Int) (by omega) (by omega) hc
  simp only [Int.toNat_natCast] at h1 h2 h3
  rw [hy] at h1 h2 h3
  exact ⟨A', h1, fun w h => Kd.C_of_reads (h1 := fun _ => rfl) (h2 w (Kd.reads_of_C h)), h3⟩
theorem cut_mid_int {P : Program} {k : IntKind} (t e : TypeId) {z : Value} {by_ : Nat} (ht : P.underlying t = some (.slice e)) (hinfo : (P.info? e).map (fun i => (i.zero, i.size, i.bytes)) = some (some z, 1, by_)) (A : Option Addr) (c : Nat) (xs ys : List Int) (a : Nat) (b : Int) (hab : (a : Int) ≤ b) (hm : b ≤ xs.length) (hc : xs.length ≤ c) (hy : (xs.take b.toNat).drop a = ys) :
    ∃ A' : Option Addr, (∀ W : World, (Instr.slice t (.slice A xs.length c) (some (.int .i64 (a : Int))) (some (.int .i64 b)) none).run P W = .ok (.slice A' ys.length (c - a)) W) ∧
      (∀ w : World, Kd.C (Kd.int k) w A xs.length xs → Kd.C (Kd.int k) w A' ys.length ys) ∧ ys.length ≤ c - a := by
  obtain ⟨i0, hi, _, hsz, _⟩ := info_parts hinfo
  obtain ⟨A', h1, h2, h3⟩ := print_mid_of (P := P) (Value.int k) (0 : Int) t e .i64 .i64 ht hi hsz A c xs (a : Int) b (by omega) hab hm hc
  simp only [Int.toNat_natCast] at h1 h2 h3
  rw [hy] at h1 h2 h3
  exact ⟨A', h1, fun w h => Kd.C_of_reads (h1 := fun _ => rfl) (h2 w (Kd.reads_of_C h)), h3⟩
theorem cut_take_int {P : Program} {k : IntKind} (t e : TypeId) {z : Value} {by_ : Nat} (ht : P.underlying t = some (.slice e)) (hinfo : (P.info? e).map (fun i => (i.zero, i.size, i.bytes)) = some (some z, 1, by_)) (A : Option Addr) (c : Nat) (xs ys : List Int) (j : Nat) (hm : j ≤ xs.length) (hc : xs.length ≤ c) (hy : xs.take j = ys) :
    (∀ W : World, (Instr.slice t (.slice A xs.length c) none (some (.int .i64 (j : Int))) none).run P W = .ok (.slice A ys.length c) W) ∧
      (∀ w : World, Kd.C (Kd.int k) w A xs.length xs → Kd.C (Kd.int k) w A ys.length ys) ∧ ys.length ≤ c := by
  obtain ⟨i0, hi, _, hsz, _⟩ := info_parts hinfo
  obtain ⟨h1, h2, h3⟩ := print_take_of (P := P) (Value.int k) (0 : Int) t e .i64 ht hi hsz A c xs (j : Int) (by omega) (by omega) hc
  simp only [Int.toNat_natCast] at h1 h2 h3
  rw [hy] at h1 h2 h3
  exact ⟨h1, fun w h => Kd.C_of_reads (h1 := fun _ => rfl) (h2 w (Kd.reads_of_C h)), h3⟩
end Go.Proofs.YtgpdaihfjnihhaaDoor.PJ
