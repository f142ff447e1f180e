/- A lent row as a value of its own kind: its slice, and behind its elements a mark that stands in the same memory. -/
import Derived.Test.YtlnccdgclaalbaaPJx0
import Derived.Test.YtlnccdgclaalbaaHandHeapy
namespace Go.Proofs.Ytlnccdgclaalbaa.PJ
open Go.RowKit Go.Proofs.YtlnccdgclaalbaaW.PrintWords Go.Proofs.YtlnccdgclaalbaaW.PrintLast Go.Proofs.YtlnccdgclaalbaaW.PrintMore
set_option linter.unusedVariables false
theorem linfoL : (Try.prog.info? 32).map (fun i => (i.zero, i.size, i.bytes)) = some (some (.int .u64 0), 1, 8) := by kernel_rfl
theorem linfoI : (Try.prog.info? 77).map (fun i => (i.zero, i.size, i.bytes)) = some (some (.agg #[.int .i64 0, .int .i64 0]), 2, 16) := by kernel_rfl
theorem linfoA : (Try.prog.info? 57).map (fun i => (i.zero, i.size, i.bytes)) = some (some (.agg #[.int .i64 0, .int .u64 0]), 2, 16) := by kernel_rfl
theorem linfoF : (Try.prog.info? 48).map (fun i => (i.zero, i.size, i.bytes)) = some (some (.agg #[.int .u64 0, .slice none 0 0, .slice none 0 0, .int .i64 0, .int .i64 0, .slice none 0 0]), 6, 96) := by kernel_rfl
/-- (l, true): a slice that reads l, and m behind it; (l, false): a slice that reads l. -/
def kLent {α : Type} (d : Kd α) (m : α) : Kd (List α × Bool) where
  sz := 1
  E := []
  K w x cs := ∃ A c, cs = [.slice A x.1.length c] ∧ x.1.length ≤ c ∧ d.C w A x.1.length x.1 ∧ (x.2 = true → x.1.length + 1 ≤ c ∧ d.C w A (x.1 ++ [m]).length (x.1 ++ [m]))
  M _ _ _ _ _ := False
  K_len := by
    rintro w x cs ⟨A, c, rfl, _⟩
    rfl
  K_one := by
    rintro w x cs ⟨A, c, rfl, _⟩ u hu
    obtain rfl := List.mem_singleton.mp hu
    rfl
  K_below := by
    rintro w w1 x cs hb ⟨A, c, he, hl, hc, hm⟩
    exact ⟨A, c, he, hl, Kd.C_below hc hb, fun h => ⟨(hm h).1, Kd.C_below (hm h).2 hb⟩⟩
  K_of_M := by
    intro w base ok x cs h
    exact h.elim
  M_mono := by
    intro w base ok ok' x cs _ h
    exact h
  M_bound := by
    intro w base ok x cs h
    exact h.elim
  M_move := by
    intro w w1 base ok x cs _ h
    exact h
  M_lower := by
    intro w base base' ok x cs _ h
    exact h
/-- A function whose rows are lent (the flag), or not. -/
def kLF : Kd (S48 × Bool) := Kd.iso (Kd.pair (Kd.int .u64) (Kd.pair (kLent (Kd.int .u64) 7171) (Kd.pair (kLent (Kd.int .u64) 7171) (Kd.pair (Kd.int .i64) (Kd.pair (Kd.int .i64) (kLent k77 ⟨-71, 0⟩))))))
  (fun x => (x.1.f0, (x.1.f1, x.2), (x.1.f2, x.2), x.1.f3, x.1.f4, (x.1.f5, x.2)))
/-- A lent function is a function. -/
theorem LF_fn {w : World} {x : S48 × Bool} {cs : List Value} (h : kLF.K w x cs) : k48.K w x.1 cs := by
  obtain ⟨_, _, rfl, h0, ⟨_, _, rfl, ⟨A1, c1, e1, l1, g1, _⟩, ⟨_, _, rfl, ⟨A2, c2, e2, l2, g2, _⟩, ⟨_, _, rfl, h3, ⟨_, _, rfl, h4, ⟨A5, c5, e5, l5, g5, _⟩⟩⟩⟩⟩⟩ := h
  exact pairK h0 (pairK ⟨A1, c1, e1, l1, g1⟩ (pairK ⟨A2, c2, e2, l2, g2⟩ (pairK h3 (pairK h4 ⟨A5, c5, e5, l5, g5⟩))))
end Go.Proofs.Ytlnccdgclaalbaa.PJ
