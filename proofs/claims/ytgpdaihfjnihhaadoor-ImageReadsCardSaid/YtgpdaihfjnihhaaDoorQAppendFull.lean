/- append(x, y...) where x is a row that is only read and has no room (its capacity is its length): the row of both, nothing elder written. -/
import Derived.Test.YtgpdaihfjnihhaaDoorQPJx0
import Derived.WalkKit
namespace Go.Proofs.YtgpdaihfjnihhaaDoor.PJ
open Go.RowKit Go.Proofs.YtgpdaihfjnihhaaDoorW.PrintWords Go.Proofs.YtgpdaihfjnihhaaDoorW.PrintLast Go.Proofs.YtgpdaihfjnihhaaDoorW.PrintMore
theorem C_none {α : Type} {d : Kd α} {W : World} {n : Nat} {xs : List α} (h : Kd.C d W none n xs) : xs = [] ∧ n = 0 := by
 by_cases h0 : 0 < n
 ·
  obtain ⟨_, e, _⟩ := h.2.2 h0
  cases e
 ·
  have := h.1
  exact ⟨List.eq_nil_of_length_eq_zero (by omega), by omega⟩
theorem C_cells {k : IntKind} {W : World} {b : Addr} {n : Nat} {xs : List Int} (h : Kd.C (Kd.int k) W (some b) n xs) : ∀ j u, (xs.map (Value.int k))[j]? = some u → W.cell? (b.add j) = some u := by
 intro j u hu
 rw [List.getElem?_map] at hu
 obtain ⟨x, hx, rfl⟩ := Option.map_eq_some_iff.mp hu
 have hj : j < xs.length := (List.getElem?_eq_some_iff.mp hx).1
 obtain ⟨ad, e, hc⟩ := h.2.2 (by have := h.1; omega)
 injection e with e
 subst e
 obtain ⟨cs, h1, h2, h3⟩ := hc j x hx
 have e2 : cs = [.int k x] := h2
 have := h3 0 (.int k x) (by rw [e2]; rfl)
 have e3 : j * (Kd.int k).sz + 0 = j := by show j * 1 + 0 = j; omega
 rw [e3] at this
 exact this
end Go.Proofs.YtgpdaihfjnihhaaDoor.PJ
namespace Go.Proofs.YtgpdaihfjnihhaaDoor.PJ
open Go.RowKit Go.Proofs.YtgpdaihfjnihhaaDoorW.PrintWords Go.Proofs.YtgpdaihfjnihhaaDoorW.PrintLast Go.Proofs.YtgpdaihfjnihhaaDoorW.PrintMore
theorem cut_drop_int {P : Program} {k : IntKind} (t e : TypeId) {z : Value} {by_ : Nat} (ht : P.underlying t = some (.slice e)) (hinfo : (P.info? e).map (fun i => (i.zero, i.size, i.bytes)) = some (some z, 1, by_)) (A : Option Addr) (c : Nat) (xs ys : List Int) (j : Nat) (hm : j ≤ xs.length) (hc : xs.length ≤ c) (hy : xs.drop j = ys) :
  ∃ A' : Option Addr, (∀ W : World, (Instr.slice t (.slice A xs.length c) (some (.int .i64 (j : Int))) none none).run P W = .ok (.slice A' ys.length (c - j)) W) ∧
   (∀ w : World, Kd.C (Kd.int k) w A xs.length xs → Kd.C (Kd.int k) w A' ys.length ys) ∧ ys.length ≤ c - j := by
 obtain ⟨i0, hi, _, hsz, _⟩ := info_parts hinfo
 obtain ⟨A', h1, h2, h3⟩ := print_drop_of (P := P) (Value.int k) (0 : Int) t e .i64 ht hi hsz A c xs (j : Int) (by omega) (by omega) hc
 simp only [Int.toNat_natCast] at h1 h2 h3
 rw [hy] at h1 h2 h3
 exact ⟨A', h1, fun w h => Kd.C_of_reads (h1 := fun _ => rfl) (h2 w (Kd.reads_of_C h)), h3⟩
theorem cut_mid_int {P : Program} {k : IntKind} (t e : TypeId) {z : Value} {by_ : Nat} (ht : P.underlying t = some (.slice e)) (hinfo : (P.info? e).map (fun i => (i.zero, i.size, i.bytes)) = some (some z, 1, by_)) (A : Option Addr) (c : Nat) (xs ys : List Int) (a : Nat) (b : Int) (hab : (a : Int) ≤ b) (hm : b ≤ xs.length) (hc : xs.length ≤ c) (hy : (xs.take b.toNat).drop a = ys) :
  ∃ A' : Option Addr, (∀ W : World, (Instr.slice t (.slice A xs.length c) (some (.int .i64 (a : Int))) (some (.int .i64 b)) none).run P W = .ok (.slice A' ys.length (c - a)) W) ∧
   (∀ w : World, Kd.C (Kd.int k) w A xs.length xs → Kd.C (Kd.int k) w A' ys.length ys) ∧ ys.length ≤ c - a := by
 obtain ⟨i0, hi, _, hsz, _⟩ := info_parts hinfo
 obtain ⟨A', h1, h2, h3⟩ := print_mid_of (P := P) (Value.int k) (0 : Int) t e .i64 .i64 ht hi hsz A c xs (a : Int) b (by omega) hab hm hc
 simp only [Int.toNat_natCast] at h1 h2 h3
 rw [hy] at h1 h2 h3
 exact ⟨A', h1, fun w h => Kd.C_of_reads (h1 := fun _ => rfl) (h2 w (Kd.reads_of_C h)), h3⟩
theorem cut_take_int {P : Program} {k : IntKind} (t e : TypeId) {z : Value} {by_ : Nat} (ht : P.underlying t = some (.slice e)) (hinfo : (P.info? e).map (fun i => (i.zero, i.size, i.bytes)) = some (some z, 1, by_)) (A : Option Addr) (c : Nat) (xs ys : List Int) (j : Nat) (hm : j ≤ xs.length) (hc : xs.length ≤ c) (hy : xs.take j = ys) :
  (∀ W : World, (Instr.slice t (.slice A xs.length c) none (some (.int .i64 (j : Int))) none).run P W = .ok (.slice A ys.length c) W) ∧
   (∀ w : World, Kd.C (Kd.int k) w A xs.length xs → Kd.C (Kd.int k) w A ys.length ys) ∧ ys.length ≤ c := by
 obtain ⟨i0, hi, _, hsz, _⟩ := info_parts hinfo
 obtain ⟨h1, h2, h3⟩ := print_take_of (P := P) (Value.int k) (0 : Int) t e .i64 ht hi hsz A c xs (j : Int) (by omega) (by omega) hc
 simp only [Int.toNat_natCast] at h1 h2 h3
 rw [hy] at h1 h2 h3
 exact ⟨h1, fun w h => Kd.C_of_reads (h1 := fun _ => rfl) (h2 w (Kd.reads_of_C h)), h3⟩
end Go.Proofs.YtgpdaihfjnihhaaDoor.PJ
