/- Kept*: what was lent is found as it was, with its marks. -/
import Derived.Test.YtlnccdgclaalbaaPJx0
import Derived.Test.YtlnccdgclaalbaaPJx5
import Derived.Test.YtlnccdgclaalbaaPJx6
import Derived.Test.YtlnccdgclaalbaaHandLentMod
namespace Go.Proofs.Ytlnccdgclaalbaa.PJ
open Go.RowKit Go.Proofs.YtlnccdgclaalbaaW.PrintWords Go.Proofs.YtlnccdgclaalbaaW.PrintLast Go.Proofs.YtlnccdgclaalbaaW.PrintMore
set_option linter.unusedSimpArgs false
set_option linter.unusedVariables false
/-- The slice v reads l, and m stands behind it in the same memory. -/
def LentC {α : Type} (d : Kd α) (W : World) (v : Value) (l : List α) (m : α) : Prop := ∃ A c, v = .slice A l.length c ∧ l.length + 1 ≤ c ∧ d.C W A (l ++ [m]).length (l ++ [m])
theorem LentC.below {α : Type} {d : Kd α} {W W1 : World} {v : Value} {l : List α} {m : α} (h : LentC d W v l m) (hb : Below W.heap.size W W1) : LentC d W1 v l m := by
  obtain ⟨A, c, e, hc, hC⟩ := h
  exact ⟨A, c, e, hc, Kd.C_below hC hb⟩
theorem LentD.toC {α : Type} {d : Kd α} {e : Nat} {W : World} {base : Nat} {v : Value} {l : List α} {m : α} (h : LentD d e W base v l m) : LentC d W v l m := by
  obtain ⟨A, c, rfl, hR⟩ := h
  obtain ⟨h1, h2, h3⟩ := Kd.R_reads' hR
  exact ⟨A, c, rfl, by simpa using h2, h3⟩
/-- Its list is read. -/
theorem lentC_reads {α : Type} {d : Kd α} {W : World} {A : Option Addr} {l : List α} {m : α} (h : d.C W A (l ++ [m]).length (l ++ [m])) : d.C W A l.length l := by
  have := Kd.C_take (m := l.length) h (by simp)
  rw [List.take_left'] at this
  · exact this
  · rfl
/-- The mark. -/
theorem lentC_mark {α : Type} {d : Kd α} {W : World} {A : Option Addr} {l : List α} {m : α} (h : d.C W A (l ++ [m]).length (l ++ [m])) : ∃ ad cs, A = some ad ∧ d.K W m cs ∧ ∀ j u, cs[j]? = some u → W.cell? (ad.add (l.length * d.sz + j)) = some u := by
  obtain ⟨ad, cs, e, _, hK, hc⟩ := Kd.C_get h m (l.length : Int) (by omega) (by simp; omega)
  rw [Int.toNat_natCast] at hK hc
  have : (l ++ [m]).getD l.length m = m := by simp [List.getD_eq_getElem?_getD]
  rw [this] at hK
  exact ⟨ad, cs, e, hK, hc⟩
theorem labels_refl : ∀ (l : List Int), l.length ≤ 9223372036854775807 → ∃ k, louverkit_Labels.f k l l = some true := by
  intro l hm
  have key : ∀ d i k, i + d = l.length → d < k → louverkit_Labels.l0 k l l (i : Int) = some true := by
    intro d
    induction d with
    | zero =>
      intro i k hi hk
      obtain ⟨m, rfl⟩ : ∃ m, k = m + 1 := ⟨k - 1, by omega⟩
      rw [louverkit_Labels.l0, if_neg (by omega)]
    | succ d ih =>
      intro i k hi hk
      obtain ⟨m, rfl⟩ : ∃ m, k = m + 1 := ⟨k - 1, by omega⟩
      rw [louverkit_Labels.l0, if_pos (by omega), if_pos (by omega), if_pos (by omega), if_pos rfl, show wrap64 ((i : Int) + 1) = ((i + 1 : Nat) : Int) by unfold wrap64; omega]
      exact ih (i + 1) m (by omega) (by omega)
  exact ⟨l.length + 1, by unfold louverkit_Labels.f; rw [if_pos rfl]; exact key l.length 0 _ (by omega) (by omega)⟩
theorem code_refl : ∀ (l : List S77), l.length ≤ 9223372036854775807 → ∃ k, louverkit_Code.f k l l = some true := by
  intro l hm
  have key : ∀ d i k, i + d = l.length → d < k → louverkit_Code.l0 k l l (i : Int) = some true := by
    intro d
    induction d with
    | zero =>
      intro i k hi hk
      obtain ⟨m, rfl⟩ : ∃ m, k = m + 1 := ⟨k - 1, by omega⟩
      rw [louverkit_Code.l0, if_neg (by omega)]
    | succ d ih =>
      intro i k hi hk
      obtain ⟨m, rfl⟩ : ∃ m, k = m + 1 := ⟨k - 1, by omega⟩
      rw [louverkit_Code.l0, if_pos (by omega), if_pos (by omega), if_pos (by omega), if_neg (by simp), show wrap64 ((i : Int) + 1) = ((i + 1 : Nat) : Int) by unfold wrap64; omega]
      exact ih (i + 1) m (by omega) (by omega)
  exact ⟨l.length + 1, by unfold louverkit_Code.f; rw [if_pos rfl]; exact key l.length 0 _ (by omega) (by omega)⟩
theorem keptEqI (d : Nat) (w : World) (x0 y0 : Int) (x1 y1 : Int) : (Op.equalIn (d + 2) 77 (.agg #[.int .i64 x0, .int .i64 x1]) (.agg #[.int .i64 y0, .int .i64 y1])).run Try.prog w = .ok (x0 == y0 && (x1 == y1)) w := by
  refine eqA_of Try.underlying77 (by kernel_rfl) ?_
  refine eqf_cons (by rfl) (by go_simp; rfl) (by go_simp; rfl) (by go_simp) ?_
  exact eqf_last (by rfl) (by go_simp; rfl) (by go_simp; rfl) (by go_simp)
theorem keptEqA (d : Nat) (w : World) (x0 y0 : Int) (x1 y1 : Int) : (Op.equalIn (d + 2) 57 (.agg #[.int .i64 x0, .int .u64 x1]) (.agg #[.int .i64 y0, .int .u64 y1])).run Try.prog w = .ok (x0 == y0 && (x1 == y1)) w := by
  refine eqA_of Try.underlying57 (by kernel_rfl) ?_
  refine eqf_cons (by rfl) (by go_simp; rfl) (by go_simp; rfl) (by go_simp) ?_
  exact eqf_last (by rfl) (by go_simp; rfl) (by go_simp; rfl) (by go_simp)
set_option maxHeartbeats 8000000 in
set_option maxRecDepth 100000 in
theorem louverkit_KeptLabelsC.calls (v : Value) (l : List Int) (A1 : Option Addr) (c1 : Nat) (w : World) (hL : LentC (Kd.int .u64) w v l 7171) (hr1 : Kd.C (Kd.int .u64) w A1 l.length l) (hc1 : l.length ≤ c1) :
    Calls Try.prog 46 #[v, .slice A1 l.length c1] w fun e w' => e = .returned (.bool true) ∧ Drawn0 w w' := by
  obtain ⟨A, c, rfl, hcap, hC0⟩ := hL
  obtain ⟨ad, cs, rfl, hK, hcell⟩ := lentC_mark hC0
  have hm : l.length ≤ 9223372036854775806 := by have := Kd.C_max hC0; simp at this; omega
  obtain ⟨k, hk⟩ := labels_refl l (by omega)
  have HC := Aside0.mk (lentC_reads hC0)
  have HR1 := Aside0.mk hr1
  have HC1 := Aside0.mk hc1
  have HH := Aside0.mk hk
  have HN := Aside0.mk hcap
  obtain rfl : cs = [.int .u64 7171] := hK
  have hm0 : w.cell? (ad.add l.length) = some (.int .u64 7171) := by
    have := hcell 0 _ rfl
    have e3 : l.length * ((Kd.int .u64)).sz + 0 = l.length := by show l.length * 1 + 0 = l.length; omega
    rw [e3] at this
    exact this
  have w1 : wrap64 ((l.length : Int) + 1) = (l.length : Int) + 1 := by
    unfold wrap64
    omega
  obtain ⟨i09, hi09, _, hsz9, _⟩ := info_parts linfoL
  have hcut9 := cut_up (P := Try.prog) 22 32 Try.underlying22 hi09 (some ad) l.length c ((l.length : Int) + 1) (by omega) (by omega)
  clear hi09 hsz9 hcap hC0 hr1 hc1 hk hm hcell
  go_enter Try.func46, Try.ntmps46
  go_wp2_with (first | (go_at_call 58; (with_reducible refine (louverkit_Labels.calls k _ _ l _ _ l true _ ?s1 ?s2 ?s3 ?s4 HH.out).mono ?_); (case s1 => exact HC.out); (case s2 => have := HN.out; omega); (case s3 => exact HR1.out); (case s4 => exact HC1.out); rintro e w' ⟨rfl, ⟨nd, rfl⟩⟩))
  go_ret
  exact ⟨rfl, by repeat (first | exact Drawn0.refl _ | apply Drawn0.step)⟩
set_option maxHeartbeats 8000000 in
set_option maxRecDepth 100000 in
theorem louverkit_KeptCodeC.calls (v : Value) (l : List S77) (A1 : Option Addr) (c1 : Nat) (w : World) (hL : LentC k77 w v l (⟨-71, 0⟩ : S77)) (hr1 : Kd.C k77 w A1 l.length l) (hc1 : l.length ≤ c1) :
    Calls Try.prog 56 #[v, .slice A1 l.length c1] w fun e w' => e = .returned (.bool true) ∧ Drawn0 w w' := by
  obtain ⟨A, c, rfl, hcap, hC0⟩ := hL
  obtain ⟨ad, cs, rfl, hK, hcell⟩ := lentC_mark hC0
  have hm : l.length ≤ 9223372036854775806 := by have := Kd.C_max hC0; simp at this; omega
  obtain ⟨k, hk⟩ := code_refl l (by omega)
  have HC := Aside0.mk (lentC_reads hC0)
  have HR1 := Aside0.mk hr1
  have HC1 := Aside0.mk hc1
  have HH := Aside0.mk hk
  have HN := Aside0.mk hcap
  obtain rfl : cs = [.int .i64 (-71), .int .i64 0] := by
    obtain ⟨a, b, e, p, q⟩ := hK
    have p' : a = [.int .i64 (-71)] := p
    have q' : b = [.int .i64 0] := q
    rw [e, p', q']
    rfl
  have hm0 : w.cell? (ad.add (l.length * 2)) = some (.int .i64 (-71)) := hcell 0 _ rfl
  have hm1 : w.cell? ⟨(ad.add (l.length * 2)).block, (ad.add (l.length * 2)).off + 1, none⟩ = some (.int .i64 0) := by
    rw [← add_field _ _ 1 (by omega)]
    exact hcell 1 _ rfl
  have heq : ∀ W : World, (Op.equalIn 10000 77 (.agg #[.int .i64 (-71), .int .i64 0]) (.agg #[.int .i64 (-71), .int .i64 0])).run Try.prog W = .ok true W := fun W => by
    have := keptEqI 9998 W (-71) (-71) 0 0
    simpa using this
  have w1 : wrap64 ((l.length : Int) + 1) = (l.length : Int) + 1 := by
    unfold wrap64
    omega
  obtain ⟨i09, hi09, _, hsz9, _⟩ := info_parts linfoI
  have hcut9 := cut_up (P := Try.prog) 46 77 Try.underlying46 hi09 (some ad) l.length c ((l.length : Int) + 1) (by omega) (by omega)
  clear hi09 hsz9 hcap hC0 hr1 hc1 hk hm hcell
  go_enter Try.func56, Try.ntmps56
  go_wp2_with (first | (go_at_call 61; (with_reducible refine (louverkit_Code.calls k _ _ l _ _ l true _ ?s1 ?s2 ?s3 ?s4 HH.out).mono ?_); (case s1 => exact HC.out); (case s2 => have := HN.out; omega); (case s3 => exact HR1.out); (case s4 => exact HC1.out); rintro e w' ⟨rfl, ⟨nd, rfl⟩⟩))
  go_ret
  exact ⟨rfl, by repeat (first | exact Drawn0.refl _ | apply Drawn0.step)⟩
set_option maxHeartbeats 8000000 in
set_option maxRecDepth 100000 in
theorem louverkit_KeptFunctionC.calls (n0 n3 n4 : Int) (u1 u2 u5 : Value) (A1 A2 A5 : Option Addr) (c1 c2 c5 : Nat) (l1 l2 : List Int) (l5 : List S77) (w : World) (h1 : LentC (Kd.int .u64) w u1 l1 7171) (h2 : LentC (Kd.int .u64) w u2 l2 7171) (h5 : LentC k77 w u5 l5 ⟨-71, 0⟩)
    (hr1 : Kd.C (Kd.int .u64) w A1 l1.length l1) (hc1 : l1.length ≤ c1) (hr2 : Kd.C (Kd.int .u64) w A2 l2.length l2) (hc2 : l2.length ≤ c2) (hr5 : Kd.C k77 w A5 l5.length l5) (hc5 : l5.length ≤ c5) :
    Calls Try.prog 30 #[.agg #[.int .u64 n0, u1, u2, .int .i64 n3, .int .i64 n4, u5], .agg #[.int .u64 n0, .slice A1 l1.length c1, .slice A2 l2.length c2, .int .i64 n3, .int .i64 n4, .slice A5 l5.length c5]] w fun e w' => e = .returned (.bool true) ∧ Below w.heap.size w w' := by
  obtain ⟨B1, d1, e1, p1, q1⟩ := h1
  obtain ⟨B2, d2, e2, p2, q2⟩ := h2
  obtain ⟨B5, d5, e5, p5, q5⟩ := h5
  subst e1 e2 e5
  have Zhr1 := Aside0.mk hr1
  have Zhc1 := Aside0.mk hc1
  have Zhr2 := Aside0.mk hr2
  have Zhc2 := Aside0.mk hc2
  have Zhr5 := Aside0.mk hr5
  have Zhc5 := Aside0.mk hc5
  have Zp1 := Aside0.mk p1
  have Zq1 := Aside0.mk q1
  have Zp2 := Aside0.mk p2
  have Zq2 := Aside0.mk q2
  have Zp5 := Aside0.mk p5
  have Zq5 := Aside0.mk q5
  clear hr1 hc1 hr2 hc2 hr5 hc5 p1 q1 p2 q2 p5 q5
  have HB := Aside0.mk (below_alloc (below_alloc (Below.refl w.heap.size w) (.cells #[.int .u64 n0, .slice B1 l1.length d1, .slice B2 l2.length d2, .int .i64 n3, .int .i64 n4, .slice B5 l5.length d5] 48)) (.cells #[.int .u64 n0, .slice A1 l1.length c1, .slice A2 l2.length c2, .int .i64 n3, .int .i64 n4, .slice A5 l5.length c5] 48))
  have HG1 := Aside0.mk (blk_alloc (heap_alloc_new w (.cells #[.int .u64 n0, .slice B1 l1.length d1, .slice B2 l2.length d2, .int .i64 n3, .int .i64 n4, .slice B5 l5.length d5] 48)) (.cells #[.int .u64 n0, .slice A1 l1.length c1, .slice A2 l2.length c2, .int .i64 n3, .int .i64 n4, .slice A5 l5.length c5] 48))
  have HG2 := Aside0.mk (show ((w.alloc (.cells #[.int .u64 n0, .slice B1 l1.length d1, .slice B2 l2.length d2, .int .i64 n3, .int .i64 n4, .slice B5 l5.length d5] 48)).alloc (.cells #[.int .u64 n0, .slice A1 l1.length c1, .slice A2 l2.length c2, .int .i64 n3, .int .i64 n4, .slice A5 l5.length c5] 48)).heap[w.heap.size + 1]? = some (.cells #[.int .u64 n0, .slice A1 l1.length c1, .slice A2 l2.length c2, .int .i64 n3, .int .i64 n4, .slice A5 l5.length c5] 48 (0, 0)) by
    have := heap_alloc_new (w.alloc (.cells #[.int .u64 n0, .slice B1 l1.length d1, .slice B2 l2.length d2, .int .i64 n3, .int .i64 n4, .slice B5 l5.length d5] 48)) (.cells #[.int .u64 n0, .slice A1 l1.length c1, .slice A2 l2.length c2, .int .i64 n3, .int .i64 n4, .slice A5 l5.length c5] 48)
    simpa using this)
  obtain ⟨⟨a0, a1, a2, a3, a4, a5⟩, _⟩ := facts6 HG1.out
  obtain ⟨⟨b0, b1, b2, b3, b4, b5⟩, _⟩ := facts6 HG2.out
  go_enter Try.func30, Try.ntmps30
  go_wp2_with fail
  refine (louverkit_KeptLabelsC.calls (.slice B1 l1.length d1) l1 A1 c1 _ ⟨B1, d1, rfl, Zp1.out, Kd.C_below Zq1.out HB.out⟩ (Kd.C_below Zhr1.out HB.out) Zhc1.out).mono ?_
  rintro e w1 ⟨rfl, hd⟩
  have hb := hd.below
  clear a0 a1 a2 a3 a4 a5 b0 b1 b2 b3 b4 b5
  replace HG1 := Aside0.mk (blk_below HG1.out hb)
  replace HG2 := Aside0.mk (blk_below HG2.out hb)
  replace HB := Aside0.mk (below_step HB.out hb)
  clear hb hd
  obtain ⟨⟨a0, a1, a2, a3, a4, a5⟩, _⟩ := facts6 HG1.out
  obtain ⟨⟨b0, b1, b2, b3, b4, b5⟩, _⟩ := facts6 HG2.out
  go_wp2_with fail
  refine (louverkit_KeptLabelsC.calls (.slice B2 l2.length d2) l2 A2 c2 _ ⟨B2, d2, rfl, Zp2.out, Kd.C_below Zq2.out HB.out⟩ (Kd.C_below Zhr2.out HB.out) Zhc2.out).mono ?_
  rintro e w1 ⟨rfl, hd⟩
  have hb := hd.below
  clear a0 a1 a2 a3 a4 a5 b0 b1 b2 b3 b4 b5
  replace HG1 := Aside0.mk (blk_below HG1.out hb)
  replace HG2 := Aside0.mk (blk_below HG2.out hb)
  replace HB := Aside0.mk (below_step HB.out hb)
  clear hb hd
  obtain ⟨⟨a0, a1, a2, a3, a4, a5⟩, _⟩ := facts6 HG1.out
  obtain ⟨⟨b0, b1, b2, b3, b4, b5⟩, _⟩ := facts6 HG2.out
  go_wp2_with fail
  refine (louverkit_KeptCodeC.calls (.slice B5 l5.length d5) l5 A5 c5 _ ⟨B5, d5, rfl, Zp5.out, Kd.C_below Zq5.out HB.out⟩ (Kd.C_below Zhr5.out HB.out) Zhc5.out).mono ?_
  rintro e w1 ⟨rfl, hd⟩
  have hb := hd.below
  clear a0 a1 a2 a3 a4 a5 b0 b1 b2 b3 b4 b5
  replace HG1 := Aside0.mk (blk_below HG1.out hb)
  replace HG2 := Aside0.mk (blk_below HG2.out hb)
  replace HB := Aside0.mk (below_step HB.out hb)
  clear hb hd
  obtain ⟨⟨a0, a1, a2, a3, a4, a5⟩, _⟩ := facts6 HG1.out
  obtain ⟨⟨b0, b1, b2, b3, b4, b5⟩, _⟩ := facts6 HG2.out
  go_wp2
  go_ret
  exact ⟨rfl, HB.out⟩
theorem LentFns.toC {W : World} {base : Nat} {v : Value} {l : List S48} (h : LentFns W base v l) : ∃ A c, v = .slice A l.length c ∧ l.length + 1 ≤ c ∧ Kd.C kLF W A (l.length + 1) (l.map (fun x => (x, true)) ++ [markFn]) := by
  obtain ⟨A, c, rfl, hN⟩ := h
  obtain ⟨h1, h2, h3⟩ := Kd.N_reads' hN
  rw [show (l.map (fun x => (x, true)) ++ [markFn]).length = l.length + 1 by simp] at h3
  exact ⟨A, c, rfl, by omega, h3⟩
theorem at_LF {w : World} {A : Option Addr} {l : List S48} (h : Kd.C kLF w A (l.length + 1) (l.map (fun x => (x, true)) ++ [markFn])) (i : Nat) (hi : i < l.length) (x : S48) (hx : l[i] = x) : ∃ ad A1 c1 A2 c2 A5 c5, A = some ad ∧ w.cell? (ad.add (i * 6)) = some (.int .u64 x.f0) ∧ w.cell? ⟨(ad.add (i * 6)).block, (ad.add (i * 6)).off + 1, none⟩ = some (.slice A1 x.f1.length c1) ∧ w.cell? ⟨(ad.add (i * 6)).block, (ad.add (i * 6)).off + 2, none⟩ = some (.slice A2 x.f2.length c2) ∧ w.cell? ⟨(ad.add (i * 6)).block, (ad.add (i * 6)).off + 3, none⟩ = some (.int .i64 x.f3) ∧ w.cell? ⟨(ad.add (i * 6)).block, (ad.add (i * 6)).off + 4, none⟩ = some (.int .i64 x.f4) ∧ w.cell? ⟨(ad.add (i * 6)).block, (ad.add (i * 6)).off + 5, none⟩ = some (.slice A5 x.f5.length c5) ∧
    LentC (Kd.int .u64) w (.slice A1 x.f1.length c1) x.f1 7171 ∧ LentC (Kd.int .u64) w (.slice A2 x.f2.length c2) x.f2 7171 ∧ LentC k77 w (.slice A5 x.f5.length c5) x.f5 ⟨-71, 0⟩ := by
  obtain ⟨ad, c, e, _, hK, hc0⟩ := Kd.C_get h markFn (i : Int) (by omega) (by omega)
  rw [Int.toNat_natCast] at hK hc0
  have he : (l.map (fun x => (x, true)) ++ [markFn]).getD i markFn = (x, true) := by
    rw [List.getD_eq_getElem?_getD, List.getElem?_append_left (by simpa using hi)]
    simp [hi, hx]
  rw [he] at hK
  have hc : ∀ j u, c[j]? = some u → w.cell? (ad.add (i * 6 + j)) = some u := hc0
  obtain ⟨_, _, rfl, h0, ⟨_, _, rfl, ⟨A1, c1, e1, l1, g1, m1⟩, ⟨_, _, rfl, ⟨A2, c2, e2, l2, g2, m2⟩, ⟨_, _, rfl, h3, ⟨_, _, rfl, h4, ⟨A5, c5, e5, l5, g5, m5⟩⟩⟩⟩⟩⟩ := hK
  have h0' : _ = [Value.int .u64 x.f0] := h0
  have h3' : _ = [Value.int .i64 x.f3] := h3
  have h4' : _ = [Value.int .i64 x.f4] := h4
  subst h0' h3' h4' e1 e2 e5
  exact ⟨ad, A1, c1, A2, c2, A5, c5, e, hc 0 _ rfl, by rw [← add_field _ _ 1 (by omega)]; exact hc 1 _ rfl, by rw [← add_field _ _ 2 (by omega)]; exact hc 2 _ rfl, by rw [← add_field _ _ 3 (by omega)]; exact hc 3 _ rfl, by rw [← add_field _ _ 4 (by omega)]; exact hc 4 _ rfl, by rw [← add_field _ _ 5 (by omega)]; exact hc 5 _ rfl,
    ⟨A1, c1, rfl, (m1 rfl).1, (m1 rfl).2⟩, ⟨A2, c2, rfl, (m2 rfl).1, (m2 rfl).2⟩, ⟨A5, c5, rfl, (m5 rfl).1, (m5 rfl).2⟩⟩
theorem mark_LF {w : World} {A : Option Addr} {l : List S48} (h : Kd.C kLF w A (l.length + 1) (l.map (fun x => (x, true)) ++ [markFn])) : ∃ ad, A = some ad ∧ w.cell? ⟨(ad.add (l.length * 6)).block, (ad.add (l.length * 6)).off + 4, none⟩ = some (.int .i64 (-71)) := by
  obtain ⟨ad, c, e, _, hK, hc0⟩ := Kd.C_get h markFn (l.length : Int) (by omega) (by omega)
  rw [Int.toNat_natCast] at hK hc0
  have he : (l.map (fun x => (x, true)) ++ [markFn]).getD l.length markFn = markFn := by
    rw [List.getD_eq_getElem?_getD, List.getElem?_append_right (by simp)]
    simp
  rw [he] at hK
  have hc : ∀ j u, c[j]? = some u → w.cell? (ad.add (l.length * 6 + j)) = some u := hc0
  obtain ⟨_, _, rfl, h0, ⟨_, _, rfl, ⟨A1, c1, e1, l1, g1, m1⟩, ⟨_, _, rfl, ⟨A2, c2, e2, l2, g2, m2⟩, ⟨_, _, rfl, h3, ⟨_, _, rfl, h4, ⟨A5, c5, e5, l5, g5, m5⟩⟩⟩⟩⟩⟩ := hK
  have h0' : _ = [Value.int .u64 0] := h0
  have h3' : _ = [Value.int .i64 0] := h3
  have h4' : _ = [Value.int .i64 (-71)] := h4
  subst h0' h3' h4' e1 e2 e5
  exact ⟨ad, e, by rw [← add_field _ _ 4 (by omega)]; exact hc 4 _ rfl⟩
/-- A lent module. -/
def LentM (w : World) (v : Value) (l0 : List Int) (l1 : List S57) (l2 : List Int) (l3 : List S48) : Prop := ∃ B0 d0 B1 d1 B2 d2 B3 d3, v = .agg #[.slice B0 l0.length d0, .slice B1 l1.length d1, .slice B2 l2.length d2, .slice B3 l3.length d3] ∧
  (l0.length + 1 ≤ d0 ∧ Kd.C (Kd.int .u64) w B0 (l0 ++ [7171]).length (l0 ++ [7171])) ∧ (l1.length + 1 ≤ d1 ∧ Kd.C k57 w B1 (l1 ++ [(⟨-71, 0⟩ : S57)]).length (l1 ++ [⟨-71, 0⟩])) ∧ (l2.length + 1 ≤ d2 ∧ Kd.C (Kd.int .u64) w B2 (l2 ++ [7171]).length (l2 ++ [7171])) ∧ (l3.length + 1 ≤ d3 ∧ Kd.C kLF w B3 (l3.length + 1) (l3.map (fun x => (x, true)) ++ [markFn]))
theorem LentM.below {w w' : World} {v : Value} {l0 l2 : List Int} {l1 : List S57} {l3 : List S48} (h : LentM w v l0 l1 l2 l3) (hb : Below w.heap.size w w') : LentM w' v l0 l1 l2 l3 := by
  obtain ⟨B0, d0, B1, d1, B2, d2, B3, d3, e, h0, h1, h2, h3⟩ := h
  exact ⟨B0, d0, B1, d1, B2, d2, B3, d3, e, ⟨h0.1, Kd.C_below h0.2 hb⟩, ⟨h1.1, Kd.C_below h1.2 hb⟩, ⟨h2.1, Kd.C_below h2.2 hb⟩, ⟨h3.1, Kd.C_below h3.2 hb⟩⟩
theorem C_LF {w : World} {A : Option Addr} {l : List S48} (h : Kd.C kLF w A (l.length + 1) (l.map (fun x => (x, true)) ++ [markFn])) : Kd.C k48 w A l.length l := by
  refine ⟨rfl, by have := Kd.C_max h; omega, fun hp => ?_⟩
  obtain ⟨ad, e, hc⟩ := h.2.2 (by omega)
  refine ⟨ad, e, fun j p hj => ?_⟩
  have hjl := (List.getElem?_eq_some_iff.1 hj).1
  have hj2 : (l.map (fun x => (x, true)) ++ [markFn])[j]? = some (p, true) := by
    rw [List.getElem?_append_left (by simpa using hjl)]
    simp [hj]
  obtain ⟨c, h1, h2, h3⟩ := hc j _ hj2
  exact ⟨c, h1, LF_fn h2, h3⟩
/-- LentModule, told by what it hands out. -/
theorem lentModC (A0 A1 A2 A3 : Option Addr) (c0 c1 c2 c3 : Nat) (l0 : List Int) (l1 : List S57) (l2 : List Int) (l3 : List S48) (w : World)
    (hr0 : Kd.C (Kd.int .u64) w A0 l0.length l0) (hr1 : Kd.C k57 w A1 l1.length l1) (hr2 : Kd.C (Kd.int .u64) w A2 l2.length l2) (hr3 : Kd.C k48 w A3 l3.length l3)
    (hs0 : (l0.length + 1) * 8 ≤ 140737488355328) (hs1 : (l1.length + 1) * 16 ≤ 140737488355328) (hs2 : (l2.length + 1) * 8 ≤ 140737488355328) (hs3 : (l3.length + 1) * 96 ≤ 140737488355328)
    (hsf : ∀ x ∈ l3, (x.f1.length + 1) * 8 ≤ 140737488355328 ∧ (x.f2.length + 1) * 8 ≤ 140737488355328 ∧ (x.f5.length + 1) * 16 ≤ 140737488355328) :
    Calls Try.prog 7 #[.agg #[.slice A0 l0.length c0, .slice A1 l1.length c1, .slice A2 l2.length c2, .slice A3 l3.length c3]] w fun e w' => ∃ v, e = .returned v ∧ LentM w' v l0 l1 l2 l3 ∧ Below w.heap.size w w' := by
  refine (louverkit_LentModule.calls A0 A1 A2 A3 c0 c1 c2 c3 l0 l1 l2 l3 w hr0 hr1 hr2 hr3 hs0 hs1 hs2 hs3 hsf).mono ?_
  rintro e w' ⟨v0, v1, v2, v3, rfl, h0, h1, h2, h3, hb⟩
  obtain ⟨B0, d0, rfl, p0, q0⟩ := h0.toC
  obtain ⟨B1, d1, rfl, p1, q1⟩ := h1.toC
  obtain ⟨B2, d2, rfl, p2, q2⟩ := h2.toC
  obtain ⟨B3, d3, rfl, p3, q3⟩ := h3.toC
  exact ⟨_, rfl, ⟨B0, d0, B1, d1, B2, d2, B3, d3, rfl, ⟨p0, q0⟩, ⟨p1, q1⟩, ⟨p2, q2⟩, ⟨p3, q3⟩⟩, hb⟩
set_option maxHeartbeats 16000000 in
set_option maxRecDepth 100000 in
theorem louverkit_KeptModuleC.calls (v : Value) (A0 A1 A2 A3 : Option Addr) (c0 c1 c2 c3 : Nat) (l0 : List Int) (l1 : List S57) (l2 : List Int) (l3 : List S48) (w : World) (hL : LentM w v l0 l1 l2 l3)
    (hr0 : Kd.C (Kd.int .u64) w A0 l0.length l0) (hc0 : l0.length ≤ c0) (hr1 : Kd.C k57 w A1 l1.length l1) (hc1 : l1.length ≤ c1) (hr2 : Kd.C (Kd.int .u64) w A2 l2.length l2) (hc2 : l2.length ≤ c2) (hr3 : Kd.C k48 w A3 l3.length l3) (hc3 : l3.length ≤ c3) :
    Calls Try.prog 17 #[v, .agg #[.slice A0 l0.length c0, .slice A1 l1.length c1, .slice A2 l2.length c2, .slice A3 l3.length c3]] w fun e w' => e = .returned (.bool true) ∧ Below w.heap.size w w' := by
  obtain ⟨B0, d0, B1, d1, B2, d2, B3, d3, rfl, ⟨p0, q0⟩, ⟨p1, q1⟩, ⟨p2, q2⟩, ⟨p3, q3⟩⟩ := hL
  have hm1 : l1.length ≤ 9223372036854775806 := by have := Kd.C_max q1; simp at this; omega
  have hm3 : l3.length ≤ 9223372036854775806 := by have := Kd.C_max q3; omega
  have Zp0 := Aside0.mk p0
  have Zq0 := Aside0.mk q0
  have Zp1 := Aside0.mk p1
  have Zq1 := Aside0.mk q1
  have Zp2 := Aside0.mk p2
  have Zq2 := Aside0.mk q2
  have Zp3 := Aside0.mk p3
  have Zq3 := Aside0.mk q3
  have Zhr0 := Aside0.mk hr0
  have Zhc0 := Aside0.mk hc0
  have Zhr1 := Aside0.mk hr1
  have Zhc1 := Aside0.mk hc1
  have Zhr2 := Aside0.mk hr2
  have Zhc2 := Aside0.mk hc2
  have Zhr3 := Aside0.mk hr3
  have Zhc3 := Aside0.mk hc3
  have Zhm1 := Aside0.mk hm1
  have Zhm3 := Aside0.mk hm3
  clear p0 q0 p1 q1 p2 q2 p3 q3 hr0 hc0 hr1 hc1 hr2 hc2 hr3 hc3 hm1 hm3
  have HB := Aside0.mk (below_alloc (below_alloc (Below.refl w.heap.size w) (.cells #[.slice B0 l0.length d0, .slice B1 l1.length d1, .slice B2 l2.length d2, .slice B3 l3.length d3] 26)) (.cells #[.slice A0 l0.length c0, .slice A1 l1.length c1, .slice A2 l2.length c2, .slice A3 l3.length c3] 26))
  have HG1 := Aside0.mk (blk_alloc (heap_alloc_new w (.cells #[.slice B0 l0.length d0, .slice B1 l1.length d1, .slice B2 l2.length d2, .slice B3 l3.length d3] 26)) (.cells #[.slice A0 l0.length c0, .slice A1 l1.length c1, .slice A2 l2.length c2, .slice A3 l3.length c3] 26))
  have HG2 := Aside0.mk (show ((w.alloc (.cells #[.slice B0 l0.length d0, .slice B1 l1.length d1, .slice B2 l2.length d2, .slice B3 l3.length d3] 26)).alloc (.cells #[.slice A0 l0.length c0, .slice A1 l1.length c1, .slice A2 l2.length c2, .slice A3 l3.length c3] 26)).heap[w.heap.size + 1]? = some (.cells #[.slice A0 l0.length c0, .slice A1 l1.length c1, .slice A2 l2.length c2, .slice A3 l3.length c3] 26 (0, 0)) by
    have := heap_alloc_new (w.alloc (.cells #[.slice B0 l0.length d0, .slice B1 l1.length d1, .slice B2 l2.length d2, .slice B3 l3.length d3] 26)) (.cells #[.slice A0 l0.length c0, .slice A1 l1.length c1, .slice A2 l2.length c2, .slice A3 l3.length c3] 26)
    simpa using this)
  obtain ⟨⟨a0, a1, a2, a3⟩, _⟩ := lf4 HG1.out
  obtain ⟨⟨b0, b1, b2, b3⟩, _⟩ := lf4 HG2.out
  go_enter Try.func17, Try.ntmps17
  go_wp2_with fail
  refine (louverkit_KeptLabelsC.calls (.slice B0 l0.length d0) l0 A0 c0 _ ⟨B0, d0, rfl, Zp0.out, Kd.C_below Zq0.out HB.out⟩ (Kd.C_below Zhr0.out HB.out) Zhc0.out).mono ?_
  rintro e w1 ⟨rfl, hd⟩
  have hb := hd.below
  clear a0 a1 a2 a3 b0 b1 b2 b3
  replace HG1 := Aside0.mk (blk_below HG1.out hb)
  replace HG2 := Aside0.mk (blk_below HG2.out hb)
  replace HB := Aside0.mk (below_step HB.out hb)
  clear hb hd
  obtain ⟨⟨a0, a1, a2, a3⟩, _⟩ := lf4 HG1.out
  obtain ⟨⟨b0, b1, b2, b3⟩, _⟩ := lf4 HG2.out
  go_wp2_with fail
  refine (louverkit_KeptLabelsC.calls (.slice B2 l2.length d2) l2 A2 c2 _ ⟨B2, d2, rfl, Zp2.out, Kd.C_below Zq2.out HB.out⟩ (Kd.C_below Zhr2.out HB.out) Zhc2.out).mono ?_
  rintro e w1 ⟨rfl, hd⟩
  have hb := hd.below
  clear a0 a1 a2 a3 b0 b1 b2 b3
  replace HG1 := Aside0.mk (blk_below HG1.out hb)
  replace HG2 := Aside0.mk (blk_below HG2.out hb)
  replace HB := Aside0.mk (below_step HB.out hb)
  clear hb hd
  obtain ⟨⟨a0, a1, a2, a3⟩, _⟩ := lf4 HG1.out
  obtain ⟨⟨b0, b1, b2, b3⟩, _⟩ := lf4 HG2.out
  go_wp2_with fail
  clear a0 a1 a2 a3 b0 b1 b2 b3
  go_loopg [5] (l1.length + 1) (fun kq v5 w' => ∃ (i : Nat), v5 = .int .i64 (i : Int) ∧ Aside0 (i + kq = l1.length + 1) ∧ Aside0 (1 ≤ kq) ∧ Aside0 (w'.heap[w.heap.size]? = some (.cells #[.slice B0 l0.length d0, .slice B1 l1.length d1, .slice B2 l2.length d2, .slice B3 l3.length d3] 26 (0, 0))) ∧ Aside0 (w'.heap[w.heap.size + 1]? = some (.cells #[.slice A0 l0.length c0, .slice A1 l1.length c1, .slice A2 l2.length c2, .slice A3 l3.length c3] 26 (0, 0))) ∧ Aside0 (Below w.heap.size w w'))
  case atStart => exact ⟨0, rfl, ⟨by omega⟩, ⟨by omega⟩, HG1, HG2, HB⟩
  case round =>
    clear HG1 HG2 HB
    obtain ⟨i, rfl, HI, HI1, HG1, HG2, HB⟩ := hrel
    obtain ⟨⟨a0, a1, a2, a3⟩, _⟩ := lf4 HG1.out
    obtain ⟨⟨b0, b1, b2, b3⟩, _⟩ := lf4 HG2.out
    cases gk with
    | zero => exact absurd HI1.out (by omega)
    | succ k1 =>
      by_cases ci : i < l1.length
      · have cib : decide ((i : Int) < (l1.length : Int)) = true := decide_eq_true (by omega)
        have hii : (i : Int) < (l1.length : Int) := by omega
        have hw2 : wrap64 ((i : Int) + 1) = (i : Int) + 1 := by have := Zhm1.out; unfold wrap64; omega
        obtain ⟨ad, hA, x0, x1⟩ := at_T57 (Kd.C_below Zhr1.out HB.out) (i : Int) (by omega) hii
        subst hA
        obtain ⟨bd, hA, y0, y1⟩ := at_T57 (Kd.C_below (lentC_reads Zq1.out) HB.out) (i : Int) (by omega) hii
        subst hA
        rw [Int.toNat_natCast] at x0 x1 y0 y1
        obtain ⟨x, hx⟩ : ∃ x, rd_T57 l1 (i : Int) = x := ⟨_, rfl⟩
        rw [hx] at x0 x1 y0 y1
        clear hx
        have heq : ∀ W : World, (Op.equalIn 10000 57 (.agg #[.int .i64 x.f0, .int .u64 x.f1]) (.agg #[.int .i64 x.f0, .int .u64 x.f1])).run Try.prog W = .ok true W := fun W => by
          have := keptEqA 9998 W x.f0 x.f0 x.f1 x.f1
          simpa using this
        go_wp2_with fail
        refine start_ (n := 11) (S := fun w' => w'.cell? ⟨w.heap.size, 1, none⟩ = some (.slice (some bd) l1.length d1) ∧ w'.cell? ⟨w.heap.size + 1, 1, none⟩ = some (.slice (some ad) l1.length c1) ∧ w'.cell? (bd.add (i * 2)) = some (.int .i64 x.f0) ∧ w'.cell? ⟨(bd.add (i * 2)).block, (bd.add (i * 2)).off + 1, none⟩ = some (.int .u64 x.f1) ∧ w'.cell? (ad.add (i * 2)) = some (.int .i64 x.f0) ∧ w'.cell? ⟨(ad.add (i * 2)).block, (ad.add (i * 2)).off + 1, none⟩ = some (.int .u64 x.f1)) (ds := []) #[false, false, false, false, false, false, false, false, false, false, false] (by kernel_rfl) rfl rfl ⟨a1, b1, y0, y1, x0, x1⟩ (fun hHeld => ?_)
        refine pure_ (i := 0) (N := some 48) (v := ?_) (a' := ?_) #[true, false, false, false, false, false, false, false, false, false, false] rfl rfl (by kernel_rfl) (fun _ _ _ h => h) (Or.inl ⟨by rfl, ?_⟩) ?_ ?_
        rotate_left
        · intro w'
          go_simp
          with_reducible rfl
        rotate_left
        · simp only [Act.put, List.setIfInBounds_toArray, List.set_cons_zero, List.set_cons_succ, i64_w, i32_w]
          rfl
        refine pure_ (i := 2) (N := some 50) (v := ?_) (a' := ?_) #[true, false, true, false, false, false, false, false, false, false, false] rfl rfl (by kernel_rfl) (fun _ _ _ h => h) (Or.inl ⟨by rfl, ?_⟩) ?_ ?_
        rotate_left
        · intro w'
          go_simp
          with_reducible rfl
        rotate_left
        · simp only [Act.put, List.setIfInBounds_toArray, List.set_cons_zero, List.set_cons_succ, i64_w, i32_w]
          rfl
        refine pure_ (i := 5) (N := some 53) (v := ?_) (a' := ?_) #[true, false, true, false, false, true, false, false, false, false, false] rfl rfl (by kernel_rfl) (fun _ _ _ h => h) (Or.inl ⟨by rfl, ?_⟩) ?_ ?_
        rotate_left
        · intro w'
          go_simp
          with_reducible rfl
        rotate_left
        · simp only [Act.put, List.setIfInBounds_toArray, List.set_cons_zero, List.set_cons_succ, i64_w, i32_w]
          rfl
        refine pure_ (i := 7) (N := some 55) (v := ?_) (a' := ?_) #[true, false, true, false, false, true, false, true, false, false, false] rfl rfl (by kernel_rfl) (fun _ _ _ h => h) (Or.inl ⟨by rfl, ?_⟩) ?_ ?_
        rotate_left
        · intro w'
          go_simp
          with_reducible rfl
        rotate_left
        · simp only [Act.put, List.setIfInBounds_toArray, List.set_cons_zero, List.set_cons_succ, i64_w, i32_w]
          rfl
        refine take_ (i := 1) (N := some 49) (v := ?_) (a' := ?_) #[true, true, true, false, false, true, false, true, false, false, false] rfl rfl (by kernel_rfl) (fun _ _ _ h => h) (Or.inl ⟨by rfl, ?_⟩) hHeld ?_ ?_
        rotate_left
        · rintro w' ⟨s0, s1, s2, s3, s4, s5⟩
          go_simp
          with_reducible rfl
        rotate_left
        · simp only [Act.put, List.setIfInBounds_toArray, List.set_cons_zero, List.set_cons_succ, i64_w, i32_w]
          rfl
        refine pure_ (i := 3) (N := some 51) (v := ?_) (a' := ?_) #[true, true, true, true, false, true, false, true, false, false, false] rfl rfl (by kernel_rfl) (fun _ _ _ h => h) (Or.inl ⟨by rfl, ?_⟩) ?_ ?_
        rotate_left
        · intro w'
          go_simp
          with_reducible rfl
        rotate_left
        · simp only [Act.put, List.setIfInBounds_toArray, List.set_cons_zero, List.set_cons_succ, i64_w, i32_w]
          rfl
        refine take_ (i := 4) (N := some 52) (v := ?_) (a' := ?_) #[true, true, true, true, true, true, false, true, false, false, false] rfl rfl (by kernel_rfl) (fun _ _ _ h => h) (Or.inl ⟨by rfl, ?_⟩) hHeld ?_ ?_
        rotate_left
        · rintro w' ⟨s0, s1, s2, s3, s4, s5⟩
          go_simp
          with_reducible rfl
        rotate_left
        · simp only [Act.put, List.setIfInBounds_toArray, List.set_cons_zero, List.set_cons_succ, i64_w, i32_w]
          rfl
        refine take_ (i := 6) (N := some 54) (v := ?_) (a' := ?_) #[true, true, true, true, true, true, true, true, false, false, false] rfl rfl (by kernel_rfl) (fun _ _ _ h => h) (Or.inl ⟨by rfl, ?_⟩) hHeld ?_ ?_
        rotate_left
        · rintro w' ⟨s0, s1, s2, s3, s4, s5⟩
          go_simp
          with_reducible rfl
        rotate_left
        · simp only [Act.put, List.setIfInBounds_toArray, List.set_cons_zero, List.set_cons_succ, i64_w, i32_w]
          rfl
        refine pure_ (i := 8) (N := some 56) (v := ?_) (a' := ?_) #[true, true, true, true, true, true, true, true, true, false, false] rfl rfl (by kernel_rfl) (fun _ _ _ h => h) (Or.inl ⟨by rfl, ?_⟩) ?_ ?_
        rotate_left
        · intro w'
          go_simp
          with_reducible rfl
        rotate_left
        · simp only [Act.put, List.setIfInBounds_toArray, List.set_cons_zero, List.set_cons_succ, i64_w, i32_w]
          rfl
        refine take_ (i := 9) (N := some 57) (v := ?_) (a' := ?_) #[true, true, true, true, true, true, true, true, true, true, false] rfl rfl (by kernel_rfl) (fun _ _ _ h => h) (Or.inl ⟨by rfl, ?_⟩) hHeld ?_ ?_
        rotate_left
        · rintro w' ⟨s0, s1, s2, s3, s4, s5⟩
          go_simp
          with_reducible rfl
        rotate_left
        · simp only [Act.put, List.setIfInBounds_toArray, List.set_cons_zero, List.set_cons_succ, i64_w, i32_w]
          rfl
        refine pure_ (i := 10) (N := some 58) (v := ?_) (a' := ?_) #[true, true, true, true, true, true, true, true, true, true, true] rfl rfl (by kernel_rfl) (fun _ _ _ h => h) (Or.inl ⟨by rfl, ?_⟩) ?_ ?_
        rotate_left
        · intro w'
          go_simp
          with_reducible rfl
        rotate_left
        · simp only [Act.put, List.setIfInBounds_toArray, List.set_cons_zero, List.set_cons_succ, i64_w, i32_w]
          rfl
        refine done_ (by kernel_rfl) ?_
        go_wp2
        go_roundg k1
        case measure => omega
        case rel => exact ⟨i + 1, by simp [hw2], ⟨by have := HI.out; omega⟩, ⟨by have := HI.out; omega⟩, HG1, HG2, ⟨below_drew1 HB.out⟩⟩
      · have cib : decide ((i : Int) < (l1.length : Int)) = false := decide_eq_false (by omega)
        clear HI HI1
        go_wp2
        clear a0 a1 a2 a3 b0 b1 b2 b3
        go_loopg [6] (l3.length + 1) (fun kq v6 w' => ∃ (i : Nat), v6 = .int .i64 (i : Int) ∧ Aside0 (i + kq = l3.length + 1) ∧ Aside0 (1 ≤ kq) ∧ Aside0 (w'.heap[w.heap.size]? = some (.cells #[.slice B0 l0.length d0, .slice B1 l1.length d1, .slice B2 l2.length d2, .slice B3 l3.length d3] 26 (0, 0))) ∧ Aside0 (w'.heap[w.heap.size + 1]? = some (.cells #[.slice A0 l0.length c0, .slice A1 l1.length c1, .slice A2 l2.length c2, .slice A3 l3.length c3] 26 (0, 0))) ∧ Aside0 (Below w.heap.size w w'))
        case atStart => exact ⟨0, rfl, ⟨by omega⟩, ⟨by omega⟩, HG1, HG2, HB⟩
        case round =>
          clear HG1 HG2 HB
          obtain ⟨i, rfl, HI, HI1, HG1, HG2, HB⟩ := hrel
          obtain ⟨⟨a0, a1, a2, a3⟩, _⟩ := lf4 HG1.out
          obtain ⟨⟨b0, b1, b2, b3⟩, _⟩ := lf4 HG2.out
          cases gk with
          | zero => exact absurd HI1.out (by omega)
          | succ k1 =>
            by_cases ci : i < l3.length
            · have cib : decide ((i : Int) < (l3.length : Int)) = true := decide_eq_true (by omega)
              have hii : (i : Int) < (l3.length : Int) := by omega
              have hw2 : wrap64 ((i : Int) + 1) = (i : Int) + 1 := by have := Zhm3.out; unfold wrap64; omega
              obtain ⟨wi, hwi⟩ : ∃ wi : World, wi = wr := ⟨_, rfl⟩
              rw [← hwi] at HG1 HG2 HB a0 a1 a2 a3 b0 b1 b2 b3 ⊢
              clear hwi
              obtain ⟨ad, E1, e1, E2, e2, E5, e5, hA, x0, x1, x2, x3, x4, x5, o1, g1, o2, g2, o5, g5⟩ := at_T48 (Kd.C_below Zhr3.out HB.out) (i : Int) (by omega) hii
              subst hA
              rw [Int.toNat_natCast] at x0 x1 x2 x3 x4 x5
              obtain ⟨x, hx⟩ : ∃ x, rd_T48 l3 (i : Int) = x := ⟨_, rfl⟩
              rw [hx] at x0 x1 x2 x3 x4 x5 o1 g1 o2 g2 o5 g5
              have hxl : l3[i] = x := by rw [← hx]; simp [rd_T48, List.getD_eq_getElem?_getD, ci]
              obtain ⟨bd, F1, f1, F2, f2, F5, f5, hA, y0, y1, y2, y3, y4, y5, k1_, k2_, k5_⟩ := at_LF (Kd.C_below Zq3.out HB.out) i ci x hxl
              subst hA
              clear hx hxl
              have G1 := Aside0.mk g1
              have G2 := Aside0.mk g2
              have G5 := Aside0.mk g5
              have O1 := Aside0.mk o1
              have O2 := Aside0.mk o2
              have O5 := Aside0.mk o5
              have K1 := Aside0.mk k1_
              have K2 := Aside0.mk k2_
              have K5 := Aside0.mk k5_
              clear g1 g2 g5 o1 o2 o5 k1_ k2_ k5_
              go_wp2_with fail
              refine start_ (n := 12) (S := fun w' => w'.cell? ⟨w.heap.size, 3, none⟩ = some (.slice (some bd) l3.length d3) ∧ w'.cell? ⟨w.heap.size + 1, 3, none⟩ = some (.slice (some ad) l3.length c3) ∧ w'.cell? (bd.add (i * 6)) = some (.int .u64 x.f0) ∧ w'.cell? ⟨(bd.add (i * 6)).block, (bd.add (i * 6)).off + 1, none⟩ = some (.slice F1 x.f1.length f1) ∧ w'.cell? ⟨(bd.add (i * 6)).block, (bd.add (i * 6)).off + 2, none⟩ = some (.slice F2 x.f2.length f2) ∧ w'.cell? ⟨(bd.add (i * 6)).block, (bd.add (i * 6)).off + 3, none⟩ = some (.int .i64 x.f3) ∧ w'.cell? ⟨(bd.add (i * 6)).block, (bd.add (i * 6)).off + 4, none⟩ = some (.int .i64 x.f4) ∧ w'.cell? ⟨(bd.add (i * 6)).block, (bd.add (i * 6)).off + 5, none⟩ = some (.slice F5 x.f5.length f5) ∧ w'.cell? (ad.add (i * 6)) = some (.int .u64 x.f0) ∧ w'.cell? ⟨(ad.add (i * 6)).block, (ad.add (i * 6)).off + 1, none⟩ = some (.slice E1 x.f1.length e1) ∧ w'.cell? ⟨(ad.add (i * 6)).block, (ad.add (i * 6)).off + 2, none⟩ = some (.slice E2 x.f2.length e2) ∧ w'.cell? ⟨(ad.add (i * 6)).block, (ad.add (i * 6)).off + 3, none⟩ = some (.int .i64 x.f3) ∧ w'.cell? ⟨(ad.add (i * 6)).block, (ad.add (i * 6)).off + 4, none⟩ = some (.int .i64 x.f4) ∧ w'.cell? ⟨(ad.add (i * 6)).block, (ad.add (i * 6)).off + 5, none⟩ = some (.slice E5 x.f5.length e5)) (ds := []) #[false, false, false, false, false, false, false, false, false, false, false, false] (by kernel_rfl) rfl rfl ⟨a3, b3, y0, y1, y2, y3, y4, y5, x0, x1, x2, x3, x4, x5⟩ (fun hHeld => ?_)
              refine pure_ (i := 0) (N := some 66) (v := ?_) (a' := ?_) #[true, false, false, false, false, false, false, false, false, false, false, false] rfl rfl (by kernel_rfl) (fun _ _ _ h => h) (Or.inl ⟨by rfl, ?_⟩) ?_ ?_
              rotate_left
              · intro w'
                go_simp
                with_reducible rfl
              rotate_left
              · simp only [Act.put, List.setIfInBounds_toArray, List.set_cons_zero, List.set_cons_succ, i64_w, i32_w]
                rfl
              refine pure_ (i := 2) (N := some 68) (v := ?_) (a' := ?_) #[true, false, true, false, false, false, false, false, false, false, false, false] rfl rfl (by kernel_rfl) (fun _ _ _ h => h) (Or.inl ⟨by rfl, ?_⟩) ?_ ?_
              rotate_left
              · intro w'
                go_simp
                with_reducible rfl
              rotate_left
              · simp only [Act.put, List.setIfInBounds_toArray, List.set_cons_zero, List.set_cons_succ, i64_w, i32_w]
                rfl
              refine pure_ (i := 5) (N := some 71) (v := ?_) (a' := ?_) #[true, false, true, false, false, true, false, false, false, false, false, false] rfl rfl (by kernel_rfl) (fun _ _ _ h => h) (Or.inl ⟨by rfl, ?_⟩) ?_ ?_
              rotate_left
              · intro w'
                go_simp
                with_reducible rfl
              rotate_left
              · simp only [Act.put, List.setIfInBounds_toArray, List.set_cons_zero, List.set_cons_succ, i64_w, i32_w]
                rfl
              refine pure_ (i := 7) (N := some 73) (v := ?_) (a' := ?_) #[true, false, true, false, false, true, false, true, false, false, false, false] rfl rfl (by kernel_rfl) (fun _ _ _ h => h) (Or.inl ⟨by rfl, ?_⟩) ?_ ?_
              rotate_left
              · intro w'
                go_simp
                with_reducible rfl
              rotate_left
              · simp only [Act.put, List.setIfInBounds_toArray, List.set_cons_zero, List.set_cons_succ, i64_w, i32_w]
                rfl
              refine take_ (i := 1) (N := some 67) (v := ?_) (a' := ?_) #[true, true, true, false, false, true, false, true, false, false, false, false] rfl rfl (by kernel_rfl) (fun _ _ _ h => h) (Or.inl ⟨by rfl, ?_⟩) hHeld ?_ ?_
              rotate_left
              · rintro w' ⟨s0, s1, s2, s3, s4, s5, s6, s7, s8, s9, s10, s11, s12, s13⟩
                go_simp
                with_reducible rfl
              rotate_left
              · simp only [Act.put, List.setIfInBounds_toArray, List.set_cons_zero, List.set_cons_succ, i64_w, i32_w]
                rfl
              refine pure_ (i := 3) (N := some 69) (v := ?_) (a' := ?_) #[true, true, true, true, false, true, false, true, false, false, false, false] rfl rfl (by kernel_rfl) (fun _ _ _ h => h) (Or.inl ⟨by rfl, ?_⟩) ?_ ?_
              rotate_left
              · intro w'
                go_simp
                with_reducible rfl
              rotate_left
              · simp only [Act.put, List.setIfInBounds_toArray, List.set_cons_zero, List.set_cons_succ, i64_w, i32_w]
                rfl
              refine take_ (i := 4) (N := some 70) (v := ?_) (a' := ?_) #[true, true, true, true, true, true, false, true, false, false, false, false] rfl rfl (by kernel_rfl) (fun _ _ _ h => h) (Or.inl ⟨by rfl, ?_⟩) hHeld ?_ ?_
              rotate_left
              · rintro w' ⟨s0, s1, s2, s3, s4, s5, s6, s7, s8, s9, s10, s11, s12, s13⟩
                go_simp
                with_reducible rfl
              rotate_left
              · simp only [Act.put, List.setIfInBounds_toArray, List.set_cons_zero, List.set_cons_succ, i64_w, i32_w]
                rfl
              refine take_ (i := 6) (N := some 72) (v := ?_) (a' := ?_) #[true, true, true, true, true, true, true, true, false, false, false, false] rfl rfl (by kernel_rfl) (fun _ _ _ h => h) (Or.inl ⟨by rfl, ?_⟩) hHeld ?_ ?_
              rotate_left
              · rintro w' ⟨s0, s1, s2, s3, s4, s5, s6, s7, s8, s9, s10, s11, s12, s13⟩
                go_simp
                with_reducible rfl
              rotate_left
              · simp only [Act.put, List.setIfInBounds_toArray, List.set_cons_zero, List.set_cons_succ, i64_w, i32_w]
                rfl
              refine pure_ (i := 8) (N := some 74) (v := ?_) (a' := ?_) #[true, true, true, true, true, true, true, true, true, false, false, false] rfl rfl (by kernel_rfl) (fun _ _ _ h => h) (Or.inl ⟨by rfl, ?_⟩) ?_ ?_
              rotate_left
              · intro w'
                go_simp
                with_reducible rfl
              rotate_left
              · simp only [Act.put, List.setIfInBounds_toArray, List.set_cons_zero, List.set_cons_succ, i64_w, i32_w]
                rfl
              refine take_ (i := 9) (N := some 75) (v := ?_) (a' := ?_) #[true, true, true, true, true, true, true, true, true, true, false, false] rfl rfl (by kernel_rfl) (fun _ _ _ h => h) (Or.inl ⟨by rfl, ?_⟩) hHeld ?_ ?_
              rotate_left
              · rintro w' ⟨s0, s1, s2, s3, s4, s5, s6, s7, s8, s9, s10, s11, s12, s13⟩
                go_simp
                with_reducible rfl
              rotate_left
              · simp only [Act.put, List.setIfInBounds_toArray, List.set_cons_zero, List.set_cons_succ, i64_w, i32_w]
                rfl
              refine one_ (i := 10) (N := some 76) #[true, true, true, true, true, true, true, true, true, true, true, false] rfl rfl (by kernel_rfl) (by decide) (fun K hK => ?_)
              refine goes_ Try.func30 (by kernel_rfl) rfl #[.agg #[.int .u64 x.f0, .slice F1 x.f1.length f1, .slice F2 x.f2.length f2, .int .i64 x.f3, .int .i64 x.f4, .slice F5 x.f5.length f5], .agg #[.int .u64 x.f0, .slice E1 x.f1.length e1, .slice E2 x.f2.length e2, .int .i64 x.f3, .int .i64 x.f4, .slice E5 x.f5.length e5]] (by rfl) rfl rfl (by (try simp only [List.map_toArray, List.map_cons, List.map_nil]); first | done | rfl) ?_
              with_reducible refine (louverkit_KeptFunctionC.calls x.f0 x.f3 x.f4 (.slice F1 x.f1.length f1) (.slice F2 x.f2.length f2) (.slice F5 x.f5.length f5) E1 E2 E5 e1 e2 e5 x.f1 x.f2 x.f5 _ (K1.out.below (below_drew1 (Below.refl _ _))) (K2.out.below (below_drew1 (Below.refl _ _))) (K5.out.below (below_drew1 (Below.refl _ _))) (Kd.C_drew G1.out) O1.out (Kd.C_drew G2.out) O2.out (Kd.C_drew G5.out) O5.out).mono ?_
              rintro e wk ⟨rfl, hb⟩
              refine ⟨_, rfl, ?_⟩
              replace hb : Below wi.heap.size wi wk := ⟨hb.os, hb.tape, hb.output, hb.size, hb.block⟩
              have HBk := Aside0.mk hb
              refine hK.out _ _ ⟨(pw_cell_below hb hHeld.1), (pw_cell_below hb hHeld.2.1), (pw_cell_below hb hHeld.2.2.1), (pw_cell_below hb hHeld.2.2.2.1), (pw_cell_below hb hHeld.2.2.2.2.1), (pw_cell_below hb hHeld.2.2.2.2.2.1), (pw_cell_below hb hHeld.2.2.2.2.2.2.1), (pw_cell_below hb hHeld.2.2.2.2.2.2.2.1), (pw_cell_below hb hHeld.2.2.2.2.2.2.2.2.1), (pw_cell_below hb hHeld.2.2.2.2.2.2.2.2.2.1), (pw_cell_below hb hHeld.2.2.2.2.2.2.2.2.2.2.1), (pw_cell_below hb hHeld.2.2.2.2.2.2.2.2.2.2.2.1), (pw_cell_below hb hHeld.2.2.2.2.2.2.2.2.2.2.2.2.1), (pw_cell_below hb hHeld.2.2.2.2.2.2.2.2.2.2.2.2.2)⟩ (fun hHeld => ?_)
              clear hK K
              refine norm_ (a' := ?_) ?_ ?_
              rotate_left
              · show Act.put _ (some 76) _ = _
                simp only [Act.put, List.setIfInBounds_toArray, List.set_cons_zero, List.set_cons_succ, i64_w, i32_w]
                rfl
              refine pure_ (i := 11) (N := some 77) (v := ?_) (a' := ?_) #[true, true, true, true, true, true, true, true, true, true, true, true] rfl rfl (by kernel_rfl) (fun _ _ _ h => h) (Or.inl ⟨by rfl, ?_⟩) ?_ ?_
              rotate_left
              · intro w'
                go_simp
                with_reducible rfl
              rotate_left
              · simp only [Act.put, List.setIfInBounds_toArray, List.set_cons_zero, List.set_cons_succ, i64_w, i32_w]
                rfl
              refine done_ (by kernel_rfl) ?_
              clear y0 y1 y2 y3 y4 y5 x0 x1 x2 x3 x4 x5
              go_wp2
              go_roundg k1
              case measure => omega
              case rel => exact ⟨i + 1, by simp [hw2], ⟨by have := HI.out; omega⟩, ⟨by have := HI.out; omega⟩, ⟨blk_below HG1.out HBk.out⟩, ⟨blk_below HG2.out HBk.out⟩, ⟨below_step HB.out HBk.out⟩⟩
            · have cib : decide ((i : Int) < (l3.length : Int)) = false := decide_eq_false (by omega)
              clear HI HI1
              obtain ⟨bd, hA, y4⟩ := mark_LF (Kd.C_below Zq3.out HB.out)
              subst hA
              obtain ⟨ad, cs, hA, hK, hcell⟩ := lentC_mark (Kd.C_below Zq1.out HB.out)
              subst hA
              obtain rfl : cs = [.int .i64 (-71), .int .u64 0] := by
                obtain ⟨a, b, e, p, q⟩ := hK
                have p' : a = [.int .i64 (-71)] := p
                have q' : b = [.int .u64 0] := q
                rw [e, p', q']
                rfl
              have x0 : wr.cell? (ad.add (l1.length * 2)) = some (.int .i64 (-71)) := hcell 0 _ rfl
              have hw1 : wrap64 ((l1.length : Int) + 1) = (l1.length : Int) + 1 := by have := Zhm1.out; unfold wrap64; omega
              have hw3 : wrap64 ((l3.length : Int) + 1) = (l3.length : Int) + 1 := by have := Zhm3.out; unfold wrap64; omega
              obtain ⟨i09, hi09, _, hsz9, _⟩ := info_parts linfoA
              have hcutA := cut_up (P := Try.prog) 23 57 Try.underlying23 hi09 (some ad) l1.length d1 ((l1.length : Int) + 1) (by omega) (by have := Zp1.out; omega)
              obtain ⟨i08, hi08, _, hsz8, _⟩ := info_parts linfoF
              have hcutF := cut_up (P := Try.prog) 24 48 Try.underlying24 hi08 (some bd) l3.length d3 ((l3.length : Int) + 1) (by omega) (by have := Zp3.out; omega)
              clear hi09 hsz9 hi08 hsz8 hcell hK
              go_wp2
              go_ret
              exact ⟨rfl, HB.out⟩
end Go.Proofs.Ytlnccdgclaalbaa.PJ
