/- LentFunction by hand: a function whose rows are lent. -/
import Derived.Test.YtlnccdgclaalbaaPJx0
import Derived.Test.YtlnccdgclaalbaaHandLentCode
namespace Go.Proofs.Ytlnccdgclaalbaa.PJ
open Go.RowKit Go.Proofs.YtlnccdgclaalbaaW.PrintWords Go.Proofs.YtlnccdgclaalbaaW.PrintLast Go.Proofs.YtlnccdgclaalbaaW.PrintMore
set_option linter.unusedSimpArgs false
set_option linter.unusedVariables false
theorem facts6 {w : World} {g t : Nat} {a b c d e f : Value} (h : w.heap[g]? = some (.cells #[a, b, c, d, e, f] t (0, 0))) : (w.cell? ⟨g, 0, none⟩ = some a ∧ w.cell? ⟨g, 1, none⟩ = some b ∧ w.cell? ⟨g, 2, none⟩ = some c ∧ w.cell? ⟨g, 3, none⟩ = some d ∧ w.cell? ⟨g, 4, none⟩ = some e ∧ w.cell? ⟨g, 5, none⟩ = some f) ∧
    w.frozen? ⟨g, 0, none⟩ = false ∧ w.frozen? ⟨g, 1, none⟩ = false ∧ w.frozen? ⟨g, 2, none⟩ = false ∧ w.frozen? ⟨g, 3, none⟩ = false ∧ w.frozen? ⟨g, 4, none⟩ = false ∧ w.frozen? ⟨g, 5, none⟩ = false :=
  ⟨⟨blk_cell h 0, blk_cell h 1, blk_cell h 2, blk_cell h 3, blk_cell h 4, blk_cell h 5⟩, blk_frozen h 0, blk_frozen h 1, blk_frozen h 2, blk_frozen h 3, blk_frozen h 4, blk_frozen h 5⟩
theorem put6 {w : World} {g t : Nat} {a b c d e f : Value} (h : w.heap[g]? = some (.cells #[a, b, c, d, e, f] t (0, 0))) (a' b' c' d' e' f' : Value) : ((((((w.setCell ⟨g, 0, none⟩ a').setCell ⟨g, 1, none⟩ b').setCell ⟨g, 2, none⟩ c').setCell ⟨g, 3, none⟩ d').setCell ⟨g, 4, none⟩ e').setCell ⟨g, 5, none⟩ f').heap[g]? = some (.cells #[a', b', c', d', e', f'] t (0, 0)) :=
  blk_put (blk_put (blk_put (blk_put (blk_put (blk_put h 0 a' rfl) 1 b' rfl) 2 c' rfl) 3 d' rfl) 4 e' rfl) 5 f' rfl
theorem LentD.far {α : Type} {d : Kd α} {e : Nat} {W : World} {base : Nat} {v : Value} {l : List α} {m : α} (h : LentD d e W base v l m) {p : Addr} (hp : p.block < base) (u : Value) : LentD d e (W.setCell p u) base v l m := by
  obtain ⟨A, c, rfl, hR⟩ := h
  exact ⟨A, c, rfl, Kd.R_far hR (fun k hk he => by have h1 : base ≤ k := hk; omega) u⟩
theorem LentD.slice {α : Type} {d : Kd α} {e : Nat} {W : World} {base : Nat} {v : Value} {l : List α} {m : α} (h : LentD d e W base v l m) : ∃ A c, v = .slice A l.length c := by
  obtain ⟨A, c, rfl, _⟩ := h
  exact ⟨A, c, rfl⟩
theorem LentD.low {α : Type} {d : Kd α} {e : Nat} {W : World} {base base' : Nat} {v : Value} {l : List α} {m : α} (h : LentD d e W base v l m) (hb : base' ≤ base) : LentD d e W base' v l m := by
  obtain ⟨A, c, rfl, hR⟩ := h
  exact ⟨A, c, rfl, Kd.R_mono (Kd.R_lower hR hb) (fun k hk => Nat.le_trans hb hk)⟩
set_option maxHeartbeats 8000000 in
set_option maxRecDepth 100000 in
theorem louverkit_LentFunction.calls (n0 n3 n4 : Int) (A1 A2 A5 : Option Addr) (c1 c2 c5 : Nat) (l1 l2 : List Int) (l5 : List S77) (w : World) (hr1 : Kd.C (Kd.int .u64) w A1 l1.length l1) (hr2 : Kd.C (Kd.int .u64) w A2 l2.length l2) (hr5 : Kd.C k77 w A5 l5.length l5)
    (hs1 : (l1.length + 1) * 8 ≤ 140737488355328) (hs2 : (l2.length + 1) * 8 ≤ 140737488355328) (hs5 : (l5.length + 1) * 16 ≤ 140737488355328) :
    Calls Try.prog 23 #[.agg #[.int .u64 n0, .slice A1 l1.length c1, .slice A2 l2.length c2, .int .i64 n3, .int .i64 n4, .slice A5 l5.length c5]] w fun e w' => ∃ v1 v2 v5, e = .returned (.agg #[.int .u64 n0, v1, v2, .int .i64 n3, .int .i64 n4, v5]) ∧
      LentD (Kd.int .u64) 32 w' w.heap.size v1 l1 7171 ∧ LentD (Kd.int .u64) 32 w' w.heap.size v2 l2 7171 ∧ LentD k77 77 w' w.heap.size v5 l5 ⟨-71, 0⟩ ∧ Below w.heap.size w w' := by
  have Zhr1 := Aside0.mk hr1
  have Zhr2 := Aside0.mk hr2
  have Zhr5 := Aside0.mk hr5
  have Zhs1 := Aside0.mk hs1
  have Zhs2 := Aside0.mk hs2
  have Zhs5 := Aside0.mk hs5
  clear hr1 hr2 hr5 hs1 hs2 hs5
  have HB := Aside0.mk (below_alloc (below_alloc (Below.refl w.heap.size w) (.cells #[.int .u64 n0, .slice A1 l1.length c1, .slice A2 l2.length c2, .int .i64 n3, .int .i64 n4, .slice A5 l5.length c5] 48)) (.cells #[.int .u64 0, .slice none 0 0, .slice none 0 0, .int .i64 0, .int .i64 0, .slice none 0 0] 48))
  have HG := Aside0.mk (blk_alloc (heap_alloc_new w (.cells #[.int .u64 n0, .slice A1 l1.length c1, .slice A2 l2.length c2, .int .i64 n3, .int .i64 n4, .slice A5 l5.length c5] 48)) (.cells #[.int .u64 0, .slice none 0 0, .slice none 0 0, .int .i64 0, .int .i64 0, .slice none 0 0] 48))
  have HZ := Aside0.mk (show ((w.alloc (.cells #[.int .u64 n0, .slice A1 l1.length c1, .slice A2 l2.length c2, .int .i64 n3, .int .i64 n4, .slice A5 l5.length c5] 48)).alloc (.cells #[.int .u64 0, .slice none 0 0, .slice none 0 0, .int .i64 0, .int .i64 0, .slice none 0 0] 48)).heap[w.heap.size + 1]? = some (.cells #[.int .u64 0, .slice none 0 0, .slice none 0 0, .int .i64 0, .int .i64 0, .slice none 0 0] 48 (0, 0)) by
    have := heap_alloc_new (w.alloc (.cells #[.int .u64 n0, .slice A1 l1.length c1, .slice A2 l2.length c2, .int .i64 n3, .int .i64 n4, .slice A5 l5.length c5] 48)) (.cells #[.int .u64 0, .slice none 0 0, .slice none 0 0, .int .i64 0, .int .i64 0, .slice none 0 0] 48)
    simpa using this)
  obtain ⟨⟨g0, g1, g2, g3, g4, g5⟩, f0, f1, f2, f3, f4, f5⟩ := facts6 HG.out
  go_enter Try.func23, Try.ntmps23
  go_wp2_with fail
  have hB : w.heap.size + 1 < ((w.alloc (.cells #[.int .u64 n0, .slice A1 l1.length c1, .slice A2 l2.length c2, .int .i64 n3, .int .i64 n4, .slice A5 l5.length c5] 48)).alloc (.cells #[.int .u64 0, .slice none 0 0, .slice none 0 0, .int .i64 0, .int .i64 0, .slice none 0 0] 48)).heap.size := blk_lt HZ.out
  refine (louverkit_LentLabelsD.calls A1 c1 l1 _ (Kd.C_below Zhr1.out HB.out) Zhs1.out).mono ?_
  rintro e w1 ⟨v1, rfl, hL, hb⟩
  obtain ⟨B1, d1, rfl⟩ := hL.slice
  clear g0 g1 g2 g3 g4 g5 f0 f1 f2 f3 f4 f5
  have HGb := Aside0.mk (blk_below HG.out hb)
  have HZb := Aside0.mk (blk_below HZ.out hb)
  have HBb := Aside0.mk (below_step HB.out hb)
  clear HG HZ HB
  obtain ⟨⟨g0, g1, g2, g3, g4, g5⟩, f0, f1, f2, f3, f4, f5⟩ := facts6 HGb.out
  have HG := Aside0.mk (blk_put HGb.out 1 (.slice B1 l1.length d1) rfl)
  have HZ := Aside0.mk (blk_far (p := ⟨w.heap.size, 1, none⟩) HZb.out (show w.heap.size + 1 ≠ w.heap.size by omega) (.slice B1 l1.length d1))
  have HB := Aside0.mk (below_set (j := 1) (v := (.slice B1 l1.length d1)) HBb.out (Nat.le_refl w.heap.size))
  obtain ⟨⟨h0, h1, h2, h3, h4, h5⟩, k0, k1, k2, k3, k4, k5⟩ := facts6 HG.out
  have HL1 := Aside0.mk ((hL.low (show w.heap.size + 2 ≤ _ by omega)).far (p := ⟨w.heap.size, 1, none⟩) (show w.heap.size < w.heap.size + 2 by omega) (.slice B1 l1.length d1))
  clear hL hb HGb HZb HBb
  have HZx := HZ
  go_wp2_with fail
  refine (louverkit_LentLabelsD.calls A2 c2 l2 _ (Kd.C_below Zhr2.out HB.out) Zhs2.out).mono ?_
  rintro e w2 ⟨v2, rfl, hL, hb⟩
  obtain ⟨B2, d2, rfl⟩ := hL.slice
  have HL1n := Aside0.mk (HL1.out.below hb)
  clear HL1
  have HL1 := Aside0.mk (HL1n.out.far (p := ⟨w.heap.size, 2, none⟩) (show w.heap.size < _ by omega) (.slice B2 l2.length d2))
  clear HL1n
  clear g0 g1 g2 g3 g4 g5 f0 f1 f2 f3 f4 f5 h0 h1 h2 h3 h4 h5 k0 k1 k2 k3 k4 k5
  skip
  have HGb := Aside0.mk (blk_below HG.out hb)
  have HZb := Aside0.mk (blk_below HZ.out hb)
  have HBb := Aside0.mk (below_step HB.out hb)
  clear HG HZ HB
  obtain ⟨⟨g0, g1, g2, g3, g4, g5⟩, f0, f1, f2, f3, f4, f5⟩ := facts6 HGb.out
  have HG := Aside0.mk (blk_put HGb.out 2 (.slice B2 l2.length d2) rfl)
  have HZ := Aside0.mk (blk_far (p := ⟨w.heap.size, 2, none⟩) HZb.out (show w.heap.size + 1 ≠ w.heap.size by omega) (.slice B2 l2.length d2))
  have HB := Aside0.mk (below_set (j := 2) (v := (.slice B2 l2.length d2)) HBb.out (Nat.le_refl w.heap.size))
  obtain ⟨⟨h0, h1, h2, h3, h4, h5⟩, k0, k1, k2, k3, k4, k5⟩ := facts6 HG.out
  have HL2 := Aside0.mk ((hL.low (show w.heap.size + 2 ≤ _ from blk_lt HZx.out)).far (p := ⟨w.heap.size, 2, none⟩) (show w.heap.size < w.heap.size + 2 by omega) (.slice B2 l2.length d2))
  clear hL hb HGb HZb HBb
  clear HZx
  have HZx := HZ
  go_wp2_with fail
  refine (louverkit_LentCodeD.calls A5 c5 l5 _ (Kd.C_below Zhr5.out HB.out) Zhs5.out).mono ?_
  rintro e w3 ⟨v5, rfl, hL, hb⟩
  obtain ⟨B5, d5, rfl⟩ := hL.slice
  have HL1n := Aside0.mk (HL1.out.below hb)
  clear HL1
  have HL1 := Aside0.mk (HL1n.out.far (p := ⟨w.heap.size, 5, none⟩) (show w.heap.size < _ by omega) (.slice B5 l5.length d5))
  clear HL1n
  have HL2n := Aside0.mk (HL2.out.below hb)
  clear HL2
  have HL2 := Aside0.mk (HL2n.out.far (p := ⟨w.heap.size, 5, none⟩) (show w.heap.size < _ by omega) (.slice B5 l5.length d5))
  clear HL2n
  clear g0 g1 g2 g3 g4 g5 f0 f1 f2 f3 f4 f5 h0 h1 h2 h3 h4 h5 k0 k1 k2 k3 k4 k5
  skip
  have HGb := Aside0.mk (blk_below HG.out hb)
  have HZb := Aside0.mk (blk_below HZ.out hb)
  have HBb := Aside0.mk (below_step HB.out hb)
  clear HG HZ HB
  obtain ⟨⟨g0, g1, g2, g3, g4, g5⟩, f0, f1, f2, f3, f4, f5⟩ := facts6 HGb.out
  have HG := Aside0.mk (blk_put HGb.out 5 (.slice B5 l5.length d5) rfl)
  have HZ := Aside0.mk (blk_far (p := ⟨w.heap.size, 5, none⟩) HZb.out (show w.heap.size + 1 ≠ w.heap.size by omega) (.slice B5 l5.length d5))
  have HB := Aside0.mk (below_set (j := 5) (v := (.slice B5 l5.length d5)) HBb.out (Nat.le_refl w.heap.size))
  obtain ⟨⟨h0, h1, h2, h3, h4, h5⟩, k0, k1, k2, k3, k4, k5⟩ := facts6 HG.out
  have HL5 := Aside0.mk ((hL.low (show w.heap.size + 2 ≤ _ from blk_lt HZx.out)).far (p := ⟨w.heap.size, 5, none⟩) (show w.heap.size < w.heap.size + 2 by omega) (.slice B5 l5.length d5))
  clear hL hb HGb HZb HBb
  obtain ⟨⟨z0, z1, z2, z3, z4, z5⟩, y0, y1, y2, y3, y4, y5⟩ := facts6 HZ.out
  go_wp2
  refine bodyPost_ret (results_cell_row rfl _ _ (w.heap.size + 1) 48 #[.int .u64 n0, .slice B1 l1.length d1, .slice B2 l2.length d2, .int .i64 n3, .int .i64 n4, .slice B5 l5.length d5] (0, 0) _ rfl (put6 HZ.out _ _ _ _ _ _) Try.underlying48 rfl (by kernel_rfl)) rfl ?_
  have hz : w.heap.size + 1 < w.heap.size + 2 := by omega
  have hq : w.heap.size ≤ w.heap.size + 1 := by omega
  exact ⟨_, _, _, rfl, ((((((HL1.out.far (p := ⟨w.heap.size + 1, 0, none⟩) hz _).far (p := ⟨w.heap.size + 1, 1, none⟩) hz _).far (p := ⟨w.heap.size + 1, 2, none⟩) hz _).far (p := ⟨w.heap.size + 1, 3, none⟩) hz _).far (p := ⟨w.heap.size + 1, 4, none⟩) hz _).far (p := ⟨w.heap.size + 1, 5, none⟩) hz _).low (by omega), ((((((HL2.out.far (p := ⟨w.heap.size + 1, 0, none⟩) hz _).far (p := ⟨w.heap.size + 1, 1, none⟩) hz _).far (p := ⟨w.heap.size + 1, 2, none⟩) hz _).far (p := ⟨w.heap.size + 1, 3, none⟩) hz _).far (p := ⟨w.heap.size + 1, 4, none⟩) hz _).far (p := ⟨w.heap.size + 1, 5, none⟩) hz _).low (by omega), ((((((HL5.out.far (p := ⟨w.heap.size + 1, 0, none⟩) hz _).far (p := ⟨w.heap.size + 1, 1, none⟩) hz _).far (p := ⟨w.heap.size + 1, 2, none⟩) hz _).far (p := ⟨w.heap.size + 1, 3, none⟩) hz _).far (p := ⟨w.heap.size + 1, 4, none⟩) hz _).far (p := ⟨w.heap.size + 1, 5, none⟩) hz _).low (by omega), below_set (below_set (below_set (below_set (below_set (below_set HB.out hq) hq) hq) hq) hq) hq⟩
end Go.Proofs.Ytlnccdgclaalbaa.PJ
