/- Texts of this claim, joined: RHandLentKd, RHandLentCode, RHandLentFn, RHandLentMod, RHandKept. -/
import Derived.Test.YtgpdaihfjnihhaaDoorRPJx0
import Derived.Test.YtgpdaihfjnihhaaDoorRHandHeapy
import Derived.Test.YtgpdaihfjnihhaaDoorRHandLent
import Derived.Test.YtgpdaihfjnihhaaDoorRPJx4
namespace Go.Proofs.YtgpdaihfjnihhaaDoor.PJ
open Go.RowKit Go.Proofs.YtgpdaihfjnihhaaDoorW.PrintWords Go.Proofs.YtgpdaihfjnihhaaDoorW.PrintLast Go.Proofs.YtgpdaihfjnihhaaDoorW.PrintMore
set_option linter.unusedVariables false
theorem linfoL : (Tryd.prog.info? 36).map (fun i => (i.zero, i.size, i.bytes)) = some (some (.int .u64 0), 1, 8) := by kernel_rfl
theorem linfoI : (Tryd.prog.info? 44).map (fun i => (i.zero, i.size, i.bytes)) = some (some (.agg #[.int .i64 0, .int .i64 0]), 2, 16) := by kernel_rfl
theorem linfoA : (Tryd.prog.info? 38).map (fun i => (i.zero, i.size, i.bytes)) = some (some (.agg #[.int .i64 0, .int .u64 0]), 2, 16) := by kernel_rfl
theorem linfoF : (Tryd.prog.info? 41).map (fun i => (i.zero, i.size, i.bytes)) = some (some (.agg #[.int .u64 0, .slice none 0 0, .slice none 0 0, .int .i64 0, .int .i64 0, .slice none 0 0]), 6, 96) := by kernel_rfl
def kLent {α : Type} (d : Kd α) (m : α) : Kd (List α × Bool) where
 sz := 1
 E := []
 K w x cs := ∃ A c, cs = [.slice A x.1.length c] ∧ x.1.length ≤ c ∧ d.C w A x.1.length x.1 ∧ (x.2 = true → x.1.length + 1 ≤ c ∧ d.C w A (x.1 ++ [m]).length (x.1 ++ [m]))
 M _ _ _ _ _ := False
 K_len := by
  rintro w x cs ⟨A, c, rfl, _⟩
  rfl
 K_one := by
  rintro w x cs ⟨A, c, rfl, _⟩ u hu
  obtain rfl := List.mem_singleton.mp hu
  rfl
 K_below := by
  rintro w w1 x cs hb ⟨A, c, he, hl, hc, hm⟩
  exact ⟨A, c, he, hl, Kd.C_below hc hb, fun h => ⟨(hm h).1, Kd.C_below (hm h).2 hb⟩⟩
 K_of_M := by
  intro w base ok x cs h
  exact h.elim
 M_mono := by
  intro w base ok ok' x cs _ h
  exact h
 M_bound := by
  intro w base ok x cs h
  exact h.elim
 M_move := by
  intro w w1 base ok x cs _ h
  exact h
 M_lower := by
  intro w base base' ok x cs _ h
  exact h
def kLF : Kd (S41 × Bool) := Kd.iso (Kd.pair (Kd.int .u64) (Kd.pair (kLent (Kd.int .u64) 7171) (Kd.pair (kLent (Kd.int .u64) 7171) (Kd.pair (Kd.int .i64) (Kd.pair (Kd.int .i64) (kLent k44 ⟨-71, 0⟩))))))
 (fun x => (x.1.f0, (x.1.f1, x.2), (x.1.f2, x.2), x.1.f3, x.1.f4, (x.1.f5, x.2)))
theorem LF_fn {w : World} {x : S41 × Bool} {cs : List Value} (h : kLF.K w x cs) : k41.K w x.1 cs := by
 obtain ⟨_, _, rfl, h0, ⟨_, _, rfl, ⟨A1, c1, e1, l1, g1, _⟩, ⟨_, _, rfl, ⟨A2, c2, e2, l2, g2, _⟩, ⟨_, _, rfl, h3, ⟨_, _, rfl, h4, ⟨A5, c5, e5, l5, g5, _⟩⟩⟩⟩⟩⟩ := h
 exact pairK h0 (pairK ⟨A1, c1, e1, l1, g1⟩ (pairK ⟨A2, c2, e2, l2, g2⟩ (pairK h3 (pairK h4 ⟨A5, c5, e5, l5, g5⟩))))
end Go.Proofs.YtgpdaihfjnihhaaDoor.PJ

namespace Go.Proofs.YtgpdaihfjnihhaaDoor.PJ
open Go.RowKit Go.Proofs.YtgpdaihfjnihhaaDoorW.PrintWords Go.Proofs.YtgpdaihfjnihhaaDoorW.PrintLast Go.Proofs.YtgpdaihfjnihhaaDoorW.PrintMore
set_option linter.unusedSimpArgs false
set_option linter.unusedVariables false
def LentD {α : Type} (d : Kd α) (e : Nat) (W : World) (base : Nat) (v : Value) (l : List α) (m : α) : Prop :=
 ∃ A c, v = .slice A l.length c ∧ d.R e W base (fun k => base ≤ k) (.slice A (l ++ [m]).length c) (l ++ [m])
theorem LentD.below {α : Type} {d : Kd α} {e : Nat} {W W1 : World} {base : Nat} {v : Value} {l : List α} {m : α} (h : LentD d e W base v l m) (hb : Below W.heap.size W W1) : LentD d e W1 base v l m := by
 obtain ⟨A, c, rfl, hR⟩ := h
 exact ⟨A, c, rfl, Kd.R_below hR hb⟩
theorem LentD.FK {α : Type} {d : Kd α} {e : Nat} {W : World} {base : Nat} {v : Value} {l : List α} {m : α} (h : LentD d e W base v l m) : Kd.FK (kLent d m) W (fun k => base ≤ k) (l, true) [v] := by
 obtain ⟨A, c, rfl, hR⟩ := h
 have hc := (Kd.R_reads' hR).2.1
 have hF := Kd.N_F (Kd.R_N hR)
 intro W' hW
 have hC := hF W' hW
 have hl : (l ++ [m]).length = l.length + 1 := by simp
 refine ⟨A, c, rfl, (show l.length ≤ c by omega), ?_, fun _ => ⟨(show l.length + 1 ≤ c by omega), hC⟩⟩
 have := Kd.C_take (m := l.length) hC (by omega)
 rw [List.take_left'] at this
 ·
  exact this
 ·
  rfl
set_option maxHeartbeats 8000000 in
set_option maxRecDepth 100000 in
theorem louverkit_LentLabelsD.calls (A0 : Option Addr) (c0 : Nat) (l0 : List Int) (w : World) (hr0 : Kd.C (Kd.int .u64) w A0 l0.length l0) (hl : (l0.length + 1) * 8 ≤ 140737488355328) :
  Calls Tryd.prog 73 #[.slice A0 l0.length c0] w fun e w' => ∃ v0_ : Value, e = .returned (v0_) ∧ LentD (Kd.int .u64) 36 w' w.heap.size v0_ l0 7171 ∧ Below w.heap.size w w' := by
 have HR0 := Aside0.mk hr0
 have HL := Aside0.mk hl
 clear hr0 hl
 have HB := Aside0.mk (Below.refl w.heap.size w)
 go_enter Tryd.func73, Tryd.ntmps73
 go_wp2_with (first | ((with_reducible refine gate_builtin (b := .append) (xs := #[.tmp 4, .tmp 5]) rfl ?_); at_builtin; refine Kd.R_append_rows (Kd.int .u64) (w0 := w) w.heap.size rfl (.tmp 4) (.tmp 5) 22 36 (.int .u64 0) 8 rfl Tryd.underlying22 linfoL rfl (by decide) (by omega) (.slice none 0 0) [] l0 _ _ _ (fun k => w.heap.size ≤ k) (fun _ => False) rfl rfl ?aO ?aR (fun _ _ h => h) (fun _ h => h.elim) ?aF ?aB ?aS ?aL ?_; (case aR => exact HR0.out); (case aB => exact HB.out); (case aF => exact (fun _ h => h)); (case aO => exact Kd.R_nil _ _ _ _ _); (case aS => exact (below_size HB.out)); (case aL => have := HL.out; simp only [List.length_nil]; omega); intro v102 w6 ho hb hg hat; rw [List.nil_append] at ho; clear HB; have HB := Aside0.mk hb; have HO := Aside0.mk ho; clear ho hb hg hat) | ((with_reducible refine gate_builtin (b := .append) (xs := #[.tmp 7, .tmp 8]) rfl ?_); at_builtin; refine Kd.R_append (Kd.int .u64) (w0 := w) w.heap.size rfl (.tmp 7) (.tmp 8) 22 36 (.int .u64 0) 8 rfl Tryd.underlying22 linfoL rfl (by decide) (by omega) v102 l0 7171 [.int .u64 7171] (fun k => w.heap.size ≤ k) (fun _ => False) rfl rfl ?aP (fun _ hk => hk.elim) ?aF ?aO ?aB ?aS ?aL ?_; (case aP => exact rfl); (case aB => exact HB.out); (case aF => exact (fun k hk => Nat.le_trans HB.out.size hk)); (case aO => exact HO.out); (case aS => exact HB.out.size); (case aL => have := HL.out; omega); intro v105 w7 ho hb hg hat; clear HB; have HB := Aside0.mk hb; clear HO; have HO := Aside0.mk ho; clear ho hb hg hat; obtain ⟨Ao8, co8, eo8⟩ := Kd.R_slice HO.out; subst eo8; obtain ⟨i09, hi09, _, hsz9, _⟩ := info_parts linfoL; have hcut9 := cut_up (P := Tryd.prog) 22 36 Tryd.underlying22 hi09 Ao8 (l0 ++ [7171]).length co8 (l0.length : Int) (by omega) (by have := (Kd.R_reads' HO.out).2.1; simp only [List.length_append, List.length_singleton] at this; omega); clear hi09 hsz9; simp only [List.length_append, List.length_cons, List.length_nil, Int.toNat_natCast] at hcut9))
 go_ret
 exact ⟨_, rfl, ⟨Ao8, co8, rfl, HO.out⟩, HB.out⟩
set_option maxHeartbeats 8000000 in
set_option maxRecDepth 100000 in
theorem louverkit_LentCodeD.calls (A0 : Option Addr) (c0 : Nat) (l0 : List S44) (w : World) (hr0 : Kd.C k44 w A0 l0.length l0) (hl : (l0.length + 1) * 16 ≤ 140737488355328) :
  Calls Tryd.prog 112 #[.slice A0 l0.length c0] w fun e w' => ∃ v0_ : Value, e = .returned (v0_) ∧ LentD k44 44 w' w.heap.size v0_ l0 (⟨-71, 0⟩ : S44) ∧ Below w.heap.size w w' := by
 have HR0 := Aside0.mk hr0
 have HL := Aside0.mk hl
 clear hr0 hl
 have HB := Aside0.mk (Below.refl w.heap.size w)
 go_enter Tryd.func112, Tryd.ntmps112
 go_wp2_with (first | ((with_reducible refine gate_builtin (b := .append) (xs := #[.tmp 4, .tmp 5]) rfl ?_); at_builtin; refine Kd.R_append_rows k44 (w0 := w) w.heap.size rfl (.tmp 4) (.tmp 5) 39 44 (.agg #[.int .i64 0, .int .i64 0]) 16 rfl Tryd.underlying39 linfoI rfl (by decide) (by omega) (.slice none 0 0) [] l0 _ _ _ (fun k => w.heap.size ≤ k) (fun _ => False) rfl rfl ?aO ?aR (fun _ _ h => h) (fun _ h => h.elim) ?aF ?aB ?aS ?aL ?_; (case aR => exact HR0.out); (case aB => exact HB.out); (case aF => exact (fun _ h => h)); (case aO => exact Kd.R_nil _ _ _ _ _); (case aS => exact (below_size HB.out)); (case aL => have := HL.out; simp only [List.length_nil]; omega); intro v102 w6 ho hb hg hat; rw [List.nil_append] at ho; clear HB; have HB := Aside0.mk hb; have HO := Aside0.mk ho; clear ho hb hg hat) | ((with_reducible refine gate_builtin (b := .append) (xs := #[.tmp 7, .tmp 9]) rfl ?_); at_builtin; refine Kd.R_append k44 (w0 := w) w.heap.size rfl (.tmp 7) (.tmp 9) 39 44 (.agg #[.int .i64 0, .int .i64 0]) 16 rfl Tryd.underlying39 linfoI rfl (by decide) (by omega) v102 l0 (⟨-71, 0⟩ : S44) [.int .i64 (-71), .int .i64 0] (fun k => w.heap.size ≤ k) (fun _ => False) rfl rfl ?aP (fun _ hk => hk.elim) ?aF ?aO ?aB ?aS ?aL ?_; (case aP => exact ⟨[.int .i64 (-71)], [.int .i64 0], rfl, rfl, rfl⟩); (case aB => exact HB.out); (case aF => exact (fun k hk => Nat.le_trans HB.out.size hk)); (case aO => exact HO.out); (case aS => exact HB.out.size); (case aL => have := HL.out; omega); intro v105 w7 ho hb hg hat; clear HB; have HB := Aside0.mk hb; clear HO; have HO := Aside0.mk ho; clear ho hb hg hat; obtain ⟨Ao8, co8, eo8⟩ := Kd.R_slice HO.out; subst eo8; obtain ⟨i09, hi09, _, hsz9, _⟩ := info_parts linfoI; have hcut9 := cut_up (P := Tryd.prog) 39 44 Tryd.underlying39 hi09 Ao8 (l0 ++ [(⟨-71, 0⟩ : S44)]).length co8 (l0.length : Int) (by omega) (by have := (Kd.R_reads' HO.out).2.1; simp only [List.length_append, List.length_singleton] at this; omega); clear hi09 hsz9; simp only [List.length_append, List.length_cons, List.length_nil, Int.toNat_natCast] at hcut9))
 go_ret
 exact ⟨_, rfl, ⟨Ao8, co8, rfl, HO.out⟩, HB.out⟩
end Go.Proofs.YtgpdaihfjnihhaaDoor.PJ

namespace Go.Proofs.YtgpdaihfjnihhaaDoor.PJ
open Go.RowKit Go.Proofs.YtgpdaihfjnihhaaDoorW.PrintWords Go.Proofs.YtgpdaihfjnihhaaDoorW.PrintLast Go.Proofs.YtgpdaihfjnihhaaDoorW.PrintMore
set_option linter.unusedSimpArgs false
set_option linter.unusedVariables false
theorem facts6 {w : World} {g t : Nat} {a b c d e f : Value} (h : w.heap[g]? = some (.cells #[a, b, c, d, e, f] t (0, 0))) : (w.cell? ⟨g, 0, none⟩ = some a ∧ w.cell? ⟨g, 1, none⟩ = some b ∧ w.cell? ⟨g, 2, none⟩ = some c ∧ w.cell? ⟨g, 3, none⟩ = some d ∧ w.cell? ⟨g, 4, none⟩ = some e ∧ w.cell? ⟨g, 5, none⟩ = some f) ∧
  w.frozen? ⟨g, 0, none⟩ = false ∧ w.frozen? ⟨g, 1, none⟩ = false ∧ w.frozen? ⟨g, 2, none⟩ = false ∧ w.frozen? ⟨g, 3, none⟩ = false ∧ w.frozen? ⟨g, 4, none⟩ = false ∧ w.frozen? ⟨g, 5, none⟩ = false :=
 ⟨⟨blk_cell h 0, blk_cell h 1, blk_cell h 2, blk_cell h 3, blk_cell h 4, blk_cell h 5⟩, blk_frozen h 0, blk_frozen h 1, blk_frozen h 2, blk_frozen h 3, blk_frozen h 4, blk_frozen h 5⟩
theorem put6 {w : World} {g t : Nat} {a b c d e f : Value} (h : w.heap[g]? = some (.cells #[a, b, c, d, e, f] t (0, 0))) (a' b' c' d' e' f' : Value) : ((((((w.setCell ⟨g, 0, none⟩ a').setCell ⟨g, 1, none⟩ b').setCell ⟨g, 2, none⟩ c').setCell ⟨g, 3, none⟩ d').setCell ⟨g, 4, none⟩ e').setCell ⟨g, 5, none⟩ f').heap[g]? = some (.cells #[a', b', c', d', e', f'] t (0, 0)) :=
 blk_put (blk_put (blk_put (blk_put (blk_put (blk_put h 0 a' rfl) 1 b' rfl) 2 c' rfl) 3 d' rfl) 4 e' rfl) 5 f' rfl
theorem LentD.far {α : Type} {d : Kd α} {e : Nat} {W : World} {base : Nat} {v : Value} {l : List α} {m : α} (h : LentD d e W base v l m) {p : Addr} (hp : p.block < base) (u : Value) : LentD d e (W.setCell p u) base v l m := by
 obtain ⟨A, c, rfl, hR⟩ := h
 exact ⟨A, c, rfl, Kd.R_far hR (fun k hk he => by have h1 : base ≤ k := hk; omega) u⟩
theorem LentD.slice {α : Type} {d : Kd α} {e : Nat} {W : World} {base : Nat} {v : Value} {l : List α} {m : α} (h : LentD d e W base v l m) : ∃ A c, v = .slice A l.length c := by
 obtain ⟨A, c, rfl, _⟩ := h
 exact ⟨A, c, rfl⟩
theorem LentD.low {α : Type} {d : Kd α} {e : Nat} {W : World} {base base' : Nat} {v : Value} {l : List α} {m : α} (h : LentD d e W base v l m) (hb : base' ≤ base) : LentD d e W base' v l m := by
 obtain ⟨A, c, rfl, hR⟩ := h
 exact ⟨A, c, rfl, Kd.R_mono (Kd.R_lower hR hb) (fun k hk => Nat.le_trans hb hk)⟩
set_option maxHeartbeats 8000000 in
set_option maxRecDepth 100000 in
theorem louverkit_LentFunction.calls (n0 n3 n4 : Int) (A1 A2 A5 : Option Addr) (c1 c2 c5 : Nat) (l1 l2 : List Int) (l5 : List S44) (w : World) (hr1 : Kd.C (Kd.int .u64) w A1 l1.length l1) (hr2 : Kd.C (Kd.int .u64) w A2 l2.length l2) (hr5 : Kd.C k44 w A5 l5.length l5)
  (hs1 : (l1.length + 1) * 8 ≤ 140737488355328) (hs2 : (l2.length + 1) * 8 ≤ 140737488355328) (hs5 : (l5.length + 1) * 16 ≤ 140737488355328) :
  Calls Tryd.prog 72 #[.agg #[.int .u64 n0, .slice A1 l1.length c1, .slice A2 l2.length c2, .int .i64 n3, .int .i64 n4, .slice A5 l5.length c5]] w fun e w' => ∃ v1 v2 v5, e = .returned (.agg #[.int .u64 n0, v1, v2, .int .i64 n3, .int .i64 n4, v5]) ∧
   LentD (Kd.int .u64) 36 w' w.heap.size v1 l1 7171 ∧ LentD (Kd.int .u64) 36 w' w.heap.size v2 l2 7171 ∧ LentD k44 44 w' w.heap.size v5 l5 ⟨-71, 0⟩ ∧ Below w.heap.size w w' := by
 have Zhr1 := Aside0.mk hr1
 have Zhr2 := Aside0.mk hr2
 have Zhr5 := Aside0.mk hr5
 have Zhs1 := Aside0.mk hs1
 have Zhs2 := Aside0.mk hs2
 have Zhs5 := Aside0.mk hs5
 clear hr1 hr2 hr5 hs1 hs2 hs5
 have HB := Aside0.mk (below_alloc (below_alloc (Below.refl w.heap.size w) (.cells #[.int .u64 n0, .slice A1 l1.length c1, .slice A2 l2.length c2, .int .i64 n3, .int .i64 n4, .slice A5 l5.length c5] 41)) (.cells #[.int .u64 0, .slice none 0 0, .slice none 0 0, .int .i64 0, .int .i64 0, .slice none 0 0] 41))
 have HG := Aside0.mk (blk_alloc (heap_alloc_new w (.cells #[.int .u64 n0, .slice A1 l1.length c1, .slice A2 l2.length c2, .int .i64 n3, .int .i64 n4, .slice A5 l5.length c5] 41)) (.cells #[.int .u64 0, .slice none 0 0, .slice none 0 0, .int .i64 0, .int .i64 0, .slice none 0 0] 41))
 have HZ := Aside0.mk (show ((w.alloc (.cells #[.int .u64 n0, .slice A1 l1.length c1, .slice A2 l2.length c2, .int .i64 n3, .int .i64 n4, .slice A5 l5.length c5] 41)).alloc (.cells #[.int .u64 0, .slice none 0 0, .slice none 0 0, .int .i64 0, .int .i64 0, .slice none 0 0] 41)).heap[w.heap.size + 1]? = some (.cells #[.int .u64 0, .slice none 0 0, .slice none 0 0, .int .i64 0, .int .i64 0, .slice none 0 0] 41 (0, 0)) by
  have := heap_alloc_new (w.alloc (.cells #[.int .u64 n0, .slice A1 l1.length c1, .slice A2 l2.length c2, .int .i64 n3, .int .i64 n4, .slice A5 l5.length c5] 41)) (.cells #[.int .u64 0, .slice none 0 0, .slice none 0 0, .int .i64 0, .int .i64 0, .slice none 0 0] 41)
  simpa using this)
 obtain ⟨⟨g0, g1, g2, g3, g4, g5⟩, f0, f1, f2, f3, f4, f5⟩ := facts6 HG.out
 go_enter Tryd.func72, Tryd.ntmps72
 go_wp2_with fail
 have hB : w.heap.size + 1 < ((w.alloc (.cells #[.int .u64 n0, .slice A1 l1.length c1, .slice A2 l2.length c2, .int .i64 n3, .int .i64 n4, .slice A5 l5.length c5] 41)).alloc (.cells #[.int .u64 0, .slice none 0 0, .slice none 0 0, .int .i64 0, .int .i64 0, .slice none 0 0] 41)).heap.size := blk_lt HZ.out
 refine (louverkit_LentLabelsD.calls A1 c1 l1 _ (Kd.C_below Zhr1.out HB.out) Zhs1.out).mono ?_
 rintro e w1 ⟨v1, rfl, hL, hb⟩
 obtain ⟨B1, d1, rfl⟩ := hL.slice
 clear g0 g1 g2 g3 g4 g5 f0 f1 f2 f3 f4 f5
 have HGb := Aside0.mk (blk_below HG.out hb)
 have HZb := Aside0.mk (blk_below HZ.out hb)
 have HBb := Aside0.mk (below_step HB.out hb)
 clear HG HZ HB
 obtain ⟨⟨g0, g1, g2, g3, g4, g5⟩, f0, f1, f2, f3, f4, f5⟩ := facts6 HGb.out
 have HG := Aside0.mk (blk_put HGb.out 1 (.slice B1 l1.length d1) rfl)
 have HZ := Aside0.mk (blk_far (p := ⟨w.heap.size, 1, none⟩) HZb.out (show w.heap.size + 1 ≠ w.heap.size by omega) (.slice B1 l1.length d1))
 have HB := Aside0.mk (below_set (j := 1) (v := (.slice B1 l1.length d1)) HBb.out (Nat.le_refl w.heap.size))
 obtain ⟨⟨h0, h1, h2, h3, h4, h5⟩, k0, k1, k2, k3, k4, k5⟩ := facts6 HG.out
 have HL1 := Aside0.mk ((hL.low (show w.heap.size + 2 ≤ _ by omega)).far (p := ⟨w.heap.size, 1, none⟩) (show w.heap.size < w.heap.size + 2 by omega) (.slice B1 l1.length d1))
 clear hL hb HGb HZb HBb
 have HZx := HZ
 go_wp2_with fail
 refine (louverkit_LentLabelsD.calls A2 c2 l2 _ (Kd.C_below Zhr2.out HB.out) Zhs2.out).mono ?_
 rintro e w2 ⟨v2, rfl, hL, hb⟩
 obtain ⟨B2, d2, rfl⟩ := hL.slice
 have HL1n := Aside0.mk (HL1.out.below hb)
 clear HL1
 have HL1 := Aside0.mk (HL1n.out.far (p := ⟨w.heap.size, 2, none⟩) (show w.heap.size < _ by omega) (.slice B2 l2.length d2))
 clear HL1n
 clear g0 g1 g2 g3 g4 g5 f0 f1 f2 f3 f4 f5 h0 h1 h2 h3 h4 h5 k0 k1 k2 k3 k4 k5
 skip
 have HGb := Aside0.mk (blk_below HG.out hb)
 have HZb := Aside0.mk (blk_below HZ.out hb)
 have HBb := Aside0.mk (below_step HB.out hb)
 clear HG HZ HB
 obtain ⟨⟨g0, g1, g2, g3, g4, g5⟩, f0, f1, f2, f3, f4, f5⟩ := facts6 HGb.out
 have HG := Aside0.mk (blk_put HGb.out 2 (.slice B2 l2.length d2) rfl)
 have HZ := Aside0.mk (blk_far (p := ⟨w.heap.size, 2, none⟩) HZb.out (show w.heap.size + 1 ≠ w.heap.size by omega) (.slice B2 l2.length d2))
 have HB := Aside0.mk (below_set (j := 2) (v := (.slice B2 l2.length d2)) HBb.out (Nat.le_refl w.heap.size))
 obtain ⟨⟨h0, h1, h2, h3, h4, h5⟩, k0, k1, k2, k3, k4, k5⟩ := facts6 HG.out
 have HL2 := Aside0.mk ((hL.low (show w.heap.size + 2 ≤ _ from blk_lt HZx.out)).far (p := ⟨w.heap.size, 2, none⟩) (show w.heap.size < w.heap.size + 2 by omega) (.slice B2 l2.length d2))
 clear hL hb HGb HZb HBb
 clear HZx
 have HZx := HZ
 go_wp2_with fail
 refine (louverkit_LentCodeD.calls A5 c5 l5 _ (Kd.C_below Zhr5.out HB.out) Zhs5.out).mono ?_
 rintro e w3 ⟨v5, rfl, hL, hb⟩
 obtain ⟨B5, d5, rfl⟩ := hL.slice
 have HL1n := Aside0.mk (HL1.out.below hb)
 clear HL1
 have HL1 := Aside0.mk (HL1n.out.far (p := ⟨w.heap.size, 5, none⟩) (show w.heap.size < _ by omega) (.slice B5 l5.length d5))
 clear HL1n
 have HL2n := Aside0.mk (HL2.out.below hb)
 clear HL2
 have HL2 := Aside0.mk (HL2n.out.far (p := ⟨w.heap.size, 5, none⟩) (show w.heap.size < _ by omega) (.slice B5 l5.length d5))
 clear HL2n
 clear g0 g1 g2 g3 g4 g5 f0 f1 f2 f3 f4 f5 h0 h1 h2 h3 h4 h5 k0 k1 k2 k3 k4 k5
 skip
 have HGb := Aside0.mk (blk_below HG.out hb)
 have HZb := Aside0.mk (blk_below HZ.out hb)
 have HBb := Aside0.mk (below_step HB.out hb)
 clear HG HZ HB
 obtain ⟨⟨g0, g1, g2, g3, g4, g5⟩, f0, f1, f2, f3, f4, f5⟩ := facts6 HGb.out
 have HG := Aside0.mk (blk_put HGb.out 5 (.slice B5 l5.length d5) rfl)
 have HZ := Aside0.mk (blk_far (p := ⟨w.heap.size, 5, none⟩) HZb.out (show w.heap.size + 1 ≠ w.heap.size by omega) (.slice B5 l5.length d5))
 have HB := Aside0.mk (below_set (j := 5) (v := (.slice B5 l5.length d5)) HBb.out (Nat.le_refl w.heap.size))
 obtain ⟨⟨h0, h1, h2, h3, h4, h5⟩, k0, k1, k2, k3, k4, k5⟩ := facts6 HG.out
 have HL5 := Aside0.mk ((hL.low (show w.heap.size + 2 ≤ _ from blk_lt HZx.out)).far (p := ⟨w.heap.size, 5, none⟩) (show w.heap.size < w.heap.size + 2 by omega) (.slice B5 l5.length d5))
 clear hL hb HGb HZb HBb
 obtain ⟨⟨z0, z1, z2, z3, z4, z5⟩, y0, y1, y2, y3, y4, y5⟩ := facts6 HZ.out
 go_wp2
 refine bodyPost_ret (results_cell_row rfl _ _ (w.heap.size + 1) 41 #[.int .u64 n0, .slice B1 l1.length d1, .slice B2 l2.length d2, .int .i64 n3, .int .i64 n4, .slice B5 l5.length d5] (0, 0) _ rfl (put6 HZ.out _ _ _ _ _ _) Tryd.underlying41 rfl (by kernel_rfl)) rfl ?_
 have hz : w.heap.size + 1 < w.heap.size + 2 := by omega
 have hq : w.heap.size ≤ w.heap.size + 1 := by omega
 exact ⟨_, _, _, rfl, ((((((HL1.out.far (p := ⟨w.heap.size + 1, 0, none⟩) hz _).far (p := ⟨w.heap.size + 1, 1, none⟩) hz _).far (p := ⟨w.heap.size + 1, 2, none⟩) hz _).far (p := ⟨w.heap.size + 1, 3, none⟩) hz _).far (p := ⟨w.heap.size + 1, 4, none⟩) hz _).far (p := ⟨w.heap.size + 1, 5, none⟩) hz _).low (by omega), ((((((HL2.out.far (p := ⟨w.heap.size + 1, 0, none⟩) hz _).far (p := ⟨w.heap.size + 1, 1, none⟩) hz _).far (p := ⟨w.heap.size + 1, 2, none⟩) hz _).far (p := ⟨w.heap.size + 1, 3, none⟩) hz _).far (p := ⟨w.heap.size + 1, 4, none⟩) hz _).far (p := ⟨w.heap.size + 1, 5, none⟩) hz _).low (by omega), ((((((HL5.out.far (p := ⟨w.heap.size + 1, 0, none⟩) hz _).far (p := ⟨w.heap.size + 1, 1, none⟩) hz _).far (p := ⟨w.heap.size + 1, 2, none⟩) hz _).far (p := ⟨w.heap.size + 1, 3, none⟩) hz _).far (p := ⟨w.heap.size + 1, 4, none⟩) hz _).far (p := ⟨w.heap.size + 1, 5, none⟩) hz _).low (by omega), below_set (below_set (below_set (below_set (below_set (below_set HB.out hq) hq) hq) hq) hq) hq⟩
end Go.Proofs.YtgpdaihfjnihhaaDoor.PJ

namespace Go.Proofs.YtgpdaihfjnihhaaDoor.PJ
open Go.RowKit Go.Proofs.YtgpdaihfjnihhaaDoorW.PrintWords Go.Proofs.YtgpdaihfjnihhaaDoorW.PrintLast Go.Proofs.YtgpdaihfjnihhaaDoorW.PrintMore
set_option linter.unusedSimpArgs false
set_option linter.unusedVariables false
def markFn : S41 × Bool := (⟨0, [], [], 0, -71, []⟩, false)
def LentFns (W : World) (base : Nat) (v : Value) (l : List S41) : Prop :=
 ∃ A c, v = .slice A l.length c ∧ Kd.N kLF 41 W base (fun k => base ≤ k) (.slice A (l.length + 1) c) (l.map (fun x => (x, true)) ++ [markFn])
theorem lent_fn_FK {W : World} {base : Nat} {n0 n3 n4 : Int} {l1 l2 : List Int} {l5 : List S44} {v1 v2 v5 : Value} (h1 : LentD (Kd.int .u64) 36 W base v1 l1 7171) (h2 : LentD (Kd.int .u64) 36 W base v2 l2 7171) (h5 : LentD k44 44 W base v5 l5 ⟨-71, 0⟩) :
  Kd.FK kLF W (fun k => base ≤ k) (⟨n0, l1, l2, n3, n4, l5⟩, true) [.int .u64 n0, v1, v2, .int .i64 n3, .int .i64 n4, v5] := by
 intro W' hW
 exact pairK (c1 := [.int .u64 n0]) rfl (pairK (c1 := [v1]) (h1.FK W' hW) (pairK (c1 := [v2]) (h2.FK W' hW) (pairK (c1 := [.int .i64 n3]) rfl (pairK (c1 := [.int .i64 n4]) rfl (h5.FK W' hW)))))
theorem mark_FK (W : World) (ok : Nat → Prop) : Kd.FK kLF W ok markFn [.int .u64 0, .slice none 0 0, .slice none 0 0, .int .i64 0, .int .i64 (-71), .slice none 0 0] := by
 intro W' hW
 exact pairK (c1 := [.int .u64 0]) rfl (pairK (c1 := [.slice none 0 0]) ⟨none, 0, rfl, Nat.le_refl _, Kd.C_nil _ _, fun h => by cases h⟩ (pairK (c1 := [.slice none 0 0]) ⟨none, 0, rfl, Nat.le_refl _, Kd.C_nil _ _, fun h => by cases h⟩
  (pairK (c1 := [.int .i64 0]) rfl (pairK (c1 := [.int .i64 (-71)]) rfl ⟨none, 0, rfl, Nat.le_refl _, Kd.C_nil _ _, fun h => by cases h⟩))))
theorem R_overN {α β : Type} {d : Kd α} {d' : Kd β} {e e' b b' : Nat} {ok ok' : Nat → Prop} {W w1 : World} {u v : Value} {xs : List α} {ys : List β} (h : d.R e W b ok u xs) (hv : Kd.N d' e' W b' ok' v ys) (ht : ∀ q, q ∈ e :: d.E → q ≠ e') (hg : W.grownBy w1 v.ownBlock) : d.R e w1 b ok u xs := by
 obtain ⟨_, rows, _, hR, _⟩ := hv
 exact Kd.R_over h hR ht hg
theorem lf4 {w : World} {g t : Nat} {x y z u : Value} (h : w.heap[g]? = some (.cells #[x, y, z, u] t (0, 0))) : (w.cell? ⟨g, 0, none⟩ = some x ∧ w.cell? ⟨g, 1, none⟩ = some y ∧ w.cell? ⟨g, 2, none⟩ = some z ∧ w.cell? ⟨g, 3, none⟩ = some u) ∧ w.frozen? ⟨g, 0, none⟩ = false ∧ w.frozen? ⟨g, 1, none⟩ = false ∧ w.frozen? ⟨g, 2, none⟩ = false ∧ w.frozen? ⟨g, 3, none⟩ = false :=
 ⟨⟨blk_cell h 0, blk_cell h 1, blk_cell h 2, blk_cell h 3⟩, blk_frozen h 0, blk_frozen h 1, blk_frozen h 2, blk_frozen h 3⟩
theorem put4 {w : World} {g t : Nat} {a b c d : Value} (h : w.heap[g]? = some (.cells #[a, b, c, d] t (0, 0))) (a' b' c' d' : Value) : ((((w.setCell ⟨g, 0, none⟩ a').setCell ⟨g, 1, none⟩ b').setCell ⟨g, 2, none⟩ c').setCell ⟨g, 3, none⟩ d').heap[g]? = some (.cells #[a', b', c', d'] t (0, 0)) :=
 blk_put (blk_put (blk_put (blk_put h 0 a' rfl) 1 b' rfl) 2 c' rfl) 3 d' rfl
theorem LentFns.below {W W1 : World} {base : Nat} {v : Value} {l : List S41} (h : LentFns W base v l) (hb : Below W.heap.size W W1) : LentFns W1 base v l := by
 obtain ⟨A, c, rfl, hN⟩ := h
 exact ⟨A, c, rfl, Kd.N_below hN hb⟩
set_option maxHeartbeats 16000000 in
set_option maxRecDepth 100000 in
theorem louverkit_LentModule.calls (A0 A1 A2 A3 : Option Addr) (c0 c1 c2 c3 : Nat) (l0 : List Int) (l1 : List S38) (l2 : List Int) (l3 : List S41) (w : World)
  (hr0 : Kd.C (Kd.int .u64) w A0 l0.length l0) (hr1 : Kd.C k38 w A1 l1.length l1) (hr2 : Kd.C (Kd.int .u64) w A2 l2.length l2) (hr3 : Kd.C k41 w A3 l3.length l3)
  (hs0 : (l0.length + 1) * 8 ≤ 140737488355328) (hs1 : (l1.length + 1) * 16 ≤ 140737488355328) (hs2 : (l2.length + 1) * 8 ≤ 140737488355328) (hs3 : (l3.length + 1) * 96 ≤ 140737488355328)
  (hsf : ∀ x ∈ l3, (x.f1.length + 1) * 8 ≤ 140737488355328 ∧ (x.f2.length + 1) * 8 ≤ 140737488355328 ∧ (x.f5.length + 1) * 16 ≤ 140737488355328) :
  Calls Tryd.prog 29 #[.agg #[.slice A0 l0.length c0, .slice A1 l1.length c1, .slice A2 l2.length c2, .slice A3 l3.length c3]] w fun e w' => ∃ v0 v1 v2 v3, e = .returned (.agg #[v0, v1, v2, v3]) ∧ LentD (Kd.int .u64) 36 w' w.heap.size v0 l0 7171 ∧
   LentD k38 38 w' w.heap.size v1 l1 ⟨-71, 0⟩ ∧ LentD (Kd.int .u64) 36 w' w.heap.size v2 l2 7171 ∧ LentFns w' w.heap.size v3 l3 ∧ Below w.heap.size w w' := by
 have Zhr0 := Aside0.mk hr0
 have Zhr1 := Aside0.mk hr1
 have Zhr2 := Aside0.mk hr2
 have Zhr3 := Aside0.mk hr3
 have Zhs0 := Aside0.mk hs0
 have Zhs1 := Aside0.mk hs1
 have Zhs2 := Aside0.mk hs2
 have Zhs3 := Aside0.mk hs3
 have Zhsf := Aside0.mk hsf
 clear hr0 hr1 hr2 hr3 hs0 hs1 hs2 hs3 hsf
 have HW0 := Aside0.mk (below_alloc (below_alloc (Below.refl w.heap.size w) (.cells #[.slice A0 l0.length c0, .slice A1 l1.length c1, .slice A2 l2.length c2, .slice A3 l3.length c3] 26)) (.cells #[.slice none 0 0, .slice none 0 0, .slice none 0 0, .slice none 0 0] 26))
 have HGm := Aside0.mk (blk_alloc (heap_alloc_new w (.cells #[.slice A0 l0.length c0, .slice A1 l1.length c1, .slice A2 l2.length c2, .slice A3 l3.length c3] 26)) (.cells #[.slice none 0 0, .slice none 0 0, .slice none 0 0, .slice none 0 0] 26))
 have HGz := Aside0.mk (show ((w.alloc (.cells #[.slice A0 l0.length c0, .slice A1 l1.length c1, .slice A2 l2.length c2, .slice A3 l3.length c3] 26)).alloc (.cells #[.slice none 0 0, .slice none 0 0, .slice none 0 0, .slice none 0 0] 26)).heap[w.heap.size + 1]? = some (.cells #[.slice none 0 0, .slice none 0 0, .slice none 0 0, .slice none 0 0] 26 (0, 0)) by
  have := heap_alloc_new (w.alloc (.cells #[.slice A0 l0.length c0, .slice A1 l1.length c1, .slice A2 l2.length c2, .slice A3 l3.length c3] 26)) (.cells #[.slice none 0 0, .slice none 0 0, .slice none 0 0, .slice none 0 0] 26)
  simpa using this)
 have hsz : ((w.alloc (.cells #[.slice A0 l0.length c0, .slice A1 l1.length c1, .slice A2 l2.length c2, .slice A3 l3.length c3] 26)).alloc (.cells #[.slice none 0 0, .slice none 0 0, .slice none 0 0, .slice none 0 0] 26)).heap.size = w.heap.size + 2 := by simp
 obtain ⟨⟨m0, m1, m2, m3⟩, _⟩ := lf4 HGm.out
 go_enter Tryd.func29, Tryd.ntmps29
 obtain ⟨w0, hw0⟩ : ∃ W, ((w.alloc (.cells #[.slice A0 l0.length c0, .slice A1 l1.length c1, .slice A2 l2.length c2, .slice A3 l3.length c3] 26)).alloc (.cells #[.slice none 0 0, .slice none 0 0, .slice none 0 0, .slice none 0 0] 26)) = W := ⟨_, rfl⟩
 have HN0 := Aside0.mk hw0
 rw [hw0] at HW0 HGm HGz hsz
 have HSZ := Aside0.mk hsz
 clear hsz
 clear hw0
 have HB := Aside0.mk (Below.refl w0.heap.size w0)
 go_wp2_with (first | ((with_reducible refine gate_builtin (b := .append) (xs := #[.tmp 7, .tmp 9]) rfl ?_); at_builtin; rw [HN0.out]; refine Kd.R_append_rows k38 (w0 := w0) w0.heap.size rfl (.tmp 7) (.tmp 9) 23 38 (.agg #[.int .i64 0, .int .u64 0]) 16 rfl Tryd.underlying23 linfoA rfl (by decide) (by omega) (.slice none 0 0) [] l1 _ _ _ (fun k => w0.heap.size ≤ k) (fun _ => False) rfl rfl ?aO ?aR (fun _ _ h => h) (fun _ h => h.elim) (fun _ h => h) ?aB ?aS ?aL ?_; (case aR => exact Kd.C_below Zhr1.out HW0.out); (case aB => exact HB.out); (case aO => exact Kd.R_nil _ _ _ _ _); (case aS => exact Nat.le_refl _); (case aL => have := Zhs1.out; simp only [List.length_nil]; omega); intro v10 w6 ho hb hg hat; rw [List.nil_append] at ho; clear HB HN0; have HB := Aside0.mk hb; have HO := Aside0.mk ho; clear ho hb hg hat) | ((with_reducible refine gate_builtin (b := .append) (xs := #[.tmp 11, .tmp 13]) rfl ?_); at_builtin; refine Kd.R_append k38 (w0 := w0) w0.heap.size rfl (.tmp 11) (.tmp 13) 23 38 (.agg #[.int .i64 0, .int .u64 0]) 16 rfl Tryd.underlying23 linfoA rfl (by decide) (by omega) v10 l1 (⟨-71, 0⟩ : S38) [.int .i64 (-71), .int .u64 0] (fun k => w0.heap.size ≤ k) (fun _ => False) rfl rfl ?aP (fun _ hk => hk.elim) ?aF ?aO ?aB ?aS ?aL ?_; (case aP => exact ⟨[.int .i64 (-71)], [.int .u64 0], rfl, rfl, rfl⟩); (case aB => exact HB.out); (case aF => exact (fun k hk => Nat.le_trans HB.out.size hk)); (case aO => exact HO.out); (case aS => exact HB.out.size); (case aL => have := Zhs1.out; omega); intro v14 w7 ho hb hg hat; clear HB; have HB := Aside0.mk hb; clear HO; have HO := Aside0.mk ho; clear ho hb hg hat; obtain ⟨Aa, ca, ea⟩ := Kd.R_slice HO.out; subst ea; rw [show (l1 ++ [(⟨-71, 0⟩ : S38)]).length = l1.length + 1 by simp] at HO ⊢))
 clear m0 m1 m2 m3
 go_loopg [4, 5] (l3.length + 1) (fun kq v4 v5 w' => ∃ (i : Nat), v5 = .int .i64 (i : Int) ∧ Aside0 (i + kq = l3.length + 1) ∧ Aside0 (1 ≤ kq) ∧ Aside0 (Kd.N kLF 41 w' w0.heap.size (fun k => w0.heap.size ≤ k) v4 ((l3.take i).map (fun x => (x, true)))) ∧ Aside0 (Kd.R k38 38 w' w0.heap.size (fun k => w0.heap.size ≤ k) (.slice Aa (l1.length + 1) ca) (l1 ++ [(⟨-71, 0⟩ : S38)])) ∧ Aside0 (Below w0.heap.size w0 w'))
 case atStart => exact ⟨0, rfl, ⟨by omega⟩, ⟨by omega⟩, ⟨Kd.N_nil _ _ _ _ _⟩, HO, HB⟩
 case round =>
  clear HO HB
  obtain ⟨i, rfl, HI, HI1, HN, HO, HB⟩ := hrel
  have hlt2 : w.heap.size + 1 < w0.heap.size := by have := HSZ.out; omega
  have hGm := (HB.out.block w.heap.size (by omega)).trans HGm.out
  obtain ⟨⟨m0, m1, m2, m3⟩, _⟩ := lf4 hGm
  clear hlt2
  cases gk with
  | zero => exact absurd HI1.out (by omega)
  | succ k1 =>
   by_cases ci : i < l3.length
   ·
    have cib : decide ((i : Int) < (l3.length : Int)) = true := decide_eq_true (by omega)
    have hii : (i : Int) < (l3.length : Int) := by omega
    have hw2 : wrap64 ((i : Int) + 1) = (i : Int) + 1 := by have := Zhs3.out; unfold wrap64; omega
    obtain ⟨wi, hwi⟩ : ∃ wi : World, wi = wr := ⟨_, rfl⟩
    rw [← hwi] at HN HO HB hGm m0 m1 m2 m3 ⊢
    clear hwi
    obtain ⟨ad, B1, d1, B2, d2, B5, d5, hA3, q0, q1, q2, q3, q4, q5, e1, g1, e2, g2, e5, g5⟩ := at_T41 (Kd.C_below (Kd.C_below Zhr3.out HW0.out) HB.out) (i : Int) (by omega) hii
    subst hA3
    rw [Int.toNat_natCast] at q0 q1 q2 q3 q4 q5
    obtain ⟨x, hx⟩ : ∃ x, rd_T41 l3 (i : Int) = x := ⟨_, rfl⟩
    rw [hx] at q0 q1 q2 q3 q4 q5 g1 g2 g5
    have hxl : l3[i] = x := by rw [← hx]; simp [rd_T41, List.getD_eq_getElem?_getD, ci]
    have hxm : x ∈ l3 := by rw [← hxl]; exact List.getElem_mem ci
    have hz := Zhsf.out x hxm
    have HXL := Aside0.mk hxl
    have G1 := Aside0.mk g1
    have G2 := Aside0.mk g2
    have G5 := Aside0.mk g5
    have HZ := Aside0.mk hz
    clear hx hxl hxm hz g1 g2 g5 e1 e2 e5
    go_wp2_with fail
    refine (louverkit_LentFunction.calls x.f0 x.f3 x.f4 B1 B2 B5 d1 d2 d5 x.f1 x.f2 x.f5 _ G1.out G2.out G5.out HZ.out.1 HZ.out.2.1 HZ.out.2.2).mono ?_
    rintro e wf ⟨v1, v2, v5, rfl, hL1, hL2, hL5, hb⟩
    clear q0 q1 q2 q3 q4 q5
    have hGm2 := blk_below hGm hb
    clear m0 m1 m2 m3
    obtain ⟨⟨m0, m1, m2, m3⟩, _⟩ := lf4 hGm2
    have hba := below_alloc (Below.refl wf.heap.size wf) (.cells #[.int .u64 x.f0, v1, v2, .int .i64 x.f3, .int .i64 x.f4, v5] 41)
    have hbw := below_step hb hba
    have HNw := Aside0.mk (Kd.N_below HN.out hbw)
    have HOw := Aside0.mk (Kd.R_below HO.out hbw)
    have HBw := Aside0.mk (below_step HB.out hbw)
    have HFK := Aside0.mk (lent_fn_FK (n0 := x.f0) (n3 := x.f3) (n4 := x.f4) (hL1.below hba) (hL2.below hba) (hL5.below hba))
    have HSW := Aside0.mk hbw.size
    have HLT := Aside0.mk (Kd.N_lt HN.out)
    have HBS := Aside0.mk HB.out.size
    obtain ⟨s1, t1, rfl⟩ := hL1.slice
    obtain ⟨s2, t2, rfl⟩ := hL2.slice
    obtain ⟨s5, t5, rfl⟩ := hL5.slice
    clear hL1 hL2 hL5 hb hba hbw HN HO HB hGm hGm2
    go_wp2_with (first | ((with_reducible refine gate_builtin (b := .append) (xs := #[.tmp 28, .tmp 30]) rfl ?_); at_builtin; refine Kd.N_append kLF (w0 := w0) w0.heap.size rfl (.tmp 28) (.tmp 30) 24 41 (.agg #[.int .u64 0, .slice none 0 0, .slice none 0 0, .int .i64 0, .int .i64 0, .slice none 0 0]) 96 rfl Tryd.underlying24 linfoF rfl (by decide) (by omega) u4 ((l3.take i).map (fun x => (x, true))) (x, true) [.int .u64 x.f0, .slice s1 x.f1.length t1, .slice s2 x.f2.length t2, .int .i64 x.f3, .int .i64 x.f4, .slice s5 x.f5.length t5] (fun k => w0.heap.size ≤ k) (fun k => wi.heap.size ≤ k) rfl (by show Value.slice (some ⟨wf.heap.size + 1, 0, none⟩) 1 1 = _; simp) ?aP ?aK ?aF ?aO ?aB ?aS ?aL ?_; (case aP => exact HFK.out); (case aK => exact (fun k hk => ⟨Nat.le_trans HBS.out hk, fun he => by have := HLT.out k he.symm; omega⟩)); (case aF => exact (fun k hk => Nat.le_trans HBw.out.size hk)); (case aO => exact HNw.out); (case aB => exact HBw.out); (case aS => exact HBw.out.size); (case aL => have := Zhs3.out; simp only [List.length_map, List.length_take]; omega); intro v31 w9 ho hb hg hat; have HN := Aside0.mk ho; have HB := Aside0.mk hb; have HO := Aside0.mk (R_overN HOw.out HNw.out (by decide) hg); clear ho hb hg hat))
    go_roundg k1
    case measure => omega
    case rel => exact ⟨i + 1, by simp [hw2], ⟨by have := HI.out; omega⟩, ⟨by have := HI.out; omega⟩, ⟨by rw [List.take_succ_eq_append_getElem ci, HXL.out, List.map_append]; exact HN.out⟩, HO, HB⟩
   ·
    have cib : decide ((i : Int) < (l3.length : Int)) = false := decide_eq_false (by omega)
    obtain rfl : i = l3.length := by have := HI.out; omega
    rw [List.take_length] at HN
    clear HI HI1 ci
    obtain ⟨wi, hwi⟩ : ∃ wi : World, wi = wr := ⟨_, rfl⟩
    rw [← hwi] at HN HO HB hGm m0 m1 m2 m3 ⊢
    clear hwi
    have HGMi := Aside0.mk hGm
    clear hGm
    have hnlt := Kd.N_lt HN.out
    clear hnlt
    go_wp2_with (first | ((with_reducible refine gate_builtin (b := .append) (xs := #[.tmp 32, .tmp 34]) rfl ?_); at_builtin; refine Kd.N_append kLF (w0 := w0) w0.heap.size rfl (.tmp 32) (.tmp 34) 24 41 (.agg #[.int .u64 0, .slice none 0 0, .slice none 0 0, .int .i64 0, .int .i64 0, .slice none 0 0]) 96 rfl Tryd.underlying24 linfoF rfl (by decide) (by omega) u4 (l3.map (fun x => (x, true))) markFn [.int .u64 0, .slice none 0 0, .slice none 0 0, .int .i64 0, .int .i64 (-71), .slice none 0 0] (fun k => w0.heap.size ≤ k) (fun _ => False) rfl rfl ?aP (fun _ hk => hk.elim) ?aF ?aO ?aB ?aS ?aL ?_; (case aP => exact mark_FK _ _); (case aF => exact (fun k hk => Nat.le_trans HB.out.size hk)); (case aO => exact HN.out); (case aB => exact HB.out); (case aS => exact HB.out.size); (case aL => have := Zhs3.out; simp only [List.length_map]; omega); intro v35 w9 ho hb hg hat; have HNn := Aside0.mk ho; have HBn := Aside0.mk hb; have HOn := Aside0.mk (R_overN HO.out HN.out (by decide) hg); clear ho hb hg hat HN HB HO; have HN := HNn; have HB := HBn; have HO := HOn; clear HNn HBn HOn; obtain ⟨Af, cf, ef⟩ := Kd.N_slice HN.out; subst ef; rw [show (l3.map (fun x => (x, true)) ++ [markFn]).length = l3.length + 1 by simp] at HN ⊢; clear m0 m1 m2 m3))
    have hlt2 : w.heap.size + 1 < w0.heap.size := by have := HSZ.out; omega
    have hGm := (HB.out.block w.heap.size (by omega)).trans HGm.out
    have hGz := (HB.out.block (w.heap.size + 1) hlt2).trans HGz.out
    obtain ⟨⟨m0, m1, m2, m3⟩, _⟩ := lf4 hGm
    obtain ⟨i09, hi09, _, hsz9, _⟩ := info_parts linfoA
    have hcutA := cut_up (P := Tryd.prog) 23 38 Tryd.underlying23 hi09 Aa (l1.length + 1) ca (l1.length : Int) (by omega) (by have := (Kd.R_reads' HO.out).2.1; omega)
    rw [Int.toNat_natCast] at hcutA
    clear hi09 hsz9
    obtain ⟨i08, hi08, _, hsz8, _⟩ := info_parts linfoF
    have hcutF := cut_up (P := Tryd.prog) 24 41 Tryd.underlying24 hi08 Af (l3.length + 1) cf (l3.length : Int) (by omega) (by have := (Kd.N_reads' HN.out).2.1; omega)
    rw [Int.toNat_natCast] at hcutF
    clear hi08 hsz8
    have HGM := Aside0.mk hGm
    have HGZ := Aside0.mk hGz
    have HL2 := Aside0.mk hlt2
    clear hGm hGz hlt2
    have hbd := (Below.refl w9.heap.size w9)
    refine start_ (n := 18) (S := fun w' => w'.cell? ⟨w.heap.size, 0, none⟩ = some (.slice A0 l0.length c0) ∧ w'.cell? ⟨w.heap.size, 1, none⟩ = some (.slice A1 l1.length c1) ∧ w'.cell? ⟨w.heap.size, 2, none⟩ = some (.slice A2 l2.length c2) ∧ w'.cell? ⟨w.heap.size, 3, none⟩ = some (.slice A3 l3.length c3)) (ds := [17]) #[false, false, false, false, false, false, false, false, false, false, false, false, false, false, false, false, false, false] (by kernel_rfl) rfl rfl ⟨m0, m1, m2, m3⟩ (fun hHeld => ?_)
    refine pure_ (i := 0) (N := some 36) (v := ?_) (a' := ?_) #[true, false, false, false, false, false, false, false, false, false, false, false, false, false, false, false, false, false] rfl rfl (by kernel_rfl) (fun _ _ _ h => h) (Or.inl ⟨by rfl, ?_⟩) ?_ ?_
    rotate_left
    ·
     intro w'
     go_simp
     with_reducible rfl
    rotate_left
    ·
     simp only [Act.put, List.setIfInBounds_toArray, List.set_cons_zero, List.set_cons_succ, i64_w, i32_w]
     rfl
    refine pure_ (i := 3) (N := some 39) (v := ?_) (a' := ?_) #[true, false, false, true, false, false, false, false, false, false, false, false, false, false, false, false, false, false] rfl rfl (by kernel_rfl) (fun _ _ _ h => h) (Or.inl ⟨by rfl, ?_⟩) ?_ ?_
    rotate_left
    ·
     intro w'
     go_simp
     with_reducible rfl
    rotate_left
    ·
     simp only [Act.put, List.setIfInBounds_toArray, List.set_cons_zero, List.set_cons_succ, i64_w, i32_w]
     rfl
    refine pure_ (i := 4) (N := some 40) (v := ?_) (a' := ?_) #[true, false, false, true, true, false, false, false, false, false, false, false, false, false, false, false, false, false] rfl rfl (by kernel_rfl) (fun _ _ _ h => h) (Or.inl ⟨by rfl, ?_⟩) ?_ ?_
    rotate_left
    ·
     intro w'
     go_simp
     with_reducible rfl
    rotate_left
    ·
     simp only [Act.put, List.setIfInBounds_toArray, List.set_cons_zero, List.set_cons_succ, i64_w, i32_w]
     rfl
    refine pure_ (i := 8) (N := some 44) (v := ?_) (a' := ?_) #[true, false, false, true, true, false, false, false, true, false, false, false, false, false, false, false, false, false] rfl rfl (by kernel_rfl) (fun _ _ _ h => h) (Or.inl ⟨by rfl, ?_⟩) ?_ ?_
    rotate_left
    ·
     intro w'
     go_simp
     with_reducible rfl
    rotate_left
    ·
     simp only [Act.put, List.setIfInBounds_toArray, List.set_cons_zero, List.set_cons_succ, i64_w, i32_w]
     rfl
    refine pure_ (i := 11) (N := some 47) (v := ?_) (a' := ?_) #[true, false, false, true, true, false, false, false, true, false, false, true, false, false, false, false, false, false] rfl rfl (by kernel_rfl) (fun _ _ _ h => h) (Or.inl ⟨by rfl, ?_⟩) ?_ ?_
    rotate_left
    ·
     intro w'
     go_simp
     with_reducible rfl
    rotate_left
    ·
     simp only [Act.put, List.setIfInBounds_toArray, List.set_cons_zero, List.set_cons_succ, i64_w, i32_w]
     rfl
    refine pure_ (i := 12) (N := some 48) (v := ?_) (a' := ?_) #[true, false, false, true, true, false, false, false, true, false, false, true, true, false, false, false, false, false] rfl rfl (by kernel_rfl) (fun _ _ _ h => h) (Or.inl ⟨by rfl, ?_⟩) ?_ ?_
    rotate_left
    ·
     intro w'
     go_simp
     with_reducible rfl
    rotate_left
    ·
     simp only [Act.put, List.setIfInBounds_toArray, List.set_cons_zero, List.set_cons_succ, i64_w, i32_w]
     rfl
    refine take_ (i := 1) (N := some 37) (v := ?_) (a' := ?_) #[true, true, false, true, true, false, false, false, true, false, false, true, true, false, false, false, false, false] rfl rfl (by kernel_rfl) (fun _ _ _ h => h) (Or.inl ⟨by rfl, ?_⟩) hHeld ?_ ?_
    rotate_left
    ·
     rintro w' ⟨s0, s1, s2, s3⟩
     go_simp
     with_reducible rfl
    rotate_left
    ·
     simp only [Act.put, List.setIfInBounds_toArray, List.set_cons_zero, List.set_cons_succ, i64_w, i32_w]
     rfl
    refine take_ (i := 5) (N := some 41) (v := ?_) (a' := ?_) #[true, true, false, true, true, true, false, false, true, false, false, true, true, false, false, false, false, false] rfl rfl (by kernel_rfl) (fun _ _ _ h => h) (Or.inl ⟨by rfl, ?_⟩) hHeld ?_ ?_
    rotate_left
    ·
     rintro w' ⟨s0, s1, s2, s3⟩
     go_simp
     with_reducible rfl
    rotate_left
    ·
     simp only [Act.put, List.setIfInBounds_toArray, List.set_cons_zero, List.set_cons_succ, i64_w, i32_w]
     rfl
    refine pure_ (i := 6) (N := some 42) (v := ?_) (a' := ?_) #[true, true, false, true, true, true, true, false, true, false, false, true, true, false, false, false, false, false] rfl rfl (by kernel_rfl) (fun _ _ _ h => h) (Or.inl ⟨by rfl, ?_⟩) ?_ ?_
    rotate_left
    ·
     intro w'
     go_simp
     with_reducible rfl
    rotate_left
    ·
     simp only [Act.put, List.setIfInBounds_toArray, List.set_cons_zero, List.set_cons_succ, i64_w, i32_w]
     rfl
    refine pure_ (i := 7) (N := some 43) (v := ?_) (a' := ?_) #[true, true, false, true, true, true, true, true, true, false, false, true, true, false, false, false, false, false] rfl rfl (by kernel_rfl) (fun _ _ _ h => h) (Or.inl ⟨by rfl, ?_⟩) ?_ ?_
    rotate_left
    ·
     intro w'
     go_simp
     with_reducible rfl
    rotate_left
    ·
     simp only [Act.put, List.setIfInBounds_toArray, List.set_cons_zero, List.set_cons_succ, i64_w, i32_w]
     rfl
    refine take_ (i := 9) (N := some 45) (v := ?_) (a' := ?_) #[true, true, false, true, true, true, true, true, true, true, false, true, true, false, false, false, false, false] rfl rfl (by kernel_rfl) (fun _ _ _ h => h) (Or.inl ⟨by rfl, ?_⟩) hHeld ?_ ?_
    rotate_left
    ·
     rintro w' ⟨s0, s1, s2, s3⟩
     go_simp
     with_reducible rfl
    rotate_left
    ·
     simp only [Act.put, List.setIfInBounds_toArray, List.set_cons_zero, List.set_cons_succ, i64_w, i32_w]
     rfl
    refine take_ (i := 13) (N := some 49) (v := ?_) (a' := ?_) #[true, true, false, true, true, true, true, true, true, true, false, true, true, true, false, false, false, false] rfl rfl (by kernel_rfl) (fun _ _ _ h => h) (Or.inl ⟨by rfl, ?_⟩) hHeld ?_ ?_
    rotate_left
    ·
     rintro w' ⟨s0, s1, s2, s3⟩
     go_simp
     with_reducible rfl
    rotate_left
    ·
     simp only [Act.put, List.setIfInBounds_toArray, List.set_cons_zero, List.set_cons_succ, i64_w, i32_w]
     rfl
    refine pure_ (i := 14) (N := some 50) (v := ?_) (a' := ?_) #[true, true, false, true, true, true, true, true, true, true, false, true, true, true, true, false, false, false] rfl rfl (by kernel_rfl) (fun _ _ _ h => h) (Or.inl ⟨by rfl, ?_⟩) ?_ ?_
    rotate_left
    ·
     intro w'
     go_simp
     with_reducible rfl
    rotate_left
    ·
     simp only [Act.put, List.setIfInBounds_toArray, List.set_cons_zero, List.set_cons_succ, i64_w, i32_w]
     rfl
    refine pure_ (i := 15) (N := some 51) (v := ?_) (a' := ?_) #[true, true, false, true, true, true, true, true, true, true, false, true, true, true, true, true, false, false] rfl rfl (by kernel_rfl) (fun _ _ _ h => h) (Or.inl ⟨by rfl, ?_⟩) ?_ ?_
    rotate_left
    ·
     intro w'
     go_simp
     with_reducible rfl
    rotate_left
    ·
     simp only [Act.put, List.setIfInBounds_toArray, List.set_cons_zero, List.set_cons_succ, i64_w, i32_w]
     rfl
    refine one_ (i := 2) (N := some 38) #[true, true, true, true, true, true, true, true, true, true, false, true, true, true, true, true, false, false] rfl rfl (by kernel_rfl) (by decide) (fun K hK => ?_)
    refine goes_ Tryd.func73 (by kernel_rfl) rfl #[.slice A0 l0.length c0] (by rfl) rfl rfl (by (try simp only [List.map_toArray, List.map_cons, List.map_nil]); first | done | rfl) ?_
    with_reducible refine (louverkit_LentLabelsD.calls A0 c0 l0 _ (Kd.C_below (Kd.C_below Zhr0.out HW0.out) (below_drew1 HB.out)) Zhs0.out).mono ?_
    rintro e wa ⟨va, rfl, hLa, hb⟩
    refine ⟨_, rfl, ?_⟩
    replace hb : Below w9.heap.size w9 wa := ⟨hb.os, hb.tape, hb.output, hb.size, hb.block⟩
    replace hLa : LentD (Kd.int .u64) 36 wa w9.heap.size va l0 7171 := hLa
    obtain ⟨sa, ta, rfl⟩ := hLa.slice
    have HLa := Aside0.mk hLa
    have HBa := Aside0.mk hb
    clear hLa
    refine hK.out _ _ ⟨(pw_cell_below hb hHeld.1), (pw_cell_below hb hHeld.2.1), (pw_cell_below hb hHeld.2.2.1), (pw_cell_below hb hHeld.2.2.2)⟩ (fun hHeld => ?_)
    clear hK K
    refine norm_ (a' := ?_) ?_ ?_
    rotate_left
    ·
     show Act.put _ (some 38) _ = _
     simp only [Act.put, List.setIfInBounds_toArray, List.set_cons_zero, List.set_cons_succ, i64_w, i32_w]
     rfl
    refine one_ (i := 10) (N := some 46) #[true, true, true, true, true, true, true, true, true, true, true, true, true, true, true, true, false, false] rfl rfl (by kernel_rfl) (by decide) (fun K hK => ?_)
    refine goes_ Tryd.func73 (by kernel_rfl) rfl #[.slice A2 l2.length c2] (by rfl) rfl rfl (by (try simp only [List.map_toArray, List.map_cons, List.map_nil]); first | done | rfl) ?_
    with_reducible refine (louverkit_LentLabelsD.calls A2 c2 l2 _ (Kd.C_below (Kd.C_below Zhr2.out HW0.out) (below_step HB.out HBa.out)) Zhs2.out).mono ?_
    rintro e wb ⟨vb, rfl, hLb, hb⟩
    refine ⟨_, rfl, ?_⟩
    obtain ⟨sb, tb, rfl⟩ := hLb.slice
    have HLb := Aside0.mk hLb
    have HBb := Aside0.mk hb
    clear hLb
    have HGZb := blk_below (blk_below HGZ.out HBa.out) HBb.out
    obtain ⟨⟨z0, z1, z2, z3⟩, y0, y1, y2, y3⟩ := lf4 HGZb
    refine hK.out _ _ ⟨(pw_cell_below hb hHeld.1), (pw_cell_below hb hHeld.2.1), (pw_cell_below hb hHeld.2.2.1), (pw_cell_below hb hHeld.2.2.2)⟩ (fun hHeld => ?_)
    clear hK K
    refine norm_ (a' := ?_) ?_ ?_
    rotate_left
    ·
     show Act.put _ (some 46) _ = _
     simp only [Act.put, List.setIfInBounds_toArray, List.set_cons_zero, List.set_cons_succ, i64_w, i32_w]
     rfl
    refine pure_ (i := 16) (N := some 52) (v := ?_) (a' := ?_) #[true, true, true, true, true, true, true, true, true, true, true, true, true, true, true, true, true, false] rfl rfl (by kernel_rfl) (fun _ _ _ h => h) (Or.inl ⟨by rfl, ?_⟩) ?_ ?_
    rotate_left
    ·
     intro w'
     go_simp
     with_reducible rfl
    rotate_left
    ·
     simp only [Act.put, List.setIfInBounds_toArray, List.set_cons_zero, List.set_cons_succ, i64_w, i32_w]
     rfl
    refine last_ (i := 17) (N := none) #[true, true, true, true, true, true, true, true, true, true, true, true, true, true, true, true, true, true] rfl rfl (by kernel_rfl) (by decide) (fun K hK => ?_)
    refine skip_ (w1 := ?_) (by rfl) rfl ?_ ?_
    rotate_left
    ·
     go_simp
     rfl
    refine hK.out _ _ ?_
    clear hK K
    refine done_ (by kernel_rfl) ?_
    go_wp2
    refine bodyPost_ret (results_cell_row rfl _ _ (w.heap.size + 1) 26 #[.slice sa l0.length ta, .slice Aa l1.length ca, .slice sb l2.length tb, .slice Af l3.length cf] (0, 0) _ rfl (put4 HGZb _ _ _ _) Tryd.underlying26 rfl (by kernel_rfl)) rfl ?_
    have hab := below_step HBa.out HBb.out
    have hle := HB.out.size
    have hle0 := HW0.out.size
    have hl2 := HL2.out
    have hla := HBa.out.size
    have hR := Kd.R_far (p := ⟨w.heap.size + 1, 3, none⟩) (Kd.R_far (p := ⟨w.heap.size + 1, 2, none⟩) (Kd.R_far (p := ⟨w.heap.size + 1, 1, none⟩) (Kd.R_far (p := ⟨w.heap.size + 1, 0, none⟩) (Kd.R_below HO.out hab) (fun k hk => show k ≠ w.heap.size + 1 by omega) (.slice sa l0.length ta)) (fun k hk => show k ≠ w.heap.size + 1 by omega) (.slice Aa l1.length ca)) (fun k hk => show k ≠ w.heap.size + 1 by omega) (.slice sb l2.length tb)) (fun k hk => show k ≠ w.heap.size + 1 by omega) (.slice Af l3.length cf)
    have hN := Kd.N_far (p := ⟨w.heap.size + 1, 3, none⟩) (Kd.N_far (p := ⟨w.heap.size + 1, 2, none⟩) (Kd.N_far (p := ⟨w.heap.size + 1, 1, none⟩) (Kd.N_far (p := ⟨w.heap.size + 1, 0, none⟩) (Kd.N_below HN.out hab) (fun k hk => show k ≠ w.heap.size + 1 by omega) (.slice sa l0.length ta)) (fun k hk => show k ≠ w.heap.size + 1 by omega) (.slice Aa l1.length ca)) (fun k hk => show k ≠ w.heap.size + 1 by omega) (.slice sb l2.length tb)) (fun k hk => show k ≠ w.heap.size + 1 by omega) (.slice Af l3.length cf)
    have h0 := (((((HLa.out.below HBb.out).far (p := ⟨w.heap.size + 1, 0, none⟩) (show w.heap.size + 1 < w9.heap.size by omega) (.slice sa l0.length ta)).far (p := ⟨w.heap.size + 1, 1, none⟩) (show w.heap.size + 1 < w9.heap.size by omega) (.slice Aa l1.length ca)).far (p := ⟨w.heap.size + 1, 2, none⟩) (show w.heap.size + 1 < w9.heap.size by omega) (.slice sb l2.length tb)).far (p := ⟨w.heap.size + 1, 3, none⟩) (show w.heap.size + 1 < w9.heap.size by omega) (.slice Af l3.length cf))
    have h2 := ((((HLb.out.far (p := ⟨w.heap.size + 1, 0, none⟩) (show w.heap.size + 1 < wa.heap.size by omega) (.slice sa l0.length ta)).far (p := ⟨w.heap.size + 1, 1, none⟩) (show w.heap.size + 1 < wa.heap.size by omega) (.slice Aa l1.length ca)).far (p := ⟨w.heap.size + 1, 2, none⟩) (show w.heap.size + 1 < wa.heap.size by omega) (.slice sb l2.length tb)).far (p := ⟨w.heap.size + 1, 3, none⟩) (show w.heap.size + 1 < wa.heap.size by omega) (.slice Af l3.length cf))
    have hbz := below_step HW0.out (below_step HB.out hab)
    exact ⟨_, _, _, _, rfl, h0.low (by omega), ⟨Aa, ca, rfl, by rw [show (l1 ++ [(⟨-71, 0⟩ : S38)]).length = l1.length + 1 by simp]; exact Kd.R_mono (Kd.R_lower hR (by omega)) (fun k hk => by omega)⟩, h2.low (by omega), ⟨Af, cf, rfl, Kd.N_mono (Kd.N_lower hN (by omega)) (fun k hk => by omega)⟩, below_set (below_set (below_set (below_set hbz (by omega)) (by omega)) (by omega)) (by omega)⟩
end Go.Proofs.YtgpdaihfjnihhaaDoor.PJ

namespace Go.Proofs.YtgpdaihfjnihhaaDoor.PJ
open Go.RowKit Go.Proofs.YtgpdaihfjnihhaaDoorW.PrintWords Go.Proofs.YtgpdaihfjnihhaaDoorW.PrintLast Go.Proofs.YtgpdaihfjnihhaaDoorW.PrintMore
set_option linter.unusedSimpArgs false
set_option linter.unusedVariables false
def LentC {α : Type} (d : Kd α) (W : World) (v : Value) (l : List α) (m : α) : Prop := ∃ A c, v = .slice A l.length c ∧ l.length + 1 ≤ c ∧ d.C W A (l ++ [m]).length (l ++ [m])
theorem LentC.below {α : Type} {d : Kd α} {W W1 : World} {v : Value} {l : List α} {m : α} (h : LentC d W v l m) (hb : Below W.heap.size W W1) : LentC d W1 v l m := by
 obtain ⟨A, c, e, hc, hC⟩ := h
 exact ⟨A, c, e, hc, Kd.C_below hC hb⟩
theorem LentD.toC {α : Type} {d : Kd α} {e : Nat} {W : World} {base : Nat} {v : Value} {l : List α} {m : α} (h : LentD d e W base v l m) : LentC d W v l m := by
 obtain ⟨A, c, rfl, hR⟩ := h
 obtain ⟨h1, h2, h3⟩ := Kd.R_reads' hR
 exact ⟨A, c, rfl, by simpa using h2, h3⟩
theorem lentC_reads {α : Type} {d : Kd α} {W : World} {A : Option Addr} {l : List α} {m : α} (h : d.C W A (l ++ [m]).length (l ++ [m])) : d.C W A l.length l := by
 have := Kd.C_take (m := l.length) h (by simp)
 rw [List.take_left'] at this
 ·
  exact this
 ·
  rfl
theorem lentC_mark {α : Type} {d : Kd α} {W : World} {A : Option Addr} {l : List α} {m : α} (h : d.C W A (l ++ [m]).length (l ++ [m])) : ∃ ad cs, A = some ad ∧ d.K W m cs ∧ ∀ j u, cs[j]? = some u → W.cell? (ad.add (l.length * d.sz + j)) = some u := by
 obtain ⟨ad, cs, e, _, hK, hc⟩ := Kd.C_get h m (l.length : Int) (by omega) (by simp; omega)
 rw [Int.toNat_natCast] at hK hc
 have : (l ++ [m]).getD l.length m = m := by simp [List.getD_eq_getElem?_getD]
 rw [this] at hK
 exact ⟨ad, cs, e, hK, hc⟩
theorem labels_refl : ∀ (l : List Int), l.length ≤ 9223372036854775807 → ∃ k, louverkit_Labels.f k l l = some true := by
 intro l hm
 have key : ∀ d i k, i + d = l.length → d < k → louverkit_Labels.l0 k l l (i : Int) = some true := by
  intro d
  induction d with
  | zero =>
   intro i k hi hk
   obtain ⟨m, rfl⟩ : ∃ m, k = m + 1 := ⟨k - 1, by omega⟩
   rw [louverkit_Labels.l0, if_neg (by omega)]
  | succ d ih =>
   intro i k hi hk
   obtain ⟨m, rfl⟩ : ∃ m, k = m + 1 := ⟨k - 1, by omega⟩
   rw [louverkit_Labels.l0, if_pos (by omega), if_pos (by omega), if_pos (by omega), if_pos rfl, show wrap64 ((i : Int) + 1) = ((i + 1 : Nat) : Int) by unfold wrap64; omega]
   exact ih (i + 1) m (by omega) (by omega)
 exact ⟨l.length + 1, by unfold louverkit_Labels.f; rw [if_pos rfl]; exact key l.length 0 _ (by omega) (by omega)⟩
theorem code_refl : ∀ (l : List S44), l.length ≤ 9223372036854775807 → ∃ k, louverkit_Code.f k l l = some true := by
 intro l hm
 have key : ∀ d i k, i + d = l.length → d < k → louverkit_Code.l0 k l l (i : Int) = some true := by
  intro d
  induction d with
  | zero =>
   intro i k hi hk
   obtain ⟨m, rfl⟩ : ∃ m, k = m + 1 := ⟨k - 1, by omega⟩
   rw [louverkit_Code.l0, if_neg (by omega)]
  | succ d ih =>
   intro i k hi hk
   obtain ⟨m, rfl⟩ : ∃ m, k = m + 1 := ⟨k - 1, by omega⟩
   rw [louverkit_Code.l0, if_pos (by omega), if_pos (by omega), if_pos (by omega), if_neg (by simp), show wrap64 ((i : Int) + 1) = ((i + 1 : Nat) : Int) by unfold wrap64; omega]
   exact ih (i + 1) m (by omega) (by omega)
 exact ⟨l.length + 1, by unfold louverkit_Code.f; rw [if_pos rfl]; exact key l.length 0 _ (by omega) (by omega)⟩
theorem keptEqI (d : Nat) (w : World) (x0 y0 : Int) (x1 y1 : Int) : (Op.equalIn (d + 2) 44 (.agg #[.int .i64 x0, .int .i64 x1]) (.agg #[.int .i64 y0, .int .i64 y1])).run Tryd.prog w = .ok (x0 == y0 && (x1 == y1)) w := by
 refine eqA_of Tryd.underlying44 (by kernel_rfl) ?_
 refine eqf_cons (by rfl) (by go_simp; rfl) (by go_simp; rfl) (by go_simp) ?_
 exact eqf_last (by rfl) (by go_simp; rfl) (by go_simp; rfl) (by go_simp)
theorem keptEqA (d : Nat) (w : World) (x0 y0 : Int) (x1 y1 : Int) : (Op.equalIn (d + 2) 38 (.agg #[.int .i64 x0, .int .u64 x1]) (.agg #[.int .i64 y0, .int .u64 y1])).run Tryd.prog w = .ok (x0 == y0 && (x1 == y1)) w := by
 refine eqA_of Tryd.underlying38 (by kernel_rfl) ?_
 refine eqf_cons (by rfl) (by go_simp; rfl) (by go_simp; rfl) (by go_simp) ?_
 exact eqf_last (by rfl) (by go_simp; rfl) (by go_simp; rfl) (by go_simp)
set_option maxHeartbeats 8000000 in
set_option maxRecDepth 100000 in
theorem louverkit_KeptLabelsC.calls (v : Value) (l : List Int) (A1 : Option Addr) (c1 : Nat) (w : World) (hL : LentC (Kd.int .u64) w v l 7171) (hr1 : Kd.C (Kd.int .u64) w A1 l.length l) (hc1 : l.length ≤ c1) :
  Calls Tryd.prog 77 #[v, .slice A1 l.length c1] w fun e w' => e = .returned (.bool true) ∧ Drawn0 w w' := by
 obtain ⟨A, c, rfl, hcap, hC0⟩ := hL
 obtain ⟨ad, cs, rfl, hK, hcell⟩ := lentC_mark hC0
 have hm : l.length ≤ 9223372036854775806 := by have := Kd.C_max hC0; simp at this; omega
 obtain ⟨k, hk⟩ := labels_refl l (by omega)
 have HC := Aside0.mk (lentC_reads hC0)
 have HR1 := Aside0.mk hr1
 have HC1 := Aside0.mk hc1
 have HH := Aside0.mk hk
 have HN := Aside0.mk hcap
 obtain rfl : cs = [.int .u64 7171] := hK
 have hm0 : w.cell? (ad.add l.length) = some (.int .u64 7171) := by
  have := hcell 0 _ rfl
  have e3 : l.length * ((Kd.int .u64)).sz + 0 = l.length := by show l.length * 1 + 0 = l.length; omega
  rw [e3] at this
  exact this
 have w1 : wrap64 ((l.length : Int) + 1) = (l.length : Int) + 1 := by
  unfold wrap64
  omega
 obtain ⟨i09, hi09, _, hsz9, _⟩ := info_parts linfoL
 have hcut9 := cut_up (P := Tryd.prog) 22 36 Tryd.underlying22 hi09 (some ad) l.length c ((l.length : Int) + 1) (by omega) (by omega)
 clear hi09 hsz9 hcap hC0 hr1 hc1 hk hm hcell
 go_enter Tryd.func77, Tryd.ntmps77
 go_wp2_with (first | (go_at_call 88; (with_reducible refine (louverkit_Labels.calls k _ _ l _ _ l true _ ?s1 ?s2 ?s3 ?s4 HH.out).mono ?_); (case s1 => exact HC.out); (case s2 => have := HN.out; omega); (case s3 => exact HR1.out); (case s4 => exact HC1.out); rintro e w' ⟨rfl, ⟨nd, rfl⟩⟩))
 go_ret
 exact ⟨rfl, by repeat (first | exact Drawn0.refl _ | apply Drawn0.step)⟩
set_option maxHeartbeats 8000000 in
set_option maxRecDepth 100000 in
theorem louverkit_KeptCodeC.calls (v : Value) (l : List S44) (A1 : Option Addr) (c1 : Nat) (w : World) (hL : LentC k44 w v l (⟨-71, 0⟩ : S44)) (hr1 : Kd.C k44 w A1 l.length l) (hc1 : l.length ≤ c1) :
  Calls Tryd.prog 114 #[v, .slice A1 l.length c1] w fun e w' => e = .returned (.bool true) ∧ Drawn0 w w' := by
 obtain ⟨A, c, rfl, hcap, hC0⟩ := hL
 obtain ⟨ad, cs, rfl, hK, hcell⟩ := lentC_mark hC0
 have hm : l.length ≤ 9223372036854775806 := by have := Kd.C_max hC0; simp at this; omega
 obtain ⟨k, hk⟩ := code_refl l (by omega)
 have HC := Aside0.mk (lentC_reads hC0)
 have HR1 := Aside0.mk hr1
 have HC1 := Aside0.mk hc1
 have HH := Aside0.mk hk
 have HN := Aside0.mk hcap
 obtain rfl : cs = [.int .i64 (-71), .int .i64 0] := by
  obtain ⟨a, b, e, p, q⟩ := hK
  have p' : a = [.int .i64 (-71)] := p
  have q' : b = [.int .i64 0] := q
  rw [e, p', q']
  rfl
 have hm0 : w.cell? (ad.add (l.length * 2)) = some (.int .i64 (-71)) := hcell 0 _ rfl
 have hm1 : w.cell? ⟨(ad.add (l.length * 2)).block, (ad.add (l.length * 2)).off + 1, none⟩ = some (.int .i64 0) := by
  rw [← add_field _ _ 1 (by omega)]
  exact hcell 1 _ rfl
 have heq : ∀ W : World, (Op.equalIn 10000 44 (.agg #[.int .i64 (-71), .int .i64 0]) (.agg #[.int .i64 (-71), .int .i64 0])).run Tryd.prog W = .ok true W := fun W => by
  have := keptEqI 9998 W (-71) (-71) 0 0
  simpa using this
 have w1 : wrap64 ((l.length : Int) + 1) = (l.length : Int) + 1 := by
  unfold wrap64
  omega
 obtain ⟨i09, hi09, _, hsz9, _⟩ := info_parts linfoI
 have hcut9 := cut_up (P := Tryd.prog) 39 44 Tryd.underlying39 hi09 (some ad) l.length c ((l.length : Int) + 1) (by omega) (by omega)
 clear hi09 hsz9 hcap hC0 hr1 hc1 hk hm hcell
 go_enter Tryd.func114, Tryd.ntmps114
 go_wp2_with (first | (go_at_call 119; (with_reducible refine (louverkit_Code.calls k _ _ l _ _ l true _ ?s1 ?s2 ?s3 ?s4 HH.out).mono ?_); (case s1 => exact HC.out); (case s2 => have := HN.out; omega); (case s3 => exact HR1.out); (case s4 => exact HC1.out); rintro e w' ⟨rfl, ⟨nd, rfl⟩⟩))
 go_ret
 exact ⟨rfl, by repeat (first | exact Drawn0.refl _ | apply Drawn0.step)⟩
set_option maxHeartbeats 8000000 in
set_option maxRecDepth 100000 in
theorem louverkit_KeptFunctionC.calls (n0 n3 n4 : Int) (u1 u2 u5 : Value) (A1 A2 A5 : Option Addr) (c1 c2 c5 : Nat) (l1 l2 : List Int) (l5 : List S44) (w : World) (h1 : LentC (Kd.int .u64) w u1 l1 7171) (h2 : LentC (Kd.int .u64) w u2 l2 7171) (h5 : LentC k44 w u5 l5 ⟨-71, 0⟩)
  (hr1 : Kd.C (Kd.int .u64) w A1 l1.length l1) (hc1 : l1.length ≤ c1) (hr2 : Kd.C (Kd.int .u64) w A2 l2.length l2) (hc2 : l2.length ≤ c2) (hr5 : Kd.C k44 w A5 l5.length l5) (hc5 : l5.length ≤ c5) :
  Calls Tryd.prog 78 #[.agg #[.int .u64 n0, u1, u2, .int .i64 n3, .int .i64 n4, u5], .agg #[.int .u64 n0, .slice A1 l1.length c1, .slice A2 l2.length c2, .int .i64 n3, .int .i64 n4, .slice A5 l5.length c5]] w fun e w' => e = .returned (.bool true) ∧ Below w.heap.size w w' := by
 obtain ⟨B1, d1, e1, p1, q1⟩ := h1
 obtain ⟨B2, d2, e2, p2, q2⟩ := h2
 obtain ⟨B5, d5, e5, p5, q5⟩ := h5
 subst e1 e2 e5
 have Zhr1 := Aside0.mk hr1
 have Zhc1 := Aside0.mk hc1
 have Zhr2 := Aside0.mk hr2
 have Zhc2 := Aside0.mk hc2
 have Zhr5 := Aside0.mk hr5
 have Zhc5 := Aside0.mk hc5
 have Zp1 := Aside0.mk p1
 have Zq1 := Aside0.mk q1
 have Zp2 := Aside0.mk p2
 have Zq2 := Aside0.mk q2
 have Zp5 := Aside0.mk p5
 have Zq5 := Aside0.mk q5
 clear hr1 hc1 hr2 hc2 hr5 hc5 p1 q1 p2 q2 p5 q5
 have HB := Aside0.mk (below_alloc (below_alloc (Below.refl w.heap.size w) (.cells #[.int .u64 n0, .slice B1 l1.length d1, .slice B2 l2.length d2, .int .i64 n3, .int .i64 n4, .slice B5 l5.length d5] 41)) (.cells #[.int .u64 n0, .slice A1 l1.length c1, .slice A2 l2.length c2, .int .i64 n3, .int .i64 n4, .slice A5 l5.length c5] 41))
 have HG1 := Aside0.mk (blk_alloc (heap_alloc_new w (.cells #[.int .u64 n0, .slice B1 l1.length d1, .slice B2 l2.length d2, .int .i64 n3, .int .i64 n4, .slice B5 l5.length d5] 41)) (.cells #[.int .u64 n0, .slice A1 l1.length c1, .slice A2 l2.length c2, .int .i64 n3, .int .i64 n4, .slice A5 l5.length c5] 41))
 have HG2 := Aside0.mk (show ((w.alloc (.cells #[.int .u64 n0, .slice B1 l1.length d1, .slice B2 l2.length d2, .int .i64 n3, .int .i64 n4, .slice B5 l5.length d5] 41)).alloc (.cells #[.int .u64 n0, .slice A1 l1.length c1, .slice A2 l2.length c2, .int .i64 n3, .int .i64 n4, .slice A5 l5.length c5] 41)).heap[w.heap.size + 1]? = some (.cells #[.int .u64 n0, .slice A1 l1.length c1, .slice A2 l2.length c2, .int .i64 n3, .int .i64 n4, .slice A5 l5.length c5] 41 (0, 0)) by
  have := heap_alloc_new (w.alloc (.cells #[.int .u64 n0, .slice B1 l1.length d1, .slice B2 l2.length d2, .int .i64 n3, .int .i64 n4, .slice B5 l5.length d5] 41)) (.cells #[.int .u64 n0, .slice A1 l1.length c1, .slice A2 l2.length c2, .int .i64 n3, .int .i64 n4, .slice A5 l5.length c5] 41)
  simpa using this)
 obtain ⟨⟨a0, a1, a2, a3, a4, a5⟩, _⟩ := facts6 HG1.out
 obtain ⟨⟨b0, b1, b2, b3, b4, b5⟩, _⟩ := facts6 HG2.out
 go_enter Tryd.func78, Tryd.ntmps78
 go_wp2_with fail
 refine (louverkit_KeptLabelsC.calls (.slice B1 l1.length d1) l1 A1 c1 _ ⟨B1, d1, rfl, Zp1.out, Kd.C_below Zq1.out HB.out⟩ (Kd.C_below Zhr1.out HB.out) Zhc1.out).mono ?_
 rintro e w1 ⟨rfl, hd⟩
 have hb := hd.below
 clear a0 a1 a2 a3 a4 a5 b0 b1 b2 b3 b4 b5
 replace HG1 := Aside0.mk (blk_below HG1.out hb)
 replace HG2 := Aside0.mk (blk_below HG2.out hb)
 replace HB := Aside0.mk (below_step HB.out hb)
 clear hb hd
 obtain ⟨⟨a0, a1, a2, a3, a4, a5⟩, _⟩ := facts6 HG1.out
 obtain ⟨⟨b0, b1, b2, b3, b4, b5⟩, _⟩ := facts6 HG2.out
 go_wp2_with fail
 refine (louverkit_KeptLabelsC.calls (.slice B2 l2.length d2) l2 A2 c2 _ ⟨B2, d2, rfl, Zp2.out, Kd.C_below Zq2.out HB.out⟩ (Kd.C_below Zhr2.out HB.out) Zhc2.out).mono ?_
 rintro e w1 ⟨rfl, hd⟩
 have hb := hd.below
 clear a0 a1 a2 a3 a4 a5 b0 b1 b2 b3 b4 b5
 replace HG1 := Aside0.mk (blk_below HG1.out hb)
 replace HG2 := Aside0.mk (blk_below HG2.out hb)
 replace HB := Aside0.mk (below_step HB.out hb)
 clear hb hd
 obtain ⟨⟨a0, a1, a2, a3, a4, a5⟩, _⟩ := facts6 HG1.out
 obtain ⟨⟨b0, b1, b2, b3, b4, b5⟩, _⟩ := facts6 HG2.out
 go_wp2_with fail
 refine (louverkit_KeptCodeC.calls (.slice B5 l5.length d5) l5 A5 c5 _ ⟨B5, d5, rfl, Zp5.out, Kd.C_below Zq5.out HB.out⟩ (Kd.C_below Zhr5.out HB.out) Zhc5.out).mono ?_
 rintro e w1 ⟨rfl, hd⟩
 have hb := hd.below
 clear a0 a1 a2 a3 a4 a5 b0 b1 b2 b3 b4 b5
 replace HG1 := Aside0.mk (blk_below HG1.out hb)
 replace HG2 := Aside0.mk (blk_below HG2.out hb)
 replace HB := Aside0.mk (below_step HB.out hb)
 clear hb hd
 obtain ⟨⟨a0, a1, a2, a3, a4, a5⟩, _⟩ := facts6 HG1.out
 obtain ⟨⟨b0, b1, b2, b3, b4, b5⟩, _⟩ := facts6 HG2.out
 go_wp2
 go_ret
 exact ⟨rfl, HB.out⟩
theorem LentFns.toC {W : World} {base : Nat} {v : Value} {l : List S41} (h : LentFns W base v l) : ∃ A c, v = .slice A l.length c ∧ l.length + 1 ≤ c ∧ Kd.C kLF W A (l.length + 1) (l.map (fun x => (x, true)) ++ [markFn]) := by
 obtain ⟨A, c, rfl, hN⟩ := h
 obtain ⟨h1, h2, h3⟩ := Kd.N_reads' hN
 rw [show (l.map (fun x => (x, true)) ++ [markFn]).length = l.length + 1 by simp] at h3
 exact ⟨A, c, rfl, by omega, h3⟩
theorem at_LF {w : World} {A : Option Addr} {l : List S41} (h : Kd.C kLF w A (l.length + 1) (l.map (fun x => (x, true)) ++ [markFn])) (i : Nat) (hi : i < l.length) (x : S41) (hx : l[i] = x) : ∃ ad A1 c1 A2 c2 A5 c5, A = some ad ∧ w.cell? (ad.add (i * 6)) = some (.int .u64 x.f0) ∧ w.cell? ⟨(ad.add (i * 6)).block, (ad.add (i * 6)).off + 1, none⟩ = some (.slice A1 x.f1.length c1) ∧ w.cell? ⟨(ad.add (i * 6)).block, (ad.add (i * 6)).off + 2, none⟩ = some (.slice A2 x.f2.length c2) ∧ w.cell? ⟨(ad.add (i * 6)).block, (ad.add (i * 6)).off + 3, none⟩ = some (.int .i64 x.f3) ∧ w.cell? ⟨(ad.add (i * 6)).block, (ad.add (i * 6)).off + 4, none⟩ = some (.int .i64 x.f4) ∧ w.cell? ⟨(ad.add (i * 6)).block, (ad.add (i * 6)).off + 5, none⟩ = some (.slice A5 x.f5.length c5) ∧
  LentC (Kd.int .u64) w (.slice A1 x.f1.length c1) x.f1 7171 ∧ LentC (Kd.int .u64) w (.slice A2 x.f2.length c2) x.f2 7171 ∧ LentC k44 w (.slice A5 x.f5.length c5) x.f5 ⟨-71, 0⟩ := by
 obtain ⟨ad, c, e, _, hK, hc0⟩ := Kd.C_get h markFn (i : Int) (by omega) (by omega)
 rw [Int.toNat_natCast] at hK hc0
 have he : (l.map (fun x => (x, true)) ++ [markFn]).getD i markFn = (x, true) := by
  rw [List.getD_eq_getElem?_getD, List.getElem?_append_left (by simpa using hi)]
  simp [hi, hx]
 rw [he] at hK
 have hc : ∀ j u, c[j]? = some u → w.cell? (ad.add (i * 6 + j)) = some u := hc0
 obtain ⟨_, _, rfl, h0, ⟨_, _, rfl, ⟨A1, c1, e1, l1, g1, m1⟩, ⟨_, _, rfl, ⟨A2, c2, e2, l2, g2, m2⟩, ⟨_, _, rfl, h3, ⟨_, _, rfl, h4, ⟨A5, c5, e5, l5, g5, m5⟩⟩⟩⟩⟩⟩ := hK
 have h0' : _ = [Value.int .u64 x.f0] := h0
 have h3' : _ = [Value.int .i64 x.f3] := h3
 have h4' : _ = [Value.int .i64 x.f4] := h4
 subst h0' h3' h4' e1 e2 e5
 exact ⟨ad, A1, c1, A2, c2, A5, c5, e, hc 0 _ rfl, by rw [← add_field _ _ 1 (by omega)]; exact hc 1 _ rfl, by rw [← add_field _ _ 2 (by omega)]; exact hc 2 _ rfl, by rw [← add_field _ _ 3 (by omega)]; exact hc 3 _ rfl, by rw [← add_field _ _ 4 (by omega)]; exact hc 4 _ rfl, by rw [← add_field _ _ 5 (by omega)]; exact hc 5 _ rfl,
  ⟨A1, c1, rfl, (m1 rfl).1, (m1 rfl).2⟩, ⟨A2, c2, rfl, (m2 rfl).1, (m2 rfl).2⟩, ⟨A5, c5, rfl, (m5 rfl).1, (m5 rfl).2⟩⟩
theorem mark_LF {w : World} {A : Option Addr} {l : List S41} (h : Kd.C kLF w A (l.length + 1) (l.map (fun x => (x, true)) ++ [markFn])) : ∃ ad, A = some ad ∧ w.cell? ⟨(ad.add (l.length * 6)).block, (ad.add (l.length * 6)).off + 4, none⟩ = some (.int .i64 (-71)) := by
 obtain ⟨ad, c, e, _, hK, hc0⟩ := Kd.C_get h markFn (l.length : Int) (by omega) (by omega)
 rw [Int.toNat_natCast] at hK hc0
 have he : (l.map (fun x => (x, true)) ++ [markFn]).getD l.length markFn = markFn := by
  rw [List.getD_eq_getElem?_getD, List.getElem?_append_right (by simp)]
  simp
 rw [he] at hK
 have hc : ∀ j u, c[j]? = some u → w.cell? (ad.add (l.length * 6 + j)) = some u := hc0
 obtain ⟨_, _, rfl, h0, ⟨_, _, rfl, ⟨A1, c1, e1, l1, g1, m1⟩, ⟨_, _, rfl, ⟨A2, c2, e2, l2, g2, m2⟩, ⟨_, _, rfl, h3, ⟨_, _, rfl, h4, ⟨A5, c5, e5, l5, g5, m5⟩⟩⟩⟩⟩⟩ := hK
 have h0' : _ = [Value.int .u64 0] := h0
 have h3' : _ = [Value.int .i64 0] := h3
 have h4' : _ = [Value.int .i64 (-71)] := h4
 subst h0' h3' h4' e1 e2 e5
 exact ⟨ad, e, by rw [← add_field _ _ 4 (by omega)]; exact hc 4 _ rfl⟩
def LentM (w : World) (v : Value) (l0 : List Int) (l1 : List S38) (l2 : List Int) (l3 : List S41) : Prop := ∃ B0 d0 B1 d1 B2 d2 B3 d3, v = .agg #[.slice B0 l0.length d0, .slice B1 l1.length d1, .slice B2 l2.length d2, .slice B3 l3.length d3] ∧
 (l0.length + 1 ≤ d0 ∧ Kd.C (Kd.int .u64) w B0 (l0 ++ [7171]).length (l0 ++ [7171])) ∧ (l1.length + 1 ≤ d1 ∧ Kd.C k38 w B1 (l1 ++ [(⟨-71, 0⟩ : S38)]).length (l1 ++ [⟨-71, 0⟩])) ∧ (l2.length + 1 ≤ d2 ∧ Kd.C (Kd.int .u64) w B2 (l2 ++ [7171]).length (l2 ++ [7171])) ∧ (l3.length + 1 ≤ d3 ∧ Kd.C kLF w B3 (l3.length + 1) (l3.map (fun x => (x, true)) ++ [markFn]))
theorem LentM.below {w w' : World} {v : Value} {l0 l2 : List Int} {l1 : List S38} {l3 : List S41} (h : LentM w v l0 l1 l2 l3) (hb : Below w.heap.size w w') : LentM w' v l0 l1 l2 l3 := by
 obtain ⟨B0, d0, B1, d1, B2, d2, B3, d3, e, h0, h1, h2, h3⟩ := h
 exact ⟨B0, d0, B1, d1, B2, d2, B3, d3, e, ⟨h0.1, Kd.C_below h0.2 hb⟩, ⟨h1.1, Kd.C_below h1.2 hb⟩, ⟨h2.1, Kd.C_below h2.2 hb⟩, ⟨h3.1, Kd.C_below h3.2 hb⟩⟩
theorem C_LF {w : World} {A : Option Addr} {l : List S41} (h : Kd.C kLF w A (l.length + 1) (l.map (fun x => (x, true)) ++ [markFn])) : Kd.C k41 w A l.length l := by
 refine ⟨rfl, by have := Kd.C_max h; omega, fun hp => ?_⟩
 obtain ⟨ad, e, hc⟩ := h.2.2 (by omega)
 refine ⟨ad, e, fun j p hj => ?_⟩
 have hjl := (List.getElem?_eq_some_iff.1 hj).1
 have hj2 : (l.map (fun x => (x, true)) ++ [markFn])[j]? = some (p, true) := by
  rw [List.getElem?_append_left (by simpa using hjl)]
  simp [hj]
 obtain ⟨c, h1, h2, h3⟩ := hc j _ hj2
 exact ⟨c, h1, LF_fn h2, h3⟩
theorem lentModC (A0 A1 A2 A3 : Option Addr) (c0 c1 c2 c3 : Nat) (l0 : List Int) (l1 : List S38) (l2 : List Int) (l3 : List S41) (w : World)
  (hr0 : Kd.C (Kd.int .u64) w A0 l0.length l0) (hr1 : Kd.C k38 w A1 l1.length l1) (hr2 : Kd.C (Kd.int .u64) w A2 l2.length l2) (hr3 : Kd.C k41 w A3 l3.length l3)
  (hs0 : (l0.length + 1) * 8 ≤ 140737488355328) (hs1 : (l1.length + 1) * 16 ≤ 140737488355328) (hs2 : (l2.length + 1) * 8 ≤ 140737488355328) (hs3 : (l3.length + 1) * 96 ≤ 140737488355328)
  (hsf : ∀ x ∈ l3, (x.f1.length + 1) * 8 ≤ 140737488355328 ∧ (x.f2.length + 1) * 8 ≤ 140737488355328 ∧ (x.f5.length + 1) * 16 ≤ 140737488355328) :
  Calls Tryd.prog 29 #[.agg #[.slice A0 l0.length c0, .slice A1 l1.length c1, .slice A2 l2.length c2, .slice A3 l3.length c3]] w fun e w' => ∃ v, e = .returned v ∧ LentM w' v l0 l1 l2 l3 ∧ Below w.heap.size w w' := by
 refine (louverkit_LentModule.calls A0 A1 A2 A3 c0 c1 c2 c3 l0 l1 l2 l3 w hr0 hr1 hr2 hr3 hs0 hs1 hs2 hs3 hsf).mono ?_
 rintro e w' ⟨v0, v1, v2, v3, rfl, h0, h1, h2, h3, hb⟩
 obtain ⟨B0, d0, rfl, p0, q0⟩ := h0.toC
 obtain ⟨B1, d1, rfl, p1, q1⟩ := h1.toC
 obtain ⟨B2, d2, rfl, p2, q2⟩ := h2.toC
 obtain ⟨B3, d3, rfl, p3, q3⟩ := h3.toC
 exact ⟨_, rfl, ⟨B0, d0, B1, d1, B2, d2, B3, d3, rfl, ⟨p0, q0⟩, ⟨p1, q1⟩, ⟨p2, q2⟩, ⟨p3, q3⟩⟩, hb⟩
set_option maxHeartbeats 16000000 in
set_option maxRecDepth 100000 in
theorem louverkit_KeptModuleC.calls (v : Value) (A0 A1 A2 A3 : Option Addr) (c0 c1 c2 c3 : Nat) (l0 : List Int) (l1 : List S38) (l2 : List Int) (l3 : List S41) (w : World) (hL : LentM w v l0 l1 l2 l3)
  (hr0 : Kd.C (Kd.int .u64) w A0 l0.length l0) (hc0 : l0.length ≤ c0) (hr1 : Kd.C k38 w A1 l1.length l1) (hc1 : l1.length ≤ c1) (hr2 : Kd.C (Kd.int .u64) w A2 l2.length l2) (hc2 : l2.length ≤ c2) (hr3 : Kd.C k41 w A3 l3.length l3) (hc3 : l3.length ≤ c3) :
  Calls Tryd.prog 32 #[v, .agg #[.slice A0 l0.length c0, .slice A1 l1.length c1, .slice A2 l2.length c2, .slice A3 l3.length c3]] w fun e w' => e = .returned (.bool true) ∧ Below w.heap.size w w' := by
 obtain ⟨B0, d0, B1, d1, B2, d2, B3, d3, rfl, ⟨p0, q0⟩, ⟨p1, q1⟩, ⟨p2, q2⟩, ⟨p3, q3⟩⟩ := hL
 have hm1 : l1.length ≤ 9223372036854775806 := by have := Kd.C_max q1; simp at this; omega
 have hm3 : l3.length ≤ 9223372036854775806 := by have := Kd.C_max q3; omega
 have Zp0 := Aside0.mk p0
 have Zq0 := Aside0.mk q0
 have Zp1 := Aside0.mk p1
 have Zq1 := Aside0.mk q1
 have Zp2 := Aside0.mk p2
 have Zq2 := Aside0.mk q2
 have Zp3 := Aside0.mk p3
 have Zq3 := Aside0.mk q3
 have Zhr0 := Aside0.mk hr0
 have Zhc0 := Aside0.mk hc0
 have Zhr1 := Aside0.mk hr1
 have Zhc1 := Aside0.mk hc1
 have Zhr2 := Aside0.mk hr2
 have Zhc2 := Aside0.mk hc2
 have Zhr3 := Aside0.mk hr3
 have Zhc3 := Aside0.mk hc3
 have Zhm1 := Aside0.mk hm1
 have Zhm3 := Aside0.mk hm3
 clear p0 q0 p1 q1 p2 q2 p3 q3 hr0 hc0 hr1 hc1 hr2 hc2 hr3 hc3 hm1 hm3
 have HB := Aside0.mk (below_alloc (below_alloc (Below.refl w.heap.size w) (.cells #[.slice B0 l0.length d0, .slice B1 l1.length d1, .slice B2 l2.length d2, .slice B3 l3.length d3] 26)) (.cells #[.slice A0 l0.length c0, .slice A1 l1.length c1, .slice A2 l2.length c2, .slice A3 l3.length c3] 26))
 have HG1 := Aside0.mk (blk_alloc (heap_alloc_new w (.cells #[.slice B0 l0.length d0, .slice B1 l1.length d1, .slice B2 l2.length d2, .slice B3 l3.length d3] 26)) (.cells #[.slice A0 l0.length c0, .slice A1 l1.length c1, .slice A2 l2.length c2, .slice A3 l3.length c3] 26))
 have HG2 := Aside0.mk (show ((w.alloc (.cells #[.slice B0 l0.length d0, .slice B1 l1.length d1, .slice B2 l2.length d2, .slice B3 l3.length d3] 26)).alloc (.cells #[.slice A0 l0.length c0, .slice A1 l1.length c1, .slice A2 l2.length c2, .slice A3 l3.length c3] 26)).heap[w.heap.size + 1]? = some (.cells #[.slice A0 l0.length c0, .slice A1 l1.length c1, .slice A2 l2.length c2, .slice A3 l3.length c3] 26 (0, 0)) by
  have := heap_alloc_new (w.alloc (.cells #[.slice B0 l0.length d0, .slice B1 l1.length d1, .slice B2 l2.length d2, .slice B3 l3.length d3] 26)) (.cells #[.slice A0 l0.length c0, .slice A1 l1.length c1, .slice A2 l2.length c2, .slice A3 l3.length c3] 26)
  simpa using this)
 obtain ⟨⟨a0, a1, a2, a3⟩, _⟩ := lf4 HG1.out
 obtain ⟨⟨b0, b1, b2, b3⟩, _⟩ := lf4 HG2.out
 go_enter Tryd.func32, Tryd.ntmps32
 go_wp2_with fail
 refine (louverkit_KeptLabelsC.calls (.slice B0 l0.length d0) l0 A0 c0 _ ⟨B0, d0, rfl, Zp0.out, Kd.C_below Zq0.out HB.out⟩ (Kd.C_below Zhr0.out HB.out) Zhc0.out).mono ?_
 rintro e w1 ⟨rfl, hd⟩
 have hb := hd.below
 clear a0 a1 a2 a3 b0 b1 b2 b3
 replace HG1 := Aside0.mk (blk_below HG1.out hb)
 replace HG2 := Aside0.mk (blk_below HG2.out hb)
 replace HB := Aside0.mk (below_step HB.out hb)
 clear hb hd
 obtain ⟨⟨a0, a1, a2, a3⟩, _⟩ := lf4 HG1.out
 obtain ⟨⟨b0, b1, b2, b3⟩, _⟩ := lf4 HG2.out
 go_wp2_with fail
 refine (louverkit_KeptLabelsC.calls (.slice B2 l2.length d2) l2 A2 c2 _ ⟨B2, d2, rfl, Zp2.out, Kd.C_below Zq2.out HB.out⟩ (Kd.C_below Zhr2.out HB.out) Zhc2.out).mono ?_
 rintro e w1 ⟨rfl, hd⟩
 have hb := hd.below
 clear a0 a1 a2 a3 b0 b1 b2 b3
 replace HG1 := Aside0.mk (blk_below HG1.out hb)
 replace HG2 := Aside0.mk (blk_below HG2.out hb)
 replace HB := Aside0.mk (below_step HB.out hb)
 clear hb hd
 obtain ⟨⟨a0, a1, a2, a3⟩, _⟩ := lf4 HG1.out
 obtain ⟨⟨b0, b1, b2, b3⟩, _⟩ := lf4 HG2.out
 go_wp2_with fail
 clear a0 a1 a2 a3 b0 b1 b2 b3
 go_loopg [5] (l1.length + 1) (fun kq v5 w' => ∃ (i : Nat), v5 = .int .i64 (i : Int) ∧ Aside0 (i + kq = l1.length + 1) ∧ Aside0 (1 ≤ kq) ∧ Aside0 (w'.heap[w.heap.size]? = some (.cells #[.slice B0 l0.length d0, .slice B1 l1.length d1, .slice B2 l2.length d2, .slice B3 l3.length d3] 26 (0, 0))) ∧ Aside0 (w'.heap[w.heap.size + 1]? = some (.cells #[.slice A0 l0.length c0, .slice A1 l1.length c1, .slice A2 l2.length c2, .slice A3 l3.length c3] 26 (0, 0))) ∧ Aside0 (Below w.heap.size w w'))
 case atStart => exact ⟨0, rfl, ⟨by omega⟩, ⟨by omega⟩, HG1, HG2, HB⟩
 case round =>
  clear HG1 HG2 HB
  obtain ⟨i, rfl, HI, HI1, HG1, HG2, HB⟩ := hrel
  obtain ⟨⟨a0, a1, a2, a3⟩, _⟩ := lf4 HG1.out
  obtain ⟨⟨b0, b1, b2, b3⟩, _⟩ := lf4 HG2.out
  cases gk with
  | zero => exact absurd HI1.out (by omega)
  | succ k1 =>
   by_cases ci : i < l1.length
   ·
    have cib : decide ((i : Int) < (l1.length : Int)) = true := decide_eq_true (by omega)
    have hii : (i : Int) < (l1.length : Int) := by omega
    have hw2 : wrap64 ((i : Int) + 1) = (i : Int) + 1 := by have := Zhm1.out; unfold wrap64; omega
    obtain ⟨ad, hA, x0, x1⟩ := at_T38 (Kd.C_below Zhr1.out HB.out) (i : Int) (by omega) hii
    subst hA
    obtain ⟨bd, hA, y0, y1⟩ := at_T38 (Kd.C_below (lentC_reads Zq1.out) HB.out) (i : Int) (by omega) hii
    subst hA
    rw [Int.toNat_natCast] at x0 x1 y0 y1
    obtain ⟨x, hx⟩ : ∃ x, rd_T38 l1 (i : Int) = x := ⟨_, rfl⟩
    rw [hx] at x0 x1 y0 y1
    clear hx
    have heq : ∀ W : World, (Op.equalIn 10000 38 (.agg #[.int .i64 x.f0, .int .u64 x.f1]) (.agg #[.int .i64 x.f0, .int .u64 x.f1])).run Tryd.prog W = .ok true W := fun W => by
     have := keptEqA 9998 W x.f0 x.f0 x.f1 x.f1
     simpa using this
    go_wp2_with fail
    refine start_ (n := 11) (S := fun w' => w'.cell? ⟨w.heap.size, 1, none⟩ = some (.slice (some bd) l1.length d1) ∧ w'.cell? ⟨w.heap.size + 1, 1, none⟩ = some (.slice (some ad) l1.length c1) ∧ w'.cell? (bd.add (i * 2)) = some (.int .i64 x.f0) ∧ w'.cell? ⟨(bd.add (i * 2)).block, (bd.add (i * 2)).off + 1, none⟩ = some (.int .u64 x.f1) ∧ w'.cell? (ad.add (i * 2)) = some (.int .i64 x.f0) ∧ w'.cell? ⟨(ad.add (i * 2)).block, (ad.add (i * 2)).off + 1, none⟩ = some (.int .u64 x.f1)) (ds := []) #[false, false, false, false, false, false, false, false, false, false, false] (by kernel_rfl) rfl rfl ⟨a1, b1, y0, y1, x0, x1⟩ (fun hHeld => ?_)
    refine pure_ (i := 0) (N := some 48) (v := ?_) (a' := ?_) #[true, false, false, false, false, false, false, false, false, false, false] rfl rfl (by kernel_rfl) (fun _ _ _ h => h) (Or.inl ⟨by rfl, ?_⟩) ?_ ?_
    rotate_left
    ·
     intro w'
     go_simp
     with_reducible rfl
    rotate_left
    ·
     simp only [Act.put, List.setIfInBounds_toArray, List.set_cons_zero, List.set_cons_succ, i64_w, i32_w]
     rfl
    refine pure_ (i := 2) (N := some 50) (v := ?_) (a' := ?_) #[true, false, true, false, false, false, false, false, false, false, false] rfl rfl (by kernel_rfl) (fun _ _ _ h => h) (Or.inl ⟨by rfl, ?_⟩) ?_ ?_
    rotate_left
    ·
     intro w'
     go_simp
     with_reducible rfl
    rotate_left
    ·
     simp only [Act.put, List.setIfInBounds_toArray, List.set_cons_zero, List.set_cons_succ, i64_w, i32_w]
     rfl
    refine pure_ (i := 5) (N := some 53) (v := ?_) (a' := ?_) #[true, false, true, false, false, true, false, false, false, false, false] rfl rfl (by kernel_rfl) (fun _ _ _ h => h) (Or.inl ⟨by rfl, ?_⟩) ?_ ?_
    rotate_left
    ·
     intro w'
     go_simp
     with_reducible rfl
    rotate_left
    ·
     simp only [Act.put, List.setIfInBounds_toArray, List.set_cons_zero, List.set_cons_succ, i64_w, i32_w]
     rfl
    refine pure_ (i := 7) (N := some 55) (v := ?_) (a' := ?_) #[true, false, true, false, false, true, false, true, false, false, false] rfl rfl (by kernel_rfl) (fun _ _ _ h => h) (Or.inl ⟨by rfl, ?_⟩) ?_ ?_
    rotate_left
    ·
     intro w'
     go_simp
     with_reducible rfl
    rotate_left
    ·
     simp only [Act.put, List.setIfInBounds_toArray, List.set_cons_zero, List.set_cons_succ, i64_w, i32_w]
     rfl
    refine take_ (i := 1) (N := some 49) (v := ?_) (a' := ?_) #[true, true, true, false, false, true, false, true, false, false, false] rfl rfl (by kernel_rfl) (fun _ _ _ h => h) (Or.inl ⟨by rfl, ?_⟩) hHeld ?_ ?_
    rotate_left
    ·
     rintro w' ⟨s0, s1, s2, s3, s4, s5⟩
     go_simp
     with_reducible rfl
    rotate_left
    ·
     simp only [Act.put, List.setIfInBounds_toArray, List.set_cons_zero, List.set_cons_succ, i64_w, i32_w]
     rfl
    refine pure_ (i := 3) (N := some 51) (v := ?_) (a' := ?_) #[true, true, true, true, false, true, false, true, false, false, false] rfl rfl (by kernel_rfl) (fun _ _ _ h => h) (Or.inl ⟨by rfl, ?_⟩) ?_ ?_
    rotate_left
    ·
     intro w'
     go_simp
     with_reducible rfl
    rotate_left
    ·
     simp only [Act.put, List.setIfInBounds_toArray, List.set_cons_zero, List.set_cons_succ, i64_w, i32_w]
     rfl
    refine take_ (i := 4) (N := some 52) (v := ?_) (a' := ?_) #[true, true, true, true, true, true, false, true, false, false, false] rfl rfl (by kernel_rfl) (fun _ _ _ h => h) (Or.inl ⟨by rfl, ?_⟩) hHeld ?_ ?_
    rotate_left
    ·
     rintro w' ⟨s0, s1, s2, s3, s4, s5⟩
     go_simp
     with_reducible rfl
    rotate_left
    ·
     simp only [Act.put, List.setIfInBounds_toArray, List.set_cons_zero, List.set_cons_succ, i64_w, i32_w]
     rfl
    refine take_ (i := 6) (N := some 54) (v := ?_) (a' := ?_) #[true, true, true, true, true, true, true, true, false, false, false] rfl rfl (by kernel_rfl) (fun _ _ _ h => h) (Or.inl ⟨by rfl, ?_⟩) hHeld ?_ ?_
    rotate_left
    ·
     rintro w' ⟨s0, s1, s2, s3, s4, s5⟩
     go_simp
     with_reducible rfl
    rotate_left
    ·
     simp only [Act.put, List.setIfInBounds_toArray, List.set_cons_zero, List.set_cons_succ, i64_w, i32_w]
     rfl
    refine pure_ (i := 8) (N := some 56) (v := ?_) (a' := ?_) #[true, true, true, true, true, true, true, true, true, false, false] rfl rfl (by kernel_rfl) (fun _ _ _ h => h) (Or.inl ⟨by rfl, ?_⟩) ?_ ?_
    rotate_left
    ·
     intro w'
     go_simp
     with_reducible rfl
    rotate_left
    ·
     simp only [Act.put, List.setIfInBounds_toArray, List.set_cons_zero, List.set_cons_succ, i64_w, i32_w]
     rfl
    refine take_ (i := 9) (N := some 57) (v := ?_) (a' := ?_) #[true, true, true, true, true, true, true, true, true, true, false] rfl rfl (by kernel_rfl) (fun _ _ _ h => h) (Or.inl ⟨by rfl, ?_⟩) hHeld ?_ ?_
    rotate_left
    ·
     rintro w' ⟨s0, s1, s2, s3, s4, s5⟩
     go_simp
     with_reducible rfl
    rotate_left
    ·
     simp only [Act.put, List.setIfInBounds_toArray, List.set_cons_zero, List.set_cons_succ, i64_w, i32_w]
     rfl
    refine pure_ (i := 10) (N := some 58) (v := ?_) (a' := ?_) #[true, true, true, true, true, true, true, true, true, true, true] rfl rfl (by kernel_rfl) (fun _ _ _ h => h) (Or.inl ⟨by rfl, ?_⟩) ?_ ?_
    rotate_left
    ·
     intro w'
     go_simp
     with_reducible rfl
    rotate_left
    ·
     simp only [Act.put, List.setIfInBounds_toArray, List.set_cons_zero, List.set_cons_succ, i64_w, i32_w]
     rfl
    refine done_ (by kernel_rfl) ?_
    go_wp2
    go_roundg k1
    case measure => omega
    case rel => exact ⟨i + 1, by simp [hw2], ⟨by have := HI.out; omega⟩, ⟨by have := HI.out; omega⟩, HG1, HG2, ⟨below_drew1 HB.out⟩⟩
   ·
    have cib : decide ((i : Int) < (l1.length : Int)) = false := decide_eq_false (by omega)
    clear HI HI1
    go_wp2
    clear a0 a1 a2 a3 b0 b1 b2 b3
    go_loopg [6] (l3.length + 1) (fun kq v6 w' => ∃ (i : Nat), v6 = .int .i64 (i : Int) ∧ Aside0 (i + kq = l3.length + 1) ∧ Aside0 (1 ≤ kq) ∧ Aside0 (w'.heap[w.heap.size]? = some (.cells #[.slice B0 l0.length d0, .slice B1 l1.length d1, .slice B2 l2.length d2, .slice B3 l3.length d3] 26 (0, 0))) ∧ Aside0 (w'.heap[w.heap.size + 1]? = some (.cells #[.slice A0 l0.length c0, .slice A1 l1.length c1, .slice A2 l2.length c2, .slice A3 l3.length c3] 26 (0, 0))) ∧ Aside0 (Below w.heap.size w w'))
    case atStart => exact ⟨0, rfl, ⟨by omega⟩, ⟨by omega⟩, HG1, HG2, HB⟩
    case round =>
     clear HG1 HG2 HB
     obtain ⟨i, rfl, HI, HI1, HG1, HG2, HB⟩ := hrel
     obtain ⟨⟨a0, a1, a2, a3⟩, _⟩ := lf4 HG1.out
     obtain ⟨⟨b0, b1, b2, b3⟩, _⟩ := lf4 HG2.out
     cases gk with
     | zero => exact absurd HI1.out (by omega)
     | succ k1 =>
      by_cases ci : i < l3.length
      ·
       have cib : decide ((i : Int) < (l3.length : Int)) = true := decide_eq_true (by omega)
       have hii : (i : Int) < (l3.length : Int) := by omega
       have hw2 : wrap64 ((i : Int) + 1) = (i : Int) + 1 := by have := Zhm3.out; unfold wrap64; omega
       obtain ⟨wi, hwi⟩ : ∃ wi : World, wi = wr := ⟨_, rfl⟩
       rw [← hwi] at HG1 HG2 HB a0 a1 a2 a3 b0 b1 b2 b3 ⊢
       clear hwi
       obtain ⟨ad, E1, e1, E2, e2, E5, e5, hA, x0, x1, x2, x3, x4, x5, o1, g1, o2, g2, o5, g5⟩ := at_T41 (Kd.C_below Zhr3.out HB.out) (i : Int) (by omega) hii
       subst hA
       rw [Int.toNat_natCast] at x0 x1 x2 x3 x4 x5
       obtain ⟨x, hx⟩ : ∃ x, rd_T41 l3 (i : Int) = x := ⟨_, rfl⟩
       rw [hx] at x0 x1 x2 x3 x4 x5 o1 g1 o2 g2 o5 g5
       have hxl : l3[i] = x := by rw [← hx]; simp [rd_T41, List.getD_eq_getElem?_getD, ci]
       obtain ⟨bd, F1, f1, F2, f2, F5, f5, hA, y0, y1, y2, y3, y4, y5, k1_, k2_, k5_⟩ := at_LF (Kd.C_below Zq3.out HB.out) i ci x hxl
       subst hA
       clear hx hxl
       have G1 := Aside0.mk g1
       have G2 := Aside0.mk g2
       have G5 := Aside0.mk g5
       have O1 := Aside0.mk o1
       have O2 := Aside0.mk o2
       have O5 := Aside0.mk o5
       have K1 := Aside0.mk k1_
       have K2 := Aside0.mk k2_
       have K5 := Aside0.mk k5_
       clear g1 g2 g5 o1 o2 o5 k1_ k2_ k5_
       go_wp2_with fail
       refine start_ (n := 12) (S := fun w' => w'.cell? ⟨w.heap.size, 3, none⟩ = some (.slice (some bd) l3.length d3) ∧ w'.cell? ⟨w.heap.size + 1, 3, none⟩ = some (.slice (some ad) l3.length c3) ∧ w'.cell? (bd.add (i * 6)) = some (.int .u64 x.f0) ∧ w'.cell? ⟨(bd.add (i * 6)).block, (bd.add (i * 6)).off + 1, none⟩ = some (.slice F1 x.f1.length f1) ∧ w'.cell? ⟨(bd.add (i * 6)).block, (bd.add (i * 6)).off + 2, none⟩ = some (.slice F2 x.f2.length f2) ∧ w'.cell? ⟨(bd.add (i * 6)).block, (bd.add (i * 6)).off + 3, none⟩ = some (.int .i64 x.f3) ∧ w'.cell? ⟨(bd.add (i * 6)).block, (bd.add (i * 6)).off + 4, none⟩ = some (.int .i64 x.f4) ∧ w'.cell? ⟨(bd.add (i * 6)).block, (bd.add (i * 6)).off + 5, none⟩ = some (.slice F5 x.f5.length f5) ∧ w'.cell? (ad.add (i * 6)) = some (.int .u64 x.f0) ∧ w'.cell? ⟨(ad.add (i * 6)).block, (ad.add (i * 6)).off + 1, none⟩ = some (.slice E1 x.f1.length e1) ∧ w'.cell? ⟨(ad.add (i * 6)).block, (ad.add (i * 6)).off + 2, none⟩ = some (.slice E2 x.f2.length e2) ∧ w'.cell? ⟨(ad.add (i * 6)).block, (ad.add (i * 6)).off + 3, none⟩ = some (.int .i64 x.f3) ∧ w'.cell? ⟨(ad.add (i * 6)).block, (ad.add (i * 6)).off + 4, none⟩ = some (.int .i64 x.f4) ∧ w'.cell? ⟨(ad.add (i * 6)).block, (ad.add (i * 6)).off + 5, none⟩ = some (.slice E5 x.f5.length e5)) (ds := []) #[false, false, false, false, false, false, false, false, false, false, false, false] (by kernel_rfl) rfl rfl ⟨a3, b3, y0, y1, y2, y3, y4, y5, x0, x1, x2, x3, x4, x5⟩ (fun hHeld => ?_)
       refine pure_ (i := 0) (N := some 66) (v := ?_) (a' := ?_) #[true, false, false, false, false, false, false, false, false, false, false, false] rfl rfl (by kernel_rfl) (fun _ _ _ h => h) (Or.inl ⟨by rfl, ?_⟩) ?_ ?_
       rotate_left
       ·
        intro w'
        go_simp
        with_reducible rfl
       rotate_left
       ·
        simp only [Act.put, List.setIfInBounds_toArray, List.set_cons_zero, List.set_cons_succ, i64_w, i32_w]
        rfl
       refine pure_ (i := 2) (N := some 68) (v := ?_) (a' := ?_) #[true, false, true, false, false, false, false, false, false, false, false, false] rfl rfl (by kernel_rfl) (fun _ _ _ h => h) (Or.inl ⟨by rfl, ?_⟩) ?_ ?_
       rotate_left
       ·
        intro w'
        go_simp
        with_reducible rfl
       rotate_left
       ·
        simp only [Act.put, List.setIfInBounds_toArray, List.set_cons_zero, List.set_cons_succ, i64_w, i32_w]
        rfl
       refine pure_ (i := 5) (N := some 71) (v := ?_) (a' := ?_) #[true, false, true, false, false, true, false, false, false, false, false, false] rfl rfl (by kernel_rfl) (fun _ _ _ h => h) (Or.inl ⟨by rfl, ?_⟩) ?_ ?_
       rotate_left
       ·
        intro w'
        go_simp
        with_reducible rfl
       rotate_left
       ·
        simp only [Act.put, List.setIfInBounds_toArray, List.set_cons_zero, List.set_cons_succ, i64_w, i32_w]
        rfl
       refine pure_ (i := 7) (N := some 73) (v := ?_) (a' := ?_) #[true, false, true, false, false, true, false, true, false, false, false, false] rfl rfl (by kernel_rfl) (fun _ _ _ h => h) (Or.inl ⟨by rfl, ?_⟩) ?_ ?_
       rotate_left
       ·
        intro w'
        go_simp
        with_reducible rfl
       rotate_left
       ·
        simp only [Act.put, List.setIfInBounds_toArray, List.set_cons_zero, List.set_cons_succ, i64_w, i32_w]
        rfl
       refine take_ (i := 1) (N := some 67) (v := ?_) (a' := ?_) #[true, true, true, false, false, true, false, true, false, false, false, false] rfl rfl (by kernel_rfl) (fun _ _ _ h => h) (Or.inl ⟨by rfl, ?_⟩) hHeld ?_ ?_
       rotate_left
       ·
        rintro w' ⟨s0, s1, s2, s3, s4, s5, s6, s7, s8, s9, s10, s11, s12, s13⟩
        go_simp
        with_reducible rfl
       rotate_left
       ·
        simp only [Act.put, List.setIfInBounds_toArray, List.set_cons_zero, List.set_cons_succ, i64_w, i32_w]
        rfl
       refine pure_ (i := 3) (N := some 69) (v := ?_) (a' := ?_) #[true, true, true, true, false, true, false, true, false, false, false, false] rfl rfl (by kernel_rfl) (fun _ _ _ h => h) (Or.inl ⟨by rfl, ?_⟩) ?_ ?_
       rotate_left
       ·
        intro w'
        go_simp
        with_reducible rfl
       rotate_left
       ·
        simp only [Act.put, List.setIfInBounds_toArray, List.set_cons_zero, List.set_cons_succ, i64_w, i32_w]
        rfl
       refine take_ (i := 4) (N := some 70) (v := ?_) (a' := ?_) #[true, true, true, true, true, true, false, true, false, false, false, false] rfl rfl (by kernel_rfl) (fun _ _ _ h => h) (Or.inl ⟨by rfl, ?_⟩) hHeld ?_ ?_
       rotate_left
       ·
        rintro w' ⟨s0, s1, s2, s3, s4, s5, s6, s7, s8, s9, s10, s11, s12, s13⟩
        go_simp
        with_reducible rfl
       rotate_left
       ·
        simp only [Act.put, List.setIfInBounds_toArray, List.set_cons_zero, List.set_cons_succ, i64_w, i32_w]
        rfl
       refine take_ (i := 6) (N := some 72) (v := ?_) (a' := ?_) #[true, true, true, true, true, true, true, true, false, false, false, false] rfl rfl (by kernel_rfl) (fun _ _ _ h => h) (Or.inl ⟨by rfl, ?_⟩) hHeld ?_ ?_
       rotate_left
       ·
        rintro w' ⟨s0, s1, s2, s3, s4, s5, s6, s7, s8, s9, s10, s11, s12, s13⟩
        go_simp
        with_reducible rfl
       rotate_left
       ·
        simp only [Act.put, List.setIfInBounds_toArray, List.set_cons_zero, List.set_cons_succ, i64_w, i32_w]
        rfl
       refine pure_ (i := 8) (N := some 74) (v := ?_) (a' := ?_) #[true, true, true, true, true, true, true, true, true, false, false, false] rfl rfl (by kernel_rfl) (fun _ _ _ h => h) (Or.inl ⟨by rfl, ?_⟩) ?_ ?_
       rotate_left
       ·
        intro w'
        go_simp
        with_reducible rfl
       rotate_left
       ·
        simp only [Act.put, List.setIfInBounds_toArray, List.set_cons_zero, List.set_cons_succ, i64_w, i32_w]
        rfl
       refine take_ (i := 9) (N := some 75) (v := ?_) (a' := ?_) #[true, true, true, true, true, true, true, true, true, true, false, false] rfl rfl (by kernel_rfl) (fun _ _ _ h => h) (Or.inl ⟨by rfl, ?_⟩) hHeld ?_ ?_
       rotate_left
       ·
        rintro w' ⟨s0, s1, s2, s3, s4, s5, s6, s7, s8, s9, s10, s11, s12, s13⟩
        go_simp
        with_reducible rfl
       rotate_left
       ·
        simp only [Act.put, List.setIfInBounds_toArray, List.set_cons_zero, List.set_cons_succ, i64_w, i32_w]
        rfl
       refine one_ (i := 10) (N := some 76) #[true, true, true, true, true, true, true, true, true, true, true, false] rfl rfl (by kernel_rfl) (by decide) (fun K hK => ?_)
       refine goes_ Tryd.func78 (by kernel_rfl) rfl #[.agg #[.int .u64 x.f0, .slice F1 x.f1.length f1, .slice F2 x.f2.length f2, .int .i64 x.f3, .int .i64 x.f4, .slice F5 x.f5.length f5], .agg #[.int .u64 x.f0, .slice E1 x.f1.length e1, .slice E2 x.f2.length e2, .int .i64 x.f3, .int .i64 x.f4, .slice E5 x.f5.length e5]] (by rfl) rfl rfl (by (try simp only [List.map_toArray, List.map_cons, List.map_nil]); first | done | rfl) ?_
       with_reducible refine (louverkit_KeptFunctionC.calls x.f0 x.f3 x.f4 (.slice F1 x.f1.length f1) (.slice F2 x.f2.length f2) (.slice F5 x.f5.length f5) E1 E2 E5 e1 e2 e5 x.f1 x.f2 x.f5 _ (K1.out.below (below_drew1 (Below.refl _ _))) (K2.out.below (below_drew1 (Below.refl _ _))) (K5.out.below (below_drew1 (Below.refl _ _))) (Kd.C_drew G1.out) O1.out (Kd.C_drew G2.out) O2.out (Kd.C_drew G5.out) O5.out).mono ?_
       rintro e wk ⟨rfl, hb⟩
       refine ⟨_, rfl, ?_⟩
       replace hb : Below wi.heap.size wi wk := ⟨hb.os, hb.tape, hb.output, hb.size, hb.block⟩
       have HBk := Aside0.mk hb
       refine hK.out _ _ ⟨(pw_cell_below hb hHeld.1), (pw_cell_below hb hHeld.2.1), (pw_cell_below hb hHeld.2.2.1), (pw_cell_below hb hHeld.2.2.2.1), (pw_cell_below hb hHeld.2.2.2.2.1), (pw_cell_below hb hHeld.2.2.2.2.2.1), (pw_cell_below hb hHeld.2.2.2.2.2.2.1), (pw_cell_below hb hHeld.2.2.2.2.2.2.2.1), (pw_cell_below hb hHeld.2.2.2.2.2.2.2.2.1), (pw_cell_below hb hHeld.2.2.2.2.2.2.2.2.2.1), (pw_cell_below hb hHeld.2.2.2.2.2.2.2.2.2.2.1), (pw_cell_below hb hHeld.2.2.2.2.2.2.2.2.2.2.2.1), (pw_cell_below hb hHeld.2.2.2.2.2.2.2.2.2.2.2.2.1), (pw_cell_below hb hHeld.2.2.2.2.2.2.2.2.2.2.2.2.2)⟩ (fun hHeld => ?_)
       clear hK K
       refine norm_ (a' := ?_) ?_ ?_
       rotate_left
       ·
        show Act.put _ (some 76) _ = _
        simp only [Act.put, List.setIfInBounds_toArray, List.set_cons_zero, List.set_cons_succ, i64_w, i32_w]
        rfl
       refine pure_ (i := 11) (N := some 77) (v := ?_) (a' := ?_) #[true, true, true, true, true, true, true, true, true, true, true, true] rfl rfl (by kernel_rfl) (fun _ _ _ h => h) (Or.inl ⟨by rfl, ?_⟩) ?_ ?_
       rotate_left
       ·
        intro w'
        go_simp
        with_reducible rfl
       rotate_left
       ·
        simp only [Act.put, List.setIfInBounds_toArray, List.set_cons_zero, List.set_cons_succ, i64_w, i32_w]
        rfl
       refine done_ (by kernel_rfl) ?_
       clear y0 y1 y2 y3 y4 y5 x0 x1 x2 x3 x4 x5
       go_wp2
       go_roundg k1
       case measure => omega
       case rel => exact ⟨i + 1, by simp [hw2], ⟨by have := HI.out; omega⟩, ⟨by have := HI.out; omega⟩, ⟨blk_below HG1.out HBk.out⟩, ⟨blk_below HG2.out HBk.out⟩, ⟨below_step HB.out HBk.out⟩⟩
      ·
       have cib : decide ((i : Int) < (l3.length : Int)) = false := decide_eq_false (by omega)
       clear HI HI1
       obtain ⟨bd, hA, y4⟩ := mark_LF (Kd.C_below Zq3.out HB.out)
       subst hA
       obtain ⟨ad, cs, hA, hK, hcell⟩ := lentC_mark (Kd.C_below Zq1.out HB.out)
       subst hA
       obtain rfl : cs = [.int .i64 (-71), .int .u64 0] := by
        obtain ⟨a, b, e, p, q⟩ := hK
        have p' : a = [.int .i64 (-71)] := p
        have q' : b = [.int .u64 0] := q
        rw [e, p', q']
        rfl
       have x0 : wr.cell? (ad.add (l1.length * 2)) = some (.int .i64 (-71)) := hcell 0 _ rfl
       have hw1 : wrap64 ((l1.length : Int) + 1) = (l1.length : Int) + 1 := by have := Zhm1.out; unfold wrap64; omega
       have hw3 : wrap64 ((l3.length : Int) + 1) = (l3.length : Int) + 1 := by have := Zhm3.out; unfold wrap64; omega
       obtain ⟨i09, hi09, _, hsz9, _⟩ := info_parts linfoA
       have hcutA := cut_up (P := Tryd.prog) 23 38 Tryd.underlying23 hi09 (some ad) l1.length d1 ((l1.length : Int) + 1) (by omega) (by have := Zp1.out; omega)
       obtain ⟨i08, hi08, _, hsz8, _⟩ := info_parts linfoF
       have hcutF := cut_up (P := Tryd.prog) 24 41 Tryd.underlying24 hi08 (some bd) l3.length d3 ((l3.length : Int) + 1) (by omega) (by have := Zp3.out; omega)
       clear hi09 hsz9 hi08 hsz8 hcell hK
       go_wp2
       go_ret
       exact ⟨rfl, HB.out⟩
end Go.Proofs.YtgpdaihfjnihhaaDoor.PJ
