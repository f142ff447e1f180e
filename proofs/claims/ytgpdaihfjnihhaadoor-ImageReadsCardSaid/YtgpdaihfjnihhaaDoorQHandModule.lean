/- image's reader: module, by hand: a deferred closure that recovers. -/
import Derived.Test.YtgpdaihfjnihhaaDoorQPJx0
import Derived.Defers
import Derived.Recover
import Derived.Test.YtgpdaihfjnihhaaDoorQHandRd12
namespace Go.Proofs.YtgpdaihfjnihhaaDoor.PJ
open Go.RowKit Go.Proofs.YtgpdaihfjnihhaaDoorW.PrintWords Go.Proofs.YtgpdaihfjnihhaaDoorW.PrintLast Go.Proofs.YtgpdaihfjnihhaaDoorW.PrintMore Go.Proofs.YtgpdaihfjnihhaaDoor.LebPure Go.Proofs.YtgpdaihfjnihhaaDoor.LebForm Go.Proofs.YtgpdaihfjnihhaaDoor.B64
set_option linter.unusedSimpArgs false
set_option linter.unusedVariables false
theorem facts4 {w : World} {g t : Nat} {a b c d : Value} (h : w.heap[g]? = some (.cells #[a, b, c, d] t (0, 0))) : (w.cell? ⟨g, 0, none⟩ = some a ∧ w.cell? ⟨g, 1, none⟩ = some b ∧ w.cell? ⟨g, 2, none⟩ = some c ∧ w.cell? ⟨g, 3, none⟩ = some d) ∧ w.frozen? ⟨g, 0, none⟩ = false ∧ w.frozen? ⟨g, 1, none⟩ = false ∧ w.frozen? ⟨g, 2, none⟩ = false ∧ w.frozen? ⟨g, 3, none⟩ = false :=
 ⟨⟨blk_cell h 0, blk_cell h 1, blk_cell h 2, blk_cell h 3⟩, blk_frozen h 0, blk_frozen h 1, blk_frozen h 2, blk_frozen h 3⟩
theorem put4 {w : World} {g t : Nat} {a b c d : Value} (h : w.heap[g]? = some (.cells #[a, b, c, d] t (0, 0))) (a' b' c' d' : Value) : ((((w.setCell ⟨g, 0, none⟩ a').setCell ⟨g, 1, none⟩ b').setCell ⟨g, 2, none⟩ c').setCell ⟨g, 3, none⟩ d').heap[g]? = some (.cells #[a', b', c', d'] t (0, 0)) :=
 blk_put (blk_put (blk_put (blk_put h 0 a' rfl) 1 b' rfl) 2 c' rfl) 3 d' rfl
def caught (w : World) (b b2 : Nat) : World := (((((w.alloc (.cells #[] 144)).setCell ⟨b, 0, none⟩ (.slice none 0 0)).setCell ⟨b, 1, none⟩ (.slice none 0 0)).setCell ⟨b, 2, none⟩ (.slice none 0 0)).setCell ⟨b, 3, none⟩ (.slice none 0 0)).setCell ⟨b2, 0, none⟩ (.int .i64 120)
set_option maxHeartbeats 8000000 in
set_option maxRecDepth 100000 in
theorem module_catch (b b2 : Nat) (s0 s1 s2 s3 s4 : Value) (older : List PanicEntry) (w : World) (hm : w.heap[b]? = some (.cells #[s0, s1, s2, s3] 26 (0, 0))) (he : w.heap[b2]? = some (.cells #[s4] 28 (0, 0))) (hne : b ≠ b2) :
  CallsD Tryd.prog 97 #[.pointer (some ⟨b, 0, none⟩), .pointer (some ⟨b2, 0, none⟩)] (.panicking ({ v := .iface 144 (.agg #[]), recovered := false } :: older)) w fun e u' w' =>
   e = .returned (.tuple #[]) ∧ u' = .panicking ({ v := .iface 144 (.agg #[]), recovered := true } :: older) ∧ w' = caught w b b2 := by
 have hbA := below_alloc (Below.refl w.heap.size w) (.cells #[] 144)
 have hm2 := blk_below hm hbA
 have he2 := blk_below he hbA
 have he3 : (((((w.alloc (.cells #[] 144)).setCell ⟨b, 0, none⟩ (.slice none 0 0)).setCell ⟨b, 1, none⟩ (.slice none 0 0)).setCell ⟨b, 2, none⟩ (.slice none 0 0)).setCell ⟨b, 3, none⟩ (.slice none 0 0)).heap[b2]? = some (.cells #[s4] 28 (0, 0)) := by
  repeat (rw [Below.heap_setCell _ _ _ b2 (Ne.symm hne)])
  exact he2
 obtain ⟨⟨a0, a1, a2, a3⟩, z0, z1, z2, z3⟩ := facts4 hm2
 have y0 := blk_cell he2 0
 have y1 := blk_frozen he2 0
 have y2 := blk_cell he3 0
 have y3 := blk_frozen he3 0
 simp only [List.getElem?_toArray, List.getElem?_cons_zero] at y0 y2
 clear hm he hm2 he2 he3 hbA
 refine callsD_of_wpS Tryd.func97 rfl fun c₀ cs hu => ?_
 apply wpS_seq
 apply wpS_region
 simp [wpOpsS, go_sem, recoverD, hu, Tryd.ntmps97, Exit.thenS]
 refine wpS_of_wp (show Code.wp _ _ _ { tmps := #[.pointer (some ⟨b, 0, none⟩), .pointer (some ⟨b2, 0, none⟩), .iface 144 (.agg #[]), undef, undef, .iface 144 (.agg #[]), undef, undef, undef, undef, undef, undef, undef, undef, undef, undef, undef], defers := [] } w from ?_)
 have hta : ∀ W : World, (Instr.typeAssert (.iface 144 (.agg #[])) 20 144 true).run Tryd.prog W = .ok (.tuple #[.agg #[], .bool true]) W := fun _ => rfl
 go_wp2
 simp [bodyPostS, results, Tryd.results97, caught]
set_option maxHeartbeats 8000000 in
set_option maxRecDepth 100000 in
theorem module_idle (b b2 : Nat) (w : World) :
  CallsD Tryd.prog 97 #[.pointer (some ⟨b, 0, none⟩), .pointer (some ⟨b2, 0, none⟩)] .returning w fun e u' w' => e = .returned (.tuple #[]) ∧ u' = .returning ∧ w' = w := by
 refine callsD_of_wpS Tryd.func97 rfl fun c₀ cs hu => ?_
 apply wpS_seq
 apply wpS_region
 simp [wpOpsS, go_sem, recoverD, hu, Tryd.ntmps97, Exit.thenS]
 refine wpS_of_wp (show Code.wp _ _ _ { tmps := #[.pointer (some ⟨b, 0, none⟩), .pointer (some ⟨b2, 0, none⟩), .nilIface, undef, undef, .nilIface, undef, undef, undef, undef, undef, undef, undef, undef, undef, undef, undef], defers := [] } w from ?_)
 go_wp2
 refine ⟨rfl, .returning, ?_, .tuple #[], ?_, rfl, rfl, rfl⟩
 ·
  rw [← hu]
 ·
  simp [results, Tryd.results97]
def ModOut (W : World) (lo hi : Nat) (v1 v2 v3 v4 : Value) (m : ModL) : Prop := ∃ a1 b1 a2 b2 a3 b3 a4 b4, lo ≤ a1 ∧ a1 ≤ b1 ∧ b1 ≤ a2 ∧ a2 ≤ b2 ∧ b2 ≤ a3 ∧ a3 ≤ b3 ∧ b3 ≤ a4 ∧ a4 ≤ b4 ∧ b4 ≤ hi ∧ ClipB (Kd.int .u64) 36 W a1 b1 v1 m.1 ∧ ClipB k38 38 W a2 b2 v2 m.2.1 ∧ ClipB (Kd.int .u64) 36 W a3 b3 v3 m.2.2.1 ∧ FnsOut W a4 b4 v4 m.2.2.2
theorem ModOut.move {W W' : World} {lo hi : Nat} {v1 v2 v3 v4 : Value} {m : ModL} (h : ModOut W lo hi v1 v2 v3 v4 m) (hm : ∀ k, lo ≤ k → k < hi → k < W.heap.size → W'.heap[k]? = W.heap[k]?) : ModOut W' lo hi v1 v2 v3 v4 m := by
 obtain ⟨a1, b1, a2, b2, a3, b3, a4, b4, p1, p2, p3, p4, p5, p6, p7, p8, p9, h1, h2, h3, h4⟩ := h
 exact ⟨a1, b1, a2, b2, a3, b3, a4, b4, p1, p2, p3, p4, p5, p6, p7, p8, p9, h1.move (fun k p q => hm k (by omega) (by omega)), h2.move (fun k p q => hm k (by omega) (by omega)), h3.move (fun k p q => hm k (by omega) (by omega)), h4.move (fun k p q => hm k (by omega) (by omega))⟩
theorem ModOut.wide {W : World} {lo lo' hi hi' : Nat} {v1 v2 v3 v4 : Value} {m : ModL} (h : ModOut W lo hi v1 v2 v3 v4 m) (h1 : lo' ≤ lo) (h2 : hi ≤ hi') : ModOut W lo' hi' v1 v2 v3 v4 m := by
 obtain ⟨a1, b1, a2, b2, a3, b3, a4, b4, p1, p2, p3, p4, p5, p6, p7, p8, p9, hh⟩ := h
 exact ⟨a1, b1, a2, b2, a3, b3, a4, b4, by omega, p2, p3, p4, p5, p6, p7, p8, by omega, hh⟩
theorem rdMod_parts {xs : List Int} {m : ModL} {r : List Int} (h : rdMod xs = some (m, r)) : ∃ r1 r2 r3, rdAll rdNum xs = some (m.1, r1) ∧ rdAll rdArr r1 = some (m.2.1, r2) ∧ rdAll rdNum r2 = some (m.2.2.1, r3) ∧ rdAll rdFn r3 = some (m.2.2.2, r) := by
 unfold rdMod at h
 obtain ⟨a, ha, h⟩ := Option.bind_eq_some_iff.1 h
 obtain ⟨b, hb, h⟩ := Option.bind_eq_some_iff.1 h
 obtain ⟨c, hc, h⟩ := Option.bind_eq_some_iff.1 h
 obtain ⟨d, hd, h⟩ := Option.map_eq_some_iff.1 h
 injection h with h1 h2
 subst h1 h2
 exact ⟨_, _, _, ha, hb, hc, hd⟩
theorem rdMod_none {xs : List Int} (h : rdMod xs = none) : rdAll rdNum xs = none ∨ ∃ a r1, rdAll rdNum xs = some (a, r1) ∧ (rdAll rdArr r1 = none ∨ ∃ b r2, rdAll rdArr r1 = some (b, r2) ∧ (rdAll rdNum r2 = none ∨ ∃ c r3, rdAll rdNum r2 = some (c, r3) ∧ rdAll rdFn r3 = none)) := by
 unfold rdMod at h
 cases h1 : rdAll rdNum xs with
 | none => exact .inl rfl
 | some p1 =>
  refine .inr ⟨p1.1, p1.2, rfl, ?_⟩
  rw [h1, Option.bind_some] at h
  cases h2 : rdAll rdArr p1.2 with
  | none => exact .inl rfl
  | some p2 =>
   refine .inr ⟨p2.1, p2.2, rfl, ?_⟩
   rw [h2, Option.bind_some] at h
   cases h3 : rdAll rdNum p2.2 with
   | none => exact .inl rfl
   | some p3 =>
    refine .inr ⟨p3.1, p3.2, rfl, ?_⟩
    rw [h3, Option.bind_some] at h
    simpa using h
theorem run_module_results {W : World} {b b2 : Nat} {s0 s1 s2 s3 s4 : Value} (tmps : Array Value) (h2 : tmps.getD 2 undef = .pointer (some ⟨b, 0, none⟩)) (h3 : tmps.getD 3 undef = .pointer (some ⟨b2, 0, none⟩)) (hm : W.heap[b]? = some (.cells #[s0, s1, s2, s3] 26 (0, 0))) (he : W.heap[b2]? = some (.cells #[s4] 28 (0, 0))) (hs : s4.oneCell' = true) :
  (results Tryd.f63 tmps).run Tryd.prog W = .ok (.tuple #[.agg #[s0, s1, s2, s3], s4]) W := by
 have hc := blk_cell he 0
 simp only [List.getElem?_toArray, List.getElem?_cons_zero] at hc
 have h2' : tmps[2]?.getD undef = .pointer (some ⟨b, 0, none⟩) := by simpa using h2
 have h3' : tmps[3]?.getD undef = .pointer (some ⟨b2, 0, none⟩) := by simpa using h3
 obtain ⟨⟨a0, a1, a2, a3⟩, _⟩ := facts4 hm
 simp [results, Tryd.results63, h2', h3', a0, a1, a2, a3, asAddr, run_loadVar_row W b 26 26 _ _ _ hm Tryd.underlying26 rfl (by kernel_rfl), go_sem, hc]
def stored (W : World) (b : Nat) (s0 s1 s2 s3 : Value) : World := (((W.setCell ⟨b, 0, none⟩ s0).setCell ⟨b, 1, none⟩ s1).setCell ⟨b, 2, none⟩ s2).setCell ⟨b, 3, none⟩ s3
theorem stored_far (W : World) (b : Nat) (s0 s1 s2 s3 : Value) (k : Nat) (hk : k ≠ b) : (stored W b s0 s1 s2 s3).heap[k]? = W.heap[k]? := by
 unfold stored
 repeat (rw [Below.heap_setCell _ _ _ k hk])
theorem Wrote.stored {w W : World} {q b : Nat} (h : Wrote (fun k => k = q) w W) (hb : w.heap.size ≤ b) (s0 s1 s2 s3 : Value) : Wrote (fun k => k = q) w (stored W b s0 s1 s2 s3) :=
 (((h.setNew hb _).setNew hb _).setNew hb _).setNew hb _
theorem stored_size (W : World) (b : Nat) (s0 s1 s2 s3 : Value) : (stored W b s0 s1 s2 s3).heap.size = W.heap.size := by simp [stored, World.setCell]
theorem caught_box {W : World} {b b2 : Nat} {s0 s1 s2 s3 s4 : Value} (hm : W.heap[b]? = some (.cells #[s0, s1, s2, s3] 26 (0, 0))) (he : W.heap[b2]? = some (.cells #[s4] 28 (0, 0))) (hne : b ≠ b2) : (caught W b b2).heap[b]? = some (.cells #[.slice none 0 0, .slice none 0 0, .slice none 0 0, .slice none 0 0] 26 (0, 0)) ∧ (caught W b b2).heap[b2]? = some (.cells #[.int .i64 120] 28 (0, 0)) := by
 have hbA := below_alloc (Below.refl W.heap.size W) (.cells #[] 144)
 have hm2 := put4 (blk_below hm hbA) (.slice none 0 0) (.slice none 0 0) (.slice none 0 0) (.slice none 0 0)
 have he2 := blk_below he hbA
 have he3 := (stored_far (W.alloc (.cells #[] 144)) b (.slice none 0 0) (.slice none 0 0) (.slice none 0 0) (.slice none 0 0) b2 (Ne.symm hne)).trans he2
 have h4 := blk_put he3 0 (.int .i64 120) rfl
 exact ⟨(Below.heap_setCell _ _ _ b hne).trans hm2, h4⟩
theorem Wrote.caught {w W : World} {q b b2 : Nat} (h : Wrote (fun k => k = q) w W) (hb : w.heap.size ≤ b) (hb2 : w.heap.size ≤ b2) : Wrote (fun k => k = q) w (caught W b b2) :=
 (((((h.below (below_alloc (Below.refl W.heap.size W) (.cells #[] 144))).setNew hb _).setNew hb _).setNew hb _).setNew hb _).setNew hb2 _
theorem leaves_wrong {R : Ending → World → Prop} {W : World} {b b2 : Nat} {s0 s1 s2 s3 s4 : Value} (tmps : Array Value) (h2 : tmps.getD 2 undef = .pointer (some ⟨b, 0, none⟩)) (h3 : tmps.getD 3 undef = .pointer (some ⟨b2, 0, none⟩)) (hm : W.heap[b]? = some (.cells #[s0, s1, s2, s3] 26 (0, 0))) (he : W.heap[b2]? = some (.cells #[s4] 28 (0, 0))) (hne : b ≠ b2)
  (hR : R (.returned (.tuple #[.agg #[.slice none 0 0, .slice none 0 0, .slice none 0 0, .slice none 0 0], .int .i64 120])) (caught W b b2)) : Leaves Tryd.prog Tryd.f63 tmps R [{ target := .fn (.func 97) #[.pointer (some ⟨b, 0, none⟩), .pointer (some ⟨b2, 0, none⟩)], args := #[] }] (.panicking wrongP) W := by
 refine leaves_cons (f := 97) (args := #[.pointer (some ⟨b, 0, none⟩), .pointer (some ⟨b2, 0, none⟩)]) (by simp) (by simp [go_sem]) ?_
 refine (module_catch b b2 s0 s1 s2 s3 s4 [] W hm he hne).mono ?_
 rintro e u' w'' ⟨rfl, rfl, rfl⟩
 obtain ⟨k1, k2⟩ := caught_box hm he hne
 exact ⟨_, run_module_results tmps h2 h3 k1 k2 rfl, hR⟩
theorem leaves_well {R : Ending → World → Prop} {W : World} {b b2 : Nat} {s0 s1 s2 s3 s4 : Value} (tmps : Array Value) (h2 : tmps.getD 2 undef = .pointer (some ⟨b, 0, none⟩)) (h3 : tmps.getD 3 undef = .pointer (some ⟨b2, 0, none⟩)) (hm : W.heap[b]? = some (.cells #[s0, s1, s2, s3] 26 (0, 0))) (he : W.heap[b2]? = some (.cells #[s4] 28 (0, 0))) (hs : s4.oneCell' = true)
  (hR : R (.returned (.tuple #[.agg #[s0, s1, s2, s3], s4])) W) : Leaves Tryd.prog Tryd.f63 tmps R [{ target := .fn (.func 97) #[.pointer (some ⟨b, 0, none⟩), .pointer (some ⟨b2, 0, none⟩)], args := #[] }] .returning W := by
 refine leaves_cons (f := 97) (args := #[.pointer (some ⟨b, 0, none⟩), .pointer (some ⟨b2, 0, none⟩)]) (by simp) (by simp [go_sem]) ?_
 refine (module_idle b b2 W).mono ?_
 rintro e u' w'' ⟨rfl, rfl, rfl⟩
 exact ⟨_, run_module_results tmps h2 h3 hm he hs, hR⟩
set_option maxHeartbeats 8000000 in
set_option maxRecDepth 100000 in
theorem module_no (q : Nat) (xs : List Int) (hr : rdMod xs = none) (w0 : World) (ht : Lib.TabIs Tryd.prog w0 "strings.asciiSpace" .u8 Lib.asciiSpaceTab) (w : World) (h : Rd w0 w q xs) :
  Calls Tryd.prog 63 #[.pointer (some ⟨q, 0, none⟩)] w fun e w' => e = .returned (.tuple #[.agg #[.slice none 0 0, .slice none 0 0, .slice none 0 0, .slice none 0 0], .int .i64 120]) ∧ Wrote (fun k => k = q) w w' := by
 have HN := Aside0.mk (rdMod_none hr)
 have hS1 : (w.alloc (.cells #[.slice none 0 0, .slice none 0 0, .slice none 0 0, .slice none 0 0] 26)).heap.size = w.heap.size + 1 := Array.size_push _
 have hb1 := below_alloc (Below.refl w.heap.size w) (.cells #[.slice none 0 0, .slice none 0 0, .slice none 0 0, .slice none 0 0] 26)
 have hb2 := below_alloc hb1 (.cells #[.int .i64 0] 28)
 have hg1 := blk_below (heap_alloc_new w (.cells #[.slice none 0 0, .slice none 0 0, .slice none 0 0, .slice none 0 0] 26)) (below_alloc (Below.refl (w.alloc (.cells #[.slice none 0 0, .slice none 0 0, .slice none 0 0, .slice none 0 0] 26)).heap.size (w.alloc (.cells #[.slice none 0 0, .slice none 0 0, .slice none 0 0, .slice none 0 0] 26))) (.cells #[.int .i64 0] 28))
 have hg2 := heap_alloc_new (w.alloc (.cells #[.slice none 0 0, .slice none 0 0, .slice none 0 0, .slice none 0 0] 26)) (.cells #[.int .i64 0] 28)
 rw [hS1] at hg2
 have HG := Aside0.mk (And.intro hg1 hg2)
 have HR := Aside0.mk (h.step hb2)
 have HQ := Aside0.mk (show q < w.heap.size from h.qlt)
 have HW := Aside0.mk ((Wrote.refl (fun k => k = q) w).below hb2)
 have HZ := Aside0.mk (show w.heap.size + 2 ≤ ((w.alloc (.cells #[.slice none 0 0, .slice none 0 0, .slice none 0 0, .slice none 0 0] 26)).alloc (.cells #[.int .i64 0] 28)).heap.size from Nat.le_of_eq (show w.heap.size + 2 = ((w.alloc (.cells #[.slice none 0 0, .slice none 0 0, .slice none 0 0, .slice none 0 0] 26)).alloc (.cells #[.int .i64 0] 28)).heap.size from (by rw [show ((w.alloc (.cells #[.slice none 0 0, .slice none 0 0, .slice none 0 0, .slice none 0 0] 26)).alloc (.cells #[.int .i64 0] 28)).heap.size = (w.alloc (.cells #[.slice none 0 0, .slice none 0 0, .slice none 0 0, .slice none 0 0] 26)).heap.size + 1 from Array.size_push _, hS1])))
 have HS0 := Aside0.mk h.below.size
 have HT := Aside0.mk ht
 have hmf := wr_makeFunc
 clear hS1 hb1 hb2 hg1 hg2 h ht
 clear hr
 go_enter_defers Tryd.func63, Tryd.ntmps63
 go_wp2_with fail
 rcases HN.out with hn | ⟨y1, r1, hy, hn⟩
 ·
  refine (all_Label_no q xs hn w0 _ HR.out).mono ?_
  rintro e w9 ⟨rfl, hW⟩
  have k1 := hW.keep HG.out.1 (by have := HQ.out; omega)
  have k2 := hW.keep HG.out.2 (by have := HQ.out; omega)
  exact leaves_wrong _ rfl rfl k1 k2 (by omega) ⟨rfl, (HW.out.then hW).caught (Nat.le_refl _) (by omega)⟩
 refine (all_Label_ok q xs _ _ hy w0 _ HR.out).mono ?_
 rintro e w1 ⟨v1, rfl, hV, hR, hW⟩
 replace HN := Aside0.mk hn
 replace HR := Aside0.mk hR
 replace HG := Aside0.mk (And.intro (hW.keep HG.out.1 (by have := HQ.out; omega)) (hW.keep HG.out.2 (by have := HQ.out; omega)))
 replace HW := Aside0.mk (HW.out.then hW)
 clear hn hR hW hy hV
 go_wp2_with fail
 rcases HN.out with hn | ⟨y2, r2, hy, hn⟩
 ·
  refine (all_Array_no q r1 hn w0 _ HR.out).mono ?_
  rintro e w9 ⟨rfl, hW⟩
  have k1 := hW.keep HG.out.1 (by have := HQ.out; omega)
  have k2 := hW.keep HG.out.2 (by have := HQ.out; omega)
  exact leaves_wrong _ rfl rfl k1 k2 (by omega) ⟨rfl, (HW.out.then hW).caught (Nat.le_refl _) (by omega)⟩
 refine (all_Array_ok q r1 _ _ hy w0 _ HR.out).mono ?_
 rintro e w2 ⟨v2, rfl, hV, hR, hW⟩
 replace HN := Aside0.mk hn
 replace HR := Aside0.mk hR
 replace HG := Aside0.mk (And.intro (hW.keep HG.out.1 (by have := HQ.out; omega)) (hW.keep HG.out.2 (by have := HQ.out; omega)))
 replace HW := Aside0.mk (HW.out.then hW)
 clear hn hR hW hy hV
 go_wp2_with fail
 rcases HN.out with hn | ⟨y3, r3, hy, hn⟩
 ·
  refine (all_Label_no q r2 hn w0 _ HR.out).mono ?_
  rintro e w9 ⟨rfl, hW⟩
  have k1 := hW.keep HG.out.1 (by have := HQ.out; omega)
  have k2 := hW.keep HG.out.2 (by have := HQ.out; omega)
  exact leaves_wrong _ rfl rfl k1 k2 (by omega) ⟨rfl, (HW.out.then hW).caught (Nat.le_refl _) (by omega)⟩
 refine (all_Label_ok q r2 _ _ hy w0 _ HR.out).mono ?_
 rintro e w3 ⟨v3, rfl, hV, hR, hW⟩
 replace HN := Aside0.mk hn
 replace HR := Aside0.mk hR
 replace HG := Aside0.mk (And.intro (hW.keep HG.out.1 (by have := HQ.out; omega)) (hW.keep HG.out.2 (by have := HQ.out; omega)))
 replace HW := Aside0.mk (HW.out.then hW)
 clear hn hR hW hy hV
 go_wp2_with fail
 refine (all_Function_no q r3 HN.out w0 HT.out _ HR.out).mono ?_
 rintro e w9 ⟨rfl, hW⟩
 have k1 := hW.keep HG.out.1 (by have := HQ.out; omega)
 have k2 := hW.keep HG.out.2 (by have := HQ.out; omega)
 exact leaves_wrong _ rfl rfl k1 k2 (by omega) ⟨rfl, (HW.out.then hW).caught (Nat.le_refl _) (by omega)⟩
set_option maxHeartbeats 8000000 in
set_option maxRecDepth 100000 in
theorem module_ok (q : Nat) (xs : List Int) (m : ModL) (rr : List Int) (hr : rdMod xs = some (m, rr)) (w0 : World) (ht : Lib.TabIs Tryd.prog w0 "strings.asciiSpace" .u8 Lib.asciiSpaceTab) (w : World) (h : Rd w0 w q xs) :
  Calls Tryd.prog 63 #[.pointer (some ⟨q, 0, none⟩)] w fun e w' => (rr = [] → ∃ v1 v2 v3 v4, e = .returned (.tuple #[.agg #[v1, v2, v3, v4], .int .i64 0]) ∧ ModOut w' w.heap.size w'.heap.size v1 v2 v3 v4 m) ∧ (rr ≠ [] → e = .returned (.tuple #[.agg #[.slice none 0 0, .slice none 0 0, .slice none 0 0, .slice none 0 0], .int .i64 120])) ∧ Wrote (fun k => k = q) w w' := by
 obtain ⟨r1, r2, r3, h1, h2, h3, h4⟩ := rdMod_parts hr
 have HP := Aside0.mk (And.intro h1 (And.intro h2 (And.intro h3 h4)))
 have hS1 : (w.alloc (.cells #[.slice none 0 0, .slice none 0 0, .slice none 0 0, .slice none 0 0] 26)).heap.size = w.heap.size + 1 := Array.size_push _
 have hb1 := below_alloc (Below.refl w.heap.size w) (.cells #[.slice none 0 0, .slice none 0 0, .slice none 0 0, .slice none 0 0] 26)
 have hb2 := below_alloc hb1 (.cells #[.int .i64 0] 28)
 have hg1 := blk_below (heap_alloc_new w (.cells #[.slice none 0 0, .slice none 0 0, .slice none 0 0, .slice none 0 0] 26)) (below_alloc (Below.refl (w.alloc (.cells #[.slice none 0 0, .slice none 0 0, .slice none 0 0, .slice none 0 0] 26)).heap.size (w.alloc (.cells #[.slice none 0 0, .slice none 0 0, .slice none 0 0, .slice none 0 0] 26))) (.cells #[.int .i64 0] 28))
 have hg2 := heap_alloc_new (w.alloc (.cells #[.slice none 0 0, .slice none 0 0, .slice none 0 0, .slice none 0 0] 26)) (.cells #[.int .i64 0] 28)
 rw [hS1] at hg2
 have HG := Aside0.mk (And.intro hg1 hg2)
 have HR := Aside0.mk (h.step hb2)
 have HQ := Aside0.mk (show q < w.heap.size from h.qlt)
 have HW := Aside0.mk ((Wrote.refl (fun k => k = q) w).below hb2)
 have HZ := Aside0.mk (show w.heap.size + 2 ≤ ((w.alloc (.cells #[.slice none 0 0, .slice none 0 0, .slice none 0 0, .slice none 0 0] 26)).alloc (.cells #[.int .i64 0] 28)).heap.size from Nat.le_of_eq (show w.heap.size + 2 = ((w.alloc (.cells #[.slice none 0 0, .slice none 0 0, .slice none 0 0, .slice none 0 0] 26)).alloc (.cells #[.int .i64 0] 28)).heap.size from (by rw [show ((w.alloc (.cells #[.slice none 0 0, .slice none 0 0, .slice none 0 0, .slice none 0 0] 26)).alloc (.cells #[.int .i64 0] 28)).heap.size = (w.alloc (.cells #[.slice none 0 0, .slice none 0 0, .slice none 0 0, .slice none 0 0] 26)).heap.size + 1 from Array.size_push _, hS1])))
 have HS0 := Aside0.mk h.below.size
 have HT := Aside0.mk ht
 have hmf := wr_makeFunc
 clear hS1 hb1 hb2 hg1 hg2 h ht
 clear hr h1 h2 h3 h4
 go_enter_defers Tryd.func63, Tryd.ntmps63
 go_wp2_with fail
 refine (all_Label_ok q xs m.1 r1 HP.out.1 w0 _ HR.out).mono ?_
 rintro e w1 ⟨v1, rfl, hV, hR, hW⟩
 obtain ⟨A1, e1⟩ := hV.slice
 subst e1
 replace HR := Aside0.mk hR
 replace HG := Aside0.mk (And.intro (hW.keep HG.out.1 (by have := HQ.out; omega)) (hW.keep HG.out.2 (by have := HQ.out; omega)))
 replace HW := Aside0.mk (HW.out.then hW)
 have HV1 := Aside0.mk hV
 have HZ1 := Aside0.mk hW.size
 clear hR hW hV
 go_wp2_with fail
 refine (all_Array_ok q r1 m.2.1 r2 HP.out.2.1 w0 _ HR.out).mono ?_
 rintro e w2 ⟨v2, rfl, hV, hR, hW⟩
 obtain ⟨A2, e2⟩ := hV.slice
 subst e2
 replace HR := Aside0.mk hR
 replace HG := Aside0.mk (And.intro (hW.keep HG.out.1 (by have := HQ.out; omega)) (hW.keep HG.out.2 (by have := HQ.out; omega)))
 replace HW := Aside0.mk (HW.out.then hW)
 have HV2 := Aside0.mk hV
 have HZ2 := Aside0.mk hW.size
 replace HV1 := Aside0.mk (HV1.out.move (fun k hk _ hlt => hW.block k hlt (by have h1 := HQ.out; have h2 := HZ.out; omega)))
 clear hR hW hV
 go_wp2_with fail
 refine (all_Label_ok q r2 m.2.2.1 r3 HP.out.2.2.1 w0 _ HR.out).mono ?_
 rintro e w3 ⟨v3, rfl, hV, hR, hW⟩
 obtain ⟨A3, e3⟩ := hV.slice
 subst e3
 replace HR := Aside0.mk hR
 replace HG := Aside0.mk (And.intro (hW.keep HG.out.1 (by have := HQ.out; omega)) (hW.keep HG.out.2 (by have := HQ.out; omega)))
 replace HW := Aside0.mk (HW.out.then hW)
 have HV3 := Aside0.mk hV
 have HZ3 := Aside0.mk hW.size
 replace HV1 := Aside0.mk (HV1.out.move (fun k hk _ hlt => hW.block k hlt (by have h1 := HQ.out; have h2 := HZ.out; omega)))
 replace HV2 := Aside0.mk (HV2.out.move (fun k hk _ hlt => hW.block k hlt (by have h1 := HQ.out; have h2 := HZ.out; have h3 := HZ1.out; omega)))
 clear hR hW hV
 go_wp2_with fail
 refine (all_Function_ok q r3 m.2.2.2 rr HP.out.2.2.2 w0 HT.out _ HR.out).mono ?_
 rintro e w4 ⟨v4, rfl, hV, hR, hW⟩
 obtain ⟨A4, e4⟩ := hV.slice
 subst e4
 replace HR := Aside0.mk hR
 replace HG := Aside0.mk (And.intro (hW.keep HG.out.1 (by have := HQ.out; omega)) (hW.keep HG.out.2 (by have := HQ.out; omega)))
 replace HW := Aside0.mk (HW.out.then hW)
 have HV4 := Aside0.mk hV
 have HZ4 := Aside0.mk hW.size
 replace HV1 := Aside0.mk (HV1.out.move (fun k hk _ hlt => hW.block k hlt (by have h1 := HQ.out; have h2 := HZ.out; omega)))
 replace HV2 := Aside0.mk (HV2.out.move (fun k hk _ hlt => hW.block k hlt (by have h1 := HQ.out; have h2 := HZ.out; have h3 := HZ1.out; omega)))
 replace HV3 := Aside0.mk (HV3.out.move (fun k hk _ hlt => hW.block k hlt (by have h1 := HQ.out; have h2 := HZ.out; have h3 := HZ1.out; have h4 := HZ2.out; omega)))
 clear hR hW hV
 obtain ⟨⟨a0, a1, a2, a3⟩, z0, z1, z2, z3⟩ := facts4 HG.out.1
 have y0 := blk_cell HG.out.2 0
 have y1 := blk_frozen HG.out.2 0
 simp only [List.getElem?_toArray, List.getElem?_cons_zero] at y0
 obtain ⟨A, c, D, ds, hq, hc, hx2, hx3⟩ := HR.out.st
 have q0 := blk_cell hq 0
 simp only [List.getElem?_toArray, List.getElem?_cons_zero] at q0
 have HQ2 := Aside0.mk hq
 clear hq hc hx2 hx3
 have hqb : ¬ w.heap.size = q := by have := HQ.out; omega
 by_cases hz : rr = []
 ·
  subst hz
  go_wp2
  have hne : w.heap.size + 1 ≠ w.heap.size := by omega
  have HW1 := (HW.out.stored (Nat.le_refl _) (.slice A1 m.1.length m.1.length) (.slice A2 m.2.1.length m.2.1.length) (.slice A3 m.2.2.1.length m.2.2.1.length) (.slice A4 m.2.2.2.length m.2.2.2.length)).stored (Nat.le_refl _) (.slice A1 m.1.length m.1.length) (.slice A2 m.2.1.length m.2.1.length) (.slice A3 m.2.2.1.length m.2.2.1.length) (.slice A4 m.2.2.2.length m.2.2.2.length)
  have k1 := put4 (put4 HG.out.1 (.slice A1 m.1.length m.1.length) (.slice A2 m.2.1.length m.2.1.length) (.slice A3 m.2.2.1.length m.2.2.1.length) (.slice A4 m.2.2.2.length m.2.2.2.length)) (.slice A1 m.1.length m.1.length) (.slice A2 m.2.1.length m.2.1.length) (.slice A3 m.2.2.1.length m.2.2.1.length) (.slice A4 m.2.2.2.length m.2.2.2.length)
  have k2 := ((stored_far (stored w4 w.heap.size (.slice A1 m.1.length m.1.length) (.slice A2 m.2.1.length m.2.1.length) (.slice A3 m.2.2.1.length m.2.2.1.length) (.slice A4 m.2.2.2.length m.2.2.2.length)) w.heap.size (.slice A1 m.1.length m.1.length) (.slice A2 m.2.1.length m.2.1.length) (.slice A3 m.2.2.1.length m.2.2.1.length) (.slice A4 m.2.2.2.length m.2.2.2.length) _ hne).trans (stored_far w4 w.heap.size (.slice A1 m.1.length m.1.length) (.slice A2 m.2.1.length m.2.1.length) (.slice A3 m.2.2.1.length m.2.2.1.length) (.slice A4 m.2.2.2.length m.2.2.2.length) _ hne)).trans HG.out.2
  refine leaves_well _ rfl rfl ((Below.heap_setCell _ _ _ w.heap.size (Ne.symm hne)).trans k1) (blk_put k2 0 _ rfl) rfl ⟨⟨_, _, _, _, rfl, ?_⟩, HW1.setNew (Nat.le_succ _) _⟩
  have fr : ∀ k, w.heap.size + 2 ≤ k → ((stored (stored w4 w.heap.size (.slice A1 m.1.length m.1.length) (.slice A2 m.2.1.length m.2.1.length) (.slice A3 m.2.2.1.length m.2.2.1.length) (.slice A4 m.2.2.2.length m.2.2.2.length)) w.heap.size (.slice A1 m.1.length m.1.length) (.slice A2 m.2.1.length m.2.1.length) (.slice A3 m.2.2.1.length m.2.2.1.length) (.slice A4 m.2.2.2.length m.2.2.2.length)).setCell ⟨w.heap.size + 1, 0, none⟩ (.int .i64 0)).heap[k]? = w4.heap[k]? := fun k hk =>
   (Below.heap_setCell _ _ _ k (by simp only; omega)).trans ((stored_far _ _ _ _ _ _ k (by omega)).trans (stored_far _ _ _ _ _ _ k (by omega)))
  have j0 := HZ.out
  have j1 := HZ1.out
  have j2 := HZ2.out
  have j3 := HZ3.out
  have j4 := HZ4.out
  refine ⟨_, _, _, _, _, _, _, _, by omega, j1, Nat.le_refl _, j2, Nat.le_refl _, j3, Nat.le_refl _, j4, ?_, HV1.out.move (fun k hk _ _ => fr k (by omega)), HV2.out.move (fun k hk _ _ => fr k (by omega)), HV3.out.move (fun k hk _ _ => fr k (by omega)), HV4.out.move (fun k hk _ _ => fr k (by omega))⟩
  exact Nat.le_of_eq (by simp [World.setCell])
 ·
  have hl : 0 < rr.length := List.length_pos_iff.2 hz
  have hlb : decide ((rr.length : Int) > 0) = true := decide_eq_true (by omega)
  go_wp2
  have hne : w.heap.size + 1 ≠ w.heap.size := by omega
  exact leaves_wrong _ rfl rfl (put4 HG.out.1 (.slice A1 m.1.length m.1.length) (.slice A2 m.2.1.length m.2.1.length) (.slice A3 m.2.2.1.length m.2.2.1.length) (.slice A4 m.2.2.2.length m.2.2.2.length)) ((stored_far w4 w.heap.size (.slice A1 m.1.length m.1.length) (.slice A2 m.2.1.length m.2.1.length) (.slice A3 m.2.2.1.length m.2.2.1.length) (.slice A4 m.2.2.2.length m.2.2.2.length) _ hne).trans HG.out.2) (Ne.symm hne) ⟨fun h => absurd h hz, fun _ => rfl, (HW.out.stored (Nat.le_refl _) _ _ _ _).caught (Nat.le_refl _) (by omega)⟩
end Go.Proofs.YtgpdaihfjnihhaaDoor.PJ
