/- The document's reader of images: function, by hand. -/
import Derived.Test.YtgpdaihfjnihhaaDoorQPJx0
import Derived.Test.YtgpdaihfjnihhaaDoorQHandRefRead
import Derived.Test.YtgpdaihfjnihhaaDoorQHandRefGet
import Derived.Test.YtgpdaihfjnihhaaDoorQTablePure
namespace Go.Proofs.YtgpdaihfjnihhaaDoor.PJ
open Go.RowKit Go.Proofs.YtgpdaihfjnihhaaDoorW.PrintWords Go.Proofs.YtgpdaihfjnihhaaDoorW.PrintLast Go.Proofs.YtgpdaihfjnihhaaDoorW.PrintMore Go.Proofs.YtgpdaihfjnihhaaDoor.LebPure Go.Proofs.YtgpdaihfjnihhaaDoor.LebForm Go.Proofs.YtgpdaihfjnihhaaDoor.B64
set_option linter.unusedSimpArgs false
set_option linter.unusedVariables false
theorem Got.fn {b : List Int} {a0 a1 a2 a3 a4 a5 a6 : Nat} {d0 d1 d2 d3 d4 d5 d6 : Bool} {x0 x3 x4 : Int} {x1 x2 : List Int} {x5 : List S44} (h1 : Got rdNum b a0 d0 x0 a1 d1) (h2 : Got (rdAll rdNum) b a1 d1 x1 a2 d2) (h3 : Got (rdAll rdNum) b a2 d2 x2 a3 d3)
  (h4 : Got rdInt b a3 d3 x3 a4 d4) (h5 : Got rdInt b a4 d4 x4 a5 d5) (h6 : Got (rdAll rdInstr) b a5 d5 x5 a6 d6) : Got rdFn b a0 d0 ⟨x0, x1, x2, x3, x4, x5⟩ a6 d6 := by
 have g6 := h6.map (fun f => (⟨x0, x1, x2, x3, x4, f⟩ : S41))
 have g5 := Got.bind (g2 := fun (e : Int) l => (rdAll rdInstr l).map fun f => ((⟨x0, x1, x2, x3, e, f.1⟩ : S41), f.2)) h5 g6
 have g4 := Got.bind (g2 := fun (d : Int) l => (rdInt l).bind fun e => (rdAll rdInstr e.2).map fun f => ((⟨x0, x1, x2, d, e.1, f.1⟩ : S41), f.2)) h4 g5
 have g3 := Got.bind (g2 := fun (c : List Int) l => (rdInt l).bind fun d => (rdInt d.2).bind fun e => (rdAll rdInstr e.2).map fun f => ((⟨x0, x1, c, d.1, e.1, f.1⟩ : S41), f.2)) h3 g4
 have g2 := Got.bind (g2 := fun (b' : List Int) l => (rdAll rdNum l).bind fun c => (rdInt c.2).bind fun d => (rdInt d.2).bind fun e => (rdAll rdInstr e.2).map fun f => ((⟨x0, b', c.1, d.1, e.1, f.1⟩ : S41), f.2)) h2 g3
 exact (Got.bind (g2 := fun (a' : Int) l => (rdAll rdNum l).bind fun b' => (rdAll rdNum b'.2).bind fun c => (rdInt c.2).bind fun d => (rdInt d.2).bind fun e => (rdAll rdInstr e.2).map fun f => ((⟨a', b'.1, c.1, d.1, e.1, f.1⟩ : S41), f.2)) h1 g2).congr (fun _ => rfl)
theorem instrErr_zero {b a : Int} {x : Int × Int × Int} {neg : Bool} (h : (instrErr b x a neg).2.2.2 ≠ 0) : (instrErr b x a neg).1 = 0 ∧ (instrErr b x a neg).2.1 = 0 ∧ (instrErr b x a neg).2.2.1 = 0 := by
 unfold instrErr at h ⊢
 simp only at h ⊢
 generalize (if x.2.2 = 0 ∧ neg = true then (100 : Int) else x.2.2) = e at h ⊢
 by_cases he : e = 0
 ·
  rw [if_pos he] at h
  exact absurd rfl h
 ·
  rw [if_neg he]
  exact ⟨rfl, rfl, rfl⟩
theorem cgL_zero {l : List Int} (h : (cgL l).2.2.2 ≠ 0) : (cgL l).1 = 0 ∧ (cgL l).2.1 = 0 ∧ (cgL l).2.2.1 = 0 := by
 unfold cgL at h ⊢
 cases l with
 | nil => exact ⟨rfl, rfl, rfl⟩
 | cons x t =>
  rw [codeGet_cons] at h ⊢
  split
  ·
   rename_i h1
   rw [if_pos h1] at h
   split
   ·
    rename_i h2
    rw [if_pos h2] at h
    exact instrErr_zero h
   ·
    rename_i h2
    rw [if_neg h2] at h
    split
    ·
     rename_i h3
     rw [if_pos h3] at h
     exact instrErr_zero h
    ·
     rename_i h3
     rw [if_neg h3] at h
     exact absurd rfl h
  ·
   exact ⟨rfl, rfl, rfl⟩
theorem rdInstr_bad9 {l : List Int} (h : rdInstr l = none) : (cgL l).2.2.2 ≠ 0 := by
 unfold rdInstr at h
 split at h
 ·
  cases h
 ·
  assumption
theorem got_ins (b : List Int) (a : Nat) (hb : Bts b) (hl : b.length ≤ 262144) (ha : a ≤ b.length) : ∃ (K : Nat), (cgL (b.drop a)).2.2.1 = (K : Int) ∧ a + K ≤ b.length ∧ Got rdInstr b a false ⟨(cgL (b.drop a)).1, (cgL (b.drop a)).2.1⟩ (a + K) ((cgL (b.drop a)).2.2.2 != 0) ∧ (((cgL (b.drop a)).2.2.2 != 0) = false → a < a + K) := by
 cases h : rdInstr (b.drop a) with
 | none =>
  have hz := rdInstr_bad9 h
  obtain ⟨e1, e2, e3⟩ := cgL_zero hz
  have hnb : ((cgL (b.drop a)).2.2.2 != 0) = true := by simpa using hz
  exact ⟨0, by rw [e3]; rfl, by omega, ⟨by omega, fun h => (by cases h), fun _ => .inr ⟨hnb, h⟩⟩, fun h' => by rw [hnb] at h'; cases h'⟩
 | some p =>
  obtain ⟨i, r⟩ := p
  obtain ⟨K, hg, hk, hd, hlr, hu⟩ := rdInstr_get h (hb.drop a) (by rw [List.length_drop]; omega)
  rw [hg]
  rw [List.length_drop] at hk hlr
  rw [List.drop_drop] at hd
  have h2 : a + K ≤ b.length := by omega
  refine ⟨K, rfl, h2, ⟨by omega, fun h => (by cases h), fun _ => .inl ⟨rfl, by rw [hd]; exact h⟩⟩, fun _ => ?_⟩
  rw [← hd, List.length_drop] at hlr
  omega
theorem refGet10.calls (A : Option Addr) (c : Nat) (l : List Int) (w : World) (hC : Kd.C (Kd.int .u8) w A l.length l) (hc : l.length ≤ c) (hb : Bts l) (hl : l.length ≤ 262144) :
  Calls Tryd.prog 24 #[.slice A l.length c] w fun e w' => e = .returned (.tuple #[.agg #[.int .i64 (cgL l).1, .int .i64 (cgL l).2.1], .int .i64 (cgL l).2.2.1, .int .i64 (cgL l).2.2.2]) ∧ Below w.heap.size w w' :=
 louverref10_Get.calls (2 * l.tail.length + 61) A c l (getU l.tail) (getS l.tail) w hC hc hb
  (by
   unfold getU
   split
   ·
    split
    ·
     exact ⟨by omega, by show ((_ : Nat) : Int) ≤ _; omega⟩
    ·
     exact ⟨by decide, by decide⟩
   ·
    exact ⟨by show (0 : Int) ≤ 0; omega, by show (0 : Int) ≤ _; omega⟩)
  (fun op => by obtain ⟨p, q, kd, h1, h2, h3, h4⟩ := table_all op; exact ⟨_, p, q, kd, h1, h2, h3, h4⟩)
  (refGet_f _ _ (by cases l with | nil => exact hb | cons x t => exact fun y hy => hb y (List.mem_cons_of_mem _ hy)) (by cases l with | nil => decide | cons x t => simp only [List.tail_cons, List.length_cons] at hl ⊢; omega) (by omega))
  (refGetSigned_f _ _ (by cases l with | nil => exact hb | cons x t => exact fun y hy => hb y (List.mem_cons_of_mem _ hy)) (by cases l with | nil => decide | cons x t => simp only [List.tail_cons, List.length_cons] at hl ⊢; omega) (by omega))
theorem fn_tail {w w0 w6 W wn : World} {q a9 c : Nat} {A A5 : Option Addr} {b : List Int} {df : Bool} {c5 c2 c3 : Nat} {V2 V3 : Option Addr} {t2 t3 : Nat} {x2 x3 : List Int} {xs : List S44} {x : S44} {v1 : Value} {ob og : Obj} (hV5 : Kd.R k44 44 W w6.heap.size (fun k => w6.heap.size ≤ k) (.slice A5 xs.length c5) xs)
  (hR : Rr w0 W q A c b a9 df) (hF : W.heap[w.heap.size + 1]? = some ob) (hG : W.heap[w.heap.size]? = some og) (hV2 : Kd.R (Kd.int .u64) 36 W (w.heap.size + 2) (fun k => w.heap.size + 2 ≤ k ∧ k < c2) (.slice V2 x2.length t2) x2) (hV3 : Kd.R (Kd.int .u64) 36 W (w.heap.size + 2) (fun k => w.heap.size + 2 ≤ k ∧ k < c3) (.slice V3 x3.length t3) x3)
  (hW : Wrote (fun k => k = q) w W) (hq : q < w.heap.size) (hs : w0.heap.size ≤ w.heap.size) (hz : w.heap.size + 2 ≤ w6.heap.size) (h6 : w6.heap.size ≤ W.heap.size) (ho : Kd.R k44 44 wn w6.heap.size (fun k => w6.heap.size ≤ k) v1 (xs ++ [x])) (hg : W.grownBy wn (Value.slice A5 xs.length c5).ownBlock) :
  ∃ A7 c7, v1 = .slice A7 (xs.length + 1) c7 ∧ Kd.R k44 44 wn w6.heap.size (fun k => w6.heap.size ≤ k) (.slice A7 (xs.length + 1) c7) (xs ++ [x]) ∧ Rr w0 wn q A c b a9 df ∧ wn.heap[w.heap.size + 1]? = some ob ∧ wn.heap[w.heap.size]? = some og ∧ Kd.R (Kd.int .u64) 36 wn (w.heap.size + 2) (fun k => w.heap.size + 2 ≤ k ∧ k < c2) (.slice V2 x2.length t2) x2 ∧ Kd.R (Kd.int .u64) 36 wn (w.heap.size + 2) (fun k => w.heap.size + 2 ≤ k ∧ k < c3) (.slice V3 x3.length t3) x3 ∧ Wrote (fun k => k = q) w wn ∧ w6.heap.size ≤ wn.heap.size := by
 obtain ⟨A7, c7, e7⟩ := Kd.R_slice ho
 rw [show (xs ++ [x]).length = xs.length + 1 by simp] at e7
 subst e7
 have hrow := hV5.1
 refine ⟨A7, c7, rfl, ho, hR.grown hg (fun g e => ?_), ?_, ?_, Kd.R_over hV2 hV5 (fun z hz => ?_) hg, Kd.R_over hV3 hV5 (fun z hz => ?_) hg, hW.grown hg (fun g e => .inr ?_), Nat.le_trans h6 hg.size⟩
 ·
  have h1 : w6.heap.size ≤ g := hrow g e
  exact ⟨by omega, by omega⟩
 ·
  exact (hg.block (w.heap.size + 1) (blk_lt hF) (fun e => by have h1 : w6.heap.size ≤ w.heap.size + 1 := hrow _ e.symm; omega)).trans hF
 ·
  exact (hg.block w.heap.size (blk_lt hG) (fun e => by have h1 : w6.heap.size ≤ w.heap.size := hrow _ e.symm; omega)).trans hG
 ·
  have h1 : z ∈ [36] := hz
  rw [List.mem_singleton.1 h1]
  decide
 ·
  have h1 : z ∈ [36] := hz
  rw [List.mem_singleton.1 h1]
  decide
 ·
  have h1 : w6.heap.size ≤ g := hrow g e
  omega
theorem fn_round {w w0 w6 wn : World} {q a9 c : Nat} {A A7 : Option Addr} {b : List Int} {df : Bool} {c7 c2 c3 n7 : Nat} {V2 V3 : Option Addr} {t2 t3 : Nat} {x2 x3 : List Int} {xs : List S44} {V : Value} {og : Obj} (hR : Rr w0 wn q A c b a9 df) (hG : wn.heap[w.heap.size]? = some og)
  (hV5 : Kd.R k44 44 wn w6.heap.size (fun k => w6.heap.size ≤ k) (.slice A7 n7 c7) xs) (hV2 : Kd.R (Kd.int .u64) 36 wn (w.heap.size + 2) (fun k => w.heap.size + 2 ≤ k ∧ k < c2) (.slice V2 x2.length t2) x2) (hV3 : Kd.R (Kd.int .u64) 36 wn (w.heap.size + 2) (fun k => w.heap.size + 2 ≤ k ∧ k < c3) (.slice V3 x3.length t3) x3)
  (hW : Wrote (fun k => k = q) w wn) (h6 : w6.heap.size ≤ wn.heap.size) (hq : q < w.heap.size) (hs : w0.heap.size ≤ w.heap.size) (hz : w.heap.size + 2 ≤ w6.heap.size) :
  Rr w0 (wn.setCell ⟨w.heap.size + 1, 5, none⟩ V) q A c b a9 df ∧ (wn.setCell ⟨w.heap.size + 1, 5, none⟩ V).heap[w.heap.size]? = some og ∧ Kd.R k44 44 (wn.setCell ⟨w.heap.size + 1, 5, none⟩ V) w6.heap.size (fun k => w6.heap.size ≤ k) (.slice A7 n7 c7) xs ∧ Kd.R (Kd.int .u64) 36 (wn.setCell ⟨w.heap.size + 1, 5, none⟩ V) (w.heap.size + 2) (fun k => w.heap.size + 2 ≤ k ∧ k < c2) (.slice V2 x2.length t2) x2 ∧ Kd.R (Kd.int .u64) 36 (wn.setCell ⟨w.heap.size + 1, 5, none⟩ V) (w.heap.size + 2) (fun k => w.heap.size + 2 ≤ k ∧ k < c3) (.slice V3 x3.length t3) x3 ∧ Wrote (fun k => k = q) w (wn.setCell ⟨w.heap.size + 1, 5, none⟩ V) ∧ w6.heap.size ≤ (wn.setCell ⟨w.heap.size + 1, 5, none⟩ V).heap.size :=
 ⟨hR.far (by omega) (by omega) _, (Below.heap_setCell wn ⟨w.heap.size + 1, 5, none⟩ V w.heap.size (by simp)).trans hG, Kd.R_far hV5 (fun k hk => by simp only; omega) _, Kd.R_far hV2 (fun k hk => by have := hk.1; simp only; omega) _, Kd.R_far hV3 (fun k hk => by have := hk.1; simp only; omega) _, hW.setNew (by omega) _, by simpa [World.setCell] using h6⟩
theorem R_far6 {α : Type} {d : Kd α} {e : Nat} {w : World} {base : Nat} {ok : Nat → Prop} {v : Value} {xs : List α} {g : Nat} (h : d.R e w base ok v xs) (hok : ∀ k, ok k → k ≠ g) (v0 v1 v2 v3 v4 v5 : Value) : d.R e ((((((w.setCell ⟨g, 0, none⟩ v0).setCell ⟨g, 1, none⟩ v1).setCell ⟨g, 2, none⟩ v2).setCell ⟨g, 3, none⟩ v3).setCell ⟨g, 4, none⟩ v4).setCell ⟨g, 5, none⟩ v5) base ok v xs :=
 Kd.R_far (Kd.R_far (Kd.R_far (Kd.R_far (Kd.R_far (Kd.R_far h (p := ⟨g, 0, none⟩) hok v0) (p := ⟨g, 1, none⟩) hok v1) (p := ⟨g, 2, none⟩) hok v2) (p := ⟨g, 3, none⟩) hok v3) (p := ⟨g, 4, none⟩) hok v4) (p := ⟨g, 5, none⟩) hok v5
theorem fn_exit {w w0 w6 wr : World} {q a9 c : Nat} {A A5 : Option Addr} {b : List Int} {df : Bool} {c5 c2 c3 : Nat} {V2 V3 : Option Addr} {t2 t3 : Nat} {x0 x3 x4 : Int} {x1 x2 : List Int} {xs : List S44} {z0 z1 z2 z3 z4 z5 : Value} (hR : Rr w0 wr q A c b a9 df) (hG : wr.heap[w.heap.size]? = some (.cells #[z0, z1, z2, z3, z4, z5] 41 (0, 0)))
  (hV5 : Kd.R k44 44 wr w6.heap.size (fun k => w6.heap.size ≤ k) (.slice A5 xs.length c5) xs) (hV2 : Kd.R (Kd.int .u64) 36 wr (w.heap.size + 2) (fun k => w.heap.size + 2 ≤ k ∧ k < c2) (.slice V2 x1.length t2) x1) (hV3 : Kd.R (Kd.int .u64) 36 wr (w.heap.size + 2) (fun k => w.heap.size + 2 ≤ k ∧ k < c3) (.slice V3 x2.length t3) x2)
  (hW : Wrote (fun k => k = q) w wr) (hq : q < w.heap.size) (hs : w0.heap.size ≤ w.heap.size) (hz : w.heap.size + 2 ≤ w6.heap.size) :
  ((((((wr.setCell ⟨w.heap.size, 0, none⟩ (.int .u64 x0)).setCell ⟨w.heap.size, 1, none⟩ (.slice V2 x1.length t2)).setCell ⟨w.heap.size, 2, none⟩ (.slice V3 x2.length t3)).setCell ⟨w.heap.size, 3, none⟩ (.int .i64 x3)).setCell ⟨w.heap.size, 4, none⟩ (.int .i64 x4)).setCell ⟨w.heap.size, 5, none⟩ (.slice A5 xs.length c5)).heap[w.heap.size]? = some (.cells #[.int .u64 x0, .slice V2 x1.length t2, .slice V3 x2.length t3, .int .i64 x3, .int .i64 x4, .slice A5 xs.length c5] 41 (0, 0)) ∧ Kd.FK k41 ((((((wr.setCell ⟨w.heap.size, 0, none⟩ (.int .u64 x0)).setCell ⟨w.heap.size, 1, none⟩ (.slice V2 x1.length t2)).setCell ⟨w.heap.size, 2, none⟩ (.slice V3 x2.length t3)).setCell ⟨w.heap.size, 3, none⟩ (.int .i64 x3)).setCell ⟨w.heap.size, 4, none⟩ (.int .i64 x4)).setCell ⟨w.heap.size, 5, none⟩ (.slice A5 xs.length c5)) (fun k => w.heap.size ≤ k) ⟨x0, x1, x2, x3, x4, xs⟩ [.int .u64 x0, .slice V2 x1.length t2, .slice V3 x2.length t3, .int .i64 x3, .int .i64 x4, .slice A5 xs.length c5] ∧ Rr w0 ((((((wr.setCell ⟨w.heap.size, 0, none⟩ (.int .u64 x0)).setCell ⟨w.heap.size, 1, none⟩ (.slice V2 x1.length t2)).setCell ⟨w.heap.size, 2, none⟩ (.slice V3 x2.length t3)).setCell ⟨w.heap.size, 3, none⟩ (.int .i64 x3)).setCell ⟨w.heap.size, 4, none⟩ (.int .i64 x4)).setCell ⟨w.heap.size, 5, none⟩ (.slice A5 xs.length c5)) q A c b a9 df ∧ Wrote (fun k => k = q) w ((((((wr.setCell ⟨w.heap.size, 0, none⟩ (.int .u64 x0)).setCell ⟨w.heap.size, 1, none⟩ (.slice V2 x1.length t2)).setCell ⟨w.heap.size, 2, none⟩ (.slice V3 x2.length t3)).setCell ⟨w.heap.size, 3, none⟩ (.int .i64 x3)).setCell ⟨w.heap.size, 4, none⟩ (.int .i64 x4)).setCell ⟨w.heap.size, 5, none⟩ (.slice A5 xs.length c5)) := by
 refine ⟨blk_put (blk_put (blk_put (blk_put (blk_put (blk_put hG 0 _ rfl) 1 _ rfl) 2 _ rfl) 3 _ rfl) 4 _ rfl) 5 _ rfl, ?_, ?_, ?_⟩
 ·
  refine Kd.FK_mono (Kd.FK_of_M (base := w.heap.size) (ok := fun k => w.heap.size + 2 ≤ k) (k41_mkM _ w.heap.size _ ⟨x0, x1, x2, x3, x4, xs⟩ (R_far6 (g := w.heap.size) (Kd.R_lower (Kd.R_mono hV2 (fun k hk => hk.1)) (by omega)) (fun k hk => by omega) _ _ _ _ _ _) (R_far6 (g := w.heap.size) (Kd.R_lower (Kd.R_mono hV3 (fun k hk => hk.1)) (by omega)) (fun k hk => by omega) _ _ _ _ _ _) (R_far6 (g := w.heap.size) (Kd.R_lower (Kd.R_mono hV5 (fun k hk => Nat.le_trans hz hk)) (by omega)) (fun k hk => by omega) _ _ _ _ _ _))) (fun k hk => by omega)
 ·
  exact (((((hR.far hs (by omega) _).far hs (by omega) _).far hs (by omega) _).far hs (by omega) _).far hs (by omega) _).far hs (by omega) _
 ·
  exact (((((hW.setNew (Nat.le_refl _) _).setNew (Nat.le_refl _) _).setNew (Nat.le_refl _) _).setNew (Nat.le_refl _) _).setNew (Nat.le_refl _) _).setNew (Nat.le_refl _) _
set_option maxHeartbeats 16000000 in
set_option maxRecDepth 100000 in
theorem refFunction.calls (q : Nat) (A : Option Addr) (c : Nat) (b : List Int) (a : Nat) (d : Bool) (w0 w : World) (h : Rr w0 w q A c b a d) :
  Calls Tryd.prog 87 #[.pointer (some ⟨q, 0, none⟩)] w fun e w' => ∃ (cs : List Value) (x : S41) (a' : Nat) (d' : Bool), e = .returned (.agg cs.toArray) ∧ cs.length = 6 ∧ Kd.FK k41 w' (fun k => w.heap.size ≤ k) x cs ∧ Rr w0 w' q A c b a' d' ∧ Wrote (fun k => k = q) w w' ∧ Got rdFn b a d x a' d' ∧ (d' = false → a < a') := by
 have HQL := Aside0.mk h.qlt
 have HS0 := Aside0.mk h.below.size
 have hb := below_alloc (below_alloc (Below.refl w.heap.size w) (.cells #[.int .u64 0, .slice none 0 0, .slice none 0 0, .int .i64 0, .int .i64 0, .slice none 0 0] 41)) (.cells #[.int .u64 0, .slice none 0 0, .slice none 0 0, .int .i64 0, .int .i64 0, .slice none 0 0] 41)
 have HR := Aside0.mk (h.step (below_alloc (below_alloc (Below.refl w.heap.size w) (.cells #[.int .u64 0, .slice none 0 0, .slice none 0 0, .int .i64 0, .int .i64 0, .slice none 0 0] 41)) (.cells #[.int .u64 0, .slice none 0 0, .slice none 0 0, .int .i64 0, .int .i64 0, .slice none 0 0] 41)))
 have HG2 := Aside0.mk (blk_alloc (heap_alloc_new w (.cells #[.int .u64 0, .slice none 0 0, .slice none 0 0, .int .i64 0, .int .i64 0, .slice none 0 0] 41)) (.cells #[.int .u64 0, .slice none 0 0, .slice none 0 0, .int .i64 0, .int .i64 0, .slice none 0 0] 41))
 have HF := Aside0.mk (show ((w.alloc (.cells #[.int .u64 0, .slice none 0 0, .slice none 0 0, .int .i64 0, .int .i64 0, .slice none 0 0] 41)).alloc (.cells #[.int .u64 0, .slice none 0 0, .slice none 0 0, .int .i64 0, .int .i64 0, .slice none 0 0] 41)).heap[w.heap.size + 1]? = some (.cells #[.int .u64 0, .slice none 0 0, .slice none 0 0, .int .i64 0, .int .i64 0, .slice none 0 0] 41 (0, 0)) by
  have := heap_alloc_new (w.alloc (.cells #[.int .u64 0, .slice none 0 0, .slice none 0 0, .int .i64 0, .int .i64 0, .slice none 0 0] 41)) (.cells #[.int .u64 0, .slice none 0 0, .slice none 0 0, .int .i64 0, .int .i64 0, .slice none 0 0] 41)
  simpa using this)
 have HW := Aside0.mk ((Wrote.refl (fun k => k = q) w).below hb)
 have hsz : ((w.alloc (.cells #[.int .u64 0, .slice none 0 0, .slice none 0 0, .int .i64 0, .int .i64 0, .slice none 0 0] 41)).alloc (.cells #[.int .u64 0, .slice none 0 0, .slice none 0 0, .int .i64 0, .int .i64 0, .slice none 0 0] 41)).heap.size = w.heap.size + 2 := by simp
 have HSZ := Aside0.mk (show w.heap.size + 2 ≤ ((w.alloc (.cells #[.int .u64 0, .slice none 0 0, .slice none 0 0, .int .i64 0, .int .i64 0, .slice none 0 0] 41)).alloc (.cells #[.int .u64 0, .slice none 0 0, .slice none 0 0, .int .i64 0, .int .i64 0, .slice none 0 0] 41)).heap.size by omega)
 clear h hb hsz
 go_enter Tryd.func87, Tryd.ntmps87
 have HC := Aside0.mk (refNumber.calls q A c b a d w0 _ HR.out)
 go_wp2_with fail
 refine HC.out.mono ?_
 rintro e w1 ⟨x1, a1, d1, rfl, hu, hR, hW, hg, hl⟩
 have hqs := HQL.out
 have hz2 := HSZ.out
 have hfk := hW.keep HF.out (by omega)
 have hgk := hW.keep HG2.out (by omega)
 replace HSZ := Aside0.mk (Nat.le_trans hz2 hW.size)
 replace HW := Aside0.mk (HW.out.then hW)
 have HGT1 := Aside0.mk hg
 have HLT1 := Aside0.mk hl
 have HU1 := Aside0.mk hu
 replace HF := Aside0.mk hfk
 replace HG2 := Aside0.mk hgk
 replace HR := Aside0.mk hR
 clear hR hW hg hl hfk hgk hqs hz2 HC hu
 have hfb := blk_put HF.out 0 (.int .u64 x1) rfl
 obtain ⟨⟨n0, n1, n2, n3, n4, n5⟩, r0, r1, r2, r3, r4, r5⟩ := facts6 HF.out
 have hqs := HQL.out
 have hs0 := HS0.out
 replace HR := Aside0.mk (HR.out.far (g := w.heap.size + 1) (i := 0) (by omega) (by omega) (.int .u64 x1))
 replace HW := Aside0.mk (HW.out.setNew (b := w.heap.size + 1) (i := 0) (by omega) (.int .u64 x1))
 replace HG2 := Aside0.mk (blk_far (p := ⟨w.heap.size + 1, 0, none⟩) HG2.out (by simp) (.int .u64 x1))
 replace HSZ := Aside0.mk (show w.heap.size + 2 ≤ (w1.setCell ⟨w.heap.size + 1, 0, none⟩ (.int .u64 x1)).heap.size by simpa [World.setCell] using HSZ.out)
 have HF2 := Aside0.mk (show (w1.setCell ⟨w.heap.size + 1, 0, none⟩ (.int .u64 x1)).heap[w.heap.size + 1]? = some (.cells #[.int .u64 x1, .slice none 0 0, .slice none 0 0, .int .i64 0, .int .i64 0, .slice none 0 0] 41 (0, 0)) from hfb)
 replace HF := HF2
 clear HF2 hfb hqs hs0
 have HC := Aside0.mk (refLabels.calls q A c b a1 d1 w0 _ HR.out)
 go_wp2_with fail
 refine HC.out.mono ?_
 rintro e w2 ⟨v2, x2, a2, d2, rfl, hV, hR, hW, hg, hl⟩
 obtain ⟨V2, t2, rfl⟩ := Kd.R_slice hV
 clear n0 n1 n2 n3 n4 n5 r0 r1 r2 r3 r4 r5
 have hqs := HQL.out
 have hz2 := HSZ.out
 have hfk := hW.keep HF.out (by omega)
 have hgk := hW.keep HG2.out (by omega)
 replace HSZ := Aside0.mk (Nat.le_trans hz2 hW.size)
 replace HW := Aside0.mk (HW.out.then hW)
 have HGT2 := Aside0.mk hg
 have HLT2 := Aside0.mk hl
 have HV2 := Aside0.mk (show Kd.R (Kd.int .u64) 36 w2 (w.heap.size + 2) (fun k => w.heap.size + 2 ≤ k ∧ k < w2.heap.size) (.slice V2 x2.length t2) x2 from Kd.R_lower (Kd.R_mono (Kd.R_bound hV) (fun k hk => ⟨Nat.le_trans hz2 hk.1, hk.2.2.1⟩)) hz2)
 replace HF := Aside0.mk hfk
 replace HG2 := Aside0.mk hgk
 replace HR := Aside0.mk hR
 clear hR hW hg hl hfk hgk hqs hz2 HC hV
 have hfb := blk_put HF.out 1 (.slice V2 x2.length t2) rfl
 obtain ⟨⟨n0, n1, n2, n3, n4, n5⟩, r0, r1, r2, r3, r4, r5⟩ := facts6 HF.out
 have hqs := HQL.out
 have hs0 := HS0.out
 replace HR := Aside0.mk (HR.out.far (g := w.heap.size + 1) (i := 1) (by omega) (by omega) (.slice V2 x2.length t2))
 replace HW := Aside0.mk (HW.out.setNew (b := w.heap.size + 1) (i := 1) (by omega) (.slice V2 x2.length t2))
 replace HG2 := Aside0.mk (blk_far (p := ⟨w.heap.size + 1, 1, none⟩) HG2.out (by simp) (.slice V2 x2.length t2))
 replace HSZ := Aside0.mk (show w.heap.size + 2 ≤ (w2.setCell ⟨w.heap.size + 1, 1, none⟩ (.slice V2 x2.length t2)).heap.size by simpa [World.setCell] using HSZ.out)
 replace HV2 := Aside0.mk (Kd.R_far (p := ⟨w.heap.size + 1, 1, none⟩) HV2.out (fun k hk => by have := hk.1; simp only; omega) (.slice V2 x2.length t2))
 have HF2 := Aside0.mk (show (w2.setCell ⟨w.heap.size + 1, 1, none⟩ (.slice V2 x2.length t2)).heap[w.heap.size + 1]? = some (.cells #[.int .u64 x1, .slice V2 x2.length t2, .slice none 0 0, .int .i64 0, .int .i64 0, .slice none 0 0] 41 (0, 0)) from hfb)
 replace HF := HF2
 clear HF2 hfb hqs hs0
 have HC := Aside0.mk (refLabels.calls q A c b a2 d2 w0 _ HR.out)
 go_wp2_with fail
 refine HC.out.mono ?_
 rintro e w3 ⟨v3, x3, a3, d3, rfl, hV, hR, hW, hg, hl⟩
 obtain ⟨V3, t3, rfl⟩ := Kd.R_slice hV
 clear n0 n1 n2 n3 n4 n5 r0 r1 r2 r3 r4 r5
 have hqs := HQL.out
 have hz2 := HSZ.out
 replace HV2 := Aside0.mk (Kd.R_step HV2.out (fun k hk hlt => hW.block k hlt (by have := hk.1; omega)))
 have hfk := hW.keep HF.out (by omega)
 have hgk := hW.keep HG2.out (by omega)
 replace HSZ := Aside0.mk (Nat.le_trans hz2 hW.size)
 replace HW := Aside0.mk (HW.out.then hW)
 have HGT3 := Aside0.mk hg
 have HLT3 := Aside0.mk hl
 have HV3 := Aside0.mk (show Kd.R (Kd.int .u64) 36 w3 (w.heap.size + 2) (fun k => w.heap.size + 2 ≤ k ∧ k < w3.heap.size) (.slice V3 x3.length t3) x3 from Kd.R_lower (Kd.R_mono (Kd.R_bound hV) (fun k hk => ⟨Nat.le_trans hz2 hk.1, hk.2.2.1⟩)) hz2)
 replace HF := Aside0.mk hfk
 replace HG2 := Aside0.mk hgk
 replace HR := Aside0.mk hR
 clear hR hW hg hl hfk hgk hqs hz2 HC hV
 have hfb := blk_put HF.out 2 (.slice V3 x3.length t3) rfl
 obtain ⟨⟨n0, n1, n2, n3, n4, n5⟩, r0, r1, r2, r3, r4, r5⟩ := facts6 HF.out
 have hqs := HQL.out
 have hs0 := HS0.out
 replace HR := Aside0.mk (HR.out.far (g := w.heap.size + 1) (i := 2) (by omega) (by omega) (.slice V3 x3.length t3))
 replace HW := Aside0.mk (HW.out.setNew (b := w.heap.size + 1) (i := 2) (by omega) (.slice V3 x3.length t3))
 replace HG2 := Aside0.mk (blk_far (p := ⟨w.heap.size + 1, 2, none⟩) HG2.out (by simp) (.slice V3 x3.length t3))
 replace HSZ := Aside0.mk (show w.heap.size + 2 ≤ (w3.setCell ⟨w.heap.size + 1, 2, none⟩ (.slice V3 x3.length t3)).heap.size by simpa [World.setCell] using HSZ.out)
 replace HV2 := Aside0.mk (Kd.R_far (p := ⟨w.heap.size + 1, 2, none⟩) HV2.out (fun k hk => by have := hk.1; simp only; omega) (.slice V3 x3.length t3))
 replace HV3 := Aside0.mk (Kd.R_far (p := ⟨w.heap.size + 1, 2, none⟩) HV3.out (fun k hk => by have := hk.1; simp only; omega) (.slice V3 x3.length t3))
 have HF2 := Aside0.mk (show (w3.setCell ⟨w.heap.size + 1, 2, none⟩ (.slice V3 x3.length t3)).heap[w.heap.size + 1]? = some (.cells #[.int .u64 x1, .slice V2 x2.length t2, .slice V3 x3.length t3, .int .i64 0, .int .i64 0, .slice none 0 0] 41 (0, 0)) from hfb)
 replace HF := HF2
 clear HF2 hfb hqs hs0
 have HC := Aside0.mk (refInt.calls q A c b a3 d3 w0 _ HR.out)
 go_wp2_with fail
 refine HC.out.mono ?_
 rintro e w4 ⟨x4, a4, d4, rfl, hu, hR, hW, hg, hl⟩
 clear n0 n1 n2 n3 n4 n5 r0 r1 r2 r3 r4 r5
 have hqs := HQL.out
 have hz2 := HSZ.out
 replace HV2 := Aside0.mk (Kd.R_step HV2.out (fun k hk hlt => hW.block k hlt (by have := hk.1; omega)))
 replace HV3 := Aside0.mk (Kd.R_step HV3.out (fun k hk hlt => hW.block k hlt (by have := hk.1; omega)))
 have hfk := hW.keep HF.out (by omega)
 have hgk := hW.keep HG2.out (by omega)
 replace HSZ := Aside0.mk (Nat.le_trans hz2 hW.size)
 replace HW := Aside0.mk (HW.out.then hW)
 have HGT4 := Aside0.mk hg
 have HLT4 := Aside0.mk hl
 have HU4 := Aside0.mk hu
 replace HF := Aside0.mk hfk
 replace HG2 := Aside0.mk hgk
 replace HR := Aside0.mk hR
 clear hR hW hg hl hfk hgk hqs hz2 HC hu
 have hfb := blk_put HF.out 3 (.int .i64 x4) rfl
 obtain ⟨⟨n0, n1, n2, n3, n4, n5⟩, r0, r1, r2, r3, r4, r5⟩ := facts6 HF.out
 have hqs := HQL.out
 have hs0 := HS0.out
 replace HR := Aside0.mk (HR.out.far (g := w.heap.size + 1) (i := 3) (by omega) (by omega) (.int .i64 x4))
 replace HW := Aside0.mk (HW.out.setNew (b := w.heap.size + 1) (i := 3) (by omega) (.int .i64 x4))
 replace HG2 := Aside0.mk (blk_far (p := ⟨w.heap.size + 1, 3, none⟩) HG2.out (by simp) (.int .i64 x4))
 replace HSZ := Aside0.mk (show w.heap.size + 2 ≤ (w4.setCell ⟨w.heap.size + 1, 3, none⟩ (.int .i64 x4)).heap.size by simpa [World.setCell] using HSZ.out)
 replace HV2 := Aside0.mk (Kd.R_far (p := ⟨w.heap.size + 1, 3, none⟩) HV2.out (fun k hk => by have := hk.1; simp only; omega) (.int .i64 x4))
 replace HV3 := Aside0.mk (Kd.R_far (p := ⟨w.heap.size + 1, 3, none⟩) HV3.out (fun k hk => by have := hk.1; simp only; omega) (.int .i64 x4))
 have HF2 := Aside0.mk (show (w4.setCell ⟨w.heap.size + 1, 3, none⟩ (.int .i64 x4)).heap[w.heap.size + 1]? = some (.cells #[.int .u64 x1, .slice V2 x2.length t2, .slice V3 x3.length t3, .int .i64 x4, .int .i64 0, .slice none 0 0] 41 (0, 0)) from hfb)
 replace HF := HF2
 clear HF2 hfb hqs hs0
 have HC := Aside0.mk (refInt.calls q A c b a4 d4 w0 _ HR.out)
 go_wp2_with fail
 refine HC.out.mono ?_
 rintro e w5 ⟨x5, a5, d5, rfl, hu, hR, hW, hg, hl⟩
 clear n0 n1 n2 n3 n4 n5 r0 r1 r2 r3 r4 r5
 have hqs := HQL.out
 have hz2 := HSZ.out
 replace HV2 := Aside0.mk (Kd.R_step HV2.out (fun k hk hlt => hW.block k hlt (by have := hk.1; omega)))
 replace HV3 := Aside0.mk (Kd.R_step HV3.out (fun k hk hlt => hW.block k hlt (by have := hk.1; omega)))
 have hfk := hW.keep HF.out (by omega)
 have hgk := hW.keep HG2.out (by omega)
 replace HSZ := Aside0.mk (Nat.le_trans hz2 hW.size)
 replace HW := Aside0.mk (HW.out.then hW)
 have HGT5 := Aside0.mk hg
 have HLT5 := Aside0.mk hl
 have HU5 := Aside0.mk hu
 replace HF := Aside0.mk hfk
 replace HG2 := Aside0.mk hgk
 replace HR := Aside0.mk hR
 clear hR hW hg hl hfk hgk hqs hz2 HC hu
 have hfb := blk_put HF.out 4 (.int .i64 x5) rfl
 obtain ⟨⟨n0, n1, n2, n3, n4, n5⟩, r0, r1, r2, r3, r4, r5⟩ := facts6 HF.out
 have hqs := HQL.out
 have hs0 := HS0.out
 replace HR := Aside0.mk (HR.out.far (g := w.heap.size + 1) (i := 4) (by omega) (by omega) (.int .i64 x5))
 replace HW := Aside0.mk (HW.out.setNew (b := w.heap.size + 1) (i := 4) (by omega) (.int .i64 x5))
 replace HG2 := Aside0.mk (blk_far (p := ⟨w.heap.size + 1, 4, none⟩) HG2.out (by simp) (.int .i64 x5))
 replace HSZ := Aside0.mk (show w.heap.size + 2 ≤ (w5.setCell ⟨w.heap.size + 1, 4, none⟩ (.int .i64 x5)).heap.size by simpa [World.setCell] using HSZ.out)
 replace HV2 := Aside0.mk (Kd.R_far (p := ⟨w.heap.size + 1, 4, none⟩) HV2.out (fun k hk => by have := hk.1; simp only; omega) (.int .i64 x5))
 replace HV3 := Aside0.mk (Kd.R_far (p := ⟨w.heap.size + 1, 4, none⟩) HV3.out (fun k hk => by have := hk.1; simp only; omega) (.int .i64 x5))
 have HF2 := Aside0.mk (show (w5.setCell ⟨w.heap.size + 1, 4, none⟩ (.int .i64 x5)).heap[w.heap.size + 1]? = some (.cells #[.int .u64 x1, .slice V2 x2.length t2, .slice V3 x3.length t3, .int .i64 x4, .int .i64 x5, .slice none 0 0] 41 (0, 0)) from hfb)
 replace HF := HF2
 clear HF2 hfb hqs hs0
 have HC := Aside0.mk (refInt.calls q A c b a5 d5 w0 _ HR.out)
 go_wp2_with fail
 refine HC.out.mono ?_
 rintro e w6 ⟨x6, a6, d6, rfl, hu, hR, hW, hg, hl⟩
 clear n0 n1 n2 n3 n4 n5 r0 r1 r2 r3 r4 r5
 have hqs := HQL.out
 have hz2 := HSZ.out
 replace HV2 := Aside0.mk (Kd.R_step HV2.out (fun k hk hlt => hW.block k hlt (by have := hk.1; omega)))
 replace HV3 := Aside0.mk (Kd.R_step HV3.out (fun k hk hlt => hW.block k hlt (by have := hk.1; omega)))
 have hfk := hW.keep HF.out (by omega)
 have hgk := hW.keep HG2.out (by omega)
 replace HSZ := Aside0.mk (Nat.le_trans hz2 hW.size)
 replace HW := Aside0.mk (HW.out.then hW)
 have HGT6 := Aside0.mk hg
 have HLT6 := Aside0.mk hl
 have HU6 := Aside0.mk hu
 replace HF := Aside0.mk hfk
 replace HG2 := Aside0.mk hgk
 replace HR := Aside0.mk hR
 clear hR hW hg hl hfk hgk hqs hz2 HC hu
 go_wp2_with fail
 go_loopg [6, 7, 8, 9] (x6.toNat + 1) (fun kq v6 v7 v8 v9 w' => ∃ (i : Nat) (xs : List S44) (A5 : Option Addr) (c5 : Nat) (a' : Nat) (d' : Bool), v6 = .int .i64 (i : Int) ∧ Aside0 (i + kq = x6.toNat + 1) ∧ Aside0 (1 ≤ kq) ∧ Aside0 (Rr w0 w' q A c b a' d') ∧ Aside0 (Got (rep rdInstr i) b a6 d6 xs a' d') ∧ Aside0 (d' = false → xs.length ≤ a') ∧ Aside0 (w'.heap[w.heap.size + 1]? = some (.cells #[.int .u64 x1, .slice V2 x2.length t2, .slice V3 x3.length t3, .int .i64 x4, .int .i64 x5, .slice A5 xs.length c5] 41 (0, 0))) ∧ Aside0 (w'.heap[w.heap.size]? = some (.cells #[.int .u64 0, .slice none 0 0, .slice none 0 0, .int .i64 0, .int .i64 0, .slice none 0 0] 41)) ∧ Aside0 (Kd.R k44 44 w' w6.heap.size (fun k => w6.heap.size ≤ k) (.slice A5 xs.length c5) xs) ∧ Aside0 (Kd.R (Kd.int .u64) 36 w' (w.heap.size + 2) (fun k => w.heap.size + 2 ≤ k ∧ k < w2.heap.size) (.slice V2 x2.length t2) x2) ∧ Aside0 (Kd.R (Kd.int .u64) 36 w' (w.heap.size + 2) (fun k => w.heap.size + 2 ≤ k ∧ k < w3.heap.size) (.slice V3 x3.length t3) x3) ∧ Aside0 (Wrote (fun k => k = q) w w') ∧ Aside0 (w6.heap.size ≤ w'.heap.size))
 case atStart => exact ⟨0, [], none, 0, a6, d6, rfl, ⟨by omega⟩, ⟨by omega⟩, HR, ⟨Got.rep0 _ _ _ _⟩, ⟨fun _ => Nat.zero_le _⟩, HF, HG2, ⟨Kd.R_nil _ _ _ _ _⟩, HV2, HV3, HW, ⟨Nat.le_refl _⟩⟩
 case round =>
  clear HF HG2 HR HV2 HV3 HW
  obtain ⟨i, xs, A5, c5, a7, d7, rfl, HI, HI1, HR, HP, HX, HF, HG2, HV5, HV2, HV3, HW, HS6⟩ := hrel
  obtain ⟨⟨p0, p1, p2⟩, _⟩ := rr3 HR.out.st
  cases gk with
  | zero => exact absurd HI1.out (by omega)
  | succ k1 =>
   by_cases ci : i < x6.toNat
   ·
    have cib : decide ((i : Int) < x6) = true := decide_eq_true (by omega)
    cases d7 with
    | false =>
     have hx := HX.out rfl
     have hle9 := HR.out.at_
     have hbl := HR.out.len
     have HXL := Aside0.mk (show xs.length ≤ 262144 by omega)
     have hw2 : wrap64 ((i : Int) + 1) = (i : Int) + 1 := by have := HU6.out.2; unfold wrap64; omega
     obtain ⟨kk, hK, haK, hgot, hlt⟩ := got_ins b a7 HR.out.bts hbl hle9
     obtain ⟨y, hy⟩ : ∃ y, b.drop a7 = y := ⟨_, rfl⟩
     rw [hy] at hK hgot hlt
     obtain ⟨A', hcut, hC, hl⟩ := cut_drop_int (P := Tryd.prog) (k := .u8) 27 5 Tryd.underlying27 winfo8 A c b y a7 hle9 HR.out.cap hy
     have hGC : ∀ W, Kd.C (Kd.int .u8) W A' y.length y → Calls Tryd.prog 24 #[.slice A' y.length (c - a7)] W fun e w' => e = .returned (.tuple #[.agg #[.int .i64 (cgL y).1, .int .i64 (cgL y).2.1], .int .i64 (cgL y).2.2.1, .int .i64 (cgL y).2.2.2]) ∧ Below W.heap.size W w' := fun W hCW => refGet10.calls A' (c - a7) y W hCW hl (by rw [← hy]; exact HR.out.bts.drop a7) (by rw [← hy, List.length_drop]; omega)
     obtain ⟨⟨ko, ka, ks, ke⟩, hcg⟩ : ∃ p, cgL y = p := ⟨_, rfl⟩
     rw [hcg] at hK hgot hlt hGC
     simp only at hK
     subst hK
     obtain ⟨df, hdf⟩ : ∃ df, (ke != 0) = df := ⟨_, rfl⟩
     rw [hdf] at hgot hlt
     have HGC := Aside0.mk hGC
     have HY := Aside0.mk hC
     have HCW := Aside0.mk (show Kd.C (Kd.int .u8) wr A b.length b from Kd.C_below HR.out.C HR.out.below)
     have HGN := Aside0.mk (And.intro haK (And.intro (HP.out.next hgot) hlt))
     have hw3 : wrap64 ((a7 : Int) + (kk : Int)) = ((a7 + kk : Nat) : Int) := by unfold wrap64; omega
     clear hGC hC hl hcg hgot hlt haK hy hx hle9 hbl
     go_wp2_with fail
     refine start_ (n := 18) (S := fun w' => w'.cell? ⟨q, 0, none⟩ = some (.slice A b.length c) ∧ w'.cell? ⟨q, 1, none⟩ = some (.int .i64 (a7 : Int))) (ds := [15]) #[false, false, false, false, false, false, false, false, false, false, false, false, false, false, false, false, false, false] (by kernel_rfl) rfl rfl ⟨p0, p1⟩ (fun hHeld => ?_)
     refine pure_ (i := 0) (N := some 41) (v := ?_) (a' := ?_) #[true, false, false, false, false, false, false, false, false, false, false, false, false, false, false, false, false, false] rfl rfl (by kernel_rfl) (fun _ _ _ h => h) (Or.inl ⟨by rfl, ?_⟩) ?_ ?_
     rotate_left
     ·
      intro w'
      go_simp
      with_reducible rfl
     rotate_left
     ·
      simp only [Act.put, List.setIfInBounds_toArray, List.set_cons_zero, List.set_cons_succ, i64_w, i32_w]
      rfl
     refine pure_ (i := 1) (N := some 42) (v := ?_) (a' := ?_) #[true, true, false, false, false, false, false, false, false, false, false, false, false, false, false, false, false, false] rfl rfl (by kernel_rfl) (fun _ _ _ h => h) (Or.inl ⟨by rfl, ?_⟩) ?_ ?_
     rotate_left
     ·
      intro w'
      go_simp
      with_reducible rfl
     rotate_left
     ·
      simp only [Act.put, List.setIfInBounds_toArray, List.set_cons_zero, List.set_cons_succ, i64_w, i32_w]
      rfl
     refine pure_ (i := 2) (N := some 43) (v := ?_) (a' := ?_) #[true, true, true, false, false, false, false, false, false, false, false, false, false, false, false, false, false, false] rfl rfl (by kernel_rfl) (fun _ _ _ h => h) (Or.inl ⟨by rfl, ?_⟩) ?_ ?_
     rotate_left
     ·
      intro w'
      go_simp
      with_reducible rfl
     rotate_left
     ·
      simp only [Act.put, List.setIfInBounds_toArray, List.set_cons_zero, List.set_cons_succ, i64_w, i32_w]
      rfl
     refine pure_ (i := 4) (N := some 45) (v := ?_) (a' := ?_) #[true, true, true, false, true, false, false, false, false, false, false, false, false, false, false, false, false, false] rfl rfl (by kernel_rfl) (fun _ _ _ h => h) (Or.inl ⟨by rfl, ?_⟩) ?_ ?_
     rotate_left
     ·
      intro w'
      go_simp
      with_reducible rfl
     rotate_left
     ·
      simp only [Act.put, List.setIfInBounds_toArray, List.set_cons_zero, List.set_cons_succ, i64_w, i32_w]
      rfl
     refine pure_ (i := 5) (N := some 46) (v := ?_) (a' := ?_) #[true, true, true, false, true, true, false, false, false, false, false, false, false, false, false, false, false, false] rfl rfl (by kernel_rfl) (fun _ _ _ h => h) (Or.inl ⟨by rfl, ?_⟩) ?_ ?_
     rotate_left
     ·
      intro w'
      go_simp
      with_reducible rfl
     rotate_left
     ·
      simp only [Act.put, List.setIfInBounds_toArray, List.set_cons_zero, List.set_cons_succ, i64_w, i32_w]
      rfl
     refine pure_ (i := 6) (N := some 47) (v := ?_) (a' := ?_) #[true, true, true, false, true, true, true, false, false, false, false, false, false, false, false, false, false, false] rfl rfl (by kernel_rfl) (fun _ _ _ h => h) (Or.inl ⟨by rfl, ?_⟩) ?_ ?_
     rotate_left
     ·
      intro w'
      go_simp
      with_reducible rfl
     rotate_left
     ·
      simp only [Act.put, List.setIfInBounds_toArray, List.set_cons_zero, List.set_cons_succ, i64_w, i32_w]
      rfl
     refine take_ (i := 3) (N := some 44) (v := ?_) (a' := ?_) #[true, true, true, true, true, true, true, false, false, false, false, false, false, false, false, false, false, false] rfl rfl (by kernel_rfl) (fun _ _ _ h => h) (Or.inl ⟨by rfl, ?_⟩) hHeld ?_ ?_
     rotate_left
     ·
      rintro w' ⟨s0, s1⟩
      go_simp
      with_reducible rfl
     rotate_left
     ·
      simp only [Act.put, List.setIfInBounds_toArray, List.set_cons_zero, List.set_cons_succ, i64_w, i32_w]
      rfl
     refine take_ (i := 7) (N := some 48) (v := ?_) (a' := ?_) #[true, true, true, true, true, true, true, true, false, false, false, false, false, false, false, false, false, false] rfl rfl (by kernel_rfl) (fun _ _ _ h => h) (Or.inl ⟨by rfl, ?_⟩) hHeld ?_ ?_
     rotate_left
     ·
      rintro w' ⟨s0, s1⟩
      go_simp
      with_reducible rfl
     rotate_left
     ·
      simp only [Act.put, List.setIfInBounds_toArray, List.set_cons_zero, List.set_cons_succ, i64_w, i32_w]
      rfl
     refine pure_ (i := 8) (N := some 49) (v := ?_) (a' := ?_) #[true, true, true, true, true, true, true, true, true, false, false, false, false, false, false, false, false, false] rfl rfl (by kernel_rfl) (fun _ _ _ h => h) (Or.inl ⟨by rfl, ?_⟩) ?_ ?_
     rotate_left
     ·
      intro w'
      go_simp
      with_reducible rfl
     rotate_left
     ·
      simp only [Act.put, List.setIfInBounds_toArray, List.set_cons_zero, List.set_cons_succ, i64_w, i32_w]
      rfl
     refine join_ (σ := Nat) 3 #[true, true, true, true, true, true, true, true, true, true, true, true, true, true, true, false, false, false] (fun s => [(50, .tuple #[.agg #[.int .i64 ko, .int .i64 ka], .int .i64 (kk : Int), .int .i64 ke]), (40, .tuple #[.agg #[.int .i64 ko, .int .i64 ka], .int .i64 (kk : Int), .int .i64 ke]), (51, .agg #[.int .i64 ko, .int .i64 ka]), (52, .int .i64 (kk : Int)), (53, .int .i64 ke), (7, .pointer (some ⟨s, 0, none⟩))]) (fun s w' => w'.heap[s]? = some (.cells #[.int .i64 0, .int .i64 0] 44 (0, 0)) ∧ w'.cell? ⟨q, 0, none⟩ = some (.slice A b.length c) ∧ w'.cell? ⟨q, 1, none⟩ = some (.int .i64 (a7 : Int)) ∧ wr.heap.size ≤ s ∧ Below wr.heap.size wr w') ?_ ?_
     rotate_left
     ·
      intro hCont
      refine two_ (i := 9) (j := 14) (Ni := some 50) (Nj := some 7) #[true, true, true, true, true, true, true, true, true, true, false, false, false, false, false, false, false, false] #[true, true, true, true, true, true, true, true, true, false, false, false, false, false, true, false, false, false] rfl rfl rfl rfl (by kernel_rfl) (by decide) (by decide) (fun K hK => ?_) (fun K hK => ?_)
      ·
       skip
       refine goes_ Tryd.func24 (by kernel_rfl) rfl #[.slice A' y.length (c - a7)] (by rfl) rfl rfl (by simp only [List.map_toArray, List.map_cons, List.map_nil]; rfl) ?_
       with_reducible refine (HGC.out _ (HY.out _ (Kd.C_below HCW.out (below_drew1 (Below.refl wr.heap.size wr))))).mono ?_
       rintro e w8 ⟨rfl, hb8⟩
       refine ⟨_, rfl, ?_⟩
       refine hK.out _ _ ⟨((hb8.cell (World.block_lt_of_cell? _ _ hHeld.1)).trans hHeld.1), ((hb8.cell (World.block_lt_of_cell? _ _ hHeld.2)).trans hHeld.2)⟩ (fun hHeld => ?_)
       clear hK K
       refine norm_ (a' := ?_) ?_ ?_
       rotate_left
       ·
        show Act.put _ (some 50) _ = _
        simp only [Act.put, List.setIfInBounds_toArray, List.set_cons_zero, List.set_cons_succ, i64_w, i32_w]
        rfl
       refine pure_ (i := 10) (N := some 40) (v := ?_) (a' := ?_) #[true, true, true, true, true, true, true, true, true, true, true, false, false, false, false, false, false, false] rfl rfl (by kernel_rfl) (fun _ _ _ h => h) (Or.inl ⟨by rfl, ?_⟩) ?_ ?_
       rotate_left
       ·
        intro w'
        go_simp
        with_reducible rfl
       rotate_left
       ·
        simp only [Act.put, List.setIfInBounds_toArray, List.set_cons_zero, List.set_cons_succ, i64_w, i32_w]
        rfl
       refine pure_ (i := 11) (N := some 51) (v := ?_) (a' := ?_) #[true, true, true, true, true, true, true, true, true, true, true, true, false, false, false, false, false, false] rfl rfl (by kernel_rfl) (fun _ _ _ h => h) (Or.inl ⟨by rfl, ?_⟩) ?_ ?_
       rotate_left
       ·
        intro w'
        go_simp
        with_reducible rfl
       rotate_left
       ·
        simp only [Act.put, List.setIfInBounds_toArray, List.set_cons_zero, List.set_cons_succ, i64_w, i32_w]
        rfl
       refine pure_ (i := 12) (N := some 52) (v := ?_) (a' := ?_) #[true, true, true, true, true, true, true, true, true, true, true, true, true, false, false, false, false, false] rfl rfl (by kernel_rfl) (fun _ _ _ h => h) (Or.inl ⟨by rfl, ?_⟩) ?_ ?_
       rotate_left
       ·
        intro w'
        go_simp
        with_reducible rfl
       rotate_left
       ·
        simp only [Act.put, List.setIfInBounds_toArray, List.set_cons_zero, List.set_cons_succ, i64_w, i32_w]
        rfl
       refine pure_ (i := 13) (N := some 53) (v := ?_) (a' := ?_) #[true, true, true, true, true, true, true, true, true, true, true, true, true, true, false, false, false, false] rfl rfl (by kernel_rfl) (fun _ _ _ h => h) (Or.inl ⟨by rfl, ?_⟩) ?_ ?_
       rotate_left
       ·
        intro w'
        go_simp
        with_reducible rfl
       rotate_left
       ·
        simp only [Act.put, List.setIfInBounds_toArray, List.set_cons_zero, List.set_cons_succ, i64_w, i32_w]
        rfl
       refine one_ (i := 14) (N := some 7) #[true, true, true, true, true, true, true, true, true, true, true, true, true, true, true, false, false, false] rfl rfl (by kernel_rfl) (by decide) (fun K hK => ?_)
       refine value_ (w1 := ?_) (v := ?_) (by rfl) rfl ?_ ?_
       rotate_left 2
       ·
        go_simp
        constructor
        ·
         rfl
        ·
         rfl
       refine hK.out _ _ ⟨(pw_cell_below (below_alloc (Below.refl _ _) _) hHeld.1), (pw_cell_below (below_alloc (Below.refl _ _) _) hHeld.2)⟩ (fun hHeld => ?_)
       clear hK K
       refine norm_ (a' := ?_) ?_ ?_
       rotate_left
       ·
        show Act.put _ (some 7) _ = _
        simp only [Act.put, List.setIfInBounds_toArray, List.set_cons_zero, List.set_cons_succ, i64_w, i32_w]
        rfl
       exact norm_ (by simp only [putAll, Act.put, List.setIfInBounds_toArray, List.set_cons_zero, List.set_cons_succ]) (hCont w8.heap.size _ ⟨heap_alloc_new w8 _, hHeld.1, hHeld.2, below_size (below_step (below_drew1 (Below.refl wr.heap.size wr)) hb8), below_alloc (below_step (below_drew1 (Below.refl wr.heap.size wr)) hb8) _⟩)
      ·
       skip
       refine value_ (w1 := ?_) (v := ?_) (by rfl) rfl ?_ ?_
       rotate_left 2
       ·
        go_simp
        constructor
        ·
         rfl
        ·
         rfl
       refine hK.out _ _ ⟨(pw_cell_below (below_alloc (Below.refl _ _) _) hHeld.1), (pw_cell_below (below_alloc (Below.refl _ _) _) hHeld.2)⟩ (fun hHeld => ?_)
       clear hK K
       refine norm_ (a' := ?_) ?_ ?_
       rotate_left
       ·
        show Act.put _ (some 7) _ = _
        simp only [Act.put, List.setIfInBounds_toArray, List.set_cons_zero, List.set_cons_succ, i64_w, i32_w]
        rfl
       refine one_ (i := 9) (N := some 50) #[true, true, true, true, true, true, true, true, true, true, false, false, false, false, true, false, false, false] rfl rfl (by kernel_rfl) (by decide) (fun K hK => ?_)
       refine goes_ Tryd.func24 (by kernel_rfl) rfl #[.slice A' y.length (c - a7)] (by rfl) rfl rfl (by simp only [List.map_toArray, List.map_cons, List.map_nil]; rfl) ?_
       with_reducible refine (HGC.out _ (HY.out _ (Kd.C_below HCW.out (below_drew1 (below_alloc (Below.refl wr.heap.size wr) _))))).mono ?_
       rintro e w8 ⟨rfl, hb8⟩
       refine ⟨_, rfl, ?_⟩
       refine hK.out _ _ ⟨((hb8.cell (World.block_lt_of_cell? _ _ hHeld.1)).trans hHeld.1), ((hb8.cell (World.block_lt_of_cell? _ _ hHeld.2)).trans hHeld.2)⟩ (fun hHeld => ?_)
       clear hK K
       refine norm_ (a' := ?_) ?_ ?_
       rotate_left
       ·
        show Act.put _ (some 50) _ = _
        simp only [Act.put, List.setIfInBounds_toArray, List.set_cons_zero, List.set_cons_succ, i64_w, i32_w]
        rfl
       refine pure_ (i := 10) (N := some 40) (v := ?_) (a' := ?_) #[true, true, true, true, true, true, true, true, true, true, true, false, false, false, true, false, false, false] rfl rfl (by kernel_rfl) (fun _ _ _ h => h) (Or.inl ⟨by rfl, ?_⟩) ?_ ?_
       rotate_left
       ·
        intro w'
        go_simp
        with_reducible rfl
       rotate_left
       ·
        simp only [Act.put, List.setIfInBounds_toArray, List.set_cons_zero, List.set_cons_succ, i64_w, i32_w]
        rfl
       refine pure_ (i := 11) (N := some 51) (v := ?_) (a' := ?_) #[true, true, true, true, true, true, true, true, true, true, true, true, false, false, true, false, false, false] rfl rfl (by kernel_rfl) (fun _ _ _ h => h) (Or.inl ⟨by rfl, ?_⟩) ?_ ?_
       rotate_left
       ·
        intro w'
        go_simp
        with_reducible rfl
       rotate_left
       ·
        simp only [Act.put, List.setIfInBounds_toArray, List.set_cons_zero, List.set_cons_succ, i64_w, i32_w]
        rfl
       refine pure_ (i := 12) (N := some 52) (v := ?_) (a' := ?_) #[true, true, true, true, true, true, true, true, true, true, true, true, true, false, true, false, false, false] rfl rfl (by kernel_rfl) (fun _ _ _ h => h) (Or.inl ⟨by rfl, ?_⟩) ?_ ?_
       rotate_left
       ·
        intro w'
        go_simp
        with_reducible rfl
       rotate_left
       ·
        simp only [Act.put, List.setIfInBounds_toArray, List.set_cons_zero, List.set_cons_succ, i64_w, i32_w]
        rfl
       refine pure_ (i := 13) (N := some 53) (v := ?_) (a' := ?_) #[true, true, true, true, true, true, true, true, true, true, true, true, true, true, true, false, false, false] rfl rfl (by kernel_rfl) (fun _ _ _ h => h) (Or.inl ⟨by rfl, ?_⟩) ?_ ?_
       rotate_left
       ·
        intro w'
        go_simp
        with_reducible rfl
       rotate_left
       ·
        simp only [Act.put, List.setIfInBounds_toArray, List.set_cons_zero, List.set_cons_succ, i64_w, i32_w]
        rfl
       exact norm_ (by simp only [putAll, Act.put, List.setIfInBounds_toArray, List.set_cons_zero, List.set_cons_succ]) (hCont wr.heap.size _ ⟨blk_below (blk_drew (heap_alloc_new wr _)) hb8, hHeld.1, hHeld.2, Nat.le_refl _, below_step (below_drew1 (below_alloc (Below.refl wr.heap.size wr) _)) hb8⟩)
     rintro s wz ⟨hs, hH1, hH2, hle, hB6⟩
     have hHeld := And.intro hH1 hH2
     obtain ⟨c0', c1', g0', g1'⟩ := facts2 hs
     refine norm_ (a' := ?_) ?_ ?_
     rotate_left
     ·
      simp only [putAll, Act.put, List.setIfInBounds_toArray, List.set_cons_zero, List.set_cons_succ]
      rfl
     refine last_ (i := 15) (N := none) #[true, true, true, true, true, true, true, true, true, true, true, true, true, true, true, true, false, false] rfl rfl (by kernel_rfl) (by decide) (fun K hK => ?_)
     refine skip_ (w1 := ?_) (by rfl) rfl ?_ ?_
     rotate_left
     ·
      go_simp
      rfl
     refine hK.out _ _ ?_
     clear hK K
     refine pure_ (i := 16) (N := some 8) (v := ?_) (a' := ?_) #[true, true, true, true, true, true, true, true, true, true, true, true, true, true, true, true, true, false] rfl rfl (by kernel_rfl) (fun _ _ _ h => h) (Or.inl ⟨by rfl, ?_⟩) ?_ ?_
     rotate_left
     ·
      intro w'
      go_simp
      with_reducible rfl
     rotate_left
     ·
      simp only [Act.put, List.setIfInBounds_toArray, List.set_cons_zero, List.set_cons_succ, i64_w, i32_w]
      rfl
     refine pure_ (i := 17) (N := some 9) (v := ?_) (a' := ?_) #[true, true, true, true, true, true, true, true, true, true, true, true, true, true, true, true, true, true] rfl rfl (by kernel_rfl) (fun _ _ _ h => h) (Or.inl ⟨by rfl, ?_⟩) ?_ ?_
     rotate_left
     ·
      intro w'
      go_simp
      with_reducible rfl
     rotate_left
     ·
      simp only [Act.put, List.setIfInBounds_toArray, List.set_cons_zero, List.set_cons_succ, i64_w, i32_w]
      rfl
     refine done_ (by kernel_rfl) ?_
     have hq9 := HQL.out
     have hs9 := HS0.out
     have hwz := HW.out.size
     have HS1 := Aside0.mk (put2 hs (.int .i64 ko) (.int .i64 ka))
     have hrlt := HR.out.qlt
     have hW1 : Wrote (fun k => k = q) wr ((wz.setCell ⟨s, 0, none⟩ (.int .i64 ko)).setCell ⟨s, 1, none⟩ (.int .i64 ka)) := (((Wrote.refl _ wr).below hB6).setNew hle _).setNew hle _
     have HR1 := Aside0.mk (((HR.out.step hB6).far (g := s) (i := 0) (by omega) (by omega) (.int .i64 ko)).far (g := s) (i := 1) (by omega) (by omega) (.int .i64 ka))
     obtain ⟨W1, hE⟩ : ∃ W, ((wz.setCell ⟨s, 0, none⟩ (.int .i64 ko)).setCell ⟨s, 1, none⟩ (.int .i64 ka)) = W := ⟨_, rfl⟩
     rw [hE] at HS1 hW1 HR1 ⊢
     have HF1 := Aside0.mk (hW1.keep HF.out (by omega))
     have HG1 := Aside0.mk (hW1.keep HG2.out (by omega))
     have HV51 := Aside0.mk (Kd.R_step HV5.out (fun k hk hlt => hW1.block k hlt (by have h1 : w6.heap.size ≤ k := hk; have := HSZ.out; omega)))
     have HV21 := Aside0.mk (Kd.R_step HV2.out (fun k hk hlt => hW1.block k hlt (by have := hk.1; omega)))
     have HV31 := Aside0.mk (Kd.R_step HV3.out (fun k hk hlt => hW1.block k hlt (by have := hk.1; omega)))
     have hsq : s ≠ q := by omega
     have hw13 : Wrote (fun k => k = q) W1 ((W1.setCell ⟨q, 2, none⟩ (.bool df)).setCell ⟨q, 1, none⟩ (.int .i64 ((a7 : Int) + (kk : Int)))) := wrote_put (Below.refl _ _) _ _
     have HW3 := Aside0.mk ((HW.out.then hW1).then hw13)
     have HR3 := Aside0.mk (show Rr w0 ((W1.setCell ⟨q, 2, none⟩ (.bool df)).setCell ⟨q, 1, none⟩ (.int .i64 ((a7 : Int) + (kk : Int)))) q A c b (a7 + kk) df from by have h := HR1.out.put (d' := df) HGN.out.1; rwa [show ((a7 + kk : Nat) : Int) = (a7 : Int) + (kk : Int) by omega] at h)
     have HS3 := Aside0.mk (show w6.heap.size ≤ ((W1.setCell ⟨q, 2, none⟩ (.bool df)).setCell ⟨q, 1, none⟩ (.int .i64 ((a7 : Int) + (kk : Int)))).heap.size from Nat.le_trans (Nat.le_trans HS6.out hW1.size) hw13.size)
     have HF3 := Aside0.mk (hw13.keep HF1.out (by omega))
     have HG3 := Aside0.mk (hw13.keep HG1.out (by omega))
     have hss := hw13.keep HS1.out hsq
     have HV53 := Aside0.mk (Kd.R_step HV51.out (fun k hk hlt => hw13.block k hlt (by have h1 : w6.heap.size ≤ k := hk; have := HSZ.out; omega)))
     have HV23 := Aside0.mk (Kd.R_step HV21.out (fun k hk hlt => hw13.block k hlt (by have := hk.1; omega)))
     have HV33 := Aside0.mk (Kd.R_step HV31.out (fun k hk hlt => hw13.block k hlt (by have := hk.1; omega)))
     clear p0 p1 p2 hs hB6 hle hH1 hH2 hHeld c0' c1' g0' g1' hE hcut
     obtain ⟨⟨p0, p1, p2⟩, z0, z1, z2⟩ := rr3 HR1.out.st
     have hst2 : (W1.setCell ⟨q, 2, none⟩ (.bool df)).cell? ⟨q, 1, none⟩ = some (.int .i64 (a7 : Int)) := blk_cell (blk_put HR1.out.st 2 _ rfl) 1
     have hsf2 : (W1.setCell ⟨q, 2, none⟩ (.bool df)).frozen? ⟨q, 1, none⟩ = false := blk_frozen (blk_put HR1.out.st 2 _ rfl) 1
     have hw4 : wrap64 ((a7 : Int) + (kk : Int)) = (a7 : Int) + (kk : Int) := by rw [hw3]; omega
     have HSS := Aside0.mk hss
     clear hw3 hw13 hW1 hss hwz hrlt
     go_upto_region 15 with fail
     obtain ⟨W3, hE3⟩ : ∃ W, ((W1.setCell ⟨q, 2, none⟩ (.bool df)).setCell ⟨q, 1, none⟩ (.int .i64 ((a7 : Int) + (kk : Int)))) = W := ⟨_, rfl⟩
     rw [hE3] at HR3 HS3 HF3 HG3 HV53 HV23 HV33 HW3 HSS ⊢
     clear hE3 p0 p1 p2 z0 z1 z2 hst2 hsf2
     obtain ⟨⟨n0, n1, n2, n3, n4, n5⟩, r0, r1, r2, r3, r4, r5⟩ := facts6 HF3.out
     obtain ⟨c0', c1', _, _⟩ := facts2 HSS.out
     go_wp2_with (first | ((with_reducible refine gate_builtin (b := .append) (xs := #[.tmp 69, .tmp 71]) rfl ?_); at_builtin; refine Kd.R_append k44 (w0 := W3) w6.heap.size rfl (.tmp 69) (.tmp 71) 39 44 (.agg #[.int .i64 0, .int .i64 0]) 16 rfl Tryd.underlying39 linfoI9 rfl (by decide) (by omega) (.slice A5 xs.length c5) xs (⟨ko, ka⟩ : S44) [.int .i64 ko, .int .i64 ka] (fun k => w6.heap.size ≤ k) (fun _ => False) rfl rfl ?aP (fun _ hk => hk.elim) ?aF ?aO ?aB ?aS ?aL ?_; (case aP => exact ⟨[.int .i64 ko], [.int .i64 ka], rfl, rfl, rfl⟩); (case aB => exact Below.refl _ _); (case aF => exact (fun k hk => Nat.le_trans HS3.out hk)); (case aO => exact HV53.out); (case aS => exact HS3.out); (case aL => have := HXL.out; omega); intro v1 wn ho hb hg hat; obtain ⟨A7, c7, e7, hvn, hrn, hfn, hgn, hv2n, hv3n, hwn, hsn⟩ := fn_tail HV53.out HR3.out HF3.out HG3.out HV23.out HV33.out HW3.out HQL.out HS0.out HSZ.out HS3.out ho hg; subst e7; have HVN := Aside0.mk hvn; have HRN := Aside0.mk hrn; have HFN := Aside0.mk hfn; have HGN2 := Aside0.mk hgn; have HV2N := Aside0.mk hv2n; have HV3N := Aside0.mk hv3n; have HWN := Aside0.mk hwn; have HSN := Aside0.mk hsn; obtain ⟨⟨y0, y1, y2, y3, y4, y5⟩, u0, u1, u2, u3, u4, u5⟩ := facts6 hfn; clear ho hb hg hat hvn hrn hfn hgn hv2n hv3n hwn hsn))
     have hq9' := HQL.out
     have hs9' := HS0.out
     have hsz' := HSZ.out
     have HE := Aside0.mk (fn_round (V := .slice A7 (xs.length + 1) c7) HRN.out HGN2.out HVN.out HV2N.out HV3N.out HWN.out HSN.out hq9' hs9' hsz')
     have HFE := Aside0.mk (blk_put HFN.out 5 (.slice A7 (xs.length + 1) c7) rfl)
     have HXE := Aside0.mk (show df = false → (xs ++ [(⟨ko, ka⟩ : S44)]).length ≤ a7 + kk from fun h => by have h1 := HX.out trivial; have h2 := HGN.out.2.2 h; rw [List.length_append]; simp only [List.length_cons, List.length_nil]; omega)
     have hlen : (xs ++ [(⟨ko, ka⟩ : S44)]).length = xs.length + 1 := by simp
     go_roundg k1
     case measure => omega
     case rel => exact ⟨i + 1, xs ++ [⟨ko, ka⟩], A7, c7, a7 + kk, df, by rw [hw2]; rfl, ⟨by have := HI.out; omega⟩, ⟨by have := HI.out; omega⟩, ⟨HE.out.1⟩, ⟨HGN.out.2.1⟩, HXE, ⟨by rw [hlen]; exact HFE.out⟩, ⟨HE.out.2.1⟩, ⟨by rw [hlen]; exact HE.out.2.2.1⟩, ⟨HE.out.2.2.2.1⟩, ⟨HE.out.2.2.2.2.1⟩, ⟨HE.out.2.2.2.2.2.1⟩, ⟨HE.out.2.2.2.2.2.2⟩⟩
    | true =>
     have hf := HF.out
     have hq9 := HQL.out
     have hs9 := HS0.out
     have hsz := HSZ.out
     have HE := Aside0.mk (fn_exit (x0 := x1) (x3 := x4) (x4 := x5) HR.out HG2.out HV5.out HV2.out HV3.out HW.out hq9 hs9 hsz)
     obtain ⟨⟨n0, n1, n2, n3, n4, n5⟩, r0, r1, r2, r3, r4, r5⟩ := facts6 hf
     obtain ⟨⟨y0, y1, y2, y3, y4, y5⟩, u0, u1, u2, u3, u4, u5⟩ := facts6 HG2.out
     clear hf hq9 hs9 hsz
     have HLTT := Aside0.mk (show true = false → a < a7 from fun h => by cases h)
     have HGOT := Aside0.mk (Got.fn HGT1.out HGT2.out HGT3.out HGT4.out HGT5.out (HGT6.out.all (HP.out.stop (by omega))))
     go_wp2
     refine bodyPost_ret (results_cell_row rfl _ _ w.heap.size 41 #[.int .u64 x1, .slice V2 x2.length t2, .slice V3 x3.length t3, .int .i64 x4, .int .i64 x5, .slice A5 xs.length c5] (0, 0) _ rfl HE.out.1 Tryd.underlying41 rfl (by kernel_rfl)) rfl ?_
     exact ⟨[.int .u64 x1, .slice V2 x2.length t2, .slice V3 x3.length t3, .int .i64 x4, .int .i64 x5, .slice A5 xs.length c5], ⟨x1, x2, x3, x4, x5, xs⟩, a7, true, rfl, rfl, HE.out.2.1, HE.out.2.2.1, HE.out.2.2.2, HGOT.out, HLTT.out⟩
   ·
    have cib : decide ((i : Int) < x6) = false := decide_eq_false (by omega)
    have HI2 := Aside0.mk (show i = x6.toNat by have := HI.out; omega)
    have hf := HF.out
    have hq9 := HQL.out
    have hs9 := HS0.out
    have hsz := HSZ.out
    have HE := Aside0.mk (fn_exit (x0 := x1) (x3 := x4) (x4 := x5) HR.out HG2.out HV5.out HV2.out HV3.out HW.out hq9 hs9 hsz)
    obtain ⟨⟨n0, n1, n2, n3, n4, n5⟩, r0, r1, r2, r3, r4, r5⟩ := facts6 hf
    obtain ⟨⟨y0, y1, y2, y3, y4, y5⟩, u0, u1, u2, u3, u4, u5⟩ := facts6 HG2.out
    clear hf hq9 hs9 hsz
    have HLTT := Aside0.mk (show d7 = false → a < a7 from fun h => by have g6 := HGT6.out.1; have g5 := HGT5.out.1; have g4 := HGT4.out.1; have g3 := HGT3.out.1; have g2 := HGT2.out.1; have g1 := HGT1.out.1; have gp := HP.out.1; have l6 := HLT6.out; have gd := HP.out.2.1; cases hd6 : d6 with | true => (have := gd hd6; rw [h] at this; cases this) | false => (have := l6 hd6; omega))
    have HGOT := Aside0.mk (Got.fn HGT1.out HGT2.out HGT3.out HGT4.out HGT5.out (HGT6.out.all (by rw [← HI2.out]; exact HP.out)))
    go_wp2
    refine bodyPost_ret (results_cell_row rfl _ _ w.heap.size 41 #[.int .u64 x1, .slice V2 x2.length t2, .slice V3 x3.length t3, .int .i64 x4, .int .i64 x5, .slice A5 xs.length c5] (0, 0) _ rfl HE.out.1 Tryd.underlying41 rfl (by kernel_rfl)) rfl ?_
    exact ⟨[.int .u64 x1, .slice V2 x2.length t2, .slice V3 x3.length t3, .int .i64 x4, .int .i64 x5, .slice A5 xs.length c5], ⟨x1, x2, x3, x4, x5, xs⟩, a7, d7, rfl, rfl, HE.out.2.1, HE.out.2.2.1, HE.out.2.2.2, HGOT.out, HLTT.out⟩
end Go.Proofs.YtgpdaihfjnihhaaDoor.PJ
