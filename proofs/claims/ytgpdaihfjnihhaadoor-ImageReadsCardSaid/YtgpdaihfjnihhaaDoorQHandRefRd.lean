/- The document's reader of images: Read, by hand. -/
import Derived.Test.YtgpdaihfjnihhaaDoorQPJx0
import Derived.Test.YtgpdaihfjnihhaaDoorQPA
import Derived.Test.YtgpdaihfjnihhaaDoorQHandRefFn
import Derived.Test.YtgpdaihfjnihhaaDoorQHandRead
namespace Go.Proofs.YtgpdaihfjnihhaaDoor.PJ
open Go.RowKit Go.Proofs.YtgpdaihfjnihhaaDoorW.PrintWords Go.Proofs.YtgpdaihfjnihhaaDoorW.PrintLast Go.Proofs.YtgpdaihfjnihhaaDoorW.PrintMore Go.Proofs.YtgpdaihfjnihhaaDoor.LebPure Go.Proofs.YtgpdaihfjnihhaaDoor.LebForm Go.Proofs.YtgpdaihfjnihhaaDoor.B64
set_option linter.unusedSimpArgs false
set_option linter.unusedVariables false
theorem Got.mod {b : List Int} {a0 a1 a2 a3 a4 : Nat} {d0 d1 d2 d3 d4 : Bool} {x0 x2 : List Int} {x1 : List S38} {x3 : List S41} (h1 : Got (rdAll rdNum) b a0 d0 x0 a1 d1) (h2 : Got (rdAll rdArr) b a1 d1 x1 a2 d2) (h3 : Got (rdAll rdNum) b a2 d2 x2 a3 d3) (h4 : Got (rdAll rdFn) b a3 d3 x3 a4 d4) : Got rdMod b a0 d0 ((x0, x1, x2, x3) : ModL) a4 d4 := by
 have g4 := h4.map (fun f => ((x0, x1, x2, f) : ModL))
 have g3 := Got.bind (g2 := fun (c : List Int) l => (rdAll rdFn l).map fun f => (((x0, x1, c, f.1) : ModL), f.2)) h3 g4
 have g2 := Got.bind (g2 := fun (b' : List S38) l => (rdAll rdNum l).bind fun c => (rdAll rdFn c.2).map fun f => (((x0, b', c.1, f.1) : ModL), f.2)) h2 g3
 exact (Got.bind (g2 := fun (a' : List Int) l => (rdAll rdArr l).bind fun b' => (rdAll rdNum b'.2).bind fun c => (rdAll rdFn c.2).map fun f => (((a', b'.1, c.1, f.1) : ModL), f.2)) h1 g2).congr (fun _ => rfl)
theorem Got.arr {b : List Int} {a0 a1 a2 : Nat} {d0 d1 d2 : Bool} {n m : Int} (h1 : Got rdInt b a0 d0 n a1 d1) (h2 : Got rdNum b a1 d1 m a2 d2) : Got rdArr b a0 d0 ⟨n, m⟩ a2 d2 :=
 (Got.bind (g2 := fun (n : Int) l => (rdNum l).map fun q => ((⟨n, q.1⟩ : S38), q.2)) h1 (h2.map (fun m => (⟨n, m⟩ : S38)))).congr (fun _ => rfl)
def RefOut (B : Nat) (w' : World) (e : Ending) (m : ModL) (f : Int) : Prop := ∃ A0 c0 A1 c1 A2 c2 A3 c3, e = .returned (.tuple #[.agg #[.slice A0 m.1.length c0, .slice A1 m.2.1.length c1, .slice A2 m.2.2.1.length c2, .slice A3 m.2.2.2.length c3], .int .i64 f]) ∧ (m.1.length ≤ c0 ∧ m.2.1.length ≤ c1 ∧ m.2.2.1.length ≤ c2 ∧ m.2.2.2.length ≤ c3) ∧
 ∀ W : World, (∀ k, B ≤ k → k < w'.heap.size → W.heap[k]? = w'.heap[k]?) → Kd.C (Kd.int .u64) W A0 m.1.length m.1 ∧ Kd.C k38 W A1 m.2.1.length m.2.1 ∧ Kd.C (Kd.int .u64) W A2 m.2.2.1.length m.2.2.1 ∧ Kd.C k41 W A3 m.2.2.2.length m.2.2.2
theorem refOut_none (B : Nat) (w' : World) (f : Int) : RefOut B w' (.returned (.tuple #[.agg #[.slice none 0 0, .slice none 0 0, .slice none 0 0, .slice none 0 0], .int .i64 f])) ([], [], [], []) f :=
 ⟨none, 0, none, 0, none, 0, none, 0, rfl, ⟨Nat.le_refl _, Nat.le_refl _, Nat.le_refl _, Nat.le_refl _⟩, fun W _ => ⟨Kd.C_nil _ _, Kd.C_nil _ _, Kd.C_nil _ _, Kd.C_nil _ _⟩⟩
theorem take_four (l : List Int) (h : 4 ≤ l.length) : l.take 4 = [l[0], l[1], l[2], l[3]] := by
 match l, h with
 | a :: b :: c :: d :: r, _ => rfl
theorem sum_ne {data X : List Int} {s : Int} {N i : Nat} (hN : data.length = N + 8) (hX : data.take N = X) (hs : sumL X = s) (hi : i < 8) (hne : data.getD (N + i) 0 ≠ s / 2 ^ (56 - 8 * i) % 256) : data.drop (data.length - 8) ≠ eightL (sumL (data.take (data.length - 8))) := by
 rw [show data.length - 8 = N by omega, hX, hs]
 intro h
 apply hne
 have h1 : (data.drop N).getD i 0 = (eightL s).getD i 0 := by rw [h]
 rw [List.getD_eq_getElem?_getD, List.getElem?_drop, ← List.getD_eq_getElem?_getD] at h1
 rw [h1]
 unfold eightL
 rw [List.getD_eq_getElem?_getD, List.getElem?_map, List.getElem?_range hi]
 rfl
theorem sum_eq {data X : List Int} {s : Int} {N : Nat} (hN : data.length = N + 8) (hX : data.take N = X) (hs : sumL X = s) (h : ∀ j, j < 8 → data.getD (N + j) 0 = s / 2 ^ (56 - 8 * j) % 256) : ¬ data.drop (data.length - 8) ≠ eightL (sumL (data.take (data.length - 8))) := by
 rw [show data.length - 8 = N by omega, hX, hs]
 refine not_not_intro (List.ext_getElem (by rw [List.length_drop, eightL_length]; omega) (fun j h1 h2 => ?_))
 rw [eightL_length] at h2
 have h3 := h j h2
 rw [List.getD_eq_getElem?_getD, List.getElem?_eq_getElem (by omega), Option.getD_some] at h3
 rw [List.getElem_drop, h3]
 simp [eightL]
theorem row_tail {α : Type} {k9 : Kd α} {e : Nat} {wr W wn : World} {a9 c : Nat} {A A5 : Option Addr} {b : List Int} {df : Bool} {c5 : Nat} {xs : List α} {x : α} {v1 : Value} {ob : Obj} (hV5 : Kd.R k9 e W (wr.heap.size + 2) (fun k => wr.heap.size + 2 ≤ k) (.slice A5 xs.length c5) xs)
  (hR : Rr wr W wr.heap.size A c b a9 df) (hF : W.heap[wr.heap.size + 1]? = some ob) (hz : wr.heap.size + 2 ≤ W.heap.size) (ho : Kd.R k9 e wn (wr.heap.size + 2) (fun k => wr.heap.size + 2 ≤ k) v1 (xs ++ [x])) (hg : W.grownBy wn (Value.slice A5 xs.length c5).ownBlock) :
  ∃ A7 c7, v1 = .slice A7 (xs.length + 1) c7 ∧ Kd.R k9 e wn (wr.heap.size + 2) (fun k => wr.heap.size + 2 ≤ k) (.slice A7 (xs.length + 1) c7) (xs ++ [x]) ∧ Rr wr wn wr.heap.size A c b a9 df ∧ wn.heap[wr.heap.size + 1]? = some ob ∧ wr.heap.size + 2 ≤ wn.heap.size := by
 obtain ⟨A7, c7, e7⟩ := Kd.R_slice ho
 rw [show (xs ++ [x]).length = xs.length + 1 by simp] at e7
 subst e7
 have hrow := hV5.1
 refine ⟨A7, c7, rfl, ho, hR.grown hg (fun g e => ?_), ?_, Nat.le_trans hz hg.size⟩
 ·
  have h1 : wr.heap.size + 2 ≤ g := hrow g e
  exact ⟨by omega, by omega⟩
 ·
  exact (hg.block (wr.heap.size + 1) (blk_lt hF) (fun e => by have h1 : wr.heap.size + 2 ≤ wr.heap.size + 1 := hrow _ e.symm; omega)).trans hF
theorem fn_step {wq wr wf W : World} {a9 c n6 c6 : Nat} {A A6 : Option Addr} {b : List Int} {df : Bool} {V2 V5 V4 : Value} {x2 x4 : List Int} {xs : List S38} {ys : List S41} {x : S41} {cs : List Value} {ob : Obj}
  (hba : Below wf.heap.size wf W)     (hR : Rr wq wf wq.heap.size A c b a9 df) (hW : Wrote (fun k => k = wq.heap.size) wr wf) (hz : wq.heap.size + 2 ≤ wr.heap.size) (hM : wr.heap[wq.heap.size + 1]? = some ob) (hN : Kd.N k41 41 wr (wq.heap.size + 2) (fun k => wq.heap.size + 2 ≤ k) (.slice A6 n6 c6) ys)
  (h2 : Kd.R (Kd.int .u64) 36 wr (wq.heap.size + 2) (fun k => wq.heap.size + 2 ≤ k) V2 x2) (h5 : Kd.R k38 38 wr (wq.heap.size + 2) (fun k => wq.heap.size + 2 ≤ k) V5 xs) (h4 : Kd.R (Kd.int .u64) 36 wr (wq.heap.size + 2) (fun k => wq.heap.size + 2 ≤ k) V4 x4)
  (hK : Kd.FK k41 wf (fun k => wr.heap.size ≤ k) x cs) :
  Rr wq W wq.heap.size A c b a9 df ∧ W.heap[wq.heap.size + 1]? = some ob ∧ Kd.N k41 41 W (wq.heap.size + 2) (fun k => wq.heap.size + 2 ≤ k) (.slice A6 n6 c6) ys ∧ Kd.R (Kd.int .u64) 36 W (wq.heap.size + 2) (fun k => wq.heap.size + 2 ≤ k) V2 x2 ∧ Kd.R k38 38 W (wq.heap.size + 2) (fun k => wq.heap.size + 2 ≤ k) V5 xs ∧
   Kd.R (Kd.int .u64) 36 W (wq.heap.size + 2) (fun k => wq.heap.size + 2 ≤ k) V4 x4 ∧ Kd.FK k41 W (fun k => wr.heap.size ≤ k) x cs ∧ wr.heap.size ≤ W.heap.size ∧ (∀ k, (Value.slice A6 n6 c6).ownBlock = some k → k < wr.heap.size) := by
 have hkeep : ∀ k, wq.heap.size + 2 ≤ k → k < wr.heap.size → W.heap[k]? = wr.heap[k]? := fun k hk hlt => (hba.block k (Nat.lt_of_lt_of_le hlt hW.size)).trans (hW.block k hlt (by show ¬ k = wq.heap.size; omega))
 refine ⟨hR.step hba, blk_below (hW.keep hM (by omega)) hba, Kd.N_step hN hkeep, Kd.R_step h2 hkeep, Kd.R_step h5 hkeep, Kd.R_step h4 hkeep, Kd.FK_step hK (fun k _ hlt => hba.block k hlt), Nat.le_trans hW.size hba.size, Kd.N_lt hN⟩
theorem R_overF {α β : Type} {d : Kd α} {d' : Kd β} {e e' b b' : Nat} {ok ok' : Nat → Prop} {W w1 : World} {u v : Value} {xs : List α} {ys : List β} (h : d.R e W b ok u xs) (hv : Kd.N d' e' W b' ok' v ys) (ht : ∀ q, q ∈ e :: d.E → q ≠ e') (hg : W.grownBy w1 v.ownBlock) : d.R e w1 b ok u xs := by
 obtain ⟨_, rows, _, hR, _⟩ := hv
 exact Kd.R_over h hR ht hg
theorem fn_tail9 {wq W wn : World} {a9 c n6 c6 : Nat} {A A6 : Option Addr} {b : List Int} {df : Bool} {ys : List S41} {x : S41} {v1 : Value} {ob : Obj} {V2 V5 V4 : Value} {x2 x4 : List Int} {xs : List S38}
  (hN : Kd.N k41 41 W (wq.heap.size + 2) (fun k => wq.heap.size + 2 ≤ k) (.slice A6 n6 c6) ys) (hR : Rr wq W wq.heap.size A c b a9 df) (hF : W.heap[wq.heap.size + 1]? = some ob) (hz : wq.heap.size + 2 ≤ W.heap.size)
  (h2 : Kd.R (Kd.int .u64) 36 W (wq.heap.size + 2) (fun k => wq.heap.size + 2 ≤ k) V2 x2) (h5 : Kd.R k38 38 W (wq.heap.size + 2) (fun k => wq.heap.size + 2 ≤ k) V5 xs) (h4 : Kd.R (Kd.int .u64) 36 W (wq.heap.size + 2) (fun k => wq.heap.size + 2 ≤ k) V4 x4)
  (ho : Kd.N k41 41 wn (wq.heap.size + 2) (fun k => wq.heap.size + 2 ≤ k) v1 (ys ++ [x])) (hg : W.grownBy wn (Value.slice A6 n6 c6).ownBlock) :
  ∃ A7 c7, v1 = .slice A7 (ys.length + 1) c7 ∧ Kd.N k41 41 wn (wq.heap.size + 2) (fun k => wq.heap.size + 2 ≤ k) (.slice A7 (ys.length + 1) c7) (ys ++ [x]) ∧ Rr wq wn wq.heap.size A c b a9 df ∧ wn.heap[wq.heap.size + 1]? = some ob ∧ wq.heap.size + 2 ≤ wn.heap.size ∧
   Kd.R (Kd.int .u64) 36 wn (wq.heap.size + 2) (fun k => wq.heap.size + 2 ≤ k) V2 x2 ∧ Kd.R k38 38 wn (wq.heap.size + 2) (fun k => wq.heap.size + 2 ≤ k) V5 xs ∧ Kd.R (Kd.int .u64) 36 wn (wq.heap.size + 2) (fun k => wq.heap.size + 2 ≤ k) V4 x4 := by
 obtain ⟨A7, c7, e7⟩ := Kd.N_slice ho
 rw [show (ys ++ [x]).length = ys.length + 1 by simp] at e7
 subst e7
 have hrow : ∀ g, (Value.slice A6 n6 c6).ownBlock = some g → wq.heap.size + 2 ≤ g := fun g e => by
  obtain ⟨_, rows, _, hr, _⟩ := hN
  obtain ⟨inner, hw⟩ := Kd.R_own hr
  exact own_base hw g e
 refine ⟨A7, c7, rfl, ho, hR.grown hg (fun g e => ?_), ?_, Nat.le_trans hz hg.size, R_overF h2 hN (fun z hz => by have h1 : z ∈ [36] := hz; rw [List.mem_singleton.1 h1]; decide) hg, R_overF h5 hN (fun z hz => by have h1 : z ∈ [38] := hz; rw [List.mem_singleton.1 h1]; decide) hg, R_overF h4 hN (fun z hz => by have h1 : z ∈ [36] := hz; rw [List.mem_singleton.1 h1]; decide) hg⟩
 ·
  have h1 := hrow g e
  exact ⟨by omega, by omega⟩
 ·
  exact (hg.block (wq.heap.size + 1) (blk_lt hF) (fun e => by have h1 := hrow _ e.symm; omega)).trans hF
theorem R_far4 {α : Type} {d : Kd α} {e base g : Nat} {W : World} {ok : Nat → Prop} {v : Value} {xs : List α} (h : Kd.R d e W base ok v xs) (hok : ∀ k, ok k → k ≠ g) (v0 v1 v2 v3 : Value) : Kd.R d e ((((W.setCell ⟨g, 0, none⟩ v0).setCell ⟨g, 1, none⟩ v1).setCell ⟨g, 2, none⟩ v2).setCell ⟨g, 3, none⟩ v3) base ok v xs :=
 Kd.R_far (p := ⟨g, 3, none⟩) (Kd.R_far (p := ⟨g, 2, none⟩) (Kd.R_far (p := ⟨g, 1, none⟩) (Kd.R_far (p := ⟨g, 0, none⟩) h hok v0) hok v1) hok v2) hok v3
theorem N_far4 {α : Type} {d : Kd α} {e base g : Nat} {W : World} {ok : Nat → Prop} {v : Value} {xs : List α} (h : Kd.N d e W base ok v xs) (hok : ∀ k, ok k → k ≠ g) (v0 v1 v2 v3 : Value) : Kd.N d e ((((W.setCell ⟨g, 0, none⟩ v0).setCell ⟨g, 1, none⟩ v1).setCell ⟨g, 2, none⟩ v2).setCell ⟨g, 3, none⟩ v3) base ok v xs :=
 Kd.N_far (p := ⟨g, 3, none⟩) (Kd.N_far (p := ⟨g, 2, none⟩) (Kd.N_far (p := ⟨g, 1, none⟩) (Kd.N_far (p := ⟨g, 0, none⟩) h hok v0) hok v1) hok v2) hok v3
theorem read_bad {data X : List Int} {N a : Nat} {d : Bool} {m : ModL} (hN : data.length = N + 8) (h0 : data.length ≤ 262144) (h : ¬ (data.length < 12 ∨ data.take 4 ≠ magicL)) (h2 : ¬ data.drop (data.length - 8) ≠ eightL (sumL (data.take (data.length - 8)))) (hX : data.take N = X) (hXL : X.length = N) (hG : Got rdMod X 4 false m a d) (ha : a ≤ X.length) (hb : d = true ∨ a ≠ N) : readM data = (([], [], [], []), 120) := by
 refine readM_none9 h0 h h2 (fun m2 => ?_)
 rw [show data.length - 8 = N by omega, hX]
 rcases hG.2.2 rfl with ⟨e1, e2⟩ | ⟨e1, e2⟩
 ·
  rw [e2]
  intro hh
  injection hh with hh
  injection hh with _ hh
  rcases hb with hb | hb
  ·
   rw [e1] at hb; cases hb
  ·
   have : (X.drop a).length = 0 := by rw [hh]; rfl
   rw [List.length_drop] at this
   omega
 ·
  rw [e2]
  intro hh
  cases hh
theorem read_good {data X : List Int} {N a : Nat} {m : ModL} (hN : data.length = N + 8) (h0 : data.length ≤ 262144) (h : ¬ (data.length < 12 ∨ data.take 4 ≠ magicL)) (h2 : ¬ data.drop (data.length - 8) ≠ eightL (sumL (data.take (data.length - 8)))) (hX : data.take N = X) (hXL : X.length = N) (hG : Got rdMod X 4 false m a false) (ha : a = N) : readM data = (m, 0) := by
 refine readM_rest h0 h h2 ?_
 rw [show data.length - 8 = N by omega, hX]
 rcases hG.2.2 rfl with ⟨e1, e2⟩ | ⟨e1, e2⟩
 ·
  rw [e2, ha, List.drop_of_length_le (by omega)]
 ·
  cases e1
theorem byte_at {w : World} {A : Option Addr} {xs : List Int} (h : Kd.C (Kd.int .u8) w A xs.length xs) (i : Nat) (hi : i < xs.length) : ∃ ad, A = some ad ∧ w.cell? (ad.add i) = some (.int .u8 xs[i]) := by
 obtain ⟨ad, e, hx⟩ := Kd.at_int h (i : Int) (by omega) (by omega)
 refine ⟨ad, e, ?_⟩
 rw [Int.toNat_natCast, rd_get hi] at hx
 exact hx
set_option maxHeartbeats 16000000 in
set_option maxRecDepth 100000 in
theorem refRead.calls (A : Option Addr) (c : Nat) (data : List Int) (hb : Bts data) (w : World) (hc : data.length ≤ c) (hC : Kd.C (Kd.int .u8) w A data.length data) :
  Calls Tryd.prog 43 #[.slice A data.length c] w fun e w' => RefOut w.heap.size w' e (readM data).1 (readM data).2 ∧ Below w.heap.size w w' := by
 have HB0 := Aside0.mk (below_alloc (Below.refl w.heap.size w) (.cells #[.slice none 0 0, .slice none 0 0, .slice none 0 0, .slice none 0 0] 26))
 have HG := Aside0.mk (heap_alloc_new w (.cells #[.slice none 0 0, .slice none 0 0, .slice none 0 0, .slice none 0 0] 26))
 have HC := Aside0.mk (Kd.C_below hC (below_alloc (Below.refl w.heap.size w) (.cells #[.slice none 0 0, .slice none 0 0, .slice none 0 0, .slice none 0 0] 26)))
 have HCC := Aside0.mk hc
 have HBT := Aside0.mk hb
 have hC9 := Aside0.mk hC
 have hmx := Kd.C_max hC
 obtain ⟨⟨m0, m1, m2, m3⟩, u0, u1, u2, u3⟩ := facts4 HG.out
 clear hC hc hb
 by_cases h1 : 262144 < data.length
 ·
  have h1b : decide ((data.length : Int) > 262144) = true := decide_eq_true (by omega)
  rw [readM_long h1]
  go_enter Tryd.func43, Tryd.ntmps43
  go_wp2
  refine bodyPost_ret (results_ct rfl _ _ w.heap.size 26 #[.slice none 0 0, .slice none 0 0, .slice none 0 0, .slice none 0 0] (0, 0) _ rfl HG.out Tryd.underlying26 rfl (by kernel_rfl)) rfl ?_
  exact ⟨refOut_none _ _ _, HB0.out⟩
 have h1b : decide ((data.length : Int) > 262144) = false := decide_eq_false (by omega)
 have hw8 : wrap64 ((data.length : Int) - 8) = (data.length : Int) - 8 := by unfold wrap64; omega
 by_cases h2 : data.length < 12
 ·
  have h2b : decide ((data.length : Int) - 8 < 4) = true := decide_eq_true (by omega)
  rw [readM_form (by omega) (.inl h2)]
  go_enter Tryd.func43, Tryd.ntmps43
  go_wp2
  refine bodyPost_ret (results_ct rfl _ _ w.heap.size 26 #[.slice none 0 0, .slice none 0 0, .slice none 0 0, .slice none 0 0] (0, 0) _ rfl HG.out Tryd.underlying26 rfl (by kernel_rfl)) rfl ?_
  exact ⟨refOut_none _ _ _, HB0.out⟩
 obtain ⟨N, hN⟩ : ∃ N, data.length = N + 8 := ⟨data.length - 8, by omega⟩
 have h2b : decide ((data.length : Int) - 8 < 4) = false := decide_eq_false (by omega)
 have HN := Aside0.mk (And.intro hN (show 4 ≤ N by omega))
 have hbl := Aside0.mk (show data.length ≤ 262144 by omega)
 have h12 := Aside0.mk (show 12 ≤ data.length by omega)
 clear hN
 obtain ⟨ad, eA, x0⟩ := byte_at HC.out 0 (by omega)
 subst eA
 replace x0 : (w.alloc (.cells #[.slice none 0 0, .slice none 0 0, .slice none 0 0, .slice none 0 0] 26)).cell? ad = some (.int .u8 data[0]) := by simpa [Addr.add] using x0
 obtain ⟨_, eA, x1⟩ := byte_at HC.out 1 (by omega)
 obtain rfl := Option.some.inj eA
 obtain ⟨_, eA, x2⟩ := byte_at HC.out 2 (by omega)
 obtain rfl := Option.some.inj eA
 obtain ⟨_, eA, x3⟩ := byte_at HC.out 3 (by omega)
 obtain rfl := Option.some.inj eA
 replace x1 : (w.alloc (.cells #[.slice none 0 0, .slice none 0 0, .slice none 0 0, .slice none 0 0] 26)).cell? ⟨ad.block, ad.off + 1, none⟩ = some (.int .u8 data[1]) := by simpa [Addr.add] using x1
 replace x2 : (w.alloc (.cells #[.slice none 0 0, .slice none 0 0, .slice none 0 0, .slice none 0 0] 26)).cell? ⟨ad.block, ad.off + 2, none⟩ = some (.int .u8 data[2]) := by simpa [Addr.add] using x2
 replace x3 : (w.alloc (.cells #[.slice none 0 0, .slice none 0 0, .slice none 0 0, .slice none 0 0] 26)).cell? ⟨ad.block, ad.off + 3, none⟩ = some (.int .u8 data[3]) := by simpa [Addr.add] using x3
 clear eA
 have ht4 : data.take 4 = [data[0], data[1], data[2], data[3]] := take_four data (by omega)
 by_cases e0 : data[0] = 76
 case neg =>
  have e0b : (data[0] != 76) = true := by simpa using e0
  rw [readM_form (by omega) (.inr (by rw [ht4]; intro h; simp only [magicL, List.cons.injEq] at h; exact e0 h.1))]
  go_enter Tryd.func43, Tryd.ntmps43
  go_wp2
  refine bodyPost_ret (results_ct rfl _ _ w.heap.size 26 #[.slice none 0 0, .slice none 0 0, .slice none 0 0, .slice none 0 0] (0, 0) _ rfl HG.out Tryd.underlying26 rfl (by kernel_rfl)) rfl ?_
  exact ⟨refOut_none _ _ _, HB0.out⟩
 have e0b : (data[0] != 76) = false := by simpa using e0
 by_cases e1 : data[1] = 86
 case neg =>
  have e1b : (data[1] != 86) = true := by simpa using e1
  rw [readM_form (by omega) (.inr (by rw [ht4]; intro h; simp only [magicL, List.cons.injEq] at h; exact e1 h.2.1))]
  go_enter Tryd.func43, Tryd.ntmps43
  go_wp2
  refine bodyPost_ret (results_ct rfl _ _ w.heap.size 26 #[.slice none 0 0, .slice none 0 0, .slice none 0 0, .slice none 0 0] (0, 0) _ rfl HG.out Tryd.underlying26 rfl (by kernel_rfl)) rfl ?_
  exact ⟨refOut_none _ _ _, HB0.out⟩
 have e1b : (data[1] != 86) = false := by simpa using e1
 by_cases e2 : data[2] = 82
 case neg =>
  have e2b : (data[2] != 82) = true := by simpa using e2
  rw [readM_form (by omega) (.inr (by rw [ht4]; intro h; simp only [magicL, List.cons.injEq] at h; exact e2 h.2.2.1))]
  go_enter Tryd.func43, Tryd.ntmps43
  go_wp2
  refine bodyPost_ret (results_ct rfl _ _ w.heap.size 26 #[.slice none 0 0, .slice none 0 0, .slice none 0 0, .slice none 0 0] (0, 0) _ rfl HG.out Tryd.underlying26 rfl (by kernel_rfl)) rfl ?_
  exact ⟨refOut_none _ _ _, HB0.out⟩
 have e2b : (data[2] != 82) = false := by simpa using e2
 by_cases e3 : data[3] = 1
 case neg =>
  have e3b : (data[3] != 1) = true := by simpa using e3
  rw [readM_form (by omega) (.inr (by rw [ht4]; intro h; simp only [magicL, List.cons.injEq] at h; exact e3 h.2.2.2.1))]
  go_enter Tryd.func43, Tryd.ntmps43
  go_wp2
  refine bodyPost_ret (results_ct rfl _ _ w.heap.size 26 #[.slice none 0 0, .slice none 0 0, .slice none 0 0, .slice none 0 0] (0, 0) _ rfl HG.out Tryd.underlying26 rfl (by kernel_rfl)) rfl ?_
  exact ⟨refOut_none _ _ _, HB0.out⟩
 have e3b : (data[3] != 1) = false := by simpa using e3
 have HM4 := Aside0.mk (show ¬ (data.length < 12 ∨ data.take 4 ≠ magicL) by rw [ht4, e0, e1, e2, e3]; intro h; rcases h with h | h; exact h2 h; exact h rfl)
 clear e0 e1 e2 e3 ht4
 obtain ⟨X, hX⟩ : ∃ X, data.take N = X := ⟨_, rfl⟩
 obtain ⟨hcut, hcr, hcl⟩ := cut_take_int (P := Tryd.prog) (k := .u8) 27 5 Tryd.underlying27 winfo8 (some ad) c data X N (by have := HN.out.1; omega) HCC.out hX
 replace hcut : ∀ W : World, (Instr.slice 27 (.slice (some ad) data.length c) none (some (.int .i64 ((data.length : Int) - 8))) none).run Tryd.prog W = .ok (.slice (some ad) X.length c) W := by rw [show (data.length : Int) - 8 = (N : Int) by have := HN.out.1; omega]; exact hcut
 have HXB := Aside0.mk (show Bts X by rw [← hX]; exact HBT.out.take N)
 have HXL := Aside0.mk (show X.length = N by rw [← hX, List.length_take]; have := HN.out.1; omega)
 obtain ⟨s, hs⟩ : ∃ s, sumL X = s := ⟨_, rfl⟩
 have HSF := Aside0.mk (show louverref12_Sum.f (X.length + 1) X = some s by rw [refSum_f X HXB.out (by have := HXL.out; have := HN.out.1; omega) _ (by omega), hs])
 have HS := Aside0.mk (And.intro hX hs)
 have HCR := Aside0.mk hcr
 have HCL := Aside0.mk hcl
 clear hX hs hcr hcl
 go_enter Tryd.func43, Tryd.ntmps43
 go_wp2_with fail
 refine (louverref12_Sum.calls (X.length + 1) (some ad) c X s _ (HCR.out _ HC.out) HCL.out HSF.out).mono ?_
 rintro e w1 ⟨rfl, hd⟩
 have HB1 := Aside0.mk (below_step HB0.out hd.below)
 have HG1 := Aside0.mk (blk_below HG.out hd.below)
 have HC1 := Aside0.mk (Kd.C_below HC.out hd.below)
 clear hd x0 x1 x2 x3 m0 m1 m2 m3 u0 u1 u2 u3 HB0 HG
 go_wp2_with fail
 go_loopg [6] 9 (fun kq v6 w' => ∃ (i : Nat), v6 = .int .i64 (i : Int) ∧ Aside0 (i + kq = 9) ∧ Aside0 (1 ≤ kq) ∧ Aside0 (∀ j, j < i → data.getD (N + j) 0 = s / 2 ^ (56 - 8 * j) % 256) ∧ Aside0 (w'.heap[w.heap.size]? = some (.cells #[.slice none 0 0, .slice none 0 0, .slice none 0 0, .slice none 0 0] 26)) ∧ Aside0 (Below w.heap.size w w'))
 case atStart => exact ⟨0, rfl, ⟨by omega⟩, ⟨by omega⟩, ⟨fun j hj => by omega⟩, HG1, HB1⟩
 case round =>
  clear HG1 HB1
  obtain ⟨i, rfl, HI, HI1, HE, HG, HB⟩ := hrel
  obtain ⟨⟨m0, m1, m2, m3⟩, u0, u1, u2, u3⟩ := facts4 HG.out
  cases gk with
  | zero => exact absurd HI1.out (by omega)
  | succ k1 =>
   by_cases ci : i < 8
   ·
    have cib : decide ((i : Int) < 8) = true := decide_eq_true (by omega)
    have hni : N + i < data.length := by have := HN.out.1; omega
    obtain ⟨ad2, eA, y⟩ := byte_at (Kd.C_below hC9.out HB.out) (N + i) hni
    obtain rfl := Option.some.inj eA
    have hii : (data.length : Int) - 8 + (i : Int) < (data.length : Int) := by omega
    have hti : ((data.length : Int) - 8 + (i : Int)).toNat = N + i := by have := HN.out.1; omega
    have hi0 : 0 ≤ (data.length : Int) - 8 + (i : Int) := by have := h12.out; omega
    have hwa : wrap64 ((data.length : Int) - 8 + (i : Int)) = (data.length : Int) - 8 + (i : Int) := by have := hbl.out; unfold wrap64; omega
    have hwb : wrap64 (8 * (i : Int)) = 8 * (i : Int) := by unfold wrap64; omega
    have hwc : wrap64 (56 - 8 * (i : Int)) = 56 - 8 * (i : Int) := by unfold wrap64; omega
    have hwd : IntKind.u64.wrap (56 - 8 * (i : Int)) = 56 - 8 * (i : Int) := u64_small (by omega) (by omega)
    have hw2 : wrap64 ((i : Int) + 1) = (i : Int) + 1 := by unfold wrap64; omega
    have hge : data.getD (N + i) 0 = data[N + i] := by simp [List.getD_eq_getElem?_getD, hni]
    obtain ⟨v, hv⟩ : ∃ v, data[N + i] = v := ⟨_, rfl⟩
    rw [hv] at y hge
    by_cases hq : v = s / 2 ^ (56 - 8 * i) % 256
    ·
     have hqb : (v != s / 2 ^ (56 - 8 * i) % 256) = false := by simpa using hq
     have HE2 := Aside0.mk (show ∀ j, j < i + 1 → data.getD (N + j) 0 = s / 2 ^ (56 - 8 * j) % 256 from fun j hj => by rcases Nat.lt_succ_iff_lt_or_eq.1 hj with h | h; exact HE.out j h; rw [h, hge]; exact hq)
     clear hq hge hv
     go_wp2
     go_roundg k1
     case measure => omega
     case rel => exact ⟨i + 1, by first | rfl | (rw [hw2]; rfl), ⟨by have := HI.out; omega⟩, ⟨by have := HI.out; omega⟩, HE2, HG, HB⟩
    ·
     have hqb : (v != s / 2 ^ (56 - 8 * i) % 256) = true := by simpa using hq
     have HNE := Aside0.mk (sum_ne (s := s) (N := N) HN.out.1 (HS.out.1) HS.out.2 ci (by rw [hge]; exact hq))
     clear hq hge hv
     go_wp2
     rw [readM_sum (by omega) HM4.out HNE.out]
     refine bodyPost_ret (results_ct rfl _ _ w.heap.size 26 #[.slice none 0 0, .slice none 0 0, .slice none 0 0, .slice none 0 0] (0, 0) _ rfl (put4 HG.out _ _ _ _) Tryd.underlying26 rfl (by kernel_rfl)) rfl ?_
     exact ⟨refOut_none _ _ _, below_set (below_set (below_set (below_set HB.out (Nat.le_refl _)) (Nat.le_refl _)) (Nat.le_refl _)) (Nat.le_refl _)⟩
   ·
    have cib : decide ((i : Int) < 8) = false := decide_eq_false (by omega)
    obtain ⟨wq, hwq⟩ : ∃ wq, wq = wr := ⟨_, rfl⟩
    subst hwq
    have HSE := Aside0.mk (sum_eq (s := s) (N := N) HN.out.1 HS.out.1 HS.out.2 (fun j hj => HE.out j (by have := HI.out; omega)))
    have HCX := Aside0.mk (HCR.out wq (Kd.C_below hC9.out HB.out))
    clear HE HI HI1 ci m0 m1 m2 m3 u0 u1 u2 u3
    have HR := Aside0.mk (show Rr wq ((wq.alloc (.cells #[.slice (some ad) X.length c, .int .i64 4, .bool false] 129)).alloc (.cells #[.slice none 0 0, .slice none 0 0, .slice none 0 0, .slice none 0 0] 26)) wq.heap.size (some ad) c X 4 false from ⟨below_alloc (below_alloc (Below.refl _ _) _) _, Nat.le_refl _, blk_alloc (heap_alloc_new wq _) _, HCX.out, HCL.out, HXB.out, by have := HXL.out; have := HN.out.1; have := hbl.out; omega, by have := HXL.out; have := HN.out.2; omega⟩)
    have HM := Aside0.mk (show ((wq.alloc (.cells #[.slice (some ad) X.length c, .int .i64 4, .bool false] 129)).alloc (.cells #[.slice none 0 0, .slice none 0 0, .slice none 0 0, .slice none 0 0] 26)).heap[wq.heap.size + 1]? = some (.cells #[.slice none 0 0, .slice none 0 0, .slice none 0 0, .slice none 0 0] 26) by
     have := heap_alloc_new (wq.alloc (.cells #[.slice (some ad) X.length c, .int .i64 4, .bool false] 129)) (.cells #[.slice none 0 0, .slice none 0 0, .slice none 0 0, .slice none 0 0] 26)
     simpa using this)
    have HSZ := Aside0.mk (show wq.heap.size + 2 ≤ ((wq.alloc (.cells #[.slice (some ad) X.length c, .int .i64 4, .bool false] 129)).alloc (.cells #[.slice none 0 0, .slice none 0 0, .slice none 0 0, .slice none 0 0] 26)).heap.size by simp)
    have HC := Aside0.mk (refLabels.calls wq.heap.size (some ad) c X 4 false wq _ HR.out)
    go_wp2_with fail
    refine HC.out.mono ?_
    rintro e w2 ⟨v2, z2, a2, d2, rfl, hV, hR, hW, hg, hl⟩
    obtain ⟨V2, t2, rfl⟩ := Kd.R_slice hV
    have hz2 := HSZ.out
    have hmk := hW.keep HM.out (by omega)
    replace HSZ := Aside0.mk (Nat.le_trans hz2 hW.size)
    have HGT2 := Aside0.mk hg
    have HLT2 := Aside0.mk hl
    have HV2 := Aside0.mk (show Kd.R (Kd.int .u64) 36 w2 (wq.heap.size + 2) (fun k => wq.heap.size + 2 ≤ k) (.slice V2 z2.length t2) z2 from Kd.R_lower (Kd.R_mono hV (fun k hk => Nat.le_trans hz2 hk)) hz2)
    replace HM := Aside0.mk hmk
    replace HR := Aside0.mk hR
    clear hR hW hg hl hmk hz2 HC hV
    have hfb := blk_put HM.out 0 (.slice V2 z2.length t2) rfl
    obtain ⟨⟨n0, n1, n2, n3⟩, r0, r1, r2, r3⟩ := facts4 HM.out
    replace HR := Aside0.mk (HR.out.far (g := wq.heap.size + 1) (i := 0) (by omega) (by omega) (.slice V2 z2.length t2))
    replace HSZ := Aside0.mk (show wq.heap.size + 2 ≤ (w2.setCell ⟨wq.heap.size + 1, 0, none⟩ (.slice V2 z2.length t2)).heap.size by simpa [World.setCell] using HSZ.out)
    replace HV2 := Aside0.mk (Kd.R_far (p := ⟨wq.heap.size + 1, 0, none⟩) HV2.out (fun k hk => by have h9 : wq.heap.size + 2 ≤ k := hk; simp only; omega) (.slice V2 z2.length t2))
    have HM2 := Aside0.mk (show (w2.setCell ⟨wq.heap.size + 1, 0, none⟩ (.slice V2 z2.length t2)).heap[wq.heap.size + 1]? = some (.cells #[.slice V2 z2.length t2, .slice none 0 0, .slice none 0 0, .slice none 0 0] 26 (0, 0)) from hfb)
    replace HM := HM2
    clear HM2 hfb
    have HC := Aside0.mk (refInt.calls wq.heap.size (some ad) c X a2 d2 wq _ HR.out)
    go_wp2_with fail
    refine HC.out.mono ?_
    rintro e w3 ⟨z3, a3, d3, rfl, hu, hR, hW, hg, hl⟩
    clear n0 n1 n2 n3 r0 r1 r2 r3
    have hz2 := HSZ.out
    replace HV2 := Aside0.mk (Kd.R_step HV2.out (fun k hk hlt => hW.block k hlt (by have h9 : wq.heap.size + 2 ≤ k := hk; omega)))
    have hmk := hW.keep HM.out (by omega)
    replace HSZ := Aside0.mk (Nat.le_trans hz2 hW.size)
    have HGT3 := Aside0.mk hg
    have HLT3 := Aside0.mk hl
    have HU3 := Aside0.mk hu
    replace HM := Aside0.mk hmk
    replace HR := Aside0.mk hR
    clear hR hW hg hl hmk hz2 HC hu
    go_wp2_with fail
    go_loopg [10, 11, 12] (z3.toNat + 1) (fun kq v10 v11 v12 w' => ∃ (i : Nat) (xs : List S38) (A5 : Option Addr) (c5 : Nat) (a' : Nat) (d' : Bool), v10 = .int .i64 (i : Int) ∧ Aside0 (i + kq = z3.toNat + 1) ∧ Aside0 (1 ≤ kq) ∧ Aside0 (Rr wq w' wq.heap.size (some ad) c X a' d') ∧ Aside0 (Got (rep rdArr i) X a3 d3 xs a' d') ∧ Aside0 (d' = false → xs.length ≤ a') ∧ Aside0 (w'.heap[wq.heap.size + 1]? = some (.cells #[.slice V2 z2.length t2, .slice A5 xs.length c5, .slice none 0 0, .slice none 0 0] 26 (0, 0))) ∧ Aside0 (Kd.R k38 38 w' (wq.heap.size + 2) (fun k => wq.heap.size + 2 ≤ k) (.slice A5 xs.length c5) xs) ∧ Aside0 (Kd.R (Kd.int .u64) 36 w' (wq.heap.size + 2) (fun k => wq.heap.size + 2 ≤ k) (.slice V2 z2.length t2) z2) ∧ Aside0 (wq.heap.size + 2 ≤ w'.heap.size))
    case atStart => exact ⟨0, [], none, 0, a3, d3, rfl, ⟨by omega⟩, ⟨by omega⟩, HR, ⟨Got.rep0 _ _ _ _⟩, ⟨fun _ => Nat.zero_le _⟩, HM, ⟨Kd.R_nil _ _ _ _ _⟩, HV2, HSZ⟩
    case round =>
     clear HR HM HV2 HSZ
     obtain ⟨i, xs, A5, c5, a7, d7, rfl, HI, HI1, HR, HP, HX2, HM, HV5, HV2, HSZ⟩ := hrel
     obtain ⟨⟨p0, p1, p2⟩, _⟩ := rr3 HR.out.st
     cases gk with
     | zero => exact absurd HI1.out (by omega)
     | succ k1 =>
      by_cases ci : i < z3.toNat
      ·
       have cib : decide ((i : Int) < z3) = true := decide_eq_true (by omega)
       cases d7 with
       | false =>
        have hx := HX2.out rfl
        have hle9 := HR.out.at_
        have hbl9 := HR.out.len
        have HXL9 := Aside0.mk (show xs.length ≤ 262144 by omega)
        have hw2 : wrap64 ((i : Int) + 1) = (i : Int) + 1 := by have := HU3.out.2; unfold wrap64; omega
        have HC := Aside0.mk (refInt.calls wq.heap.size (some ad) c X a7 false wq _ HR.out)
        go_wp2_with fail
        refine HC.out.mono ?_
        rintro e w8 ⟨x, a8, d8, rfl, hu8, hR8, hW8, hg8, hl8⟩
        have HR8 := Aside0.mk hR8
        have HC2 := Aside0.mk (refNumber.calls wq.heap.size (some ad) c X a8 d8 wq _ HR8.out)
        go_wp2_with fail
        refine HC2.out.mono ?_
        rintro e w9 ⟨y, a9, d9, rfl, hu9, hR9, hW9, hg9, hl9⟩
        have hW89 := hW8.then hW9
        have HR9 := Aside0.mk hR9
        have HG9 := Aside0.mk (HP.out.next (hg8.arr hg9))
        have HX9 := Aside0.mk (show d9 = false → (xs ++ [(⟨x, y⟩ : S38)]).length ≤ a9 from fun h => by have h1 := hl9 h; have h2 := hg8.1; rw [List.length_append]; simp only [List.length_cons, List.length_nil]; omega)
        have HM9 := Aside0.mk (hW89.keep HM.out (by omega))
        have HSZ9 := Aside0.mk (Nat.le_trans HSZ.out hW89.size)
        have HV59 := Aside0.mk (Kd.R_step HV5.out (fun k hk hlt => hW89.block k hlt (by have h9 : wq.heap.size + 2 ≤ k := hk; omega)))
        have HV29 := Aside0.mk (Kd.R_step HV2.out (fun k hk hlt => hW89.block k hlt (by have h9 : wq.heap.size + 2 ≤ k := hk; omega)))
        clear hu8 hR8 hW8 hg8 hl8 hu9 hR9 hW9 hg9 hl9 hW89 HC HC2 HR8 hx hle9 hbl9 p0 p1 p2
        obtain ⟨⟨n0, n1, n2, n3⟩, r0, r1, r2, r3⟩ := facts4 HM9.out
        go_wp2_with (first | ((with_reducible refine gate_builtin (b := .append) (xs := #[.tmp 99, .tmp 103]) rfl ?_); at_builtin; refine Kd.R_append k38 (w0 := w9) (wq.heap.size + 2) rfl (.tmp 99) (.tmp 103) 23 38 (.agg #[.int .i64 0, .int .u64 0]) 16 rfl Tryd.underlying23 linfoA9 rfl (by decide) (by omega) (.slice A5 xs.length c5) xs (⟨x, y⟩ : S38) [.int .i64 x, .int .u64 y] (fun k => wq.heap.size + 2 ≤ k) (fun _ => False) rfl rfl ?aP (fun _ hk => hk.elim) ?aF ?aO ?aB ?aS ?aL ?_; (case aP => exact ⟨[.int .i64 x], [.int .u64 y], rfl, rfl, rfl⟩); (case aB => exact Below.refl _ _); (case aF => exact (fun k hk => Nat.le_trans HSZ9.out hk)); (case aO => exact HV59.out); (case aS => exact HSZ9.out); (case aL => have := HXL9.out; omega); intro v1 wn ho hb hg hat; obtain ⟨A7, c7, e7, hvn, hrn, hmn, hsn⟩ := row_tail HV59.out HR9.out HM9.out HSZ9.out ho hg; subst e7; have HVN := Aside0.mk hvn; have HRN := Aside0.mk hrn; have HMN := Aside0.mk hmn; have HSN := Aside0.mk hsn; have HV2N := Aside0.mk (Kd.R_over HV29.out HV59.out (fun z hz => by have h1 : z ∈ [36] := hz; rw [List.mem_singleton.1 h1]; decide) hg); obtain ⟨⟨y0, y1, y2, y3⟩, s0, s1, s2, s3⟩ := facts4 hmn; clear ho hb hg hat hvn hrn hmn hsn))
        have HFE := Aside0.mk (blk_put HMN.out 1 (.slice A7 (xs.length + 1) c7) rfl)
        have hlen : (xs ++ [(⟨x, y⟩ : S38)]).length = xs.length + 1 := by simp
        have HRE := Aside0.mk (HRN.out.far (g := wq.heap.size + 1) (i := 1) (by omega) (by omega) (.slice A7 (xs.length + 1) c7))
        have HVE := Aside0.mk (Kd.R_far (p := ⟨wq.heap.size + 1, 1, none⟩) HVN.out (fun k hk => by have h9 : wq.heap.size + 2 ≤ k := hk; simp only; omega) (.slice A7 (xs.length + 1) c7))
        have HV2E := Aside0.mk (Kd.R_far (p := ⟨wq.heap.size + 1, 1, none⟩) HV2N.out (fun k hk => by have h9 : wq.heap.size + 2 ≤ k := hk; simp only; omega) (.slice A7 (xs.length + 1) c7))
        go_roundg k1
        case measure => omega
        case rel => exact ⟨i + 1, xs ++ [⟨x, y⟩], A7, c7, a9, d9, by first | rfl | (rw [hw2]; rfl), ⟨by have := HI.out; omega⟩, ⟨by have := HI.out; omega⟩, HRE, HG9, HX9, ⟨by rw [hlen]; exact HFE.out⟩, ⟨by rw [hlen]; exact HVE.out⟩, HV2E, ⟨by simpa [World.setCell] using HSN.out⟩⟩
       | true =>
        have HGA := Aside0.mk (HGT3.out.all (HP.out.stop (by omega)))
        clear HI HI1 HX2 HP
        have HC := Aside0.mk (refLabels.calls wq.heap.size (some ad) c X a7 true wq _ HR.out)
        go_wp2_with fail
        refine HC.out.mono ?_
        rintro e w4 ⟨v4, z4, a4, d4, rfl, hV, hR, hW, hg, hl⟩
        obtain ⟨V4, t4, rfl⟩ := Kd.R_slice hV
        have hz2 := HSZ.out
        replace HV2 := Aside0.mk (Kd.R_step HV2.out (fun k hk hlt => hW.block k hlt (by have h9 : wq.heap.size + 2 ≤ k := hk; omega)))
        replace HV5 := Aside0.mk (Kd.R_step HV5.out (fun k hk hlt => hW.block k hlt (by have h9 : wq.heap.size + 2 ≤ k := hk; omega)))
        have hmk := hW.keep HM.out (by omega)
        replace HSZ := Aside0.mk (Nat.le_trans hz2 hW.size)
        have HGT4 := Aside0.mk hg
        have HLT4 := Aside0.mk hl
        have HV4 := Aside0.mk (show Kd.R (Kd.int .u64) 36 w4 (wq.heap.size + 2) (fun k => wq.heap.size + 2 ≤ k) (.slice V4 z4.length t4) z4 from Kd.R_lower (Kd.R_mono hV (fun k hk => Nat.le_trans hz2 hk)) hz2)
        replace HM := Aside0.mk hmk
        replace HR := Aside0.mk hR
        clear hR hW hg hl hmk hz2 HC hV
        have hfb := blk_put HM.out 2 (.slice V4 z4.length t4) rfl
        obtain ⟨⟨n0, n1, n2, n3⟩, r0, r1, r2, r3⟩ := facts4 HM.out
        replace HR := Aside0.mk (HR.out.far (g := wq.heap.size + 1) (i := 2) (by omega) (by omega) (.slice V4 z4.length t4))
        replace HSZ := Aside0.mk (show wq.heap.size + 2 ≤ (w4.setCell ⟨wq.heap.size + 1, 2, none⟩ (.slice V4 z4.length t4)).heap.size by simpa [World.setCell] using HSZ.out)
        replace HV2 := Aside0.mk (Kd.R_far (p := ⟨wq.heap.size + 1, 2, none⟩) HV2.out (fun k hk => by have h9 : wq.heap.size + 2 ≤ k := hk; simp only; omega) (.slice V4 z4.length t4))
        replace HV5 := Aside0.mk (Kd.R_far (p := ⟨wq.heap.size + 1, 2, none⟩) HV5.out (fun k hk => by have h9 : wq.heap.size + 2 ≤ k := hk; simp only; omega) (.slice V4 z4.length t4))
        replace HV4 := Aside0.mk (Kd.R_far (p := ⟨wq.heap.size + 1, 2, none⟩) HV4.out (fun k hk => by have h9 : wq.heap.size + 2 ≤ k := hk; simp only; omega) (.slice V4 z4.length t4))
        have HM2 := Aside0.mk (show (w4.setCell ⟨wq.heap.size + 1, 2, none⟩ (.slice V4 z4.length t4)).heap[wq.heap.size + 1]? = some (.cells #[.slice V2 z2.length t2, .slice A5 xs.length c5, .slice V4 z4.length t4, .slice none 0 0] 26 (0, 0)) from hfb)
        replace HM := HM2
        clear HM2 hfb
        have HC := Aside0.mk (refInt.calls wq.heap.size (some ad) c X a4 d4 wq _ HR.out)
        go_wp2_with fail
        refine HC.out.mono ?_
        rintro e w5 ⟨z5, a5, d5, rfl, hu, hR, hW, hg, hl⟩
        clear n0 n1 n2 n3 r0 r1 r2 r3
        have hz2 := HSZ.out
        replace HV2 := Aside0.mk (Kd.R_step HV2.out (fun k hk hlt => hW.block k hlt (by have h9 : wq.heap.size + 2 ≤ k := hk; omega)))
        replace HV5 := Aside0.mk (Kd.R_step HV5.out (fun k hk hlt => hW.block k hlt (by have h9 : wq.heap.size + 2 ≤ k := hk; omega)))
        replace HV4 := Aside0.mk (Kd.R_step HV4.out (fun k hk hlt => hW.block k hlt (by have h9 : wq.heap.size + 2 ≤ k := hk; omega)))
        have hmk := hW.keep HM.out (by omega)
        replace HSZ := Aside0.mk (Nat.le_trans hz2 hW.size)
        have HGT5 := Aside0.mk hg
        have HLT5 := Aside0.mk hl
        have HU5 := Aside0.mk hu
        replace HM := Aside0.mk hmk
        replace HR := Aside0.mk hR
        clear hR hW hg hl hmk hz2 HC hu
        go_wp2_with fail
        go_loopg [13, 14] (z5.toNat + 1) (fun kq v13 v14 w' => ∃ (i : Nat) (ys : List S41) (A6 : Option Addr) (c6 : Nat) (a8 : Nat) (d8 : Bool), v13 = .int .i64 (i : Int) ∧ Aside0 (i + kq = z5.toNat + 1) ∧ Aside0 (1 ≤ kq) ∧ Aside0 (Rr wq w' wq.heap.size (some ad) c X a8 d8) ∧ Aside0 (Got (rep rdFn i) X a5 d5 ys a8 d8) ∧ Aside0 (d8 = false → ys.length ≤ a8) ∧ Aside0 (w'.heap[wq.heap.size + 1]? = some (.cells #[.slice V2 z2.length t2, .slice A5 xs.length c5, .slice V4 z4.length t4, .slice A6 ys.length c6] 26 (0, 0))) ∧ Aside0 (Kd.N k41 41 w' (wq.heap.size + 2) (fun k => wq.heap.size + 2 ≤ k) (.slice A6 ys.length c6) ys) ∧ Aside0 (Kd.R (Kd.int .u64) 36 w' (wq.heap.size + 2) (fun k => wq.heap.size + 2 ≤ k) (.slice V2 z2.length t2) z2) ∧ Aside0 (Kd.R k38 38 w' (wq.heap.size + 2) (fun k => wq.heap.size + 2 ≤ k) (.slice A5 xs.length c5) xs) ∧ Aside0 (Kd.R (Kd.int .u64) 36 w' (wq.heap.size + 2) (fun k => wq.heap.size + 2 ≤ k) (.slice V4 z4.length t4) z4) ∧ Aside0 (wq.heap.size + 2 ≤ w'.heap.size))
        case atStart => exact ⟨0, [], none, 0, a5, d5, rfl, ⟨by omega⟩, ⟨by omega⟩, HR, ⟨Got.rep0 _ _ _ _⟩, ⟨fun _ => Nat.zero_le _⟩, HM, ⟨Kd.N_nil _ _ _ _ _⟩, HV2, HV5, HV4, HSZ⟩
        case round =>
         clear HR HM HV2 HV5 HV4 HSZ
         obtain ⟨i, ys, A6, c6, a8, d8, rfl, HI, HI1, HR, HP, HX2, HM, HN6, HV2, HV5, HV4, HSZ⟩ := hrel
         obtain ⟨⟨p0, p1, p2⟩, _⟩ := rr3 HR.out.st
         cases gk with
         | zero => exact absurd HI1.out (by omega)
         | succ k1 =>
          by_cases ci : i < z5.toNat
          ·
           have cib : decide ((i : Int) < z5) = true := decide_eq_true (by omega)
           cases d8 with
           | false =>
            have hx := HX2.out rfl
            have hle9 := HR.out.at_
            have hbl9 := HR.out.len
            have HXL9 := Aside0.mk (show ys.length ≤ 262144 by omega)
            have hw2 : wrap64 ((i : Int) + 1) = (i : Int) + 1 := by have := HU5.out.2; unfold wrap64; omega
            have HC := Aside0.mk (refFunction.calls wq.heap.size (some ad) c X a8 false wq _ HR.out)
            go_wp2_with fail
            refine HC.out.mono ?_
            rintro e wf ⟨cs, x, a9, d9, rfl, hcs, hfk, hR9, hW9, hg9, hl9⟩
            clear hcs
            obtain ⟨B1, e1, B2, e2, B5, e5, rfl, -⟩ := k41_open (Kd.FK_now hfk)
            have HFK := Aside0.mk hfk
            have HR9 := Aside0.mk hR9
            have HW9 := Aside0.mk hW9
            have HG9 := Aside0.mk (HP.out.next hg9)
            have HX9 := Aside0.mk (show d9 = false → (ys ++ [x]).length ≤ a9 from fun h => by have h1 := hl9 h; rw [List.length_append]; simp only [List.length_cons, List.length_nil]; omega)
            clear hfk hR9 hW9 hg9 hl9 HC hx hle9 hbl9 p0 p1 p2
            obtain ⟨W6, hW6⟩ : ∃ W6, W6 = wf.alloc (.cells #[.int .u64 x.f0, .slice B1 x.f1.length e1, .slice B2 x.f2.length e2, .int .i64 x.f3, .int .i64 x.f4, .slice B5 x.f5.length e5] 41) := ⟨_, rfl⟩
            have HBK := Aside0.mk (show W6.heap[wf.heap.size]? = some (.cells #[.int .u64 x.f0, .slice B1 x.f1.length e1, .slice B2 x.f2.length e2, .int .i64 x.f3, .int .i64 x.f4, .slice B5 x.f5.length e5] 41) by rw [hW6]; exact heap_alloc_new wf _)
            have HBA := Aside0.mk (show Below wf.heap.size wf W6 by rw [hW6]; exact below_alloc (Below.refl _ _) _)
            have HS9 := Aside0.mk (fn_step HBA.out HR9.out HW9.out HSZ.out HM.out HN6.out HV2.out HV5.out HV4.out HFK.out)
            have hw0 := heap_alloc_new wf (.cells #[.int .u64 0, .slice none 0 0, .slice none 0 0, .int .i64 0, .int .i64 0, .slice none 0 0] 41)
            obtain ⟨⟨y0, y1, y2, y3, y4, y5⟩, u0, u1, u2, u3, u4, u5⟩ := facts6 hw0
            clear hw0
            go_upto_region 28 with fail
            rw [← hW6]
            clear hW6 y0 y1 y2 y3 y4 y5 u0 u1 u2 u3 u4 u5
            obtain ⟨hr, hm, hn, h2, h5, h4, hk, hs, hlt⟩ := HS9.out
            have HR6 := Aside0.mk hr
            have HM6 := Aside0.mk hm
            have HN6 := Aside0.mk hn
            have HV26 := Aside0.mk h2
            have HV56 := Aside0.mk h5
            have HV46 := Aside0.mk h4
            have HK6 := Aside0.mk hk
            have HS6 := Aside0.mk hs
            have HL6 := Aside0.mk hlt
            have HZ6 := Aside0.mk (Nat.le_trans HSZ.out hs)
            obtain ⟨⟨n0, n1, n2, n3⟩, r0, r1, r2, r3⟩ := facts4 hm
            obtain ⟨⟨y0, y1, y2, y3, y4, y5⟩, _⟩ := facts6 HBK.out
            clear hr hm hn h2 h5 h4 hk hs hlt HS9
            go_wp2_with (first | ((with_reducible refine gate_builtin (b := .append) (xs := #[.tmp 126, .tmp 128]) rfl ?_); at_builtin; refine Kd.N_append k41 (w0 := W6) (wq.heap.size + 2) rfl (.tmp 126) (.tmp 128) 24 41 (.agg #[.int .u64 0, .slice none 0 0, .slice none 0 0, .int .i64 0, .int .i64 0, .slice none 0 0]) 96 rfl Tryd.underlying24 info41 rfl (by decide) (by omega) (.slice A6 ys.length c6) ys x [.int .u64 x.f0, .slice B1 x.f1.length e1, .slice B2 x.f2.length e2, .int .i64 x.f3, .int .i64 x.f4, .slice B5 x.f5.length e5] (fun k => wq.heap.size + 2 ≤ k) (fun k => wr.heap.size ≤ k) rfl rfl ?aP ?aK ?aF ?aO ?aB ?aS ?aL ?_; (case aP => exact HK6.out); (case aK => exact (fun k hk => ⟨Nat.le_trans HSZ.out hk, fun he => by have := HL6.out k he.symm; omega⟩)); (case aF => exact (fun k hk => Nat.le_trans HZ6.out hk)); (case aO => exact HN6.out); (case aB => exact Below.refl _ _); (case aS => exact HZ6.out); (case aL => have := HXL9.out; omega); intro v1 wn ho hb hg hat; obtain ⟨A7, c7, e7, hvn, hrn, hmn, hsn, h2n, h5n, h4n⟩ := fn_tail9 HN6.out HR6.out HM6.out HZ6.out HV26.out HV56.out HV46.out ho hg; subst e7; have HNN := Aside0.mk hvn; have HRN := Aside0.mk hrn; have HMN := Aside0.mk hmn; have HSN := Aside0.mk hsn; have HV2N := Aside0.mk h2n; have HV5N := Aside0.mk h5n; have HV4N := Aside0.mk h4n; obtain ⟨⟨y0, y1, y2, y3⟩, s0, s1, s2, s3⟩ := facts4 hmn; clear ho hb hg hat hvn hrn hmn hsn h2n h5n h4n))
            have HFE := Aside0.mk (blk_put HMN.out 3 (.slice A7 (ys.length + 1) c7) rfl)
            have hlen : (ys ++ [x]).length = ys.length + 1 := by simp
            have HRE := Aside0.mk (HRN.out.far (g := wq.heap.size + 1) (i := 3) (by omega) (by omega) (.slice A7 (ys.length + 1) c7))
            have HNE := Aside0.mk (Kd.N_far (p := ⟨wq.heap.size + 1, 3, none⟩) HNN.out (fun k hk => by have h9 : wq.heap.size + 2 ≤ k := hk; simp only; omega) (.slice A7 (ys.length + 1) c7))
            have HV2E := Aside0.mk (Kd.R_far (p := ⟨wq.heap.size + 1, 3, none⟩) HV2N.out (fun k hk => by have h9 : wq.heap.size + 2 ≤ k := hk; simp only; omega) (.slice A7 (ys.length + 1) c7))
            have HV5E := Aside0.mk (Kd.R_far (p := ⟨wq.heap.size + 1, 3, none⟩) HV5N.out (fun k hk => by have h9 : wq.heap.size + 2 ≤ k := hk; simp only; omega) (.slice A7 (ys.length + 1) c7))
            have HV4E := Aside0.mk (Kd.R_far (p := ⟨wq.heap.size + 1, 3, none⟩) HV4N.out (fun k hk => by have h9 : wq.heap.size + 2 ≤ k := hk; simp only; omega) (.slice A7 (ys.length + 1) c7))
            go_roundg k1
            case measure => omega
            case rel => exact ⟨i + 1, ys ++ [x], A7, c7, a9, d9, by first | rfl | (rw [hw2]; rfl), ⟨by have := HI.out; omega⟩, ⟨by have := HI.out; omega⟩, HRE, HG9, HX9, ⟨by rw [hlen]; exact HFE.out⟩, ⟨by rw [hlen]; exact HNE.out⟩, HV2E, HV5E, HV4E, ⟨by simpa [World.setCell] using HSN.out⟩⟩
           | true =>
            have HGF := Aside0.mk (HGT5.out.all (HP.out.stop (by omega)))
            have HGM := Aside0.mk (Got.mod HGT2.out HGA.out HGT4.out HGF.out)
            have hltq := blk_lt HG.out
            have HRES := Aside0.mk ((HR.out.below.block w.heap.size hltq).trans HG.out)
            have HB9 := Aside0.mk (below_step HB.out HR.out.below)
            obtain ⟨⟨y0, y1, y2, y3⟩, s0, s1, s2, s3⟩ := facts4 HRES.out
            have HA8 := Aside0.mk HR.out.at_
            go_wp2
            rw [read_bad HN.out.1 hbl.out HM4.out HSE.out HS.out.1 HXL.out HGM.out HA8.out (.inl rfl)]
            refine bodyPost_ret (results_ct rfl _ _ w.heap.size 26 #[.slice none 0 0, .slice none 0 0, .slice none 0 0, .slice none 0 0] (0, 0) _ rfl (put4 HRES.out _ _ _ _) Tryd.underlying26 rfl (by kernel_rfl)) rfl ?_
            exact ⟨refOut_none _ _ _, below_set (below_set (below_set (below_set HB9.out (Nat.le_refl _)) (Nat.le_refl _)) (Nat.le_refl _)) (Nat.le_refl _)⟩
          ·
           have cib : decide ((i : Int) < z5) = false := decide_eq_false (by omega)
           have HI2 := Aside0.mk (show i = z5.toNat by have := HI.out; omega)
           have HP9 := Aside0.mk (show Got (rep rdFn z5.toNat) X a5 d5 ys a8 d8 by rw [← HI2.out]; exact HP.out)
           cases d8 with
           | true =>
            have HGF := Aside0.mk (HGT5.out.all HP9.out)
            have HGM := Aside0.mk (Got.mod HGT2.out HGA.out HGT4.out HGF.out)
            have hltq := blk_lt HG.out
            have HRES := Aside0.mk ((HR.out.below.block w.heap.size hltq).trans HG.out)
            have HB9 := Aside0.mk (below_step HB.out HR.out.below)
            obtain ⟨⟨y0, y1, y2, y3⟩, s0, s1, s2, s3⟩ := facts4 HRES.out
            have HA8 := Aside0.mk HR.out.at_
            go_wp2
            rw [read_bad HN.out.1 hbl.out HM4.out HSE.out HS.out.1 HXL.out HGM.out HA8.out (.inl rfl)]
            refine bodyPost_ret (results_ct rfl _ _ w.heap.size 26 #[.slice none 0 0, .slice none 0 0, .slice none 0 0, .slice none 0 0] (0, 0) _ rfl (put4 HRES.out _ _ _ _) Tryd.underlying26 rfl (by kernel_rfl)) rfl ?_
            exact ⟨refOut_none _ _ _, below_set (below_set (below_set (below_set HB9.out (Nat.le_refl _)) (Nat.le_refl _)) (Nat.le_refl _)) (Nat.le_refl _)⟩
           | false =>
            have HGF := Aside0.mk (HGT5.out.all HP9.out)
            have HGM := Aside0.mk (Got.mod HGT2.out HGA.out HGT4.out HGF.out)
            have hltq := blk_lt HG.out
            have HRES := Aside0.mk ((HR.out.below.block w.heap.size hltq).trans HG.out)
            have HB9 := Aside0.mk (below_step HB.out HR.out.below)
            obtain ⟨⟨y0, y1, y2, y3⟩, s0, s1, s2, s3⟩ := facts4 HRES.out
            have HA8 := Aside0.mk HR.out.at_
            by_cases hz : a8 = N
            case neg =>
             have hzb : ((a8 : Int) != (data.length : Int) - 8) = true := bne_iff_ne.mpr (by have := HN.out.1; omega)
             have HZ := Aside0.mk hz
             clear hz
             go_wp2
             rw [read_bad HN.out.1 hbl.out HM4.out HSE.out HS.out.1 HXL.out HGM.out HA8.out (.inr HZ.out)]
             refine bodyPost_ret (results_ct rfl _ _ w.heap.size 26 #[.slice none 0 0, .slice none 0 0, .slice none 0 0, .slice none 0 0] (0, 0) _ rfl (put4 HRES.out _ _ _ _) Tryd.underlying26 rfl (by kernel_rfl)) rfl ?_
             exact ⟨refOut_none _ _ _, below_set (below_set (below_set (below_set HB9.out (Nat.le_refl _)) (Nat.le_refl _)) (Nat.le_refl _)) (Nat.le_refl _)⟩
            have hzb : ((a8 : Int) != (data.length : Int) - 8) = false := bne_eq_false_iff_eq.mpr (by have := HN.out.1; omega)
            have HZ := Aside0.mk hz
            obtain ⟨⟨n0, n1, n2, n3⟩, r0, r1, r2, r3⟩ := facts4 HM.out
            have HLT := Aside0.mk hltq
            clear hz hltq
            go_wp2
            rw [read_good HN.out.1 hbl.out HM4.out HSE.out HS.out.1 HXL.out HGM.out HZ.out]
            refine bodyPost_ret (results_ct rfl _ _ w.heap.size 26 #[.slice V2 z2.length t2, .slice A5 xs.length c5, .slice V4 z4.length t4, .slice A6 ys.length c6] (0, 0) _ rfl (put4 HRES.out _ _ _ _) Tryd.underlying26 rfl (by kernel_rfl)) rfl ?_
            have hf : ∀ k, wq.heap.size + 2 ≤ k → k ≠ w.heap.size := fun k hk => by have := HLT.out; omega
            have hs : ∀ k, wq.heap.size + 2 ≤ k → w.heap.size ≤ k := fun k hk => by have := HLT.out; omega
            refine ⟨⟨V2, t2, A5, c5, V4, t4, A6, c6, rfl, ⟨(Kd.R_reads' HV2.out).2.1, (Kd.R_reads' HV5.out).2.1, (Kd.R_reads' HV4.out).2.1, (Kd.N_reads' HN6.out).2.1⟩, fun W hW => ⟨?_, ?_, ?_, ?_⟩⟩, below_set (below_set (below_set (below_set HB9.out (Nat.le_refl _)) (Nat.le_refl _)) (Nat.le_refl _)) (Nat.le_refl _)⟩
            ·
             exact (Kd.R_reads' (Kd.R_step (R_far4 HV2.out hf _ _ _ _) (fun k hk hlt => hW k (hs k hk) hlt))).2.2
            ·
             exact (Kd.R_reads' (Kd.R_step (R_far4 HV5.out hf _ _ _ _) (fun k hk hlt => hW k (hs k hk) hlt))).2.2
            ·
             exact (Kd.R_reads' (Kd.R_step (R_far4 HV4.out hf _ _ _ _) (fun k hk hlt => hW k (hs k hk) hlt))).2.2
            ·
             exact (Kd.N_reads' (Kd.N_step (N_far4 HN6.out hf _ _ _ _) (fun k hk hlt => hW k (hs k hk) hlt))).2.2
      ·
       have cib : decide ((i : Int) < z3) = false := decide_eq_false (by omega)
       have HI2 := Aside0.mk (show i = z3.toNat by have := HI.out; omega)
       have HGA := Aside0.mk (HGT3.out.all (by rw [← HI2.out]; exact HP.out))
       clear HI HI1 HX2 HP
       have HC := Aside0.mk (refLabels.calls wq.heap.size (some ad) c X a7 d7 wq _ HR.out)
       go_wp2_with fail
       refine HC.out.mono ?_
       rintro e w4 ⟨v4, z4, a4, d4, rfl, hV, hR, hW, hg, hl⟩
       obtain ⟨V4, t4, rfl⟩ := Kd.R_slice hV
       have hz2 := HSZ.out
       replace HV2 := Aside0.mk (Kd.R_step HV2.out (fun k hk hlt => hW.block k hlt (by have h9 : wq.heap.size + 2 ≤ k := hk; omega)))
       replace HV5 := Aside0.mk (Kd.R_step HV5.out (fun k hk hlt => hW.block k hlt (by have h9 : wq.heap.size + 2 ≤ k := hk; omega)))
       have hmk := hW.keep HM.out (by omega)
       replace HSZ := Aside0.mk (Nat.le_trans hz2 hW.size)
       have HGT4 := Aside0.mk hg
       have HLT4 := Aside0.mk hl
       have HV4 := Aside0.mk (show Kd.R (Kd.int .u64) 36 w4 (wq.heap.size + 2) (fun k => wq.heap.size + 2 ≤ k) (.slice V4 z4.length t4) z4 from Kd.R_lower (Kd.R_mono hV (fun k hk => Nat.le_trans hz2 hk)) hz2)
       replace HM := Aside0.mk hmk
       replace HR := Aside0.mk hR
       clear hR hW hg hl hmk hz2 HC hV
       have hfb := blk_put HM.out 2 (.slice V4 z4.length t4) rfl
       obtain ⟨⟨n0, n1, n2, n3⟩, r0, r1, r2, r3⟩ := facts4 HM.out
       replace HR := Aside0.mk (HR.out.far (g := wq.heap.size + 1) (i := 2) (by omega) (by omega) (.slice V4 z4.length t4))
       replace HSZ := Aside0.mk (show wq.heap.size + 2 ≤ (w4.setCell ⟨wq.heap.size + 1, 2, none⟩ (.slice V4 z4.length t4)).heap.size by simpa [World.setCell] using HSZ.out)
       replace HV2 := Aside0.mk (Kd.R_far (p := ⟨wq.heap.size + 1, 2, none⟩) HV2.out (fun k hk => by have h9 : wq.heap.size + 2 ≤ k := hk; simp only; omega) (.slice V4 z4.length t4))
       replace HV5 := Aside0.mk (Kd.R_far (p := ⟨wq.heap.size + 1, 2, none⟩) HV5.out (fun k hk => by have h9 : wq.heap.size + 2 ≤ k := hk; simp only; omega) (.slice V4 z4.length t4))
       replace HV4 := Aside0.mk (Kd.R_far (p := ⟨wq.heap.size + 1, 2, none⟩) HV4.out (fun k hk => by have h9 : wq.heap.size + 2 ≤ k := hk; simp only; omega) (.slice V4 z4.length t4))
       have HM2 := Aside0.mk (show (w4.setCell ⟨wq.heap.size + 1, 2, none⟩ (.slice V4 z4.length t4)).heap[wq.heap.size + 1]? = some (.cells #[.slice V2 z2.length t2, .slice A5 xs.length c5, .slice V4 z4.length t4, .slice none 0 0] 26 (0, 0)) from hfb)
       replace HM := HM2
       clear HM2 hfb
       have HC := Aside0.mk (refInt.calls wq.heap.size (some ad) c X a4 d4 wq _ HR.out)
       go_wp2_with fail
       refine HC.out.mono ?_
       rintro e w5 ⟨z5, a5, d5, rfl, hu, hR, hW, hg, hl⟩
       clear n0 n1 n2 n3 r0 r1 r2 r3
       have hz2 := HSZ.out
       replace HV2 := Aside0.mk (Kd.R_step HV2.out (fun k hk hlt => hW.block k hlt (by have h9 : wq.heap.size + 2 ≤ k := hk; omega)))
       replace HV5 := Aside0.mk (Kd.R_step HV5.out (fun k hk hlt => hW.block k hlt (by have h9 : wq.heap.size + 2 ≤ k := hk; omega)))
       replace HV4 := Aside0.mk (Kd.R_step HV4.out (fun k hk hlt => hW.block k hlt (by have h9 : wq.heap.size + 2 ≤ k := hk; omega)))
       have hmk := hW.keep HM.out (by omega)
       replace HSZ := Aside0.mk (Nat.le_trans hz2 hW.size)
       have HGT5 := Aside0.mk hg
       have HLT5 := Aside0.mk hl
       have HU5 := Aside0.mk hu
       replace HM := Aside0.mk hmk
       replace HR := Aside0.mk hR
       clear hR hW hg hl hmk hz2 HC hu
       go_wp2_with fail
       go_loopg [13, 14] (z5.toNat + 1) (fun kq v13 v14 w' => ∃ (i : Nat) (ys : List S41) (A6 : Option Addr) (c6 : Nat) (a8 : Nat) (d8 : Bool), v13 = .int .i64 (i : Int) ∧ Aside0 (i + kq = z5.toNat + 1) ∧ Aside0 (1 ≤ kq) ∧ Aside0 (Rr wq w' wq.heap.size (some ad) c X a8 d8) ∧ Aside0 (Got (rep rdFn i) X a5 d5 ys a8 d8) ∧ Aside0 (d8 = false → ys.length ≤ a8) ∧ Aside0 (w'.heap[wq.heap.size + 1]? = some (.cells #[.slice V2 z2.length t2, .slice A5 xs.length c5, .slice V4 z4.length t4, .slice A6 ys.length c6] 26 (0, 0))) ∧ Aside0 (Kd.N k41 41 w' (wq.heap.size + 2) (fun k => wq.heap.size + 2 ≤ k) (.slice A6 ys.length c6) ys) ∧ Aside0 (Kd.R (Kd.int .u64) 36 w' (wq.heap.size + 2) (fun k => wq.heap.size + 2 ≤ k) (.slice V2 z2.length t2) z2) ∧ Aside0 (Kd.R k38 38 w' (wq.heap.size + 2) (fun k => wq.heap.size + 2 ≤ k) (.slice A5 xs.length c5) xs) ∧ Aside0 (Kd.R (Kd.int .u64) 36 w' (wq.heap.size + 2) (fun k => wq.heap.size + 2 ≤ k) (.slice V4 z4.length t4) z4) ∧ Aside0 (wq.heap.size + 2 ≤ w'.heap.size))
       case atStart => exact ⟨0, [], none, 0, a5, d5, rfl, ⟨by omega⟩, ⟨by omega⟩, HR, ⟨Got.rep0 _ _ _ _⟩, ⟨fun _ => Nat.zero_le _⟩, HM, ⟨Kd.N_nil _ _ _ _ _⟩, HV2, HV5, HV4, HSZ⟩
       case round =>
        clear HR HM HV2 HV5 HV4 HSZ
        obtain ⟨i, ys, A6, c6, a8, d8, rfl, HI, HI1, HR, HP, HX2, HM, HN6, HV2, HV5, HV4, HSZ⟩ := hrel
        obtain ⟨⟨p0, p1, p2⟩, _⟩ := rr3 HR.out.st
        cases gk with
        | zero => exact absurd HI1.out (by omega)
        | succ k1 =>
         by_cases ci : i < z5.toNat
         ·
          have cib : decide ((i : Int) < z5) = true := decide_eq_true (by omega)
          cases d8 with
          | false =>
           have hx := HX2.out rfl
           have hle9 := HR.out.at_
           have hbl9 := HR.out.len
           have HXL9 := Aside0.mk (show ys.length ≤ 262144 by omega)
           have hw2 : wrap64 ((i : Int) + 1) = (i : Int) + 1 := by have := HU5.out.2; unfold wrap64; omega
           have HC := Aside0.mk (refFunction.calls wq.heap.size (some ad) c X a8 false wq _ HR.out)
           go_wp2_with fail
           refine HC.out.mono ?_
           rintro e wf ⟨cs, x, a9, d9, rfl, hcs, hfk, hR9, hW9, hg9, hl9⟩
           clear hcs
           obtain ⟨B1, e1, B2, e2, B5, e5, rfl, -⟩ := k41_open (Kd.FK_now hfk)
           have HFK := Aside0.mk hfk
           have HR9 := Aside0.mk hR9
           have HW9 := Aside0.mk hW9
           have HG9 := Aside0.mk (HP.out.next hg9)
           have HX9 := Aside0.mk (show d9 = false → (ys ++ [x]).length ≤ a9 from fun h => by have h1 := hl9 h; rw [List.length_append]; simp only [List.length_cons, List.length_nil]; omega)
           clear hfk hR9 hW9 hg9 hl9 HC hx hle9 hbl9 p0 p1 p2
           obtain ⟨W6, hW6⟩ : ∃ W6, W6 = wf.alloc (.cells #[.int .u64 x.f0, .slice B1 x.f1.length e1, .slice B2 x.f2.length e2, .int .i64 x.f3, .int .i64 x.f4, .slice B5 x.f5.length e5] 41) := ⟨_, rfl⟩
           have HBK := Aside0.mk (show W6.heap[wf.heap.size]? = some (.cells #[.int .u64 x.f0, .slice B1 x.f1.length e1, .slice B2 x.f2.length e2, .int .i64 x.f3, .int .i64 x.f4, .slice B5 x.f5.length e5] 41) by rw [hW6]; exact heap_alloc_new wf _)
           have HBA := Aside0.mk (show Below wf.heap.size wf W6 by rw [hW6]; exact below_alloc (Below.refl _ _) _)
           have HS9 := Aside0.mk (fn_step HBA.out HR9.out HW9.out HSZ.out HM.out HN6.out HV2.out HV5.out HV4.out HFK.out)
           have hw0 := heap_alloc_new wf (.cells #[.int .u64 0, .slice none 0 0, .slice none 0 0, .int .i64 0, .int .i64 0, .slice none 0 0] 41)
           obtain ⟨⟨y0, y1, y2, y3, y4, y5⟩, u0, u1, u2, u3, u4, u5⟩ := facts6 hw0
           clear hw0
           go_upto_region 28 with fail
           rw [← hW6]
           clear hW6 y0 y1 y2 y3 y4 y5 u0 u1 u2 u3 u4 u5
           obtain ⟨hr, hm, hn, h2, h5, h4, hk, hs, hlt⟩ := HS9.out
           have HR6 := Aside0.mk hr
           have HM6 := Aside0.mk hm
           have HN6 := Aside0.mk hn
           have HV26 := Aside0.mk h2
           have HV56 := Aside0.mk h5
           have HV46 := Aside0.mk h4
           have HK6 := Aside0.mk hk
           have HS6 := Aside0.mk hs
           have HL6 := Aside0.mk hlt
           have HZ6 := Aside0.mk (Nat.le_trans HSZ.out hs)
           obtain ⟨⟨n0, n1, n2, n3⟩, r0, r1, r2, r3⟩ := facts4 hm
           obtain ⟨⟨y0, y1, y2, y3, y4, y5⟩, _⟩ := facts6 HBK.out
           clear hr hm hn h2 h5 h4 hk hs hlt HS9
           go_wp2_with (first | ((with_reducible refine gate_builtin (b := .append) (xs := #[.tmp 126, .tmp 128]) rfl ?_); at_builtin; refine Kd.N_append k41 (w0 := W6) (wq.heap.size + 2) rfl (.tmp 126) (.tmp 128) 24 41 (.agg #[.int .u64 0, .slice none 0 0, .slice none 0 0, .int .i64 0, .int .i64 0, .slice none 0 0]) 96 rfl Tryd.underlying24 info41 rfl (by decide) (by omega) (.slice A6 ys.length c6) ys x [.int .u64 x.f0, .slice B1 x.f1.length e1, .slice B2 x.f2.length e2, .int .i64 x.f3, .int .i64 x.f4, .slice B5 x.f5.length e5] (fun k => wq.heap.size + 2 ≤ k) (fun k => wr.heap.size ≤ k) rfl rfl ?aP ?aK ?aF ?aO ?aB ?aS ?aL ?_; (case aP => exact HK6.out); (case aK => exact (fun k hk => ⟨Nat.le_trans HSZ.out hk, fun he => by have := HL6.out k he.symm; omega⟩)); (case aF => exact (fun k hk => Nat.le_trans HZ6.out hk)); (case aO => exact HN6.out); (case aB => exact Below.refl _ _); (case aS => exact HZ6.out); (case aL => have := HXL9.out; omega); intro v1 wn ho hb hg hat; obtain ⟨A7, c7, e7, hvn, hrn, hmn, hsn, h2n, h5n, h4n⟩ := fn_tail9 HN6.out HR6.out HM6.out HZ6.out HV26.out HV56.out HV46.out ho hg; subst e7; have HNN := Aside0.mk hvn; have HRN := Aside0.mk hrn; have HMN := Aside0.mk hmn; have HSN := Aside0.mk hsn; have HV2N := Aside0.mk h2n; have HV5N := Aside0.mk h5n; have HV4N := Aside0.mk h4n; obtain ⟨⟨y0, y1, y2, y3⟩, s0, s1, s2, s3⟩ := facts4 hmn; clear ho hb hg hat hvn hrn hmn hsn h2n h5n h4n))
           have HFE := Aside0.mk (blk_put HMN.out 3 (.slice A7 (ys.length + 1) c7) rfl)
           have hlen : (ys ++ [x]).length = ys.length + 1 := by simp
           have HRE := Aside0.mk (HRN.out.far (g := wq.heap.size + 1) (i := 3) (by omega) (by omega) (.slice A7 (ys.length + 1) c7))
           have HNE := Aside0.mk (Kd.N_far (p := ⟨wq.heap.size + 1, 3, none⟩) HNN.out (fun k hk => by have h9 : wq.heap.size + 2 ≤ k := hk; simp only; omega) (.slice A7 (ys.length + 1) c7))
           have HV2E := Aside0.mk (Kd.R_far (p := ⟨wq.heap.size + 1, 3, none⟩) HV2N.out (fun k hk => by have h9 : wq.heap.size + 2 ≤ k := hk; simp only; omega) (.slice A7 (ys.length + 1) c7))
           have HV5E := Aside0.mk (Kd.R_far (p := ⟨wq.heap.size + 1, 3, none⟩) HV5N.out (fun k hk => by have h9 : wq.heap.size + 2 ≤ k := hk; simp only; omega) (.slice A7 (ys.length + 1) c7))
           have HV4E := Aside0.mk (Kd.R_far (p := ⟨wq.heap.size + 1, 3, none⟩) HV4N.out (fun k hk => by have h9 : wq.heap.size + 2 ≤ k := hk; simp only; omega) (.slice A7 (ys.length + 1) c7))
           go_roundg k1
           case measure => omega
           case rel => exact ⟨i + 1, ys ++ [x], A7, c7, a9, d9, by first | rfl | (rw [hw2]; rfl), ⟨by have := HI.out; omega⟩, ⟨by have := HI.out; omega⟩, HRE, HG9, HX9, ⟨by rw [hlen]; exact HFE.out⟩, ⟨by rw [hlen]; exact HNE.out⟩, HV2E, HV5E, HV4E, ⟨by simpa [World.setCell] using HSN.out⟩⟩
          | true =>
           have HGF := Aside0.mk (HGT5.out.all (HP.out.stop (by omega)))
           have HGM := Aside0.mk (Got.mod HGT2.out HGA.out HGT4.out HGF.out)
           have hltq := blk_lt HG.out
           have HRES := Aside0.mk ((HR.out.below.block w.heap.size hltq).trans HG.out)
           have HB9 := Aside0.mk (below_step HB.out HR.out.below)
           obtain ⟨⟨y0, y1, y2, y3⟩, s0, s1, s2, s3⟩ := facts4 HRES.out
           have HA8 := Aside0.mk HR.out.at_
           go_wp2
           rw [read_bad HN.out.1 hbl.out HM4.out HSE.out HS.out.1 HXL.out HGM.out HA8.out (.inl rfl)]
           refine bodyPost_ret (results_ct rfl _ _ w.heap.size 26 #[.slice none 0 0, .slice none 0 0, .slice none 0 0, .slice none 0 0] (0, 0) _ rfl (put4 HRES.out _ _ _ _) Tryd.underlying26 rfl (by kernel_rfl)) rfl ?_
           exact ⟨refOut_none _ _ _, below_set (below_set (below_set (below_set HB9.out (Nat.le_refl _)) (Nat.le_refl _)) (Nat.le_refl _)) (Nat.le_refl _)⟩
         ·
          have cib : decide ((i : Int) < z5) = false := decide_eq_false (by omega)
          have HI2 := Aside0.mk (show i = z5.toNat by have := HI.out; omega)
          have HP9 := Aside0.mk (show Got (rep rdFn z5.toNat) X a5 d5 ys a8 d8 by rw [← HI2.out]; exact HP.out)
          cases d8 with
          | true =>
           have HGF := Aside0.mk (HGT5.out.all HP9.out)
           have HGM := Aside0.mk (Got.mod HGT2.out HGA.out HGT4.out HGF.out)
           have hltq := blk_lt HG.out
           have HRES := Aside0.mk ((HR.out.below.block w.heap.size hltq).trans HG.out)
           have HB9 := Aside0.mk (below_step HB.out HR.out.below)
           obtain ⟨⟨y0, y1, y2, y3⟩, s0, s1, s2, s3⟩ := facts4 HRES.out
           have HA8 := Aside0.mk HR.out.at_
           go_wp2
           rw [read_bad HN.out.1 hbl.out HM4.out HSE.out HS.out.1 HXL.out HGM.out HA8.out (.inl rfl)]
           refine bodyPost_ret (results_ct rfl _ _ w.heap.size 26 #[.slice none 0 0, .slice none 0 0, .slice none 0 0, .slice none 0 0] (0, 0) _ rfl (put4 HRES.out _ _ _ _) Tryd.underlying26 rfl (by kernel_rfl)) rfl ?_
           exact ⟨refOut_none _ _ _, below_set (below_set (below_set (below_set HB9.out (Nat.le_refl _)) (Nat.le_refl _)) (Nat.le_refl _)) (Nat.le_refl _)⟩
          | false =>
           have HGF := Aside0.mk (HGT5.out.all HP9.out)
           have HGM := Aside0.mk (Got.mod HGT2.out HGA.out HGT4.out HGF.out)
           have hltq := blk_lt HG.out
           have HRES := Aside0.mk ((HR.out.below.block w.heap.size hltq).trans HG.out)
           have HB9 := Aside0.mk (below_step HB.out HR.out.below)
           obtain ⟨⟨y0, y1, y2, y3⟩, s0, s1, s2, s3⟩ := facts4 HRES.out
           have HA8 := Aside0.mk HR.out.at_
           by_cases hz : a8 = N
           case neg =>
            have hzb : ((a8 : Int) != (data.length : Int) - 8) = true := bne_iff_ne.mpr (by have := HN.out.1; omega)
            have HZ := Aside0.mk hz
            clear hz
            go_wp2
            rw [read_bad HN.out.1 hbl.out HM4.out HSE.out HS.out.1 HXL.out HGM.out HA8.out (.inr HZ.out)]
            refine bodyPost_ret (results_ct rfl _ _ w.heap.size 26 #[.slice none 0 0, .slice none 0 0, .slice none 0 0, .slice none 0 0] (0, 0) _ rfl (put4 HRES.out _ _ _ _) Tryd.underlying26 rfl (by kernel_rfl)) rfl ?_
            exact ⟨refOut_none _ _ _, below_set (below_set (below_set (below_set HB9.out (Nat.le_refl _)) (Nat.le_refl _)) (Nat.le_refl _)) (Nat.le_refl _)⟩
           have hzb : ((a8 : Int) != (data.length : Int) - 8) = false := bne_eq_false_iff_eq.mpr (by have := HN.out.1; omega)
           have HZ := Aside0.mk hz
           obtain ⟨⟨n0, n1, n2, n3⟩, r0, r1, r2, r3⟩ := facts4 HM.out
           have HLT := Aside0.mk hltq
           clear hz hltq
           go_wp2
           rw [read_good HN.out.1 hbl.out HM4.out HSE.out HS.out.1 HXL.out HGM.out HZ.out]
           refine bodyPost_ret (results_ct rfl _ _ w.heap.size 26 #[.slice V2 z2.length t2, .slice A5 xs.length c5, .slice V4 z4.length t4, .slice A6 ys.length c6] (0, 0) _ rfl (put4 HRES.out _ _ _ _) Tryd.underlying26 rfl (by kernel_rfl)) rfl ?_
           have hf : ∀ k, wq.heap.size + 2 ≤ k → k ≠ w.heap.size := fun k hk => by have := HLT.out; omega
           have hs : ∀ k, wq.heap.size + 2 ≤ k → w.heap.size ≤ k := fun k hk => by have := HLT.out; omega
           refine ⟨⟨V2, t2, A5, c5, V4, t4, A6, c6, rfl, ⟨(Kd.R_reads' HV2.out).2.1, (Kd.R_reads' HV5.out).2.1, (Kd.R_reads' HV4.out).2.1, (Kd.N_reads' HN6.out).2.1⟩, fun W hW => ⟨?_, ?_, ?_, ?_⟩⟩, below_set (below_set (below_set (below_set HB9.out (Nat.le_refl _)) (Nat.le_refl _)) (Nat.le_refl _)) (Nat.le_refl _)⟩
           ·
            exact (Kd.R_reads' (Kd.R_step (R_far4 HV2.out hf _ _ _ _) (fun k hk hlt => hW k (hs k hk) hlt))).2.2
           ·
            exact (Kd.R_reads' (Kd.R_step (R_far4 HV5.out hf _ _ _ _) (fun k hk hlt => hW k (hs k hk) hlt))).2.2
           ·
            exact (Kd.R_reads' (Kd.R_step (R_far4 HV4.out hf _ _ _ _) (fun k hk hlt => hW k (hs k hk) hlt))).2.2
           ·
            exact (Kd.N_reads' (Kd.N_step (N_far4 HN6.out hf _ _ _ _) (fun k hk hlt => hW k (hs k hk) hlt))).2.2
end Go.Proofs.YtgpdaihfjnihhaaDoor.PJ
