/- The law ImageKnown: by hand (a closed statement). -/
import Derived.Test.YtgpdaihfjnihhaaDoorKPJx0
import Derived.Test.YtgpdaihfjnihhaaDoorKPJx3
import Derived.Test.YtgpdaihfjnihhaaDoorKPKit
import Derived.Test.YtgpdaihfjnihhaaDoorKPFns
import Derived.Test.YtgpdaihfjnihhaaDoorKHandImgBack
namespace Go.Proofs.YtgpdaihfjnihhaaDoor.PJ
open Go.RowKit Go.Proofs.YtgpdaihfjnihhaaDoorW.PrintWords Go.Proofs.YtgpdaihfjnihhaaDoorW.PrintLast Go.Proofs.YtgpdaihfjnihhaaDoorW.PrintMore Go.Proofs.YtgpdaihfjnihhaaDoor.LebPure Go.Proofs.YtgpdaihfjnihhaaDoor.LebForm Go.Proofs.YtgpdaihfjnihhaaDoor.B64
set_option linter.unusedSimpArgs false
set_option linter.unusedVariables false
abbrev emptyL : List Int := [76, 86, 82, 1, 0, 0, 0, 0]
def img0 : List Int := emptyL ++ eightL (sumL emptyL)
abbrev cutL : List Int := [76, 86, 82, 1, 0, 0, 0, 0, 0, 0, 0, 0]
abbrev hugeL : List Int := [76, 86, 82, 1, 255, 255, 255, 255, 255, 255, 255, 255, 255, 1]
theorem write_empty : writeM [] [] [] [] = (img0, 0) := by kernel_rfl
theorem sealed_empty : louverlaw12_sealed.f 200 emptyL = some img0 := by kernel_rfl
theorem img0_len : img0.length = 16 := by kernel_rfl
theorem bytes_img0 : louverkit_Bytes.f 200 img0 img0 = some true := by kernel_rfl
theorem read_img0 : (readM img0).2 = 0 := by kernel_rfl
theorem read_15 : (readM (img0.take 15)).2 = 121 := by kernel_rfl
theorem read_nil : (readM []).2 = 120 := by kernel_rfl
theorem read_12 : (readM cutL).2 = 121 := by kernel_rfl
abbrev moreL : List Int := [76, 86, 82, 1, 1, 3, 1, 2, 0, 0, 1, 1, 0, 1, 0, 2, 4, 2, 32, 7, 46, 0]
abbrev lessL : List Int := [76, 86, 82, 1, 1, 3, 1, 2, 0, 0, 1, 1, 0, 1, 0, 2, 4, 2, 32, 7]
def more0 : List Int := moreL ++ eightL (sumL moreL)
def less0 : List Int := lessL ++ eightL (sumL lessL)
def huge0 : List Int := hugeL ++ eightL (sumL hugeL)
theorem sealed_more : louverlaw12_sealed.f 200 moreL = some more0 := by kernel_rfl
theorem sealed_less : louverlaw12_sealed.f 200 lessL = some less0 := by kernel_rfl
theorem sealed_huge : louverlaw12_sealed.f 200 hugeL = some huge0 := by kernel_rfl
theorem read_more : (readM more0).2 = 120 := by kernel_rfl
theorem read_less : (readM less0).2 = 120 := by kernel_rfl
theorem read_huge : (readM huge0).2 = 120 := by kernel_rfl
theorem eight_seal {l : List Int} (h : Bts l) : Bts (l ++ eightL (sumL l)) := h.append (eightL_bts _)
theorem small_bts {l : List Int} (h : l.all (fun x => decide (0 ≤ x ∧ x ≤ 255)) = true) : Bts l := fun x hx => by simpa using List.all_eq_true.1 h x hx
theorem write_bad1 : writeM [3] [⟨-1, 0⟩] [] gFns = ([], 1) := by kernel_rfl
theorem write_bad2 : writeM [3] gArrs [] [⟨1, [], [0], 2, 4, [⟨18, 7⟩, ⟨46, 0⟩]⟩] = ([], 1) := by kernel_rfl
theorem read_zero {xs : List Int} (h : (readM xs).2 ≠ 0) : (readM xs).1 = ([], [], [], []) := by
 unfold readM at h ⊢
 split
 ·
  rfl
 ·
  rename_i h1
  rw [if_neg h1] at h
  split
  ·
   rfl
  ·
   rename_i h2
   rw [if_neg h2] at h
   split
   ·
    rfl
   ·
    rename_i h3
    rw [if_neg h3] at h
    split
    ·
     rename_i m hm
     rw [hm] at h
     exact absurd rfl h
    ·
     rfl
theorem zeros_flat (n : Nat) : ((List.replicate n (0 : Int)).map cNum).flatten.length = n := by
 induction n with
 | zero => rfl
 | succ n ih =>
  rw [List.replicate_succ, List.map_cons, List.flatten_cons, List.length_append, ih, show (cNum 0).length = 1 by kernel_rfl]
  omega
theorem full_zeros (n : Nat) : (fullM (List.replicate n 0) [] [] []).length = n + 7 + (cNum n).length := by
 have e : fullM (List.replicate n 0) [] [] [] = magicL ++ (cNum n ++ (((List.replicate n (0 : Int)).map cNum).flatten ++ [0, 0, 0])) := by
  unfold fullM cMod cLabels cArrs cFns
  rw [List.flatten_append, List.flatten_cons, List.length_replicate]
  simp only [List.append_assoc]
  congr 3
  kernel_rfl
 rw [e, List.length_append, List.length_append, List.length_append, zeros_flat]
 simp only [magicL, List.length_cons, List.length_nil]
 omega
theorem write_long (n : Nat) (h : 262144 < n + 15 + (cNum n).length) : writeM (List.replicate n 0) [] [] [] = ([], 3) := by
 unfold writeM
 rw [if_neg (by decide), if_pos (by rw [full_zeros]; omega)]
theorem write_fits (n : Nat) (h : n + 15 + (cNum n).length ≤ 262144) : ∃ bs, writeM (List.replicate n 0) [] [] [] = (bs, 0) ∧ bs.length = n + 15 + (cNum n).length := by
 refine ⟨fullM (List.replicate n 0) [] [] [] ++ eightL (sumL (fullM (List.replicate n 0) [] [] [])), ?_, ?_⟩
 ·
  unfold writeM
  rw [if_neg (by decide), if_neg (by rw [full_zeros]; omega)]
 ·
  rw [List.length_append, full_zeros, eightL_length]
  omega
theorem litRow (w : World) (xs : List Int) (h : xs.length ≤ 1000) : Kd.C (Kd.int .u8) (w.alloc (.cells (xs.map (Value.int .u8)).toArray 5)) (some ⟨w.heap.size, 0, none⟩) xs.length xs :=
 (RowSt.reads (P := fun _ => True) (q := w.heap.size + 1) (c := xs.length) (.inr ⟨w.heap.size, (0, 0), rfl, heap_alloc_new w _, by omega, h⟩)).2
theorem bigRow (k : IntKind) (e : Nat) (W : World) (N : Nat) (hN : N ≤ 9223372036854775807) : Kd.C (Kd.int k) (W.alloc (.cells (madeCells #[.int k 0] N) e)) (some ⟨W.heap.size, 0, none⟩) N (List.replicate N 0) := by
 have h := own_made' W W.heap.size e k N (Nat.le_refl _) hN
 have h2 := Kd.R_of_own (enc := Value.int k) (h1 := fun _ => rfl) (ok := fun _ => True) h (fun _ _ => trivial)
 have h3 := (Kd.R_reads' (show Kd.R (Kd.int k) e _ W.heap.size (fun _ => True) (.slice (some ⟨W.heap.size, 0, none⟩) (List.replicate N (0 : Int)).length N) (List.replicate N 0) by rw [List.length_replicate]; exact h2)).2.2
 rwa [List.length_replicate] at h3
theorem C_empty {α : Type} (d : Kd α) (w : World) (A : Option Addr) : Kd.C d w A ([] : List α).length [] := ⟨rfl, Nat.zero_le _, fun h => absurd h (Nat.lt_irrefl _)⟩
set_option maxHeartbeats 16000000 in
set_option maxRecDepth 100000 in
theorem wrong.calls (A : Option Addr) (c : Nat) (xs : List Int) (hb : Bts xs) (w : World) (ht : Lib.TabIs Tryd.prog w "strings.asciiSpace" .u8 Lib.asciiSpaceTab) (hc : xs.length ≤ c) (hC : Kd.C (Kd.int .u8) w A xs.length xs) :
  Calls Tryd.prog 49 #[.slice A xs.length c] w fun e w' => e = .returned (.int .i64 (readM xs).2) ∧ Below w.heap.size w w' := by
 have HRC := Aside0.mk (image_Read.calls A c xs hb w ht hc hC)
 obtain ⟨⟨⟨p0, p1, p2, p3⟩, f⟩, hp⟩ : ∃ p, readM xs = p := ⟨_, rfl⟩
 have hz := read_zero (xs := xs)
 rw [hp] at HRC hz
 rw [hp]
 clear hp hC hc ht hb
 go_enter Tryd.func49, Tryd.ntmps49
 go_wp2_with fail
 refine HRC.out.mono ?_
 rintro e w1 ⟨v1, v2, v3, v4, rfl, hM, hb1⟩
 by_cases hf : f = 0
 ·
  subst hf
  obtain ⟨E0, E1, E2, E3, rfl, rfl, rfl, rfl⟩ := hM.slices
  have HB := Aside0.mk (below_step hb1 (below_alloc (Below.refl w1.heap.size w1) (.cells #[.slice E0 p0.length p0.length, .slice E1 p1.length p1.length, .slice E2 p2.length p2.length, .slice E3 p3.length p3.length] 26)))
  clear hM hb1 hz
  go_wp2
  go_ret
  exact ⟨rfl, HB.out⟩
 ·
  have hfb : (f != 0) = true := by simpa using hf
  have e := hz hf
  injection e with e0 e
  injection e with e1 e
  injection e with e2 e3
  subst e0 e1 e2 e3
  obtain ⟨E0, E1, E2, E3, rfl, rfl, rfl, rfl⟩ := hM.slices
  have HG := Aside0.mk (heap_alloc_new w1 (.cells #[.slice E0 0 0, .slice E1 0 0, .slice E2 0 0, .slice E3 0 0] 26))
  have HB := Aside0.mk (below_step hb1 (below_alloc (Below.refl w1.heap.size w1) (.cells #[.slice E0 0 0, .slice E1 0 0, .slice E2 0 0, .slice E3 0 0] 26)))
  have HM := Aside0.mk (show ∀ w : World, Calls Tryd.prog 44 #[.agg #[.slice E0 0 0, .slice E1 0 0, .slice E2 0 0, .slice E3 0 0], .agg #[.slice none 0 0, .slice none 0 0, .slice none 0 0, .slice none 0 0]] w fun e w' => e = .returned (.bool true) ∧ Below w.heap.size w w' from fun w =>
   moduleSame.calls E0 E1 E2 E3 none none none none 0 0 0 0 0 0 0 0 [] [] [] [] w (C_empty _ _ _) (Nat.le_refl _) (C_empty _ _ _) (Nat.le_refl _) (C_empty _ _ _) (Nat.le_refl _) (C_empty _ _ _) (Nat.le_refl _) (Kd.C_nil _ _) (Nat.le_refl _) (Kd.C_nil _ _) (Nat.le_refl _) (Kd.C_nil _ _) (Nat.le_refl _) (Kd.C_nil _ _) (Nat.le_refl _))
  clear hM hb1 hz hf
  obtain ⟨⟨m0, m1, m2, m3⟩, _⟩ := facts4 HG.out
  go_wp2_with fail
  refine (HM.out _).mono ?_
  rintro e w2 ⟨rfl, hb2⟩
  have HB2 := Aside0.mk (below_step HB.out hb2)
  clear hb2
  go_wp2
  go_ret
  exact ⟨rfl, HB2.out⟩
structure GivenAt (W : World) (n : Nat) (a op : Int) : Prop where
 h1 : W.heap[n + 1]? = some (.cells #[.int .u64 3] 36 (0, 0))
 h2 : W.heap[n + 2]? = some (.cells #[.int .i64 a, .int .u64 0] 38 (0, 0))
 h3 : W.heap[n + 3]? = some (.cells #[.int .u64 0] 36 (0, 0))
 h4 : W.heap[n + 4]? = some (.cells #[.int .i64 op, .int .i64 7, .int .i64 46, .int .i64 0] 44 (0, 0))
 h5 : W.heap[n + 5]? = some (.cells #[.int .u64 1, .slice none 0 0, .slice (some ⟨n + 3, 0, none⟩) 1 1, .int .i64 2, .int .i64 4, .slice (some ⟨n + 4, 0, none⟩) 2 2] 41 (0, 0))
theorem GivenAt.below {W W' : World} {n : Nat} {a op : Int} (h : GivenAt W n a op) (hb : Below W.heap.size W W') : GivenAt W' n a op := ⟨blk_below h.h1 hb, blk_below h.h2 hb, blk_below h.h3 hb, blk_below h.h4 hb, blk_below h.h5 hb⟩
theorem GivenAt.alloc {W : World} {n : Nat} {a op : Int} (h : GivenAt W n a op) (x : Obj) : GivenAt (W.alloc x) n a op := h.below (below_alloc (Below.refl _ _) x)
theorem cell1 {W : World} {g t : Nat} {cs : Array Value} (h : W.heap[g]? = some (.cells cs t (0, 0))) (j : Nat) (u : Value) (hj : cs[j]? = some u) : W.cell? ((⟨g, 0, none⟩ : Addr).add j) = some u := by
 rw [add_plain]
 exact (blk_cell h j).trans hj
theorem GivenAt.reads {W : World} {n : Nat} {a op : Int} (h : GivenAt W n a op) : Kd.C (Kd.int .u64) W (some ⟨n + 1, 0, none⟩) [(3 : Int)].length [3] ∧ Kd.C k38 W (some ⟨n + 2, 0, none⟩) [(⟨a, 0⟩ : S38)].length [⟨a, 0⟩] ∧ Kd.C k41 W (some ⟨n + 5, 0, none⟩) [(⟨1, [], [0], 2, 4, [⟨op, 7⟩, ⟨46, 0⟩]⟩ : S41)].length [⟨1, [], [0], 2, 4, [⟨op, 7⟩, ⟨46, 0⟩]⟩] := by
 have hr : Kd.C (Kd.int .u64) W (some ⟨n + 3, 0, none⟩) [(0 : Int)].length [0] := ⟨rfl, by simp, fun _ => ⟨_, rfl, fun j p hj => by
  match j, hj with
  | 0, hj =>
   obtain rfl : (0 : Int) = p := by simpa using hj
   refine ⟨[.int .u64 0], rfl, rfl, fun q u hu => ?_⟩
   match q, hu with
   | 0, hu => exact cell1 h.h3 0 u hu
   | q + 1, hu => simp at hu
  | j + 1, hj => simp at hj⟩⟩
 have hc : Kd.C k44 W (some ⟨n + 4, 0, none⟩) [(⟨op, 7⟩ : S44), ⟨46, 0⟩].length [⟨op, 7⟩, ⟨46, 0⟩] := ⟨rfl, by simp, fun _ => ⟨_, rfl, fun j p hj => by
  match j, hj with
  | 0, hj =>
   obtain rfl : (⟨op, 7⟩ : S44) = p := by simpa using hj
   refine ⟨[.int .i64 op, .int .i64 7], rfl, ⟨[.int .i64 op], [.int .i64 7], rfl, rfl, rfl⟩, fun q u hu => ?_⟩
   match q, hu with
   | 0, hu => exact cell1 h.h4 0 u hu
   | 1, hu => exact cell1 h.h4 1 u hu
   | q + 2, hu => simp at hu
  | 1, hj =>
   obtain rfl : (⟨46, 0⟩ : S44) = p := by simpa using hj
   refine ⟨[.int .i64 46, .int .i64 0], rfl, ⟨[.int .i64 46], [.int .i64 0], rfl, rfl, rfl⟩, fun q u hu => ?_⟩
   match q, hu with
   | 0, hu => exact cell1 h.h4 2 u hu
   | 1, hu => exact cell1 h.h4 3 u hu
   | q + 2, hu => simp at hu
  | j + 2, hj => simp at hj⟩⟩
 refine ⟨⟨rfl, by simp, fun _ => ⟨_, rfl, fun j p hj => ?_⟩⟩, ⟨rfl, by simp, fun _ => ⟨_, rfl, fun j p hj => ?_⟩⟩, ⟨rfl, by simp, fun _ => ⟨_, rfl, fun j p hj => ?_⟩⟩⟩
 ·
  match j, hj with
  | 0, hj =>
   obtain rfl : (3 : Int) = p := by simpa using hj
   refine ⟨[.int .u64 3], rfl, rfl, fun q u hu => ?_⟩
   match q, hu with
   | 0, hu => exact cell1 h.h1 0 u hu
   | q + 1, hu => simp at hu
  | j + 1, hj => simp at hj
 ·
  match j, hj with
  | 0, hj =>
   obtain rfl : (⟨a, 0⟩ : S38) = p := by simpa using hj
   refine ⟨[.int .i64 a, .int .u64 0], rfl, ⟨[.int .i64 a], [.int .u64 0], rfl, rfl, rfl⟩, fun q u hu => ?_⟩
   match q, hu with
   | 0, hu => exact cell1 h.h2 0 u hu
   | 1, hu => exact cell1 h.h2 1 u hu
   | q + 2, hu => simp at hu
  | j + 1, hj => simp at hj
 ·
  match j, hj with
  | 0, hj =>
   obtain rfl : (⟨1, [], [0], 2, 4, [⟨op, 7⟩, ⟨46, 0⟩]⟩ : S41) = p := by simpa using hj
   refine ⟨[.int .u64 1, .slice none 0 0, .slice (some ⟨n + 3, 0, none⟩) 1 1, .int .i64 2, .int .i64 4, .slice (some ⟨n + 4, 0, none⟩) 2 2], rfl, k41_mk W ⟨1, [], [0], 2, 4, [⟨op, 7⟩, ⟨46, 0⟩]⟩ (Nat.le_refl _) (Kd.C_nil _ _) (Nat.le_refl _) hr (Nat.le_refl _) hc, fun q u hu => ?_⟩
   match q, hu with
   | 0, hu => exact cell1 h.h5 0 u hu
   | 1, hu => exact cell1 h.h5 1 u hu
   | 2, hu => exact cell1 h.h5 2 u hu
   | 3, hu => exact cell1 h.h5 3 u hu
   | 4, hu => exact cell1 h.h5 4 u hu
   | 5, hu => exact cell1 h.h5 5 u hu
   | q + 6, hu => simp at hu
  | j + 1, hj => simp at hj
theorem at_next (w : World) (x : Obj) (n : Nat) (h : w.heap.size = n) : (w.alloc x).heap[n]? = some x := by subst h; exact heap_alloc_new w x
theorem GivenAt.len {W : World} {n : Nat} {a op : Int} (h : GivenAt W n a op) (b : Int) : GivenAt (W.setCell ⟨n + 2, 0, none⟩ (.int .i64 b)) n b op :=
 ⟨blk_far h.h1 (by simp) _, blk_put h.h2 0 _ rfl, blk_far h.h3 (by simp) _, blk_far h.h4 (by simp) _, blk_far h.h5 (by simp) _⟩
theorem GivenAt.op {W : World} {n : Nat} {a op : Int} (h : GivenAt W n a op) (b : Int) : GivenAt (W.setCell ⟨n + 4, 0, none⟩ (.int .i64 b)) n a b :=
 ⟨blk_far h.h1 (by simp) _, blk_far h.h2 (by simp) _, blk_far h.h3 (by simp) _, blk_put h.h4 0 _ rfl, blk_far h.h5 (by simp) _⟩
set_option maxHeartbeats 16000000 in
set_option maxRecDepth 100000 in
theorem givenX.calls (w : World) : Calls Tryd.prog 50 #[] w fun e w' => e = .returned (.agg #[.slice (some ⟨w.heap.size + 1, 0, none⟩) 1 1, .slice (some ⟨w.heap.size + 2, 0, none⟩) 1 1, .slice none 0 0, .slice (some ⟨w.heap.size + 5, 0, none⟩) 1 1]) ∧ GivenAt w' w.heap.size 2 32 ∧ Below w.heap.size w w' := by
 go_enter Tryd.func50, Tryd.ntmps50
 go_wp2
 refine bodyPost_ret (results_cell_row rfl _ _ w.heap.size 26 #[.slice (some ⟨w.heap.size + 1, 0, none⟩) 1 1, .slice (some ⟨w.heap.size + 2, 0, none⟩) 1 1, .slice none 0 0, .slice (some ⟨w.heap.size + 5, 0, none⟩) 1 1] (0, 0) _ rfl (by repeat (first | exact at_next _ _ _ (by simp) | refine blk_alloc ?_ _)) Tryd.underlying26 rfl (by kernel_rfl)) rfl ?_
 refine ⟨rfl, ⟨by repeat (first | exact at_next _ _ _ (by simp) | refine blk_alloc ?_ _), by repeat (first | exact at_next _ _ _ (by simp) | refine blk_alloc ?_ _), by repeat (first | exact at_next _ _ _ (by simp) | refine blk_alloc ?_ _), by repeat (first | exact at_next _ _ _ (by simp) | refine blk_alloc ?_ _), by repeat (first | exact at_next _ _ _ (by simp) | refine blk_alloc ?_ _)⟩, ?_⟩
 exact below_alloc (below_alloc (below_alloc (below_alloc (below_alloc (below_alloc (Below.refl _ _) _) _) _) _) _) _
theorem wfW_zeros (n : Nat) : wfW (List.replicate n 0) [] [] [] := by
 unfold wfW
 exact ⟨fun x hx => by rw [List.eq_of_mem_replicate hx]; unfold okU; decide, by simp, by simp, by simp⟩
theorem form21.calls (w : World) : Calls Tryd.prog 51 #[] w fun e w' => ∃ A c, e = .returned (.slice A 21 c) ∧ Kd.R (Kd.int .u8) 5 w' w.heap.size (fun _ => True) (.slice A formL.length c) formL ∧ Below w.heap.size w w' := by
 refine (louverlaw12_form.calls formL w rfl).mono ?_
 rintro e w' ⟨v, rfl, hR, hb⟩
 obtain ⟨A, c, rfl⟩ := Kd.R_slice hR
 exact ⟨A, c, rfl, hR, hb⟩
theorem lit_bytes (w : World) (xs : List Int) (h : xs.length ≤ 1000) (vs : Array Value) (hv : vs = (xs.map (Value.int .u8)).toArray) : Kd.C (Kd.int .u8) (w.alloc (.cells vs 5)) (some ⟨w.heap.size, 0, none⟩) xs.length xs := by
 subst hv
 exact litRow w xs h
theorem sealing.calls (A : Option Addr) (c : Nat) (l r : List Int) (w : World) (hc : l.length ≤ c) (hC : Kd.C (Kd.int .u8) w A l.length l) (h : louverlaw12_sealed.f 200 l = some r) :
  Calls Tryd.prog 48 #[.slice A l.length c] w fun e w' => ∃ B d, e = .returned (.slice B r.length d) ∧ r.length ≤ d ∧ Kd.C (Kd.int .u8) w' B r.length r ∧ Below w.heap.size w w' := by
 refine (louverlaw12_sealed.calls 200 (fun k => k < w.heap.size) A c l r w (by unfold Kd.V; exact ⟨A, c, rfl, hc, F_of_C (heapy_int _) hC⟩) h).mono ?_
 rintro e w' ⟨v, rfl, hR, hb⟩
 obtain ⟨B, d, rfl, hl, hCr⟩ := Kd.R_reads hR
 exact ⟨B, d, rfl, hl, hCr, hb⟩
theorem bigWrite.calls (N : Nat) (bs : List Int) (er : Int) (hw : writeM (List.replicate N 0) [] [] [] = (bs, er)) (W : World) (hN : N ≤ 9223372036854775807) (ht : Lib.TabIs Tryd.prog W "strings.asciiSpace" .u8 Lib.asciiSpaceTab) (X : Array Value) (hX : madeCells #[.int .u64 0] N = X) :
  Calls Tryd.prog 16 #[.agg #[.slice (some ⟨W.heap.size, 0, none⟩) N N, .slice none 0 0, .slice none 0 0, .slice none 0 0]] (W.alloc (.cells X 36)) fun e w' => ∃ A, e = .returned (.tuple #[.slice A bs.length bs.length, .int .i64 er]) ∧ Below W.heap.size W w' := by
 subst hX
 have hC := bigRow .u64 36 W N hN
 have hb := below_alloc (Below.refl W.heap.size W) (.cells (madeCells #[.int .u64 0] N) 36)
 have h := image_Write.calls (some ⟨W.heap.size, 0, none⟩) none none none N 0 0 0 (List.replicate N 0) [] [] [] _ (tab_below ht hb) (by rw [List.length_replicate]; exact hC) (Kd.C_nil _ _) (Kd.C_nil _ _) (Kd.C_nil _ _) (wfW_zeros N)
 rw [hw, List.length_replicate] at h
 refine h.mono ?_
 rintro e w' ⟨v, rfl, ⟨A, c, rfl, _⟩, hb2⟩
 exact ⟨A, rfl, below_step hb hb2⟩
theorem bigWrong.calls (N : Nat) (hN : 262144 < N) (hN2 : N ≤ 9223372036854775807) (W : World) (ht : Lib.TabIs Tryd.prog W "strings.asciiSpace" .u8 Lib.asciiSpaceTab) (X : Array Value) (hX : madeCells #[.int .u8 0] N = X) :
  Calls Tryd.prog 49 #[.slice (some ⟨W.heap.size, 0, none⟩) N N] (W.alloc (.cells X 5)) fun e w' => e = .returned (.int .i64 3) ∧ Below W.heap.size W w' := by
 subst hX
 have hb := below_alloc (Below.refl W.heap.size W) (.cells (madeCells #[.int .u8 0] N) 5)
 have h := wrong.calls (some ⟨W.heap.size, 0, none⟩) N (List.replicate N 0) (fun x hx => by rw [List.eq_of_mem_replicate hx]; decide) _ (tab_below ht hb) (by rw [List.length_replicate]; exact Nat.le_refl _) (by rw [List.length_replicate]; exact bigRow .u8 5 W N hN2)
 rw [readM_long (by rw [List.length_replicate]; exact hN), List.length_replicate] at h
 refine h.mono ?_
 rintro e w' ⟨rfl, hb2⟩
 exact ⟨rfl, below_step hb hb2⟩
theorem make_big (t e : Nat) (z : Value) (bytes : Nat) (N : Nat) (ht : Tryd.prog.underlying t = some (.slice e)) (hi : (Tryd.prog.info? e).map (fun i => (i.zero, i.size, i.bytes)) = some (some z, 1, bytes)) (hz : z.cells = #[z]) (hb : 0 < bytes) (hn : N * bytes ≤ 281474976710656) (X : Array Value) (hX : madeCells #[z] N = X) (I : Int) (hI : I = (N : Int)) :
  ∀ W : World, (Instr.makeSlice t (.int .i64 I) (.int .i64 I)).run Tryd.prog W = .ok (.slice (some ⟨W.heap.size, 0, none⟩) N N) (W.alloc (.cells X e)) := by
 subst hX hI
 have := print_make_int (P := Tryd.prog) t e z bytes ht hi hz hb (N : Int) (by omega) (by rw [Int.toNat_natCast]; exact hn)
 rwa [Int.toNat_natCast] at this
theorem winfoL : (Tryd.prog.info? 36).map (fun i => (i.zero, i.size, i.bytes)) = some (some (.int .u64 0), 1, 8) := by kernel_rfl
set_option maxHeartbeats 16000000 in
set_option maxRecDepth 100000 in
theorem imageKnown.calls (w : World) (ht : Lib.TabIs Tryd.prog w "strings.asciiSpace" .u8 Lib.asciiSpaceTab) : Calls Tryd.prog 14 #[] w fun e w' => e = .returned (.bool true) ∧ Below w.heap.size w w' := by
 have HT := Aside0.mk ht
 clear ht
 have HB := Aside0.mk (Below.refl w.heap.size w)
 go_enter Tryd.func14, Tryd.ntmps14
 go_wp2_with fail
 have HC := Aside0.mk (image_Write.calls none none none none 0 0 0 0 [] [] [] [] w HT.out (Kd.C_nil _ _) (Kd.C_nil _ _) (Kd.C_nil _ _) (Kd.C_nil _ _) (wfW_zeros 0))
 rw [write_empty] at HC
 refine HC.out.mono ?_
 rintro e w1 ⟨v, rfl, hV, hb⟩
 obtain ⟨B0, bc, rfl, hVR⟩ := hV
 have HI := Aside0.mk (Kd.R_reads' hVR).2.2
 replace HB := Aside0.mk (below_step HB.out hb)
 clear hVR hb HC
 go_wp2_with fail
 refine (awake12.calls w1 (tab_below HT.out HB.out)).mono ?_
 rintro e w2 ⟨rfl, hb⟩
 replace HI := Aside0.mk (Kd.C_below HI.out hb)
 replace HB := Aside0.mk (below_step HB.out hb)
 clear hb
 go_wp2_with fail
 have HS := Aside0.mk (show Calls Tryd.prog 48 #[.slice (some ⟨w2.heap.size, 0, none⟩) 8 8] (w2.alloc (.cells #[.int .u8 76, .int .u8 86, .int .u8 82, .int .u8 1, .int .u8 0, .int .u8 0, .int .u8 0, .int .u8 0] 5)) _ from sealing.calls (some ⟨w2.heap.size, 0, none⟩) 8 emptyL img0 _ (by decide) (lit_bytes w2 emptyL (by decide) _ rfl) sealed_empty)
 refine HS.out.mono ?_
 rintro e w3 ⟨B1, d1, rfl, hl, hC, hb⟩
 have hb2 := below_step (below_alloc (Below.refl w2.heap.size w2) (.cells #[.int .u8 76, .int .u8 86, .int .u8 82, .int .u8 1, .int .u8 0, .int .u8 0, .int .u8 0, .int .u8 0] 5)) hb
 replace HI := Aside0.mk (Kd.C_below HI.out hb2)
 replace HB := Aside0.mk (below_step HB.out hb2)
 have HD := Aside0.mk (And.intro hl hC)
 clear hl hC hb hb2 HS
 go_wp2_with fail
 refine (louverkit_Bytes.calls 200 B0 img0.length img0 B1 d1 img0 true w3 HI.out (Nat.le_refl _) HD.out.2 HD.out.1 bytes_img0).mono ?_
 rintro e w4 ⟨rfl, hd⟩
 have hb := hd.below
 replace HI := Aside0.mk (Kd.C_below HI.out hb)
 replace HB := Aside0.mk (below_step HB.out hb)
 clear hd hb HD
 go_wp2_with fail
 refine (wrong.calls B0 img0.length img0 (eight_seal (small_bts (by decide))) w4 (tab_below HT.out HB.out) (Nat.le_refl _) HI.out).mono ?_
 rintro e w5 ⟨rfl, hb⟩
 rw [read_img0]
 replace HI := Aside0.mk (Kd.C_below HI.out hb)
 replace HB := Aside0.mk (below_step HB.out hb)
 clear hb
 obtain ⟨hcut, hcr, hcl⟩ := cut_take_int (P := Tryd.prog) (k := .u8) 27 5 Tryd.underlying27 winfo8 B0 img0.length img0 (img0.take 15) 15 (by rw [img0_len]; decide) (Nat.le_refl _) rfl
 have hcut2 : ∀ W : World, (Instr.slice 27 (.slice B0 img0.length img0.length) none (some (.int .i64 15)) none).run Tryd.prog W = .ok (.slice B0 (img0.take 15).length img0.length) W := hcut
 have hw := wrong.calls B0 img0.length (img0.take 15) ((eight_seal (small_bts (by decide))).take 15) w5 (tab_below HT.out HB.out) hcl (hcr w5 HI.out)
 obtain ⟨D, hD⟩ : ∃ D, img0.take 15 = D := ⟨_, rfl⟩
 have h15 := read_15
 rw [hD] at hw hcut2 h15
 rw [h15] at hw
 have HW := Aside0.mk hw
 clear hw hcut hcr hcl h15
 go_wp2_with fail
 refine HW.out.mono ?_
 rintro e w6 ⟨rfl, hb⟩
 clear hcut2 hD HW
 replace HI := Aside0.mk (Kd.C_below HI.out hb)
 replace HB := Aside0.mk (below_step HB.out hb)
 clear hb
 go_wp2_with fail
 refine (wrong.calls none 0 [] (fun x hx => by cases hx) w6 (tab_below HT.out HB.out) (Nat.le_refl _) (Kd.C_nil _ _)).mono ?_
 rintro e w7 ⟨rfl, hb⟩
 rw [read_nil]
 replace HI := Aside0.mk (Kd.C_below HI.out hb)
 replace HB := Aside0.mk (below_step HB.out hb)
 clear hb
 go_wp2_with fail
 have HW := Aside0.mk (show Calls Tryd.prog 49 #[.slice (some ⟨w7.heap.size, 0, none⟩) 12 12] (w7.alloc (.cells #[.int .u8 76, .int .u8 86, .int .u8 82, .int .u8 1, .int .u8 0, .int .u8 0, .int .u8 0, .int .u8 0, .int .u8 0, .int .u8 0, .int .u8 0, .int .u8 0] 5)) _ from wrong.calls (some ⟨w7.heap.size, 0, none⟩) 12 cutL (small_bts (by decide)) _ (tab_below HT.out (below_step HB.out (below_alloc (Below.refl w7.heap.size w7) _))) (by decide) (lit_bytes w7 cutL (by decide) _ rfl))
 rw [read_12] at HW
 refine HW.out.mono ?_
 rintro e w8 ⟨rfl, hb⟩
 have hb2 := below_step (below_alloc (Below.refl w7.heap.size w7) (.cells #[.int .u8 76, .int .u8 86, .int .u8 82, .int .u8 1, .int .u8 0, .int .u8 0, .int .u8 0, .int .u8 0, .int .u8 0, .int .u8 0, .int .u8 0, .int .u8 0] 5)) hb
 replace HB := Aside0.mk (below_step HB.out hb2)
 clear hb hb2 HW HI
 go_wp2_with fail
 obtain ⟨K, hK⟩ := imgSum_f [] (fun l hl => by cases hl) (by decide) (fun l hl => by cases hl)
 refine (image_Sum.calls K none 0 [] 14695981039346656037 w8 (Kd.C_nil _ _) (Nat.le_refl _) (hK K (Nat.le_refl _))).mono ?_
 rintro e w9 ⟨rfl, hd⟩
 replace HB := Aside0.mk (below_step HB.out hd.below)
 clear hd hK K
 go_wp2_with fail
 refine (givenX.calls w9).mono ?_
 rintro e wa ⟨rfl, hG, hb⟩
 have hlo := below_size HB.out
 obtain ⟨n, hn⟩ : ∃ n, w9.heap.size = n := ⟨_, rfl⟩
 rw [hn] at hG hlo ⊢
 have hba := below_step hb (below_alloc (Below.refl wa.heap.size wa) (.cells #[.slice (some ⟨n + 1, 0, none⟩) 1 1, .slice (some ⟨n + 2, 0, none⟩) 1 1, .slice none 0 0, .slice (some ⟨n + 5, 0, none⟩) 1 1] 26))
 have hn5 : n + 5 < wa.heap.size := by have := hG.h5; exact (Array.getElem?_eq_some_iff.1 this).1
 have hM1 := heap_alloc_new wa (.cells #[.slice (some ⟨n + 1, 0, none⟩) 1 1, .slice (some ⟨n + 2, 0, none⟩) 1 1, .slice none 0 0, .slice (some ⟨n + 5, 0, none⟩) 1 1] 26)
 have hG1 := hG.alloc (.cells #[.slice (some ⟨n + 1, 0, none⟩) 1 1, .slice (some ⟨n + 2, 0, none⟩) 1 1, .slice none 0 0, .slice (some ⟨n + 5, 0, none⟩) 1 1] 26)
 have hG2 := hG1.len (-1)
 have hM2 : ((wa.alloc (.cells #[.slice (some ⟨n + 1, 0, none⟩) 1 1, .slice (some ⟨n + 2, 0, none⟩) 1 1, .slice none 0 0, .slice (some ⟨n + 5, 0, none⟩) 1 1] 26)).setCell ⟨n + 2, 0, none⟩ (.int .i64 (-1))).heap[wa.heap.size]? = some (.cells #[.slice (some ⟨n + 1, 0, none⟩) 1 1, .slice (some ⟨n + 2, 0, none⟩) 1 1, .slice none 0 0, .slice (some ⟨n + 5, 0, none⟩) 1 1] 26 (0, 0)) := blk_far hM1 (by simp; omega) _
 obtain ⟨⟨m0, m1, m2, m3⟩, _⟩ := facts4 hM1
 obtain ⟨⟨k0, k1, k2, k3⟩, _⟩ := facts4 hM2
 have c0 : (wa.alloc (.cells #[.slice (some ⟨n + 1, 0, none⟩) 1 1, .slice (some ⟨n + 2, 0, none⟩) 1 1, .slice none 0 0, .slice (some ⟨n + 5, 0, none⟩) 1 1] 26)).cell? ⟨n + 2, 0, none⟩ = some (.int .i64 2) := blk_cell hG1.h2 0
 have c1 : (wa.alloc (.cells #[.slice (some ⟨n + 1, 0, none⟩) 1 1, .slice (some ⟨n + 2, 0, none⟩) 1 1, .slice none 0 0, .slice (some ⟨n + 5, 0, none⟩) 1 1] 26)).frozen? ⟨n + 2, 0, none⟩ = false := blk_frozen hG1.h2 0
 have hbs : Below w.heap.size w ((wa.alloc (.cells #[.slice (some ⟨n + 1, 0, none⟩) 1 1, .slice (some ⟨n + 2, 0, none⟩) 1 1, .slice none 0 0, .slice (some ⟨n + 5, 0, none⟩) 1 1] 26)).setCell ⟨n + 2, 0, none⟩ (.int .i64 (-1))) := below_set (below_step HB.out hba) (by omega)
 have HW := Aside0.mk (image_Write.calls (some ⟨n + 1, 0, none⟩) (some ⟨n + 2, 0, none⟩) none (some ⟨n + 5, 0, none⟩) 1 1 0 1 [3] [⟨-1, 0⟩] [] gFns ((wa.alloc (.cells #[.slice (some ⟨n + 1, 0, none⟩) 1 1, .slice (some ⟨n + 2, 0, none⟩) 1 1, .slice none 0 0, .slice (some ⟨n + 5, 0, none⟩) 1 1] 26)).setCell ⟨n + 2, 0, none⟩ (.int .i64 (-1))) (tab_below HT.out hbs) hG2.reads.1 hG2.reads.2.1 (Kd.C_nil _ _) hG2.reads.2.2 (by unfold wfW okFnW okU; simp))
 rw [write_bad1] at HW
 replace HB := Aside0.mk hbs
 clear hG hG1 hG2 hM1 hM2 hbs hba hb hn5 hlo
 go_wp2_with fail
 refine HW.out.mono ?_
 rintro e wb ⟨v, rfl, hV, hb⟩
 obtain ⟨Zn, zn, rfl, _⟩ := hV
 replace HB := Aside0.mk (below_step HB.out hb)
 clear hb HW m0 m1 m2 m3 k0 k1 k2 k3 c0 c1
 go_wp2_with fail
 obtain ⟨Xa, hXa⟩ : ∃ X, madeCells #[.int .u64 0] 262144 = X := ⟨_, rfl⟩
 have hmka := make_big 22 36 (.int .u64 0) 8 262144 Tryd.underlying22 winfoL rfl (by decide) (by decide) Xa hXa 262144 rfl
 obtain ⟨Xb, hXb⟩ : ∃ X, madeCells #[.int .u64 0] 262126 = X := ⟨_, rfl⟩
 have hmkb := make_big 22 36 (.int .u64 0) 8 262126 Tryd.underlying22 winfoL rfl (by decide) (by decide) Xb hXb 262126 rfl
 obtain ⟨Xc, hXc⟩ : ∃ X, madeCells #[.int .u64 0] 262127 = X := ⟨_, rfl⟩
 have hmkc := make_big 22 36 (.int .u64 0) 8 262127 Tryd.underlying22 winfoL rfl (by decide) (by decide) Xc hXc 262127 rfl
 obtain ⟨Xd, hXd⟩ : ∃ X, madeCells #[.int .u8 0] 262145 = X := ⟨_, rfl⟩
 have hmkd := make_big 27 5 (.int .u8 0) 1 262145 Tryd.underlying27 winfo8 rfl (by decide) (by decide) Xd hXd 262145 rfl
 have HXa := Aside0.mk hXa
 have HXb := Aside0.mk hXb
 have HXc := Aside0.mk hXc
 have HXd := Aside0.mk hXd
 clear hXa hXb hXc hXd
 refine (givenX.calls wb).mono ?_
 rintro e wc ⟨rfl, hG, hb⟩
 have hlo := below_size HB.out
 obtain ⟨q, hq⟩ : ∃ n, wb.heap.size = n := ⟨_, rfl⟩
 rw [hq] at hG hlo ⊢
 have hba := below_step hb (below_alloc (Below.refl wc.heap.size wc) (.cells #[.slice (some ⟨q + 1, 0, none⟩) 1 1, .slice (some ⟨q + 2, 0, none⟩) 1 1, .slice none 0 0, .slice (some ⟨q + 5, 0, none⟩) 1 1] 26))
 have hn5 : q + 5 < wc.heap.size := by have := hG.h5; exact (Array.getElem?_eq_some_iff.1 this).1
 have hM1 := heap_alloc_new wc (.cells #[.slice (some ⟨q + 1, 0, none⟩) 1 1, .slice (some ⟨q + 2, 0, none⟩) 1 1, .slice none 0 0, .slice (some ⟨q + 5, 0, none⟩) 1 1] 26)
 have hG1 := hG.alloc (.cells #[.slice (some ⟨q + 1, 0, none⟩) 1 1, .slice (some ⟨q + 2, 0, none⟩) 1 1, .slice none 0 0, .slice (some ⟨q + 5, 0, none⟩) 1 1] 26)
 have hG2 := hG1.op 18
 have hM2 : ((wc.alloc (.cells #[.slice (some ⟨q + 1, 0, none⟩) 1 1, .slice (some ⟨q + 2, 0, none⟩) 1 1, .slice none 0 0, .slice (some ⟨q + 5, 0, none⟩) 1 1] 26)).setCell ⟨q + 4, 0, none⟩ (.int .i64 18)).heap[wc.heap.size]? = some (.cells #[.slice (some ⟨q + 1, 0, none⟩) 1 1, .slice (some ⟨q + 2, 0, none⟩) 1 1, .slice none 0 0, .slice (some ⟨q + 5, 0, none⟩) 1 1] 26 (0, 0)) := blk_far hM1 (by simp; omega) _
 obtain ⟨⟨m0, m1, m2, m3⟩, _⟩ := facts4 hM1
 obtain ⟨⟨k0, k1, k2, k3⟩, _⟩ := facts4 hM2
 have c0 : (wc.alloc (.cells #[.slice (some ⟨q + 1, 0, none⟩) 1 1, .slice (some ⟨q + 2, 0, none⟩) 1 1, .slice none 0 0, .slice (some ⟨q + 5, 0, none⟩) 1 1] 26)).cell? ⟨q + 4, 0, none⟩ = some (.int .i64 32) := blk_cell hG1.h4 0
 have c1 : (wc.alloc (.cells #[.slice (some ⟨q + 1, 0, none⟩) 1 1, .slice (some ⟨q + 2, 0, none⟩) 1 1, .slice none 0 0, .slice (some ⟨q + 5, 0, none⟩) 1 1] 26)).frozen? ⟨q + 4, 0, none⟩ = false := blk_frozen hG1.h4 0
 have d5 : (wc.alloc (.cells #[.slice (some ⟨q + 1, 0, none⟩) 1 1, .slice (some ⟨q + 2, 0, none⟩) 1 1, .slice none 0 0, .slice (some ⟨q + 5, 0, none⟩) 1 1] 26)).cell? ⟨q + 5, 5, none⟩ = some (.slice (some ⟨q + 4, 0, none⟩) 2 2) := blk_cell hG1.h5 5
 have hbs : Below w.heap.size w ((wc.alloc (.cells #[.slice (some ⟨q + 1, 0, none⟩) 1 1, .slice (some ⟨q + 2, 0, none⟩) 1 1, .slice none 0 0, .slice (some ⟨q + 5, 0, none⟩) 1 1] 26)).setCell ⟨q + 4, 0, none⟩ (.int .i64 18)) := below_set (below_step HB.out hba) (by omega)
 have HW := Aside0.mk (image_Write.calls (some ⟨q + 1, 0, none⟩) (some ⟨q + 2, 0, none⟩) none (some ⟨q + 5, 0, none⟩) 1 1 0 1 [3] gArrs [] [⟨1, [], [0], 2, 4, [⟨18, 7⟩, ⟨46, 0⟩]⟩] ((wc.alloc (.cells #[.slice (some ⟨q + 1, 0, none⟩) 1 1, .slice (some ⟨q + 2, 0, none⟩) 1 1, .slice none 0 0, .slice (some ⟨q + 5, 0, none⟩) 1 1] 26)).setCell ⟨q + 4, 0, none⟩ (.int .i64 18)) (tab_below HT.out hbs) hG2.reads.1 hG2.reads.2.1 (Kd.C_nil _ _) hG2.reads.2.2 (by unfold wfW okFnW okU; simp))
 rw [write_bad2] at HW
 replace HB := Aside0.mk hbs
 clear hG hG1 hG2 hM1 hM2 hbs hba hb hn5 hlo
 go_wp2_with fail
 refine HW.out.mono ?_
 rintro e wd ⟨v, rfl, hV, hb⟩
 obtain ⟨Zq, zq, rfl, _⟩ := hV
 replace HB := Aside0.mk (below_step HB.out hb)
 clear hb HW m0 m1 m2 m3 k0 k1 k2 k3 c0 c1 d5
 go_wp2_with fail
 obtain ⟨bs, hbs, hbl⟩ := write_fits 262126 (by rw [show (cNum ((262126 : Nat) : Int)).length = 3 by kernel_rfl]; decide)
 replace hbl : bs.length = 262144 := by rw [hbl, show (cNum ((262126 : Nat) : Int)).length = 3 by kernel_rfl]
 have HBS := Aside0.mk (And.intro hbs hbl)
 clear hbs hbl
 have HW := Aside0.mk (bigWrite.calls 262144 [] 3 (write_long 262144 (by rw [show (cNum ((262144 : Nat) : Int)).length = 3 by kernel_rfl]; decide)) wd (by decide) (tab_below HT.out HB.out) Xa HXa.out)
 refine HW.out.mono ?_
 rintro e we ⟨Zwe, rfl, hb⟩
 replace HB := Aside0.mk (below_step HB.out hb)
 clear hb HW
 go_wp2_with fail
 have HW := Aside0.mk (bigWrite.calls 262126 bs 0 HBS.out.1 we (by decide) (tab_below HT.out HB.out) Xb HXb.out)
 rw [HBS.out.2] at HW
 refine HW.out.mono ?_
 rintro e wf ⟨Zwf, rfl, hb⟩
 replace HB := Aside0.mk (below_step HB.out hb)
 clear hb HW
 go_wp2_with fail
 have HW := Aside0.mk (bigWrite.calls 262127 [] 3 (write_long 262127 (by rw [show (cNum ((262127 : Nat) : Int)).length = 3 by kernel_rfl]; decide)) wf (by decide) (tab_below HT.out HB.out) Xc HXc.out)
 refine HW.out.mono ?_
 rintro e wg ⟨Zwg, rfl, hb⟩
 replace HB := Aside0.mk (below_step HB.out hb)
 clear hb HW
 go_wp2_with fail
 refine (bigWrong.calls 262145 (by decide) (by decide) wg (tab_below HT.out HB.out) Xd HXd.out).mono ?_
 rintro e wh ⟨rfl, hb⟩
 replace HB := Aside0.mk (below_step HB.out hb)
 clear hb hmka hmkb hmkc hmkd HXa HXb HXc HXd HBS
 go_wp2_with fail
 refine (form21.calls wh).mono ?_
 rintro e wi ⟨A, c, rfl, hR, hb⟩
 have HR := Aside0.mk hR
 have HBI := Aside0.mk hb
 have hc1 : formL.length ≤ c := (Kd.R_reads' hR).2.1
 clear hR hb
 have hai := below_alloc (Below.refl wi.heap.size wi) (.cells #[.int .u8 0] 5)
 have HAI := Aside0.mk hai
 have HLI := Aside0.mk (lit_bytes wi [0] (by decide) #[.int .u8 0] rfl)
 clear hai
 go_wp2_with (first | ((with_reducible refine gate_builtin (b := .append) (xs := #[.tmp 127, .tmp 128]) rfl ?_); (refine gate_guard (by rfl) ?_; dsimp only); at_builtin; refine Kd.R_append_rows (Kd.int .u8) (w0 := wh) wh.heap.size rfl (.tmp 127) (.tmp 128) 27 5 (.int .u8 0) 1 rfl Tryd.underlying27 winfo8 rfl (by decide) (by omega) (.slice A 21 c) formL [0] (some ⟨wi.heap.size, 0, none⟩) 1 1 (fun _ => True) (fun _ => False) rfl rfl ?aO ?aR (fun _ _ h => h) (fun _ h => h.elim) ?aF ?aB ?aS ?aL ?_; (case aO => exact Kd.R_below HR.out HAI.out); (case aR => exact HLI.out); (case aF => exact (fun _ _ => trivial)); (case aB => exact below_step HBI.out HAI.out); (case aS => exact (below_step HBI.out HAI.out).size); (case aL => decide); intro v wj ho hb hg hat; rw [show formL ++ [(0 : Int)] = moreL from rfl] at ho; obtain ⟨A2, c2, e2⟩ := Kd.R_slice ho; replace e2 : v = .slice A2 22 c2 := e2; subst e2; have HRJ := Aside0.mk (show moreL.length ≤ c2 ∧ Kd.C (Kd.int .u8) wj A2 moreL.length moreL from (Kd.R_reads' (show Kd.R (Kd.int .u8) 5 wj wh.heap.size (fun _ => True) (.slice A2 moreL.length c2) moreL from ho)).2); have HBJ := Aside0.mk hb; clear ho hb hg hat))
 replace HB := Aside0.mk (below_step HB.out HBJ.out)
 have HS := Aside0.mk (show Calls Tryd.prog 48 #[.slice A2 22 c2] wj _ from sealing.calls A2 c2 moreL more0 wj HRJ.out.1 HRJ.out.2 sealed_more)
 refine HS.out.mono ?_
 rintro e wk ⟨B1, d1, rfl, hl, hC, hb⟩
 replace HB := Aside0.mk (below_step HB.out hb)
 have HD := Aside0.mk (And.intro hl hC)
 clear hl hC hb HS HRJ HBJ HLI HAI HR HBI hc1
 go_wp2_with fail
 refine (wrong.calls B1 d1 more0 (eight_seal (small_bts (by decide))) wk (tab_below HT.out HB.out) HD.out.1 HD.out.2).mono ?_
 rintro e wl ⟨rfl, hb⟩
 rw [read_more]
 replace HB := Aside0.mk (below_step HB.out hb)
 clear hb HD
 go_wp2_with fail
 refine (form21.calls wl).mono ?_
 rintro e wm ⟨A3, c3, rfl, hR, hb⟩
 obtain ⟨hcut, hcr, hcl⟩ := cut_take_int (P := Tryd.prog) (k := .u8) 27 5 Tryd.underlying27 winfo8 A3 c3 formL lessL 20 (by decide) (Kd.R_reads' hR).2.1 rfl
 have hcut2 : ∀ W : World, (Instr.slice 27 (.slice A3 21 c3) none (some (.int .i64 20)) none).run Tryd.prog W = .ok (.slice A3 20 c3) W := hcut
 have HS := Aside0.mk (show Calls Tryd.prog 48 #[.slice A3 20 c3] wm _ from sealing.calls A3 c3 lessL less0 wm hcl (hcr wm (Kd.R_reads' hR).2.2) sealed_less)
 replace HB := Aside0.mk (below_step HB.out hb)
 clear hR hb hcut hcr hcl
 go_wp2_with fail
 refine HS.out.mono ?_
 rintro e wn ⟨B2, d2, rfl, hl, hC, hb⟩
 replace HB := Aside0.mk (below_step HB.out hb)
 have HD := Aside0.mk (And.intro hl hC)
 clear hl hC hb HS hcut2
 go_wp2_with fail
 refine (wrong.calls B2 d2 less0 (eight_seal (small_bts (by decide))) wn (tab_below HT.out HB.out) HD.out.1 HD.out.2).mono ?_
 rintro e wo ⟨rfl, hb⟩
 rw [read_less]
 replace HB := Aside0.mk (below_step HB.out hb)
 clear hb HD
 go_wp2_with fail
 have HS := Aside0.mk (show Calls Tryd.prog 48 #[.slice (some ⟨wo.heap.size, 0, none⟩) 14 14] (wo.alloc (.cells #[.int .u8 76, .int .u8 86, .int .u8 82, .int .u8 1, .int .u8 255, .int .u8 255, .int .u8 255, .int .u8 255, .int .u8 255, .int .u8 255, .int .u8 255, .int .u8 255, .int .u8 255, .int .u8 1] 5)) _ from sealing.calls (some ⟨wo.heap.size, 0, none⟩) 14 hugeL huge0 _ (by decide) (lit_bytes wo hugeL (by decide) _ rfl) sealed_huge)
 refine HS.out.mono ?_
 rintro e wp ⟨B3, d3, rfl, hl, hC, hb⟩
 replace HB := Aside0.mk (below_step HB.out (below_step (below_alloc (Below.refl wo.heap.size wo) (.cells #[.int .u8 76, .int .u8 86, .int .u8 82, .int .u8 1, .int .u8 255, .int .u8 255, .int .u8 255, .int .u8 255, .int .u8 255, .int .u8 255, .int .u8 255, .int .u8 255, .int .u8 255, .int .u8 1] 5)) hb))
 have HD := Aside0.mk (And.intro hl hC)
 clear hl hC hb HS
 go_wp2_with fail
 refine (wrong.calls B3 d3 huge0 (eight_seal (small_bts (by decide))) wp (tab_below HT.out HB.out) HD.out.1 HD.out.2).mono ?_
 rintro e wq ⟨rfl, hb⟩
 rw [read_huge]
 replace HB := Aside0.mk (below_step HB.out hb)
 clear hb HD
 go_wp2
 go_ret
 exact ⟨rfl, HB.out⟩
theorem louverlaw12_ImageKnown.walk (w : World) (hL : laidMetH Tryd.prog Rows.imageKnownRow.laid w) : Calls Tryd.prog 14 #[] w fun e w' => e = .returned (.bool true) ∧ Below w.heap.size w w' := imageKnown.calls w (tab_of_laid hL)
end Go.Proofs.YtgpdaihfjnihhaaDoor.PJ
