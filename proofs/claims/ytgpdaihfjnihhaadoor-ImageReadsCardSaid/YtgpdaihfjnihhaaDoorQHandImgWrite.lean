/- image.Write by hand. -/
import Derived.Test.YtgpdaihfjnihhaaDoorQPJx0
import Derived.Test.YtgpdaihfjnihhaaDoorQPJx3
import Derived.Test.YtgpdaihfjnihhaaDoorQHandEight
import Derived.Test.YtgpdaihfjnihhaaDoorQSumPure
import Derived.Lib.SmallJoins
namespace Go.Proofs.YtgpdaihfjnihhaaDoor.PJ
open Go.RowKit Go.Proofs.YtgpdaihfjnihhaaDoorW.PrintWords Go.Proofs.YtgpdaihfjnihhaaDoorW.PrintLast Go.Proofs.YtgpdaihfjnihhaaDoorW.PrintMore Go.Proofs.YtgpdaihfjnihhaaDoor.LebPure Go.Proofs.YtgpdaihfjnihhaaDoor.LebForm Go.Proofs.YtgpdaihfjnihhaaDoor.B64
set_option linter.unusedSimpArgs false
set_option linter.unusedVariables false
theorem bts_cNum (n : Int) : Bts (cNum n) := form_byte _
theorem bts_cInstr (i : S44) : Bts (cInstr i) := by
 unfold cInstr
 split
 ·
  rename_i h
  exact put_bytes _ _ h
 ·
  intro x hx
  cases hx
theorem bts_cLabels (l : List Int) : ∀ c ∈ cLabels l, Bts c := by
 intro c hc
 unfold cLabels at hc
 rcases List.mem_cons.1 hc with rfl | hc
 ·
  exact bts_cNum _
 ·
  obtain ⟨x, _, rfl⟩ := List.mem_map.1 hc
  exact bts_cNum _
theorem bts_cArrs (l : List S38) : ∀ c ∈ cArrs l, Bts c := by
 intro c hc
 unfold cArrs at hc
 rcases List.mem_cons.1 hc with rfl | hc
 ·
  exact bts_cNum _
 ·
  obtain ⟨x, _, hx⟩ := List.mem_flatMap.1 hc
  unfold cArr at hx
  simp only [List.mem_cons, List.not_mem_nil, or_false] at hx
  rcases hx with rfl | rfl <;> exact bts_cNum _
theorem bts_cFns (l : List S41) : ∀ c ∈ cFns l, Bts c := by
 intro c hc
 unfold cFns at hc
 rcases List.mem_cons.1 hc with rfl | hc
 ·
  exact bts_cNum _
 ·
  obtain ⟨f, _, hx⟩ := List.mem_flatMap.1 hc
  unfold cFn at hx
  simp only [List.mem_cons, List.mem_append, List.mem_map] at hx
  rcases hx with rfl | hx | hx | rfl | rfl | rfl | ⟨i, _, rfl⟩
  ·
   exact bts_cNum _
  ·
   exact bts_cLabels _ _ hx
  ·
   exact bts_cLabels _ _ hx
  ·
   exact bts_cNum _
  ·
   exact bts_cNum _
  ·
   exact bts_cNum _
  ·
   exact bts_cInstr _
theorem bts_cMod (gs : List Int) (arr : List S38) (chs : List Int) (fns : List S41) : ∀ c ∈ cMod gs arr chs fns, Bts c := by
 intro c hc
 unfold cMod at hc
 rcases List.mem_append.1 hc with hc | hc
 ·
  exact bts_cLabels _ _ hc
 rcases List.mem_append.1 hc with hc | hc
 ·
  exact bts_cArrs _ _ hc
 rcases List.mem_append.1 hc with hc | hc
 ·
  exact bts_cLabels _ _ hc
 ·
  exact bts_cFns _ _ hc
theorem bts_full (gs : List Int) (arr : List S38) (chs : List Int) (fns : List S41) : Bts (fullM gs arr chs fns) := by
 intro x hx
 unfold fullM at hx
 rcases List.mem_append.1 hx with hx | hx
 ·
  simp only [magicL, List.mem_cons, List.not_mem_nil, or_false] at hx
  rcases hx with rfl | rfl | rfl | rfl <;> omega
 ·
  obtain ⟨c, hc, hx⟩ := List.mem_flatten.1 hx
  exact bts_cMod _ _ _ _ c hc x hx
theorem emit_le (N : Nat) (cs : List (List Int)) (hc : ∀ c ∈ cs, c.length ≤ 100) : ∀ b, b.length ≤ 262244 → (emit b cs).length ≤ 262244 := by
 induction cs with
 | nil => exact fun b h => h
 | cons c cs ih =>
  intro b h
  rw [emit_cons]
  refine ih (fun x hx => hc x (List.mem_cons_of_mem _ hx)) _ ?_
  unfold emit1
  have := hc c List.mem_cons_self
  split
  ·
   rw [List.length_append]; omega
  ·
   exact h
theorem len_cNum (n : Int) : (cNum n).length ≤ 100 := by
 have h : (n % 18446744073709551616).toNat < 2 ^ 64 := by omega
 have := ulen_u64 h
 unfold cNum
 rw [form_length]
 omega
theorem len_cLabels (l : List Int) : ∀ c ∈ cLabels l, c.length ≤ 100 := by
 intro c hc
 unfold cLabels at hc
 rcases List.mem_cons.1 hc with rfl | hc
 ·
  exact len_cNum _
 ·
  obtain ⟨x, _, rfl⟩ := List.mem_map.1 hc
  exact len_cNum _
theorem len_cMod (gs : List Int) (arr : List S38) (chs : List Int) (fns : List S41) (hf : ∀ x ∈ fns, okFnW x) : ∀ c ∈ cMod gs arr chs fns, c.length ≤ 100 := by
 intro c hc
 unfold cMod cArrs cFns at hc
 rcases List.mem_append.1 hc with hc | hc
 ·
  exact len_cLabels _ _ hc
 rcases List.mem_append.1 hc with hc | hc
 ·
  rcases List.mem_cons.1 hc with rfl | hc
  ·
   exact len_cNum _
  ·
   obtain ⟨x, _, hx⟩ := List.mem_flatMap.1 hc
   unfold cArr at hx
   simp only [List.mem_cons, List.not_mem_nil, or_false] at hx
   rcases hx with rfl | rfl <;> exact len_cNum _
 rcases List.mem_append.1 hc with hc | hc
 ·
  exact len_cLabels _ _ hc
 ·
  rcases List.mem_cons.1 hc with rfl | hc
  ·
   exact len_cNum _
  ·
   obtain ⟨f, hfm, hx⟩ := List.mem_flatMap.1 hc
   unfold cFn at hx
   simp only [List.mem_cons, List.mem_append, List.mem_map] at hx
   rcases hx with rfl | hx | hx | rfl | rfl | rfl | ⟨i, hi, rfl⟩
   ·
    exact len_cNum _
   ·
    exact len_cLabels _ _ hx
   ·
    exact len_cLabels _ _ hx
   ·
    exact len_cNum _
   ·
    exact len_cNum _
   ·
    exact len_cNum _
   ·
    exact cInstr_len i ((hf f hfm).2.2.2 i hi)
theorem rows1_C {W : World} {b t : Nat} {A : Option Addr} {c : Nat} {xs : List Int} (h : W.heap[b]? = some (.cells #[.slice A xs.length c] t (0, 0))) (hle : xs.length ≤ c) (hC : Kd.C (Kd.int .u8) W A xs.length xs) : Kd.C (Kd.slice 5 (Kd.int .u8)) W (some ⟨b, 0, none⟩) 1 [xs] := by
 refine ⟨rfl, by omega, fun _ => ⟨_, rfl, fun j p hj => ?_⟩⟩
 match j, hj with
 | 0, hj =>
  obtain rfl : xs = p := by simpa using hj
  refine ⟨[.slice A xs.length c], rfl, ⟨A, c, rfl, hle, hC⟩, fun q u hu => ?_⟩
  match q, hu with
  | 0, hu =>
   obtain rfl : Value.slice A xs.length c = u := by simpa using hu
   rw [add_plain]
   exact blk_cell h 0
  | q + 1, hu => simp at hu
 | j + 1, hj => simp at hj
theorem rows2_C {W : World} {b t : Nat} {A B : Option Addr} {c d : Nat} {xs ys : List Int} (h : W.heap[b]? = some (.cells #[.slice A xs.length c, .slice B ys.length d] t (0, 0))) (hle : xs.length ≤ c) (hC : Kd.C (Kd.int .u8) W A xs.length xs) (hle2 : ys.length ≤ d) (hC2 : Kd.C (Kd.int .u8) W B ys.length ys) : Kd.C (Kd.slice 5 (Kd.int .u8)) W (some ⟨b, 0, none⟩) 2 [xs, ys] := by
 refine ⟨rfl, by omega, fun _ => ⟨_, rfl, fun j p hj => ?_⟩⟩
 match j, hj with
 | 0, hj =>
  obtain rfl : xs = p := by simpa using hj
  refine ⟨[.slice A xs.length c], rfl, ⟨A, c, rfl, hle, hC⟩, fun q u hu => ?_⟩
  match q, hu with
  | 0, hu =>
   obtain rfl : Value.slice A xs.length c = u := by simpa using hu
   rw [add_plain]
   exact blk_cell h 0
  | q + 1, hu => simp at hu
 | 1, hj =>
  obtain rfl : ys = p := by simpa using hj
  refine ⟨[.slice B ys.length d], rfl, ⟨B, d, rfl, hle2, hC2⟩, fun q u hu => ?_⟩
  match q, hu with
  | 0, hu =>
   obtain rfl : Value.slice B ys.length d = u := by simpa using hu
   rw [add_plain]
   exact blk_cell h 1
  | q + 1, hu => simp at hu
 | j + 2, hj => simp at hj
theorem sum1.calls (xs : List Int) (hb : Bts xs) (A : Option Addr) (c : Nat) (w : World) (hC : Kd.C (Kd.int .u8) w A xs.length xs) (hle : xs.length ≤ c) :
  Calls Tryd.prog 46 #[.slice (some ⟨w.heap.size, 0, none⟩) 1 1] (w.alloc (.cells #[.slice A xs.length c] 27)) fun e w' => e = .returned (.int .u64 (sumL xs)) ∧ Below w.heap.size w w' := by
 obtain ⟨K, hK⟩ := imgSum_f [xs] (fun l hl => by rw [List.mem_singleton.1 hl]; exact hb) (by simp) (fun l hl => by rw [List.mem_singleton.1 hl]; exact Kd.C_max hC)
 have h1 := hK K (Nat.le_refl _)
 rw [List.flatten_singleton] at h1
 have hbA := below_alloc (Below.refl w.heap.size w) (.cells #[.slice A xs.length c] 27)
 refine (image_Sum.calls K (some ⟨w.heap.size, 0, none⟩) 1 [xs] (sumL xs) _ (rows1_C (heap_alloc_new w _) hle (Kd.C_below hC hbA)) (Nat.le_refl _) h1).mono ?_
 rintro e w' ⟨rfl, hd⟩
 exact ⟨rfl, below_step hbA hd.below⟩
theorem sum1D.calls (xs : List Int) (hb : Bts xs) (A : Option Addr) (c : Nat) (w : World) (hC : Kd.C (Kd.int .u8) w A xs.length xs) (hle : xs.length ≤ c) :
  Calls Tryd.prog 46 #[.slice (some ⟨w.heap.size, 0, none⟩) 1 1] (w.alloc (.cells #[.slice A xs.length c] 27)).drew fun e w' => e = .returned (.int .u64 (sumL xs)) ∧ Below w.heap.size w w' := by
 obtain ⟨K, hK⟩ := imgSum_f [xs] (fun l hl => by rw [List.mem_singleton.1 hl]; exact hb) (by simp) (fun l hl => by rw [List.mem_singleton.1 hl]; exact Kd.C_max hC)
 have h1 := hK K (Nat.le_refl _)
 rw [List.flatten_singleton] at h1
 have hbA := below_drew1 (below_alloc (Below.refl w.heap.size w) (.cells #[.slice A xs.length c] 27))
 refine (image_Sum.calls K (some ⟨w.heap.size, 0, none⟩) 1 [xs] (sumL xs) _ (rows1_C (blk_drew (heap_alloc_new w _)) hle (Kd.C_below hC hbA)) (Nat.le_refl _) h1).mono ?_
 rintro e w' ⟨rfl, hd⟩
 exact ⟨rfl, below_step hbA hd.below⟩
theorem concat2.calls (xs ys zs : List Int) (hz : xs ++ ys = zs) (h0 : 0 < xs.length) (h9 : xs.length + ys.length ≤ 1000000000) (A B : Option Addr) (c d : Nat) (w : World) (hC : Kd.C (Kd.int .u8) w A xs.length xs) (hle : xs.length ≤ c) (hC2 : Kd.C (Kd.int .u8) w B ys.length ys) (hle2 : ys.length ≤ d) :
  Calls Tryd.prog 59 #[.slice (some ⟨w.heap.size, 0, none⟩) 2 2] (w.alloc (.cells #[.slice A xs.length c, .slice B ys.length d] 27)) fun e w' => ∃ v, e = .returned v ∧ Kd.R (Kd.int .u8) 5 w' w.heap.size (fun k => w.heap.size ≤ k) v zs ∧ Below w.heap.size w w' := by
 have hbA := below_alloc (Below.refl w.heap.size w) (.cells #[.slice A xs.length c, .slice B ys.length d] 27)
 have e : [xs, ys].flatten = xs ++ ys := by simp
 refine (slices_Concat.calls [xs, ys] (some ⟨w.heap.size, 0, none⟩) 2 _ (rows2_C (heap_alloc_new w _) hle (Kd.C_below hC hbA) hle2 (Kd.C_below hC2 hbA)) (by rw [e, List.length_append]; omega) (by rw [e, List.length_append]; exact h9)).mono ?_
 rintro e' w' ⟨v, rfl, hR, hb⟩
 rw [e, hz] at hR
 exact ⟨v, rfl, Kd.R_mono (Kd.R_lower hR hbA.size) (fun k hk => Nat.le_trans hbA.size hk), below_step hbA hb⟩
theorem writeM_bad {gs : List Int} {arr : List S38} {chs : List Int} {fns : List S41} (h : badM arr fns = true) : writeM gs arr chs fns = ([], 1) := by
 unfold writeM
 rw [if_pos h]
theorem emit_short {gs : List Int} {arr : List S38} {chs : List Int} {fns : List S41} (h : (emit magicL (cMod gs arr chs fns)).length ≤ 262136) : emit magicL (cMod gs arr chs fns) = fullM gs arr chs fns ∧ (fullM gs arr chs fns).length ≤ 262136 := by
 have hl : (magicL ++ (cMod gs arr chs fns).flatten).length ≤ 262136 := by
  apply Classical.byContradiction
  intro hn
  have := emit_long 262136 (by omega) (cMod gs arr chs fns) magicL (by omega)
  omega
 exact ⟨emit_full _ _ (by omega), hl⟩
theorem writeM_long {gs : List Int} {arr : List S38} {chs : List Int} {fns : List S41} (h : badM arr fns = false) (hl : 262136 < (emit magicL (cMod gs arr chs fns)).length) : writeM gs arr chs fns = ([], 3) := by
 have h2 : 262136 < (fullM gs arr chs fns).length := by
  apply Classical.byContradiction
  intro hn
  have e := emit_full (cMod gs arr chs fns) magicL (by show (fullM gs arr chs fns).length ≤ 262144; omega)
  have e2 : (emit magicL (cMod gs arr chs fns)).length = (fullM gs arr chs fns).length := by rw [e]; rfl
  omega
 unfold writeM
 rw [h, if_neg (by decide), if_pos (by omega)]
theorem writeM_fine {gs : List Int} {arr : List S38} {chs : List Int} {fns : List S41} (h : badM arr fns = false) (hl : (fullM gs arr chs fns).length ≤ 262136) : writeM gs arr chs fns = (fullM gs arr chs fns ++ eightL (sumL (fullM gs arr chs fns)), 0) := by
 unfold writeM
 rw [h, if_neg (by decide), if_neg (by omega)]
def wfW (gs : List Int) (arr : List S38) (chs : List Int) (fns : List S41) : Prop := (∀ x ∈ gs, okU x) ∧ (∀ x ∈ arr, okU x.f1) ∧ (∀ x ∈ chs, okU x) ∧ ∀ x ∈ fns, okFnW x
theorem iw4 {w : World} {g t : Nat} {x y z u : Value} (h : w.heap[g]? = some (.cells #[x, y, z, u] t (0, 0))) : w.cell? ⟨g, 0, none⟩ = some x ∧ w.cell? ⟨g, 1, none⟩ = some y ∧ w.cell? ⟨g, 2, none⟩ = some z ∧ w.cell? ⟨g, 3, none⟩ = some u := ⟨blk_cell h 0, blk_cell h 1, blk_cell h 2, blk_cell h 3⟩
set_option maxHeartbeats 32000000 in
set_option maxRecDepth 100000 in
theorem image_Write.calls (A0 A1 A2 A3 : Option Addr) (c0 c1 c2 c3 : Nat) (gs : List Int) (arr : List S38) (chs : List Int) (fns : List S41) (w : World) (ht : Lib.TabIs Tryd.prog w "strings.asciiSpace" .u8 Lib.asciiSpaceTab)
  (h0 : Kd.C (Kd.int .u64) w A0 gs.length gs) (h1 : Kd.C k38 w A1 arr.length arr) (h2 : Kd.C (Kd.int .u64) w A2 chs.length chs) (h3 : Kd.C k41 w A3 fns.length fns) (hw : wfW gs arr chs fns) :
  Calls Tryd.prog 16 #[.agg #[.slice A0 gs.length c0, .slice A1 arr.length c1, .slice A2 chs.length c2, .slice A3 fns.length c3]] w fun e w' => ∃ v, e = .returned (.tuple #[v, .int .i64 (writeM gs arr chs fns).2]) ∧ Clipped w' w.heap.size v (writeM gs arr chs fns).1 ∧ Below w.heap.size w w' := by
 obtain ⟨w0, hw0⟩ : ∃ w0, w.alloc (.cells #[.slice A0 gs.length c0, .slice A1 arr.length c1, .slice A2 chs.length c2, .slice A3 fns.length c3] 26) = w0 := ⟨_, rfl⟩
 have hs0 : w0.heap.size = w.heap.size + 1 := by rw [← hw0]; simp
 have HW0 := Aside0.mk hw0
 have HB0 := Aside0.mk (show Below w.heap.size w w0 by rw [← hw0]; exact below_alloc (Below.refl _ _) _)
 have HGM := Aside0.mk (show w0.heap[w.heap.size]? = some (.cells #[.slice A0 gs.length c0, .slice A1 arr.length c1, .slice A2 chs.length c2, .slice A3 fns.length c3] 26 (0, 0)) by rw [← hw0]; exact heap_alloc_new w _)
 have H0 := Aside0.mk (Kd.C_below h0 HB0.out)
 have H1 := Aside0.mk (Kd.C_below h1 HB0.out)
 have H2 := Aside0.mk (Kd.C_below h2 HB0.out)
 have H3 := Aside0.mk (Kd.C_below h3 HB0.out)
 have HT := Aside0.mk (tab_below ht HB0.out)
 have HWF := Aside0.mk hw
 have HS0 := Aside0.mk hs0
 have hcv : (convert 27 27 (.slice (some ⟨w.heap.size + 1, 0, none⟩) 4 4)).run Tryd.prog (w0.alloc (.cells #[.int .u8 76, .int .u8 86, .int .u8 82, .int .u8 1] 5)) = .ok (.slice (some ⟨w.heap.size + 1, 0, none⟩) 4 4) (w0.alloc (.cells #[.int .u8 76, .int .u8 86, .int .u8 82, .int .u8 1] 5 (4, 5))) :=
  Joins.run_convert_bytes_const_at w0 27 5 #[.int .u8 76, .int .u8 86, .int .u8 82, .int .u8 1] 4 4 (w.heap.size + 1) hs0.symm Tryd.underlying27 Tryd.underlying5
 have hbL := below_alloc (Below.refl w0.heap.size w0) (.cells #[.int .u8 76, .int .u8 86, .int .u8 82, .int .u8 1] 5 (4, 5))
 have hsl : (w0.alloc (.cells #[.int .u8 76, .int .u8 86, .int .u8 82, .int .u8 1] 5 (4, 5))).heap.size = w.heap.size + 2 := by simp; omega
 have HWR := Aside0.mk (show Wr w0 (fun _ => False) ((w0.alloc (.cells #[.int .u8 76, .int .u8 86, .int .u8 82, .int .u8 1] 5 (4, 5))).alloc (.cells #[.slice (some ⟨w.heap.size + 1, 0, none⟩) 4 4, .bool false] 90)) (w.heap.size + 2) magicL false from
  ⟨below_alloc hbL _, by omega, fun k hk => hk.elim, _, by rw [← hsl]; exact heap_alloc_new _ _, .inr ⟨w.heap.size + 1, (4, 5), rfl, by rw [← hs0]; exact blk_alloc (heap_alloc_new w0 (.cells #[.int .u8 76, .int .u8 86, .int .u8 82, .int .u8 1] 5 (4, 5))) _, by omega, by decide⟩⟩)
 have hmf := wr_makeFunc
 clear h0 h1 h2 h3 ht hw hbL
 obtain ⟨m0, m1, m2, m3⟩ := iw4 (blk_below HGM.out HWR.out.below)
 go_enter Tryd.func16, Tryd.ntmps16
 go_wp2_with fail
 refine (list_Label.calls gs A0 c0 (w.heap.size + 2) _ _ w0 H0.out HWF.out.1 _ _ HWR.out).mono ?_
 rintro e w1 ⟨rfl, P1, hW, hA⟩
 clear m0 m1 m2 m3
 replace HWR := Aside0.mk hW
 clear hW hA
 obtain ⟨m0, m1, m2, m3⟩ := iw4 (blk_below HGM.out HWR.out.below)
 go_wp2_with fail
 refine (list_Array.calls arr A1 c1 (w.heap.size + 2) _ _ w0 H1.out HWF.out.2.1 _ _ HWR.out).mono ?_
 rintro e w2 ⟨rfl, P2, hW, hA⟩
 clear m0 m1 m2 m3
 replace HWR := Aside0.mk hW
 clear hW hA
 obtain ⟨m0, m1, m2, m3⟩ := iw4 (blk_below HGM.out HWR.out.below)
 go_wp2_with fail
 refine (list_Label.calls chs A2 c2 (w.heap.size + 2) _ _ w0 H2.out HWF.out.2.2.1 _ _ HWR.out).mono ?_
 rintro e w3 ⟨rfl, P3, hW, hA⟩
 clear m0 m1 m2 m3
 replace HWR := Aside0.mk hW
 clear hW hA
 obtain ⟨m0, m1, m2, m3⟩ := iw4 (blk_below HGM.out HWR.out.below)
 go_wp2_with fail
 refine (list_Function.calls fns A3 c3 (w.heap.size + 2) _ _ w0 HT.out H3.out HWF.out.2.2.2 _ _ HWR.out).mono ?_
 rintro e w4 ⟨rfl, P4, hW, hA⟩
 clear m0 m1 m2 m3
 replace HWR := Aside0.mk hW
 clear hW hA
 obtain ⟨m0, m1, m2, m3⟩ := iw4 (blk_below HGM.out HWR.out.below)
 clear m0 m1 m2 m3 hcv
 have hE : emit (emit (emit (emit magicL (cLabels gs)) (cArrs arr)) (cLabels chs)) (cFns fns) = emit magicL (cMod gs arr chs fns) := by
  unfold cMod
  rw [emit_append, emit_append, emit_append]
 have hBm : ((false || arr.any badA) || fns.any badF) = badM arr fns := by unfold badM; rw [Bool.false_or]
 have hWR := HWR.out
 rw [hE, hBm] at hWR
 clear hE hBm HWR
 obtain ⟨X, hX⟩ : ∃ X, emit magicL (cMod gs arr chs fns) = X := ⟨_, rfl⟩
 obtain ⟨B, hB⟩ : ∃ B, badM arr fns = B := ⟨_, rfl⟩
 rw [hX, hB] at hWR
 have HX := Aside0.mk hX
 have HBM := Aside0.mk hB
 have HB4 := Aside0.mk (Below.trans HB0.out (below_low hWR.below (by have := HS0.out; omega)))
 obtain ⟨v, hq, hR⟩ := hWR.st
 obtain ⟨A, c, rfl⟩ := hR.slice
 have HRD := Aside0.mk hR.reads
 obtain ⟨q0, q1, _, _⟩ := wrF hq
 clear hX hB hWR hq hR
 have HNIL := Aside0.mk (show Clipped w4 w.heap.size (.slice none 0 0) [] from ⟨none, 0, rfl, Kd.R_nil _ _ _ _ _⟩)
 cases B with
 | true =>
  go_wp2
  refine bodyPost_ret (results_tmp2 rfl _ _ _) rfl ?_
  rw [writeM_bad HBM.out]
  exact ⟨_, rfl, HNIL.out, HB4.out⟩
 | false =>
  have hw8 : wrap64 ((X.length : Int) + 8) = (X.length : Int) + 8 := by
   have := emit_le 0 (cMod gs arr chs fns) (len_cMod _ _ _ _ HWF.out.2.2.2) magicL (by decide)
   rw [HX.out] at this
   unfold wrap64
   omega
  by_cases hl : X.length ≤ 262136
  ·
   have hlb : decide ((X.length : Int) + 8 > 262144) = false := decide_eq_false (by omega)
   have hes := emit_short (gs := gs) (arr := arr) (chs := chs) (fns := fns) (by rw [HX.out]; exact hl)
   rw [HX.out] at hes
   have HF := Aside0.mk hes.1
   have HL := Aside0.mk hl
   have HLF := Aside0.mk hes.2
   have hX4 : 4 ≤ X.length := by rw [hes.1]; unfold fullM; rw [List.length_append]; show 4 ≤ 4 + _; omega
   have HX4 := Aside0.mk hX4
   have HBT := Aside0.mk (show Bts X by rw [hes.1]; exact bts_full _ _ _ _)
   obtain ⟨E, hE⟩ : ∃ E, eightL (sumL X) = E := ⟨_, rfl⟩
   have HEL := Aside0.mk (show E.length = 8 by rw [← hE]; exact eightL_length _)
   have HE := Aside0.mk hE
   obtain ⟨Z, hZ⟩ : ∃ Z, X ++ E = Z := ⟨_, rfl⟩
   have HZ := Aside0.mk hZ
   clear hes hl hX4 hE hZ
   go_wp2_with fail
   refine start_ (n := 16) (S := fun w' => w'.cell? ⟨w.heap.size + 2, 0, none⟩ = some (.slice A X.length c)) (ds := []) #[false, false, false, false, false, false, false, false, false, false, false, false, false, false, false, false] (by kernel_rfl) rfl rfl (q0) (fun hHeld => ?_)
   refine pure_ (i := 0) (N := some 46) (v := ?_) (a' := ?_) #[true, false, false, false, false, false, false, false, false, false, false, false, false, false, false, false] rfl rfl (by kernel_rfl) (fun _ _ _ h => h) (Or.inl ⟨by rfl, ?_⟩) ?_ ?_
   rotate_left
   ·
    intro w'
    go_simp
    with_reducible rfl
   rotate_left
   ·
    simp only [Act.put, List.setIfInBounds_toArray, List.set_cons_zero, List.set_cons_succ, i64_w, i32_w]
    rfl
   refine pure_ (i := 1) (N := some 47) (v := ?_) (a' := ?_) #[true, true, false, false, false, false, false, false, false, false, false, false, false, false, false, false] rfl rfl (by kernel_rfl) (fun _ _ _ h => h) (Or.inl ⟨by rfl, ?_⟩) ?_ ?_
   rotate_left
   ·
    intro w'
    go_simp
    with_reducible rfl
   rotate_left
   ·
    simp only [Act.put, List.setIfInBounds_toArray, List.set_cons_zero, List.set_cons_succ, i64_w, i32_w]
    rfl
   refine pure_ (i := 2) (N := some 48) (v := ?_) (a' := ?_) #[true, true, true, false, false, false, false, false, false, false, false, false, false, false, false, false] rfl rfl (by kernel_rfl) (fun _ _ _ h => h) (Or.inl ⟨by rfl, ?_⟩) ?_ ?_
   rotate_left
   ·
    intro w'
    go_simp
    with_reducible rfl
   rotate_left
   ·
    simp only [Act.put, List.setIfInBounds_toArray, List.set_cons_zero, List.set_cons_succ, i64_w, i32_w]
    rfl
   refine pure_ (i := 4) (N := some 50) (v := ?_) (a' := ?_) #[true, true, true, false, true, false, false, false, false, false, false, false, false, false, false, false] rfl rfl (by kernel_rfl) (fun _ _ _ h => h) (Or.inl ⟨by rfl, ?_⟩) ?_ ?_
   rotate_left
   ·
    intro w'
    go_simp
    with_reducible rfl
   rotate_left
   ·
    simp only [Act.put, List.setIfInBounds_toArray, List.set_cons_zero, List.set_cons_succ, i64_w, i32_w]
    rfl
   refine pure_ (i := 5) (N := some 51) (v := ?_) (a' := ?_) #[true, true, true, false, true, true, false, false, false, false, false, false, false, false, false, false] rfl rfl (by kernel_rfl) (fun _ _ _ h => h) (Or.inl ⟨by rfl, ?_⟩) ?_ ?_
   rotate_left
   ·
    intro w'
    go_simp
    with_reducible rfl
   rotate_left
   ·
    simp only [Act.put, List.setIfInBounds_toArray, List.set_cons_zero, List.set_cons_succ, i64_w, i32_w]
    rfl
   refine pure_ (i := 6) (N := some 52) (v := ?_) (a' := ?_) #[true, true, true, false, true, true, true, false, false, false, false, false, false, false, false, false] rfl rfl (by kernel_rfl) (fun _ _ _ h => h) (Or.inl ⟨by rfl, ?_⟩) ?_ ?_
   rotate_left
   ·
    intro w'
    go_simp
    with_reducible rfl
   rotate_left
   ·
    simp only [Act.put, List.setIfInBounds_toArray, List.set_cons_zero, List.set_cons_succ, i64_w, i32_w]
    rfl
   refine take_ (i := 3) (N := some 49) (v := ?_) (a' := ?_) #[true, true, true, true, true, true, true, false, false, false, false, false, false, false, false, false] rfl rfl (by kernel_rfl) (fun _ _ _ h => h) (Or.inl ⟨by rfl, ?_⟩) hHeld ?_ ?_
   rotate_left
   ·
    intro w' s0
    go_simp
    with_reducible rfl
   rotate_left
   ·
    simp only [Act.put, List.setIfInBounds_toArray, List.set_cons_zero, List.set_cons_succ, i64_w, i32_w]
    rfl
   refine take_ (i := 7) (N := some 53) (v := ?_) (a' := ?_) #[true, true, true, true, true, true, true, true, false, false, false, false, false, false, false, false] rfl rfl (by kernel_rfl) (fun _ _ _ h => h) (Or.inl ⟨by rfl, ?_⟩) hHeld ?_ ?_
   rotate_left
   ·
    intro w' s0
    go_simp
    with_reducible rfl
   rotate_left
   ·
    simp only [Act.put, List.setIfInBounds_toArray, List.set_cons_zero, List.set_cons_succ, i64_w, i32_w]
    rfl
   refine one_ (i := 8) (N := some 54) #[true, true, true, true, true, true, true, true, true, false, false, false, false, false, false, false] rfl rfl (by kernel_rfl) (by decide) (fun K hK => ?_)
   refine value_ (w1 := ?_) (v := ?_) (by rfl) rfl ?_ ?_
   rotate_left 2
   ·
    go_simp
    constructor
    ·
     rfl
    ·
     rfl
   have hb8 : Below w4.heap.size w4 (w4.drew.alloc (.cells #[.slice A X.length c] 27)) := below_alloc (below_drew1 (Below.refl w4.heap.size w4)) (.cells #[.slice A X.length c] 27)
   refine hK.out _ _ ((pw_cell_below (below_alloc (Below.refl w4.drew.heap.size w4.drew) (.cells #[.slice A X.length c] 27)) hHeld)) (fun hHeld => ?_)
   clear hK K
   refine norm_ (a' := ?_) ?_ ?_
   rotate_left
   ·
    show Act.put _ (some 54) _ = _
    simp only [Act.put, List.setIfInBounds_toArray, List.set_cons_zero, List.set_cons_succ, i64_w, i32_w]
    rfl
   refine one_ (i := 9) (N := some 55) #[true, true, true, true, true, true, true, true, true, true, false, false, false, false, false, false] rfl rfl (by kernel_rfl) (by decide) (fun K hK => ?_)
   refine goes_ Tryd.func46 (by kernel_rfl) rfl #[.slice (some ⟨w4.heap.size, 0, none⟩) 1 1] (by rfl) rfl rfl (by simp only [List.map_toArray, List.map_cons, List.map_nil]; rfl) ?_
   with_reducible refine (sum1D.calls X HBT.out A c w4 HRD.out.2 HRD.out.1).mono ?_
   rintro e w9 ⟨rfl, hb9⟩
   refine ⟨_, rfl, ?_⟩
   refine hK.out _ _ ((pw_cell_below hb9 q0)) (fun hHeld => ?_)
   clear hK K
   refine norm_ (a' := ?_) ?_ ?_
   rotate_left
   ·
    show Act.put _ (some 55) _ = _
    simp only [Act.put, List.setIfInBounds_toArray, List.set_cons_zero, List.set_cons_succ, i64_w, i32_w]
    rfl
   refine one_ (i := 10) (N := some 56) #[true, true, true, true, true, true, true, true, true, true, true, false, false, false, false, false] rfl rfl (by kernel_rfl) (by decide) (fun K hK => ?_)
   refine goes_ Tryd.func60 (by kernel_rfl) rfl #[.int .u64 (sumL X)] (by rfl) rfl rfl (by simp only [List.map_toArray, List.map_cons, List.map_nil]; rfl) ?_
   with_reducible refine (image_eight.calls (sumL X) w9).mono ?_
   rintro e w10 ⟨v10, rfl, hR10, hb10⟩
   refine ⟨_, rfl, ?_⟩
   rw [HE.out] at hR10
   obtain ⟨A10, c10, rfl, hl10, hC10⟩ := Kd.R_reads hR10
   have hC4 := Kd.C_below HRD.out.2 (below_step hb9 hb10)
   refine hK.out _ _ ((pw_cell_below hb10 hHeld)) (fun hHeld => ?_)
   clear hK K
   refine norm_ (a' := ?_) ?_ ?_
   rotate_left
   ·
    show Act.put _ (some 56) _ = _
    simp only [Act.put, List.setIfInBounds_toArray, List.set_cons_zero, List.set_cons_succ, i64_w, i32_w]
    rfl
   refine one_ (i := 11) (N := some 57) #[true, true, true, true, true, true, true, true, true, true, true, true, false, false, false, false] rfl rfl (by kernel_rfl) (by decide) (fun K hK => ?_)
   refine value_ (w1 := ?_) (v := ?_) (by rfl) rfl ?_ ?_
   rotate_left 2
   ·
    go_simp
    constructor
    ·
     rfl
    ·
     rfl
   refine hK.out _ _ ((pw_cell_below (below_alloc (Below.refl w10.heap.size w10) (.cells #[.slice A X.length c, .slice A10 E.length c10] 27)) hHeld)) (fun hHeld => ?_)
   clear hK K
   refine norm_ (a' := ?_) ?_ ?_
   rotate_left
   ·
    show Act.put _ (some 57) _ = _
    simp only [Act.put, List.setIfInBounds_toArray, List.set_cons_zero, List.set_cons_succ, i64_w, i32_w]
    rfl
   refine one_ (i := 12) (N := some 58) #[true, true, true, true, true, true, true, true, true, true, true, true, true, false, false, false] rfl rfl (by kernel_rfl) (by decide) (fun K hK => ?_)
   refine goes_ Tryd.func59 (by kernel_rfl) rfl #[.slice (some ⟨w10.heap.size, 0, none⟩) 2 2] (by rfl) rfl rfl (by simp only [List.map_toArray, List.map_cons, List.map_nil]; rfl) ?_
   with_reducible refine (concat2.calls X E Z HZ.out (by have := HX4.out; omega) (by have := HL.out; have := HEL.out; omega) A A10 c c10 w10 hC4 HRD.out.1 hC10 hl10).mono ?_
   rintro e w12 ⟨v12, rfl, hR12, hb12⟩
   refine ⟨_, rfl, ?_⟩
   obtain ⟨A12, c12, rfl, hl12, _⟩ := Kd.R_reads hR12
   refine hK.out _ _ ((pw_cell_below (below_step hb9 (below_step hb10 hb12)) q0)) (fun hHeld => ?_)
   clear hK K
   refine norm_ (a' := ?_) ?_ ?_
   rotate_left
   ·
    show Act.put _ (some 58) _ = _
    simp only [Act.put, List.setIfInBounds_toArray, List.set_cons_zero, List.set_cons_succ, i64_w, i32_w]
    rfl
   refine one_ (i := 13) (N := some 59) #[true, true, true, true, true, true, true, true, true, true, true, true, true, true, false, false] rfl rfl (by kernel_rfl) (by decide) (fun K hK => ?_)
   refine goes_ Tryd.func58 (by kernel_rfl) rfl #[.slice A12 Z.length c12] (by rfl) rfl rfl (by simp only [List.map_toArray, List.map_cons, List.map_nil]; rfl) ?_
   with_reducible refine (clip_calls A12 Z.length c12 hl12 w12).mono ?_
   rintro e w13 ⟨rfl, hd13⟩
   refine ⟨_, rfl, ?_⟩
   have hb13 := hd13.below
   refine hK.out _ _ ((pw_cell_below hb13 hHeld)) (fun hHeld => ?_)
   clear hK K
   refine norm_ (a' := ?_) ?_ ?_
   rotate_left
   ·
    show Act.put _ (some 59) _ = _
    simp only [Act.put, List.setIfInBounds_toArray, List.set_cons_zero, List.set_cons_succ, i64_w, i32_w]
    rfl
   refine pure_ (i := 14) (N := some 2) (v := ?_) (a' := ?_) #[true, true, true, true, true, true, true, true, true, true, true, true, true, true, true, false] rfl rfl (by kernel_rfl) (fun _ _ _ h => h) (Or.inl ⟨by rfl, ?_⟩) ?_ ?_
   rotate_left
   ·
    intro w'
    go_simp
    with_reducible rfl
   rotate_left
   ·
    simp only [Act.put, List.setIfInBounds_toArray, List.set_cons_zero, List.set_cons_succ, i64_w, i32_w]
    rfl
   refine pure_ (i := 15) (N := some 3) (v := ?_) (a' := ?_) #[true, true, true, true, true, true, true, true, true, true, true, true, true, true, true, true] rfl rfl (by kernel_rfl) (fun _ _ _ h => h) (Or.inl ⟨by rfl, ?_⟩) ?_ ?_
   rotate_left
   ·
    intro w'
    go_simp
    with_reducible rfl
   rotate_left
   ·
    simp only [Act.put, List.setIfInBounds_toArray, List.set_cons_zero, List.set_cons_succ, i64_w, i32_w]
    rfl
   refine done_ (by kernel_rfl) ?_
   have hbf := below_step (below_step hb9 (below_step hb10 hb12)) hb13
   have HBF := Aside0.mk (below_step HB4.out hbf)
   have HRF := Aside0.mk (Kd.R_below hR12 hb13)
   have HLO := Aside0.mk (show w.heap.size ≤ w10.heap.size from Nat.le_trans HB4.out.size (Nat.le_trans hb9.size hb10.size))
   clear hbf hb13 hR12 hb12 hb10 hb9 hd13
   go_wp2
   refine bodyPost_ret (results_tmp2 rfl _ _ _) rfl ?_
   rw [writeM_fine HBM.out HLF.out, ← HF.out, HE.out, HZ.out]
   exact ⟨_, rfl, ⟨A12, c12, rfl, Kd.R_mono (Kd.R_lower HRF.out HLO.out) (fun k hk => Nat.le_trans HLO.out hk)⟩, HBF.out⟩
  ·
   have hlb : decide ((X.length : Int) + 8 > 262144) = true := decide_eq_true (by omega)
   have HL := Aside0.mk hl
   clear hl
   go_wp2
   refine bodyPost_ret (results_tmp2 rfl _ _ _) rfl ?_
   rw [writeM_long HBM.out (by rw [HX.out]; have := HL.out; omega)]
   exact ⟨_, rfl, HNIL.out, HB4.out⟩
end Go.Proofs.YtgpdaihfjnihhaaDoor.PJ
