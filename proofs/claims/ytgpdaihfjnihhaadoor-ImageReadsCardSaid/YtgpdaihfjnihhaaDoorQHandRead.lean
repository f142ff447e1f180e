/- image.Read, by hand. -/
import Derived.Test.YtgpdaihfjnihhaaDoorQPJx3
import Derived.Test.YtgpdaihfjnihhaaDoorQHandModule
import Derived.Test.YtgpdaihfjnihhaaDoorQHandImgWrite
import Derived.Test.YtgpdaihfjnihhaaDoorQImageLaw
namespace Go.Proofs.YtgpdaihfjnihhaaDoor.PJ
open Go.RowKit Go.Proofs.YtgpdaihfjnihhaaDoorW.PrintWords Go.Proofs.YtgpdaihfjnihhaaDoorW.PrintLast Go.Proofs.YtgpdaihfjnihhaaDoorW.PrintMore Go.Proofs.YtgpdaihfjnihhaaDoor.LebPure Go.Proofs.YtgpdaihfjnihhaaDoor.LebForm Go.Proofs.YtgpdaihfjnihhaaDoor.B64
set_option linter.unusedSimpArgs false
set_option linter.unusedVariables false
theorem byte_of {x y : Int} (hx : 0 ≤ x ∧ x ≤ 255) (hy : 0 ≤ y ∧ y ≤ 255) (h : UInt8.ofNat x.toNat = UInt8.ofNat y.toNat) : x = y := by
 have h2 := congrArg UInt8.toNat h
 simp only [UInt8.toNat_ofNat'] at h2
 omega
theorem bytes_of : ∀ {a b : List Int}, Bts a → Bts b → a.map (fun n => UInt8.ofNat n.toNat) = b.map (fun n => UInt8.ofNat n.toNat) → a = b
 | [], [], _, _, _ => rfl
 | [], _ :: _, _, _, h => by cases h
 | _ :: _, [], _, _, h => by cases h
 | x :: a, y :: b, ha, hb, h => by
  simp only [List.map_cons, List.cons.injEq] at h
  rw [byte_of (ha x List.mem_cons_self) (hb y List.mem_cons_self) h.1, bytes_of (fun z hz => ha z (List.mem_cons_of_mem _ hz)) (fun z hz => hb z (List.mem_cons_of_mem _ hz)) h.2]
theorem bytes_Equal_f (a b : List Int) (ha : Bts a) (hb : Bts b) : bytes_Equal.f a b = some (decide (a = b)) := by
 unfold bytes_Equal.f
 simp only [strOfNums, ByteArray.toList_mk]
 by_cases h : a = b
 ·
  subst h
  simp
 ·
  rw [decide_eq_false h]
  have : ¬ (a.map (fun n => UInt8.ofNat n.toNat) = b.map (fun n => UInt8.ofNat n.toNat)) := fun e => h (bytes_of ha hb e)
  simp [this]
theorem bts_magic : Bts magicL := by
 intro x hx
 simp only [magicL, List.mem_cons, List.not_mem_nil, or_false] at hx
 rcases hx with rfl | rfl | rfl | rfl <;> decide
set_option maxHeartbeats 16000000 in
set_option maxRecDepth 100000 in
theorem bytes_HasPrefix.calls (A B : Option Addr) (c d : Nat) (xs ys : List Int) (hx : Bts xs) (hy : Bts ys) (hxy : ys.length ≤ xs.length) (w : World) (hc : xs.length ≤ c) (hC : Kd.C (Kd.int .u8) w A xs.length xs) (hd : ys.length ≤ d) (hD : Kd.C (Kd.int .u8) w B ys.length ys) :
  Calls Tryd.prog 61 #[.slice A xs.length c, .slice B ys.length d] w fun e w' => e = .returned (.bool (decide (xs.take ys.length = ys))) ∧ Drawn0 w w' := by
 obtain ⟨Z, hZ⟩ : ∃ Z, xs.take ys.length = Z := ⟨_, rfl⟩
 obtain ⟨hcut, hcr, hcl⟩ := cut_take_int (P := Tryd.prog) (k := .u8) 27 5 Tryd.underlying27 winfo8 A c xs Z ys.length hxy hc hZ
 have HE := Aside0.mk (bytes_Equal.calls A c Z B d ys (decide (Z = ys)) w (hcr w hC) hcl hD hd (bytes_Equal_f _ _ (fun x h => by rw [← hZ] at h; exact hx x (List.mem_of_mem_take h)) hy))
 rw [hZ]
 have hge : decide ((xs.length : Int) ≥ (ys.length : Int)) = true := decide_eq_true (by omega)
 clear hx hy hc hC hd hD hcr hcl hZ
 go_enter Tryd.func61, Tryd.ntmps61
 go_wp2_with fail
 refine HE.out.mono ?_
 rintro e w1 ⟨rfl, hdr⟩
 have HDR := Aside0.mk hdr
 clear hdr HE
 go_wp2
 go_ret
 exact ⟨rfl, HDR.out⟩
theorem run_read_results {W : World} {b : Nat} {s0 s1 s2 s3 : Value} (tmps : Array Value) (h2 : tmps.getD 2 undef = .pointer (some ⟨b, 0, none⟩)) (hm : W.heap[b]? = some (.cells #[s0, s1, s2, s3] 26 (0, 0))) :
  (results Tryd.f18 tmps).run Tryd.prog W = .ok (.tuple #[.agg #[s0, s1, s2, s3], tmps.getD 3 undef]) W := by
 have h2' : tmps[2]?.getD undef = .pointer (some ⟨b, 0, none⟩) := by simpa using h2
 simp [results, Tryd.results18, h2', asAddr, run_loadVar_row W b 26 26 _ _ _ hm Tryd.underlying26 rfl (by kernel_rfl)]
theorem modOut_none (W : World) (lo hi : Nat) (h : lo ≤ hi) : ModOut W lo hi (.slice none 0 0) (.slice none 0 0) (.slice none 0 0) (.slice none 0 0) ([], [], [], []) :=
 ⟨lo, lo, lo, lo, lo, lo, lo, hi, Nat.le_refl _, Nat.le_refl _, Nat.le_refl _, Nat.le_refl _, Nat.le_refl _, Nat.le_refl _, Nat.le_refl _, h, Nat.le_refl _, ⟨none, 0, rfl, Kd.R_nil _ _ _ _ _⟩, ⟨none, 0, rfl, Kd.R_nil _ _ _ _ _⟩, ⟨none, 0, rfl, Kd.R_nil _ _ _ _ _⟩, [], rfl, ⟨none, 0, rfl, Kd.R_nil _ _ _ _ _⟩, h⟩
theorem ModOut.slices {W : World} {lo hi : Nat} {v1 v2 v3 v4 : Value} {m : ModL} (h : ModOut W lo hi v1 v2 v3 v4 m) : ∃ A1 A2 A3 A4, v1 = .slice A1 m.1.length m.1.length ∧ v2 = .slice A2 m.2.1.length m.2.1.length ∧ v3 = .slice A3 m.2.2.1.length m.2.2.1.length ∧ v4 = .slice A4 m.2.2.2.length m.2.2.2.length := by
 obtain ⟨a1, b1, a2, b2, a3, b3, a4, b4, p1, p2, p3, p4, p5, p6, p7, p8, p9, h1, h2, h3, h4⟩ := h
 obtain ⟨A1, e1⟩ := h1.slice
 obtain ⟨A2, e2⟩ := h2.slice
 obtain ⟨A3, e3⟩ := h3.slice
 obtain ⟨A4, e4⟩ := h4.slice
 exact ⟨A1, A2, A3, A4, e1, e2, e3, e4⟩
theorem readM_long {xs : List Int} (h : 262144 < xs.length) : readM xs = (([], [], [], []), 3) := by unfold readM; rw [if_pos h]
theorem readM_form {xs : List Int} (h0 : xs.length ≤ 262144) (h : xs.length < 12 ∨ xs.take 4 ≠ magicL) : readM xs = (([], [], [], []), 120) := by unfold readM; rw [if_neg (by omega), if_pos h]
theorem readM_sum {xs : List Int} (h0 : xs.length ≤ 262144) (h : ¬ (xs.length < 12 ∨ xs.take 4 ≠ magicL)) (h2 : xs.drop (xs.length - 8) ≠ eightL (sumL (xs.take (xs.length - 8)))) : readM xs = (([], [], [], []), 121) := by unfold readM; rw [if_neg (by omega), if_neg h, if_pos h2]
theorem readM_rest {xs : List Int} {m : ModL} (h0 : xs.length ≤ 262144) (h : ¬ (xs.length < 12 ∨ xs.take 4 ≠ magicL)) (h2 : ¬ xs.drop (xs.length - 8) ≠ eightL (sumL (xs.take (xs.length - 8)))) (h3 : rdMod ((xs.take (xs.length - 8)).drop 4) = some (m, [])) : readM xs = (m, 0) := by
 unfold readM
 rw [if_neg (by omega), if_neg h, if_neg h2, h3]
theorem readM_none9 {xs : List Int} (h0 : xs.length ≤ 262144) (h : ¬ (xs.length < 12 ∨ xs.take 4 ≠ magicL)) (h2 : ¬ xs.drop (xs.length - 8) ≠ eightL (sumL (xs.take (xs.length - 8)))) (h3 : ∀ m, rdMod ((xs.take (xs.length - 8)).drop 4) ≠ some (m, [])) : readM xs = (([], [], [], []), 120) := by
 unfold readM
 rw [if_neg (by omega), if_neg h, if_neg h2]
 split
 ·
  rename_i m hm
  exact absurd hm (h3 m)
 ·
  rfl
set_option maxHeartbeats 32000000 in
set_option maxRecDepth 100000 in
theorem image_Read.calls (A : Option Addr) (c : Nat) (xs : List Int) (hb : Bts xs) (w : World) (ht : Lib.TabIs Tryd.prog w "strings.asciiSpace" .u8 Lib.asciiSpaceTab) (hc : xs.length ≤ c) (hC : Kd.C (Kd.int .u8) w A xs.length xs) :
  Calls Tryd.prog 18 #[.slice A xs.length c] w fun e w' => ∃ v1 v2 v3 v4, e = .returned (.tuple #[.agg #[v1, v2, v3, v4], .int .i64 (readM xs).2]) ∧ ModOut w' w.heap.size w'.heap.size v1 v2 v3 v4 (readM xs).1 ∧ Below w.heap.size w w' := by
 have hmx := Kd.C_max hC
 have HB0 := Aside0.mk (below_alloc (Below.refl w.heap.size w) (.cells #[.slice none 0 0, .slice none 0 0, .slice none 0 0, .slice none 0 0] 26))
 have HGM := Aside0.mk (heap_alloc_new w (.cells #[.slice none 0 0, .slice none 0 0, .slice none 0 0, .slice none 0 0] 26))
 have HXB := Aside0.mk hb
 have HXC := Aside0.mk hc
 have HC := Aside0.mk (Kd.C_below hC HB0.out)
 have HT := Aside0.mk (tab_below ht HB0.out)
 obtain ⟨⟨m0, m1, m2, m3⟩, z0, z1, z2, z3⟩ := facts4 HGM.out
 have hw8 : wrap64 ((xs.length : Int) - 8) = (xs.length : Int) - 8 := by unfold wrap64; omega
 have HW8 := Aside0.mk hw8
 have HMX := Aside0.mk hmx
 clear hmx hb hc hC ht
 go_enter Tryd.func18, Tryd.ntmps18
 by_cases hl : 262144 < xs.length
 ·
  have hlb : decide ((xs.length : Int) > 262144) = true := decide_eq_true (by omega)
  have HL := Aside0.mk hl
  clear hl
  go_wp2
  refine bodyPost_ret (run_read_results _ rfl HGM.out) rfl ?_
  rw [readM_long HL.out]
  exact ⟨_, _, _, _, rfl, modOut_none _ _ _ HB0.out.size, HB0.out⟩
 have hlb : decide ((xs.length : Int) > 262144) = false := decide_eq_false (by omega)
 have HL := Aside0.mk (show xs.length ≤ 262144 by omega)
 clear hl
 by_cases h12 : xs.length < 12
 ·
  have h12b : decide ((xs.length : Int) - 8 < 4) = true := decide_eq_true (by omega)
  have H12 := Aside0.mk h12
  clear h12
  go_wp2
  refine bodyPost_ret (run_read_results _ rfl HGM.out) rfl ?_
  rw [readM_form HL.out (.inl H12.out)]
  exact ⟨_, _, _, _, rfl, modOut_none _ _ _ HB0.out.size, HB0.out⟩
 obtain ⟨m, hm⟩ : ∃ m, xs.length = m + 8 := ⟨xs.length - 8, by omega⟩
 have H12 := Aside0.mk h12
 have HM := Aside0.mk hm
 replace hw8 : wrap64 ((xs.length : Int) - 8) = (m : Int) := by rw [HW8.out]; omega
 have h12b : decide ((m : Int) < 4) = false := decide_eq_false (by omega)
 have hsz : (w.alloc (.cells #[.slice none 0 0, .slice none 0 0, .slice none 0 0, .slice none 0 0] 26)).heap.size = w.heap.size + 1 := Array.size_push _
 have hcv : (convert 27 27 (.slice (some ⟨w.heap.size + 1, 0, none⟩) 4 4)).run Tryd.prog ((w.alloc (.cells #[.slice none 0 0, .slice none 0 0, .slice none 0 0, .slice none 0 0] 26)).alloc (.cells #[.int .u8 76, .int .u8 86, .int .u8 82, .int .u8 1] 5)) = .ok (.slice (some ⟨w.heap.size + 1, 0, none⟩) 4 4) ((w.alloc (.cells #[.slice none 0 0, .slice none 0 0, .slice none 0 0, .slice none 0 0] 26)).alloc (.cells #[.int .u8 76, .int .u8 86, .int .u8 82, .int .u8 1] 5 (4, 5))) :=
  Joins.run_convert_bytes_const_at (w.alloc (.cells #[.slice none 0 0, .slice none 0 0, .slice none 0 0, .slice none 0 0] 26)) 27 5 #[.int .u8 76, .int .u8 86, .int .u8 82, .int .u8 1] 4 4 (w.heap.size + 1) hsz.symm Tryd.underlying27 Tryd.underlying5
 have hbL := below_alloc (Below.refl (w.alloc (.cells #[.slice none 0 0, .slice none 0 0, .slice none 0 0, .slice none 0 0] 26)).heap.size (w.alloc (.cells #[.slice none 0 0, .slice none 0 0, .slice none 0 0, .slice none 0 0] 26))) (.cells #[.int .u8 76, .int .u8 86, .int .u8 82, .int .u8 1] 5 (4, 5))
 have hlit : Kd.C (Kd.int .u8) ((w.alloc (.cells #[.slice none 0 0, .slice none 0 0, .slice none 0 0, .slice none 0 0] 26)).alloc (.cells #[.int .u8 76, .int .u8 86, .int .u8 82, .int .u8 1] 5 (4, 5))) (some ⟨w.heap.size + 1, 0, none⟩) magicL.length magicL :=
  (RowSt.reads (P := fun _ => True) (q := 0) (c := 4) (.inr ⟨w.heap.size + 1, (4, 5), rfl, by rw [← hsz]; exact heap_alloc_new (w.alloc (.cells #[.slice none 0 0, .slice none 0 0, .slice none 0 0, .slice none 0 0] 26)) _, by omega, by decide⟩)).2
 obtain ⟨pb, hpb⟩ : ∃ pb, decide (xs.take magicL.length = magicL) = pb := ⟨_, rfl⟩
 have HPB := Aside0.mk hpb
 have HPX := Aside0.mk (bytes_HasPrefix.calls A (some ⟨w.heap.size + 1, 0, none⟩) c 4 xs magicL HXB.out bts_magic (by show 4 ≤ xs.length; omega) ((w.alloc (.cells #[.slice none 0 0, .slice none 0 0, .slice none 0 0, .slice none 0 0] 26)).alloc (.cells #[.int .u8 76, .int .u8 86, .int .u8 82, .int .u8 1] 5 (4, 5))) HXC.out (Kd.C_below HC.out hbL) (Nat.le_refl 4) hlit)
 rw [hpb] at HPX
 have HBL := Aside0.mk hbL
 clear h12 hm hsz hbL hlit hpb
 go_wp2_with fail
 refine HPX.out.mono ?_
 rintro e w1 ⟨rfl, hd⟩
 have hb1 := below_step HBL.out hd.below
 have HB1 := Aside0.mk (below_step HB0.out hb1)
 have HC1 := Aside0.mk (Kd.C_below HC.out hb1)
 have HT1 := Aside0.mk (tab_below HT.out hb1)
 have HG1 := Aside0.mk (blk_below HGM.out hb1)
 clear m0 m1 m2 m3 z0 z1 z2 z3 hcv HPX HBL HGM hd hb1 HC HT
 obtain ⟨⟨m0, m1, m2, m3⟩, z0, z1, z2, z3⟩ := facts4 HG1.out
 cases pb with
 | false =>
  go_wp2
  refine bodyPost_ret (run_read_results _ rfl (put4 HG1.out _ _ _ _)) rfl ?_
  rw [readM_form HL.out (.inr (of_decide_eq_false HPB.out))]
  exact ⟨_, _, _, _, rfl, modOut_none _ _ _ (by simpa [World.setCell] using HB1.out.size), below_set (below_set (below_set (below_set HB1.out (Nat.le_refl _)) (Nat.le_refl _)) (Nat.le_refl _)) (Nat.le_refl _)⟩
 | true =>
  obtain ⟨X, hX⟩ : ∃ X, xs.take m = X := ⟨_, rfl⟩
  obtain ⟨E, hE⟩ : ∃ E, xs.drop m = E := ⟨_, rfl⟩
  obtain ⟨Y, hY⟩ : ∃ Y, (xs.take m).drop 4 = Y := ⟨_, rfl⟩
  obtain ⟨E8, hE8⟩ : ∃ E8, eightL (sumL X) = E8 := ⟨_, rfl⟩
  obtain ⟨hcX, hcXr, hcXl⟩ := cut_take_int (P := Tryd.prog) (k := .u8) 27 5 Tryd.underlying27 winfo8 A c xs X m (by have := HM.out; omega) HXC.out hX
  obtain ⟨A2, hcE, hcEr, hcEl⟩ := cut_drop_int (P := Tryd.prog) (k := .u8) 27 5 Tryd.underlying27 winfo8 A c xs E m (by have := HM.out; omega) HXC.out hE
  obtain ⟨A3, hcY0, hcYr, hcYl⟩ := cut_mid_int (P := Tryd.prog) (k := .u8) 27 5 Tryd.underlying27 winfo8 A c xs Y 4 (m : Int) (by have h1 := H12.out; have h2 := HM.out; omega) (by have := HM.out; omega) HXC.out (by rw [Int.toNat_natCast]; exact hY)
  have hcY : ∀ W : World, (Instr.slice 27 (.slice A xs.length c) (some (.int .i64 4)) (some (.int .i64 (m : Int))) none).run Tryd.prog W = .ok (.slice A3 Y.length (c - 4)) W := hcY0
  have HBX := Aside0.mk (show Bts X by rw [← hX]; exact fun x h => HXB.out x (List.mem_of_mem_take h))
  have HBE := Aside0.mk (show Bts E by rw [← hE]; exact fun x h => HXB.out x (List.mem_of_mem_drop h))
  have HBY := Aside0.mk (show Bts Y by rw [← hY]; exact fun x h => HXB.out x (List.mem_of_mem_take (List.mem_of_mem_drop h)))
  have HB8 := Aside0.mk (show Bts E8 by rw [← hE8]; exact eightL_bts _)
  have HX := Aside0.mk (And.intro hX (And.intro hE (And.intro hY hE8)))
  have HCX := Aside0.mk (And.intro (hcXr w1 HC1.out) hcXl)
  have HCE := Aside0.mk (And.intro (hcEr w1 HC1.out) hcEl)
  have HCY := Aside0.mk (And.intro hcYr hcYl)
  have HYL := Aside0.mk (show Y.length ≤ 1000000 by rw [← hY, List.length_drop, List.length_take]; have := HL.out; omega)
  clear hX hE hY hE8 hcXr hcXl hcEr hcEl hcYr hcYl hcY0
  go_wp2_with fail
  refine start_ (n := 12) (S := fun w' => True) (ds := []) #[false, false, false, false, false, false, false, false, false, false, false, false] (by kernel_rfl) rfl rfl trivial (fun hHeld => ?_)
  refine pure_ (i := 0) (N := some 26) (v := ?_) (a' := ?_) #[true, false, false, false, false, false, false, false, false, false, false, false] rfl rfl (by kernel_rfl) (fun _ _ _ h => h) (Or.inl ⟨by rfl, ?_⟩) ?_ ?_
  rotate_left
  ·
   intro w'
   go_simp
   with_reducible rfl
  rotate_left
  ·
   simp only [Act.put, List.setIfInBounds_toArray, List.set_cons_zero, List.set_cons_succ, i64_w, i32_w]
   rfl
  refine pure_ (i := 1) (N := some 27) (v := ?_) (a' := ?_) #[true, true, false, false, false, false, false, false, false, false, false, false] rfl rfl (by kernel_rfl) (fun _ _ _ h => h) (Or.inl ⟨by rfl, ?_⟩) ?_ ?_
  rotate_left
  ·
   intro w'
   go_simp
   with_reducible rfl
  rotate_left
  ·
   simp only [Act.put, List.setIfInBounds_toArray, List.set_cons_zero, List.set_cons_succ, i64_w, i32_w]
   rfl
  refine pure_ (i := 2) (N := some 28) (v := ?_) (a' := ?_) #[true, true, true, false, false, false, false, false, false, false, false, false] rfl rfl (by kernel_rfl) (fun _ _ _ h => h) (Or.inl ⟨by rfl, ?_⟩) ?_ ?_
  rotate_left
  ·
   intro w'
   go_simp
   with_reducible rfl
  rotate_left
  ·
   simp only [Act.put, List.setIfInBounds_toArray, List.set_cons_zero, List.set_cons_succ, i64_w, i32_w]
   rfl
  refine pure_ (i := 3) (N := some 29) (v := ?_) (a' := ?_) #[true, true, true, true, false, false, false, false, false, false, false, false] rfl rfl (by kernel_rfl) (fun _ _ _ h => h) (Or.inl ⟨by rfl, ?_⟩) ?_ ?_
  rotate_left
  ·
   intro w'
   go_simp
   with_reducible rfl
  rotate_left
  ·
   simp only [Act.put, List.setIfInBounds_toArray, List.set_cons_zero, List.set_cons_succ, i64_w, i32_w]
   rfl
  refine pure_ (i := 4) (N := some 30) (v := ?_) (a' := ?_) #[true, true, true, true, true, false, false, false, false, false, false, false] rfl rfl (by kernel_rfl) (fun _ _ _ h => h) (Or.inl ⟨by rfl, ?_⟩) ?_ ?_
  rotate_left
  ·
   intro w'
   go_simp
   with_reducible rfl
  rotate_left
  ·
   simp only [Act.put, List.setIfInBounds_toArray, List.set_cons_zero, List.set_cons_succ, i64_w, i32_w]
   rfl
  refine pure_ (i := 5) (N := some 31) (v := ?_) (a' := ?_) #[true, true, true, true, true, true, false, false, false, false, false, false] rfl rfl (by kernel_rfl) (fun _ _ _ h => h) (Or.inl ⟨by rfl, ?_⟩) ?_ ?_
  rotate_left
  ·
   intro w'
   go_simp
   with_reducible rfl
  rotate_left
  ·
   simp only [Act.put, List.setIfInBounds_toArray, List.set_cons_zero, List.set_cons_succ, i64_w, i32_w]
   rfl
  refine one_ (i := 6) (N := some 32) #[true, true, true, true, true, true, true, false, false, false, false, false] rfl rfl (by kernel_rfl) (by decide) (fun K hK => ?_)
  refine value_ (w1 := ?_) (v := ?_) (by rfl) rfl ?_ ?_
  rotate_left 2
  ·
   go_simp
   constructor
   ·
    rfl
   ·
    rfl
  refine hK.out _ _ trivial (fun hHeld => ?_)
  clear hK K
  refine norm_ (a' := ?_) ?_ ?_
  rotate_left
  ·
   show Act.put _ (some 32) _ = _
   simp only [Act.put, List.setIfInBounds_toArray, List.set_cons_zero, List.set_cons_succ, i64_w, i32_w]
   rfl
  refine one_ (i := 7) (N := some 33) #[true, true, true, true, true, true, true, true, false, false, false, false] rfl rfl (by kernel_rfl) (by decide) (fun K hK => ?_)
  refine goes_ Tryd.func46 (by kernel_rfl) rfl #[.slice (some ⟨w1.heap.size, 0, none⟩) 1 1] (by rfl) rfl rfl (by simp only [List.map_toArray, List.map_cons, List.map_nil]; rfl) ?_
  with_reducible refine (sum1D.calls X HBX.out A c w1 HCX.out.1 HCX.out.2).mono ?_
  rintro e w7 ⟨rfl, hb7⟩
  refine ⟨_, rfl, ?_⟩
  refine hK.out _ _ trivial (fun hHeld => ?_)
  clear hK K
  refine norm_ (a' := ?_) ?_ ?_
  rotate_left
  ·
   show Act.put _ (some 33) _ = _
   simp only [Act.put, List.setIfInBounds_toArray, List.set_cons_zero, List.set_cons_succ, i64_w, i32_w]
   rfl
  refine one_ (i := 8) (N := some 34) #[true, true, true, true, true, true, true, true, true, false, false, false] rfl rfl (by kernel_rfl) (by decide) (fun K hK => ?_)
  refine goes_ Tryd.func60 (by kernel_rfl) rfl #[.int .u64 (sumL X)] (by rfl) rfl rfl (by simp only [List.map_toArray, List.map_cons, List.map_nil]; rfl) ?_
  with_reducible refine (image_eight.calls (sumL X) w7).mono ?_
  rintro e w8 ⟨v8, rfl, hR8, hb8⟩
  refine ⟨_, rfl, ?_⟩
  rw [HX.out.2.2.2] at hR8
  obtain ⟨A8, c8, rfl, hl8, hC8⟩ := Kd.R_reads hR8
  have hC4 := Kd.C_below HCE.out.1 (below_step hb7 hb8)
  refine hK.out _ _ trivial (fun hHeld => ?_)
  clear hK K
  refine norm_ (a' := ?_) ?_ ?_
  rotate_left
  ·
   show Act.put _ (some 34) _ = _
   simp only [Act.put, List.setIfInBounds_toArray, List.set_cons_zero, List.set_cons_succ, i64_w, i32_w]
   rfl
  refine one_ (i := 9) (N := some 35) #[true, true, true, true, true, true, true, true, true, true, false, false] rfl rfl (by kernel_rfl) (by decide) (fun K hK => ?_)
  refine goes_ Tryd.func62 (by kernel_rfl) rfl #[.slice A2 E.length (c - m), .slice A8 E8.length c8] (by rfl) rfl rfl (by simp only [List.map_toArray, List.map_cons, List.map_nil]; rfl) ?_
  with_reducible refine (bytes_Equal.calls A2 (c - m) E A8 c8 E8 (decide (E = E8)) w8 hC4 HCE.out.2 hC8 hl8 (bytes_Equal_f _ _ HBE.out HB8.out)).mono ?_
  rintro e w9 ⟨rfl, hd9⟩
  refine ⟨_, rfl, ?_⟩
  have hb9 := hd9.below
  refine hK.out _ _ trivial (fun hHeld => ?_)
  clear hK K
  refine norm_ (a' := ?_) ?_ ?_
  rotate_left
  ·
   show Act.put _ (some 35) _ = _
   simp only [Act.put, List.setIfInBounds_toArray, List.set_cons_zero, List.set_cons_succ, i64_w, i32_w]
   rfl
  refine pure_ (i := 10) (N := some 36) (v := ?_) (a' := ?_) #[true, true, true, true, true, true, true, true, true, true, true, false] rfl rfl (by kernel_rfl) (fun _ _ _ h => h) (Or.inl ⟨by rfl, ?_⟩) ?_ ?_
  rotate_left
  ·
   intro w'
   go_simp
   with_reducible rfl
  rotate_left
  ·
   simp only [Act.put, List.setIfInBounds_toArray, List.set_cons_zero, List.set_cons_succ, i64_w, i32_w]
   rfl
  refine pure_ (i := 11) (N := some 25) (v := ?_) (a' := ?_) #[true, true, true, true, true, true, true, true, true, true, true, true] rfl rfl (by kernel_rfl) (fun _ _ _ h => h) (Or.inl ⟨by rfl, ?_⟩) ?_ ?_
  rotate_left
  ·
   intro w'
   go_simp
   with_reducible rfl
  rotate_left
  ·
   simp only [Act.put, List.setIfInBounds_toArray, List.set_cons_zero, List.set_cons_succ, i64_w, i32_w]
   rfl
  refine done_ (by kernel_rfl) ?_
  have hb19 := below_step hb7 (below_step hb8 hb9)
  have HB9 := Aside0.mk (below_step HB1.out hb19)
  have HT9 := Aside0.mk (tab_below HT1.out hb19)
  have HC9 := Aside0.mk (Kd.C_below HC1.out hb19)
  have HG9 := Aside0.mk (blk_below HG1.out hb19)
  clear m0 m1 m2 m3 z0 z1 z2 z3 hb7 hb8 hb9 hd9 hb19 hR8 hl8 hC8 hC4 hHeld HG1 HC1 HT1 HCX HCE
  obtain ⟨⟨m0, m1, m2, m3⟩, z0, z1, z2, z3⟩ := facts4 HG9.out
  have HXM := Aside0.mk (show xs.length - 8 = m by have := HM.out; omega)
  have HPM := Aside0.mk (show ¬ (xs.length < 12 ∨ xs.take 4 ≠ magicL) by
   rintro (h | h)
   ·
    exact H12.out h
   ·
    exact h (of_decide_eq_true HPB.out))
  by_cases he : E = E8
  ·
   have heb : decide (E = E8) = true := decide_eq_true he
   have HE := Aside0.mk (show ¬ xs.drop (xs.length - 8) ≠ eightL (sumL (xs.take (xs.length - 8))) by rw [HXM.out, HX.out.1, HX.out.2.1, HX.out.2.2.2]; exact fun h => h he)
   have HY := Aside0.mk (show (xs.take (xs.length - 8)).drop 4 = Y by rw [HXM.out]; exact HX.out.2.2.1)
   rw [heb]
   clear he
   have hbq := below_alloc (Below.refl w9.heap.size w9) (.cells #[.slice A3 Y.length (c - 4)] 101)
   have HRD := Aside0.mk (show Rd w9 (w9.alloc (.cells #[.slice A3 Y.length (c - 4)] 101)) w9.heap.size Y from
    ⟨hbq, Nat.le_refl _, ⟨A3, c - 4, A, xs, heap_alloc_new w9 _, HCY.out.2, HCY.out.1, HC9.out⟩, HBY.out, HYL.out⟩)
   have HBQ := Aside0.mk hbq
   have HZQ := Aside0.mk (show (w9.alloc (.cells #[.slice A3 Y.length (c - 4)] 101)).heap.size = w9.heap.size + 1 from Array.size_push _)
   have HGQ := Aside0.mk (blk_below HG9.out hbq)
   clear hbq m0 m1 m2 m3 z0 z1 z2 z3
   go_wp2_with fail
   rcases hrm : rdMod Y with _ | ⟨M, rr⟩
   ·
    refine (module_no w9.heap.size Y hrm w9 HT9.out _ HRD.out).mono ?_
    rintro e w10 ⟨rfl, hW⟩
    have HW := Aside0.mk hW
    have HG10 := Aside0.mk (hW.keep HGQ.out (by have := HB9.out.size; have h2 := blk_lt HG9.out; omega))
    have HRM := Aside0.mk hrm
    clear hW hrm
    obtain ⟨⟨m0, m1, m2, m3⟩, z0, z1, z2, z3⟩ := facts4 HG10.out
    go_wp2
    refine bodyPost_ret (run_read_results _ rfl (put4 HG10.out _ _ _ _)) rfl ?_
    rw [readM_none9 HL.out HPM.out HE.out (by rw [HY.out, HRM.out]; intro m h; cases h)]
    have hBF := below_step HB9.out (Below.trans HBQ.out (HW.out.toBelow w9.heap.size (by have := HZQ.out; omega) (fun k hk => by omega)))
    exact ⟨_, _, _, _, rfl, modOut_none _ _ _ (by simpa [World.setCell] using hBF.size), below_set (below_set (below_set (below_set hBF (Nat.le_refl _)) (Nat.le_refl _)) (Nat.le_refl _)) (Nat.le_refl _)⟩
   ·
    refine (module_ok w9.heap.size Y M rr hrm w9 HT9.out _ HRD.out).mono ?_
    rintro e w10 ⟨h1, h2, hW⟩
    have HW := Aside0.mk hW
    have HG10 := Aside0.mk (hW.keep HGQ.out (by have := HB9.out.size; have h2 := blk_lt HG9.out; omega))
    have HRM := Aside0.mk hrm
    have hBF := below_step HB9.out (Below.trans HBQ.out (hW.toBelow w9.heap.size (by have := HZQ.out; omega) (fun k hk => by omega)))
    have HBF := Aside0.mk hBF
    clear hW hrm hBF
    obtain ⟨⟨m0, m1, m2, m3⟩, z0, z1, z2, z3⟩ := facts4 HG10.out
    by_cases hz : rr = []
    ·
     subst hz
     obtain ⟨v1, v2, v3, v4, rfl, hMO⟩ := h1 rfl
     have HMO := Aside0.mk hMO
     obtain ⟨B1, B2, B3, B4, f1, f2, f3, f4⟩ := hMO.slices
     subst f1 f2 f3 f4
     clear hMO h1 h2
     go_wp2
     refine bodyPost_ret (run_read_results _ rfl (put4 HG10.out _ _ _ _)) rfl ?_
     rw [readM_rest HL.out HPM.out HE.out (by rw [HY.out, HRM.out])]
     refine ⟨_, _, _, _, rfl, ?_, below_set (below_set (below_set (below_set HBF.out (Nat.le_refl _)) (Nat.le_refl _)) (Nat.le_refl _)) (Nat.le_refl _)⟩
     have h9 := HB9.out.size
     have hz9 := HZQ.out
     exact (HMO.out.move (fun k hk _ _ => stored_far w10 w.heap.size _ _ _ _ k (by omega))).wide (by omega) (Nat.le_of_eq (stored_size w10 w.heap.size _ _ _ _).symm)
    ·
     obtain rfl := h2 hz
     clear h1 h2
     go_wp2
     refine bodyPost_ret (run_read_results _ rfl (put4 HG10.out _ _ _ _)) rfl ?_
     rw [readM_none9 HL.out HPM.out HE.out (by rw [HY.out, HRM.out]; intro m h; injection h with h; injection h with _ h; exact hz h)]
     exact ⟨_, _, _, _, rfl, modOut_none _ _ _ (by simpa [World.setCell] using HBF.out.size), below_set (below_set (below_set (below_set HBF.out (Nat.le_refl _)) (Nat.le_refl _)) (Nat.le_refl _)) (Nat.le_refl _)⟩
  ·
   have heb : decide (E = E8) = false := decide_eq_false he
   have HE := Aside0.mk (show xs.drop (xs.length - 8) ≠ eightL (sumL (xs.take (xs.length - 8))) by rw [HXM.out, HX.out.1, HX.out.2.1, HX.out.2.2.2]; exact he)
   rw [heb]
   clear he
   go_wp2
   refine bodyPost_ret (run_read_results _ rfl (put4 HG9.out _ _ _ _)) rfl ?_
   rw [readM_sum HL.out HPM.out HE.out]
   exact ⟨_, _, _, _, rfl, modOut_none _ _ _ (by simpa [World.setCell] using HB9.out.size), below_set (below_set (below_set (below_set HB9.out (Nat.le_refl _)) (Nat.le_refl _)) (Nat.le_refl _)) (Nat.le_refl _)⟩
end Go.Proofs.YtgpdaihfjnihhaaDoor.PJ
