/- image.eight, slices.Grow, slices.Concat by hand. -/
import Derived.Test.YtgpdaihfjnihhaaDoorQPJx0
import Derived.Test.YtgpdaihfjnihhaaDoorQHandWriter
import Derived.Test.YtgpdaihfjnihhaaDoorQHandLent
namespace Go.Proofs.YtgpdaihfjnihhaaDoor.PJ
open Go.RowKit Go.Proofs.YtgpdaihfjnihhaaDoorW.PrintWords Go.Proofs.YtgpdaihfjnihhaaDoorW.PrintLast Go.Proofs.YtgpdaihfjnihhaaDoorW.PrintMore Go.Proofs.YtgpdaihfjnihhaaDoor.LebPure Go.Proofs.YtgpdaihfjnihhaaDoor.LebForm Go.Proofs.YtgpdaihfjnihhaaDoor.B64
set_option linter.unusedSimpArgs false
set_option linter.unusedVariables false
def eightN (n : Int) : List Int := [n / 72057594037927936 % 256, n / 281474976710656 % 256, n / 1099511627776 % 256, n / 4294967296 % 256, n / 16777216 % 256, n / 65536 % 256, n / 256 % 256, n % 256]
theorem eightN_eq (n : Int) : eightL n = eightN n := by
 have e : eightL n = [n / 72057594037927936 % 256, n / 281474976710656 % 256, n / 1099511627776 % 256, n / 4294967296 % 256, n / 16777216 % 256, n / 65536 % 256, n / 256 % 256, n / 1 % 256] := rfl
 rw [e, Int.ediv_one]
 rfl
def eightR (n : Int) (i : Nat) : List Int := (eightN n).take i ++ List.replicate (8 - i) 0
set_option maxHeartbeats 8000000 in
set_option maxRecDepth 100000 in
theorem image_eight.calls (n : Int) (w : World) : Calls Tryd.prog 60 #[.int .u64 n] w fun e w' => ∃ v, e = .returned v ∧ Kd.R (Kd.int .u8) 5 w' w.heap.size (fun k => w.heap.size ≤ k) v (eightL n) ∧ Below w.heap.size w w' := by
 have hmk5 := print_make_int (P := Tryd.prog) 27 5 (.int .u8 0) 1 Tryd.underlying27 winfo8 rfl (by decide) 8 (by omega) (by omega)
 go_enter Tryd.func60, Tryd.ntmps60
 have HH := Aside0.mk (show (w.alloc (.cells (madeCells #[.int .u8 0] 8) 5)).heap[w.heap.size]? = some (.cells ((eightR n 0).map (Value.int .u8)).toArray 5 (0, 0)) by
  rw [show ((eightR n 0).map (Value.int .u8)).toArray = madeCells #[.int .u8 0] 8 by simp [eightR]; kernel_rfl]
  exact heap_alloc_new w _)
 have HB := Aside0.mk (below_alloc (Below.refl w.heap.size w) (.cells (madeCells #[.int .u8 0] 8) 5))
 go_wp2
 go_loopg [8] 9 (fun kq v8 w' => ∃ (i : Nat), v8 = .int .i64 (i : Int) ∧ Aside0 (i + kq = 9) ∧ Aside0 (1 ≤ kq) ∧ Aside0 (w'.heap[w.heap.size]? = some (.cells ((eightR n i).map (Value.int .u8)).toArray 5 (0, 0))) ∧ Aside0 (Below w.heap.size w w'))
 case atStart => exact ⟨0, rfl, ⟨by omega⟩, ⟨by omega⟩, HH, HB⟩
 case round =>
  clear HH HB
  obtain ⟨i, rfl, HI, HI1, HH, HB⟩ := hrel
  cases gk with
  | zero => exact absurd HI1.out (by omega)
  | succ k1 =>
   by_cases ci : i < 8
   ·
    rcases (show i = 0 ∨ i = 1 ∨ i = 2 ∨ i = 3 ∨ i = 4 ∨ i = 5 ∨ i = 6 ∨ i = 7 by omega) with rfl | rfl | rfl | rfl | rfl | rfl | rfl | rfl
    ·
     have hc : wr.cell? ⟨w.heap.size, 0, none⟩ = some (.int .u8 0) := (blk_cell HH.out 0).trans rfl
     have hz := blk_frozen HH.out 0
     clear ci
     go_wp2
     go_roundg k1
     case measure => omega
     case rel => exact ⟨1, by simp, ⟨by have := HI.out; omega⟩, ⟨by have := HI.out; omega⟩, ⟨blk_put HH.out 0 _ (by rfl)⟩, ⟨below_set HB.out (Nat.le_refl _)⟩⟩
    ·
     have hc : wr.cell? ⟨w.heap.size, 1, none⟩ = some (.int .u8 0) := (blk_cell HH.out 1).trans rfl
     have hz := blk_frozen HH.out 1
     clear ci
     go_wp2
     go_roundg k1
     case measure => omega
     case rel => exact ⟨2, by simp, ⟨by have := HI.out; omega⟩, ⟨by have := HI.out; omega⟩, ⟨blk_put HH.out 1 _ (by rfl)⟩, ⟨below_set HB.out (Nat.le_refl _)⟩⟩
    ·
     have hc : wr.cell? ⟨w.heap.size, 2, none⟩ = some (.int .u8 0) := (blk_cell HH.out 2).trans rfl
     have hz := blk_frozen HH.out 2
     clear ci
     go_wp2
     go_roundg k1
     case measure => omega
     case rel => exact ⟨3, by simp, ⟨by have := HI.out; omega⟩, ⟨by have := HI.out; omega⟩, ⟨blk_put HH.out 2 _ (by rfl)⟩, ⟨below_set HB.out (Nat.le_refl _)⟩⟩
    ·
     have hc : wr.cell? ⟨w.heap.size, 3, none⟩ = some (.int .u8 0) := (blk_cell HH.out 3).trans rfl
     have hz := blk_frozen HH.out 3
     clear ci
     go_wp2
     go_roundg k1
     case measure => omega
     case rel => exact ⟨4, by simp, ⟨by have := HI.out; omega⟩, ⟨by have := HI.out; omega⟩, ⟨blk_put HH.out 3 _ (by rfl)⟩, ⟨below_set HB.out (Nat.le_refl _)⟩⟩
    ·
     have hc : wr.cell? ⟨w.heap.size, 4, none⟩ = some (.int .u8 0) := (blk_cell HH.out 4).trans rfl
     have hz := blk_frozen HH.out 4
     clear ci
     go_wp2
     go_roundg k1
     case measure => omega
     case rel => exact ⟨5, by simp, ⟨by have := HI.out; omega⟩, ⟨by have := HI.out; omega⟩, ⟨blk_put HH.out 4 _ (by rfl)⟩, ⟨below_set HB.out (Nat.le_refl _)⟩⟩
    ·
     have hc : wr.cell? ⟨w.heap.size, 5, none⟩ = some (.int .u8 0) := (blk_cell HH.out 5).trans rfl
     have hz := blk_frozen HH.out 5
     clear ci
     go_wp2
     go_roundg k1
     case measure => omega
     case rel => exact ⟨6, by simp, ⟨by have := HI.out; omega⟩, ⟨by have := HI.out; omega⟩, ⟨blk_put HH.out 5 _ (by rfl)⟩, ⟨below_set HB.out (Nat.le_refl _)⟩⟩
    ·
     have hc : wr.cell? ⟨w.heap.size, 6, none⟩ = some (.int .u8 0) := (blk_cell HH.out 6).trans rfl
     have hz := blk_frozen HH.out 6
     clear ci
     go_wp2
     go_roundg k1
     case measure => omega
     case rel => exact ⟨7, by simp, ⟨by have := HI.out; omega⟩, ⟨by have := HI.out; omega⟩, ⟨blk_put HH.out 6 _ (by rfl)⟩, ⟨below_set HB.out (Nat.le_refl _)⟩⟩
    ·
     have hc : wr.cell? ⟨w.heap.size, 7, none⟩ = some (.int .u8 0) := (blk_cell HH.out 7).trans rfl
     have hz := blk_frozen HH.out 7
     clear ci
     go_wp2
     go_roundg k1
     case measure => omega
     case rel => exact ⟨8, by simp, ⟨by have := HI.out; omega⟩, ⟨by have := HI.out; omega⟩, ⟨blk_put HH.out 7 _ (by rfl)⟩, ⟨below_set HB.out (Nat.le_refl _)⟩⟩
   ·
    obtain rfl : i = 8 := by have := HI.out; omega
    clear ci
    go_wp2
    go_ret
    refine ⟨_, rfl, ?_, HB.out⟩
    rw [eightN_eq]
    refine Kd.R_of_own (enc := Value.int .u8) (h1 := fun _ => rfl) ⟨by simp [encs], .inr ⟨w.heap.size, 8, _, rfl, Nat.le_refl _, HH.out, Nat.le_refl _, by simp only [maxLen]; omega, by simp [eightR, eightN], by simp [eightR, eightN, encs, List.take_of_length_le]⟩⟩ (fun k hk => by simp [Value.ownBlock] at hk; omega)
theorem run_append_nil_zeros (ty : TypeId) (n : Nat) (h0 : 0 < n) (h9 : n ≤ 1000000000) (w : World) : (Builtin.append_ #[27, 3] ty #[.slice none 0 0, .int .i64 (n : Int)]).run Tryd.prog w =
  .ok (.slice (some ⟨w.heap.size, 0, none⟩) n (grownCap w n 0 5)) (w.drew.alloc (.cells (Builtin.zeroCells #[.int .u8 0] n ++ Builtin.zeroCells #[.int .u8 0] (grownCap w n 0 5 - n)) 5)) := by
 obtain ⟨i0, hi, hz0, hz1, hz2⟩ := info_parts winfo8
 have e1 : IntKind.i64.wrap (n : Int) = n := by rw [i64_w]; unfold wrap64; omega
 have h63' : ¬ (9223372036854775807 < (n : Int)) := by omega
 have h48' : ¬ (281474976710656 < Builtin.nextslicecap n 0) := by rw [nextslicecap_zero h0]; omega
 have h48 : ¬ (281474976710656 < (n : Int)) := by omega
 have hn : n ≠ 0 := by omega
 have hneg : ¬ ((n : Int) < 0) := by omega
 simp [Builtin.append_, run_underlying Tryd.underlying27, run_underlying Tryd.underlying3, sizeOf, typeInfo, zeroValue, hi, hz0, hz1, hz2, asInt, asIntOf, e1, hneg, h48, hn, h63', h48', Question.forced, newRow, grownCap, Builtin.firstCells]
 rfl
theorem append_zeros {ops : Array Oper} {rest : List Oper} {o : Oper} {a : Act} {Q : Exit → Act → World → Prop} {W : World} (hgd : o.guard = none) (s x : Operand) (n : Nat) (h0 : 0 < n) (h9 : n ≤ 1000000000)
  (ho : o.op = .call { callee := .builtin .append, args := #[s, x], argTypes := #[27, 3] }) (hs : a.eval s = .slice none 0 0) (hx : a.eval x = .int .i64 (n : Int))
  (h : ∀ cap w1, n ≤ cap → cap ≤ 9223372036854775807 → (∃ cur : Array Value, cur.size = cap ∧ w1.heap[W.heap.size]? = some (.cells cur 5 (0, 0))) → Below W.heap.size W w1 → wpList Tryd.prog ops Q rest (a.put o.dst (.slice (some ⟨W.heap.size, 0, none⟩) n cap)) w1) :
  wpList Tryd.prog ops Q (o :: rest) a W := by
 have hr := run_append_nil_zeros o.type n h0 h9 W
 have hge := grownCap_ge W n 0 5
 have hcm : grownCap W n 0 5 ≤ maxLen := grownCap_le_maxLen W n 0 5 (by simp only [maxLen]; omega)
 refine wpList_plain hgd fun K hK => ?_
 unfold Oper.wp execOp
 simp only [ho, resolve, invoke, builtin, Sem.run_bind, Sem.run_pure, Result.andThen_ok, List.map_toArray, List.map_cons, List.map_nil, hs, hx, hr]
 refine hK _ _ (h _ _ hge (by simp only [maxLen] at hcm; exact hcm) ⟨_, ?_, heap_alloc_new W.drew _⟩ (below_alloc (below_drew1 (Below.refl _ _)) _))
 simp only [Array.size_append, size_zeroCells]
 have : (#[Value.int .u8 0] : Array Value).size = 1 := rfl
 rw [this]
 omega
set_option maxHeartbeats 8000000 in
set_option maxRecDepth 100000 in
theorem slices_Grow.calls (n : Nat) (h0 : 0 < n) (h9 : n ≤ 1000000000) (w : World) : Calls Tryd.prog 96 #[.slice none 0 0, .int .i64 (n : Int)] w fun e w' => ∃ v, e = .returned v ∧ Kd.R (Kd.int .u8) 5 w' w.heap.size (fun k => w.heap.size ≤ k) v [] ∧ Below w.heap.size w w' := by
 have hneg : decide ((n : Int) < 0) = false := decide_eq_false (by omega)
 have hw1 : wrap64 (n : Int) = (n : Int) := by unfold wrap64; omega
 have hpos : decide ((n : Int) > 0) = true := decide_eq_true (by omega)
 obtain ⟨i0, hi0, _⟩ := info_parts winfo8
 have HN := Aside0.mk h0
 have H9 := Aside0.mk h9
 clear h9
 go_enter Tryd.func96, Tryd.ntmps96
 go_wp2_with (first | ((with_reducible refine gate_builtin (b := .append) (xs := #[.tmp 20, .tmp 21]) rfl ?_); at_builtin; refine append_zeros rfl (.tmp 20) (.tmp 21) n HN.out H9.out rfl rfl (congrArg (Value.int .i64) hw1) ?_; intro cap w1 hc1 hc2 hcur hb; have HC1 := Aside0.mk hc1; have HC2 := Aside0.mk hc2; have HCU := Aside0.mk hcur; have HB := Aside0.mk hb; have hcut := cut_up (P := Tryd.prog) 27 5 Tryd.underlying27 hi0 (some ⟨w.heap.size, 0, none⟩) n cap 0 (by omega) (by omega); clear hc1 hc2 hcur hb))
 go_ret
 obtain ⟨cur, hs, hh⟩ := HCU.out
 exact ⟨_, rfl, Kd.R_of_own (enc := Value.int .u8) (h1 := fun _ => rfl) ⟨by simp [encs], .inr ⟨w.heap.size, cap, cur, rfl, Nat.le_refl _, hh, Nat.zero_le _, by simp only [maxLen]; exact HC2.out, by omega, by simp [encs]⟩⟩ (fun k hk => by simp [Value.ownBlock] at hk; omega), HB.out⟩
theorem flat_take (ls : List (List Int)) (i : Nat) (hi : i < ls.length) : (ls.take (i + 1)).flatten = (ls.take i).flatten ++ ls[i] := by
 rw [List.take_succ_eq_append_getElem hi, List.flatten_append, List.flatten_singleton]
set_option maxHeartbeats 8000000 in
set_option maxRecDepth 100000 in
theorem slices_Concat.calls (ls : List (List Int)) (A : Option Addr) (c : Nat) (w : World) (hr : Kd.C (Kd.slice 5 (Kd.int .u8)) w A ls.length ls) (h0 : 0 < ls.flatten.length) (h9 : ls.flatten.length ≤ 1000000000) :
  Calls Tryd.prog 59 #[.slice A ls.length c] w fun e w' => ∃ v, e = .returned v ∧ Kd.R (Kd.int .u8) 5 w' w.heap.size (fun k => w.heap.size ≤ k) v ls.flatten ∧ Below w.heap.size w w' := by
 have HM := Aside0.mk (Kd.C_max hr)
 have HR := Aside0.mk hr
 have HN := Aside0.mk h0
 have H9 := Aside0.mk h9
 have HTL := Aside0.mk (show ∀ i, i ≤ ls.length → (ls.take i).flatten.length ≤ ls.flatten.length from fun i hi => by
  have e : ls.flatten = (ls.take i).flatten ++ (ls.drop i).flatten := by rw [← List.flatten_append, List.take_append_drop]
  rw [e, List.length_append]
  omega)
 clear hr h0 h9
 go_enter Tryd.func59, Tryd.ntmps59
 go_wp2
 go_loopg [3, 11] (ls.length + 1) (fun kq v3 v11 w' => ∃ (i : Nat), v11 = .int .i64 (i : Int) ∧ v3 = .int .i64 ((ls.take i).flatten.length : Int) ∧ Aside0 (i + kq = ls.length + 1) ∧ Aside0 (1 ≤ kq) ∧ Aside0 (w' = w))
 case atStart => exact ⟨0, rfl, rfl, ⟨by omega⟩, ⟨by omega⟩, ⟨rfl⟩⟩
 case round =>
  obtain ⟨i, rfl, rfl, HI, HI1, HWW⟩ := hrel
  cases gk with
  | zero => exact absurd HI1.out (by omega)
  | succ k1 =>
   have hwr := HWW.out.symm
   subst hwr
   by_cases ci : i < ls.length
   ·
    have cib : decide ((i : Int) < (ls.length : Int)) = true := decide_eq_true (by omega)
    have hii : (i : Int) < (ls.length : Int) := by omega
    have hw2 : wrap64 ((i : Int) + 1) = (i : Int) + 1 := by have := HM.out; unfold wrap64; omega
    obtain ⟨ad, A0, c0, rfl, hce, _, _⟩ := at_L1 HR.out (i : Int) (by omega) hii
    rw [show rd_L1 ls (i : Int) = ls[i] by simp [rd_L1, List.getD_eq_getElem?_getD, ci], Int.toNat_natCast] at hce
    have HFT := Aside0.mk (flat_take ls i ci)
    have HTS := Aside0.mk (HTL.out (i + 1) (by omega))
    obtain ⟨x, hx⟩ : ∃ x, ls[i] = x := ⟨_, rfl⟩
    rw [hx] at hce HFT
    clear hx
    obtain ⟨T, hT⟩ : ∃ T, (ls.take i).flatten.length = T := ⟨_, rfl⟩
    rw [hT]
    have hsum : wrap64 ((T : Int) + (x.length : Int)) = ((T + x.length : Nat) : Int) := by
     have h1 := HTS.out
     have h2 := H9.out
     rw [HFT.out, List.length_append, hT] at h1
     unfold wrap64
     omega
    have hneg : decide (((T + x.length : Nat) : Int) < 0) = false := decide_eq_false (by omega)
    have HTT := Aside0.mk (show (ls.take (i + 1)).flatten.length = T + x.length by rw [HFT.out, List.length_append, hT])
    clear hT
    go_wp2
    go_roundg k1
    case measure => omega
    case rel => exact ⟨i + 1, by simp [hw2], by rw [HTT.out]; first | rfl | simp [hsum], ⟨by have := HI.out; omega⟩, ⟨by have := HI.out; omega⟩, ⟨rfl⟩⟩
   ·
    have cib : decide ((i : Int) < (ls.length : Int)) = false := decide_eq_false (by omega)
    obtain rfl : i = ls.length := by have := HI.out; omega
    rw [List.take_length]
    obtain ⟨T, hT⟩ : ∃ T, ls.flatten.length = T := ⟨_, rfl⟩
    rw [hT]
    have HG := Aside0.mk (slices_Grow.calls T (by rw [← hT]; exact HN.out) (by rw [← hT]; exact H9.out) w)
    clear hT
    go_wp2_with fail
    refine HG.out.mono ?_
    rintro e w1 ⟨v1, rfl, hR1, hb1⟩
    have HR1 := Aside0.mk hR1
    have HB1 := Aside0.mk hb1
    clear hR1 hb1 HG ci cib
    go_wp2
    go_loopg [6, 27] (ls.length + 1) (fun kq v6 v27 w' => ∃ (i : Nat), v27 = .int .i64 (i : Int) ∧ Aside0 (i + kq = ls.length + 1) ∧ Aside0 (1 ≤ kq) ∧ Aside0 (Kd.R (Kd.int .u8) 5 w' w.heap.size (fun k => w.heap.size ≤ k) v6 (ls.take i).flatten) ∧ Aside0 (Below w.heap.size w w'))
    case atStart => exact ⟨0, rfl, ⟨by omega⟩, ⟨by omega⟩, ⟨by rw [List.take_zero]; exact HR1.out⟩, HB1⟩
    case round =>
     clear HR1 HB1 HI HI1
     obtain ⟨i, rfl, HI, HI1, HV, HB⟩ := hrel
     cases gk with
     | zero => exact absurd HI1.out (by omega)
     | succ k2 =>
      by_cases ci : i < ls.length
      ·
       have cib : decide ((i : Int) < (ls.length : Int)) = true := decide_eq_true (by omega)
       have hii : (i : Int) < (ls.length : Int) := by omega
       have hw2 : wrap64 ((i : Int) + 1) = (i : Int) + 1 := by have := HM.out; unfold wrap64; omega
       obtain ⟨ad, A0, c0, rfl, hce, _, hCx⟩ := at_L1 (Kd.C_below HR.out HB.out) (i : Int) (by omega) hii
       rw [show rd_L1 ls (i : Int) = ls[i] by simp [rd_L1, List.getD_eq_getElem?_getD, ci]] at hce hCx
       rw [Int.toNat_natCast] at hce
       have HFT := Aside0.mk (flat_take ls i ci)
       have HTS := Aside0.mk (HTL.out (i + 1) (by omega))
       obtain ⟨x, hx⟩ : ∃ x, ls[i] = x := ⟨_, rfl⟩
       rw [hx] at hce HFT hCx
       clear hx
       have HX := Aside0.mk hCx
       clear hCx
       go_wp2_with (first | ((with_reducible refine gate_builtin (b := .append) (xs := #[.tmp 31, .tmp 32]) rfl ?_); at_builtin; refine Kd.R_append_rows (Kd.int .u8) (w0 := w) w.heap.size rfl (.tmp 31) (.tmp 32) 27 5 (.int .u8 0) 1 rfl Tryd.underlying27 winfo8 rfl (by decide) (by omega) u6 (ls.take i).flatten x _ _ _ (fun k => w.heap.size ≤ k) (fun _ => False) rfl rfl ?aO ?aR (fun _ _ h => h) (fun _ h => h.elim) ?aF ?aB ?aS ?aL ?_; (case aR => exact HX.out); (case aB => exact HB.out); (case aF => exact (fun k hk => Nat.le_trans HB.out.size hk)); (case aO => exact HV.out); (case aS => exact HB.out.size); (case aL => have h1 := HTS.out; have h2 := H9.out; rw [HFT.out, List.length_append] at h1; omega); intro v7 w7 ho hb hg hat; have HV7 := Aside0.mk ho; have HB7 := Aside0.mk hb; clear ho hb hg hat))
       go_roundg k2
       case measure => omega
       case rel => exact ⟨i + 1, by simp [hw2], ⟨by have := HI.out; omega⟩, ⟨by have := HI.out; omega⟩, ⟨by rw [HFT.out]; exact HV7.out⟩, HB7⟩
      ·
       have cib : decide ((i : Int) < (ls.length : Int)) = false := decide_eq_false (by omega)
       obtain rfl : i = ls.length := by have := HI.out; omega
       have hV := HV.out
       rw [List.take_length] at hV
       have HVF := Aside0.mk hV
       clear hV
       go_wp2
       go_ret
       exact ⟨_, rfl, HVF.out, HB.out⟩
end Go.Proofs.YtgpdaihfjnihhaaDoor.PJ
