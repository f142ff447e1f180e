/- The walk of the law CodeMore. -/
import Derived.Test.YtgpdaihfjnihhaaDoorPJx0
import Derived.Test.YtgpdaihfjnihhaaDoorHandCode6
import Derived.Test.YtgpdaihfjnihhaaDoorHandHeapy
namespace Go.Proofs.YtgpdaihfjnihhaaDoor.PJ
open Go.RowKit Go.Proofs.YtgpdaihfjnihhaaDoorW.PrintWords Go.Proofs.YtgpdaihfjnihhaaDoorW.PrintLast Go.Proofs.YtgpdaihfjnihhaaDoorW.PrintMore
set_option linter.unusedSimpArgs false
set_option linter.unusedVariables false
theorem R_own_lt {α : Type} {d : Kd α} {e : Nat} {w : World} {base : Nat} {ok : Nat → Prop} {v : Value} {xs : List α} (h : d.R e w base ok v xs) : ∀ k, v.ownBlock = some k → k < w.heap.size := fun k hk => ((Kd.R_bound h).1 k hk).2.2.1
def addedFn : S41 := ⟨0, [0], [], 0, 0, []⟩
set_option maxHeartbeats 16000000 in
set_option maxRecDepth 100000 in
theorem codeMore.no (f op a : Int) (A0 A1 A2 A3 : Option Addr) (c0 c1 c2 c3 : Nat) (l0 : List Int) (l1 : List S38) (l2 : List Int) (l3 : List S41) (w : World) (ht : Lib.TabIs Tryd.prog w "strings.asciiSpace" .u8 Lib.asciiSpaceTab)
    (hr0 : Kd.C (Kd.int .u64) w A0 l0.length l0) (hr1 : Kd.C k38 w A1 l1.length l1) (hr2 : Kd.C (Kd.int .u64) w A2 l2.length l2) (hr3 : Kd.C k41 w A3 l3.length l3) (he : effectOf op a f l0.length l1.length l2.length l3 = (0, 0, false)) :
    Calls Tryd.prog 7 #[.agg #[.slice A0 l0.length c0, .slice A1 l1.length c1, .slice A2 l2.length c2, .slice A3 l3.length c3], .int .i64 f, .agg #[.int .i64 op, .int .i64 a]] w fun e w' => e = .returned (.bool true) ∧ Below w.heap.size w w' := by
  have HT := Aside0.mk ht
  have HE := Aside0.mk he
  have HR3 := Aside0.mk hr3
  clear ht he hr0 hr1 hr2 hr3
  have HB := Aside0.mk (below_alloc (below_alloc (Below.refl w.heap.size w) (.cells #[.slice A0 l0.length c0, .slice A1 l1.length c1, .slice A2 l2.length c2, .slice A3 l3.length c3] 26)) (.cells #[.int .i64 op, .int .i64 a] 44))
  have HGm := Aside0.mk (blk_alloc (heap_alloc_new w (.cells #[.slice A0 l0.length c0, .slice A1 l1.length c1, .slice A2 l2.length c2, .slice A3 l3.length c3] 26)) (.cells #[.int .i64 op, .int .i64 a] 44))
  have HGi := Aside0.mk (show ((w.alloc (.cells #[.slice A0 l0.length c0, .slice A1 l1.length c1, .slice A2 l2.length c2, .slice A3 l3.length c3] 26)).alloc (.cells #[.int .i64 op, .int .i64 a] 44)).heap[w.heap.size + 1]? = some (.cells #[.int .i64 op, .int .i64 a] 44 (0, 0)) by
    have := heap_alloc_new (w.alloc (.cells #[.slice A0 l0.length c0, .slice A1 l1.length c1, .slice A2 l2.length c2, .slice A3 l3.length c3] 26)) (.cells #[.int .i64 op, .int .i64 a] 44)
    simpa using this)
  obtain ⟨m0, m1, m2, m3⟩ := facts4 HGm.out
  obtain ⟨i0, i1, _, _⟩ := facts2 HGi.out
  go_enter Tryd.func7, Tryd.ntmps7
  go_wp2_with fail
  refine (code_Effect.calls A0 c0 l0.length A1 c1 l1.length A2 c2 l2.length A3 c3 l3 f op a _ (tab_below HT.out HB.out) (Kd.C_below HR3.out HB.out)).mono ?_
  rintro e w1 ⟨rfl, hb⟩
  rw [HE.out]
  replace HB := Aside0.mk (below_step HB.out hb)
  clear hb
  go_wp2_with fail
  refine (code_awake.calls _ (tab_below HT.out HB.out)).mono ?_
  rintro e w2 ⟨rfl, hb⟩
  replace HB := Aside0.mk (below_step HB.out hb)
  clear hb
  go_wp2
  go_ret
  exact ⟨rfl, HB.out⟩
set_option maxHeartbeats 16000000 in
set_option maxRecDepth 100000 in
theorem codeMore.yes (f op a x y : Int) (A0 A1 A2 A3 : Option Addr) (c0 c1 c2 c3 : Nat) (l0 : List Int) (l1 : List S38) (l2 : List Int) (l3 L3 : List S41) (w : World) (ht : Lib.TabIs Tryd.prog w "strings.asciiSpace" .u8 Lib.asciiSpaceTab)
    (hr0 : Kd.C (Kd.int .u64) w A0 l0.length l0) (hr1 : Kd.C k38 w A1 l1.length l1) (hr2 : Kd.C (Kd.int .u64) w A2 l2.length l2) (hr3 : Kd.C k41 w A3 l3.length l3) (hs0 : l0.length * 8 ≤ 140737488351232) (hs1 : l1.length * 16 ≤ 140737488351232) (hs2 : l2.length * 8 ≤ 140737488351232) (hs3 : l3.length * 96 ≤ 140737488351232)
    (he : effectOf op a f l0.length l1.length l2.length l3 = (x, y, true)) (hL3 : l3 ++ [addedFn] = L3) (he2 : effectOf op a f (l0.length + 1) (l1.length + 1) (l2.length + 1) L3 = (x, y, true)) (hm : mayOf op a = true) (hf0 : 0 ≤ f) (hf1 : f < (l3.length : Int)) :
    Calls Tryd.prog 7 #[.agg #[.slice A0 l0.length c0, .slice A1 l1.length c1, .slice A2 l2.length c2, .slice A3 l3.length c3], .int .i64 f, .agg #[.int .i64 op, .int .i64 a]] w fun e w' => e = .returned (.bool true) ∧ Below w.heap.size w w' := by
  have Zht := Aside0.mk ht
  have Zhr0 := Aside0.mk hr0
  have Zhr1 := Aside0.mk hr1
  have Zhr2 := Aside0.mk hr2
  have Zhr3 := Aside0.mk hr3
  have Zhs0 := Aside0.mk hs0
  have Zhs1 := Aside0.mk hs1
  have Zhs2 := Aside0.mk hs2
  have Zhs3 := Aside0.mk hs3
  have ZhL3 := Aside0.mk hL3
  have Zhe := Aside0.mk he
  have Zhe2 := Aside0.mk he2
  have Zhm := Aside0.mk hm
  clear ht hr0 hr1 hr2 hr3 hs0 hs1 hs2 hs3 hL3 he he2 hm
  have hf0b : decide (0 ≤ f) = true := decide_eq_true hf0
  have hf1b : decide (f < (l3.length : Int)) = true := decide_eq_true hf1
  have HB := Aside0.mk (below_alloc (below_alloc (Below.refl w.heap.size w) (.cells #[.slice A0 l0.length c0, .slice A1 l1.length c1, .slice A2 l2.length c2, .slice A3 l3.length c3] 26)) (.cells #[.int .i64 op, .int .i64 a] 44))
  have HGm := Aside0.mk (blk_alloc (heap_alloc_new w (.cells #[.slice A0 l0.length c0, .slice A1 l1.length c1, .slice A2 l2.length c2, .slice A3 l3.length c3] 26)) (.cells #[.int .i64 op, .int .i64 a] 44))
  have HGi := Aside0.mk (show ((w.alloc (.cells #[.slice A0 l0.length c0, .slice A1 l1.length c1, .slice A2 l2.length c2, .slice A3 l3.length c3] 26)).alloc (.cells #[.int .i64 op, .int .i64 a] 44)).heap[w.heap.size + 1]? = some (.cells #[.int .i64 op, .int .i64 a] 44 (0, 0)) by
    have := heap_alloc_new (w.alloc (.cells #[.slice A0 l0.length c0, .slice A1 l1.length c1, .slice A2 l2.length c2, .slice A3 l3.length c3] 26)) (.cells #[.int .i64 op, .int .i64 a] 44)
    simpa using this)
  obtain ⟨m0, m1, m2, m3⟩ := facts4 HGm.out
  obtain ⟨i0, i1, _, _⟩ := facts2 HGi.out
  go_enter Tryd.func7, Tryd.ntmps7
  go_wp2_with fail
  refine (code_Effect.calls A0 c0 l0.length A1 c1 l1.length A2 c2 l2.length A3 c3 l3 f op a _ (tab_below Zht.out HB.out) (Kd.C_below Zhr3.out HB.out)).mono ?_
  rintro e w1 ⟨rfl, hb⟩
  rw [Zhe.out]
  replace HGm := Aside0.mk (blk_below HGm.out hb)
  replace HGi := Aside0.mk (blk_below HGi.out hb)
  replace HB := Aside0.mk (below_step HB.out hb)
  clear m0 m1 m2 m3 i0 i1
  obtain ⟨m0, m1, m2, m3⟩ := facts4 HGm.out
  obtain ⟨i0, i1, _, _⟩ := facts2 HGi.out
  clear hb
  go_wp2_with fail
  refine (code_awake.calls _ (tab_below Zht.out HB.out)).mono ?_
  rintro e w4 ⟨rfl, hb⟩
  replace HGm := Aside0.mk (blk_below HGm.out hb)
  replace HGi := Aside0.mk (blk_below HGi.out hb)
  replace HB := Aside0.mk (below_step HB.out hb)
  clear m0 m1 m2 m3 i0 i1
  obtain ⟨m0, m1, m2, m3⟩ := facts4 HGm.out
  obtain ⟨i0, i1, _, _⟩ := facts2 HGi.out
  clear hb
  have hg4 : w.heap.size + 1 < w4.heap.size := blk_lt HGi.out
  have HB4 := Aside0.mk (Below.refl w4.heap.size w4)
  have L4 := Aside0.mk (Nat.le_refl w4.heap.size)
  go_wp2_with (first | ((with_reducible refine gate_builtin (b := .append) (xs := #[.tmp 41, .tmp 43]) rfl ?_); at_builtin; refine Kd.R_append_rows (Kd.int .u64) (w0 := w4) w4.heap.size rfl (.tmp 41) (.tmp 43) 22 36 (.int .u64 0) 8 rfl Tryd.underlying22 info36 rfl (by decide) (by omega) (.slice none 0 0) [] l0 _ _ _ (fun k => w4.heap.size ≤ k) (fun _ => False) rfl rfl ?aO ?aR (fun _ _ h => h) (fun _ h => h.elim) (fun _ h => h) ?aB ?aS ?aL ?_; (case aR => exact (Kd.C_below Zhr0.out (below_step HB.out HB4.out))); (case aB => exact Below.refl _ _); (case aO => exact Kd.R_nil _ _ _ _ _); (case aS => exact Nat.le_refl _); (case aL => have := Zhs0.out; (try simp only [List.length_nil]); omega); intro v10 w5 ho hb hg hat; rw [List.nil_append] at ho; have K10 := Aside0.mk (Kd.R_bound ho); have hle := below_size hb; have hb4 := below_low hb (show w4.heap.size ≤ w4.heap.size by first | exact Nat.le_refl _ | (have := L4.out; omega)); have Ln := Aside0.mk (show w4.heap.size ≤ w5.heap.size from Nat.le_trans (below_size HB4.out) hle); clear L4; have L4 := Ln; clear Ln; have S5 := Aside0.mk hle; have HB4n := Aside0.mk (Below.trans HB4.out hb4); clear HB4; have HB4 := HB4n; clear HB4n; have HGmn := Aside0.mk (blkB HGm.out hb4 (by omega)); have HGin := Aside0.mk (blkB HGi.out hb4 (by omega)); clear HGm HGi; have HGm := HGmn; have HGi := HGin; clear HGmn HGin; clear m0 m1 m2 m3 i0 i1; obtain ⟨m0, m1, m2, m3⟩ := facts4 HGm.out; obtain ⟨i0, i1, _, _⟩ := facts2 HGi.out; clear ho hb hg hat hb4 hle) | ((with_reducible refine gate_builtin (b := .append) (xs := #[.tmp 45, .tmp 47]) rfl ?_); at_builtin; refine Kd.R_append_rows (Kd.int .u64) (w0 := w5) w5.heap.size rfl (.tmp 45) (.tmp 47) 22 36 (.int .u64 0) 8 rfl Tryd.underlying22 info36 rfl (by decide) (by omega) (.slice none 0 0) [] l2 _ _ _ (fun k => w5.heap.size ≤ k) (fun _ => False) rfl rfl ?aO ?aR (fun _ _ h => h) (fun _ h => h.elim) (fun _ h => h) ?aB ?aS ?aL ?_; (case aR => exact (Kd.C_below Zhr2.out (below_step HB.out HB4.out))); (case aB => exact Below.refl _ _); (case aO => exact Kd.R_nil _ _ _ _ _); (case aS => exact Nat.le_refl _); (case aL => have := Zhs2.out; (try simp only [List.length_nil]); omega); intro v11 w7 ho hb hg hat; rw [List.nil_append] at ho; have K11 := Aside0.mk (Kd.R_bound ho); have hle := below_size hb; have hb4 := below_low hb (show w4.heap.size ≤ w5.heap.size by first | exact Nat.le_refl _ | (have := L4.out; omega)); have Ln := Aside0.mk (show w4.heap.size ≤ w7.heap.size from Nat.le_trans (below_size HB4.out) hle); clear L4; have L4 := Ln; clear Ln; have S7 := Aside0.mk hle; have K10n := Aside0.mk (Kd.R_below K10.out hb); clear K10; have K10 := K10n; clear K10n; have HB4n := Aside0.mk (Below.trans HB4.out hb4); clear HB4; have HB4 := HB4n; clear HB4n; have HGmn := Aside0.mk (blkB HGm.out hb4 (by omega)); have HGin := Aside0.mk (blkB HGi.out hb4 (by omega)); clear HGm HGi; have HGm := HGmn; have HGi := HGin; clear HGmn HGin; clear m0 m1 m2 m3 i0 i1; obtain ⟨m0, m1, m2, m3⟩ := facts4 HGm.out; obtain ⟨i0, i1, _, _⟩ := facts2 HGi.out; clear ho hb hg hat hb4 hle) | ((with_reducible refine gate_builtin (b := .append) (xs := #[.tmp 49, .tmp 51]) rfl ?_); at_builtin; refine Kd.R_append_rows k38 (w0 := w7) w7.heap.size rfl (.tmp 49) (.tmp 51) 23 38 (.agg #[.int .i64 0, .int .u64 0]) 16 rfl Tryd.underlying23 info38 rfl (by decide) (by omega) (.slice none 0 0) [] l1 _ _ _ (fun k => w7.heap.size ≤ k) (fun _ => False) rfl rfl ?aO ?aR (fun _ _ h => h) (fun _ h => h.elim) (fun _ h => h) ?aB ?aS ?aL ?_; (case aR => exact (Kd.C_below Zhr1.out (below_step HB.out HB4.out))); (case aB => exact Below.refl _ _); (case aO => exact Kd.R_nil _ _ _ _ _); (case aS => exact Nat.le_refl _); (case aL => have := Zhs1.out; (try simp only [List.length_nil]); omega); intro v12 w9 ho hb hg hat; rw [List.nil_append] at ho; have K12 := Aside0.mk (Kd.R_bound ho); have hle := below_size hb; have hb4 := below_low hb (show w4.heap.size ≤ w7.heap.size by first | exact Nat.le_refl _ | (have := L4.out; omega)); have Ln := Aside0.mk (show w4.heap.size ≤ w9.heap.size from Nat.le_trans (below_size HB4.out) hle); clear L4; have L4 := Ln; clear Ln; have S9 := Aside0.mk hle; have K10n := Aside0.mk (Kd.R_below K10.out hb); clear K10; have K10 := K10n; clear K10n; have K11n := Aside0.mk (Kd.R_below K11.out hb); clear K11; have K11 := K11n; clear K11n; have HB4n := Aside0.mk (Below.trans HB4.out hb4); clear HB4; have HB4 := HB4n; clear HB4n; have HGmn := Aside0.mk (blkB HGm.out hb4 (by omega)); have HGin := Aside0.mk (blkB HGi.out hb4 (by omega)); clear HGm HGi; have HGm := HGmn; have HGi := HGin; clear HGmn HGin; clear m0 m1 m2 m3 i0 i1; obtain ⟨m0, m1, m2, m3⟩ := facts4 HGm.out; obtain ⟨i0, i1, _, _⟩ := facts2 HGi.out; clear ho hb hg hat hb4 hle) | ((with_reducible refine gate_builtin (b := .append) (xs := #[.tmp 53, .tmp 55]) rfl ?_); at_builtin; refine Kd.N_append_rows k41 (w0 := w9) w9.heap.size rfl (.tmp 53) (.tmp 55) 24 41 (.agg #[.int .u64 0, .slice none 0 0, .slice none 0 0, .int .i64 0, .int .i64 0, .slice none 0 0]) 96 rfl Tryd.underlying24 info41 rfl (by decide) (by omega) (.slice none 0 0) [] l3 _ _ _ (fun k => w9.heap.size ≤ k ∨ k < w.heap.size) (fun k => k < w.heap.size) rfl rfl ?aO ?aR (fun k h => ⟨Or.inr h, by simp [Value.ownBlock]⟩) (fun _ h => Or.inl h) ?aB ?aS ?aL ?_; (case aR => exact Kd.F_below (F_of_C heapy41 Zhr3.out) (below_step HB.out HB4.out)); (case aB => exact Below.refl _ _); (case aO => exact Kd.N_nil _ _ _ _ _); (case aS => exact Nat.le_refl _); (case aL => have := Zhs3.out; (try simp only [List.length_nil]); omega); intro v13 w11 ho hb hg hat; rw [List.nil_append] at ho; have K13 := Aside0.mk ho; have hle := below_size hb; have hb4 := below_low hb (show w4.heap.size ≤ w9.heap.size from L4.out); have S11 := Aside0.mk hle; have K10n := Aside0.mk (Kd.R_below K10.out hb); clear K10; have K10 := K10n; clear K10n; have K11n := Aside0.mk (Kd.R_below K11.out hb); clear K11; have K11 := K11n; clear K11n; have K12n := Aside0.mk (Kd.R_below K12.out hb); clear K12; have K12 := K12n; clear K12n; have HB4n := Aside0.mk (Below.trans HB4.out hb4); clear HB4; have HB4 := HB4n; clear HB4n; have HGmn := Aside0.mk (blkB HGm.out hb4 (by omega)); have HGin := Aside0.mk (blkB HGi.out hb4 (by omega)); clear HGm HGi; have HGm := HGmn; have HGi := HGin; clear HGmn HGin; clear m0 m1 m2 m3 i0 i1; obtain ⟨m0, m1, m2, m3⟩ := facts4 HGm.out; obtain ⟨i0, i1, _, _⟩ := facts2 HGi.out; clear ho hb hg hat hb4 hle) | ((with_reducible refine gate_builtin (b := .append) (xs := #[.tmp 57, .tmp 58]) rfl ?_); at_builtin; refine Kd.R_append (Kd.int .u64) (w0 := w11) w4.heap.size rfl (.tmp 57) (.tmp 58) 22 36 (.int .u64 0) 8 rfl Tryd.underlying22 info36 rfl (by decide) (by omega) v10 l0 1 [.int .u64 1] (fun k => w4.heap.size ≤ k) (fun _ => False) rfl rfl ?aP (fun _ hk => hk.elim) ?aF ?aO ?aB ?aS ?aL ?_; (case aP => exact rfl); (case aF => exact (fun k hk => Nat.le_trans (by have := S5.out; have := S7.out; have := S9.out; have := S11.out; omega) hk)); (case aO => exact Kd.R_mono K10.out (fun k hk => hk.1)); (case aB => exact Below.refl _ _); (case aS => have := S5.out; have := S7.out; have := S9.out; have := S11.out; omega); (case aL => have := Zhs0.out; omega); intro u0 w12 ho hb hg hat; obtain ⟨B0, d0, hv⟩ := Kd.R_slice ho; have hv2 : u0 = .slice B0 (l0.length + 1) d0 := (by rw [hv, List.length_append]; rfl); subst hv2; clear hv; have hb4 := below_low hb (show w4.heap.size ≤ w4.heap.size by have := S5.out; have := S7.out; have := S9.out; have := S11.out; omega); have hle := hb.size; have S12 := Aside0.mk hle; have K11n := Aside0.mk (Kd.R_grown K11.out hg (fun k hk he => by have h1 := (K10.out.1 k he.symm).1; have h2 := (K10.out.1 k he.symm).2.2.1; have h3 := hk.1; have h4 := hk.2.2.1; have := S5.out; have := S7.out; have := S9.out; have := S11.out; omega)); clear K11; have K11 := K11n; clear K11n; have K12n := Aside0.mk (Kd.R_grown K12.out hg (fun k hk he => by have h1 := (K10.out.1 k he.symm).1; have h2 := (K10.out.1 k he.symm).2.2.1; have h3 := hk.1; have h4 := hk.2.2.1; have := S5.out; have := S7.out; have := S9.out; have := S11.out; omega)); clear K12; have K12 := K12n; clear K12n; have K13n := Aside0.mk (Kd.N_grown K13.out hg (fun k hk he => by have h1 := (K10.out.1 k he.symm).1; have h2 := (K10.out.1 k he.symm).2.2.1; have := S5.out; have := S7.out; have := S9.out; have := S11.out; rcases hk with h | h <;> omega)); clear K13; have K13 := K13n; clear K13n; have HB4n := Aside0.mk (Below.trans HB4.out hb4); clear HB4; have HB4 := HB4n; clear HB4n; have HGmn := Aside0.mk (blkB HGm.out hb4 (by omega)); have HGin := Aside0.mk (blkB HGi.out hb4 (by omega)); clear HGm HGi; have HGm := HGmn; have HGi := HGin; clear HGmn HGin; clear m0 m1 m2 m3 i0 i1; obtain ⟨m0, m1, m2, m3⟩ := facts4 HGm.out; obtain ⟨i0, i1, _, _⟩ := facts2 HGi.out; clear K10; clear ho hb hg hat hb4 hle) | ((with_reducible refine gate_builtin (b := .append) (xs := #[.tmp 60, .tmp 62]) rfl ?_); at_builtin; refine Kd.R_append k38 (w0 := w12) w7.heap.size rfl (.tmp 60) (.tmp 62) 23 38 (.agg #[.int .i64 0, .int .u64 0]) 16 rfl Tryd.underlying23 info38 rfl (by decide) (by omega) v12 l1 ⟨1, 0⟩ [.int .i64 1, .int .u64 0] (fun k => w7.heap.size ≤ k) (fun _ => False) rfl rfl ?aP (fun _ hk => hk.elim) ?aF ?aO ?aB ?aS ?aL ?_; (case aP => exact ⟨[.int .i64 1], [.int .u64 0], rfl, rfl, rfl⟩); (case aF => exact (fun k hk => Nat.le_trans (by have := S5.out; have := S7.out; have := S9.out; have := S11.out; have := S12.out; omega) hk)); (case aO => exact Kd.R_mono K12.out (fun k hk => hk.1)); (case aB => exact Below.refl _ _); (case aS => have := S5.out; have := S7.out; have := S9.out; have := S11.out; have := S12.out; omega); (case aL => have := Zhs1.out; omega); intro u1 w13 ho hb hg hat; obtain ⟨B1, d1, hv⟩ := Kd.R_slice ho; have hv2 : u1 = .slice B1 (l1.length + 1) d1 := (by rw [hv, List.length_append]; rfl); subst hv2; clear hv; have hb4 := below_low hb (show w4.heap.size ≤ w7.heap.size by have := S5.out; have := S7.out; have := S9.out; have := S11.out; have := S12.out; omega); have hle := hb.size; have S13 := Aside0.mk hle; have K11n := Aside0.mk (Kd.R_grown K11.out hg (fun k hk he => by have h1 := (K12.out.1 k he.symm).1; have h2 := (K12.out.1 k he.symm).2.2.1; have h3 := hk.1; have h4 := hk.2.2.1; have := S5.out; have := S7.out; have := S9.out; have := S11.out; have := S12.out; omega)); clear K11; have K11 := K11n; clear K11n; have K13n := Aside0.mk (Kd.N_grown K13.out hg (fun k hk he => by have h1 := (K12.out.1 k he.symm).1; have h2 := (K12.out.1 k he.symm).2.2.1; have := S5.out; have := S7.out; have := S9.out; have := S11.out; have := S12.out; rcases hk with h | h <;> omega)); clear K13; have K13 := K13n; clear K13n; have HB4n := Aside0.mk (Below.trans HB4.out hb4); clear HB4; have HB4 := HB4n; clear HB4n; have HGmn := Aside0.mk (blkB HGm.out hb4 (by omega)); have HGin := Aside0.mk (blkB HGi.out hb4 (by omega)); clear HGm HGi; have HGm := HGmn; have HGi := HGin; clear HGmn HGin; clear m0 m1 m2 m3 i0 i1; obtain ⟨m0, m1, m2, m3⟩ := facts4 HGm.out; obtain ⟨i0, i1, _, _⟩ := facts2 HGi.out; clear K12; clear ho hb hg hat hb4 hle) | ((with_reducible refine gate_builtin (b := .append) (xs := #[.tmp 64, .tmp 65]) rfl ?_); at_builtin; refine Kd.R_append (Kd.int .u64) (w0 := w13) w5.heap.size rfl (.tmp 64) (.tmp 65) 22 36 (.int .u64 0) 8 rfl Tryd.underlying22 info36 rfl (by decide) (by omega) v11 l2 2 [.int .u64 2] (fun k => w5.heap.size ≤ k) (fun _ => False) rfl rfl ?aP (fun _ hk => hk.elim) ?aF ?aO ?aB ?aS ?aL ?_; (case aP => exact rfl); (case aF => exact (fun k hk => Nat.le_trans (by have := S5.out; have := S7.out; have := S9.out; have := S11.out; have := S12.out; have := S13.out; omega) hk)); (case aO => exact Kd.R_mono K11.out (fun k hk => hk.1)); (case aB => exact Below.refl _ _); (case aS => have := S5.out; have := S7.out; have := S9.out; have := S11.out; have := S12.out; have := S13.out; omega); (case aL => have := Zhs2.out; omega); intro u2 w14 ho hb hg hat; obtain ⟨B2, d2, hv⟩ := Kd.R_slice ho; have hv2 : u2 = .slice B2 (l2.length + 1) d2 := (by rw [hv, List.length_append]; rfl); subst hv2; clear hv; have hb4 := below_low hb (show w4.heap.size ≤ w5.heap.size by have := S5.out; have := S7.out; have := S9.out; have := S11.out; have := S12.out; have := S13.out; omega); have hle := hb.size; have S14 := Aside0.mk hle; have K13n := Aside0.mk (Kd.N_grown K13.out hg (fun k hk he => by have h1 := (K11.out.1 k he.symm).1; have h2 := (K11.out.1 k he.symm).2.2.1; have := S5.out; have := S7.out; have := S9.out; have := S11.out; have := S12.out; have := S13.out; rcases hk with h | h <;> omega)); clear K13; have K13 := K13n; clear K13n; have HB4n := Aside0.mk (Below.trans HB4.out hb4); clear HB4; have HB4 := HB4n; clear HB4n; have HGmn := Aside0.mk (blkB HGm.out hb4 (by omega)); have HGin := Aside0.mk (blkB HGi.out hb4 (by omega)); clear HGm HGi; have HGm := HGmn; have HGi := HGin; clear HGmn HGin; clear m0 m1 m2 m3 i0 i1; obtain ⟨m0, m1, m2, m3⟩ := facts4 HGm.out; obtain ⟨i0, i1, _, _⟩ := facts2 HGi.out; clear K11; clear ho hb hg hat hb4 hle) | ((with_reducible refine gate_builtin (b := .append) (xs := #[.tmp 67, .tmp 70]) rfl ?_); at_builtin; refine Kd.N_append k41 (w0 := w14.alloc (.cells #[.int .u64 0] 36)) w9.heap.size rfl (.tmp 67) (.tmp 70) 24 41 (.agg #[.int .u64 0, .slice none 0 0, .slice none 0 0, .int .i64 0, .int .i64 0, .slice none 0 0]) 96 rfl Tryd.underlying24 info41 rfl (by decide) (by omega) v13 l3 addedFn [.int .u64 0, .slice (some ⟨w14.heap.size, 0, none⟩) 1 1, .slice none 0 0, .int .i64 0, .int .i64 0, .slice none 0 0] (fun k => w9.heap.size ≤ k ∨ k < w.heap.size) (fun k => k = w14.heap.size) rfl ?aX (fn_elem (heap_alloc_new w14 (.cells #[.int .u64 0] 36))) ?aK ?aF ?aO ?aB ?aS ?aL ?_; (case aX => exact (show Value.slice (some ⟨w14.heap.size + 1, 0, none⟩) 1 1 = Value.slice (some ⟨(w14.alloc (.cells #[.int .u64 0] 36)).heap.size, 0, none⟩) 1 1 from by simp)); (case aK => exact (fun k hk => ⟨Or.inl (by subst hk; have := S5.out; have := S7.out; have := S9.out; have := S11.out; have := S12.out; have := S13.out; have := S14.out; omega), fun he => by have := Kd.N_lt K13.out k he.symm; omega⟩)); (case aF => exact (fun k hk => Or.inl (by have : w14.heap.size ≤ k := Nat.le_trans (below_size (below_alloc (Below.refl w14.heap.size w14) (.cells #[.int .u64 0] 36))) hk; have := S5.out; have := S7.out; have := S9.out; have := S11.out; have := S12.out; have := S13.out; have := S14.out; omega))); (case aO => exact Kd.N_alloc K13.out _); (case aB => exact Below.refl _ _); (case aS => have := below_size (below_alloc (Below.refl w14.heap.size w14) (.cells #[.int .u64 0] 36)); have := S5.out; have := S7.out; have := S9.out; have := S11.out; have := S12.out; have := S13.out; have := S14.out; omega); (case aL => have := Zhs3.out; omega); intro u3 w15 ho hb hg hat; rw [ZhL3.out] at ho; obtain ⟨B3, d3, rfl⟩ := Kd.N_slice ho; have HC3 := Aside0.mk (Kd.N_reads' ho).2.2; have hb4 := Below.trans (below_low (below_alloc (Below.refl w14.heap.size w14) (.cells #[.int .u64 0] 36)) (show w4.heap.size ≤ w14.heap.size by have := S5.out; have := S7.out; have := S9.out; have := S11.out; have := S12.out; have := S13.out; have := S14.out; omega)) (below_low hb (show w4.heap.size ≤ w9.heap.size by have := S5.out; have := S7.out; have := S9.out; have := S11.out; have := S12.out; have := S13.out; have := S14.out; omega)); have HB4n := Aside0.mk (Below.trans HB4.out hb4); clear HB4; have HB4 := HB4n; clear HB4n; have HGmn := Aside0.mk (blkB HGm.out hb4 (by omega)); have HGin := Aside0.mk (blkB HGi.out hb4 (by omega)); clear HGm HGi; have HGm := HGmn; have HGi := HGin; clear HGmn HGin; clear m0 m1 m2 m3 i0 i1; obtain ⟨m0, m1, m2, m3⟩ := facts4 HGm.out; obtain ⟨i0, i1, _, _⟩ := facts2 HGi.out; clear m0 m1 m2 m3 i0 i1; have HN := Aside0.mk (heap_alloc_new w15 (.cells #[.slice B0 (l0.length + 1) d0, .slice B1 (l1.length + 1) d1, .slice B2 (l2.length + 1) d2, .slice B3 L3.length d3] 26)); replace HGm := Aside0.mk (blk_alloc HGm.out (.cells #[.slice B0 (l0.length + 1) d0, .slice B1 (l1.length + 1) d1, .slice B2 (l2.length + 1) d2, .slice B3 L3.length d3] 26)); replace HGi := Aside0.mk (blk_alloc HGi.out (.cells #[.slice B0 (l0.length + 1) d0, .slice B1 (l1.length + 1) d1, .slice B2 (l2.length + 1) d2, .slice B3 L3.length d3] 26)); replace HB4 := Aside0.mk (Below.trans HB4.out (below_low (below_alloc (Below.refl w15.heap.size w15) (.cells #[.slice B0 (l0.length + 1) d0, .slice B1 (l1.length + 1) d1, .slice B2 (l2.length + 1) d2, .slice B3 L3.length d3] 26)) (below_size HB4.out))); obtain ⟨n0, n1, n2, n3⟩ := facts4 HN.out; obtain ⟨m0, m1, m2, m3⟩ := facts4 HGm.out; obtain ⟨i0, i1, _, _⟩ := facts2 HGi.out; clear ho hb hg hat hb4))
  have HBx := Aside0.mk (below_step HB.out HB4.out)
  clear HB HB4
  have HB := HBx
  refine (code_Effect.calls B0 d0 (l0.length + 1) B1 d1 (l1.length + 1) B2 d2 (l2.length + 1) B3 d3 L3 f op a _ (tab_below Zht.out HB.out) (Kd.C_below HC3.out (below_alloc (Below.refl _ _) _))).mono ?_
  rintro e w16 ⟨rfl, hb⟩
  rw [Zhe2.out]
  clear n0 n1 n2 n3
  replace HGm := Aside0.mk (blk_below HGm.out hb)
  replace HGi := Aside0.mk (blk_below HGi.out hb)
  replace HB := Aside0.mk (below_step HB.out hb)
  clear m0 m1 m2 m3 i0 i1
  obtain ⟨m0, m1, m2, m3⟩ := facts4 HGm.out
  obtain ⟨i0, i1, _, _⟩ := facts2 HGi.out
  clear hb
  go_wp2_with fail
  refine (code_May.calls op a _ (tab_below Zht.out HB.out)).mono ?_
  rintro e w17 ⟨rfl, hb⟩
  rw [Zhm.out]
  replace HGm := Aside0.mk (blk_below HGm.out hb)
  replace HGi := Aside0.mk (blk_below HGi.out hb)
  replace HB := Aside0.mk (below_step HB.out hb)
  clear m0 m1 m2 m3 i0 i1
  obtain ⟨m0, m1, m2, m3⟩ := facts4 HGm.out
  obtain ⟨i0, i1, _, _⟩ := facts2 HGi.out
  clear hb
  go_wp2
  go_ret
  exact ⟨rfl, HB.out⟩
end Go.Proofs.YtgpdaihfjnihhaaDoor.PJ
