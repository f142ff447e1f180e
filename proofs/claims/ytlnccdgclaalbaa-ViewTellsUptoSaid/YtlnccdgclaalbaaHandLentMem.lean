/- LentInt64s, LentRows, LentMemory by hand. -/
import Derived.Test.YtlnccdgclaalbaaPJx0
import Derived.Test.YtlnccdgclaalbaaPJx5
import Derived.Test.YtlnccdgclaalbaaHandLentCode
import Derived.Test.YtlnccdgclaalbaaHandKept
import Derived.Test.YtlnccdgclaalbaaViewPure
import Derived.Test.YtlnccdgclaalbaaHandMemKd
namespace Go.Proofs.Ytlnccdgclaalbaa.PJ
open Go.RowKit Go.Proofs.YtlnccdgclaalbaaW.PrintWords Go.Proofs.YtlnccdgclaalbaaW.PrintLast Go.Proofs.YtlnccdgclaalbaaW.PrintMore
set_option linter.unusedSimpArgs false
set_option linter.unusedVariables false
theorem linfoN : (Try.prog.info? 2).map (fun i => (i.zero, i.size, i.bytes)) = some (some (.int .i64 0), 1, 8) := by kernel_rfl
theorem linfoS : (Try.prog.info? 27).map (fun i => (i.zero, i.size, i.bytes)) = some (some (.slice none 0 0), 1, 24) := by kernel_rfl
set_option maxHeartbeats 8000000 in
set_option maxRecDepth 100000 in
theorem louverkit_LentInt64sD.calls (A0 : Option Addr) (c0 : Nat) (l0 : List Int) (w : World) (hr0 : Kd.C (Kd.int .i64) w A0 l0.length l0) (hl : (l0.length + 1) * 8 ≤ 140737488355328) :
    Calls Try.prog 24 #[.slice A0 l0.length c0] w fun e w' => ∃ v0_ : Value, e = .returned (v0_) ∧ LentD (Kd.int .i64) 2 w' w.heap.size v0_ l0 (-7171) ∧ Below w.heap.size w w' := by
  have HR0 := Aside0.mk hr0
  have HL := Aside0.mk hl
  clear hr0 hl
  have HB := Aside0.mk (Below.refl w.heap.size w)
  go_enter Try.func24, Try.ntmps24
  go_wp2_with (first | ((with_reducible refine gate_builtin (b := .append) (xs := #[.tmp 4, .tmp 5]) rfl ?_); at_builtin; refine Kd.R_append_rows (Kd.int .i64) (w0 := w) w.heap.size rfl (.tmp 4) (.tmp 5) 27 2 (.int .i64 0) 8 rfl Try.underlying27 linfoN rfl (by decide) (by omega) (.slice none 0 0) [] l0 _ _ _ (fun k => w.heap.size ≤ k) (fun _ => False) rfl rfl ?aO ?aR (fun _ _ h => h) (fun _ h => h.elim) ?aF ?aB ?aS ?aL ?_; (case aR => exact HR0.out); (case aB => exact HB.out); (case aF => exact (fun _ h => h)); (case aO => exact Kd.R_nil _ _ _ _ _); (case aS => exact (below_size HB.out)); (case aL => have := HL.out; simp only [List.length_nil]; omega); intro v102 w6 ho hb hg hat; rw [List.nil_append] at ho; clear HB; have HB := Aside0.mk hb; have HO := Aside0.mk ho; clear ho hb hg hat) | ((with_reducible refine gate_builtin (b := .append) (xs := #[.tmp 7, .tmp 8]) rfl ?_); at_builtin; refine Kd.R_append (Kd.int .i64) (w0 := w) w.heap.size rfl (.tmp 7) (.tmp 8) 27 2 (.int .i64 0) 8 rfl Try.underlying27 linfoN rfl (by decide) (by omega) v102 l0 (-7171) [.int .i64 (-7171)] (fun k => w.heap.size ≤ k) (fun _ => False) rfl rfl ?aP (fun _ hk => hk.elim) ?aF ?aO ?aB ?aS ?aL ?_; (case aP => exact rfl); (case aB => exact HB.out); (case aF => exact (fun k hk => Nat.le_trans HB.out.size hk)); (case aO => exact HO.out); (case aS => exact HB.out.size); (case aL => have := HL.out; omega); intro v105 w7 ho hb hg hat; clear HB; have HB := Aside0.mk hb; clear HO; have HO := Aside0.mk ho; clear ho hb hg hat; obtain ⟨Ao8, co8, eo8⟩ := Kd.R_slice HO.out; subst eo8; obtain ⟨i09, hi09, _, hsz9, _⟩ := info_parts linfoN; have hcut9 := cut_up (P := Try.prog) 27 2 Try.underlying27 hi09 Ao8 (l0 ++ [(-7171)]).length co8 (l0.length : Int) (by omega) (by have := (Kd.R_reads' HO.out).2.1; simp only [List.length_append, List.length_singleton] at this; omega); clear hi09 hsz9; simp only [List.length_append, List.length_cons, List.length_nil, Int.toNat_natCast] at hcut9))
  go_ret
  exact ⟨_, rfl, ⟨Ao8, co8, rfl, HO.out⟩, HB.out⟩
set_option maxHeartbeats 8000000 in
set_option maxRecDepth 100000 in
theorem louverkit_KeptInt64sC.calls (v : Value) (l : List Int) (A1 : Option Addr) (c1 : Nat) (w : World) (hL : LentC (Kd.int .i64) w v l (-7171)) (hr1 : Kd.C (Kd.int .i64) w A1 l.length l) (hc1 : l.length ≤ c1) :
    Calls Try.prog 31 #[v, .slice A1 l.length c1] w fun e w' => e = .returned (.bool true) ∧ Drawn0 w w' := by
  obtain ⟨A, c, rfl, hcap, hC0⟩ := hL
  obtain ⟨ad, cs, rfl, hK, hcell⟩ := lentC_mark hC0
  have hm : l.length ≤ 9223372036854775806 := by have := Kd.C_max hC0; simp at this; omega
  obtain ⟨k, hk⟩ : ∃ k, louverkit_Int64s.f k l l = some true := ⟨l.length + 1, by rw [int64s_f l l (by omega) _ (by omega)]; simp⟩
  have HC := Aside0.mk (lentC_reads hC0)
  have HR1 := Aside0.mk hr1
  have HC1 := Aside0.mk hc1
  have HH := Aside0.mk hk
  have HN := Aside0.mk hcap
  obtain rfl : cs = [.int .i64 (-7171)] := hK
  have hm0 : w.cell? (ad.add l.length) = some (.int .i64 (-7171)) := by
    have := hcell 0 _ rfl
    have e3 : l.length * ((Kd.int .i64)).sz + 0 = l.length := by show l.length * 1 + 0 = l.length; omega
    rw [e3] at this
    exact this
  have w1 : wrap64 ((l.length : Int) + 1) = (l.length : Int) + 1 := by
    unfold wrap64
    omega
  obtain ⟨i09, hi09, _, hsz9, _⟩ := info_parts linfoN
  have hcut9 := cut_up (P := Try.prog) 27 2 Try.underlying27 hi09 (some ad) l.length c ((l.length : Int) + 1) (by omega) (by omega)
  clear hi09 hsz9 hcap hC0 hr1 hc1 hk hm hcell
  go_enter Try.func31, Try.ntmps31
  go_wp2_with (first | (go_at_call 44; (with_reducible refine (louverkit_Int64s.calls k _ _ l _ _ l true _ ?s1 ?s2 ?s3 ?s4 HH.out).mono ?_); (case s1 => exact HC.out); (case s2 => have := HN.out; omega); (case s3 => exact HR1.out); (case s4 => exact HC1.out); rintro e w' ⟨rfl, ⟨nd, rfl⟩⟩))
  go_ret
  exact ⟨rfl, by repeat (first | exact Drawn0.refl _ | apply Drawn0.step)⟩
/-- Rows that are lent, each with its mark (the flag), or not. -/
abbrev kLR : Kd (List Int × Bool) := kLent (Kd.int .i64) (-7171)
def markRow : List Int × Bool := ([-7171], false)
def LentRs (W : World) (base : Nat) (v : Value) (l : List (List Int)) : Prop :=
  ∃ A c, v = .slice A l.length c ∧ Kd.N kLR 27 W base (fun k => base ≤ k) (.slice A (l.length + 1) c) (l.map (fun x => (x, true)) ++ [markRow])
theorem LentRs.below {W W1 : World} {base : Nat} {v : Value} {l : List (List Int)} (h : LentRs W base v l) (hb : Below W.heap.size W W1) : LentRs W1 base v l := by
  obtain ⟨A, c, rfl, hN⟩ := h
  exact ⟨A, c, rfl, Kd.N_below hN hb⟩
theorem markRow_FK {W : World} {g : Nat} (hg : W.heap[g]? = some (.cells #[.int .i64 (-7171)] 2 (0, 0))) : Kd.FK kLR W (fun k => k = g) markRow [.slice (some ⟨g, 0, none⟩) 1 1] := by
  intro W' hW
  have h := (hW g rfl (blk_lt hg)).trans hg
  exact ⟨some ⟨g, 0, none⟩, 1, rfl, Nat.le_refl _, C_lit1 h, fun h => by cases h⟩
set_option maxHeartbeats 16000000 in
set_option maxRecDepth 100000 in
theorem louverkit_LentRows.calls (A0 : Option Addr) (c0 : Nat) (l : List (List Int)) (w : World) (hr0 : Kd.C (Kd.slice 2 (Kd.int .i64)) w A0 l.length l) (hs : (l.length + 1) * 24 ≤ 140737488355328) (hsf : ∀ x ∈ l, (x.length + 1) * 8 ≤ 140737488355328) :
    Calls Try.prog 36 #[.slice A0 l.length c0] w fun e w' => ∃ v, e = .returned v ∧ LentRs w' w.heap.size v l ∧ Below w.heap.size w w' := by
  have Zhr0 := Aside0.mk hr0
  have Zhs := Aside0.mk hs
  have Zhsf := Aside0.mk hsf
  clear hr0 hs hsf
  have HB := Aside0.mk (Below.refl w.heap.size w)
  go_enter Try.func36, Try.ntmps36
  go_wp2
  go_loopg [3, 4] (l.length + 1) (fun kq v3 v4 w' => ∃ (i : Nat), v4 = .int .i64 (i : Int) ∧ Aside0 (i + kq = l.length + 1) ∧ Aside0 (1 ≤ kq) ∧ Aside0 (Kd.N kLR 27 w' w.heap.size (fun k => w.heap.size ≤ k) v3 ((l.take i).map (fun x => (x, true)))) ∧ Aside0 (Below w.heap.size w w'))
  case atStart => exact ⟨0, rfl, ⟨by omega⟩, ⟨by omega⟩, ⟨Kd.N_nil _ _ _ _ _⟩, HB⟩
  case round =>
    clear HB
    obtain ⟨i, rfl, HI, HI1, HN, HB⟩ := hrel
    cases gk with
    | zero => exact absurd HI1.out (by omega)
    | succ k1 =>
      by_cases ci : i < l.length
      · have cib : decide ((i : Int) < (l.length : Int)) = true := decide_eq_true (by omega)
        have hii : (i : Int) < (l.length : Int) := by omega
        have hw2 : wrap64 ((i : Int) + 1) = (i : Int) + 1 := by have := Zhs.out; unfold wrap64; omega
        obtain ⟨wi, hwi⟩ : ∃ wi : World, wi = wr := ⟨_, rfl⟩
        rw [← hwi] at HN HB ⊢
        clear hwi
        obtain ⟨ad, B1, d1, hA3, q0, e1, g1⟩ := at_L3 (Kd.C_below Zhr0.out HB.out) (i : Int) (by omega) hii
        subst hA3
        rw [Int.toNat_natCast] at q0
        obtain ⟨x, hx⟩ : ∃ x, rd_L3 l (i : Int) = x := ⟨_, rfl⟩
        rw [hx] at q0 g1
        have hxl : l[i] = x := by rw [← hx]; simp [rd_L3, List.getD_eq_getElem?_getD, ci]
        have hxm : x ∈ l := by rw [← hxl]; exact List.getElem_mem ci
        have hz := Zhsf.out x hxm
        have HXL := Aside0.mk hxl
        have G1 := Aside0.mk g1
        have HZ := Aside0.mk hz
        clear hx hxl hxm hz g1 e1
        go_wp2_with fail
        refine (louverkit_LentInt64sD.calls B1 d1 x _ G1.out HZ.out).mono ?_
        rintro e wf ⟨v1, rfl, hL1, hb⟩
        clear q0
        obtain ⟨s1, t1, rfl⟩ := hL1.slice
        have hbw := hb
        have HNw := Aside0.mk (Kd.N_below HN.out hbw)
        have HBw := Aside0.mk (below_step HB.out hbw)
        have HFK := Aside0.mk (hL1.FK)
        have HLT := Aside0.mk (Kd.N_lt HN.out)
        have HBS := Aside0.mk HB.out.size
        clear hL1 hb hbw HN HB
        go_wp2_with (first | ((with_reducible refine gate_builtin (b := .append) (xs := #[.tmp 17, .tmp 19]) rfl ?_); at_builtin; refine Kd.N_append kLR (w0 := w) w.heap.size rfl (.tmp 17) (.tmp 19) 28 27 (.slice none 0 0) 24 rfl Try.underlying28 linfoS rfl (by decide) (by omega) u3 ((l.take i).map (fun x => (x, true))) (x, true) [.slice s1 x.length t1] (fun k => w.heap.size ≤ k) (fun k => wi.heap.size ≤ k) rfl ?aX ?aP ?aK ?aF ?aO ?aB ?aS ?aL ?_; (case aX => first | rfl | (show Value.slice (some ⟨wf.heap.size, 0, none⟩) 1 1 = _; simp)); (case aP => exact HFK.out); (case aK => exact (fun k hk => ⟨Nat.le_trans HBS.out hk, fun he => by have := HLT.out k he.symm; omega⟩)); (case aF => exact (fun k hk => Nat.le_trans HBw.out.size hk)); (case aO => exact HNw.out); (case aB => exact HBw.out); (case aS => exact HBw.out.size); (case aL => have := Zhs.out; simp only [List.length_map, List.length_take]; omega); intro v20 w9 ho hb hg hat; have HN := Aside0.mk ho; have HB := Aside0.mk hb; clear ho hb hg hat))
        go_roundg k1
        case measure => omega
        case rel => exact ⟨i + 1, by simp [hw2], ⟨by have := HI.out; omega⟩, ⟨by have := HI.out; omega⟩, ⟨by rw [List.take_succ_eq_append_getElem ci, HXL.out, List.map_append]; exact HN.out⟩, HB⟩
      · have cib : decide ((i : Int) < (l.length : Int)) = false := decide_eq_false (by omega)
        obtain rfl : i = l.length := by have := HI.out; omega
        rw [List.take_length] at HN
        clear HI HI1 ci
        obtain ⟨wi, hwi⟩ : ∃ wi : World, wi = wr := ⟨_, rfl⟩
        rw [← hwi] at HN HB ⊢
        clear hwi
        have hb1 := below_alloc (Below.refl wi.heap.size wi) (.cells #[.int .i64 (-7171)] 2)
        have HFK := Aside0.mk (markRow_FK (heap_alloc_new wi (.cells #[.int .i64 (-7171)] 2)))
        have HLT := Aside0.mk (Kd.N_lt HN.out)
        have HBS := Aside0.mk HB.out.size
        have HNw := Aside0.mk (Kd.N_below HN.out hb1)
        have HBw := Aside0.mk (below_step HB.out hb1)
        clear HN HB hb1
        go_wp2_with (first | ((with_reducible refine gate_builtin (b := .append) (xs := #[.tmp 21, .tmp 23]) rfl ?_); at_builtin; refine Kd.N_append kLR (w0 := w) w.heap.size rfl (.tmp 21) (.tmp 23) 28 27 (.slice none 0 0) 24 rfl Try.underlying28 linfoS rfl (by decide) (by omega) u3 (l.map (fun x => (x, true))) markRow [.slice (some ⟨wi.heap.size, 0, none⟩) 1 1] (fun k => w.heap.size ≤ k) (fun k => k = wi.heap.size) rfl ?aX ?aP ?aK ?aF ?aO ?aB ?aS ?aL ?_; (case aX => exact (show Value.slice (some ⟨wi.heap.size + 1, 0, none⟩) 1 1 = Value.slice (some ⟨(wi.alloc (.cells #[.int .i64 (-7171)] 2)).heap.size, 0, none⟩) 1 1 from by simp)); (case aP => exact HFK.out); (case aK => exact (fun k hk => ⟨by subst hk; exact HBS.out, fun he => by have := HLT.out k he.symm; omega⟩)); (case aF => exact (fun k hk => Nat.le_trans HBw.out.size hk)); (case aO => exact HNw.out); (case aB => exact HBw.out); (case aS => exact HBw.out.size); (case aL => have := Zhs.out; simp only [List.length_map]; omega); intro v24 w9 ho hb hg hat; have HN := Aside0.mk ho; have HB := Aside0.mk hb; clear ho hb hg hat; obtain ⟨Af, cf, ef⟩ := Kd.N_slice HN.out; subst ef; rw [show (l.map (fun x => (x, true)) ++ [markRow]).length = l.length + 1 by simp] at HN ⊢; obtain ⟨i08, hi08, _, hsz8, _⟩ := info_parts linfoS; have hcutF := cut_up (P := Try.prog) 28 27 Try.underlying28 hi08 Af (l.length + 1) cf (l.length : Int) (by omega) (by have := (Kd.N_reads' HN.out).2.1; omega); rw [Int.toNat_natCast] at hcutF; clear hi08 hsz8))
        go_ret
        exact ⟨_, rfl, ⟨Af, cf, rfl, HN.out⟩, HB.out⟩
end Go.Proofs.Ytlnccdgclaalbaa.PJ
