/- The law ImageBack: by hand, from its row's form. -/
import Derived.Test.YtgpdaihfjnihhaaDoorPJx0
import Derived.Test.YtgpdaihfjnihhaaDoorPKit
import Derived.Test.YtgpdaihfjnihhaaDoorHandAwake12
import Derived.Test.YtgpdaihfjnihhaaDoorNamesAll
namespace Go.Proofs.YtgpdaihfjnihhaaDoor.PJ
open Go.RowKit Go.Proofs.YtgpdaihfjnihhaaDoorW.PrintWords Go.Proofs.YtgpdaihfjnihhaaDoorW.PrintLast Go.Proofs.YtgpdaihfjnihhaaDoorW.PrintMore Go.Proofs.YtgpdaihfjnihhaaDoor.LebPure Go.Proofs.YtgpdaihfjnihhaaDoor.LebForm Go.Proofs.YtgpdaihfjnihhaaDoor.B64
set_option linter.unusedSimpArgs false
set_option linter.unusedVariables false
theorem kLabels (l : List Int) (hm : l.length ≤ 9223372036854775807) (k : Nat) (hk : l.length < k) : louverkit_Labels.f k l l = some true := by
  have key : ∀ d i k, i + d = l.length → d < k → louverkit_Labels.l0 k l l (i : Int) = some true := by
    intro d
    induction d with
    | zero =>
      intro i k hi hk
      obtain ⟨m, rfl⟩ : ∃ m, k = m + 1 := ⟨k - 1, by omega⟩
      rw [louverkit_Labels.l0, if_neg (by omega)]
    | succ d ih =>
      intro i k hi hk
      obtain ⟨m, rfl⟩ : ∃ m, k = m + 1 := ⟨k - 1, by omega⟩
      rw [louverkit_Labels.l0, if_pos (by omega), if_pos (by omega), if_pos (by omega), if_pos rfl, show wrap64 ((i : Int) + 1) = ((i + 1 : Nat) : Int) by unfold wrap64; omega]
      exact ih (i + 1) m (by omega) (by omega)
  unfold louverkit_Labels.f
  rw [if_pos rfl]
  exact key l.length 0 _ (by omega) hk
theorem kCode (l : List S44) (hm : l.length ≤ 9223372036854775807) (k : Nat) (hk : l.length < k) : louverkit_Code.f k l l = some true := by
  have key : ∀ d i k, i + d = l.length → d < k → louverkit_Code.l0 k l l (i : Int) = some true := by
    intro d
    induction d with
    | zero =>
      intro i k hi hk
      obtain ⟨m, rfl⟩ : ∃ m, k = m + 1 := ⟨k - 1, by omega⟩
      rw [louverkit_Code.l0, if_neg (by omega)]
    | succ d ih =>
      intro i k hi hk
      obtain ⟨m, rfl⟩ : ∃ m, k = m + 1 := ⟨k - 1, by omega⟩
      rw [louverkit_Code.l0, if_pos (by omega), if_pos (by omega), if_pos (by omega), if_neg (by simp), show wrap64 ((i : Int) + 1) = ((i + 1 : Nat) : Int) by unfold wrap64; omega]
      exact ih (i + 1) m (by omega) (by omega)
  unfold louverkit_Code.f
  rw [if_pos rfl]
  exact key l.length 0 _ (by omega) hk
theorem kFn (x : S41) (h1 : x.f1.length ≤ 9223372036854775807) (h2 : x.f2.length ≤ 9223372036854775807) (h5 : x.f5.length ≤ 9223372036854775807) (k : Nat) (k1 : x.f1.length < k) (k2 : x.f2.length < k) (k5 : x.f5.length < k) : louverkit_Function.f k x.f0 x.f1 x.f2 x.f3 x.f4 x.f5 x.f0 x.f1 x.f2 x.f3 x.f4 x.f5 = some true := by
  unfold louverkit_Function.f
  rw [if_pos rfl, kLabels _ h1 _ k1, Option.bind_some, if_pos rfl, kLabels _ h2 _ k2, Option.bind_some, if_pos rfl, if_pos rfl, if_pos rfl, kCode _ h5 _ k5, Option.bind_some]
/-- A bound on the rows in a list of functions. -/
def fnsB (L : Nat) (l : List S41) : Prop := ∀ x ∈ l, x.f1.length ≤ L ∧ x.f2.length ≤ L ∧ x.f5.length ≤ L
theorem fnsB_ex : ∀ l : List S41, ∃ L, fnsB L l
  | [] => ⟨0, fun x hx => by cases hx⟩
  | x :: l => by
    obtain ⟨L, h⟩ := fnsB_ex l
    refine ⟨L + x.f1.length + x.f2.length + x.f5.length, fun y hy => ?_⟩
    rcases List.mem_cons.1 hy with rfl | hy
    · omega
    · have := h y hy
      omega
theorem kModule (gs : List Int) (arr : List S38) (chs : List Int) (fns : List S41) (h : okMod (gs, arr, chs, fns)) : ∃ k, louverkit_Module.f k gs arr chs fns gs arr chs fns = some true := by
  obtain ⟨⟨g1, _⟩, ⟨a1, _⟩, ⟨c1, _⟩, ⟨f1, f2⟩⟩ := h
  obtain ⟨L, hL⟩ := fnsB_ex fns
  have key1 : ∀ d i k, i + d = fns.length → d + L + 1 < k → louverkit_Module.l1 k (i : Int) gs arr chs fns gs arr chs fns = some true := by
    intro d
    induction d with
    | zero =>
      intro i k hi hk
      obtain ⟨m, rfl⟩ : ∃ m, k = m + 1 := ⟨k - 1, by omega⟩
      rw [louverkit_Module.l1, if_neg (by have : (fns.length : Int) ≤ (i : Int) := (by omega); exact Int.not_lt.2 this)]
    | succ d ih =>
      intro i k hi hk
      obtain ⟨m, rfl⟩ : ∃ m, k = m + 1 := ⟨k - 1, by omega⟩
      have hif : i < fns.length := by omega
      have hrd : rd_T41 fns (i : Int) = fns[i] := by simp [rd_T41, List.getD_eq_getElem?_getD, hif]
      have hx := hL fns[i] (List.getElem_mem hif)
      obtain ⟨_, p1, p2, _, _, p5, _⟩ := f2 fns[i] (List.getElem_mem hif)
      have hf1 : fns.length ≤ 9223372036854775807 := f1
      rw [louverkit_Module.l1, if_pos (by omega), if_pos (by omega), if_pos (by omega), hrd, kFn _ p1.1 p2.1 p5 m (by omega) (by omega) (by omega), Option.bind_some, if_pos rfl, show wrap64 ((i : Int) + 1) = ((i + 1 : Nat) : Int) by unfold wrap64; omega]
      exact ih (i + 1) m (by omega) (by omega)
  have key0 : ∀ d i k, i + d = arr.length → d + fns.length + L + 3 < k → louverkit_Module.l0 k (i : Int) gs arr chs fns gs arr chs fns = some true := by
    intro d
    induction d with
    | zero =>
      intro i k hi hk
      obtain ⟨m, rfl⟩ : ∃ m, k = m + 1 := ⟨k - 1, by omega⟩
      rw [louverkit_Module.l0, if_neg (by have : (arr.length : Int) ≤ (i : Int) := (by omega); exact Int.not_lt.2 this)]
      exact key1 fns.length 0 m (by omega) (by omega)
    | succ d ih =>
      intro i k hi hk
      obtain ⟨m, rfl⟩ : ∃ m, k = m + 1 := ⟨k - 1, by omega⟩
      have ha1 : arr.length ≤ 9223372036854775807 := a1
      rw [louverkit_Module.l0, if_pos (by omega), if_pos (by omega), if_pos (by omega), if_neg (by simp), show wrap64 ((i : Int) + 1) = ((i + 1 : Nat) : Int) by unfold wrap64; omega]
      exact ih (i + 1) m (by omega) (by omega)
  refine ⟨gs.length + chs.length + arr.length + fns.length + L + 10, ?_⟩
  unfold louverkit_Module.f
  rw [kLabels gs g1 _ (by omega), Option.bind_some, if_pos rfl, kLabels chs c1 _ (by omega), Option.bind_some, if_pos rfl, if_pos rfl]
  rw [show ((fns.length : Int) != (fns.length : Int)) = false by simp]
  rw [show gs.length + chs.length + arr.length + fns.length + L + 10 = (gs.length + chs.length + arr.length + fns.length + L + 9) + 1 by omega, louverkit_Module.j0, if_neg (by decide)]
  exact key0 arr.length 0 _ (by omega) (by omega)
theorem okMod_wfW {m : ModL} (h : okMod m) : wfW m.1 m.2.1 m.2.2.1 m.2.2.2 := by
  obtain ⟨⟨_, g⟩, ⟨_, a⟩, ⟨_, c⟩, ⟨_, f⟩⟩ := h
  refine ⟨g, fun x hx => (a x hx).2, c, fun x hx => ?_⟩
  obtain ⟨p0, p1, p2, _, _, _, p5⟩ := f x hx
  exact ⟨p0, p1.2, p2.2, fun y hy => (p5 y hy).2⟩
theorem wfW_read {xs : List Int} (hb : Bts xs) : wfW (readM xs).1.1 (readM xs).1.2.1 (readM xs).1.2.2.1 (readM xs).1.2.2.2 := by
  by_cases h : (readM xs).2 = 0
  · have e : readM xs = ((readM xs).1, 0) := by rw [← h]
    exact okMod_wfW (read_full hb e).1
  · rw [readM_none h]
    exact ⟨fun x hx => (by cases hx), fun x hx => (by cases hx), fun x hx => (by cases hx), fun x hx => (by cases hx)⟩
theorem writeM_bts {gs : List Int} {arr : List S38} {chs : List Int} {fns : List S41} : Bts (writeM gs arr chs fns).1 := by
  unfold writeM
  split
  · exact fun x hx => by cases hx
  · split
    · exact fun x hx => by cases hx
    · exact Bts.append (bts_full _ _ _ _) (eightL_bts _)
theorem wf_open {l0 : List Int} {l1 : List S38} {l2 : List Int} {l3 : List S41} (y0 : ((∀ y ∈ l0, (Lit.int .u64 y).wf = true) ∧ l0.length * 8 ≤ 140737488351232) ∧ ((∀ x ∈ l1, (Lit.int .i64 x.f0).wf = true ∧ (Lit.int .u64 x.f1).wf = true) ∧ l1.length * 16 ≤ 140737488351232) ∧ ((∀ y ∈ l2, (Lit.int .u64 y).wf = true) ∧ l2.length * 8 ≤ 140737488351232) ∧ ((∀ x ∈ l3, okFunc x) ∧ l3.length * 96 ≤ 140737488351232)) : wfW l0 l1 l2 l3 ∧ wfMod (l0, l1, l2, l3) := by
  obtain ⟨⟨p0, q0⟩, ⟨p1, q1⟩, ⟨p2, q2⟩, ⟨p3, q3⟩⟩ := y0
  refine ⟨⟨fun x hx => wf_u64 (p0 x hx), fun x hx => wf_u64 (p1 x hx).2, fun x hx => wf_u64 (p2 x hx), fun x hx => ?_⟩, ⟨⟨?_, fun x hx => wf_u64 (p0 x hx)⟩, ⟨?_, fun x hx => ⟨(wf_i64 (p1 x hx).1).2, wf_u64 (p1 x hx).2⟩⟩, ⟨?_, fun x hx => wf_u64 (p2 x hx)⟩, ⟨?_, fun x hx => ?_⟩⟩⟩
  · obtain ⟨r0, ⟨r1, _⟩, ⟨r2, _⟩, r3, r4, ⟨r5, _⟩⟩ := p3 x hx
    exact ⟨wf_u64 r0, fun y hy => wf_u64 (r1 y hy), fun y hy => wf_u64 (r2 y hy), fun y hy => wf_i64 (r5 y hy).2⟩
  · show l0.length ≤ _
    omega
  · show l1.length ≤ _
    omega
  · show l2.length ≤ _
    omega
  · show l3.length ≤ _
    omega
  · obtain ⟨r0, ⟨r1, s1⟩, ⟨r2, s2⟩, r3, r4, ⟨r5, s5⟩⟩ := p3 x hx
    exact ⟨wf_u64 r0, ⟨by omega, fun y hy => wf_u64 (r1 y hy)⟩, ⟨by omega, fun y hy => wf_u64 (r2 y hy)⟩, (wf_i64 r3).2, (wf_i64 r4).2, by omega, fun y hy => wf_i64 (r5 y hy).2⟩
set_option maxHeartbeats 16000000 in
set_option maxRecDepth 100000 in
theorem imageBack.calls (A0 A1 A2 A3 : Option Addr) (c0 c1 c2 c3 : Nat) (l0 : List Int) (l1 : List S38) (l2 : List Int) (l3 : List S41) (A : Option Addr) (c : Nat) (xs : List Int) (w : World) (ht : Lib.TabIs Tryd.prog w "strings.asciiSpace" .u8 Lib.asciiSpaceTab)
    (h0 : Kd.C (Kd.int .u64) w A0 l0.length l0) (k0 : l0.length ≤ c0) (h1 : Kd.C k38 w A1 l1.length l1) (k1 : l1.length ≤ c1) (h2 : Kd.C (Kd.int .u64) w A2 l2.length l2) (k2 : l2.length ≤ c2) (h3 : Kd.C k41 w A3 l3.length l3) (k3 : l3.length ≤ c3) (hw : wfW l0 l1 l2 l3) (hm : wfMod (l0, l1, l2, l3))
    (hC : Kd.C (Kd.int .u8) w A xs.length xs) (hc : xs.length ≤ c) (hb : Bts xs) (hx : xs.length ≤ 140737488351232) :
    Calls Tryd.prog 15 #[.agg #[.slice A0 l0.length c0, .slice A1 l1.length c1, .slice A2 l2.length c2, .slice A3 l3.length c3], .slice A xs.length c] w fun e w' => e = .returned (.bool true) ∧ Below w.heap.size w w' := by
  have hbA := below_alloc (Below.refl w.heap.size w) (.cells #[.slice A0 l0.length c0, .slice A1 l1.length c1, .slice A2 l2.length c2, .slice A3 l3.length c3] 26)
  have HB0 := Aside0.mk hbA
  have HG := Aside0.mk (heap_alloc_new w (.cells #[.slice A0 l0.length c0, .slice A1 l1.length c1, .slice A2 l2.length c2, .slice A3 l3.length c3] 26))
  have HXB := Aside0.mk hb
  have HXC := Aside0.mk hc
  have HXL := Aside0.mk hx
  have HD0 := Aside0.mk (Kd.C_below hC hbA)
  have HT0 := Aside0.mk (tab_below ht hbA)
  have HL := Aside0.mk (And.intro (Kd.C_below h0 hbA) (And.intro (Kd.C_below h1 hbA) (And.intro (Kd.C_below h2 hbA) (Kd.C_below h3 hbA))))
  have HK := Aside0.mk (And.intro k0 (And.intro k1 (And.intro k2 k3)))
  have HWM := Aside0.mk hm
  have HWC := Aside0.mk (image_Write.calls A0 A1 A2 A3 c0 c1 c2 c3 l0 l1 l2 l3 (w.alloc (.cells #[.slice A0 l0.length c0, .slice A1 l1.length c1, .slice A2 l2.length c2, .slice A3 l3.length c3] 26)) HT0.out HL.out.1 HL.out.2.1 HL.out.2.2.1 HL.out.2.2.2 hw)
  have HBT := Aside0.mk (writeM_bts (gs := l0) (arr := l1) (chs := l2) (fns := l3))
  have HWR := Aside0.mk (show ∀ b, writeM l0 l1 l2 l3 = (b, 0) → okMod (l0, l1, l2, l3) ∧ readM b = ((l0, l1, l2, l3), 0) from fun b h => by
    have ho := okMod_of hm (writeM_ok h).1
    exact ⟨ho, write_read ho h⟩)
  obtain ⟨⟨m0, m1, m2, m3⟩, _⟩ := facts4 HG.out
  clear ht h0 k0 h1 k1 h2 k2 h3 k3 hw hm hC hc hb hx hbA
  go_enter Tryd.func15, Tryd.ntmps15
  go_wp2_with fail
  refine HWC.out.mono ?_
  rintro e w1 ⟨v, rfl, hV, hb1⟩
  obtain ⟨B0, bc, rfl, hVR⟩ := hV
  have HV1 := Aside0.mk (Kd.R_reads' hVR).2.2
  have HBB := Aside0.mk (below_step HB0.out hb1)
  have HTB := Aside0.mk (tab_below HT0.out hb1)
  have HD := Aside0.mk (Kd.C_below HD0.out hb1)
  have HG1 := Aside0.mk (blk_below HG.out hb1)
  replace HL := Aside0.mk (And.intro (Kd.C_below HL.out.1 hb1) (And.intro (Kd.C_below HL.out.2.1 hb1) (And.intro (Kd.C_below HL.out.2.2.1 hb1) (Kd.C_below HL.out.2.2.2 hb1))))
  clear hVR hb1 HWC HD0 HT0 HB0 HG
  obtain ⟨⟨bs, er⟩, hbm⟩ : ∃ p, writeM l0 l1 l2 l3 = p := ⟨_, rfl⟩
  rw [hbm] at HV1 HBT HWR
  simp only [hbm]
  clear hbm m0 m1 m2 m3
  obtain ⟨⟨m0, m1, m2, m3⟩, _⟩ := facts4 HG1.out
  by_cases he : er = 0
  · subst he
    obtain ⟨ho, hr⟩ := HWR.out bs rfl
    have HRC := Aside0.mk (image_Read.calls B0 bs.length bs HBT.out w1 HTB.out (Nat.le_refl _) HV1.out)
    rw [hr] at HRC
    obtain ⟨k, hk⟩ := kModule l0 l1 l2 l3 ho
    have HKM := Aside0.mk hk
    clear ho hr hk HWR
    go_wp2_with fail
    refine HRC.out.mono ?_
    rintro e w2 ⟨v1, v2, v3, v4, rfl, hM, hb2⟩
    obtain ⟨E0, E1, E2, E3, rfl, rfl, rfl, rfl, hM0, hM1, hM2, hM3⟩ := hM.reads
    simp only at hM0 hM1 hM2 hM3
    have hbx := below_alloc (Below.refl w2.heap.size w2) (.cells #[.slice E0 l0.length l0.length, .slice E1 l1.length l1.length, .slice E2 l2.length l2.length, .slice E3 l3.length l3.length] 26)
    have hb3 := below_step hb2 hbx
    replace HBB := Aside0.mk (below_step HBB.out hb3)
    replace HTB := Aside0.mk (tab_below HTB.out hb3)
    replace HD := Aside0.mk (Kd.C_below HD.out hb3)
    have HG3 := Aside0.mk (blk_below HG1.out hb3)
    replace HL := Aside0.mk (And.intro (Kd.C_below HL.out.1 hb3) (And.intro (Kd.C_below HL.out.2.1 hb3) (And.intro (Kd.C_below HL.out.2.2.1 hb3) (Kd.C_below HL.out.2.2.2 hb3))))
    have HMC := Aside0.mk (louverkit_Module.calls k E0 l0.length l0 E1 l1.length l1 E2 l2.length l2 E3 l3.length l3 A0 c0 l0 A1 c1 l1 A2 c2 l2 A3 c3 l3 true (w2.alloc (.cells #[.slice E0 l0.length l0.length, .slice E1 l1.length l1.length, .slice E2 l2.length l2.length, .slice E3 l3.length l3.length] 26)) (Kd.C_below hM0 hbx) (Nat.le_refl _) (Kd.C_below hM1 hbx) (Nat.le_refl _) (Kd.C_below hM2 hbx) (Nat.le_refl _) (Kd.C_below hM3 hbx) (Nat.le_refl _) HL.out.1 HK.out.1 HL.out.2.1 HK.out.2.1 HL.out.2.2.1 HK.out.2.2.1 HL.out.2.2.2 HK.out.2.2.2 HKM.out)
    clear m0 m1 m2 m3 hM hM0 hM1 hM2 hM3 hb2 hbx hb3 HRC
    obtain ⟨⟨m0, m1, m2, m3⟩, _⟩ := facts4 HG3.out
    obtain ⟨⟨y0, y1, y2, y3⟩, _⟩ := facts4 (heap_alloc_new w2 (.cells #[.slice E0 l0.length l0.length, .slice E1 l1.length l1.length, .slice E2 l2.length l2.length, .slice E3 l3.length l3.length] 26))
    go_wp2_with fail
    refine HMC.out.mono ?_
    rintro e w3 ⟨rfl, hb3⟩
    replace HBB := Aside0.mk (below_step HBB.out hb3)
    replace HTB := Aside0.mk (tab_below HTB.out hb3)
    replace HD := Aside0.mk (Kd.C_below HD.out hb3)
    clear m0 m1 m2 m3 y0 y1 y2 y3 hb3 HMC
    go_wp2_with fail
    refine (image_Read.calls A c xs HXB.out _ HTB.out HXC.out HD.out).mono ?_
    rintro e w4 ⟨v1, v2, v3, v4, rfl, hM, hb4⟩
    obtain ⟨F0, F1, F2, F3, rfl, rfl, rfl, rfl, hM0, hM1, hM2, hM3⟩ := hM.reads
    have hwr := wfW_read HXB.out
    have HRM := Aside0.mk (show ∀ M f, readM xs = (M, f) → f = 0 → writeM M.1 M.2.1 M.2.2.1 M.2.2.2 = (xs, 0) from fun M f h hf => read_write HXB.out (by rw [h, hf]))
    obtain ⟨⟨⟨n0, n1, n2, n3⟩, f⟩, hrm⟩ : ∃ p, readM xs = p := ⟨_, rfl⟩
    rw [hrm] at hM0 hM1 hM2 hM3 hwr
    replace HRM := Aside0.mk (HRM.out _ _ hrm)
    simp only [hrm]
    clear hM hrm
    simp only at hM0 hM1 hM2 hM3 hwr
    have HN := Aside0.mk (And.intro hM0 (And.intro hM1 (And.intro hM2 hM3)))
    have HWN := Aside0.mk hwr
    have HB4 := Aside0.mk (below_step HBB.out hb4)
    have HT4 := Aside0.mk (tab_below HTB.out hb4)
    have HD4 := Aside0.mk (Kd.C_below HD.out hb4)
    clear hM0 hM1 hM2 hM3 hwr hb4 HD
    have hbx := below_alloc (Below.refl w4.heap.size w4) (.cells #[.slice F0 n0.length n0.length, .slice F1 n1.length n1.length, .slice F2 n2.length n2.length, .slice F3 n3.length n3.length] 26)
    have HB5 := Aside0.mk (below_step HB4.out hbx)
    have HT5 := Aside0.mk (tab_below HT4.out hbx)
    have HD5 := Aside0.mk (Kd.C_below HD4.out hbx)
    obtain ⟨⟨x0, x1, x2, x3⟩, _⟩ := facts4 (heap_alloc_new w4 (.cells #[.slice F0 n0.length n0.length, .slice F1 n1.length n1.length, .slice F2 n2.length n2.length, .slice F3 n3.length n3.length] 26))
    have HWC := Aside0.mk (image_Write.calls F0 F1 F2 F3 n0.length n1.length n2.length n3.length n0 n1 n2 n3 (w4.alloc (.cells #[.slice F0 n0.length n0.length, .slice F1 n1.length n1.length, .slice F2 n2.length n2.length, .slice F3 n3.length n3.length] 26)) HT5.out (Kd.C_below HN.out.1 hbx) (Kd.C_below HN.out.2.1 hbx) (Kd.C_below HN.out.2.2.1 hbx) (Kd.C_below HN.out.2.2.2 hbx) HWN.out)
    clear hbx
    go_wp2_with fail
    refine HWC.out.mono ?_
    rintro e w6 ⟨v, rfl, hV, hb6⟩
    obtain ⟨G0, gc, rfl, hVR⟩ := hV
    have HB6 := Aside0.mk (below_step HB5.out hb6)
    have HT6 := Aside0.mk (tab_below HT5.out hb6)
    have HD6 := Aside0.mk (Kd.C_below HD5.out hb6)
    have HV6 := Aside0.mk (Kd.R_reads' hVR).2.2
    clear hVR hb6 HWC
    obtain ⟨⟨bs2, er2⟩, hbm2⟩ : ∃ p, writeM n0 n1 n2 n3 = p := ⟨_, rfl⟩
    rw [hbm2] at HV6
    simp only [hbm2]
    replace HRM := Aside0.mk (show f = 0 → (bs2, er2) = (xs, 0) by rw [← hbm2]; exact HRM.out)
    clear hbm2
    by_cases hf : f = 0
    · have h2 := HRM.out hf
      injection h2 with h3 h4
      subst hf h3 h4
      go_wp2_with fail
      refine (louverkit_Bytes.calls (bs2.length + 1) G0 bs2.length bs2 A c bs2 true _ HV6.out (Nat.le_refl _) HD6.out HXC.out (by rw [Bytes_f _ _ _ (by have := HXL.out; omega) (by omega)]; simp)).mono ?_
      rintro e w7 ⟨rfl, hd⟩
      have hb7 := hd.below
      have HB7 := Aside0.mk (below_step HB6.out hb7)
      have HT7 := Aside0.mk (tab_below HT6.out hb7)
      clear hd hb7
      go_wp2_with fail
      refine (awake12.calls _ HT7.out).mono ?_
      rintro e w8 ⟨rfl, hb8⟩
      have HB8 := Aside0.mk (below_step HB7.out hb8)
      clear hb8
      go_wp2
      go_ret
      exact ⟨rfl, HB8.out⟩
    · have hfb : (f == 0) = false := by simpa using hf
      have hfc : (f != 0) = true := by simpa using hf
      clear HRM
      go_wp2_with fail
      refine (awake12.calls _ HT6.out).mono ?_
      rintro e w8 ⟨rfl, hb8⟩
      have HB8 := Aside0.mk (below_step HB6.out hb8)
      clear hb8
      go_wp2
      go_ret
      exact ⟨rfl, HB8.out⟩
  · have heb : (er == 0) = false := by simpa using he
    clear m0 m1 m2 m3
    go_wp2_with fail
    refine (image_Read.calls A c xs HXB.out _ HTB.out HXC.out HD.out).mono ?_
    rintro e w4 ⟨v1, v2, v3, v4, rfl, hM, hb4⟩
    obtain ⟨F0, F1, F2, F3, rfl, rfl, rfl, rfl, hM0, hM1, hM2, hM3⟩ := hM.reads
    have hwr := wfW_read HXB.out
    have HRM := Aside0.mk (show ∀ M f, readM xs = (M, f) → f = 0 → writeM M.1 M.2.1 M.2.2.1 M.2.2.2 = (xs, 0) from fun M f h hf => read_write HXB.out (by rw [h, hf]))
    obtain ⟨⟨⟨n0, n1, n2, n3⟩, f⟩, hrm⟩ : ∃ p, readM xs = p := ⟨_, rfl⟩
    rw [hrm] at hM0 hM1 hM2 hM3 hwr
    replace HRM := Aside0.mk (HRM.out _ _ hrm)
    simp only [hrm]
    clear hM hrm
    simp only at hM0 hM1 hM2 hM3 hwr
    have HN := Aside0.mk (And.intro hM0 (And.intro hM1 (And.intro hM2 hM3)))
    have HWN := Aside0.mk hwr
    have HB4 := Aside0.mk (below_step HBB.out hb4)
    have HT4 := Aside0.mk (tab_below HTB.out hb4)
    have HD4 := Aside0.mk (Kd.C_below HD.out hb4)
    clear hM0 hM1 hM2 hM3 hwr hb4 HD
    have hbx := below_alloc (Below.refl w4.heap.size w4) (.cells #[.slice F0 n0.length n0.length, .slice F1 n1.length n1.length, .slice F2 n2.length n2.length, .slice F3 n3.length n3.length] 26)
    have HB5 := Aside0.mk (below_step HB4.out hbx)
    have HT5 := Aside0.mk (tab_below HT4.out hbx)
    have HD5 := Aside0.mk (Kd.C_below HD4.out hbx)
    obtain ⟨⟨x0, x1, x2, x3⟩, _⟩ := facts4 (heap_alloc_new w4 (.cells #[.slice F0 n0.length n0.length, .slice F1 n1.length n1.length, .slice F2 n2.length n2.length, .slice F3 n3.length n3.length] 26))
    have HWC := Aside0.mk (image_Write.calls F0 F1 F2 F3 n0.length n1.length n2.length n3.length n0 n1 n2 n3 (w4.alloc (.cells #[.slice F0 n0.length n0.length, .slice F1 n1.length n1.length, .slice F2 n2.length n2.length, .slice F3 n3.length n3.length] 26)) HT5.out (Kd.C_below HN.out.1 hbx) (Kd.C_below HN.out.2.1 hbx) (Kd.C_below HN.out.2.2.1 hbx) (Kd.C_below HN.out.2.2.2 hbx) HWN.out)
    clear hbx
    go_wp2_with fail
    refine HWC.out.mono ?_
    rintro e w6 ⟨v, rfl, hV, hb6⟩
    obtain ⟨G0, gc, rfl, hVR⟩ := hV
    have HB6 := Aside0.mk (below_step HB5.out hb6)
    have HT6 := Aside0.mk (tab_below HT5.out hb6)
    have HD6 := Aside0.mk (Kd.C_below HD5.out hb6)
    have HV6 := Aside0.mk (Kd.R_reads' hVR).2.2
    clear hVR hb6 HWC
    obtain ⟨⟨bs2, er2⟩, hbm2⟩ : ∃ p, writeM n0 n1 n2 n3 = p := ⟨_, rfl⟩
    rw [hbm2] at HV6
    simp only [hbm2]
    replace HRM := Aside0.mk (show f = 0 → (bs2, er2) = (xs, 0) by rw [← hbm2]; exact HRM.out)
    clear hbm2
    by_cases hf : f = 0
    · have h2 := HRM.out hf
      injection h2 with h3 h4
      subst hf h3 h4
      go_wp2_with fail
      refine (louverkit_Bytes.calls (bs2.length + 1) G0 bs2.length bs2 A c bs2 true _ HV6.out (Nat.le_refl _) HD6.out HXC.out (by rw [Bytes_f _ _ _ (by have := HXL.out; omega) (by omega)]; simp)).mono ?_
      rintro e w7 ⟨rfl, hd⟩
      have hb7 := hd.below
      have HB7 := Aside0.mk (below_step HB6.out hb7)
      have HT7 := Aside0.mk (tab_below HT6.out hb7)
      clear hd hb7
      go_wp2_with fail
      refine (awake12.calls _ HT7.out).mono ?_
      rintro e w8 ⟨rfl, hb8⟩
      have HB8 := Aside0.mk (below_step HB7.out hb8)
      clear hb8
      go_wp2
      go_ret
      exact ⟨rfl, HB8.out⟩
    · have hfb : (f == 0) = false := by simpa using hf
      have hfc : (f != 0) = true := by simpa using hf
      clear HRM
      go_wp2_with fail
      refine (awake12.calls _ HT6.out).mono ?_
      rintro e w8 ⟨rfl, hb8⟩
      have HB8 := Aside0.mk (below_step HB6.out hb8)
      clear hb8
      go_wp2
      go_ret
      exact ⟨rfl, HB8.out⟩
theorem louverlaw12_ImageBack.walk (cs0 : Array Value) (z0 : List Int × List S38 × List Int × List S41) (a1 : Option Addr) (len1 cap1 : Nat) (z1 : List Int) (w : World) (w0 : kMod.K w z0 cs0.toList)
    (y0 : ((∀ y ∈ z0.1, (Lit.int .u64 y).wf = true) ∧ z0.1.length * 8 ≤ 140737488351232) ∧ ((∀ x ∈ z0.2.1, (Lit.int .i64 x.f0).wf = true ∧ (Lit.int .u64 x.f1).wf = true) ∧ z0.2.1.length * 16 ≤ 140737488351232) ∧ ((∀ y ∈ z0.2.2.1, (Lit.int .u64 y).wf = true) ∧ z0.2.2.1.length * 8 ≤ 140737488351232) ∧ ((∀ x ∈ z0.2.2.2, okFunc x) ∧ z0.2.2.2.length * 96 ≤ 140737488351232))
    (w1 : (a1 = none ∧ len1 = 0 ∧ cap1 = 0 ∧ z1 = []) ∨ ∃ x, a1 = some x ∧ len1 ≤ cap1 ∧ cap1 ≤ maxLen ∧ z1.length = cap1 ∧ (∀ i, i < z1.length → w.cell? (x.add i) = some (.int .u8 (z1.getD i 0))) ∧ ∀ n ∈ z1, (Lit.int .u8 n).wf = true) (y1 : len1 * 1 ≤ 140737488351232) (hL : laidMetH Tryd.prog Rows.imageBackRow.laid w) :
    Calls Tryd.prog 15 #[.agg cs0, .slice a1 len1 cap1] w fun e w' => e = .returned (.bool true) ∧ Below w.heap.size w w' := by
  obtain ⟨l0, l1, l2, l3⟩ := z0
  obtain ⟨_, _, e, ⟨A0, c0, rfl, h0, g0⟩, ⟨_, _, rfl, ⟨A1, c1, rfl, h1, g1⟩, ⟨_, _, rfl, ⟨A2, c2, rfl, h2, g2⟩, ⟨A3, c3, rfl, h3, g3⟩⟩⟩⟩ := w0
  obtain rfl : cs0 = #[.slice A0 l0.length c0, .slice A1 l1.length c1, .slice A2 l2.length c2, .slice A3 l3.length c3] := by
    apply Array.toList_inj.mp
    simpa using e
  obtain ⟨xs, rfl, hr1, hm1, hw1, hc1⟩ := ReadsInt.ofRowC w1
  obtain ⟨q1, q2⟩ := wf_open y0
  exact imageBack.calls A0 A1 A2 A3 c0 c1 c2 c3 l0 l1 l2 l3 a1 cap1 xs w (tab_of_laid hL) g0 h0 g1 h1 g2 h2 g3 h3 q1 q2 (Kd.C_of_reads (d := (0 : Int)) (h1 := fun _ => rfl) hr1) hc1 (bts_of_wf hw1) (by omega)
end Go.Proofs.YtgpdaihfjnihhaaDoor.PJ
