/- The law ImageTold: by hand, from its row's form. -/
import Derived.Test.YtgpdaihfjnihhaaDoorTPJx0
import Derived.Test.YtgpdaihfjnihhaaDoorTHandImgBack
namespace Go.Proofs.YtgpdaihfjnihhaaDoor.PJ
open Go.RowKit Go.Proofs.YtgpdaihfjnihhaaDoorW.PrintWords Go.Proofs.YtgpdaihfjnihhaaDoorW.PrintLast Go.Proofs.YtgpdaihfjnihhaaDoorW.PrintMore Go.Proofs.YtgpdaihfjnihhaaDoor.LebPure Go.Proofs.YtgpdaihfjnihhaaDoor.LebForm Go.Proofs.YtgpdaihfjnihhaaDoor.B64
set_option linter.unusedSimpArgs false
set_option linter.unusedVariables false
theorem lit_nil (W : World) (base : Nat) (h : base ≤ W.heap.size) : Kd.R (Kd.int .u8) 5 (W.alloc (.cells #[] 5)) base (fun k => base ≤ k) (.slice (some ⟨W.heap.size, 0, none⟩) 0 0) [] := by
  refine ⟨fun k hk => ?_, [], ?_, Reps.none _ _⟩
  · have : W.heap.size = k := by simpa [Value.ownBlock] using hk
    omega
  · have h2 := World.ownsRow_lit (base := base) (e := 5) (size := 1) W #[] 0 h (by decide) (by simp)
    exact h2
theorem writeM_btsT {gs : List Int} {arr : List S38} {chs : List Int} {fns : List S41} : Bts (writeM gs arr chs fns).1 := by
  unfold writeM
  split
  · exact fun x hx => by cases hx
  · split
    · exact fun x hx => by cases hx
    · exact Bts.append (bts_full _ _ _ _) (eightL_bts _)
theorem row_open {W : World} {base : Nat} {ok : Nat → Prop} {v : Value} {xs : List Int} (h : Kd.R (Kd.int .u8) 5 W base ok v xs) (q : Nat) (hq : q < xs.length) : ∃ g c, v = .slice (some ⟨g, 0, none⟩) xs.length c ∧ W.cell? ⟨g, q, none⟩ = some (.int .u8 xs[q]) ∧ W.frozen? ⟨g, q, none⟩ = false ∧ xs.length ≤ c ∧ base ≤ g ∧ g < W.heap.size := by
  obtain ⟨A, c, rfl⟩ := Kd.R_slice h
  obtain ⟨_, hc, hC⟩ := Kd.R_reads' h
  obtain ⟨ad, rfl, hcc⟩ := hC.2.2 (by omega)
  obtain ⟨g, rfl⟩ := Kd.R_head h
  obtain ⟨b0, b1, b2, t, ht, cells, hg⟩ := (Kd.R_bound h).1 g (by simp [Value.ownBlock])
  obtain ⟨cs, h1, h2, h3⟩ := hcc q xs[q] (List.getElem?_eq_getElem hq)
  obtain rfl : cs = [.int .u8 xs[q]] := h2
  have h4 := h3 0 _ rfl
  rw [add_plain] at h4
  replace h4 : W.cell? ⟨g, q * 1 + 0, none⟩ = some (.int .u8 xs[q]) := h4
  rw [show q * 1 + 0 = q by omega] at h4
  exact ⟨g, c, rfl, h4, blk_frozen hg q, hc, b1, b2⟩
theorem ofInt8 (x : BitVec 8) : BitVec.ofInt IntKind.u8.bits (x.toNat : Int) = x := by
  apply BitVec.eq_of_toNat_eq
  rw [BitVec.toNat_ofInt]
  have := x.isLt
  show ((x.toNat : Int) % 256).toNat = x.toNat
  omega
theorem xor_u8 (x y : BitVec 8) : Go.bits .xor .u8 (x.toNat : Int) (y.toNat : Int) = ((x ^^^ y).toNat : Int) := by
  unfold Go.bits
  rw [ofInt8, ofInt8]
  have := (x ^^^ y).isLt
  show ((x ^^^ y).toNat : Int) % 256 = _
  omega
theorem byte8 {b : Int} (h : 0 ≤ b ∧ b ≤ 255) : ∃ B : BitVec 8, b = (B.toNat : Int) := ⟨BitVec.ofNat 8 b.toNat, by rw [BitVec.toNat_ofNat]; omega⟩
theorem turn_xor {x t : Int} (hx : 0 ≤ x ∧ x ≤ 255) (ht : 0 ≤ t ∧ t ≤ 255) (hz : t ≠ 0) : (0 ≤ Go.bits .xor .u8 x t ∧ Go.bits .xor .u8 x t ≤ 255) ∧ x ≠ Go.bits .xor .u8 x t := by
  obtain ⟨X, rfl⟩ := byte8 hx
  obtain ⟨T, rfl⟩ := byte8 ht
  rw [xor_u8]
  have := (X ^^^ T).isLt
  refine ⟨by omega, fun h => hz ?_⟩
  have h2 : X = X ^^^ T := BitVec.eq_of_toNat_eq (by omega)
  have h3 : X ^^^ X = X ^^^ (X ^^^ T) := by rw [← h2]
  rw [← BitVec.xor_assoc, BitVec.xor_self, BitVec.zero_xor] at h3
  rw [← h3]
  rfl
theorem tmod_in (a : Int) (n : Nat) (hn : 0 < n) : -(n : Int) < a.tmod n ∧ a.tmod n < n := ⟨Int.lt_tmod_of_pos a (by omega), Int.tmod_lt_of_pos a (by omega)⟩
set_option maxHeartbeats 16000000 in
set_option maxRecDepth 100000 in
theorem imageTold.calls (A0 A1 A2 A3 : Option Addr) (c0 c1 c2 c3 : Nat) (l0 : List Int) (l1 : List S38) (l2 : List Int) (l3 : List S41) (a turn : Int) (w : World) (ht : Lib.TabIs Tryd.prog w "strings.asciiSpace" .u8 Lib.asciiSpaceTab)
    (h0 : Kd.C (Kd.int .u64) w A0 l0.length l0) (k0 : l0.length ≤ c0) (h1 : Kd.C k38 w A1 l1.length l1) (k1 : l1.length ≤ c1) (h2 : Kd.C (Kd.int .u64) w A2 l2.length l2) (k2 : l2.length ≤ c2) (h3 : Kd.C k41 w A3 l3.length l3) (k3 : l3.length ≤ c3) (hw : wfW l0 l1 l2 l3) (hm : wfMod (l0, l1, l2, l3))
    (ha : -9223372036854775808 ≤ a ∧ a ≤ 9223372036854775807) (htn : 0 ≤ turn ∧ turn ≤ 255) :
    Calls Tryd.prog 3 #[.agg #[.slice A0 l0.length c0, .slice A1 l1.length c1, .slice A2 l2.length c2, .slice A3 l3.length c3], .int .i64 a, .int .u8 turn] w fun e w' => e = .returned (.bool true) ∧ Below w.heap.size w w' := by
  have hbA := below_alloc (Below.refl w.heap.size w) (.cells #[.slice A0 l0.length c0, .slice A1 l1.length c1, .slice A2 l2.length c2, .slice A3 l3.length c3] 26)
  have HB0 := Aside0.mk hbA
  have HG := Aside0.mk (heap_alloc_new w (.cells #[.slice A0 l0.length c0, .slice A1 l1.length c1, .slice A2 l2.length c2, .slice A3 l3.length c3] 26))
  have HT0 := Aside0.mk (tab_below ht hbA)
  have HL := Aside0.mk (And.intro (Kd.C_below h0 hbA) (And.intro (Kd.C_below h1 hbA) (And.intro (Kd.C_below h2 hbA) (Kd.C_below h3 hbA))))
  have HTN := Aside0.mk (And.intro ha htn)
  have HWC := Aside0.mk (image_Write.calls A0 A1 A2 A3 c0 c1 c2 c3 l0 l1 l2 l3 (w.alloc (.cells #[.slice A0 l0.length c0, .slice A1 l1.length c1, .slice A2 l2.length c2, .slice A3 l3.length c3] 26)) HT0.out HL.out.1 HL.out.2.1 HL.out.2.2.1 HL.out.2.2.2 hw)
  have HBT := Aside0.mk (writeM_btsT (gs := l0) (arr := l1) (chs := l2) (fns := l3))
  have HWR := Aside0.mk (show ∀ b, writeM l0 l1 l2 l3 = (b, 0) → okMod (l0, l1, l2, l3) ∧ 0 < b.length ∧ b.length ≤ 262144 from fun b h => by
    obtain ⟨e1, e2, e3⟩ := writeM_ok h
    refine ⟨okMod_of hm e1, ?_, ?_⟩
    · rw [e3, List.length_append, eightL_length]
      omega
    · rw [e3, List.length_append, eightL_length]
      exact e2)
  obtain ⟨⟨m0, m1, m2, m3⟩, _⟩ := facts4 HG.out
  clear ht h0 k0 h1 k1 h2 k2 h3 k3 hw hm hbA ha htn
  go_enter Tryd.func3, Tryd.ntmps3
  go_wp2_with fail
  refine HWC.out.mono ?_
  rintro e w1 ⟨v, rfl, hV, hb1⟩
  obtain ⟨B0, bc, rfl, hVR⟩ := hV
  have HV1 := Aside0.mk (Kd.R_reads' hVR).2.2
  have HBB := Aside0.mk (below_step HB0.out hb1)
  have HTB := Aside0.mk (tab_below HT0.out hb1)
  clear hVR hb1 HWC HT0 HB0 HL m0 m1 m2 m3 HG
  obtain ⟨⟨bs, er⟩, hbm⟩ : ∃ p, writeM l0 l1 l2 l3 = p := ⟨_, rfl⟩
  rw [hbm] at HV1 HBT HWR
  have HBM := Aside0.mk hbm
  simp only [hbm]
  clear hbm
  by_cases he : er = 0
  case neg =>
    have heb : (er != 0) = true := by simpa using he
    go_wp2_with fail
    refine (awake12.calls _ (HTB.out)).mono ?_
    rintro e w8 ⟨rfl, hb8⟩
    have HB8 := Aside0.mk (below_step (HBB.out) hb8)
    clear hb8
    go_wp2
    go_ret
    exact ⟨rfl, HB8.out⟩
  subst he
  obtain ⟨ho, hn0, hn9⟩ := HWR.out bs rfl
  have HOK := Aside0.mk ho
  by_cases htz : turn = 0
  case pos =>
    subst htz
    go_wp2_with fail
    refine (awake12.calls _ (HTB.out)).mono ?_
    rintro e w8 ⟨rfl, hb8⟩
    have HB8 := Aside0.mk (below_step (HBB.out) hb8)
    clear hb8
    go_wp2
    go_ret
    exact ⟨rfl, HB8.out⟩
  have htb : (turn == 0) = false := by simpa using htz
  have HTZ := Aside0.mk htz
  have hnz : ¬ ((bs.length : Int) = 0) := by omega
  have HN9 := Aside0.mk (And.intro hn0 hn9)
  clear ho HWR hn0 hn9 htz
  go_wp2_with fail
  refine (awake12.calls _ HTB.out).mono ?_
  rintro e w2 ⟨rfl, hb2⟩
  have HV2 := Aside0.mk (Kd.C_below HV1.out hb2)
  have HB2 := Aside0.mk (below_step HBB.out hb2)
  have HT2 := Aside0.mk (tab_below HTB.out hb2)
  clear hb2 HV1
  have hti := tmod_in a bs.length HN9.out.1
  have hb2x := below_alloc (Below.refl w2.heap.size w2) (.cells #[] 5)
  have HLN := Aside0.mk (lit_nil w2 w2.heap.size (Nat.le_refl _))
  have HVN := Aside0.mk (Kd.C_below HV2.out hb2x)
  have HBX := Aside0.mk hb2x
  clear hb2x
  by_cases hr : a.tmod bs.length < 0
  case pos =>
    obtain ⟨q, hq⟩ : ∃ q : Nat, a.tmod bs.length + bs.length = (q : Int) := ⟨(a.tmod bs.length + bs.length).toNat, by omega⟩
    have hq2 : wrap64 (a.tmod bs.length + bs.length) = (q : Int) := by rw [hq]; unfold wrap64; have := HN9.out.2; omega
    have hqn : q < bs.length := by omega
    have hrb : decide (a.tmod bs.length < 0) = true := decide_eq_true hr
    clear hti hr hq
    have hqi : (q : Int) < (bs.length : Int) := by omega
    have HQN := Aside0.mk hqn
    go_wp2_with (first | ((with_reducible refine gate_builtin (b := .append) (xs := #[.tmp 44, .tmp 45]) rfl ?_); at_builtin; refine Kd.R_append_rows (Kd.int .u8) (w0 := w2) w2.heap.size rfl (.tmp 44) (.tmp 45) 27 5 (.int .u8 0) 1 rfl Tryd.underlying27 winfo8 rfl (by decide) (by omega) (.slice (some ⟨w2.heap.size, 0, none⟩) 0 0) [] bs B0 bs.length bs.length (fun k => w2.heap.size ≤ k) (fun _ => False) rfl rfl ?aO ?aR (fun _ _ h => h) (fun _ h => h.elim) ?aF ?aB ?aS ?aL ?_; (case aO => exact HLN.out); (case aR => exact HVN.out); (case aF => exact (fun k hk => Nat.le_trans HBX.out.size hk)); (case aB => exact HBX.out); (case aS => exact HBX.out.size); (case aL => have := HN9.out.2; simp; omega); intro v3 w3 ho hb hg hat; rw [List.nil_append] at ho; have HR3 := Aside0.mk ho; have HB3 := Aside0.mk hb; obtain ⟨g, c3, ev3, hcell, hfro, hc3, hg1, hg2⟩ := row_open ho q HQN.out; subst ev3; clear ho hb hg hat))
    have HRS := Aside0.mk (Kd.R_putn (enc := Value.int .u8) (h1 := fun _ => rfl) HR3.out (q : Int) (Go.bits .xor .u8 bs[q] turn))
    obtain ⟨X, hX⟩ : ∃ X, Go.bits .xor .u8 bs[q] turn = X := ⟨_, rfl⟩
    have htx := turn_xor (HBT.out _ (List.getElem_mem hqn)) HTN.out.2 HTZ.out
    rw [hX] at htx HRS
    rw [hX]
    obtain ⟨CS, hCS⟩ : ∃ CS, bs.set q X = CS := ⟨_, rfl⟩
    have hlen : CS.length = bs.length := by rw [← hCS, List.length_set]
    have hbC : Bts CS := by rw [← hCS]; intro y hy; rcases List.mem_or_eq_of_mem_set hy with h | h; exact HBT.out y h; rw [h]; exact htx.1
    have hRC : Kd.C (Kd.int .u8) (w3.setCell ⟨g, q, none⟩ (.int .u8 X)) (some ⟨g, 0, none⟩) CS.length CS := by rw [← hCS]; exact (Kd.R_reads' HRS.out).2.2
    have hb3 : Below w2.heap.size w2 (w3.setCell ⟨g, q, none⟩ (.int .u8 X)) := below_set HB3.out hg1
    have HB4 := Aside0.mk (below_step HB2.out hb3)
    have HT4 := Aside0.mk (tab_below HT2.out hb3)
    have HV4 := Aside0.mk (Kd.C_below HV2.out hb3)
    have HR1C := Aside0.mk (image_Read.calls (some ⟨g, 0, none⟩) c3 CS hbC _ HT4.out (by rw [hlen]; exact hc3) hRC)
    rw [hlen] at HR1C
    have HF1 := Aside0.mk (show (readM CS).2 ≠ 0 by rw [← hCS]; exact told_turned (m := (l0, l1, l2, l3)) HBT.out HBM.out q hqn X htx.1 htx.2)
    obtain ⟨⟨⟨p10, p11, p12, p13⟩, f1⟩, hp1⟩ : ∃ p, readM CS = p := ⟨_, rfl⟩
    rw [hp1] at HR1C HF1
    clear hp1
    clear hX htx hCS hlen hbC hRC hb3 HRS hcell hfro
    refine HR1C.out.mono ?_
    rintro e w5 ⟨v1, v2, v3, v4, rfl, hM, hb5⟩
    obtain ⟨E0, E1, E2, E3, rfl, rfl, rfl, rfl⟩ := hM.slices
    have HB5 := Aside0.mk (below_step HB4.out (below_step hb5 (below_alloc (Below.refl w5.heap.size w5) (.cells #[.slice E0 p10.length p10.length, .slice E1 p11.length p11.length, .slice E2 p12.length p12.length, .slice E3 p13.length p13.length] 26))))
    have HT5 := Aside0.mk (tab_below HT4.out (below_step hb5 (below_alloc (Below.refl w5.heap.size w5) (.cells #[.slice E0 p10.length p10.length, .slice E1 p11.length p11.length, .slice E2 p12.length p12.length, .slice E3 p13.length p13.length] 26))))
    have HV5 := Aside0.mk (Kd.C_below HV4.out (below_step hb5 (below_alloc (Below.refl w5.heap.size w5) (.cells #[.slice E0 p10.length p10.length, .slice E1 p11.length p11.length, .slice E2 p12.length p12.length, .slice E3 p13.length p13.length] 26))))
    obtain ⟨wa, hwa⟩ : ∃ wa, w5.alloc (.cells #[.slice E0 p10.length p10.length, .slice E1 p11.length p11.length, .slice E2 p12.length p12.length, .slice E3 p13.length p13.length] 26) = wa := ⟨_, rfl⟩
    rw [hwa] at HB5 HT5 HV5
    have hn1 : wrap64 ((bs.length : Int) - 1) = ((bs.length - 1 : Nat) : Int) := by have := HN9.out; unfold wrap64; omega
    obtain ⟨D, hD⟩ : ∃ D, bs.take (bs.length - 1) = D := ⟨_, rfl⟩
    obtain ⟨hcut, hcr, hcl⟩ := cut_take_int (P := Tryd.prog) (k := .u8) 27 5 Tryd.underlying27 winfo8 B0 bs.length bs D (bs.length - 1) (Nat.sub_le _ _) (Nat.le_refl _) hD
    have HR2C := Aside0.mk (image_Read.calls B0 bs.length D (by rw [← hD]; exact fun y hy => HBT.out y (List.mem_of_mem_take hy)) wa HT5.out hcl (hcr wa HV5.out))
    have HF2 := Aside0.mk (show (readM D).2 ≠ 0 by rw [← hD]; exact told_less (m := (l0, l1, l2, l3)) HOK.out HBT.out HBM.out)
    obtain ⟨⟨⟨p20, p21, p22, p23⟩, f2⟩, hp2⟩ : ∃ p, readM D = p := ⟨_, rfl⟩
    rw [hp2] at HR2C HF2
    clear hp2
    clear hD hcr hcl hM hb5
    go_wp2_with fail
    refine HR2C.out.mono ?_
    rintro e w6 ⟨v1, v2, v3, v4, rfl, hM, hb6⟩
    obtain ⟨G0, G1, G2, G3, rfl, rfl, rfl, rfl⟩ := hM.slices
    have HB6 := Aside0.mk (below_step HB5.out (below_step hb6 (below_alloc (Below.refl w6.heap.size w6) (.cells #[.slice G0 p20.length p20.length, .slice G1 p21.length p21.length, .slice G2 p22.length p22.length, .slice G3 p23.length p23.length] 26))))
    have HT6 := Aside0.mk (tab_below HT5.out (below_step hb6 (below_alloc (Below.refl w6.heap.size w6) (.cells #[.slice G0 p20.length p20.length, .slice G1 p21.length p21.length, .slice G2 p22.length p22.length, .slice G3 p23.length p23.length] 26))))
    have HV6 := Aside0.mk (Kd.C_below HV5.out (below_step hb6 (below_alloc (Below.refl w6.heap.size w6) (.cells #[.slice G0 p20.length p20.length, .slice G1 p21.length p21.length, .slice G2 p22.length p22.length, .slice G3 p23.length p23.length] 26))))
    obtain ⟨wb, hwb⟩ : ∃ wb, w6.alloc (.cells #[.slice G0 p20.length p20.length, .slice G1 p21.length p21.length, .slice G2 p22.length p22.length, .slice G3 p23.length p23.length] 26) = wb := ⟨_, rfl⟩
    rw [hwb] at HB6 HT6 HV6
    have hb6x := below_alloc (Below.refl wb.heap.size wb) (.cells #[] 5)
    have HLN2 := Aside0.mk (lit_nil wb wb.heap.size (Nat.le_refl _))
    have HVN2 := Aside0.mk (Kd.C_below HV6.out hb6x)
    have HBX2 := Aside0.mk hb6x
    clear hb6x hM hb6
    go_wp2_with (first | ((with_reducible refine gate_builtin (b := .append) (xs := #[.tmp 70, .tmp 71]) rfl ?_); at_builtin; refine Kd.R_append_rows (Kd.int .u8) (w0 := wb) wb.heap.size rfl (.tmp 70) (.tmp 71) 27 5 (.int .u8 0) 1 rfl Tryd.underlying27 winfo8 rfl (by decide) (by omega) (.slice (some ⟨wb.heap.size, 0, none⟩) 0 0) [] bs B0 bs.length bs.length (fun k => wb.heap.size ≤ k) (fun _ => False) rfl rfl ?aO ?aR (fun _ _ h => h) (fun _ h => h.elim) ?aF ?aB ?aS ?aL ?_; (case aO => exact HLN2.out); (case aR => exact HVN2.out); (case aF => exact (fun k hk => Nat.le_trans HBX2.out.size hk)); (case aB => exact HBX2.out); (case aS => exact HBX2.out.size); (case aL => have := HN9.out.2; simp; omega); intro v7 w7 ho hb hg hat; rw [List.nil_append] at ho; have HR7 := Aside0.mk ho; have HB7 := Aside0.mk hb; clear ho hb hg hat) | ((with_reducible refine gate_builtin (b := .append) (xs := #[.tmp 72, .tmp 74]) rfl ?_); at_builtin; refine Kd.R_append (Kd.int .u8) (w0 := wb) wb.heap.size rfl (.tmp 72) (.tmp 74) 27 5 (.int .u8 0) 1 rfl Tryd.underlying27 winfo8 rfl (by decide) (by omega) v7 bs turn [.int .u8 turn] (fun k => wb.heap.size ≤ k) (fun _ => False) rfl rfl ?aP (fun _ hk => hk.elim) ?aF ?aO ?aB ?aS ?aL ?_; (case aP => exact rfl); (case aB => exact HB7.out); (case aF => exact (fun k hk => Nat.le_trans HB7.out.size hk)); (case aO => exact HR7.out); (case aS => exact HB7.out.size); (case aL => have := HN9.out.2; omega); intro v8 w8 ho hb hg hat; obtain ⟨A8, c8, ev8⟩ := Kd.R_slice ho; subst ev8; have HR8 := Aside0.mk ho; have HB8 := Aside0.mk hb; clear ho hb hg hat))
    have HR3C := Aside0.mk (image_Read.calls A8 c8 (bs ++ [turn]) (Bts.append HBT.out (fun y hy => by rw [List.mem_singleton.1 hy]; exact HTN.out.2)) w8 (tab_below HT6.out HB8.out) (Kd.R_reads' HR8.out).2.1 (Kd.R_reads' HR8.out).2.2)
    rw [show (bs ++ [turn]).length = bs.length + 1 by simp] at HR3C
    have HF3 := Aside0.mk (show (readM (bs ++ [turn])).2 ≠ 0 from told_more (m := (l0, l1, l2, l3)) HOK.out HBT.out HBM.out turn)
    obtain ⟨⟨⟨p30, p31, p32, p33⟩, f3⟩, hp3⟩ : ∃ p, readM (bs ++ [turn]) = p := ⟨_, rfl⟩
    rw [hp3] at HR3C HF3
    clear hp3
    refine HR3C.out.mono ?_
    rintro e w9 ⟨v1, v2, v3, v4, rfl, hM, hb9⟩
    obtain ⟨I0, I1, I2, I3, rfl, rfl, rfl, rfl⟩ := hM.slices
    have HB9 := Aside0.mk (below_step (below_step HB6.out HB8.out) (below_step hb9 (below_alloc (Below.refl w9.heap.size w9) (.cells #[.slice I0 p30.length p30.length, .slice I1 p31.length p31.length, .slice I2 p32.length p32.length, .slice I3 p33.length p33.length] 26))))
    have e1 : (f1 != 0) = true := by simpa using HF1.out
    have e2 : (f2 != 0) = true := by simpa using HF2.out
    have e3 : (f3 != 0) = true := by simpa using HF3.out
    clear hM hb9
    go_wp2
    go_ret
    exact ⟨rfl, HB9.out⟩
  case neg =>
    obtain ⟨q, hq⟩ : ∃ q : Nat, a.tmod bs.length = (q : Int) := ⟨(a.tmod bs.length).toNat, by omega⟩
    have hqn : q < bs.length := by omega
    have hrb : decide ((q : Int) < 0) = false := decide_eq_false (by omega)
    clear hti hr
    have hqi : (q : Int) < (bs.length : Int) := by omega
    have HQN := Aside0.mk hqn
    go_wp2_with (first | ((with_reducible refine gate_builtin (b := .append) (xs := #[.tmp 44, .tmp 45]) rfl ?_); at_builtin; refine Kd.R_append_rows (Kd.int .u8) (w0 := w2) w2.heap.size rfl (.tmp 44) (.tmp 45) 27 5 (.int .u8 0) 1 rfl Tryd.underlying27 winfo8 rfl (by decide) (by omega) (.slice (some ⟨w2.heap.size, 0, none⟩) 0 0) [] bs B0 bs.length bs.length (fun k => w2.heap.size ≤ k) (fun _ => False) rfl rfl ?aO ?aR (fun _ _ h => h) (fun _ h => h.elim) ?aF ?aB ?aS ?aL ?_; (case aO => exact HLN.out); (case aR => exact HVN.out); (case aF => exact (fun k hk => Nat.le_trans HBX.out.size hk)); (case aB => exact HBX.out); (case aS => exact HBX.out.size); (case aL => have := HN9.out.2; simp; omega); intro v3 w3 ho hb hg hat; rw [List.nil_append] at ho; have HR3 := Aside0.mk ho; have HB3 := Aside0.mk hb; obtain ⟨g, c3, ev3, hcell, hfro, hc3, hg1, hg2⟩ := row_open ho q HQN.out; subst ev3; clear ho hb hg hat))
    have HRS := Aside0.mk (Kd.R_putn (enc := Value.int .u8) (h1 := fun _ => rfl) HR3.out (q : Int) (Go.bits .xor .u8 bs[q] turn))
    obtain ⟨X, hX⟩ : ∃ X, Go.bits .xor .u8 bs[q] turn = X := ⟨_, rfl⟩
    have htx := turn_xor (HBT.out _ (List.getElem_mem hqn)) HTN.out.2 HTZ.out
    rw [hX] at htx HRS
    rw [hX]
    obtain ⟨CS, hCS⟩ : ∃ CS, bs.set q X = CS := ⟨_, rfl⟩
    have hlen : CS.length = bs.length := by rw [← hCS, List.length_set]
    have hbC : Bts CS := by rw [← hCS]; intro y hy; rcases List.mem_or_eq_of_mem_set hy with h | h; exact HBT.out y h; rw [h]; exact htx.1
    have hRC : Kd.C (Kd.int .u8) (w3.setCell ⟨g, q, none⟩ (.int .u8 X)) (some ⟨g, 0, none⟩) CS.length CS := by rw [← hCS]; exact (Kd.R_reads' HRS.out).2.2
    have hb3 : Below w2.heap.size w2 (w3.setCell ⟨g, q, none⟩ (.int .u8 X)) := below_set HB3.out hg1
    have HB4 := Aside0.mk (below_step HB2.out hb3)
    have HT4 := Aside0.mk (tab_below HT2.out hb3)
    have HV4 := Aside0.mk (Kd.C_below HV2.out hb3)
    have HR1C := Aside0.mk (image_Read.calls (some ⟨g, 0, none⟩) c3 CS hbC _ HT4.out (by rw [hlen]; exact hc3) hRC)
    rw [hlen] at HR1C
    have HF1 := Aside0.mk (show (readM CS).2 ≠ 0 by rw [← hCS]; exact told_turned (m := (l0, l1, l2, l3)) HBT.out HBM.out q hqn X htx.1 htx.2)
    obtain ⟨⟨⟨p10, p11, p12, p13⟩, f1⟩, hp1⟩ : ∃ p, readM CS = p := ⟨_, rfl⟩
    rw [hp1] at HR1C HF1
    clear hp1
    clear hX htx hCS hlen hbC hRC hb3 HRS hcell hfro
    refine HR1C.out.mono ?_
    rintro e w5 ⟨v1, v2, v3, v4, rfl, hM, hb5⟩
    obtain ⟨E0, E1, E2, E3, rfl, rfl, rfl, rfl⟩ := hM.slices
    have HB5 := Aside0.mk (below_step HB4.out (below_step hb5 (below_alloc (Below.refl w5.heap.size w5) (.cells #[.slice E0 p10.length p10.length, .slice E1 p11.length p11.length, .slice E2 p12.length p12.length, .slice E3 p13.length p13.length] 26))))
    have HT5 := Aside0.mk (tab_below HT4.out (below_step hb5 (below_alloc (Below.refl w5.heap.size w5) (.cells #[.slice E0 p10.length p10.length, .slice E1 p11.length p11.length, .slice E2 p12.length p12.length, .slice E3 p13.length p13.length] 26))))
    have HV5 := Aside0.mk (Kd.C_below HV4.out (below_step hb5 (below_alloc (Below.refl w5.heap.size w5) (.cells #[.slice E0 p10.length p10.length, .slice E1 p11.length p11.length, .slice E2 p12.length p12.length, .slice E3 p13.length p13.length] 26))))
    obtain ⟨wa, hwa⟩ : ∃ wa, w5.alloc (.cells #[.slice E0 p10.length p10.length, .slice E1 p11.length p11.length, .slice E2 p12.length p12.length, .slice E3 p13.length p13.length] 26) = wa := ⟨_, rfl⟩
    rw [hwa] at HB5 HT5 HV5
    have hn1 : wrap64 ((bs.length : Int) - 1) = ((bs.length - 1 : Nat) : Int) := by have := HN9.out; unfold wrap64; omega
    obtain ⟨D, hD⟩ : ∃ D, bs.take (bs.length - 1) = D := ⟨_, rfl⟩
    obtain ⟨hcut, hcr, hcl⟩ := cut_take_int (P := Tryd.prog) (k := .u8) 27 5 Tryd.underlying27 winfo8 B0 bs.length bs D (bs.length - 1) (Nat.sub_le _ _) (Nat.le_refl _) hD
    have HR2C := Aside0.mk (image_Read.calls B0 bs.length D (by rw [← hD]; exact fun y hy => HBT.out y (List.mem_of_mem_take hy)) wa HT5.out hcl (hcr wa HV5.out))
    have HF2 := Aside0.mk (show (readM D).2 ≠ 0 by rw [← hD]; exact told_less (m := (l0, l1, l2, l3)) HOK.out HBT.out HBM.out)
    obtain ⟨⟨⟨p20, p21, p22, p23⟩, f2⟩, hp2⟩ : ∃ p, readM D = p := ⟨_, rfl⟩
    rw [hp2] at HR2C HF2
    clear hp2
    clear hD hcr hcl hM hb5
    go_wp2_with fail
    refine HR2C.out.mono ?_
    rintro e w6 ⟨v1, v2, v3, v4, rfl, hM, hb6⟩
    obtain ⟨G0, G1, G2, G3, rfl, rfl, rfl, rfl⟩ := hM.slices
    have HB6 := Aside0.mk (below_step HB5.out (below_step hb6 (below_alloc (Below.refl w6.heap.size w6) (.cells #[.slice G0 p20.length p20.length, .slice G1 p21.length p21.length, .slice G2 p22.length p22.length, .slice G3 p23.length p23.length] 26))))
    have HT6 := Aside0.mk (tab_below HT5.out (below_step hb6 (below_alloc (Below.refl w6.heap.size w6) (.cells #[.slice G0 p20.length p20.length, .slice G1 p21.length p21.length, .slice G2 p22.length p22.length, .slice G3 p23.length p23.length] 26))))
    have HV6 := Aside0.mk (Kd.C_below HV5.out (below_step hb6 (below_alloc (Below.refl w6.heap.size w6) (.cells #[.slice G0 p20.length p20.length, .slice G1 p21.length p21.length, .slice G2 p22.length p22.length, .slice G3 p23.length p23.length] 26))))
    obtain ⟨wb, hwb⟩ : ∃ wb, w6.alloc (.cells #[.slice G0 p20.length p20.length, .slice G1 p21.length p21.length, .slice G2 p22.length p22.length, .slice G3 p23.length p23.length] 26) = wb := ⟨_, rfl⟩
    rw [hwb] at HB6 HT6 HV6
    have hb6x := below_alloc (Below.refl wb.heap.size wb) (.cells #[] 5)
    have HLN2 := Aside0.mk (lit_nil wb wb.heap.size (Nat.le_refl _))
    have HVN2 := Aside0.mk (Kd.C_below HV6.out hb6x)
    have HBX2 := Aside0.mk hb6x
    clear hb6x hM hb6
    go_wp2_with (first | ((with_reducible refine gate_builtin (b := .append) (xs := #[.tmp 70, .tmp 71]) rfl ?_); at_builtin; refine Kd.R_append_rows (Kd.int .u8) (w0 := wb) wb.heap.size rfl (.tmp 70) (.tmp 71) 27 5 (.int .u8 0) 1 rfl Tryd.underlying27 winfo8 rfl (by decide) (by omega) (.slice (some ⟨wb.heap.size, 0, none⟩) 0 0) [] bs B0 bs.length bs.length (fun k => wb.heap.size ≤ k) (fun _ => False) rfl rfl ?aO ?aR (fun _ _ h => h) (fun _ h => h.elim) ?aF ?aB ?aS ?aL ?_; (case aO => exact HLN2.out); (case aR => exact HVN2.out); (case aF => exact (fun k hk => Nat.le_trans HBX2.out.size hk)); (case aB => exact HBX2.out); (case aS => exact HBX2.out.size); (case aL => have := HN9.out.2; simp; omega); intro v7 w7 ho hb hg hat; rw [List.nil_append] at ho; have HR7 := Aside0.mk ho; have HB7 := Aside0.mk hb; clear ho hb hg hat) | ((with_reducible refine gate_builtin (b := .append) (xs := #[.tmp 72, .tmp 74]) rfl ?_); at_builtin; refine Kd.R_append (Kd.int .u8) (w0 := wb) wb.heap.size rfl (.tmp 72) (.tmp 74) 27 5 (.int .u8 0) 1 rfl Tryd.underlying27 winfo8 rfl (by decide) (by omega) v7 bs turn [.int .u8 turn] (fun k => wb.heap.size ≤ k) (fun _ => False) rfl rfl ?aP (fun _ hk => hk.elim) ?aF ?aO ?aB ?aS ?aL ?_; (case aP => exact rfl); (case aB => exact HB7.out); (case aF => exact (fun k hk => Nat.le_trans HB7.out.size hk)); (case aO => exact HR7.out); (case aS => exact HB7.out.size); (case aL => have := HN9.out.2; omega); intro v8 w8 ho hb hg hat; obtain ⟨A8, c8, ev8⟩ := Kd.R_slice ho; subst ev8; have HR8 := Aside0.mk ho; have HB8 := Aside0.mk hb; clear ho hb hg hat))
    have HR3C := Aside0.mk (image_Read.calls A8 c8 (bs ++ [turn]) (Bts.append HBT.out (fun y hy => by rw [List.mem_singleton.1 hy]; exact HTN.out.2)) w8 (tab_below HT6.out HB8.out) (Kd.R_reads' HR8.out).2.1 (Kd.R_reads' HR8.out).2.2)
    rw [show (bs ++ [turn]).length = bs.length + 1 by simp] at HR3C
    have HF3 := Aside0.mk (show (readM (bs ++ [turn])).2 ≠ 0 from told_more (m := (l0, l1, l2, l3)) HOK.out HBT.out HBM.out turn)
    obtain ⟨⟨⟨p30, p31, p32, p33⟩, f3⟩, hp3⟩ : ∃ p, readM (bs ++ [turn]) = p := ⟨_, rfl⟩
    rw [hp3] at HR3C HF3
    clear hp3
    refine HR3C.out.mono ?_
    rintro e w9 ⟨v1, v2, v3, v4, rfl, hM, hb9⟩
    obtain ⟨I0, I1, I2, I3, rfl, rfl, rfl, rfl⟩ := hM.slices
    have HB9 := Aside0.mk (below_step (below_step HB6.out HB8.out) (below_step hb9 (below_alloc (Below.refl w9.heap.size w9) (.cells #[.slice I0 p30.length p30.length, .slice I1 p31.length p31.length, .slice I2 p32.length p32.length, .slice I3 p33.length p33.length] 26))))
    have e1 : (f1 != 0) = true := by simpa using HF1.out
    have e2 : (f2 != 0) = true := by simpa using HF2.out
    have e3 : (f3 != 0) = true := by simpa using HF3.out
    clear hM hb9
    go_wp2
    go_ret
    exact ⟨rfl, HB9.out⟩
theorem louverlaw12_ImageTold.walk (cs0 : Array Value) (z0 : List Int × List S38 × List Int × List S41) (a1 a2 : Int) (w : World) (w0 : kMod.K w z0 cs0.toList)
    (y0 : ((∀ y ∈ z0.1, (Lit.int .u64 y).wf = true) ∧ z0.1.length * 8 ≤ 140737488351232) ∧ ((∀ x ∈ z0.2.1, (Lit.int .i64 x.f0).wf = true ∧ (Lit.int .u64 x.f1).wf = true) ∧ z0.2.1.length * 16 ≤ 140737488351232) ∧ ((∀ y ∈ z0.2.2.1, (Lit.int .u64 y).wf = true) ∧ z0.2.2.1.length * 8 ≤ 140737488351232) ∧ ((∀ x ∈ z0.2.2.2, okFunc x) ∧ z0.2.2.2.length * 96 ≤ 140737488351232)) (w1 : (Lit.int .i64 a1).wf = true) (w2 : (Lit.int .u8 a2).wf = true) (hL : laidMetH Tryd.prog Rows.imageToldRow.laid w) :
    Calls Tryd.prog 3 #[.agg cs0, .int .i64 a1, .int .u8 a2] w fun e w' => e = .returned (.bool true) ∧ Below w.heap.size w w' := by
  obtain ⟨l0, l1, l2, l3⟩ := z0
  obtain ⟨_, _, e, ⟨A0, c0, rfl, h0, g0⟩, ⟨_, _, rfl, ⟨A1, c1, rfl, h1, g1⟩, ⟨_, _, rfl, ⟨A2, c2, rfl, h2, g2⟩, ⟨A3, c3, rfl, h3, g3⟩⟩⟩⟩ := w0
  obtain rfl : cs0 = #[.slice A0 l0.length c0, .slice A1 l1.length c1, .slice A2 l2.length c2, .slice A3 l3.length c3] := by
    apply Array.toList_inj.mp
    simpa using e
  obtain ⟨q1, q2⟩ := wf_open y0
  exact imageTold.calls A0 A1 A2 A3 c0 c1 c2 c3 l0 l1 l2 l3 a1 a2 w (tab_of_laid hL) g0 h0 g1 h1 g2 h2 g3 h3 q1 q2 (wf_i64 w1) (wf_u8 w2)
end Go.Proofs.YtgpdaihfjnihhaaDoor.PJ
