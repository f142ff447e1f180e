/- The walk of the law LebPuts: forms behind lent bytes, twice over, apart from each other and from the bytes. -/
import Derived.Test.YtgpdaihfjnihhaaHandApart
import Derived.Test.YtgpdaihfjnihhaaHandLent
import Derived.Test.YtgpdaihfjnihhaaPutC
import Derived.Test.YtgpdaihfjnihhaaLebGetS
namespace Go.Proofs.Ytgpdaihfjnihhaa.PJ
open Go.RowKit Go.Proofs.YtgpdaihfjnihhaaW.PrintWords Go.Proofs.YtgpdaihfjnihhaaW.PrintLast Go.Proofs.YtgpdaihfjnihhaaW.PrintMore
set_option linter.unusedSimpArgs false
set_option linter.unusedVariables false
def sel3 {α : Type} (a b c : α) : Nat → α
  | 0 => a
  | 1 => b
  | _ => c
theorem clipped_in {W w : World} {v : Value} {l : List Int} (h : Clipped W w.heap.size v l) : ∃ A c, v = .slice A l.length l.length ∧ Kd.R (Kd.int .u8) 5 W 0 (fun k => w.heap.size ≤ k ∧ k < W.heap.size) (.slice A l.length c) l := by
  obtain ⟨A, c, rfl, hR⟩ := h
  exact ⟨A, c, rfl, Kd.R_lower (Kd.R_mono (Kd.R_bound hR) (fun k hk => ⟨hk.1, hk.2.2.1⟩)) (Nat.zero_le _)⟩
set_option maxHeartbeats 16000000 in
set_option maxRecDepth 100000 in
theorem lebPuts.calls (k : Nat) (n m : Int) (p q P Q : List Int) (A0 : Option Addr) (c0 : Nat) (l0 : List Int) (w : World) (hr0 : Kd.C (Kd.int .u8) w A0 l0.length l0) (hc0 : l0.length ≤ c0) (hl : l0.length ≤ 140737488351232) (hpn : p.length ≤ 10) (hqn : q.length ≤ 10)
    (hP : l0 ++ p = P) (hQ : l0 ++ q = Q) (h1 : leb_Put.f k l0 n = some P) (h2 : leb_PutSigned.f k l0 m = some Q) (h3 : louverref03_Put.f k n = some p) (h4 : louverref03_PutSigned.f k m = some q) (h5 : louverkit_Bytes.f k P P = some true) (h6 : louverkit_Bytes.f k Q Q = some true)
    (h7 : leb_Size.f k n = some (p.length : Int)) (h8 : leb_SizeSigned.f k m = some (q.length : Int)) (h9 : louverkit_Bytes.f k l0 l0 = some true) (h10 : louverlaw03_awake.f k = some true) :
    Calls Try.prog 3 #[.slice A0 l0.length c0, .int .u64 n, .int .i64 m] w fun e w' => e = .returned (.bool true) ∧ Below w.heap.size w w' := by
  have HR0 := Aside0.mk hr0
  have HC0 := Aside0.mk hc0
  have HL := Aside0.mk hl
  have HPN := Aside0.mk hpn
  have HQN := Aside0.mk hqn
  have HP := Aside0.mk hP
  have HQ := Aside0.mk hQ
  have HPL := Aside0.mk (show P.length = l0.length + p.length by rw [← hP, List.length_append])
  have HQL := Aside0.mk (show Q.length = l0.length + q.length by rw [← hQ, List.length_append])
  have H1 := Aside0.mk h1
  have H2 := Aside0.mk h2
  have H3 := Aside0.mk h3
  have H4 := Aside0.mk h4
  have H5 := Aside0.mk h5
  have H6 := Aside0.mk h6
  have H7 := Aside0.mk h7
  have H8 := Aside0.mk h8
  have H9 := Aside0.mk h9
  have H10 := Aside0.mk h10
  clear hr0 hc0 hl hpn hqn hP hQ h1 h2 h3 h4 h5 h6 h7 h8 h9 h10
  go_enter Try.func3, Try.ntmps3
  go_wp2_with fail
  refine (louverkit_LentBytes.calls _ _ l0 w HR0.out (by have := HL.out; omega)).mono ?_
  rintro e w1 ⟨v, rfl, hL, hb⟩
  obtain ⟨ad, c, rfl, hcap, hC, _⟩ := hL.reads
  have HLent := Aside0.mk hL
  have HC := Aside0.mk hC
  have HCAP := Aside0.mk (show l0.length ≤ c by omega)
  have HB0 := Aside0.mk hb
  clear hL hC hcap hb
  go_wp2_with fail
  refine (leb_Put.callsC k _ _ l0 n P _ HC.out HCAP.out H1.out).mono ?_
  rintro e w2 ⟨vx, rfl, hX, hb⟩
  obtain ⟨Ax, cx, rfl, hXr⟩ := clipped_in hX
  have HX := Aside0.mk hXr
  have HB1 := Aside0.mk hb
  clear hX hXr hb
  go_wp2_with fail
  refine (leb_PutSigned.callsC k _ _ l0 m Q _ (Kd.C_below HC.out HB1.out) HCAP.out H2.out).mono ?_
  rintro e w3 ⟨vy, rfl, hY, hb⟩
  obtain ⟨Ay, cy, rfl, hYr⟩ := clipped_in hY
  have HY := Aside0.mk hYr
  have HB2 := Aside0.mk hb
  clear hY hYr hb
  go_wp2_with fail
  refine (leb_Put.callsC k _ _ l0 n P _ (Kd.C_below HC.out (below_step HB1.out HB2.out)) HCAP.out H1.out).mono ?_
  rintro e w4 ⟨vz, rfl, hZ, hb⟩
  obtain ⟨Az, cz, rfl, hZr⟩ := clipped_in hZ
  have HZ := Aside0.mk hZr
  have HB3 := Aside0.mk hb
  clear hZ hZr hb
  have HB4 := Aside0.mk (Below.refl w4.heap.size w4)
  have HR4 := Aside0.mk (Kd.C_below HR0.out (below_step (below_step (below_step HB0.out HB1.out) HB2.out) HB3.out))
  go_wp2_with fail
  refine (louverref03_Put.calls k n p _ H3.out).mono ?_
  rintro e w5 ⟨vp, rfl, hp, hb⟩
  obtain ⟨Ap, cp, rfl, hcp, hCp⟩ := Kd.R_reads hp
  have HCP := Aside0.mk hCp
  have HB5 := Aside0.mk (below_step HB4.out hb)
  clear hp hb hcp hCp
  go_wp2_with fail
  refine (louverref03_PutSigned.calls k m q _ H4.out).mono ?_
  rintro e w6 ⟨vq, rfl, hq, hb⟩
  obtain ⟨Aq, cq, rfl, hcq, hCq⟩ := Kd.R_reads hq
  have HCQ := Aside0.mk hCq
  replace HCP := Aside0.mk (Kd.C_below HCP.out hb)
  have HB := Aside0.mk (below_step HB5.out hb)
  clear hq hb hcq hCq HB4 HB5
  have HR6 := Aside0.mk (Kd.C_below HR4.out HB.out)
  have HB46 := Aside0.mk HB.out
  clear HB
  have HB := Aside0.mk (Below.refl w6.heap.size w6)
  go_wp2_with (first | ((with_reducible refine gate_builtin (b := .append) (xs := #[.tmp 30, .tmp 31]) rfl ?_); at_builtin; refine Kd.R_append_rows (Kd.int .u8) (w0 := w6) w6.heap.size rfl (.tmp 30) (.tmp 31) 22 5 (.int .u8 0) 1 rfl Try.underlying22 info5 rfl (by decide) (by omega) (.slice none 0 0) ([] : List Int) l0 _ _ _ (fun k => w6.heap.size ≤ k) (fun _ => False) rfl rfl ?aO ?aR (fun _ _ h => h) (fun _ h => h.elim) ?aF ?aB ?aS ?aL ?_; (case aR => exact Kd.C_below HR6.out HB.out); (case aB => exact HB.out); (case aF => exact (fun k hk => Nat.le_trans HB.out.size hk)); (case aO => exact Kd.R_nil _ _ _ _ _); (case aS => exact (below_size HB.out)); (case aL => have := HL.out; have := HPN.out; have := HQN.out; have := HPL.out; have := HQL.out; (try simp only [List.length_nil]); omega); intro v1 w7 ho hb hg hat; rw [List.nil_append] at ho; have HW1 := Aside0.mk ho; clear HB; have HB := Aside0.mk hb; clear ho hb hg hat) | ((with_reducible refine gate_builtin (b := .append) (xs := #[.tmp 33, .tmp 34]) rfl ?_); at_builtin; refine Kd.R_append_rows (Kd.int .u8) (w0 := w6) w6.heap.size rfl (.tmp 33) (.tmp 34) 22 5 (.int .u8 0) 1 rfl Try.underlying22 info5 rfl (by decide) (by omega) v1 l0 p _ _ _ (fun k => w6.heap.size ≤ k) (fun _ => False) rfl rfl ?aO ?aR (fun _ _ h => h) (fun _ h => h.elim) ?aF ?aB ?aS ?aL ?_; (case aR => exact Kd.C_below HCP.out HB.out); (case aB => exact HB.out); (case aF => exact (fun k hk => Nat.le_trans HB.out.size hk)); (case aO => exact HW1.out); (case aS => exact (below_size HB.out)); (case aL => have := HL.out; have := HPN.out; have := HQN.out; have := HPL.out; have := HQL.out; (try simp only [List.length_nil]); omega); intro v2 w8 ho hb hg hat; rw [HP.out] at ho; obtain ⟨Aw, cw, rfl, hcw, hCW⟩ := Kd.R_reads ho; have HCW := Aside0.mk hCW; have HCWc := Aside0.mk hcw; have HB8 := Aside0.mk hb; clear HB HW1; have HB := Aside0.mk (Below.refl w8.heap.size w8); clear ho hb hg hat hcw hCW) | ((with_reducible refine gate_builtin (b := .append) (xs := #[.tmp 36, .tmp 37]) rfl ?_); at_builtin; refine Kd.R_append_rows (Kd.int .u8) (w0 := w8) w8.heap.size rfl (.tmp 36) (.tmp 37) 22 5 (.int .u8 0) 1 rfl Try.underlying22 info5 rfl (by decide) (by omega) (.slice none 0 0) ([] : List Int) l0 _ _ _ (fun k => w8.heap.size ≤ k) (fun _ => False) rfl rfl ?aO ?aR (fun _ _ h => h) (fun _ h => h.elim) ?aF ?aB ?aS ?aL ?_; (case aR => exact Kd.C_below (Kd.C_below HR6.out HB8.out) HB.out); (case aB => exact HB.out); (case aF => exact (fun k hk => Nat.le_trans HB.out.size hk)); (case aO => exact Kd.R_nil _ _ _ _ _); (case aS => exact (below_size HB.out)); (case aL => have := HL.out; have := HPN.out; have := HQN.out; have := HPL.out; have := HQL.out; (try simp only [List.length_nil]); omega); intro v3 w9 ho hb hg hat; rw [List.nil_append] at ho; have HW1 := Aside0.mk ho; clear HB; have HB := Aside0.mk hb; clear ho hb hg hat) | ((with_reducible refine gate_builtin (b := .append) (xs := #[.tmp 39, .tmp 40]) rfl ?_); at_builtin; refine Kd.R_append_rows (Kd.int .u8) (w0 := w8) w8.heap.size rfl (.tmp 39) (.tmp 40) 22 5 (.int .u8 0) 1 rfl Try.underlying22 info5 rfl (by decide) (by omega) v3 l0 q _ _ _ (fun k => w8.heap.size ≤ k) (fun _ => False) rfl rfl ?aO ?aR (fun _ _ h => h) (fun _ h => h.elim) ?aF ?aB ?aS ?aL ?_; (case aR => exact Kd.C_below (Kd.C_below HCQ.out HB8.out) HB.out); (case aB => exact HB.out); (case aF => exact (fun k hk => Nat.le_trans HB.out.size hk)); (case aO => exact HW1.out); (case aS => exact (below_size HB.out)); (case aL => have := HL.out; have := HPN.out; have := HQN.out; have := HPL.out; have := HQL.out; (try simp only [List.length_nil]); omega); intro v4 w10 ho hb hg hat; rw [HQ.out] at ho; obtain ⟨Ao, co, rfl, hco, hCO⟩ := Kd.R_reads ho; have HCO := Aside0.mk hCO; have HCOc := Aside0.mk hco; have HB10 := Aside0.mk hb; clear HB HW1; clear ho hb hg hat hco hCO))
  have HB410 := Aside0.mk (below_step (below_step HB46.out HB8.out) HB10.out)
  have HXa := Aside0.mk (Kd.R_below HX.out (below_step (below_step HB2.out HB3.out) HB410.out))
  have HYa := Aside0.mk (Kd.R_below HY.out (below_step HB3.out HB410.out))
  have HZa := Aside0.mk (Kd.R_below HZ.out HB410.out)
  have HB110 := Aside0.mk (below_step (below_step (below_step HB1.out HB2.out) HB3.out) HB410.out)
  have HWa := Aside0.mk (Kd.C_below HCW.out HB10.out)
  have HRa := Aside0.mk (Kd.C_below HR0.out (below_step HB0.out HB110.out))
  have S2 := Aside0.mk (show w1.heap.size ≤ w2.heap.size ∧ w2.heap.size ≤ w3.heap.size ∧ w3.heap.size ≤ w4.heap.size ∧ w4.heap.size ≤ w10.heap.size from ⟨below_size HB1.out, below_size HB2.out, below_size HB3.out, below_size HB410.out⟩)
  have HR0' := Aside0.mk HR0.out
  clear HB46 HB8 HB10 HB410 HCP HCQ HR6 HR4 HX HY HZ HCW HB1 HB2 HB3 HC HR0
  refine (louverkit_Bytes.calls k _ _ P _ _ P true _ ?b1 (Nat.le_refl _) HWa.out HCWc.out H5.out).mono ?_
  case b1 => obtain ⟨_, _, h⟩ := Kd.R_reads' HXa.out; exact h
  rintro e w11 ⟨rfl, ⟨n1, rfl⟩⟩
  go_wp2_with fail
  refine (louverkit_Bytes.calls k _ _ Q _ _ Q true _ ?b1 (Nat.le_refl _) (Kd.C_drewN HCO.out _) HCOc.out H6.out).mono ?_
  case b1 => obtain ⟨_, _, h⟩ := Kd.R_reads' HYa.out; exact Kd.C_drewN h _
  rintro e w11 ⟨rfl, ⟨n2, rfl⟩⟩
  go_wp2_with fail
  refine (louverkit_Bytes.calls k _ _ P _ _ P true _ ?b1 (Nat.le_refl _) (Kd.C_drewN HWa.out _) HCWc.out H5.out).mono ?_
  case b1 => obtain ⟨_, _, h⟩ := Kd.R_reads' HZa.out; exact Kd.C_drewN h _
  rintro e w11 ⟨rfl, ⟨n3, rfl⟩⟩
  go_wp2_with fail
  refine (leb_Size.calls k n _ _ H7.out).mono ?_
  rintro e w11 ⟨rfl, hb⟩
  have HB11 := Aside0.mk (below_step (pw_below_drewN (Below.refl w10.heap.size w10) _) hb)
  clear hb
  go_wp2_with fail
  refine (leb_SizeSigned.calls k m _ _ H8.out).mono ?_
  rintro e w12 ⟨rfl, hb⟩
  have HB12 := Aside0.mk (below_step HB11.out hb)
  clear hb HB11
  go_wp2_with fail
  refine (louverkit_KeptBytes.calls k _ l0 _ _ _ l0 _ (HLent.out.below (below_step HB110.out HB12.out)) (Kd.C_below HRa.out HB12.out) HC0.out (by have := HL.out; omega) H9.out).mono ?_
  rintro e w13 ⟨rfl, ⟨n4, rfl⟩⟩
  go_wp2_with fail
  have HB13 := Aside0.mk (pw_below_drewN HB12.out n4)
  clear HB12
  have HLent13 := Aside0.mk (HLent.out.below (below_step HB110.out HB13.out))
  refine (apartBytes.calls 3 (sel3 Ax Ay Az) (sel3 P.length Q.length P.length) (sel3 cx cy cz) (sel3 (fun k => w1.heap.size ≤ k ∧ k < w2.heap.size) (fun k => w2.heap.size ≤ k ∧ k < w3.heap.size) (fun k => w3.heap.size ≤ k ∧ k < w4.heap.size)) (sel3 P Q P) _ _ _ (by decide) ?g1 ?g2 ?g3 ?g4 ?g5 ?g6).mono ?_
  case g1 =>
    have := HL.out; have := HPN.out; have := HQN.out; have := HPL.out; have := HQL.out
    intro i hi
    match i, hi with
    | 0, _ => show P.length + 80 ≤ _; omega
    | 1, _ => show Q.length + 80 ≤ _; omega
    | 2, _ => show P.length + 80 ≤ _; omega
  case g2 =>
    intro i hi
    rw [add_plain]
    refine (blk_cell (heap_alloc_new (w12.drewN n4) _) i).trans ?_
    match i, hi with
    | 0, _ => rfl
    | 1, _ => rfl
    | 2, _ => rfl
  case g3 =>
    intro i
    rw [add_plain]
  case g4 =>
    refine ⟨fun i hi => ?_, fun i hi => ?_⟩
    · match i, hi with
      | 0, _ => rfl
      | 1, _ => rfl
      | 2, _ => rfl
    · match i, hi with
      | 0, _ => exact Kd.R_below HXa.out (below_alloc HB13.out _)
      | 1, _ => exact Kd.R_below HYa.out (below_alloc HB13.out _)
      | 2, _ => exact Kd.R_below HZa.out (below_alloc HB13.out _)
  case g5 =>
    intro i j k hi hj h1 h2
    match i, j, hi, hj, h1, h2 with
    | 0, 0, _, _, _, _ => rfl
    | 1, 1, _, _, _, _ => rfl
    | 2, 2, _, _, _, _ => rfl
    | 0, 1, _, _, h1, h2 => exact absurd (Nat.lt_of_lt_of_le h1.2 h2.1) (Nat.lt_irrefl _)
    | 1, 0, _, _, h1, h2 => exact absurd (Nat.lt_of_lt_of_le h2.2 h1.1) (Nat.lt_irrefl _)
    | 1, 2, _, _, h1, h2 => exact absurd (Nat.lt_of_lt_of_le h1.2 h2.1) (Nat.lt_irrefl _)
    | 2, 1, _, _, h1, h2 => exact absurd (Nat.lt_of_lt_of_le h2.2 h1.1) (Nat.lt_irrefl _)
    | 0, 2, _, _, h1, h2 => exact absurd (Nat.lt_of_lt_of_le h1.2 (Nat.le_trans S2.out.2.1 h2.1)) (Nat.lt_irrefl _)
    | 2, 0, _, _, h1, h2 => exact absurd (Nat.lt_of_lt_of_le h2.2 (Nat.le_trans S2.out.2.1 h1.1)) (Nat.lt_irrefl _)
  case g6 =>
    have hS := S2.out
    have hs13 := below_size HB13.out
    intro i hi h
    match i, hi, h with
    | 0, _, h => have := h.2; simp at this hs13; omega
    | 1, _, h => have := h.2; simp at this hs13; omega
    | 2, _, h => have := h.2; simp at this hs13; omega
  rintro e w14 ⟨rfl, hw⟩
  have HBa := Aside0.mk (hw.toBelow w1.heap.size (by have := S2.out; have := below_size HB13.out; simp at *; omega) (by
    have hS := S2.out
    rintro k ⟨i, hi, h⟩
    match i, hi, h with
    | 0, _, h => exact h.1
    | 1, _, h => have := h.1; omega
    | 2, _, h => have := h.1; omega))
  clear hw
  have HB114 := Aside0.mk (Below.trans (below_step HB110.out (below_alloc HB13.out (.cells #[.slice Ax P.length P.length, .slice Ay Q.length Q.length, .slice Az P.length P.length] 22))) HBa.out)
  clear HBa
  go_wp2_with fail
  refine (louverkit_KeptBytes.calls k _ l0 _ _ _ l0 _ (HLent.out.below HB114.out) (Kd.C_below HR0'.out (below_step HB0.out HB114.out)) HC0.out (by have := HL.out; omega) H9.out).mono ?_
  rintro e w15 ⟨rfl, ⟨n5, rfl⟩⟩
  go_wp2_with fail
  refine (louverlaw03_awake.calls k _ _ H10.out).mono ?_
  rintro e w16 ⟨rfl, hb⟩
  go_wp2_with fail
  go_ret
  exact ⟨rfl, below_step (pw_below_drewN (below_step HB0.out HB114.out) _) hb⟩
end Go.Proofs.Ytgpdaihfjnihhaa.PJ
