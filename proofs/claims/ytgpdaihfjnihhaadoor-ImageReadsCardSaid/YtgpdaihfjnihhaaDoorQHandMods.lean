/- louverkit.Modules: the walk. -/
import Derived.Test.YtgpdaihfjnihhaaDoorQHandModsB
namespace Go.Proofs.YtgpdaihfjnihhaaDoor.PJ
open Go.RowKit Go.Proofs.YtgpdaihfjnihhaaDoorW.PrintWords Go.Proofs.YtgpdaihfjnihhaaDoorW.PrintLast Go.Proofs.YtgpdaihfjnihhaaDoorW.PrintMore Go.Proofs.YtgpdaihfjnihhaaDoor.LebPure Go.Proofs.YtgpdaihfjnihhaaDoor.LebForm Go.Proofs.YtgpdaihfjnihhaaDoor.B64
set_option linter.unusedSimpArgs false
set_option linter.unusedVariables false
theorem apartCode_nil (A : Option Addr) (c : Nat) (w : World) : Calls Tryd.prog 91 #[.slice A 0 c] w fun e w' => e = .returned (.bool true) ∧ w' = w := by
 go_enter Tryd.func91, Tryd.ntmps91
 go_wp2
 refine wp_loop_rounds 1 ?_
 rw [rounds_succ]
 go_wp2
 refine wp_loop_rounds 1 ?_
 rw [rounds_succ]
 go_wp2
 refine wp_loop_rounds 1 ?_
 rw [rounds_succ]
 go_wp2
 go_ret
 exact ⟨rfl, rfl⟩
theorem row_cells {T base n c : Nat} {W : World} {ok : Nat → Prop} {A : Option Addr} {rs : List RD} (h : Kd.R (Kd.raw 1) T W base ok (.slice A n c) (rs.map rowV)) (hn : n = rs.length) (hp : 0 < rs.length) :
  ∃ g, A = some ⟨g, 0, none⟩ ∧ base ≤ g ∧ ∀ j, j < rs.length → W.cell? ((⟨g, 0, none⟩ : Addr).add j) = some (.slice (rs.getD j rd0).A (rs.getD j rd0).n (rs.getD j rd0).n) := by
 subst hn
 obtain ⟨h1, _, h2⟩ := Kd.R_reads' h
 obtain ⟨ad, ea, hcc⟩ := h2.2.2 (by rw [List.length_map]; exact hp)
 subst ea
 obtain ⟨g, rfl⟩ := Kd.R_head h
 obtain ⟨inner, ho⟩ := Kd.R_own h
 refine ⟨g, rfl, own_base ho g rfl, fun j hj => ?_⟩
 obtain ⟨c2, _, hK, hcell⟩ := hcc j (rowV rs[j]) (by rw [List.getElem?_map, List.getElem?_eq_getElem hj]; rfl)
 obtain ⟨e, _, _⟩ := hK
 subst e
 have := hcell 0 _ rfl
 rw [show j * (Kd.raw 1).sz + 0 = j by show j * 1 + 0 = j; omega] at this
 rw [this, rd_get hj]
theorem getD_hd (mds : List MD) (i : Nat) (m : MD) (h : mds[i]? = some m) : (mds.map (·.hd)).getD i rd0 = m.hd ∧ (mds.map (·.ar)).getD i rd0 = m.ar := by
 simp [List.getD_eq_getElem?_getD, h]
def Fin2 (mds : List MD) (b lo hi : Nat) (w w3 : World) : Prop := ∃ (nf na : Nat → Nat) (VH VA : Nat → Option Addr) (GH GA : Nat → Nat),
 (∀ W, Wrote (fun k => lo ≤ k ∧ k < hi) w W → ∀ i, i < mds.length → W.cell? ⟨b, i * 4 + 1, none⟩ = some (.slice (VA i) (na i) (na i)) ∧ W.cell? ⟨b, i * 4 + 3, none⟩ = some (.slice (VH i) (nf i) (nf i))) ∧
 (∀ i, i < mds.length → nf i ≤ 262144 ∧ na i ≤ 262144) ∧ (∀ i, i < mds.length → (0 < nf i → lo ≤ GH i ∧ GH i < hi) ∧ (0 < na i → lo ≤ GA i ∧ GA i < hi)) ∧
 (∃ H, Bks 41 6 mds.length nf VH GH w3 H) ∧ (∃ A, Bks 38 2 mds.length na VA GA w3 A) ∧ Wrote (fun k => lo ≤ k ∧ k < hi) w w3
theorem fin2 {mds : List MD} {b lo hi : Nat} {w w3 : World} (hall : ∀ i m, mds[i]? = some m → w.cell? ⟨b, i * 4, none⟩ = some (.slice m.g.A m.g.n m.g.n) ∧ w.cell? ⟨b, i * 4 + 1, none⟩ = some (.slice m.ar.A m.ar.n m.ar.n) ∧ w.cell? ⟨b, i * 4 + 2, none⟩ = some (.slice m.ch.A m.ch.n m.ch.n) ∧ w.cell? ⟨b, i * 4 + 3, none⟩ = some (.slice m.hd.A m.hd.n m.hd.n))
  (hc : MDs w lo hi mds) (hb : hi ≤ b) (hW : Wrote (fun k => lo ≤ k ∧ k < hi ∧ ∃ C : Array Value, w.heap[k]? = some (.cells C 36 (0, 0)) ∨ w.heap[k]? = some (.cells C 44 (0, 0))) w w3) : Fin2 mds b lo hi w w3 := by
 have hne : ∀ (t : Nat), t ≠ 36 → t ≠ 44 → ∀ (k : Nat) (C : Array Value), w.heap[k]? = some (.cells C t (0, 0)) → w3.heap[k]? = w.heap[k]? := fun t h1 h2 k C hC => hW.block k (blk_lt hC) (fun ⟨_, _, C2, hs⟩ => by
  rcases hs with hs | hs
  ·
   rw [hC] at hs
   injection hs with hs
   injection hs with _ hs
   exact h1 hs
  ·
   rw [hC] at hs
   injection hs with hs
   injection hs with _ hs
   exact h2 hs)
 have hhd := hc.hds.move (W' := w3) (fun r _ C hC => hne 41 (by decide) (by decide) r.G C hC)
 have har := hc.ars.move (W' := w3) (fun r _ C hC => hne 38 (by decide) (by decide) r.G C hC)
 obtain ⟨H, bH⟩ := hhd.bks
 obtain ⟨A, bA⟩ := har.bks
 rw [List.length_map] at bH bA
 have hget : ∀ i, i < mds.length → ∃ m l h, mds[i]? = some m ∧ m.Ok w l h ∧ lo ≤ l ∧ h ≤ hi ∧ (mds.map (·.hd)).getD i rd0 = m.hd ∧ (mds.map (·.ar)).getD i rd0 = m.ar := fun i hi2 => by
  obtain ⟨l, h, h1, h2, h3⟩ := hc.get mds[i] (List.getElem_mem hi2)
  obtain ⟨e1, e2⟩ := getD_hd mds i mds[i] (List.getElem?_eq_getElem hi2)
  exact ⟨mds[i], l, h, List.getElem?_eq_getElem hi2, h3, h1, h2, e1, e2⟩
 refine ⟨_, _, _, _, _, _, fun W hWW i hi2 => ?_, fun i hi2 => ?_, fun i hi2 => ?_, ⟨H, bH⟩, ⟨A, bA⟩, ⟨hW.os, hW.tape, hW.output, hW.size, fun k hk hn => hW.block k hk (fun hs => hn ⟨hs.1, hs.2.1⟩)⟩⟩
 ·
  obtain ⟨m, l, h, e, ho, h1, h2, e1, e2⟩ := hget i hi2
  obtain ⟨_, c1, _, c3⟩ := hall i m e
  simp only [e1, e2]
  exact ⟨hWW.cell c1 (fun hs => by have := hs.2; simp only at this; omega), hWW.cell c3 (fun hs => by have := hs.2; simp only at this; omega)⟩
 ·
  obtain ⟨m, l, h, e, ho, h1, h2, e1, e2⟩ := hget i hi2
  simp only [e1, e2]
  have := ho.szf
  have := ho.sza
  have := ho.hn
  exact ⟨by omega, by omega⟩
 ·
  obtain ⟨m, l, h, e, ho, h1, h2, e1, e2⟩ := hget i hi2
  simp only [e1, e2]
  refine ⟨fun hp => ?_, fun hp => ?_⟩
  ·
   obtain ⟨_, a, b, _⟩ := ho.hd hp
   exact ⟨by omega, by omega⟩
  ·
   obtain ⟨_, a, b, _⟩ := ho.ar hp
   exact ⟨by omega, by omega⟩
set_option maxHeartbeats 16000000 in
set_option maxRecDepth 100000 in
theorem modules.calls (mds : List MD) (b c lo hi : Nat) (w : World) (hN : mds.length ≤ 1000) (h0 : 0 < mds.length)
  (hall : ∀ i m, mds[i]? = some m → w.cell? ⟨b, i * 4, none⟩ = some (.slice m.g.A m.g.n m.g.n) ∧ w.cell? ⟨b, i * 4 + 1, none⟩ = some (.slice m.ar.A m.ar.n m.ar.n) ∧ w.cell? ⟨b, i * 4 + 2, none⟩ = some (.slice m.ch.A m.ch.n m.ch.n) ∧ w.cell? ⟨b, i * 4 + 3, none⟩ = some (.slice m.hd.A m.hd.n m.hd.n))
  (hc : MDs w lo hi mds) (hb : hi ≤ b) :
  Calls Tryd.prog 45 #[.slice (some ⟨b, 0, none⟩) mds.length c] w fun e w' => e = .returned (.bool true) ∧ Wrote (fun k => lo ≤ k ∧ k < hi) w w' := by
 obtain ⟨S, hS⟩ : ∃ S : Nat → Prop, S = fun k => lo ≤ k ∧ k < hi := ⟨_, rfl⟩
 rw [← hS]
 have HSS := Aside0.mk hS
 clear hS
 have HALL := Aside0.mk hall
 have HC := Aside0.mk hc
 have HN := Aside0.mk hN
 have H0 := Aside0.mk h0
 have HBB := Aside0.mk hb
 have HLB := Aside0.mk (show ∀ i, i ≤ mds.length → (labs (mds.take i)).length ≤ 600000000 ∧ (cods (mds.take i)).length ≤ 600000000 from fun i hi => by
  have h1 : (mds.take i).length ≤ 1000 := by rw [List.length_take]; omega
  have h2 : ∀ m ∈ mds.take i, (labM m).length ≤ 524290 ∧ (codM m).length ≤ 262144 := fun m hm => by
   obtain ⟨l, h, _, _, ho⟩ := hc.get m (List.mem_of_mem_take hm)
   rw [labM_len, codM_len]
   have := ho.szf
   omega
  have h3 := flat_bound labM 524290 (mds.take i) (fun m hm => (h2 m hm).1)
  have h4 := flat_bound codM 262144 (mds.take i) (fun m hm => (h2 m hm).2)
  have h5 := Nat.mul_le_mul_right 524290 h1
  have h6 := Nat.mul_le_mul_right 262144 h1
  exact ⟨by unfold labs; omega, by unfold cods; omega⟩)
 have HB := Aside0.mk (Below.refl w.heap.size w)
 clear hall hc hN h0 hb
 go_enter Tryd.func45, Tryd.ntmps45
 go_wp2
 go_loopg [3, 4, 5] (mds.length + 1) (fun kq v3 v4 v5 w' => ∃ (i : Nat), v5 = .int .i64 (i : Int) ∧ Aside0 (i + kq = mds.length + 1) ∧ Aside0 (1 ≤ kq) ∧ Aside0 (Kd.R (Kd.raw 1) 22 w' w.heap.size (fun k => w.heap.size ≤ k) v3 ((labs (mds.take i)).map rowV)) ∧ Aside0 (Kd.R (Kd.raw 1) 39 w' w.heap.size (fun k => w.heap.size ≤ k) v4 ((cods (mds.take i)).map rowV)) ∧ Aside0 (Below w.heap.size w w'))
 case atStart => exact ⟨0, rfl, ⟨by omega⟩, ⟨by omega⟩, ⟨Kd.R_nil _ _ _ _ _⟩, ⟨Kd.R_nil _ _ _ _ _⟩, HB⟩
 case round =>
  clear HB
  obtain ⟨i, rfl, HI, HI1, HL, HK, HB⟩ := hrel
  cases gk with
  | zero => exact absurd HI1.out (by omega)
  | succ k1 =>
   by_cases ci : i < mds.length
   ·
    have cib : decide ((i : Int) < (mds.length : Int)) = true := decide_eq_true (by omega)
    have hii : (i : Int) < (mds.length : Int) := by omega
    have hw2 := ar1 (show i ≤ 1000000000 by have := HN.out; omega)
    obtain ⟨l1, h1, hl1, hh1, hok⟩ := HC.out.get mds[i] (List.getElem_mem ci)
    obtain ⟨d0, d1, d2, d3⟩ := HALL.out i mds[i] (List.getElem?_eq_getElem ci)
    have HLT := Aside0.mk (labs_take mds i ci)
    have HKT := Aside0.mk (cods_take mds i ci)
    have HLL := Aside0.mk (HLB.out i (Nat.le_of_lt ci))
    obtain ⟨m, hm⟩ : ∃ m, mds[i] = m := ⟨_, rfl⟩
    rw [hm] at d0 d2 d3 HLT HKT hok
    have HOK := Aside0.mk hok
    clear hm hok d1 hl1 hh1
    obtain ⟨LI, hLI⟩ : ∃ L, labs (mds.take i) = L := ⟨_, rfl⟩
    obtain ⟨KI, hKI⟩ : ∃ L, cods (mds.take i) = L := ⟨_, rfl⟩
    rw [hLI] at HLT HLL HL
    rw [hKI] at HKT HLL HK
    clear hLI hKI
    have D0 := Aside0.mk d0
    have D2 := Aside0.mk d2
    have D3 := Aside0.mk d3
    have c0 := pw_cell_below HB.out d0
    have c2 := pw_cell_below HB.out d2
    clear d0 d2 d3
    go_wp2_with fail
    refine start_ (n := 14) (S := fun w' => w'.cell? ⟨b, i * 4, none⟩ = some (.slice m.g.A m.g.n m.g.n) ∧ w'.cell? ⟨b, i * 4 + 2, none⟩ = some (.slice m.ch.A m.ch.n m.ch.n)) (ds := []) #[false, false, false, false, false, false, false, false, false, false, false, false, false, false] (by kernel_rfl) rfl rfl ⟨c0, c2⟩ (fun hHeld => ?_)
    refine pure_ (i := 0) (N := some 19) (v := ?_) (a' := ?_) #[true, false, false, false, false, false, false, false, false, false, false, false, false, false] rfl rfl (by kernel_rfl) (fun _ _ _ h => h) (Or.inl ⟨by rfl, ?_⟩) ?_ ?_
    rotate_left
    ·
     intro w'
     go_simp
     with_reducible rfl
    rotate_left
    ·
     simp only [Act.put, List.setIfInBounds_toArray, List.set_cons_zero, List.set_cons_succ, i64_w, i32_w]
     rfl
    refine pure_ (i := 1) (N := some 20) (v := ?_) (a' := ?_) #[true, true, false, false, false, false, false, false, false, false, false, false, false, false] rfl rfl (by kernel_rfl) (fun _ _ _ h => h) (Or.inl ⟨by rfl, ?_⟩) ?_ ?_
    rotate_left
    ·
     intro w'
     go_simp
     with_reducible rfl
    rotate_left
    ·
     simp only [Act.put, List.setIfInBounds_toArray, List.set_cons_zero, List.set_cons_succ, i64_w, i32_w]
     rfl
    refine pure_ (i := 2) (N := some 21) (v := ?_) (a' := ?_) #[true, true, true, false, false, false, false, false, false, false, false, false, false, false] rfl rfl (by kernel_rfl) (fun _ _ _ h => h) (Or.inl ⟨by rfl, ?_⟩) ?_ ?_
    rotate_left
    ·
     intro w'
     go_simp
     with_reducible rfl
    rotate_left
    ·
     simp only [Act.put, List.setIfInBounds_toArray, List.set_cons_zero, List.set_cons_succ, i64_w, i32_w]
     rfl
    refine pure_ (i := 3) (N := some 22) (v := ?_) (a' := ?_) #[true, true, true, true, false, false, false, false, false, false, false, false, false, false] rfl rfl (by kernel_rfl) (fun _ _ _ h => h) (Or.inl ⟨by rfl, ?_⟩) ?_ ?_
    rotate_left
    ·
     intro w'
     go_simp
     with_reducible rfl
    rotate_left
    ·
     simp only [Act.put, List.setIfInBounds_toArray, List.set_cons_zero, List.set_cons_succ, i64_w, i32_w]
     rfl
    refine pure_ (i := 4) (N := some 23) (v := ?_) (a' := ?_) #[true, true, true, true, true, false, false, false, false, false, false, false, false, false] rfl rfl (by kernel_rfl) (fun _ _ _ h => h) (Or.inl ⟨by rfl, ?_⟩) ?_ ?_
    rotate_left
    ·
     intro w'
     go_simp
     with_reducible rfl
    rotate_left
    ·
     simp only [Act.put, List.setIfInBounds_toArray, List.set_cons_zero, List.set_cons_succ, i64_w, i32_w]
     rfl
    refine pure_ (i := 6) (N := some 25) (v := ?_) (a' := ?_) #[true, true, true, true, true, false, true, false, false, false, false, false, false, false] rfl rfl (by kernel_rfl) (fun _ _ _ h => h) (Or.inl ⟨by rfl, ?_⟩) ?_ ?_
    rotate_left
    ·
     intro w'
     go_simp
     with_reducible rfl
    rotate_left
    ·
     simp only [Act.put, List.setIfInBounds_toArray, List.set_cons_zero, List.set_cons_succ, i64_w, i32_w]
     rfl
    refine pure_ (i := 7) (N := some 26) (v := ?_) (a' := ?_) #[true, true, true, true, true, false, true, true, false, false, false, false, false, false] rfl rfl (by kernel_rfl) (fun _ _ _ h => h) (Or.inl ⟨by rfl, ?_⟩) ?_ ?_
    rotate_left
    ·
     intro w'
     go_simp
     with_reducible rfl
    rotate_left
    ·
     simp only [Act.put, List.setIfInBounds_toArray, List.set_cons_zero, List.set_cons_succ, i64_w, i32_w]
     rfl
    refine pure_ (i := 8) (N := some 27) (v := ?_) (a' := ?_) #[true, true, true, true, true, false, true, true, true, false, false, false, false, false] rfl rfl (by kernel_rfl) (fun _ _ _ h => h) (Or.inl ⟨by rfl, ?_⟩) ?_ ?_
    rotate_left
    ·
     intro w'
     go_simp
     with_reducible rfl
    rotate_left
    ·
     simp only [Act.put, List.setIfInBounds_toArray, List.set_cons_zero, List.set_cons_succ, i64_w, i32_w]
     rfl
    refine pure_ (i := 9) (N := some 28) (v := ?_) (a' := ?_) #[true, true, true, true, true, false, true, true, true, true, false, false, false, false] rfl rfl (by kernel_rfl) (fun _ _ _ h => h) (Or.inl ⟨by rfl, ?_⟩) ?_ ?_
    rotate_left
    ·
     intro w'
     go_simp
     with_reducible rfl
    rotate_left
    ·
     simp only [Act.put, List.setIfInBounds_toArray, List.set_cons_zero, List.set_cons_succ, i64_w, i32_w]
     rfl
    refine take_ (i := 5) (N := some 24) (v := ?_) (a' := ?_) #[true, true, true, true, true, true, true, true, true, true, false, false, false, false] rfl rfl (by kernel_rfl) (fun _ _ _ h => h) (Or.inl ⟨by rfl, ?_⟩) hHeld ?_ ?_
    rotate_left
    ·
     rintro w' ⟨s0, s1⟩
     go_simp
     with_reducible rfl
    rotate_left
    ·
     simp only [Act.put, List.setIfInBounds_toArray, List.set_cons_zero, List.set_cons_succ, i64_w, i32_w]
     rfl
    refine take_ (i := 10) (N := some 29) (v := ?_) (a' := ?_) #[true, true, true, true, true, true, true, true, true, true, true, false, false, false] rfl rfl (by kernel_rfl) (fun _ _ _ h => h) (Or.inl ⟨by rfl, ?_⟩) hHeld ?_ ?_
    rotate_left
    ·
     rintro w' ⟨s0, s1⟩
     go_simp
     with_reducible rfl
    rotate_left
    ·
     simp only [Act.put, List.setIfInBounds_toArray, List.set_cons_zero, List.set_cons_succ, i64_w, i32_w]
     rfl
    refine one_ (i := 11) (N := some 30) #[true, true, true, true, true, true, true, true, true, true, true, true, false, false] rfl rfl (by kernel_rfl) (by decide) (fun K hK => ?_)
    refine value_ (w1 := ?_) (v := ?_) (by rfl) rfl ?_ ?_
    rotate_left 2
    ·
     go_simp
     constructor
     ·
      rfl
     ·
      rfl
    refine hK.out _ _ ⟨(pw_cell_below (below_alloc (Below.refl wr.drew.heap.size wr.drew) (.cells #[.slice m.g.A m.g.n m.g.n, .slice m.ch.A m.ch.n m.ch.n] 22)) hHeld.1), (pw_cell_below (below_alloc (Below.refl wr.drew.heap.size wr.drew) (.cells #[.slice m.g.A m.g.n m.g.n, .slice m.ch.A m.ch.n m.ch.n] 22)) hHeld.2)⟩ (fun hHeld => ?_)
    clear hK K
    refine norm_ (a' := ?_) ?_ ?_
    rotate_left
    ·
     show Act.put _ (some 30) _ = _
     simp only [Act.put, List.setIfInBounds_toArray, List.set_cons_zero, List.set_cons_succ, i64_w, i32_w]
     rfl
    refine one_ (i := 12) (N := some 31) #[true, true, true, true, true, true, true, true, true, true, true, true, true, false] rfl rfl (by kernel_rfl) (by decide) (fun K hK => ?_)
    refine Kd.R_append_rows_step (Kd.raw 1) (w0 := w) w.heap.size (by rfl) (.tmp 19) (.tmp 30) 134 22 (.slice none 0 0) 24 rfl Tryd.underlying134 linfoSapartLabels rfl (by decide) (by decide) u3 (LI.map rowV) [rowV m.g, rowV m.ch] (some ⟨wr.heap.size, 0, none⟩) 2 2 (fun k => w.heap.size ≤ k) (fun _ => False) rfl rfl (Kd.R_below HL.out (below_alloc (below_drew1 (Below.refl wr.heap.size wr)) (.cells #[.slice m.g.A m.g.n m.g.n, .slice m.ch.A m.ch.n m.ch.n] 22))) (two_rows wr.drew 22 m.g m.ch) (fun _ _ h => h) (fun _ h => h.elim) (fun k hk => Nat.le_trans HB.out.size (Nat.le_trans (below_alloc (below_drew1 (Below.refl wr.heap.size wr)) (.cells #[.slice m.g.A m.g.n m.g.n, .slice m.ch.A m.ch.n m.ch.n] 22)).size hk)) (below_alloc (below_drew1 HB.out) (.cells #[.slice m.g.A m.g.n m.g.n, .slice m.ch.A m.ch.n m.ch.n] 22)) (Nat.le_trans HB.out.size (below_alloc (below_drew1 (Below.refl wr.heap.size wr)) (.cells #[.slice m.g.A m.g.n m.g.n, .slice m.ch.A m.ch.n m.ch.n] 22)).size) (by rw [List.length_map]; have := HLL.out; omega) ?_
    intro v1 w1 ho hb hg hat
    refine hK.out _ _ ⟨(pw_cell_below hb D0.out), (pw_cell_below hb D2.out)⟩ (fun hHeld => ?_)
    clear hK K
    refine norm_ (a' := ?_) ?_ ?_
    rotate_left
    ·
     show Act.put _ (some 31) _ = _
     simp only [Act.put, List.setIfInBounds_toArray, List.set_cons_zero, List.set_cons_succ, i64_w, i32_w]
     rfl
    refine pure_ (i := 13) (N := some 3) (v := ?_) (a' := ?_) #[true, true, true, true, true, true, true, true, true, true, true, true, true, true] rfl rfl (by kernel_rfl) (fun _ _ _ h => h) (Or.inl ⟨by rfl, ?_⟩) ?_ ?_
    rotate_left
    ·
     intro w'
     go_simp
     with_reducible rfl
    rotate_left
    ·
     simp only [Act.put, List.setIfInBounds_toArray, List.set_cons_zero, List.set_cons_succ, i64_w, i32_w]
     rfl
    refine done_ (by kernel_rfl) ?_
    have HL1 := Aside0.mk (show Kd.R (Kd.raw 1) 22 w1 w.heap.size (fun k => w.heap.size ≤ k) v1 ((LI ++ [m.g, m.ch]).map rowV) by rw [List.map_append]; exact ho)
    have HK1 := Aside0.mk (Kd.R_over (Kd.R_below HK.out (below_alloc (below_drew1 (Below.refl wr.heap.size wr)) (.cells #[.slice m.g.A m.g.n m.g.n, .slice m.ch.A m.ch.n m.ch.n] 22))) (Kd.R_below HL.out (below_alloc (below_drew1 (Below.refl wr.heap.size wr)) (.cells #[.slice m.g.A m.g.n m.g.n, .slice m.ch.A m.ch.n m.ch.n] 22))) (fun z hz => by have h1 : z ∈ [39] := hz; rw [List.mem_singleton.1 h1]; decide) hg)
    have HB1 := Aside0.mk hb
    clear ho hb hg hat c0 c2 HL HK HB
    go_wp2_with fail
    go_loopg [3, 4, 6] (m.hd.n + 1) (fun kq v3 v4 v6 w' => ∃ (k : Nat), v6 = .int .i64 (k : Int) ∧ Aside0 (k + kq = m.hd.n + 1) ∧ Aside0 (1 ≤ kq) ∧ Aside0 (Kd.R (Kd.raw 1) 22 w' w.heap.size (fun k => w.heap.size ≤ k) v3 ((LI ++ [m.g, m.ch] ++ labF (m.fs.take k)).map rowV)) ∧ Aside0 (Kd.R (Kd.raw 1) 39 w' w.heap.size (fun k => w.heap.size ≤ k) v4 ((KI ++ codF (m.fs.take k)).map rowV)) ∧ Aside0 (Below w.heap.size w w'))
    case atStart => exact ⟨0, rfl, ⟨by omega⟩, ⟨by omega⟩, ⟨by simpa [labF] using HL1.out⟩, ⟨by simpa [codF] using HK1.out⟩, HB1⟩
    case round =>
     clear HL1 HK1 HB1
     obtain ⟨k, rfl, HQ, HQ1, HL, HK, HB⟩ := hrel
     have c3 := pw_cell_below HB.out D3.out
     cases gk with
     | zero => exact absurd HQ1.out (by omega)
     | succ k2 =>
      by_cases ck : k < m.hd.n
      ·
       have ckb : decide ((k : Int) < (m.hd.n : Int)) = true := decide_eq_true (by omega)
       have hki : (k : Int) < (m.hd.n : Int) := by omega
       have hkf : k < m.fs.length := by rw [← HOK.out.hn]; exact ck
       have hw3 := ar1 (show k ≤ 1000000000 by have := HOK.out.szf; omega)
       obtain ⟨f, hf⟩ : ∃ f, m.fs[k] = f := ⟨_, rfl⟩
       have hfk : m.fs[k]? = some f := by rw [List.getElem?_eq_getElem hkf, hf]
       have E1 := Aside0.mk (HOK.out.hdr k f hfk 1 _ rfl)
       have E2 := Aside0.mk (HOK.out.hdr k f hfk 2 _ rfl)
       have E5 := Aside0.mk (HOK.out.hdr k f hfk 5 _ rfl)
       have hA := (HOK.out.hd (by omega)).1
       have HFT := Aside0.mk (labF_take m.fs k hkf)
       have HCT := Aside0.mk (codF_take m.fs k hkf)
       rw [hf] at HFT HCT
       have D3k := D3.out
       rw [hA] at c3 D3k
       have D3K := Aside0.mk D3k
       have e1 := pw_cell_below HB.out E1.out
       have e2 := pw_cell_below HB.out E2.out
       have HLB2 := Aside0.mk (show (labF (m.fs.take k)).length ≤ 524288 ∧ (codF (m.fs.take k)).length ≤ 262144 by
        have := HOK.out.szf
        rw [labF_len]
        simp only [codF, List.length_map, List.length_take]
        omega)
       clear hf hfk hA D3k
       go_wp2_with fail
       refine start_ (n := 22) (S := fun w' => w'.cell? ⟨b, i * 4 + 3, none⟩ = some (.slice (some ⟨m.hd.G, 0, none⟩) m.hd.n m.hd.n) ∧ w'.cell? ⟨m.hd.G, k * 6 + 1, none⟩ = some (.slice f.p.A f.p.n f.p.n) ∧ w'.cell? ⟨m.hd.G, k * 6 + 2, none⟩ = some (.slice f.r.A f.r.n f.r.n)) (ds := []) #[false, false, false, false, false, false, false, false, false, false, false, false, false, false, false, false, false, false, false, false, false, false] (by kernel_rfl) rfl rfl ⟨c3, e1, e2⟩ (fun hHeld => ?_)
       refine pure_ (i := 0) (N := some 42) (v := ?_) (a' := ?_) #[true, false, false, false, false, false, false, false, false, false, false, false, false, false, false, false, false, false, false, false, false, false] rfl rfl (by kernel_rfl) (fun _ _ _ h => h) (Or.inl ⟨by rfl, ?_⟩) ?_ ?_
       rotate_left
       ·
        intro w'
        go_simp
        with_reducible rfl
       rotate_left
       ·
        simp only [Act.put, List.setIfInBounds_toArray, List.set_cons_zero, List.set_cons_succ, i64_w, i32_w]
        rfl
       refine pure_ (i := 1) (N := some 43) (v := ?_) (a' := ?_) #[true, true, false, false, false, false, false, false, false, false, false, false, false, false, false, false, false, false, false, false, false, false] rfl rfl (by kernel_rfl) (fun _ _ _ h => h) (Or.inl ⟨by rfl, ?_⟩) ?_ ?_
       rotate_left
       ·
        intro w'
        go_simp
        with_reducible rfl
       rotate_left
       ·
        simp only [Act.put, List.setIfInBounds_toArray, List.set_cons_zero, List.set_cons_succ, i64_w, i32_w]
        rfl
       refine pure_ (i := 2) (N := some 44) (v := ?_) (a' := ?_) #[true, true, true, false, false, false, false, false, false, false, false, false, false, false, false, false, false, false, false, false, false, false] rfl rfl (by kernel_rfl) (fun _ _ _ h => h) (Or.inl ⟨by rfl, ?_⟩) ?_ ?_
       rotate_left
       ·
        intro w'
        go_simp
        with_reducible rfl
       rotate_left
       ·
        simp only [Act.put, List.setIfInBounds_toArray, List.set_cons_zero, List.set_cons_succ, i64_w, i32_w]
        rfl
       refine pure_ (i := 3) (N := some 45) (v := ?_) (a' := ?_) #[true, true, true, true, false, false, false, false, false, false, false, false, false, false, false, false, false, false, false, false, false, false] rfl rfl (by kernel_rfl) (fun _ _ _ h => h) (Or.inl ⟨by rfl, ?_⟩) ?_ ?_
       rotate_left
       ·
        intro w'
        go_simp
        with_reducible rfl
       rotate_left
       ·
        simp only [Act.put, List.setIfInBounds_toArray, List.set_cons_zero, List.set_cons_succ, i64_w, i32_w]
        rfl
       refine pure_ (i := 4) (N := some 46) (v := ?_) (a' := ?_) #[true, true, true, true, true, false, false, false, false, false, false, false, false, false, false, false, false, false, false, false, false, false] rfl rfl (by kernel_rfl) (fun _ _ _ h => h) (Or.inl ⟨by rfl, ?_⟩) ?_ ?_
       rotate_left
       ·
        intro w'
        go_simp
        with_reducible rfl
       rotate_left
       ·
        simp only [Act.put, List.setIfInBounds_toArray, List.set_cons_zero, List.set_cons_succ, i64_w, i32_w]
        rfl
       refine pure_ (i := 6) (N := some 48) (v := ?_) (a' := ?_) #[true, true, true, true, true, false, true, false, false, false, false, false, false, false, false, false, false, false, false, false, false, false] rfl rfl (by kernel_rfl) (fun _ _ _ h => h) (Or.inl ⟨by rfl, ?_⟩) ?_ ?_
       rotate_left
       ·
        intro w'
        go_simp
        with_reducible rfl
       rotate_left
       ·
        simp only [Act.put, List.setIfInBounds_toArray, List.set_cons_zero, List.set_cons_succ, i64_w, i32_w]
        rfl
       refine pure_ (i := 10) (N := some 52) (v := ?_) (a' := ?_) #[true, true, true, true, true, false, true, false, false, false, true, false, false, false, false, false, false, false, false, false, false, false] rfl rfl (by kernel_rfl) (fun _ _ _ h => h) (Or.inl ⟨by rfl, ?_⟩) ?_ ?_
       rotate_left
       ·
        intro w'
        go_simp
        with_reducible rfl
       rotate_left
       ·
        simp only [Act.put, List.setIfInBounds_toArray, List.set_cons_zero, List.set_cons_succ, i64_w, i32_w]
        rfl
       refine pure_ (i := 11) (N := some 53) (v := ?_) (a' := ?_) #[true, true, true, true, true, false, true, false, false, false, true, true, false, false, false, false, false, false, false, false, false, false] rfl rfl (by kernel_rfl) (fun _ _ _ h => h) (Or.inl ⟨by rfl, ?_⟩) ?_ ?_
       rotate_left
       ·
        intro w'
        go_simp
        with_reducible rfl
       rotate_left
       ·
        simp only [Act.put, List.setIfInBounds_toArray, List.set_cons_zero, List.set_cons_succ, i64_w, i32_w]
        rfl
       refine pure_ (i := 12) (N := some 54) (v := ?_) (a' := ?_) #[true, true, true, true, true, false, true, false, false, false, true, true, true, false, false, false, false, false, false, false, false, false] rfl rfl (by kernel_rfl) (fun _ _ _ h => h) (Or.inl ⟨by rfl, ?_⟩) ?_ ?_
       rotate_left
       ·
        intro w'
        go_simp
        with_reducible rfl
       rotate_left
       ·
        simp only [Act.put, List.setIfInBounds_toArray, List.set_cons_zero, List.set_cons_succ, i64_w, i32_w]
        rfl
       refine pure_ (i := 13) (N := some 55) (v := ?_) (a' := ?_) #[true, true, true, true, true, false, true, false, false, false, true, true, true, true, false, false, false, false, false, false, false, false] rfl rfl (by kernel_rfl) (fun _ _ _ h => h) (Or.inl ⟨by rfl, ?_⟩) ?_ ?_
       rotate_left
       ·
        intro w'
        go_simp
        with_reducible rfl
       rotate_left
       ·
        simp only [Act.put, List.setIfInBounds_toArray, List.set_cons_zero, List.set_cons_succ, i64_w, i32_w]
        rfl
       refine pure_ (i := 15) (N := some 57) (v := ?_) (a' := ?_) #[true, true, true, true, true, false, true, false, false, false, true, true, true, true, false, true, false, false, false, false, false, false] rfl rfl (by kernel_rfl) (fun _ _ _ h => h) (Or.inl ⟨by rfl, ?_⟩) ?_ ?_
       rotate_left
       ·
        intro w'
        go_simp
        with_reducible rfl
       rotate_left
       ·
        simp only [Act.put, List.setIfInBounds_toArray, List.set_cons_zero, List.set_cons_succ, i64_w, i32_w]
        rfl
       refine take_ (i := 5) (N := some 47) (v := ?_) (a' := ?_) #[true, true, true, true, true, true, true, false, false, false, true, true, true, true, false, true, false, false, false, false, false, false] rfl rfl (by kernel_rfl) (fun _ _ _ h => h) (Or.inl ⟨by rfl, ?_⟩) hHeld ?_ ?_
       rotate_left
       ·
        rintro w' ⟨s0, s1, s2⟩
        go_simp
        with_reducible rfl
       rotate_left
       ·
        simp only [Act.put, List.setIfInBounds_toArray, List.set_cons_zero, List.set_cons_succ, i64_w, i32_w]
        rfl
       refine pure_ (i := 7) (N := some 49) (v := ?_) (a' := ?_) #[true, true, true, true, true, true, true, true, false, false, true, true, true, true, false, true, false, false, false, false, false, false] rfl rfl (by kernel_rfl) (fun _ _ _ h => h) (Or.inl ⟨by rfl, ?_⟩) ?_ ?_
       rotate_left
       ·
        intro w'
        go_simp
        with_reducible rfl
       rotate_left
       ·
        simp only [Act.put, List.setIfInBounds_toArray, List.set_cons_zero, List.set_cons_succ, i64_w, i32_w]
        rfl
       refine pure_ (i := 8) (N := some 50) (v := ?_) (a' := ?_) #[true, true, true, true, true, true, true, true, true, false, true, true, true, true, false, true, false, false, false, false, false, false] rfl rfl (by kernel_rfl) (fun _ _ _ h => h) (Or.inl ⟨by rfl, ?_⟩) ?_ ?_
       rotate_left
       ·
        intro w'
        go_simp
        with_reducible rfl
       rotate_left
       ·
        simp only [Act.put, List.setIfInBounds_toArray, List.set_cons_zero, List.set_cons_succ, i64_w, i32_w]
        rfl
       refine take_ (i := 9) (N := some 51) (v := ?_) (a' := ?_) #[true, true, true, true, true, true, true, true, true, true, true, true, true, true, false, true, false, false, false, false, false, false] rfl rfl (by kernel_rfl) (fun _ _ _ h => h) (Or.inl ⟨by rfl, ?_⟩) hHeld ?_ ?_
       rotate_left
       ·
        rintro w' ⟨s0, s1, s2⟩
        go_simp
        with_reducible rfl
       rotate_left
       ·
        simp only [Act.put, List.setIfInBounds_toArray, List.set_cons_zero, List.set_cons_succ, i64_w, i32_w]
        rfl
       refine take_ (i := 14) (N := some 56) (v := ?_) (a' := ?_) #[true, true, true, true, true, true, true, true, true, true, true, true, true, true, true, true, false, false, false, false, false, false] rfl rfl (by kernel_rfl) (fun _ _ _ h => h) (Or.inl ⟨by rfl, ?_⟩) hHeld ?_ ?_
       rotate_left
       ·
        rintro w' ⟨s0, s1, s2⟩
        go_simp
        with_reducible rfl
       rotate_left
       ·
        simp only [Act.put, List.setIfInBounds_toArray, List.set_cons_zero, List.set_cons_succ, i64_w, i32_w]
        rfl
       refine pure_ (i := 16) (N := some 58) (v := ?_) (a' := ?_) #[true, true, true, true, true, true, true, true, true, true, true, true, true, true, true, true, true, false, false, false, false, false] rfl rfl (by kernel_rfl) (fun _ _ _ h => h) (Or.inl ⟨by rfl, ?_⟩) ?_ ?_
       rotate_left
       ·
        intro w'
        go_simp
        with_reducible rfl
       rotate_left
       ·
        simp only [Act.put, List.setIfInBounds_toArray, List.set_cons_zero, List.set_cons_succ, i64_w, i32_w]
        rfl
       refine pure_ (i := 17) (N := some 59) (v := ?_) (a' := ?_) #[true, true, true, true, true, true, true, true, true, true, true, true, true, true, true, true, true, true, false, false, false, false] rfl rfl (by kernel_rfl) (fun _ _ _ h => h) (Or.inl ⟨by rfl, ?_⟩) ?_ ?_
       rotate_left
       ·
        intro w'
        go_simp
        with_reducible rfl
       rotate_left
       ·
        simp only [Act.put, List.setIfInBounds_toArray, List.set_cons_zero, List.set_cons_succ, i64_w, i32_w]
        rfl
       refine take_ (i := 18) (N := some 60) (v := ?_) (a' := ?_) #[true, true, true, true, true, true, true, true, true, true, true, true, true, true, true, true, true, true, true, false, false, false] rfl rfl (by kernel_rfl) (fun _ _ _ h => h) (Or.inl ⟨by rfl, ?_⟩) hHeld ?_ ?_
       rotate_left
       ·
        rintro w' ⟨s0, s1, s2⟩
        go_simp
        with_reducible rfl
       rotate_left
       ·
        simp only [Act.put, List.setIfInBounds_toArray, List.set_cons_zero, List.set_cons_succ, i64_w, i32_w]
        rfl
       refine one_ (i := 19) (N := some 61) #[true, true, true, true, true, true, true, true, true, true, true, true, true, true, true, true, true, true, true, true, false, false] rfl rfl (by kernel_rfl) (by decide) (fun K hK => ?_)
       refine value_ (w1 := ?_) (v := ?_) (by rfl) rfl ?_ ?_
       rotate_left 2
       ·
        go_simp
        constructor
        ·
         rfl
        ·
         rfl
       refine hK.out _ _ ⟨(pw_cell_below (below_alloc (Below.refl wr.drew.heap.size wr.drew) (.cells #[.slice f.p.A f.p.n f.p.n, .slice f.r.A f.r.n f.r.n] 22)) hHeld.1), (pw_cell_below (below_alloc (Below.refl wr.drew.heap.size wr.drew) (.cells #[.slice f.p.A f.p.n f.p.n, .slice f.r.A f.r.n f.r.n] 22)) hHeld.2.1), (pw_cell_below (below_alloc (Below.refl wr.drew.heap.size wr.drew) (.cells #[.slice f.p.A f.p.n f.p.n, .slice f.r.A f.r.n f.r.n] 22)) hHeld.2.2)⟩ (fun hHeld => ?_)
       clear hK K
       refine norm_ (a' := ?_) ?_ ?_
       rotate_left
       ·
        show Act.put _ (some 61) _ = _
        simp only [Act.put, List.setIfInBounds_toArray, List.set_cons_zero, List.set_cons_succ, i64_w, i32_w]
        rfl
       refine one_ (i := 20) (N := some 62) #[true, true, true, true, true, true, true, true, true, true, true, true, true, true, true, true, true, true, true, true, true, false] rfl rfl (by kernel_rfl) (by decide) (fun K hK => ?_)
       refine Kd.R_append_rows_step (Kd.raw 1) (w0 := w) w.heap.size (by rfl) (.tmp 42) (.tmp 61) 134 22 (.slice none 0 0) 24 rfl Tryd.underlying134 linfoSapartLabels rfl (by decide) (by decide) u3 ((LI ++ [m.g, m.ch] ++ labF (m.fs.take k)).map rowV) [rowV f.p, rowV f.r] (some ⟨wr.heap.size, 0, none⟩) 2 2 (fun k => w.heap.size ≤ k) (fun _ => False) rfl rfl (Kd.R_below HL.out (below_alloc (below_drew1 (Below.refl wr.heap.size wr)) (.cells #[.slice f.p.A f.p.n f.p.n, .slice f.r.A f.r.n f.r.n] 22))) (two_rows wr.drew 22 f.p f.r) (fun _ _ h => h) (fun _ h => h.elim) (fun k hk => Nat.le_trans HB.out.size (Nat.le_trans (below_alloc (below_drew1 (Below.refl wr.heap.size wr)) (.cells #[.slice f.p.A f.p.n f.p.n, .slice f.r.A f.r.n f.r.n] 22)).size hk)) (below_alloc (below_drew1 HB.out) (.cells #[.slice f.p.A f.p.n f.p.n, .slice f.r.A f.r.n f.r.n] 22)) (Nat.le_trans HB.out.size (below_alloc (below_drew1 (Below.refl wr.heap.size wr)) (.cells #[.slice f.p.A f.p.n f.p.n, .slice f.r.A f.r.n f.r.n] 22)).size) (by simp only [List.length_map, List.length_append, List.length_cons, List.length_nil]; have := HLL.out; have := HLB2.out; omega) ?_
       intro v1 w1 ho hb hg hat
       refine hK.out _ _ ⟨(pw_cell_below hb D3K.out), (pw_cell_below hb E1.out), (pw_cell_below hb E2.out)⟩ (fun hHeld => ?_)
       clear hK K
       refine norm_ (a' := ?_) ?_ ?_
       rotate_left
       ·
        show Act.put _ (some 62) _ = _
        simp only [Act.put, List.setIfInBounds_toArray, List.set_cons_zero, List.set_cons_succ, i64_w, i32_w]
        rfl
       refine pure_ (i := 21) (N := some 3) (v := ?_) (a' := ?_) #[true, true, true, true, true, true, true, true, true, true, true, true, true, true, true, true, true, true, true, true, true, true] rfl rfl (by kernel_rfl) (fun _ _ _ h => h) (Or.inl ⟨by rfl, ?_⟩) ?_ ?_
       rotate_left
       ·
        intro w'
        go_simp
        with_reducible rfl
       rotate_left
       ·
        simp only [Act.put, List.setIfInBounds_toArray, List.set_cons_zero, List.set_cons_succ, i64_w, i32_w]
        rfl
       refine done_ (by kernel_rfl) ?_
       have HL1 := Aside0.mk (show Kd.R (Kd.raw 1) 22 w1 w.heap.size (fun k => w.heap.size ≤ k) v1 ((LI ++ [m.g, m.ch] ++ labF (m.fs.take (k + 1))).map rowV) by rw [HFT.out, ← List.append_assoc, List.map_append]; exact ho)
       have HK1 := Aside0.mk (Kd.R_over (Kd.R_below HK.out (below_alloc (below_drew1 (Below.refl wr.heap.size wr)) (.cells #[.slice f.p.A f.p.n f.p.n, .slice f.r.A f.r.n f.r.n] 22))) (Kd.R_below HL.out (below_alloc (below_drew1 (Below.refl wr.heap.size wr)) (.cells #[.slice f.p.A f.p.n f.p.n, .slice f.r.A f.r.n f.r.n] 22))) (fun z hz => by have h1 : z ∈ [39] := hz; rw [List.mem_singleton.1 h1]; decide) hg)
       have HB1 := Aside0.mk hb
       have c3' := pw_cell_below hb D3K.out
       have e5 := pw_cell_below hb E5.out
       clear ho hb hg hat c3 e1 e2 HL HK HB
       go_wp2_with (first | ((with_reducible refine gate_builtin (b := .append) (xs := #[.tmp 63, .tmp 73]) rfl ?_); at_builtin; refine Kd.R_append (Kd.raw 1) (w0 := w) w.heap.size rfl (.tmp 63) (.tmp 73) 135 39 (.slice none 0 0) 24 rfl Tryd.underlying135 linfoSapartCode rfl (by decide) (by decide) u4 ((KI ++ codF (m.fs.take k)).map rowV) (rowV f.c) [.slice f.c.A f.c.n f.c.n] (fun k => w.heap.size ≤ k) (fun _ => False) rfl rfl ?aP (fun _ hk => hk.elim) ?aF ?aO ?aB ?aS ?aL ?_; (case aP => exact ⟨rfl, rfl, fun u hu => by rw [List.mem_singleton.1 hu]; rfl⟩); (case aB => exact HB1.out); (case aF => exact (fun k hk => Nat.le_trans HB1.out.size hk)); (case aO => exact HK1.out); (case aS => exact HB1.out.size); (case aL => simp only [List.length_map, List.length_append]; have := HLL.out; have := HLB2.out; omega); intro v2 w2 ho hb hg hat; have HK2 := Aside0.mk (show Kd.R (Kd.raw 1) 39 w2 w.heap.size (fun k => w.heap.size ≤ k) v2 ((KI ++ codF (m.fs.take (k + 1))).map rowV) by rw [HCT.out, ← List.append_assoc, List.map_append]; exact ho); have HL2 := Aside0.mk (Kd.R_over HL1.out HK1.out (fun z hz => by have h1 : z ∈ [22] := hz; rw [List.mem_singleton.1 h1]; decide) hg); have HB2 := Aside0.mk hb; clear ho hb hg hat))
       go_roundg k2
       case measure => omega
       case rel => exact ⟨k + 1, by simp [hw3], ⟨by have := HQ.out; omega⟩, ⟨by have := HQ.out; omega⟩, HL2, HK2, HB2⟩
      ·
       have ckb : decide ((k : Int) < (m.hd.n : Int)) = false := decide_eq_false (by omega)
       have HL1 := Aside0.mk (show Kd.R (Kd.raw 1) 22 wr w.heap.size (fun k => w.heap.size ≤ k) u3 ((labs (mds.take (i + 1))).map rowV) by
        have hk9 : k = m.fs.length := by have := HQ.out; have := HOK.out.hn; omega
        have := HL.out
        rw [hk9, List.take_length] at this
        rw [HLT.out, labM, ← List.append_assoc]
        exact this)
       have HK1 := Aside0.mk (show Kd.R (Kd.raw 1) 39 wr w.heap.size (fun k => w.heap.size ≤ k) u4 ((cods (mds.take (i + 1))).map rowV) by
        have hk9 : k = m.fs.length := by have := HQ.out; have := HOK.out.hn; omega
        have := HK.out
        rw [hk9, List.take_length] at this
        rw [HKT.out, codM]
        exact this)
       clear HL HK HLT HKT
       go_wp2
       go_roundg k1
       case measure => omega
       case rel => exact ⟨i + 1, by simp [hw2], ⟨by have := HI.out; omega⟩, ⟨by have := HI.out; omega⟩, HL1, HK1, HB⟩
   ·
    have cib : decide ((i : Int) < (mds.length : Int)) = false := decide_eq_false (by omega)
    obtain rfl : i = mds.length := by have := HI.out; omega
    have hL := HL.out
    have hK := HK.out
    rw [List.take_length] at hL hK
    have HLL := Aside0.mk (by have := HLB.out mds.length (Nat.le_refl _); rw [List.take_length] at this; exact this)
    have hlp : 0 < (labs mds).length := by
     obtain ⟨m, t, e⟩ : ∃ m t, mds = m :: t := by
      cases hms : mds with
      | nil => have := H0.out; rw [hms] at this; cases this
      | cons m t => exact ⟨m, t, rfl⟩
     rw [e, show labs (m :: t) = labM m ++ labs t from rfl, List.length_append, labM_len]
     omega
    obtain ⟨AL, cL, rfl⟩ := Kd.R_slice hL
    rw [List.length_map] at hL ⊢
    obtain ⟨gL, rfl, hgL, hcL⟩ := row_cells hL rfl hlp
    have hlab := HC.out.lab
    have hcod := HC.out.cod
    have hlabw : ∀ r ∈ labs mds, r.n ≤ 262144 := fun r hr => by
     obtain ⟨m, hm, hr⟩ := List.mem_flatMap.1 hr
     obtain ⟨_, _, _, _, ho⟩ := HC.out.get m hm
     exact ho.szl r hr
    have hcodw : ∀ r ∈ cods mds, r.n ≤ 262144 := fun r hr => by
     obtain ⟨m, hm, hr⟩ := List.mem_flatMap.1 hr
     obtain ⟨_, _, _, _, ho⟩ := HC.out.get m hm
     exact ho.szc r hr
    have hbw := HB.out
    have hlab2 : RDs 36 1 wr lo hi (labs mds) := hlab.move (fun r _ C hC => hbw.block _ (blk_lt hC))
    obtain ⟨CL, hbL⟩ := hlab2.bks
    have hmemL : ∀ i, i < (labs mds).length → (labs mds).getD i rd0 ∈ labs mds := fun i hi => by rw [rd_get hi]; exact List.getElem_mem hi
    have hmemK : ∀ i, i < (cods mds).length → (cods mds).getD i rd0 ∈ cods mds := fun i hi => by rw [rd_get hi]; exact List.getElem_mem hi
    have HAL := Aside0.mk (apartLabels.calls (labs mds).length (fun i => ((labs mds).getD i rd0).A) (fun i => ((labs mds).getD i rd0).n) (fun i => ((labs mds).getD i rd0).G) CL ⟨gL, 0, none⟩ cL wr (by have := HLL.out.1; omega) (fun i hi => Nat.le_trans (hlabw _ (hmemL i hi)) (by decide)) hcL (fun i => by rw [add_plain]) hbL (fun i hi hp he => by
     obtain ⟨_, _, _, C, h4, _⟩ := hlab.mem _ (hmemL i hi) hp
     have := blk_lt h4
     simp only at he
     omega))
    have HLS := Aside0.mk (show ∀ k, (∃ i, i < (labs mds).length ∧ 0 < ((labs mds).getD i rd0).n ∧ k = ((labs mds).getD i rd0).G) → lo ≤ k ∧ k < hi ∧ ∃ C : Array Value, w.heap[k]? = some (.cells C 36 (0, 0)) from fun k ⟨i, hi, hp, e⟩ => by
     obtain ⟨_, h2, h3, C, h4, _⟩ := hlab.mem _ (hmemL i hi) hp
     rw [e]
     exact ⟨h2, h3, C, h4⟩)
    have HKS := Aside0.mk (show ∀ k, (∃ i, i < (cods mds).length ∧ 0 < ((cods mds).getD i rd0).n ∧ k = ((cods mds).getD i rd0).G) → lo ≤ k ∧ k < hi ∧ ∃ C : Array Value, w.heap[k]? = some (.cells C 44 (0, 0)) from fun k ⟨i, hi, hp, e⟩ => by
     obtain ⟨_, h2, h3, C, h4, _⟩ := hcod.mem _ (hmemK i hi) hp
     rw [e]
     exact ⟨h2, h3, C, h4⟩)
    have HKR := Aside0.mk hK
    have HCW := Aside0.mk hcodw
    have HMK := Aside0.mk hmemK
    clear HL HK hL hK hcL hgL hlab hcod hlabw hlab2 hbL hmemL hmemK hcodw hlp hbw HI HI1 ci
    have HFIN := Aside0.mk (show ∀ w3, Wrote (fun k => lo ≤ k ∧ k < hi ∧ ∃ C : Array Value, w.heap[k]? = some (.cells C 36 (0, 0)) ∨ w.heap[k]? = some (.cells C 44 (0, 0))) w w3 → Fin2 mds b lo hi w w3 from fun w3 h => fin2 HALL.out HC.out HBB.out h)
    go_wp2_with fail
    refine HAL.out.mono ?_
    rintro e w2 ⟨rfl, hW2⟩
    have HW2 := Aside0.mk hW2
    clear hW2 HAL
    have HKR2 := Aside0.mk (Kd.R_step HKR.out (fun k hk hlt => HW2.out.block k hlt (fun hs => by
     obtain ⟨_, _, C, hC⟩ := HLS.out k hs
     have := blk_lt hC
     omega)))
    obtain ⟨AK, cK, rfl⟩ := Kd.R_slice HKR2.out
    rw [List.length_map] at HKR2 ⊢
    have hCALL : Calls Tryd.prog 91 #[.slice AK (cods mds).length cK] w2 fun e w' => e = .returned (.bool true) ∧ Wrote (fun k => ∃ i, i < (cods mds).length ∧ 0 < ((cods mds).getD i rd0).n ∧ k = ((cods mds).getD i rd0).G) w2 w' := by
     by_cases hz : (cods mds).length = 0
     ·
      rw [hz]
      refine (apartCode_nil AK cK w2).mono ?_
      rintro e w' ⟨rfl, rfl⟩
      exact ⟨rfl, Wrote.refl _ _⟩
     ·
      obtain ⟨gK, rfl, hgK, hcK⟩ := row_cells HKR2.out rfl (by omega)
      have hcod2 : RDs 44 2 w2 lo hi (cods mds) := HC.out.cod.move (fun r _ C hC => (HW2.out.block _ (Nat.lt_of_lt_of_le (blk_lt hC) HB.out.size) (fun hs => by
       obtain ⟨_, _, C2, hC2⟩ := HLS.out _ hs
       rw [hC2] at hC
       injection hC with hC
       injection hC with _ hC
       exact absurd hC (by decide))).trans (HB.out.block _ (blk_lt hC)))
      obtain ⟨CK, hbK⟩ := hcod2.bks
      exact apartCode.calls (cods mds).length (fun i => ((cods mds).getD i rd0).A) (fun i => ((cods mds).getD i rd0).n) (fun i => ((cods mds).getD i rd0).G) CK ⟨gK, 0, none⟩ cK w2 (by have := HLL.out.2; omega) (fun i hi => Nat.le_trans (HCW.out _ (HMK.out i hi)) (by decide)) hcK (fun i => by rw [add_plain]) hbK (fun i hi hp he => by
       obtain ⟨_, _, _, C, h4, _⟩ := HC.out.cod.mem _ (HMK.out i hi) hp
       have := blk_lt h4
       simp only at he
       omega)
    have HCALL := Aside0.mk hCALL
    clear hCALL
    go_wp2_with fail
    refine HCALL.out.mono ?_
    rintro e w3 ⟨rfl, hW3⟩
    have HF := Aside0.mk (HFIN.out w3 ⟨hW3.os.trans (HW2.out.os.trans HB.out.os), hW3.tape.trans (HW2.out.tape.trans HB.out.tape), hW3.output.trans (HW2.out.output.trans HB.out.output), Nat.le_trans HB.out.size (Nat.le_trans HW2.out.size hW3.size), fun k hk hn => by
     have h1 := hW3.block k (Nat.lt_of_lt_of_le hk (Nat.le_trans HB.out.size HW2.out.size)) (fun hs => by
      obtain ⟨p, q, C, r⟩ := HKS.out k hs
      exact hn ⟨p, q, C, .inr r⟩)
     have h2 := HW2.out.block k (Nat.lt_of_lt_of_le hk HB.out.size) (fun hs => by
      obtain ⟨p, q, C, r⟩ := HLS.out k hs
      exact hn ⟨p, q, C, .inl r⟩)
     exact h1.trans (h2.trans (HB.out.block k hk))⟩)
    clear hW3 HW2 HKR2 HKR HLS HKS HCALL HFIN HCW HMK HLL HB HLB
    obtain ⟨nf, na, VH, VA, GH, GA, hall2, hbn, hsg, hH, hA, hW⟩ := HF.out
    have HALL2 := Aside0.mk hall2
    have HBN := Aside0.mk hbn
    have HSG := Aside0.mk hsg
    have HH := Aside0.mk hH
    have HA := Aside0.mk hA
    have HW := Aside0.mk hW
    clear hall2 hbn hsg hH hA hW HF HALL HC
    obtain ⟨N, hNN⟩ : ∃ N, mds.length = N := ⟨_, rfl⟩
    rw [hNN] at HALL2 HBN HSG HH HA HN ⊢
    rw [← HSS.out] at HALL2 HW
    replace HSG := Aside0.mk (show ∀ i, i < N → (0 < nf i → S (GH i)) ∧ (0 < na i → S (GA i)) from by rw [HSS.out]; exact HSG.out)
    clear hNN HSS H0 HBB
    have HH0 := Aside0.mk (show ∃ C : Nat → Array Value, Bks 41 6 N nf VH GH w3 C ∧ (∀ j, j < 0 → j < N → ∀ k, k < nf j → (C j)[k * 6 + 4]? = some (.int .i64 (1000 * (j : Int) + (k : Int)))) from by obtain ⟨C, h⟩ := HH.out; exact ⟨C, h, fun j hj => by omega⟩)
    have HA0 := Aside0.mk (show ∃ C : Nat → Array Value, Bks 38 2 N na VA GA w3 C ∧ (∀ j, j < 0 → j < N → ∀ k, k < na j → (C j)[k * 2]? = some (.int .i64 (1000 * (j : Int) + (k : Int)))) from by obtain ⟨C, h⟩ := HA.out; exact ⟨C, h, fun j hj => by omega⟩)
    clear HH HA
    go_wp2
    go_loopg [7] (N + 1) (fun kq v7 w' => ∃ (i : Nat), v7 = .int .i64 (i : Int) ∧ Aside0 (i + kq = N + 1) ∧ Aside0 (1 ≤ kq) ∧ Aside0 (∃ C : Nat → Array Value, Bks 41 6 N nf VH GH w' C ∧ (∀ j, j < i → j < N → ∀ k, k < nf j → (C j)[k * 6 + 4]? = some (.int .i64 (1000 * (j : Int) + (k : Int))))) ∧ Aside0 (∃ C : Nat → Array Value, Bks 38 2 N na VA GA w' C ∧ (∀ j, j < i → j < N → ∀ k, k < na j → (C j)[k * 2]? = some (.int .i64 (1000 * (j : Int) + (k : Int))))) ∧ Aside0 (Wrote S w w'))
    case atStart => exact ⟨0, rfl, ⟨by omega⟩, ⟨by omega⟩, HH0, HA0, HW⟩
    case round =>
     clear HH0 HA0 HW
     obtain ⟨i, rfl, HI, HI1, HH, HA, HW⟩ := hrel
     cases gk with
     | zero => exact absurd HI1.out (by omega)
     | succ k1 =>
      by_cases ci : i < N
      ·
       have cib : decide ((i : Int) < (N : Int)) = true := decide_eq_true (by omega)
       have hii : (i : Int) < (N : Int) := by omega
       have hw2 := ar1 (show i ≤ 1000000000 by have := HN.out; omega)
       have HX := Aside0.mk (show ∃ C : Nat → Array Value, Bks 41 6 N nf VH GH wr C ∧ (∀ j, j < i → j < N → ∀ k, k < nf j → (C j)[k * 6 + 4]? = some (.int .i64 (1000 * (j : Int) + (k : Int)))) ∧ ∀ k, k < 0 → (C i)[k * 6 + 4]? = some (.int .i64 (1000 * (i : Int) + (k : Int))) from by obtain ⟨C, h1, h2⟩ := HH.out; exact ⟨C, h1, h2, fun k hk => by omega⟩)
       clear HH
       go_wp2
       go_loopg [8] (nf i + 1) (fun kq v8 w' => ∃ (k : Nat), v8 = .int .i64 (k : Int) ∧ Aside0 (k + kq = nf i + 1) ∧ Aside0 (1 ≤ kq) ∧ Aside0 (∃ C : Nat → Array Value, Bks 41 6 N nf VH GH w' C ∧ (∀ j, j < i → j < N → ∀ k, k < nf j → (C j)[k * 6 + 4]? = some (.int .i64 (1000 * (j : Int) + (k : Int)))) ∧ ∀ k', k' < k → (C i)[k' * 6 + 4]? = some (.int .i64 (1000 * (i : Int) + (k' : Int)))) ∧ Aside0 (∃ C : Nat → Array Value, Bks 38 2 N na VA GA w' C ∧ (∀ j, j < i → j < N → ∀ k, k < na j → (C j)[k * 2]? = some (.int .i64 (1000 * (j : Int) + (k : Int))))) ∧ Aside0 (Wrote S w w'))
       case atStart => exact ⟨0, rfl, ⟨by omega⟩, ⟨by omega⟩, HX, HA, HW⟩
       case round =>
        clear HX HA HW
        obtain ⟨k, rfl, HK, HK1, HX, HA, HW⟩ := hrel
        have hc3 := (HALL2.out _ HW.out i ci).2
        cases gk with
        | zero => exact absurd HK1.out (by omega)
        | succ k2 =>
         by_cases ck : k < nf i
         ·
          have ckb : decide ((k : Int) < (nf i : Int)) = true := decide_eq_true (by omega)
          have hki : (k : Int) < (nf i : Int) := by omega
          have hib : i ≤ 1000000000 := by have := HN.out; omega
          have hkb : k ≤ 1000000000 := by have := (HBN.out i ci).1; omega
          have hw3 := ar1 hkb
          have hwA := arA hib
          have hwB := arB hib hkb
          clear hib hkb
          obtain ⟨C, hB, hX, hY⟩ := HX.out
          have HPM := Aside0.mk (show 0 < nf i by omega)
          obtain ⟨g, hg⟩ : ∃ g, GH i = g := ⟨_, rfl⟩
          have hV := hB.at_ i ci HPM.out
          rw [hg] at hV
          rw [hV] at hc3
          obtain ⟨y0, c0, f0⟩ := hB.cell ci ck (show 0 < 6 by omega)
          obtain ⟨y1, c1, f1⟩ := hB.cell ci ck (show 1 < 6 by omega)
          obtain ⟨y2, c2, f2⟩ := hB.cell ci ck (show 2 < 6 by omega)
          obtain ⟨y3, c3, f3⟩ := hB.cell ci ck (show 3 < 6 by omega)
          obtain ⟨y4, c4, f4⟩ := hB.cell ci ck (show 4 < 6 by omega)
          obtain ⟨y5, c5, f5⟩ := hB.cell ci ck (show 5 < 6 by omega)
          rw [hg] at c0 f0 c1 f1 c2 f2 c3 f3 c4 f4 c5 f5
          rw [Nat.add_zero] at c0 f0
          have HX2 := Aside0.mk (show ∃ C : Nat → Array Value, Bks 41 6 N nf VH GH ((((((wr.setCell ⟨g, k * 6, none⟩ (.int .u64 0)).setCell ⟨g, k * 6 + 1, none⟩ (.slice none 0 0)).setCell ⟨g, k * 6 + 2, none⟩ (.slice none 0 0)).setCell ⟨g, k * 6 + 3, none⟩ (.int .i64 0)).setCell ⟨g, k * 6 + 4, none⟩ (.int .i64 (1000 * (i : Int) + (k : Int)))).setCell ⟨g, k * 6 + 5, none⟩ (.slice none 0 0)) C ∧ (∀ j, j < i → j < N → ∀ k, k < nf j → (C j)[k * 6 + 4]? = some (.int .i64 (1000 * (j : Int) + (k : Int)))) ∧ ∀ k', k' < k + 1 → (C i)[k' * 6 + 4]? = some (.int .i64 (1000 * (i : Int) + (k' : Int))) from by
           obtain ⟨C', h1, h2, h3, h4⟩ := hB.put6 ci ck hg (.int .u64 0) (.slice none 0 0) (.slice none 0 0) (.int .i64 0) (.int .i64 (1000 * (i : Int) + (k : Int))) (.slice none 0 0)
           refine ⟨C', h1, fun j hj hjn q hq => by rw [h2 j (by omega)]; exact hX j hj hjn q hq, fun q hq => ?_⟩
           by_cases e : q = k
           ·
            rw [e]; exact h3
           ·
            rw [h4 q e]; exact hY q (by omega))
          have HA2 := Aside0.mk (show ∃ C : Nat → Array Value, Bks 38 2 N na VA GA ((((((wr.setCell ⟨g, k * 6, none⟩ (.int .u64 0)).setCell ⟨g, k * 6 + 1, none⟩ (.slice none 0 0)).setCell ⟨g, k * 6 + 2, none⟩ (.slice none 0 0)).setCell ⟨g, k * 6 + 3, none⟩ (.int .i64 0)).setCell ⟨g, k * 6 + 4, none⟩ (.int .i64 (1000 * (i : Int) + (k : Int)))).setCell ⟨g, k * 6 + 5, none⟩ (.slice none 0 0)) C ∧ (∀ j, j < i → j < N → ∀ k, k < na j → (C j)[k * 2]? = some (.int .i64 (1000 * (j : Int) + (k : Int)))) from by
           obtain ⟨C', h1, h2⟩ := HA.out
           have hbb := hB.blk i ci HPM.out
           rw [hg] at hbb
           exact ⟨C', h1.far6 hbb (by decide) k _ _ _ _ _ _, h2⟩)
          have HW2 := Aside0.mk (HW.out.put6 (g := g) (by rw [← hg]; exact (HSG.out i ci).1 HPM.out) k (.int .u64 0) (.slice none 0 0) (.slice none 0 0) (.int .i64 0) (.int .i64 (1000 * (i : Int) + (k : Int))) (.slice none 0 0))
          clear hV hg hB hX hY HX HA HW
          go_wp2
          go_roundg k2
          case measure => omega
          case rel => exact ⟨k + 1, by simp [hw3], ⟨by have := HK.out; omega⟩, ⟨by have := HK.out; omega⟩, HX2, HA2, HW2⟩
         ·
          have ckb : decide ((k : Int) < (nf i : Int)) = false := decide_eq_false (by omega)
          have HH2 := Aside0.mk (show ∃ C : Nat → Array Value, Bks 41 6 N nf VH GH wr C ∧ (∀ j, j < i + 1 → j < N → ∀ k, k < nf j → (C j)[k * 6 + 4]? = some (.int .i64 (1000 * (j : Int) + (k : Int)))) from by
           obtain ⟨C, h1, h2, h3⟩ := HX.out
           refine ⟨C, h1, fun j hj hjn q hq => ?_⟩
           by_cases e : j = i
           ·
            subst e
            exact h3 q (by have := HK.out; omega)
           ·
            exact h2 j (by omega) hjn q hq)
          have HX3 := Aside0.mk (show ∃ C : Nat → Array Value, Bks 38 2 N na VA GA wr C ∧ (∀ j, j < i → j < N → ∀ k, k < na j → (C j)[k * 2]? = some (.int .i64 (1000 * (j : Int) + (k : Int)))) ∧ ∀ k, k < 0 → (C i)[k * 2]? = some (.int .i64 (1000 * (i : Int) + (k : Int))) from by obtain ⟨C, h1, h2⟩ := HA.out; exact ⟨C, h1, h2, fun k hk => by omega⟩)
          clear HX HA
          go_wp2
          clear hc3
          go_loopg [9] (na i + 1) (fun kq v9 w' => ∃ (k : Nat), v9 = .int .i64 (k : Int) ∧ Aside0 (k + kq = na i + 1) ∧ Aside0 (1 ≤ kq) ∧ Aside0 (∃ C : Nat → Array Value, Bks 38 2 N na VA GA w' C ∧ (∀ j, j < i → j < N → ∀ k, k < na j → (C j)[k * 2]? = some (.int .i64 (1000 * (j : Int) + (k : Int)))) ∧ ∀ k', k' < k → (C i)[k' * 2]? = some (.int .i64 (1000 * (i : Int) + (k' : Int)))) ∧ Aside0 (∃ C : Nat → Array Value, Bks 41 6 N nf VH GH w' C ∧ (∀ j, j < i + 1 → j < N → ∀ k, k < nf j → (C j)[k * 6 + 4]? = some (.int .i64 (1000 * (j : Int) + (k : Int))))) ∧ Aside0 (Wrote S w w'))
          case atStart => exact ⟨0, rfl, ⟨by omega⟩, ⟨by omega⟩, HX3, HH2, HW⟩
          case round =>
           clear HX3 HH2 HW
           obtain ⟨q, rfl, HQ, HQ1, HX, HH, HW⟩ := hrel
           have hc1 := (HALL2.out _ HW.out i ci).1
           cases gk with
           | zero => exact absurd HQ1.out (by omega)
           | succ k3 =>
            by_cases cq : q < na i
            ·
             have cqb : decide ((q : Int) < (na i : Int)) = true := decide_eq_true (by omega)
             have hqi : (q : Int) < (na i : Int) := by omega
             have hib : i ≤ 1000000000 := by have := HN.out; omega
             have hkb : q ≤ 1000000000 := by have := (HBN.out i ci).2; omega
             have hw4 := ar1 hkb
             have hwA := arA hib
             have hwB := arB hib hkb
             clear hib hkb
             obtain ⟨C, hB, hX, hY⟩ := HX.out
             have HPM := Aside0.mk (show 0 < na i by omega)
             obtain ⟨g, hg⟩ : ∃ g, GA i = g := ⟨_, rfl⟩
             have hV := hB.at_ i ci HPM.out
             rw [hg] at hV
             rw [hV] at hc1
             obtain ⟨y0, c0, f0⟩ := hB.cell ci cq (show 0 < 2 by omega)
             obtain ⟨y1, c1, f1⟩ := hB.cell ci cq (show 1 < 2 by omega)
             rw [hg] at c0 f0 c1 f1
             rw [Nat.add_zero] at c0 f0
             have HX2 := Aside0.mk (show ∃ C : Nat → Array Value, Bks 38 2 N na VA GA ((wr.setCell ⟨g, q * 2, none⟩ (.int .i64 (1000 * (i : Int) + (q : Int)))).setCell ⟨g, q * 2 + 1, none⟩ (.int .u64 0)) C ∧ (∀ j, j < i → j < N → ∀ k, k < na j → (C j)[k * 2]? = some (.int .i64 (1000 * (j : Int) + (k : Int)))) ∧ ∀ k', k' < q + 1 → (C i)[k' * 2]? = some (.int .i64 (1000 * (i : Int) + (k' : Int))) from by
              obtain ⟨C', h1, h2, h3, h4⟩ := hB.put2 ci cq hg (.int .i64 (1000 * (i : Int) + (q : Int))) (.int .u64 0)
              refine ⟨C', h1, fun j hj hjn z hz => by rw [h2 j (by omega)]; exact hX j hj hjn z hz, fun z hz => ?_⟩
              by_cases e : z = q
              ·
               rw [e]; exact h3
              ·
               rw [h4 z e]; exact hY z (by omega))
             have HH2 := Aside0.mk (show ∃ C : Nat → Array Value, Bks 41 6 N nf VH GH ((wr.setCell ⟨g, q * 2, none⟩ (.int .i64 (1000 * (i : Int) + (q : Int)))).setCell ⟨g, q * 2 + 1, none⟩ (.int .u64 0)) C ∧ (∀ j, j < i + 1 → j < N → ∀ k, k < nf j → (C j)[k * 6 + 4]? = some (.int .i64 (1000 * (j : Int) + (k : Int)))) from by
              obtain ⟨C', h1, h2⟩ := HH.out
              have hbb := hB.blk i ci HPM.out
              rw [hg] at hbb
              exact ⟨C', h1.far2 hbb (by decide) q _ _, h2⟩)
             have HW2 := Aside0.mk (HW.out.put2 (g := g) (by rw [← hg]; exact (HSG.out i ci).2 HPM.out) q (.int .i64 (1000 * (i : Int) + (q : Int))) (.int .u64 0))
             clear hV hg hB hX hY HX HH HW
             go_wp2
             go_roundg k3
             case measure => omega
             case rel => exact ⟨q + 1, by simp [hw4], ⟨by have := HQ.out; omega⟩, ⟨by have := HQ.out; omega⟩, HX2, HH2, HW2⟩
            ·
             have cqb : decide ((q : Int) < (na i : Int)) = false := decide_eq_false (by omega)
             have HA2 := Aside0.mk (show ∃ C : Nat → Array Value, Bks 38 2 N na VA GA wr C ∧ (∀ j, j < i + 1 → j < N → ∀ k, k < na j → (C j)[k * 2]? = some (.int .i64 (1000 * (j : Int) + (k : Int)))) from by
              obtain ⟨C, h1, h2, h3⟩ := HX.out
              refine ⟨C, h1, fun j hj hjn z hz => ?_⟩
              by_cases e : j = i
              ·
               subst e
               exact h3 z (by have := HQ.out; omega)
              ·
               exact h2 j (by omega) hjn z hz)
             clear HX
             go_wp2
             go_roundg k1
             case measure => omega
             case rel => exact ⟨i + 1, by simp [hw2], ⟨by have := HI.out; omega⟩, ⟨by have := HI.out; omega⟩, HH, HA2, HW⟩
      ·
       have cib : decide ((i : Int) < (N : Int)) = false := decide_eq_false (by omega)
       obtain rfl : i = N := by have := HI.out; omega
       clear HI HI1 ci
       obtain ⟨w9, hw9⟩ : ∃ w9 : World, w9 = wr := ⟨_, rfl⟩
       rw [← hw9] at HH HA HW
       have H9 := Aside0.mk hw9
       clear hw9
       have FALL := Aside0.mk (HALL2.out w9 HW.out)
       have FH := Aside0.mk (show ∀ j, j < i → ∀ k, k < nf j → ∃ g, VH j = some ⟨g, 0, none⟩ ∧ w9.cell? ⟨g, k * 6 + 4, none⟩ = some (.int .i64 (1000 * (j : Int) + (k : Int))) from fun j hj k hk => by
        obtain ⟨C, h1, h2⟩ := HH.out
        have hp : 0 < nf j := by omega
        exact ⟨GH j, h1.at_ j hj hp, (blk_cell (h1.blk j hj hp) _).trans (h2 j hj hj k hk)⟩)
       have FA := Aside0.mk (show ∀ j, j < i → ∀ k, k < na j → ∃ g, VA j = some ⟨g, 0, none⟩ ∧ w9.cell? ⟨g, k * 2, none⟩ = some (.int .i64 (1000 * (j : Int) + (k : Int))) from fun j hj k hk => by
        obtain ⟨C, h1, h2⟩ := HA.out
        have hp : 0 < na j := by omega
        exact ⟨GA j, h1.at_ j hj hp, (blk_cell (h1.blk j hj hp) _).trans (h2 j hj hj k hk)⟩)
       clear HH HA
       go_wp2
       go_loopg [10] (i + 1) (fun kq v10 w' => ∃ (x : Nat), v10 = .int .i64 (x : Int) ∧ Aside0 (x + kq = i + 1) ∧ Aside0 (1 ≤ kq) ∧ Aside0 (w' = w9))
       case atStart => exact ⟨0, rfl, ⟨by omega⟩, ⟨by omega⟩, ⟨H9.out.symm⟩⟩
       case round =>
        clear H9
        obtain ⟨x, rfl, HI, HI1, H9⟩ := hrel
        cases gk with
        | zero => exact absurd HI1.out (by omega)
        | succ k1 =>
         by_cases cx : x < i
         ·
          have cxb : decide ((x : Int) < (i : Int)) = true := decide_eq_true (by omega)
          have hxj : (x : Int) < (i : Int) := by omega
          have hxb : x ≤ 1000000000 := by have := HN.out; omega
          have HXB := Aside0.mk hxb
          have hw2 := ar1 hxb
          clear hxb
          go_wp2
          go_loopg [11] (nf x + 1) (fun kq v11 w' => ∃ (k : Nat), v11 = .int .i64 (k : Int) ∧ Aside0 (k + kq = nf x + 1) ∧ Aside0 (1 ≤ kq) ∧ Aside0 (w' = w9))
          case atStart => exact ⟨0, rfl, ⟨by omega⟩, ⟨by omega⟩, H9⟩
          case round =>
           clear H9
           obtain ⟨k, rfl, HK, HK1, H9⟩ := hrel
           have hc3 := (FALL.out x cx).2
           rw [← H9.out] at hc3
           cases gk with
           | zero => exact absurd HK1.out (by omega)
           | succ k2 =>
            by_cases ck : k < nf x
            ·
             have ckb : decide ((k : Int) < (nf x : Int)) = true := decide_eq_true (by omega)
             have hki : (k : Int) < (nf x : Int) := by omega
             have hkb : k ≤ 1000000000 := by have := (HBN.out x cx).1; omega
             have hw3 := ar1 hkb
             have hwA := arA HXB.out
             have hwB0 := arB HXB.out hkb
             obtain ⟨g, hV, hc1⟩ := FH.out x cx k ck
             rw [← H9.out] at hc1
             rw [hV] at hc3
             obtain ⟨Y, hY⟩ : ∃ Y, 1000 * (x : Int) + (k : Int) = Y := ⟨_, rfl⟩
             have hwB : wrap64 (1000 * (x : Int) + (k : Int)) = Y := hwB0.trans hY
             rw [hY] at hc1
             have hYY : (Y != Y) = false := by simp
             clear hY hwB0 hV hkb
             go_wp2
             go_roundg k2
             case measure => omega
             case rel => exact ⟨k + 1, by simp [hw3], ⟨by have := HK.out; omega⟩, ⟨by have := HK.out; omega⟩, H9⟩
            ·
             have ckb : decide ((k : Int) < (nf x : Int)) = false := decide_eq_false (by omega)
             go_wp2
             clear hc3
             go_loopg [12] (na x + 1) (fun kq v12 w' => ∃ (q : Nat), v12 = .int .i64 (q : Int) ∧ Aside0 (q + kq = na x + 1) ∧ Aside0 (1 ≤ kq) ∧ Aside0 (w' = w9))
             case atStart => exact ⟨0, rfl, ⟨by omega⟩, ⟨by omega⟩, H9⟩
             case round =>
              clear H9
              obtain ⟨q, rfl, HQ, HQ1, H9⟩ := hrel
              have hc1 := (FALL.out x cx).1
              rw [← H9.out] at hc1
              cases gk with
              | zero => exact absurd HQ1.out (by omega)
              | succ k3 =>
               by_cases cq : q < na x
               ·
                have cqb : decide ((q : Int) < (na x : Int)) = true := decide_eq_true (by omega)
                have hqi : (q : Int) < (na x : Int) := by omega
                have hkb : q ≤ 1000000000 := by have := (HBN.out x cx).2; omega
                have hw4 := ar1 hkb
                have hwA := arA HXB.out
                have hwB0 := arB HXB.out hkb
                obtain ⟨g, hV, hc2⟩ := FA.out x cx q cq
                rw [← H9.out] at hc2
                rw [hV] at hc1
                obtain ⟨Y, hY⟩ : ∃ Y, 1000 * (x : Int) + (q : Int) = Y := ⟨_, rfl⟩
                have hwB : wrap64 (1000 * (x : Int) + (q : Int)) = Y := hwB0.trans hY
                rw [hY] at hc2
                have hYY : (Y != Y) = false := by simp
                clear hY hwB0 hV hkb
                go_wp2
                go_roundg k3
                case measure => omega
                case rel => exact ⟨q + 1, by simp [hw4], ⟨by have := HQ.out; omega⟩, ⟨by have := HQ.out; omega⟩, H9⟩
               ·
                have cqb : decide ((q : Int) < (na x : Int)) = false := decide_eq_false (by omega)
                go_wp2
                go_roundg k1
                case measure => omega
                case rel => exact ⟨x + 1, by simp [hw2], ⟨by have := HI.out; omega⟩, ⟨by have := HI.out; omega⟩, H9⟩
         ·
          have cxb : decide ((x : Int) < (i : Int)) = false := decide_eq_false (by omega)
          go_wp2
          go_ret
          exact ⟨rfl, by rw [H9.out]; exact HW.out⟩
end Go.Proofs.YtgpdaihfjnihhaaDoor.PJ
