/- louver/louverkit.ApartCode: rows whose capacity is their length, in blocks of their own, are written full, gone on with and looked at: it answers true; only their blocks are written. -/
import Derived.Test.YtgpdaihfjnihhaaDoorQHandApartM
import Derived.Test.YtgpdaihfjnihhaaDoorQLebAll
namespace Go.Proofs.YtgpdaihfjnihhaaDoor.PJ
open Go.RowKit Go.Proofs.YtgpdaihfjnihhaaDoorW.PrintWords Go.Proofs.YtgpdaihfjnihhaaDoorW.PrintLast Go.Proofs.YtgpdaihfjnihhaaDoorW.PrintMore Go.Proofs.YtgpdaihfjnihhaaDoor.B64
set_option linter.unusedSimpArgs false
set_option linter.unusedVariables false
def mkK (x : Int) : List Value := [.int .i64 (x), .int .i64 0]
theorem mkK_one (x : Int) : ∀ u ∈ mkK x, u.oneCell' = true := fun u hu => by
 simp only [mkK, List.mem_cons, List.not_mem_nil, or_false] at hu
 rcases hu with rfl | rfl <;> rfl
def rowPK (i q : Nat) : List (List Value) := (List.range q).map fun (k : Nat) => mkK (1000 * (i : Int) + (k : Int))
def rowQK (i q : Nat) : List (List Value) := (List.range q).map fun (k : Nat) => mkK (500000 + 1000 * (i : Int) + (k : Int))
theorem rowPK_len (i q : Nat) : (rowPK i q).length = q := by simp [rowPK]
theorem rowQK_len (i q : Nat) : (rowQK i q).length = q := by simp [rowQK]
theorem rowQK_succ (i q : Nat) : rowQK i (q + 1) = rowQK i q ++ [mkK (500000 + 1000 * (i : Int) + (q : Int))] := by simp [rowQK, List.range_succ]
def MkK (c : Array Value) (k : Nat) (x : Int) : Prop := c[k * 2]? = some (.int .i64 x) ∧ c[k * 2 + 1]? = some (.int .i64 0)
theorem marksK {t n : Nat} {m : Nat → Nat} {V : Nat → Option Addr} {G : Nat → Nat} {W : World} {C : Nat → Array Value} (h : Bks t 2 n m V G W C) {i : Nat} (hi : i < n) (hm : m i ≤ 9223372036854775807) (hk : ∀ k, k < m i → MkK (C i) k (1000 * (i : Int) + (k : Int))) : Kd.C (Kd.raw 2) W (V i) (m i) (rowPK i (m i)) := by
 refine ⟨rowPK_len i (m i), hm, fun hp => ⟨⟨G i, 0, none⟩, h.at_ i hi hp, fun j p hj => ?_⟩⟩
 have hjl : j < m i := by have := (List.getElem?_eq_some_iff.1 hj).1; rwa [rowPK_len] at this
 have e := rows_at (fun (k : Nat) => mkK (1000 * (i : Int) + (k : Int))) (m i) j hjl
 rw [show rowPK i (m i) = (List.range (m i)).map fun (k : Nat) => mkK (1000 * (i : Int) + (k : Int)) from rfl, e] at hj
 injection hj with hj
 subst hj
 have hb := h.blk i hi hp
 have hq := hk j hjl
 refine ⟨_, rfl, ⟨rfl, rfl, fun u hu => by
  rcases List.mem_cons.1 hu with hu | hu
  ·
   rw [hu]; rfl
  ·
   rw [List.mem_singleton.1 hu]; rfl⟩, fun q u hu => ?_⟩
 match q, hu with
 | 0, hu =>
  obtain rfl : Value.int .i64 (1000 * (i : Int) + (j : Int)) = u := by simpa [mkK] using hu
  show W.cell? ((⟨G i, 0, none⟩ : Addr).add (j * 2 + 0)) = _
  rw [add_plain, Nat.add_zero]
  exact (blk_cell hb (j * 2)).trans hq.1
 | 1, hu =>
  obtain rfl : Value.int .i64 0 = u := by simpa [mkK] using hu
  show W.cell? ((⟨G i, 0, none⟩ : Addr).add (j * 2 + 1)) = _
  rw [add_plain]
  exact (blk_cell hb (j * 2 + 1)).trans hq.2
 | q + 2, hu => simp [mkK] at hu
theorem linfoapartCode : (Tryd.prog.info? 44).map (fun i => (i.zero, i.size, i.bytes)) = some (some (.agg #[.int .i64 0, .int .i64 0]), 2, 16) := by kernel_rfl
theorem linfoSapartCode : (Tryd.prog.info? 39).map (fun i => (i.zero, i.size, i.bytes)) = some (some (.slice none 0 0), 1, 24) := by kernel_rfl
set_option maxHeartbeats 16000000 in
set_option maxRecDepth 100000 in
theorem apartCode.calls (n : Nat) (V : Nat → Option Addr) (m G : Nat → Nat) (C0 : Nat → Array Value) (ad : Addr) (c : Nat) (w : World)
  (hn : n ≤ 1000000000) (hm : ∀ i, i < n → m i ≤ 1000000000) (hall : ∀ i, i < n → w.cell? (ad.add i) = some (.slice (V i) (m i) (m i))) (hab : ∀ i, (ad.add i).block = ad.block)
  (hr : Bks 44 2 n m V G w C0) (ha0 : ∀ i, i < n → 0 < m i → G i ≠ ad.block) :
  Calls Tryd.prog 91 #[.slice (some ad) n c] w fun e w' => e = .returned (.bool true) ∧ Wrote (fun k => ∃ i, i < n ∧ 0 < m i ∧ k = G i) w w' := by
 obtain ⟨S, hS⟩ : ∃ S : Nat → Prop, S = fun k => ∃ i, i < n ∧ 0 < m i ∧ k = G i := ⟨_, rfl⟩
 rw [← hS]
 have hSi : ∀ i, i < n → 0 < m i → S (G i) := fun i hi hp => by rw [hS]; exact ⟨i, hi, hp, rfl⟩
 have hSa : ¬ S ad.block := by
  rw [hS]
  rintro ⟨i, hi, hp, h⟩
  exact ha0 i hi hp h.symm
 have hSlt : ∀ k, S k → k < w.heap.size := fun k hk => by
  rw [hS] at hk
  obtain ⟨i, hi, hp, e⟩ := hk
  rw [e]
  exact blk_lt (hr.blk i hi hp)
 have HALL := Aside0.mk (show ∀ W, Wrote S w W → ∀ i, i < n → W.cell? (ad.add i) = some (.slice (V i) (m i) (m i)) from fun W hW i hi => hW.cell (hall i hi) (by rw [hab i]; exact hSa))
 have HN := Aside0.mk hn
 have HM := Aside0.mk hm
 have HSI := Aside0.mk hSi
 have HLT := Aside0.mk hSlt
 have HR := Aside0.mk (show ∃ C : Nat → Array Value, Bks 44 2 n m V G w C ∧ ∀ j, j < 0 → j < n → ∀ k, k < m j → MkK (C j) k (1000 * (j : Int) + (k : Int)) from ⟨C0, hr, fun j hj => by omega⟩)
 have HW := Aside0.mk (Wrote.refl S w)
 clear hr ha0 hall hab hS hSi hSa hSlt hn hm
 go_enter Tryd.func91, Tryd.ntmps91
 go_wp2
 go_loopg [3] (n + 1) (fun kq v3 w' => ∃ (i : Nat), v3 = .int .i64 (i : Int) ∧ Aside0 (i + kq = n + 1) ∧ Aside0 (1 ≤ kq) ∧ Aside0 (∃ C : Nat → Array Value, Bks 44 2 n m V G w' C ∧ ∀ j, j < i → j < n → ∀ k, k < m j → MkK (C j) k (1000 * (j : Int) + (k : Int))) ∧ Aside0 (Wrote S w w'))
 case atStart => exact ⟨0, rfl, ⟨by omega⟩, ⟨by omega⟩, HR, HW⟩
 case round =>
  clear HR HW
  obtain ⟨i, rfl, HI, HI1, HX, HW⟩ := hrel
  cases gk with
  | zero => exact absurd HI1.out (by omega)
  | succ k1 =>
   by_cases ci : i < n
   ·
    have cib : decide ((i : Int) < (n : Int)) = true := decide_eq_true (by omega)
    have hw2 := ar1 (Nat.le_trans (Nat.le_of_lt ci) HN.out)
    have HX1 := Aside0.mk (show ∃ C : Nat → Array Value, Bks 44 2 n m V G wr C ∧ (∀ j, j < i → j < n → ∀ k, k < m j → MkK (C j) k (1000 * (j : Int) + (k : Int))) ∧ ∀ k, k < 0 → MkK (C i) k (1000 * (i : Int) + (k : Int)) from by obtain ⟨C, h1, h2⟩ := HX.out; exact ⟨C, h1, h2, fun k hk => by omega⟩)
    clear HX
    go_wp2
    go_loopg [4] (m i + 1) (fun kq v4 w' => ∃ (k : Nat), v4 = .int .i64 (k : Int) ∧ Aside0 (k + kq = m i + 1) ∧ Aside0 (1 ≤ kq) ∧ Aside0 (∃ C : Nat → Array Value, Bks 44 2 n m V G w' C ∧ (∀ j, j < i → j < n → ∀ k, k < m j → MkK (C j) k (1000 * (j : Int) + (k : Int))) ∧ ∀ k', k' < k → MkK (C i) k' (1000 * (i : Int) + (k' : Int))) ∧ Aside0 (Wrote S w w'))
    case atStart => exact ⟨0, rfl, ⟨by omega⟩, ⟨by omega⟩, HX1, HW⟩
    case round =>
     clear HX1 HW
     obtain ⟨k, rfl, HK, HK1, HX, HW⟩ := hrel
     have hcA := HALL.out _ HW.out i ci
     have hii : (i : Int) < (n : Int) := by omega
     cases gk with
     | zero => exact absurd HK1.out (by omega)
     | succ k2 =>
      by_cases ck : k < m i
      ·
       have ckb : decide ((k : Int) < (m i : Int)) = true := decide_eq_true (by omega)
       have hki : (k : Int) < (m i : Int) := by omega
       have hw3 := ar1 (Nat.le_trans (Nat.le_of_lt ck) (HM.out i ci))
       have hwA := arA (Nat.le_trans (Nat.le_of_lt ci) HN.out)
       have hwB := arB (Nat.le_trans (Nat.le_of_lt ci) HN.out) (Nat.le_trans (Nat.le_of_lt ck) (HM.out i ci))
       have hwC := arC (Nat.le_trans (Nat.le_of_lt ci) HN.out) (Nat.le_trans (Nat.le_of_lt ck) (HM.out i ci))
       obtain ⟨C, hB, hX, hY⟩ := HX.out
       have HPM := Aside0.mk (show 0 < m i by omega)
       obtain ⟨g, hg⟩ : ∃ g, G i = g := ⟨_, rfl⟩
       have hV := hB.at_ i ci HPM.out
       rw [hg] at hV
       rw [hV] at hcA
       obtain ⟨y0, hc0, hf0⟩ := hB.cell ci ck (show 0 < 2 by omega)
       obtain ⟨y1, hc1, hf1⟩ := hB.cell ci ck (show 1 < 2 by omega)
       rw [hg] at hc0 hf0 hc1 hf1
       rw [Nat.add_zero] at hc0 hf0
       have HX2 := Aside0.mk (show ∃ C : Nat → Array Value, Bks 44 2 n m V G ((wr.setCell ⟨g, k * 2, none⟩ (.int .i64 (1000 * (i : Int) + (k : Int)))).setCell ⟨g, k * 2 + 1, none⟩ (.int .i64 0)) C ∧ (∀ j, j < i → j < n → ∀ k, k < m j → MkK (C j) k (1000 * (j : Int) + (k : Int))) ∧ ∀ k', k' < k + 1 → MkK (C i) k' (1000 * (i : Int) + (k' : Int)) from ⟨_, (hB.put ci HPM.out hg (k * 2) _).put ci HPM.out hg (k * 2 + 1) _, fun j hj hjn q hq => by
        simp only [show j ≠ i by omega, if_false]
        exact hX j hj hjn q hq, fun q hq => by
        simp only [if_true]
        have hrm := hB.room i ci HPM.out
        unfold MkK
        by_cases e : q = k
        ·
         subst e
         exact ⟨by rw [set_ne (ne2 q)]; exact set_eq (rm2 ck hrm).1, set_eq (by rw [Array.size_setIfInBounds]; exact (rm2 ck hrm).2)⟩
        ·
         have hq2 := hY q (by omega)
         exact ⟨by rw [set_ne (by omega), set_ne (by omega)]; exact hq2.1, by rw [set_ne (by omega), set_ne (by omega)]; exact hq2.2⟩⟩)
       have HW2 := Aside0.mk ((HW.out.put (p := ⟨g, k * 2, none⟩) (.inl (by rw [← hg]; exact HSI.out i ci HPM.out)) (.int .i64 (1000 * (i : Int) + (k : Int)))).put (p := ⟨g, k * 2 + 1, none⟩) (.inl (by rw [← hg]; exact HSI.out i ci HPM.out)) (.int .i64 0))
       clear hV hg hB hX hY HX
       go_wp2
       go_roundg k2
       case measure => omega
       case rel => exact ⟨k + 1, by simp [hw3], ⟨by have := HK.out; omega⟩, ⟨by have := HK.out; omega⟩, HX2, HW2⟩
      ·
       have ckb : decide ((k : Int) < (m i : Int)) = false := decide_eq_false (by omega)
       have HX2 := Aside0.mk (show ∃ C : Nat → Array Value, Bks 44 2 n m V G wr C ∧ ∀ j, j < i + 1 → j < n → ∀ k, k < m j → MkK (C j) k (1000 * (j : Int) + (k : Int)) from by
        obtain ⟨C, h1, h2, h3⟩ := HX.out
        refine ⟨C, h1, fun j hj hjn q hq => ?_⟩
        by_cases e : j = i
        ·
         subst e
         exact h3 q (by have := HK.out; omega)
        ·
         exact h2 j (by omega) hjn q hq)
       clear HX
       go_wp2
       go_roundg k1
       case measure => omega
       case rel => exact ⟨i + 1, by simp [hw2], ⟨by have := HI.out; omega⟩, ⟨by have := HI.out; omega⟩, HX2, HW⟩
   ·
    have cib : decide ((i : Int) < (n : Int)) = false := decide_eq_false (by omega)
    have hi : i = n := by have := HI.out; omega
    subst hi
    obtain ⟨n0, hn0⟩ : ∃ n0, n0 = i := ⟨i, rfl⟩
    have HRM := Aside0.mk (show ∃ C : Nat → Array Value, Bks 44 2 i m V G wr C ∧ ∀ j, j < i → ∀ k, k < m j → MkK (C j) k (1000 * (j : Int) + (k : Int)) from by obtain ⟨C, h1, h2⟩ := HX.out; exact ⟨C, h1, fun j hj k hk => h2 j hj hj k hk⟩)
    clear HX HI HI1 hn0
    go_wp2
    go_loopg [5, 6] (i + 1) (fun kq v5 v6 w' => ∃ (j : Nat), v6 = .int .i64 (j : Int) ∧ Aside0 (j + kq = i + 1) ∧ Aside0 (1 ≤ kq) ∧ Aside0 (∃ C : Nat → Array Value, Bks 44 2 i m V G w' C ∧ ∀ j, j < i → ∀ k, k < m j → MkK (C j) k (1000 * (j : Int) + (k : Int))) ∧ Aside0 (Kd.R (Kd.slice 44 (Kd.raw 2)) 39 w' w.heap.size (fun k => w.heap.size ≤ k) v5 ((List.range j).map fun q => rowPK q (m q) ++ rowQK q 30)) ∧ Aside0 (Wrote S w w'))
    case atStart => exact ⟨0, rfl, ⟨by omega⟩, ⟨by omega⟩, HRM, ⟨Kd.R_nil _ _ _ _ _⟩, HW⟩
    case round =>
     clear HRM HW
     obtain ⟨j, rfl, HJ, HJ1, HR, HE, HW⟩ := hrel
     cases gk with
     | zero => exact absurd HJ1.out (by omega)
     | succ k1 =>
      by_cases cj : j < i
      ·
       have cjb : decide ((j : Int) < (i : Int)) = true := decide_eq_true (by omega)
       have hji : (j : Int) < (i : Int) := by omega
       have hw2 := ar1 (Nat.le_trans (Nat.le_of_lt cj) HN.out)
       have hwA := arA (Nat.le_trans (Nat.le_of_lt cj) HN.out)
       have hwD := arD (Nat.le_trans (Nat.le_of_lt cj) HN.out)
       have hwE := arE (Nat.le_trans (Nat.le_of_lt cj) HN.out)
       have hcA := HALL.out _ HW.out j cj
       go_wp2
       obtain ⟨wi, hwi⟩ : ∃ wi : World, wi = wr := ⟨_, rfl⟩
       rw [← hwi] at HR HE HW
       go_loopg [7, 8] 31 (fun kq v7 v8 w' => ∃ (q : Nat), v8 = .int .i64 (q : Int) ∧ Aside0 (q + kq = 31) ∧ Aside0 (1 ≤ kq) ∧ Aside0 ((q = 0 ∧ v7 = .slice (V j) (m j) (m j)) ∨ (1 ≤ q ∧ Kd.R (Kd.raw 2) 44 w' wi.heap.size (fun k => wi.heap.size ≤ k) v7 (rowPK j (m j) ++ rowQK j q))) ∧ Aside0 (Below wi.heap.size wi w'))
       case atStart => exact ⟨0, rfl, ⟨by omega⟩, ⟨by omega⟩, ⟨.inl ⟨rfl, rfl⟩⟩, ⟨by rw [hwi]; exact Below.refl _ _⟩⟩
       case round =>
        obtain ⟨q, rfl, HQ, HQ1, HV, HB⟩ := hrel
        cases gk with
        | zero => exact absurd HQ1.out (by omega)
        | succ k2 =>
         by_cases cq : q < 30
         ·
          have cqb : decide ((q : Int) < 30) = true := decide_eq_true (by omega)
          have hw3 : wrap64 ((q : Int) + 1) = (q : Int) + 1 := by unfold wrap64; omega
          have hwF := arF (k := q) (Nat.le_trans (Nat.le_of_lt cj) HN.out) (Nat.le_trans (Nat.le_of_lt cq) (by decide))
          have hwG := arG (k := q) (Nat.le_trans (Nat.le_of_lt cj) HN.out) (Nat.le_trans (Nat.le_of_lt cq) (by decide))
          rcases HV.out with ⟨hq0, hv7⟩ | ⟨hq1, hR7⟩
          ·
           subst hq0
           subst hv7
           clear HV
           have hC7 : Kd.C (Kd.raw 2) wr (V j) (m j) (rowPK j (m j)) := by
            obtain ⟨C, h1, h2⟩ := HR.out
            exact marksK (h1.below HB.out) cj (by have := HM.out j cj; omega) (h2 j cj)
           have HC7 := Aside0.mk hC7
           clear hC7 hwF hwG
           go_wp2_with (first | ((with_reducible refine gate_builtin (b := .append) (xs := #[.tmp 53, .tmp 60]) rfl ?_); at_builtin; refine append_one_raw rfl (.tmp 53) (.tmp 60) 39 44 (.agg #[.int .i64 0, .int .i64 0]) 16 rfl Tryd.underlying39 linfoapartCode rfl (by decide) (by decide) (rowPK j (m j)) (mkK (500000 + 1000 * (j : Int))) ⟨rfl, ?hcs⟩ (V j) ?hs rfl ?hC ?hl ?_; (case hcs => intro u hu; simp only [mkK, List.mem_cons, List.not_mem_nil, or_false] at hu; rcases hu with rfl | rfl <;> rfl); (case hs => rw [rowPK_len]; rfl); (case hC => rw [rowPK_len]; exact HC7.out); (case hl => have := HM.out j cj; rw [rowPK_len]; omega); intro v1 w1 hR1 hb1; have HR1 := Aside0.mk hR1; have HB1 := Aside0.mk hb1; clear hR1 hb1))
           go_roundg k2
           case measure => omega
           case rel => exact ⟨1, by simp, ⟨by have := HQ.out; omega⟩, ⟨by have := HQ.out; omega⟩, ⟨.inr ⟨Nat.le_refl _, by rw [show rowQK j 1 = [mkK (500000 + 1000 * (j : Int))] by simp [rowQK]]; exact Kd.R_lower (Kd.R_mono HR1.out (fun k hk => Nat.le_trans HB.out.size hk)) HB.out.size⟩⟩, ⟨below_step HB.out HB1.out⟩⟩
          ·
           have HR7 := Aside0.mk hR7
           have HQ2 := Aside0.mk hq1
           clear HV hR7 hq1
           go_wp2_with (first | ((with_reducible refine gate_builtin (b := .append) (xs := #[.tmp 53, .tmp 60]) rfl ?_); at_builtin; refine Kd.R_append (Kd.raw 2) (w0 := wi) wi.heap.size rfl (.tmp 53) (.tmp 60) 39 44 (.agg #[.int .i64 0, .int .i64 0]) 16 rfl Tryd.underlying39 linfoapartCode rfl (by decide) (by decide) u7 (rowPK j (m j) ++ rowQK j q) (mkK (500000 + 1000 * (j : Int) + (q : Int))) (mkK (500000 + 1000 * (j : Int) + (q : Int))) (fun k_ => wi.heap.size ≤ k_) (fun _ => False) rfl rfl ?aP (fun _ hk => hk.elim) ?aF ?aO ?aB ?aS ?aL ?_; (case aP => exact ⟨rfl, rfl, mkK_one _⟩); (case aB => exact HB.out); (case aF => exact (fun k_ hk => Nat.le_trans HB.out.size hk)); (case aO => exact HR7.out); (case aS => exact HB.out.size); (case aL => have := HM.out j cj; rw [List.length_append, rowPK_len, rowQK_len]; omega); intro v1 w1 ho hb hg hat; have HR1 := Aside0.mk ho; have HB1 := Aside0.mk hb; clear ho hb hg hat))
           go_roundg k2
           case measure => omega
           case rel => exact ⟨q + 1, by simp [hw3], ⟨by have := HQ.out; omega⟩, ⟨by have := HQ.out; omega⟩, ⟨.inr ⟨by omega, by rw [rowQK_succ, ← List.append_assoc]; exact HR1.out⟩⟩, HB1⟩
         ·
          have cqb : decide ((q : Int) < 30) = false := decide_eq_false (by omega)
          obtain rfl : q = 30 := by have := HQ.out; omega
          obtain ⟨L7, hL7⟩ : ∃ L7, rowPK j (m j) ++ rowQK j 30 = L7 := ⟨_, rfl⟩
          have hR7 := (HV.out.resolve_left (by omega)).2
          rw [hL7] at hR7
          obtain ⟨A7, c7, rfl⟩ := Kd.R_slice hR7
          have HR7 := Aside0.mk hR7
          have HL7 := Aside0.mk hL7
          clear HV hR7 hL7
          have HEr := Aside0.mk (Kd.R_below HE.out HB.out)
          have HRr := Aside0.mk (show (∃ C : Nat → Array Value, Bks 44 2 i m V G wr C ∧ ∀ j, j < i → ∀ k, k < m j → MkK (C j) k (1000 * (j : Int) + (k : Int))) from by obtain ⟨C, h1, h2⟩ := HR.out; exact ⟨C, h1.below HB.out, h2⟩)
          have HWr := Aside0.mk (HW.out.below HB.out)
          have HOL := Aside0.mk (show ∀ k, u5.ownBlock = some k → w.heap.size ≤ k ∧ k < wi.heap.size from fun k hk => by
           obtain ⟨inner, ho⟩ := Kd.R_own HE.out
           exact ⟨own_base ho k hk, own_lt ho k hk⟩)
          go_wp2_with (first | ((with_reducible refine gate_builtin (b := .append) (xs := #[.tmp 62, .tmp 64]) rfl ?_); at_builtin; refine Kd.R_append (Kd.slice 44 (Kd.raw 2)) (w0 := wr) w.heap.size rfl (.tmp 62) (.tmp 64) 135 39 (.slice none 0 0) 24 rfl Tryd.underlying135 linfoSapartCode rfl (by decide) (by decide) u5 ((List.range j).map fun q => rowPK q (m q) ++ rowQK q 30) L7 [.slice A7 L7.length c7] (fun k_ => w.heap.size ≤ k_) (fun k_ => wi.heap.size ≤ k_) rfl rfl ?aP ?aK ?aF ?aO ?aB ?aS ?aL ?_; (case aP => exact ⟨_, rfl, Kd.R_lower HR7.out HW.out.size⟩); (case aK => exact (fun k_ hk => ⟨Nat.le_trans HW.out.size hk, fun he => by have := (HOL.out k_ he.symm).2; omega⟩)); (case aB => exact Below.refl _ _); (case aF => exact (fun k_ hk => Nat.le_trans HWr.out.size hk)); (case aO => exact HEr.out); (case aS => exact HWr.out.size); (case aL => have := HN.out; rw [List.length_map, List.length_range]; omega); intro v1 w1 ho hb hg hat; have HE1 := Aside0.mk ho; have HG1 := Aside0.mk hg; clear ho hb hg hat))
          go_roundg k1
          case measure => omega
          case rel =>
           refine ⟨j + 1, by simp [hw2], ⟨by have := HJ.out; omega⟩, ⟨by have := HJ.out; omega⟩, ⟨by
            obtain ⟨C, h1, h2⟩ := HRr.out
            exact ⟨C, h1.step (fun x hx hp hlt => HG1.out.block _ hlt (fun he => by have := (HOL.out _ he.symm).1; have := HLT.out _ (HSI.out x hx hp); omega)), h2⟩⟩, ⟨by rw [List.range_succ, List.map_append, List.map_singleton, HL7.out]; exact HE1.out⟩, ⟨HWr.out.grown HG1.out (fun g hg => .inr (HOL.out g hg).1)⟩⟩
      ·
       have cjb : decide ((j : Int) < (i : Int)) = false := decide_eq_false (by omega)
       obtain rfl : j = i := by have := HJ.out; omega
       clear HJ HJ1 cj cjb
       obtain ⟨w9, hw9⟩ : ∃ w9 : World, w9 = wr := ⟨_, rfl⟩
       rw [← hw9] at HR HE HW
       have H9 := Aside0.mk hw9
       clear hw9
       obtain ⟨AM, cM, hu5, _, hCM⟩ := Kd.R_reads HE.out
       rw [List.length_map, List.length_range] at hu5 hCM
       subst hu5
       have FA := Aside0.mk (HALL.out w9 HW.out)
       have FR := Aside0.mk (show ∀ q, q < j → ∀ k, k < m q → ∃ g, V q = some ⟨g, 0, none⟩ ∧ w9.cell? ⟨g, k * 2, none⟩ = some (.int .i64 (1000 * (q : Int) + (k : Int))) from fun q hq k hk => by
        obtain ⟨C, h1, h2⟩ := HR.out
        have hp : 0 < m q := by omega
        have hq := h2 q ‹_› k hk
        exact ⟨G q, h1.at_ q ‹_› hp, (blk_cell (h1.blk q ‹_› hp) _).trans hq.1⟩)
       have FM := Aside0.mk (show ∀ q, q < j → ∃ (am : Addr) (a' : Addr) (c' : Nat), AM = some am ∧ w9.cell? (am.add q) = some (.slice (some a') (m q + 30) c') ∧ (∀ k, k < m q → w9.cell? (a'.add (k * 2)) = some (.int .i64 (1000 * (q : Int) + (k : Int)))) ∧ ∀ k, k < 30 → w9.cell? (a'.add ((m q + k) * 2)) = some (.int .i64 (500000 + 1000 * (q : Int) + (k : Int))) from fun q hq => by
        obtain ⟨am, cs, e1, _, hK, hc⟩ := Kd.C_get hCM [] (q : Int) (by omega) (by omega)
        obtain ⟨A', c', rfl, hl', hC'⟩ := hK
        have h0 := hc 0 _ rfl
        rw [Int.toNat_natCast, show q * (Kd.slice 44 (Kd.raw 2)).sz + 0 = q by show q * 1 + 0 = q; omega] at h0
        have hel : (List.map (fun q => rowPK q (m q) ++ rowQK q 30) (List.range j)).getD q [] = rowPK q (m q) ++ rowQK q 30 := by
         simp [List.getElem?_range hq]
        rw [Int.toNat_natCast] at hC'
        rw [hel] at h0 hC'
        have hlen : (rowPK q (m q) ++ rowQK q 30).length = m q + 30 := by rw [List.length_append, rowPK_len, rowQK_len]
        rw [hlen] at h0 hC'
        obtain ⟨a', e2, hcc⟩ := hC'.2.2 (by omega)
        subst e2
        refine ⟨am, a', c', e1, h0, fun k hk => ?_, fun k hk => ?_⟩
        ·
         have hg : (rowPK q (m q) ++ rowQK q 30)[k]? = some (mkK (1000 * (q : Int) + (k : Int))) := by
          rw [List.getElem?_append_left (by rw [rowPK_len]; exact hk)]
          exact rows_at _ _ _ hk
         obtain ⟨c2, _, hK2, h3⟩ := hcc k _ hg
         obtain ⟨e4, _, _⟩ := hK2
         subst e4
         have h4 := h3 0 _ rfl
         rwa [show k * (Kd.raw 2).sz + 0 = (k * 2) from by show k * 2 + 0 = _; omega] at h4
        ·
         have hg : (rowPK q (m q) ++ rowQK q 30)[m q + k]? = some (mkK (500000 + 1000 * (q : Int) + (k : Int))) := by
          rw [List.getElem?_append_right (by rw [rowPK_len]; omega), rowPK_len, show m q + k - m q = k by omega]
          exact rows_at _ _ _ hk
         obtain ⟨c2, _, hK2, h3⟩ := hcc (m q + k) _ hg
         obtain ⟨e4, _, _⟩ := hK2
         subst e4
         have h4 := h3 0 _ rfl
         rwa [show (m q + k) * (Kd.raw 2).sz + 0 = (m q + k) * 2 from by show (m q + k) * 2 + 0 = _; omega] at h4)
       clear HR HE hCM
       go_wp2
       go_loopg [9] (j + 1) (fun kq v9 w' => ∃ (x : Nat), v9 = .int .i64 (x : Int) ∧ Aside0 (x + kq = j + 1) ∧ Aside0 (1 ≤ kq) ∧ Aside0 (w' = w9))
       case atStart => exact ⟨0, rfl, ⟨by omega⟩, ⟨by omega⟩, ⟨H9.out.symm⟩⟩
       case round =>
        clear H9
        obtain ⟨x, rfl, HI, HI1, H9⟩ := hrel
        cases gk with
        | zero => exact absurd HI1.out (by omega)
        | succ k1 =>
         by_cases cx : x < j
         ·
          have cxb : decide ((x : Int) < (j : Int)) = true := decide_eq_true (by omega)
          have hxj : (x : Int) < (j : Int) := by omega
          have hw2 := ar1 (Nat.le_trans (Nat.le_of_lt cx) HN.out)
          have hcA := FA.out x cx
          obtain ⟨am, a', c', e1, hcM, hM1, hM2⟩ := FM.out x cx
          subst e1
          rw [← H9.out] at hcA hcM
          have HM1 := Aside0.mk hM1
          have HM2 := Aside0.mk hM2
          have HCA := Aside0.mk (FA.out x cx)
          have HCM := Aside0.mk (show w9.cell? (am.add x) = some (.slice (some a') (m x + 30) c') by rw [← H9.out]; exact hcM)
          clear hM1 hM2
          go_wp2
          go_loopg [11] (m x + 1) (fun kq v11 w' => ∃ (k : Nat), v11 = .int .i64 (k : Int) ∧ Aside0 (k + kq = m x + 1) ∧ Aside0 (1 ≤ kq) ∧ Aside0 (w' = w9))
          case atStart => exact ⟨0, rfl, ⟨by omega⟩, ⟨by omega⟩, H9⟩
          case round =>
           clear H9 hcA hcM
           obtain ⟨k, rfl, HK, HK1, H9⟩ := hrel
           cases gk with
           | zero => exact absurd HK1.out (by omega)
           | succ k2 =>
            have hcA := HCA.out
            have hcM := HCM.out
            rw [← H9.out] at hcA hcM
            have hwA := arA (Nat.le_trans (Nat.le_of_lt cx) HN.out)
            by_cases ck : k < m x
            ·
             have ckb : decide ((k : Int) < (m x : Int)) = true := decide_eq_true (by omega)
             have hki : (k : Int) < (m x : Int) := by omega
             have hki2 : (k : Int) < (m x : Int) + 30 := by omega
             have hki3 : (k : Int) < ((m x + 30 : Nat) : Int) := by omega
             have hw3 := ar1 (Nat.le_trans (Nat.le_of_lt ck) (HM.out x cx))
             have hwB0 := arB (Nat.le_trans (Nat.le_of_lt cx) HN.out) (Nat.le_trans (Nat.le_of_lt ck) (HM.out x cx))
             obtain ⟨g, hV, hc1⟩ := FR.out x cx k ck
             have hc2 := HM1.out k ck
             rw [← H9.out] at hc1 hc2
             rw [hV] at hcA
             obtain ⟨Y, hY⟩ : ∃ Y, 1000 * (x : Int) + (k : Int) = Y := ⟨_, rfl⟩
             have hwY : wrap64 Y = Y := by rw [← hY]; exact hwB0
             have hwB : wrap64 (1000 * (x : Int) + (k : Int)) = Y := hwB0.trans hY
             rw [hY] at hc1 hc2
             have hYY : (Y != Y) = false := by simp
             clear hY hwB0
             have HV := Aside0.mk hV
             clear hV
             go_wp2
             go_roundg k2
             case measure => omega
             case rel => exact ⟨k + 1, by simp [hw3], ⟨by have := HK.out; omega⟩, ⟨by have := HK.out; omega⟩, H9⟩
            ·
             have ckb : decide ((k : Int) < (m x : Int)) = false := decide_eq_false (by omega)
             go_wp2
             go_loopg [12] 31 (fun kq v12 w' => ∃ (q : Nat), v12 = .int .i64 (q : Int) ∧ Aside0 (q + kq = 31) ∧ Aside0 (1 ≤ kq) ∧ Aside0 (w' = w9))
             case atStart => exact ⟨0, rfl, ⟨by omega⟩, ⟨by omega⟩, H9⟩
             case round =>
              clear H9 hcA hcM
              obtain ⟨q, rfl, HQ, HQ1, H9⟩ := hrel
              cases gk with
              | zero => exact absurd HQ1.out (by omega)
              | succ k3 =>
               have hcM := HCM.out
               rw [← H9.out] at hcM
               by_cases cq : q < 30
               ·
                have cqb : decide ((q : Int) < 30) = true := decide_eq_true (by omega)
                have HQ3 := Aside0.mk (show q + 1 + k3 = 31 ∧ 1 ≤ k3 from by have := HQ.out; omega)
                have hq1 : (m x : Int) + (q : Int) < (m x : Int) + 30 := by omega
                have hq1b : (m x : Int) + (q : Int) < ((m x + 30 : Nat) : Int) := by omega
                have hq2 : 0 ≤ (m x : Int) + (q : Int) := by omega
                have hq3 : ((m x : Int) + (q : Int)).toNat = m x + q := by omega
                have hw4 : wrap64 ((m x : Int) + (q : Int)) = (m x : Int) + (q : Int) := by have := HM.out x cx; unfold wrap64; omega
                have hw3 : wrap64 ((q : Int) + 1) = (q : Int) + 1 := by unfold wrap64; omega
                have hwD := arD (Nat.le_trans (Nat.le_of_lt cx) HN.out)
                have hwF0 := arF (k := q) (Nat.le_trans (Nat.le_of_lt cx) HN.out) (Nat.le_trans (Nat.le_of_lt cq) (by decide))
                have hc2 := HM2.out q cq
                rw [← H9.out] at hc2
                obtain ⟨Y0, hY0⟩ : ∃ Y, 500000 + 1000 * (x : Int) = Y := ⟨_, rfl⟩
                rw [hY0] at hwD hwF0 hc2
                obtain ⟨Y, hY⟩ : ∃ Y, Y0 + (q : Int) = Y := ⟨_, rfl⟩
                rw [hY] at hwF0 hc2
                have hwD2 : wrap64 (500000 + 1000 * (x : Int)) = Y0 := by rw [hY0]; exact hwD
                have hwF : wrap64 (Y0 + (q : Int)) = Y := by rw [hY]; exact hwF0
                have hYY : (Y != Y) = false := by simp
                clear hY hY0 hwD
                iterate 68 (first | go_values | go_skip | go_guarded | go_step | go_upon | go_back)
                clear hc2 hYY hwF hwD2 hwA hw4 hq1 hq1b hq2 hq3 hwF0 hcM
                go_wp2
                go_roundg k3
                case measure => omega
                case rel => exact ⟨q + 1, by simp [hw3], ⟨HQ3.out.1⟩, ⟨HQ3.out.2⟩, H9⟩
               ·
                have cqb : decide ((q : Int) < 30) = false := decide_eq_false (by omega)
                go_wp2
                go_roundg k1
                case measure => omega
                case rel => exact ⟨x + 1, by simp [hw2], ⟨by have := HI.out; omega⟩, ⟨by have := HI.out; omega⟩, H9⟩
         ·
          have cxb : decide ((x : Int) < (j : Int)) = false := decide_eq_false (by omega)
          go_wp2
          go_ret
          exact ⟨rfl, by rw [H9.out]; exact HW.out⟩
end Go.Proofs.YtgpdaihfjnihhaaDoor.PJ
