/- view.Seen by hand: the memory's copy, blotted where its labels are not within. -/
import Derived.Test.YtlnccdgclaalbaaPJx0
import Derived.Test.YtlnccdgclaalbaaHandMem
import Derived.Test.YtlnccdgclaalbaaPJx5
import Derived.Lib.SliceRun
namespace Go.Proofs.Ytlnccdgclaalbaa.PJ
open Go.RowKit Go.Proofs.YtlnccdgclaalbaaW.PrintWords Go.Proofs.YtlnccdgclaalbaaW.PrintLast Go.Proofs.YtlnccdgclaalbaaW.PrintMore
set_option linter.unusedSimpArgs false
set_option linter.unusedVariables false
/-- Is a label within another? -/
def wi (a l : Int) : Bool := (Go.bits .andNot .u64 a l) == 0
def blot (b : Bool) (xs : List Int) : List Int := if b = true then xs else List.replicate xs.length 0
theorem blot_length (b : Bool) (xs : List Int) : (blot b xs).length = xs.length := by
  unfold blot
  split <;> simp
/-- The globals, the first i of them blotted. -/
def seenG (l : Int) (ls g : List Int) : List Int := List.zipWith (fun a x => if wi a l = true then x else 0) ls g
def fitsB (gs : List Int) (arr : List S57) (g : List Int) (rs : List (List Int)) : Bool := decide (g.length = gs.length) && decide (arr.map (fun a => a.f0) = rs.map (fun r => (r.length : Int)))
def seenR (l : Int) (arr : List S57) (rs : List (List Int)) : List (List Int) := List.zipWith (fun (a : S57) r => blot (wi a.f1 l) r) arr rs
def view_Seen.f (l0_0 : List Int) (l0_1 : List S57) (l0_2 : List Int) (l0_3 : List S48) (l1_0 : List Int) (l1_1 : List (List Int)) (a2 : Int) : Option (List Int × List (List Int)) :=
  if l1_0.length < 17592186044416 ∧ l1_1.length ≤ 11728124029610 ∧ ∀ x ∈ l1_1, x.length < 17592186044416 then (if fitsB l0_0 l0_1 l1_0 l1_1 = true then some (seenG a2 l0_0 l1_0, seenR a2 l0_1 l1_1) else some ([], [])) else none
theorem fits_l0 (x1 : List (List Int)) (x15 : List S57) (hl : x15.length = x1.length) (hm : x15.length ≤ 9223372036854775807) : ∀ d i k, i + d = x15.length → d < k →
    api_Array_int64_43.l0 k x1 x15 (x15.length : Int) (i : Int) = some (decide ((x15.drop i).map (fun a => a.f0) = (x1.drop i).map (fun r => (r.length : Int)))) := by
  intro d
  induction d with
  | zero =>
    intro i k hi hk
    obtain ⟨m, rfl⟩ : ∃ m, k = m + 1 := ⟨k - 1, by omega⟩
    rw [api_Array_int64_43.l0, if_neg (by omega), List.drop_eq_nil_of_le (by omega), List.drop_eq_nil_of_le (by omega)]
    simp
  | succ d ih =>
    intro i k hi hk
    obtain ⟨m, rfl⟩ : ∃ m, k = m + 1 := ⟨k - 1, by omega⟩
    rw [api_Array_int64_43.l0, if_pos (by omega), if_pos (by omega), if_pos (by omega), if_pos (by omega)]
    have h1 : i < x15.length := by omega
    have h2 : i < x1.length := by omega
    have e1 : rd_T57 x15 (i : Int) = x15[i] := by simp [rd_T57, List.getD_eq_getElem?_getD, h1]
    have e2 : rd_L3 x1 (i : Int) = x1[i] := by simp [rd_L3, List.getD_eq_getElem?_getD, h2]
    rw [e1, e2, ← List.getElem_cons_drop h1, ← List.getElem_cons_drop h2]
    simp only [List.map_cons]
    by_cases c : x15[i].f0 = (x1[i].length : Int)
    · rw [if_pos c, show wrap64 ((i : Int) + 1) = ((i + 1 : Nat) : Int) by unfold wrap64; omega, ih (i + 1) m (by omega) (by omega)]
      simp [c]
    · rw [if_neg c]
      simp [c]
theorem fits_f (gs : List Int) (arr : List S57) (l2 : List Int) (l3 : List S48) (g : List Int) (rs : List (List Int)) (hm : arr.length ≤ 9223372036854775807) : ∀ k, arr.length < k → view_Fits.f k gs arr l2 l3 g rs = some (fitsB gs arr g rs) := by
  intro k hk
  unfold view_Fits.f fitsB
  by_cases c : g.length = gs.length
  · rw [if_pos (by omega)]
    unfold api_Array_int64_43.f
    by_cases c2 : arr.length = rs.length
    · have h := fits_l0 rs arr c2 hm arr.length 0 k (by omega) hk
      rw [show ((0 : Nat) : Int) = 0 from rfl] at h
      rw [if_pos (by omega), h]
      simp [c]
    · rw [if_neg (by omega)]
      have : ¬ arr.map (fun a => a.f0) = rs.map (fun r => (r.length : Int)) := fun h => c2 (by simpa using congrArg List.length h)
      simp [c, this]
  · rw [if_neg (by omega)]
    simp [c]
/-! cells written in a row -/
def putAt : List Value → Nat → List Value → List Value
  | cs, _, [] => cs
  | cs, o, v :: r => putAt (cs.set o v) (o + 1) r
theorem putAt_mid : ∀ (vs mid pre tl : List Value), mid.length = vs.length → putAt (pre ++ mid ++ tl) pre.length vs = pre ++ vs ++ tl
  | [], mid, pre, tl, h => by
    have : mid = [] := List.length_eq_zero_iff.mp h
    subst this
    rfl
  | v :: vs, [], pre, tl, h => by simp at h
  | v :: vs, m :: mid, pre, tl, h => by
    have h2 := putAt_mid vs mid (pre ++ [v]) tl (by simpa using h)
    simp only [List.length_append, List.length_singleton] at h2
    show putAt ((pre ++ (m :: mid) ++ tl).set pre.length v) (pre.length + 1) vs = _
    have e : (pre ++ (m :: mid) ++ tl).set pre.length v = pre ++ [v] ++ mid ++ tl := by simp
    rw [e, h2]
    simp
theorem blk_setCells {g t : Nat} : ∀ (vs : List Value) (o : Nat) (cs : List Value) (w : World), w.heap[g]? = some (.cells cs.toArray t (0, 0)) → (w.setCells g o vs).heap[g]? = some (.cells (putAt cs o vs).toArray t (0, 0))
  | [], _, _, _, h => h
  | v :: r, o, cs, w, h => blk_setCells r (o + 1) (cs.set o v) _ (blk_put h o v (by rw [List.setIfInBounds_toArray]))
theorem belowB_setCells {B g : Nat} {w : World} (hg : B ≤ g) : ∀ (vs : List Value) (o : Nat) (W : World), Below B w W → Below B w (W.setCells g o vs)
  | [], _, _, h => h
  | v :: r, o, W, h => belowB_setCells hg r (o + 1) _ (h.setCell hg _)
theorem far_setCells {g k : Nat} (hne : k ≠ g) : ∀ (vs : List Value) (o : Nat) (w : World), (w.setCells g o vs).heap[k]? = w.heap[k]?
  | [], _, _ => rfl
  | v :: r, o, w => (far_setCells hne r (o + 1) _).trans (Below.heap_setCell w ⟨g, o, none⟩ v k hne)
theorem Mem.fill {W : World} {base n : Nat} {V : Nat → Option Addr} {G : Nat → Nat} {xs : Nat → List Int} (h : Mem W base n V G xs) {i : Nat} (hi : i < n) {o : Nat} {ys : List Int} (hp : 0 < (xs i).length) (hl : o + ys.length ≤ (xs i).length) :
    Mem (W.setCells (G i) o (nums .i64 ys)) base n V G (fun j => if j = i then (xs i).take o ++ ys ++ (xs i).drop (o + ys.length) else xs j) := by
  obtain ⟨hV, hb, tl, hh⟩ := h.at_ i hi hp
  have hlen : ((xs i).take o ++ ys ++ (xs i).drop (o + ys.length)).length = (xs i).length := by simp; omega
  have hother : ∀ j, j < n → 0 < (xs j).length → j ≠ i → (W.setCells (G i) o (nums .i64 ys)).heap[G j]? = W.heap[G j]? := fun j hj hq he => far_setCells (fun e => he (h.ne j i hj hi hq hp e)) _ _ _
  have hself : (W.setCells (G i) o (nums .i64 ys)).heap[G i]? = some (.cells (nums .i64 ((xs i).take o ++ ys ++ (xs i).drop (o + ys.length)) ++ tl).toArray 2 (0, 0)) := by
    have h1 := blk_setCells (nums .i64 ys) o _ W hh
    have e : nums .i64 (xs i) ++ tl = nums .i64 ((xs i).take o) ++ nums .i64 (((xs i).drop o).take ys.length) ++ (nums .i64 ((xs i).drop (o + ys.length)) ++ tl) := by
      have : xs i = (xs i).take o ++ ((xs i).drop o).take ys.length ++ (xs i).drop (o + ys.length) := by
        rw [List.append_assoc, ← List.drop_drop, List.take_append_drop, List.take_append_drop]
      conv => lhs; rw [this]
      simp only [nums_append, List.append_assoc]
    rw [e] at h1
    have h2 := putAt_mid (nums .i64 ys) (nums .i64 (((xs i).drop o).take ys.length)) (nums .i64 ((xs i).take o)) (nums .i64 ((xs i).drop (o + ys.length)) ++ tl) (by simp [nums_length]; omega)
    rw [nums_length, List.length_take, Nat.min_eq_left (by omega)] at h2
    rw [h2] at h1
    rw [h1, nums_append, nums_append]
    simp
  refine ⟨fun j hj hq => ?_, fun j k hj hk hq hr hg => ?_, fun j hj => ?_, fun j hj hq cs t fr hc => ?_⟩
  · by_cases e : j = i
    · subst e
      simp only [if_true] at hq ⊢
      exact ⟨hV, hb, tl, hself⟩
    · simp only [e, if_false] at hq ⊢
      obtain ⟨a, b, t2, c⟩ := h.at_ j hj hq
      exact ⟨a, b, t2, (hother j hj hq e).trans c⟩
  · refine h.ne j k hj hk ?_ ?_ hg
    · by_cases e : j = i
      · subst e
        exact hp
      · simpa only [e, if_false] using hq
    · by_cases e : k = i
      · subst e
        exact hp
      · simpa only [e, if_false] using hr
  · by_cases e : j = i
    · subst e
      simp only [if_true]
      rw [hlen]
      exact h.max j hj
    · simp only [e, if_false]
      exact h.max j hj
  · by_cases e : j = i
    · subst e
      rw [hself] at hc
      injection hc with hc
      injection hc with hc
      have hold := h.room j hj hp _ _ _ hh
      rw [← hc]
      simp only [List.size_toArray, List.length_append, nums_length] at hold ⊢
      simp only [List.length_append] at hlen
      omega
    · simp only [e, if_false] at hq
      exact h.room j hj hq cs t fr ((hother j hj hq e).symm.trans hc)
theorem zero64 (w : World) : (zeroValue 2).run Try.prog w = .ok (.int .i64 0) w := by
  obtain ⟨i, hi, hz, _⟩ := info_parts info2
  simp [zeroValue, typeInfo, hi, hz]

/-- The closure that blots a row, or leaves it. -/
theorem seen_blot.keep (label l : Int) (A : Option Addr) (n c p : Nat) (w : World) (hl : w.cell? ⟨p, 0, none⟩ = some (.int .u64 l)) (hw : wi label l = true) :
    Calls Try.prog 39 #[.int .u64 label, .slice A n c, .pointer (some ⟨p, 0, none⟩)] w fun e w' => e = .returned (.tuple #[]) ∧ w = w' := by
  have hb : ((Go.bits .andNot .u64 label l) == 0) = true := hw
  clear hw
  go_enter Try.func39, Try.ntmps39
  go_wp2_with (first | (go_at_call 40; go_in))
  go_end0
  exact ⟨rfl, rfl⟩
theorem seen_blot.clear (label l : Int) (b o n c p : Nat) (w : World) (hl : w.cell? ⟨p, 0, none⟩ = some (.int .u64 l)) (hw : wi label l = false) (hn : 0 < n) (hc : ∀ j, j < n → (w.cell? ⟨b, o + j, none⟩).isSome = true) (hf : ∀ j, j < n → w.frozen? ⟨b, o + j, none⟩ = false) :
    Calls Try.prog 39 #[.int .u64 label, .slice (some ⟨b, o, none⟩) n c, .pointer (some ⟨p, 0, none⟩)] w fun e w' => e = .returned (.tuple #[]) ∧ w.setCells b o (nums .i64 (List.replicate n 0)) = w' := by
  have hb : ((Go.bits .andNot .u64 label l) == 0) = false := hw
  have hclr : ∀ ty, (Builtin.clear_ #[27] ty #[.slice (some ⟨b, o, none⟩) n c]).run Try.prog w = .ok (.tuple #[]) (w.setCells b o (nums .i64 (List.replicate n 0))) := fun ty => by
    have := Lib.run_clear_slice (P := Try.prog) w 27 2 ty (.int .i64 0) Try.underlying27 zero64 rfl rfl b o n c hn hc hf
    rw [this]
    simp [nums]
  clear hw hc hf hn
  go_enter Try.func39, Try.ntmps39
  go_wp2_with (first | (go_at_call 40; go_in))
  go_end0
  exact ⟨rfl, rfl⟩
theorem seen_blot.empty (label l : Int) (A : Option Addr) (c p : Nat) (w : World) (hl : w.cell? ⟨p, 0, none⟩ = some (.int .u64 l)) (hw : wi label l = false) :
    Calls Try.prog 39 #[.int .u64 label, .slice A 0 c, .pointer (some ⟨p, 0, none⟩)] w fun e w' => e = .returned (.tuple #[]) ∧ w = w' := by
  have hb : ((Go.bits .andNot .u64 label l) == 0) = false := hw
  have hclr : ∀ ty, (Builtin.clear_ #[27] ty #[.slice A 0 c]).run Try.prog w = .ok (.tuple #[]) w := fun ty => by
    cases A <;> simp [Builtin.clear_, run_underlying Try.underlying27]
  clear hw
  go_enter Try.func39, Try.ntmps39
  go_wp2_with (first | (go_at_call 40; go_in))
  go_end0
  exact ⟨rfl, rfl⟩
/-- What the closure does to a row of a memory. -/
theorem seen_blot.mem (label l : Int) (A : Option Addr) (m c p : Nat) (w : World) {base n : Nat} {V : Nat → Option Addr} {G : Nat → Nat} {Y : Nat → List Int} (hl : w.cell? ⟨p, 0, none⟩ = some (.int .u64 l)) (hM : Mem w base n V G Y) {i o : Nat} (hi : i < n) (ho : o + m ≤ (Y i).length) (hA : 0 < m → A = some ⟨G i, o, none⟩) :
    Calls Try.prog 39 #[.int .u64 label, .slice A m c, .pointer (some ⟨p, 0, none⟩)] w fun e w' => e = .returned (.tuple #[]) ∧ Mem w' base n V G (fun j => if j = i then (Y i).take o ++ blot (wi label l) (((Y i).drop o).take m) ++ (Y i).drop (o + m) else Y j) ∧ Below base w w' ∧
      (∀ (k t : Nat) (cs : Array Value), t ≠ 2 → w.heap[k]? = some (.cells cs t (0, 0)) → w'.heap[k]? = some (.cells cs t (0, 0))) := by
  have hlen : (((Y i).drop o).take m).length = m := by simp; omega
  have hsplit : (Y i).take o ++ ((Y i).drop o).take m ++ (Y i).drop (o + m) = Y i := by rw [List.append_assoc, ← List.drop_drop, List.take_append_drop, List.take_append_drop]
  by_cases hw : wi label l = true
  · refine (seen_blot.keep label l A m c p w hl hw).mono ?_
    rintro e w' ⟨rfl, rfl⟩
    refine ⟨rfl, hM.congr (fun j hj => ?_) (fun j _ _ => ⟨rfl, rfl⟩), Below.refl _ _, fun _ _ _ _ h => h⟩
    by_cases e : j = i
    · subst e
      rw [if_pos rfl, hw]
      exact hsplit
    · rw [if_neg e]
  · have hw2 : wi label l = false := by simpa using hw
    rcases Nat.eq_zero_or_pos m with h0 | h0
    · subst h0
      refine (seen_blot.empty label l A c p w hl hw2).mono ?_
      rintro e w' ⟨rfl, rfl⟩
      refine ⟨rfl, hM.congr (fun j hj => ?_) (fun j _ _ => ⟨rfl, rfl⟩), Below.refl _ _, fun _ _ _ _ h => h⟩
      by_cases e : j = i
      · subst e
        rw [if_pos rfl, hw2]
        simp [blot]
      · rw [if_neg e]
    · obtain rfl := hA h0
      have hc : ∀ j, j < m → w.cell? ⟨G i, o + j, none⟩ = some (.int .i64 (rd (Y i) ((o + j : Nat) : Int))) ∧ w.frozen? ⟨G i, o + j, none⟩ = false := fun j hj => (hM.cell hi (show o + j < (Y i).length by omega)).2
      refine (seen_blot.clear label l (G i) o m c p w hl hw2 h0 (fun j hj => by rw [(hc j hj).1]; rfl) (fun j hj => (hc j hj).2)).mono ?_
      rintro e w' ⟨rfl, rfl⟩
      obtain ⟨_, hb, tl, hh⟩ := hM.at_ i hi (by omega)
      refine ⟨rfl, ?_, ?_, fun k t cs ht hk => ?_⟩
      · refine (hM.fill hi (o := o) (ys := List.replicate m 0) (by omega) (by simp; omega)).congr (fun j hj => ?_) (fun j _ _ => ⟨rfl, rfl⟩)
        by_cases e : j = i
        · subst e
          rw [if_pos rfl, if_pos rfl, hw2]
          simp only [blot, List.length_replicate, hlen, Bool.false_eq_true, if_false]
        · rw [if_neg e, if_neg e]
      · have hle := blk_lt hh
        exact belowB_setCells hb _ _ _ (Below.refl _ _)
      · refine (far_setCells (fun e => ?_) _ _ _).trans hk
        subst e
        rw [hh] at hk
        injection hk with hk
        injection hk with _ hk
        exact ht hk.symm
set_option maxHeartbeats 16000000 in
set_option maxRecDepth 100000 in
theorem view_Seen.not (A0 : Option Addr) (c0 : Nat) (gs : List Int) (A1 : Option Addr) (c1 : Nat) (arr : List S57) (A2_ : Option Addr) (c2_ : Nat) (l2 : List Int) (A3 : Option Addr) (c3 : Nat) (l3 : List S48) (B0 : Option Addr) (d0 : Nat) (g : List Int) (B1 : Option Addr) (d1 : Nat) (rs : List (List Int)) (l : Int) (w : World)
    (hr0 : Kd.C (Kd.int .u64) w A0 gs.length gs) (hc0 : gs.length ≤ c0) (hr1 : Kd.C k57 w A1 arr.length arr) (hc1 : arr.length ≤ c1) (hr2 : Kd.C (Kd.int .u64) w A2_ l2.length l2) (hc2 : l2.length ≤ c2_) (hr3 : Kd.C k48 w A3 l3.length l3) (hc3 : l3.length ≤ c3) (hs0 : Kd.C (Kd.int .i64) w B0 g.length g) (hd0 : g.length ≤ d0) (hs1 : Kd.C (Kd.slice 2 (Kd.int .i64)) w B1 rs.length rs) (hd1 : rs.length ≤ d1) (ha : arr.length ≤ 9223372036854775807) (hf : fitsB gs arr g rs = false) :
    Calls Try.prog 11 #[.agg #[.slice A0 gs.length c0, .slice A1 arr.length c1, .slice A2_ l2.length c2_, .slice A3 l3.length c3], .agg #[.slice B0 g.length d0, .slice B1 rs.length d1], .int .u64 l] w fun e w' => e = .returned (.agg #[.slice none 0 0, .slice none 0 0]) ∧ Below w.heap.size w w' := by
  have Zhr0 := Aside0.mk hr0
  have Zhc0 := Aside0.mk hc0
  have Zhr1 := Aside0.mk hr1
  have Zhc1 := Aside0.mk hc1
  have Zhr2 := Aside0.mk hr2
  have Zhc2 := Aside0.mk hc2
  have Zhr3 := Aside0.mk hr3
  have Zhc3 := Aside0.mk hc3
  have Zhs0 := Aside0.mk hs0
  have Zhd0 := Aside0.mk hd0
  have Zhs1 := Aside0.mk hs1
  have Zhd1 := Aside0.mk hd1
  have Zha := Aside0.mk ha
  have Zhf := Aside0.mk hf
  clear hr0 hc0 hr1 hc1 hr2 hc2 hr3 hc3 hs0 hd0 hs1 hd1 ha hf
  have HB := Aside0.mk (below_alloc (below_alloc (below_alloc (below_alloc (Below.refl w.heap.size w) (.cells #[.slice A0 gs.length c0, .slice A1 arr.length c1, .slice A2_ l2.length c2_, .slice A3 l3.length c3] 26)) (.cells #[.slice B0 g.length d0, .slice B1 rs.length d1] 30)) (.cells #[.int .u64 l] 32)) (.cells #[.slice none 0 0, .slice none 0 0] 30))
  have G0_ : (w.alloc (.cells #[.slice A0 gs.length c0, .slice A1 arr.length c1, .slice A2_ l2.length c2_, .slice A3 l3.length c3] 26)).heap[w.heap.size + 0]? = some (.cells #[.slice A0 gs.length c0, .slice A1 arr.length c1, .slice A2_ l2.length c2_, .slice A3 l3.length c3] 26 (0, 0)) := by
    have := heap_alloc_new w (.cells #[.slice A0 gs.length c0, .slice A1 arr.length c1, .slice A2_ l2.length c2_, .slice A3 l3.length c3] 26)
    simpa using this
  have HG0 := Aside0.mk (blk_alloc (blk_alloc (blk_alloc (G0_) (.cells #[.slice B0 g.length d0, .slice B1 rs.length d1] 30)) (.cells #[.int .u64 l] 32)) (.cells #[.slice none 0 0, .slice none 0 0] 30))
  clear G0_
  have G1_ : ((w.alloc (.cells #[.slice A0 gs.length c0, .slice A1 arr.length c1, .slice A2_ l2.length c2_, .slice A3 l3.length c3] 26)).alloc (.cells #[.slice B0 g.length d0, .slice B1 rs.length d1] 30)).heap[w.heap.size + 1]? = some (.cells #[.slice B0 g.length d0, .slice B1 rs.length d1] 30 (0, 0)) := by
    have := heap_alloc_new (w.alloc (.cells #[.slice A0 gs.length c0, .slice A1 arr.length c1, .slice A2_ l2.length c2_, .slice A3 l3.length c3] 26)) (.cells #[.slice B0 g.length d0, .slice B1 rs.length d1] 30)
    simpa using this
  have HG1 := Aside0.mk (blk_alloc (blk_alloc (G1_) (.cells #[.int .u64 l] 32)) (.cells #[.slice none 0 0, .slice none 0 0] 30))
  clear G1_
  have G2_ : (((w.alloc (.cells #[.slice A0 gs.length c0, .slice A1 arr.length c1, .slice A2_ l2.length c2_, .slice A3 l3.length c3] 26)).alloc (.cells #[.slice B0 g.length d0, .slice B1 rs.length d1] 30)).alloc (.cells #[.int .u64 l] 32)).heap[w.heap.size + 2]? = some (.cells #[.int .u64 l] 32 (0, 0)) := by
    have := heap_alloc_new ((w.alloc (.cells #[.slice A0 gs.length c0, .slice A1 arr.length c1, .slice A2_ l2.length c2_, .slice A3 l3.length c3] 26)).alloc (.cells #[.slice B0 g.length d0, .slice B1 rs.length d1] 30)) (.cells #[.int .u64 l] 32)
    simpa using this
  have HG2 := Aside0.mk (blk_alloc (G2_) (.cells #[.slice none 0 0, .slice none 0 0] 30))
  clear G2_
  have G3_ : ((((w.alloc (.cells #[.slice A0 gs.length c0, .slice A1 arr.length c1, .slice A2_ l2.length c2_, .slice A3 l3.length c3] 26)).alloc (.cells #[.slice B0 g.length d0, .slice B1 rs.length d1] 30)).alloc (.cells #[.int .u64 l] 32)).alloc (.cells #[.slice none 0 0, .slice none 0 0] 30)).heap[w.heap.size + 3]? = some (.cells #[.slice none 0 0, .slice none 0 0] 30 (0, 0)) := by
    have := heap_alloc_new (((w.alloc (.cells #[.slice A0 gs.length c0, .slice A1 arr.length c1, .slice A2_ l2.length c2_, .slice A3 l3.length c3] 26)).alloc (.cells #[.slice B0 g.length d0, .slice B1 rs.length d1] 30)).alloc (.cells #[.int .u64 l] 32)) (.cells #[.slice none 0 0, .slice none 0 0] 30)
    simpa using this
  have HG3 := Aside0.mk (G3_)
  clear G3_
  simp only [Nat.add_zero] at HG0
  obtain ⟨m0, m1⟩ := (show _ ∧ _ from ⟨blk_cell HG0.out 0, blk_cell HG0.out 1⟩)
  obtain ⟨m2, m3⟩ := (show _ ∧ _ from ⟨blk_cell HG0.out 2, blk_cell HG0.out 3⟩)
  obtain ⟨⟨p0, p1⟩, _, _⟩ := blk2 HG1.out
  obtain ⟨⟨z0, z1⟩, y0, y1⟩ := blk2 HG3.out
  go_enter Try.func11, Try.ntmps11
  go_wp2_with fail
  refine (view_Fits.calls (arr.length + 1) A0 c0 gs A1 c1 arr A2_ c2_ l2 A3 c3 l3 B0 d0 g B1 d1 rs (fitsB gs arr g rs) _ (Kd.C_below Zhr0.out HB.out) Zhc0.out (Kd.C_below Zhr1.out HB.out) Zhc1.out (Kd.C_below Zhr2.out HB.out) Zhc2.out (Kd.C_below Zhr3.out HB.out) Zhc3.out (Kd.C_below Zhs0.out HB.out) Zhd0.out (Kd.C_below Zhs1.out HB.out) Zhd1.out (fits_f gs arr l2 l3 g rs Zha.out _ (Nat.lt_succ_self _))).mono ?_
  rintro e w1 ⟨rfl, hb⟩
  rw [Zhf.out]
  clear m0 m1 m2 m3 p0 p1 z0 z1 y0 y1
  replace HG0 := Aside0.mk (blk_below HG0.out hb)
  replace HG1 := Aside0.mk (blk_below HG1.out hb)
  replace HG2 := Aside0.mk (blk_below HG2.out hb)
  replace HG3 := Aside0.mk (blk_below HG3.out hb)
  replace HB := Aside0.mk (below_step HB.out hb)
  clear hb
  obtain ⟨m0, m1⟩ := (show _ ∧ _ from ⟨blk_cell HG0.out 0, blk_cell HG0.out 1⟩)
  obtain ⟨m2, m3⟩ := (show _ ∧ _ from ⟨blk_cell HG0.out 2, blk_cell HG0.out 3⟩)
  obtain ⟨⟨p0, p1⟩, _, _⟩ := blk2 HG1.out
  obtain ⟨⟨z0, z1⟩, y0, y1⟩ := blk2 HG3.out
  go_wp2
  refine bodyPost_ret (results_cell_row rfl _ _ (w.heap.size + 3) 30 #[.slice none 0 0, .slice none 0 0] (0, 0) _ rfl (blkput2 HG3.out _ _) Try.underlying30 rfl (by kernel_rfl)) rfl ?_
  exact ⟨rfl, below_set (below_set HB.out (by omega)) (by omega)⟩
theorem blot_one (b : Bool) (x : Int) : blot b [x] = [if b = true then x else 0] := by
  unfold blot
  split <;> rfl
def gPart (l : Int) (gs g : List Int) (i : Nat) : List Int := seenG l (gs.take i) (g.take i) ++ g.drop i
theorem gPart_length (l : Int) (gs g : List Int) (i : Nat) (h : g.length = gs.length) (hi : i ≤ g.length) : (gPart l gs g i).length = g.length := by
  simp [gPart, seenG]
  omega
theorem gPart_zero (l : Int) (gs g : List Int) : gPart l gs g 0 = g := by simp [gPart, seenG]
theorem gPart_full (l : Int) (gs g : List Int) (h : g.length = gs.length) : gPart l gs g g.length = seenG l gs g := by
  rw [gPart, List.take_length, h, List.take_length, List.drop_eq_nil_of_le (by omega), List.append_nil]
theorem gPart_succ (l : Int) (gs g : List Int) (i : Nat) (h : g.length = gs.length) (hi : i < g.length) :
    (gPart l gs g i).take i ++ blot (wi (rd gs (i : Int)) l) (((gPart l gs g i).drop i).take 1) ++ (gPart l gs g i).drop (i + 1) = gPart l gs g (i + 1) := by
  have hl : (seenG l (gs.take i) (g.take i)).length = i := by simp [seenG]; omega
  have hg : i < gs.length := by omega
  have e1 : rd gs (i : Int) = gs[i] := by simp [rd, hg]
  rw [e1]
  unfold gPart
  rw [List.take_left' hl, List.drop_left' hl, show i + 1 = i + 1 from rfl, ← List.drop_drop, List.drop_left' hl, List.drop_drop, ← List.getElem_cons_drop hi]
  rw [List.take_succ_cons, List.take_zero, blot_one]
  rw [List.take_succ_eq_append_getElem hg, List.take_succ_eq_append_getElem hi]
  unfold seenG
  rw [List.zipWith_append (by simp; omega)]
  simp
def rPart (l : Int) (arr : List S57) (X : Nat → List Int) (g' : List Int) (i : Nat) : Nat → List Int := fun j => if j = 0 then g' else if j ≤ i then blot (wi (rd_T57 arr ((j - 1 : Nat) : Int)).f1 l) (X j) else X j
theorem rPart_length (l : Int) (arr : List S57) (X : Nat → List Int) (g' : List Int) (i j : Nat) : (rPart l arr X g' i (j + 1)).length = (X (j + 1)).length := by
  unfold rPart
  rw [if_neg (by omega)]
  split
  · rw [blot_length]
  · rfl
theorem gz_start (l : Int) (gs g : List Int) (rs : List (List Int)) (j : Nat) : (if j = 0 then gPart l gs g 0 else memX g rs j) = memX g rs j := by
  by_cases e : j = 0
  · rw [if_pos e, e, gPart_zero]
    rfl
  · rw [if_neg e]
theorem rPart_start (l : Int) (arr : List S57) (X : Nat → List Int) (g' : List Int) (j : Nat) : rPart l arr X g' 0 j = (if j = 0 then g' else X j) := by
  unfold rPart
  by_cases e : j = 0
  · rw [if_pos e, if_pos e]
  · rw [if_neg e, if_neg e, if_neg (by omega)]
theorem rPart_step (l : Int) (arr : List S57) (X : Nat → List Int) (g' : List Int) (i j m : Nat) (x : S57) (hx : rd_T57 arr (i : Int) = x) (hm : (X (i + 1)).length = m) :
    rPart l arr X g' (i + 1) j = (if j = i + 1 then (rPart l arr X g' i (i + 1)).take 0 ++ blot (wi x.f1 l) (((rPart l arr X g' i (i + 1)).drop 0).take m) ++ (rPart l arr X g' i (i + 1)).drop (0 + m) else rPart l arr X g' i j) := by
  have e : rPart l arr X g' i (i + 1) = X (i + 1) := by
    unfold rPart
    rw [if_neg (by omega), if_neg (by omega)]
  rw [e]
  by_cases h : j = i + 1
  · subst h
    rw [if_pos rfl]
    unfold rPart
    rw [if_neg (by omega), if_pos (Nat.le_refl _), Nat.add_sub_cancel, hx, List.take_zero, List.nil_append, List.drop_zero, List.take_of_length_le (show (X (i + 1)).length ≤ m by omega), List.drop_eq_nil_of_le (by omega), List.append_nil]
  · rw [if_neg h]
    unfold rPart
    by_cases h0 : j = 0
    · rw [if_pos h0, if_pos h0]
    · rw [if_neg h0, if_neg h0]
      by_cases h1 : j ≤ i
      · rw [if_pos h1, if_pos (by omega)]
      · rw [if_neg h1, if_neg (by omega)]
theorem Mem.drew {W : World} {base n : Nat} {V : Nat → Option Addr} {G : Nat → Nat} {xs : Nat → List Int} (h : Mem W base n V G xs) : Mem W.drew base n V G xs := ⟨h.at_, h.ne, h.max, h.room⟩
theorem heads_len {n : Nat} {V : Nat → Option Addr} {X Y : Nat → List Int} (h : ∀ j, j < n → (Y (j + 1)).length = (X (j + 1)).length) : heads n V Y = heads n V X := by
  apply List.ext_getElem?
  intro j
  by_cases hj : j < n
  · rw [heads_at hj, heads_at hj, h j hj]
  · rw [List.getElem?_eq_none (by rw [heads_length]; omega), List.getElem?_eq_none (by rw [heads_length]; omega)]
theorem seenX_eq (l : Int) (arr : List S57) (rs : List (List Int)) (g g' : List Int) (h : arr.length = rs.length) : ∀ j, j < rs.length + 1 → rPart l arr (memX g rs) g' rs.length j = memX g' (seenR l arr rs) j := by
  intro j hj
  cases j with
  | zero => rfl
  | succ j =>
    have h1 : j < rs.length := by omega
    have h2 : j < arr.length := by omega
    unfold rPart
    rw [if_neg (by omega), if_pos (by omega)]
    simp only [Nat.add_sub_cancel, memX, rd_T57, List.getD_cons_succ, Int.toNat_natCast]
    rw [List.getD_eq_getElem?_getD, List.getD_eq_getElem?_getD, List.getD_eq_getElem?_getD, List.getElem?_eq_getElem h2, List.getElem?_eq_getElem h1]
    simp [seenR, List.getElem?_zipWith, h1, h2]
theorem seenR_length (l : Int) (arr : List S57) (rs : List (List Int)) (h : arr.length = rs.length) : (seenR l arr rs).length = rs.length := by
  simp [seenR]
  omega
set_option maxHeartbeats 16000000 in
set_option maxRecDepth 100000 in
theorem view_Seen.out (A0 : Option Addr) (c0 : Nat) (gs : List Int) (A1 : Option Addr) (c1 : Nat) (arr : List S57) (A2_ : Option Addr) (c2_ : Nat) (l2 : List Int) (A3 : Option Addr) (c3 : Nat) (l3 : List S48) (B0 : Option Addr) (d0 : Nat) (g : List Int) (B1 : Option Addr) (d1 : Nat) (rs : List (List Int)) (l : Int) (w : World)
    (hr0 : Kd.C (Kd.int .u64) w A0 gs.length gs) (hc0 : gs.length ≤ c0) (hr1 : Kd.C k57 w A1 arr.length arr) (hc1 : arr.length ≤ c1) (hr2 : Kd.C (Kd.int .u64) w A2_ l2.length l2) (hc2 : l2.length ≤ c2_) (hr3 : Kd.C k48 w A3 l3.length l3) (hc3 : l3.length ≤ c3) (hs0 : Kd.C (Kd.int .i64) w B0 g.length g) (hd0 : g.length ≤ d0) (hs1 : Kd.C (Kd.slice 2 (Kd.int .i64)) w B1 rs.length rs) (hd1 : rs.length ≤ d1) (ha : arr.length ≤ 11728124029610) (hl0 : g.length < 17592186044416) (hlr : ∀ x ∈ rs, x.length < 17592186044416) (hf : fitsB gs arr g rs = true) :
    Calls Try.prog 11 #[.agg #[.slice A0 gs.length c0, .slice A1 arr.length c1, .slice A2_ l2.length c2_, .slice A3 l3.length c3], .agg #[.slice B0 g.length d0, .slice B1 rs.length d1], .int .u64 l] w fun e w' => ∃ v0 v1, e = .returned (.agg #[v0, v1]) ∧ MemOut w' w.heap.size v0 v1 rs.length (memX (seenG l gs g) (seenR l arr rs)) ∧ Below w.heap.size w w' := by
  have hlg : g.length = gs.length := by
    unfold fitsB at hf
    simp only [Bool.and_eq_true, decide_eq_true_eq] at hf
    exact hf.1
  have hlr2 : arr.length = rs.length := by
    unfold fitsB at hf
    simp only [Bool.and_eq_true, decide_eq_true_eq] at hf
    simpa using congrArg List.length hf.2
  have Zhr0 := Aside0.mk hr0
  have Zhc0 := Aside0.mk hc0
  have Zhr1 := Aside0.mk hr1
  have Zhc1 := Aside0.mk hc1
  have Zhr2 := Aside0.mk hr2
  have Zhc2 := Aside0.mk hc2
  have Zhr3 := Aside0.mk hr3
  have Zhc3 := Aside0.mk hc3
  have Zhs0 := Aside0.mk hs0
  have Zhd0 := Aside0.mk hd0
  have Zhs1 := Aside0.mk hs1
  have Zhd1 := Aside0.mk hd1
  have Zhf := Aside0.mk hf
  have Zhlg := Aside0.mk hlg
  have Zhlr2 := Aside0.mk hlr2
  have Zhl0 := Aside0.mk hl0
  have Zhlr := Aside0.mk hlr
  have Zha := Aside0.mk (show arr.length ≤ 9223372036854775807 by omega)
  have Zhb := Aside0.mk (show rs.length ≤ 11728124029610 by omega)
  clear hr0 hc0 hr1 hc1 hr2 hc2 hr3 hc3 hs0 hd0 hs1 hd1 ha hf hlg hlr2 hl0 hlr
  have HB := Aside0.mk (below_alloc (below_alloc (below_alloc (below_alloc (Below.refl w.heap.size w) (.cells #[.slice A0 gs.length c0, .slice A1 arr.length c1, .slice A2_ l2.length c2_, .slice A3 l3.length c3] 26)) (.cells #[.slice B0 g.length d0, .slice B1 rs.length d1] 30)) (.cells #[.int .u64 l] 32)) (.cells #[.slice none 0 0, .slice none 0 0] 30))
  have G0_ : (w.alloc (.cells #[.slice A0 gs.length c0, .slice A1 arr.length c1, .slice A2_ l2.length c2_, .slice A3 l3.length c3] 26)).heap[w.heap.size + 0]? = some (.cells #[.slice A0 gs.length c0, .slice A1 arr.length c1, .slice A2_ l2.length c2_, .slice A3 l3.length c3] 26 (0, 0)) := by
    have := heap_alloc_new w (.cells #[.slice A0 gs.length c0, .slice A1 arr.length c1, .slice A2_ l2.length c2_, .slice A3 l3.length c3] 26)
    simpa using this
  have HG0 := Aside0.mk (blk_alloc (blk_alloc (blk_alloc (G0_) (.cells #[.slice B0 g.length d0, .slice B1 rs.length d1] 30)) (.cells #[.int .u64 l] 32)) (.cells #[.slice none 0 0, .slice none 0 0] 30))
  clear G0_
  have G1_ : ((w.alloc (.cells #[.slice A0 gs.length c0, .slice A1 arr.length c1, .slice A2_ l2.length c2_, .slice A3 l3.length c3] 26)).alloc (.cells #[.slice B0 g.length d0, .slice B1 rs.length d1] 30)).heap[w.heap.size + 1]? = some (.cells #[.slice B0 g.length d0, .slice B1 rs.length d1] 30 (0, 0)) := by
    have := heap_alloc_new (w.alloc (.cells #[.slice A0 gs.length c0, .slice A1 arr.length c1, .slice A2_ l2.length c2_, .slice A3 l3.length c3] 26)) (.cells #[.slice B0 g.length d0, .slice B1 rs.length d1] 30)
    simpa using this
  have HG1 := Aside0.mk (blk_alloc (blk_alloc (G1_) (.cells #[.int .u64 l] 32)) (.cells #[.slice none 0 0, .slice none 0 0] 30))
  clear G1_
  have G2_ : (((w.alloc (.cells #[.slice A0 gs.length c0, .slice A1 arr.length c1, .slice A2_ l2.length c2_, .slice A3 l3.length c3] 26)).alloc (.cells #[.slice B0 g.length d0, .slice B1 rs.length d1] 30)).alloc (.cells #[.int .u64 l] 32)).heap[w.heap.size + 2]? = some (.cells #[.int .u64 l] 32 (0, 0)) := by
    have := heap_alloc_new ((w.alloc (.cells #[.slice A0 gs.length c0, .slice A1 arr.length c1, .slice A2_ l2.length c2_, .slice A3 l3.length c3] 26)).alloc (.cells #[.slice B0 g.length d0, .slice B1 rs.length d1] 30)) (.cells #[.int .u64 l] 32)
    simpa using this
  have HG2 := Aside0.mk (blk_alloc (G2_) (.cells #[.slice none 0 0, .slice none 0 0] 30))
  clear G2_
  have G3_ : ((((w.alloc (.cells #[.slice A0 gs.length c0, .slice A1 arr.length c1, .slice A2_ l2.length c2_, .slice A3 l3.length c3] 26)).alloc (.cells #[.slice B0 g.length d0, .slice B1 rs.length d1] 30)).alloc (.cells #[.int .u64 l] 32)).alloc (.cells #[.slice none 0 0, .slice none 0 0] 30)).heap[w.heap.size + 3]? = some (.cells #[.slice none 0 0, .slice none 0 0] 30 (0, 0)) := by
    have := heap_alloc_new (((w.alloc (.cells #[.slice A0 gs.length c0, .slice A1 arr.length c1, .slice A2_ l2.length c2_, .slice A3 l3.length c3] 26)).alloc (.cells #[.slice B0 g.length d0, .slice B1 rs.length d1] 30)).alloc (.cells #[.int .u64 l] 32)) (.cells #[.slice none 0 0, .slice none 0 0] 30)
    simpa using this
  have HG3 := Aside0.mk (G3_)
  clear G3_
  simp only [Nat.add_zero] at HG0
  obtain ⟨m0, m1⟩ := (show _ ∧ _ from ⟨blk_cell HG0.out 0, blk_cell HG0.out 1⟩)
  obtain ⟨m2, m3⟩ := (show _ ∧ _ from ⟨blk_cell HG0.out 2, blk_cell HG0.out 3⟩)
  obtain ⟨⟨p0, p1⟩, _, _⟩ := blk2 HG1.out
  obtain ⟨⟨z0, z1⟩, y0, y1⟩ := blk2 HG3.out
  go_enter Try.func11, Try.ntmps11
  go_wp2_with fail
  refine (view_Fits.calls (arr.length + 1) A0 c0 gs A1 c1 arr A2_ c2_ l2 A3 c3 l3 B0 d0 g B1 d1 rs (fitsB gs arr g rs) _ (Kd.C_below Zhr0.out HB.out) Zhc0.out (Kd.C_below Zhr1.out HB.out) Zhc1.out (Kd.C_below Zhr2.out HB.out) Zhc2.out (Kd.C_below Zhr3.out HB.out) Zhc3.out (Kd.C_below Zhs0.out HB.out) Zhd0.out (Kd.C_below Zhs1.out HB.out) Zhd1.out (fits_f gs arr l2 l3 g rs Zha.out _ (Nat.lt_succ_self _))).mono ?_
  rintro e w1 ⟨rfl, hb⟩
  rw [Zhf.out]
  clear m0 m1 m2 m3 p0 p1 z0 z1 y0 y1
  replace HG0 := Aside0.mk (blk_below HG0.out hb)
  replace HG1 := Aside0.mk (blk_below HG1.out hb)
  replace HG2 := Aside0.mk (blk_below HG2.out hb)
  replace HG3 := Aside0.mk (blk_below HG3.out hb)
  replace HB := Aside0.mk (below_step HB.out hb)
  clear hb
  obtain ⟨m0, m1⟩ := (show _ ∧ _ from ⟨blk_cell HG0.out 0, blk_cell HG0.out 1⟩)
  obtain ⟨m2, m3⟩ := (show _ ∧ _ from ⟨blk_cell HG0.out 2, blk_cell HG0.out 3⟩)
  obtain ⟨⟨p0, p1⟩, _, _⟩ := blk2 HG1.out
  obtain ⟨⟨z0, z1⟩, y0, y1⟩ := blk2 HG3.out
  go_wp2_with fail
  refine (view_Copy.out B0 d0 g B1 d1 rs _ (Kd.C_below Zhs0.out HB.out) Zhd0.out (Kd.C_below Zhs1.out HB.out) Zhd1.out Zhl0.out Zhb.out Zhlr.out).mono ?_
  rintro e w2 ⟨v0, v1, rfl, ⟨V, G, A, rfl, rfl, hn, hA, hM⟩, hb⟩
  clear m0 m1 m2 m3 p0 p1 z0 z1 y0 y1
  have hle1 := below_size HB.out
  replace hM := hM.low hle1
  replace HG0 := Aside0.mk (blk_below HG0.out hb)
  replace HG1 := Aside0.mk (blk_below HG1.out hb)
  replace HG2 := Aside0.mk (blk_below HG2.out hb)
  replace HG3 := Aside0.mk (blk_below HG3.out hb)
  replace HB := Aside0.mk (below_step HB.out hb)
  clear hb
  have hQ := heap_alloc_new w2 (.cells #[.slice (V 0) (memX g rs 0).length (memX g rs 0).length, .slice A rs.length rs.length] 30)
  have hba := below_alloc (Below.refl w2.heap.size w2) (.cells #[.slice (V 0) (memX g rs 0).length (memX g rs 0).length, .slice A rs.length rs.length] 30)
  obtain ⟨m0, m1⟩ := (show _ ∧ _ from ⟨blk_cell HG0.out 0, blk_cell HG0.out 1⟩)
  obtain ⟨m2, m3⟩ := (show _ ∧ _ from ⟨blk_cell HG0.out 2, blk_cell HG0.out 3⟩)
  obtain ⟨⟨p0, p1⟩, _, _⟩ := blk2 HG1.out
  obtain ⟨⟨z0, z1⟩, y0, y1⟩ := blk2 HG3.out
  have hML := hM.below hba
  have hAL : 0 < rs.length → ∃ b, A = some ⟨b, 0, none⟩ ∧ w.heap.size ≤ b ∧ (w2.alloc (.cells #[.slice (V 0) (memX g rs 0).length (memX g rs 0).length, .slice A rs.length rs.length] 30)).heap[b]? = some (.cells (heads rs.length V (memX g rs)).toArray 27 (0, 0)) := fun hp => by
    obtain ⟨b, e1, e2, e3⟩ := hA hp
    exact ⟨b, e1, Nat.le_trans hle1 e2, blk_below e3 hba⟩
  have hK0 := blk_below HG0.out hba
  have hK1 := blk_below HG1.out hba
  have hK2 := blk_below HG2.out hba
  have hK3 := blk_below HG3.out hba
  have hKB := below_step HB.out hba
  have hqlt : w.heap.size + 3 < w2.heap.size := blk_lt HG3.out
  obtain ⟨e0, e1⟩ := (show _ ∧ _ from ⟨blk_cell hK0 0, blk_cell hK0 1⟩)
  go_wp2_with fail
  clear e0 e1
  clear m0 m1 m2 m3 p0 p1 z0 z1 y0 y1
  obtain ⟨q, hq⟩ : ∃ q, w2.heap.size = q := ⟨_, rfl⟩
  obtain ⟨wL, hwL⟩ : ∃ W, w2.alloc (.cells #[.slice (V 0) (memX g rs 0).length (memX g rs 0).length, .slice A rs.length rs.length] 30) = W := ⟨_, rfl⟩
  rw [hwL] at hQ hML hAL hK0 hK1 hK2 hK3 hKB ⊢
  rw [hq] at hQ hqlt ⊢
  clear hwL hba hM hA HG0 HG1 HG2 HG3 HB hq
  obtain ⟨b, hbA, hAH⟩ : ∃ b, (0 < rs.length → A = some ⟨b, 0, none⟩) ∧ (0 < rs.length → wL.heap[b]? = some (.cells (heads rs.length V (memX g rs)).toArray 27 (0, 0))) := by
    rcases Nat.eq_zero_or_pos rs.length with h0 | h0
    · exact ⟨0, fun h => by omega, fun h => by omega⟩
    · obtain ⟨b, e1, e2, e3⟩ := hAL h0
      exact ⟨b, fun _ => e1, fun _ => e3⟩
  have hbb : 0 < rs.length → w.heap.size ≤ b := fun h0 => by
    obtain ⟨b2, e1, e2, e3⟩ := hAL h0
    rw [hbA h0] at e1
    injection e1 with e1
    injection e1 with e1
    omega
  clear hAL
  have LM := Aside0.mk hML
  have LQ := Aside0.mk hQ
  have LH := Aside0.mk hAH
  have LA := Aside0.mk hbA
  have LBB := Aside0.mk hbb
  have LB := Aside0.mk hKB
  have L0 := Aside0.mk hK0
  have L2 := Aside0.mk hK2
  have L3 := Aside0.mk hK3
  have LS := Aside0.mk hqlt
  have LNN := Aside0.mk hn
  clear hML hQ hAH hbA hbb hKB hK0 hK1 hK2 hK3 hqlt hn
  skip
  go_loopg [24] (gs.length + 1) (fun kq v24 w' => ∃ (i : Nat), v24 = .int .i64 (i : Int) ∧ Aside0 (i + kq = gs.length + 1) ∧ Aside0 (1 ≤ kq) ∧ Aside0 (Mem w' w.heap.size (rs.length + 1) V G (fun j => if j = 0 then gPart l gs g i else memX g rs j)) ∧ Aside0 (w'.heap[q]? = some (.cells #[.slice (V 0) (memX g rs 0).length (memX g rs 0).length, .slice A rs.length rs.length] 30 (0, 0))) ∧ Aside0 (0 < rs.length → w'.heap[b]? = some (.cells (heads rs.length V (memX g rs)).toArray 27 (0, 0))) ∧ Aside0 (w'.heap[w.heap.size]? = some (.cells #[.slice A0 gs.length c0, .slice A1 arr.length c1, .slice A2_ l2.length c2_, .slice A3 l3.length c3] 26 (0, 0))) ∧ Aside0 (w'.heap[w.heap.size + 2]? = some (.cells #[.int .u64 l] 32 (0, 0))) ∧ Aside0 (w'.heap[w.heap.size + 3]? = some (.cells #[.slice none 0 0, .slice none 0 0] 30 (0, 0))) ∧ Aside0 (Below w.heap.size w w'))
  case atStart => exact ⟨0, rfl, ⟨by omega⟩, ⟨by omega⟩, ⟨LM.out.congr (fun j hj => gz_start l gs g rs j) (fun j _ _ => ⟨rfl, rfl⟩)⟩, LQ, LH, L0, L2, L3, LB⟩
  case round =>
    clear LM LQ LH L0 L2 L3 LB
    obtain ⟨i, rfl, HI, HI1, LM, LQ, LH, L0, L2, L3, LB⟩ := hrel
    cases gk with
    | zero => exact absurd HI1.out (by omega)
    | succ k1 =>
      by_cases ci : i < gs.length
      · have cib : decide ((i : Int) < (gs.length : Int)) = true := decide_eq_true (by omega)
        have hii : (i : Int) < (gs.length : Int) := by omega
        have hig : i < g.length := by have := Zhlg.out; omega
        have hw2 : wrap64 ((i : Int) + 1) = (i : Int) + 1 := by have := Zhl0.out; unfold wrap64; omega
        obtain ⟨ad, hA0, hce⟩ := Kd.at_int (Kd.C_below Zhr0.out LB.out) (i : Int) (by omega) hii
        subst hA0
        rw [Int.toNat_natCast] at hce
        obtain ⟨la, hla⟩ : ∃ la, rd gs (i : Int) = la := ⟨_, rfl⟩
        rw [hla] at hce
        obtain ⟨i09, hi09, _, hsz9, _⟩ := info_parts info2
        have hVG := (LM.out.cell (i := 0) (j := i) (by omega) (show i < (gPart l gs g i).length by rw [gPart_length _ _ _ _ Zhlg.out (by omega)]; exact hig)).1
        have hcut := cut_mid (P := Try.prog) 27 2 .i64 .i64 Try.underlying27 hi09 1 hsz9 (V 0) g.length g.length (i : Int) ((i : Int) + 1) (by omega) (by omega) (by omega) (Nat.le_refl _)
        rw [Int.toNat_natCast, if_neg (show ¬ g.length = i by omega), hVG, show ((i : Int) + 1).toNat - i = 1 by omega] at hcut
        simp only [Option.map_some, Nat.mul_one, add_plain] at hcut
        rw [← hVG] at hcut
        clear hVG
        have hX0 : (memX g rs 0).length = g.length := rfl
        rw [hX0] at LQ
        obtain ⟨⟨s0, s1⟩, _, _⟩ := blk2 LQ.out
        clear hi09 hsz9 hX0
        have HLA := Aside0.mk hla
        have HIG := Aside0.mk hig
        clear hla hig
        go_wp2_with fail
        refine (seen_blot.mem la l (some ⟨G 0, i, none⟩) 1 (g.length - i) (w.heap.size + 2) _ (blk_cell L2.out 0) LM.out (i := 0) (o := i) (by omega) (by rw [if_pos rfl, gPart_length _ _ _ _ Zhlg.out (by have := HIG.out; omega)]; have := HIG.out; omega) (fun _ => rfl)).mono ?_
        rintro e w5 ⟨rfl, hM5, hb5, hk5⟩
        have HK := Aside0.mk hk5
        have HM5 := Aside0.mk hM5
        have HB5 := Aside0.mk hb5
        clear hk5 hM5 hb5
        go_wp2
        go_roundg k1
        case measure => omega
        case rel =>
          refine ⟨i + 1, by simp [hw2], ⟨by have := HI.out; omega⟩, ⟨by have := HI.out; omega⟩, ⟨HM5.out.congr (fun j hj => ?_) (fun j _ _ => ⟨rfl, rfl⟩)⟩, ⟨?_⟩, ⟨fun hp => HK.out _ _ _ (by decide) (LH.out hp)⟩, ⟨HK.out _ _ _ (by decide) L0.out⟩, ⟨HK.out _ _ _ (by decide) L2.out⟩, ⟨HK.out _ _ _ (by decide) L3.out⟩, ⟨Below.trans LB.out HB5.out⟩⟩
          · by_cases e : j = 0
            · rw [if_pos e, if_pos e, if_pos trivial, ← HLA.out]
              exact (gPart_succ l gs g i Zhlg.out HIG.out).symm
            · rw [if_neg e, if_neg e, if_neg e]
          · exact HK.out _ _ _ (by decide) LQ.out
      · have cib : decide ((i : Int) < (gs.length : Int)) = false := decide_eq_false (by omega)
        obtain rfl : i = gs.length := by have := HI.out; omega
        clear HI HI1 ci
        obtain ⟨m0, m1⟩ := (show _ ∧ _ from ⟨blk_cell L0.out 0, blk_cell L0.out 1⟩)
        go_wp2_with fail
        clear m0 m1
        obtain ⟨g', hg'⟩ : ∃ g', gPart l gs g gs.length = g' := ⟨_, rfl⟩
        rw [hg'] at LM
        have HG := Aside0.mk (show seenG l gs g = g' by rw [← hg', ← Zhlg.out, gPart_full l gs g Zhlg.out])
        clear hg'
        go_loopg [42] (arr.length + 1) (fun kq v42 w' => ∃ (i : Nat), v42 = .int .i64 (i : Int) ∧ Aside0 (i + kq = arr.length + 1) ∧ Aside0 (1 ≤ kq) ∧ Aside0 (Mem w' w.heap.size (rs.length + 1) V G (rPart l arr (memX g rs) g' i)) ∧ Aside0 (w'.heap[q]? = some (.cells #[.slice (V 0) (memX g rs 0).length (memX g rs 0).length, .slice A rs.length rs.length] 30 (0, 0))) ∧ Aside0 (0 < rs.length → w'.heap[b]? = some (.cells (heads rs.length V (memX g rs)).toArray 27 (0, 0))) ∧ Aside0 (w'.heap[w.heap.size + 2]? = some (.cells #[.int .u64 l] 32 (0, 0))) ∧ Aside0 (w'.heap[w.heap.size + 3]? = some (.cells #[.slice none 0 0, .slice none 0 0] 30 (0, 0))) ∧ Aside0 (Below w.heap.size w w'))
        case atStart => exact ⟨0, rfl, ⟨by omega⟩, ⟨by omega⟩, ⟨LM.out.congr (fun j hj => rPart_start l arr (memX g rs) g' j) (fun j _ _ => ⟨rfl, rfl⟩)⟩, LQ, LH, L2, L3, LB⟩
        case round =>
          clear LM LQ LH L0 L2 L3 LB
          obtain ⟨i, rfl, HI, HI1, LM, LQ, LH, L2, L3, LB⟩ := hrel
          cases gk with
          | zero => exact absurd HI1.out (by omega)
          | succ k1 =>
            by_cases ci : i < arr.length
            · have cib : decide ((i : Int) < (arr.length : Int)) = true := decide_eq_true (by omega)
              have hii : (i : Int) < (arr.length : Int) := by omega
              have hir : i < rs.length := by have := Zhlr2.out; omega
              have hirI : (i : Int) < (rs.length : Int) := by omega
              have hw2 : wrap64 ((i : Int) + 1) = (i : Int) + 1 := by have := Zhb.out; unfold wrap64; omega
              obtain ⟨ad, hA1, hce, hce1⟩ := at_T57 (Kd.C_below Zhr1.out LB.out) (i : Int) (by omega) hii
              subst hA1
              rw [Int.toNat_natCast] at hce hce1
              obtain ⟨x, hx⟩ : ∃ x, rd_T57 arr (i : Int) = x := ⟨_, rfl⟩
              rw [hx] at hce hce1
              have HX := Aside0.mk hx
              clear hx
              have hbA := LA.out (by omega)
              subst hbA
              have HIR := Aside0.mk hir
              have hLH := LH.out (by omega)
              have hbA : Below wr.heap.size wr (wr.alloc (.cells #[.int .i64 x.f0, .int .u64 x.f1] 57)) := below_alloc (Below.refl _ _) _
              have hgA := heap_alloc_new wr (.cells #[.int .i64 x.f0, .int .u64 x.f1] 57)
              go_wp2_with fail
              clear hce hce1
              obtain ⟨wa, hwa⟩ : ∃ W, wr.alloc (.cells #[.int .i64 x.f0, .int .u64 x.f1] 57) = W := ⟨_, rfl⟩
              rw [hwa] at hbA hgA ⊢
              clear hwa
              obtain ⟨q0, q1⟩ := (blk2 (blk_below LQ.out hbA)).1
              obtain ⟨a0, a1⟩ := (blk2 hgA).1
              have hc0 := cellH (blk_below hLH hbA) (show i < (heads rs.length V (memX g rs)).length by rw [heads_length]; exact hir)
              have hc1 : (heads rs.length V (memX g rs))[i]'(by rw [heads_length]; exact hir) = .slice (V (i + 1)) (memX g rs (i + 1)).length (memX g rs (i + 1)).length := by
                have := heads_at (V := V) (xs := memX g rs) hir
                rw [List.getElem?_eq_getElem (by rw [heads_length]; exact hir)] at this
                exact Option.some.inj this
              rw [hc1] at hc0
              clear hc1 hLH hir
              obtain ⟨m, hm⟩ : ∃ m, (memX g rs (i + 1)).length = m := ⟨_, rfl⟩
              rw [hm] at hc0
              have HML := Aside0.mk (show (rPart l arr (memX g rs) g' i (i + 1)).length = m from (rPart_length l arr (memX g rs) g' i i).trans hm)
              have HMX := Aside0.mk hm
              clear hm
              have HMa := Aside0.mk (LM.out.below hbA)
              refine start_ (n := 9) (S := fun w' => w'.cell? ⟨wr.heap.size, 1, none⟩ = some (.int .u64 x.f1) ∧ w'.cell? ⟨q, 1, none⟩ = some (.slice (some ⟨b, 0, none⟩) rs.length rs.length) ∧ w'.cell? ⟨b, i, none⟩ = some (.slice (V (i + 1)) m m)) (ds := [8]) #[false, false, false, false, false, false, false, false, false] (by kernel_rfl) rfl rfl ⟨a1, q1, hc0⟩ (fun hHeld => ?_)
              refine pure_ (i := 0) (N := some 47) (v := ?_) (a' := ?_) #[true, false, false, false, false, false, false, false, false] rfl rfl (by kernel_rfl) (fun _ _ _ h => h) (Or.inl ⟨by rfl, ?_⟩) ?_ ?_
              rotate_left
              · intro w'
                go_simp
                with_reducible rfl
              rotate_left
              · simp only [Act.put, List.setIfInBounds_toArray, List.set_cons_zero, List.set_cons_succ, i64_w, i32_w]
                rfl
              refine pure_ (i := 1) (N := some 48) (v := ?_) (a' := ?_) #[true, true, false, false, false, false, false, false, false] rfl rfl (by kernel_rfl) (fun _ _ _ h => h) (Or.inl ⟨by rfl, ?_⟩) ?_ ?_
              rotate_left
              · intro w'
                go_simp
                with_reducible rfl
              rotate_left
              · simp only [Act.put, List.setIfInBounds_toArray, List.set_cons_zero, List.set_cons_succ, i64_w, i32_w]
                rfl
              refine pure_ (i := 3) (N := some 50) (v := ?_) (a' := ?_) #[true, true, false, true, false, false, false, false, false] rfl rfl (by kernel_rfl) (fun _ _ _ h => h) (Or.inl ⟨by rfl, ?_⟩) ?_ ?_
              rotate_left
              · intro w'
                go_simp
                with_reducible rfl
              rotate_left
              · simp only [Act.put, List.setIfInBounds_toArray, List.set_cons_zero, List.set_cons_succ, i64_w, i32_w]
                rfl
              refine pure_ (i := 5) (N := some 52) (v := ?_) (a' := ?_) #[true, true, false, true, false, true, false, false, false] rfl rfl (by kernel_rfl) (fun _ _ _ h => h) (Or.inl ⟨by rfl, ?_⟩) ?_ ?_
              rotate_left
              · intro w'
                go_simp
                with_reducible rfl
              rotate_left
              · simp only [Act.put, List.setIfInBounds_toArray, List.set_cons_zero, List.set_cons_succ, i64_w, i32_w]
                rfl
              refine take_ (i := 2) (N := some 49) (v := ?_) (a' := ?_) #[true, true, true, true, false, true, false, false, false] rfl rfl (by kernel_rfl) (fun _ _ _ h => h) (Or.inl ⟨by rfl, ?_⟩) hHeld ?_ ?_
              rotate_left
              · rintro w' ⟨s0, s1, s2⟩
                go_simp
                with_reducible rfl
              rotate_left
              · simp only [Act.put, List.setIfInBounds_toArray, List.set_cons_zero, List.set_cons_succ, i64_w, i32_w]
                rfl
              refine take_ (i := 4) (N := some 51) (v := ?_) (a' := ?_) #[true, true, true, true, true, true, false, false, false] rfl rfl (by kernel_rfl) (fun _ _ _ h => h) (Or.inl ⟨by rfl, ?_⟩) hHeld ?_ ?_
              rotate_left
              · rintro w' ⟨s0, s1, s2⟩
                go_simp
                with_reducible rfl
              rotate_left
              · simp only [Act.put, List.setIfInBounds_toArray, List.set_cons_zero, List.set_cons_succ, i64_w, i32_w]
                rfl
              refine pure_ (i := 6) (N := some 53) (v := ?_) (a' := ?_) #[true, true, true, true, true, true, true, false, false] rfl rfl (by kernel_rfl) (fun _ _ _ h => h) (Or.inl ⟨by rfl, ?_⟩) ?_ ?_
              rotate_left
              · intro w'
                go_simp
                with_reducible rfl
              rotate_left
              · simp only [Act.put, List.setIfInBounds_toArray, List.set_cons_zero, List.set_cons_succ, i64_w, i32_w]
                rfl
              refine take_ (i := 7) (N := some 54) (v := ?_) (a' := ?_) #[true, true, true, true, true, true, true, true, false] rfl rfl (by kernel_rfl) (fun _ _ _ h => h) (Or.inl ⟨by rfl, ?_⟩) hHeld ?_ ?_
              rotate_left
              · rintro w' ⟨s0, s1, s2⟩
                go_simp
                with_reducible rfl
              rotate_left
              · simp only [Act.put, List.setIfInBounds_toArray, List.set_cons_zero, List.set_cons_succ, i64_w, i32_w]
                rfl
              refine last_ (i := 8) (N := some 55) #[true, true, true, true, true, true, true, true, true] rfl rfl (by kernel_rfl) (by decide) (fun K hK => ?_)
              refine call_ 39 #[.int .u64 x.f1, .slice (V (i + 1)) m m, .pointer (some ⟨w.heap.size + 1 + 1, 0, none⟩)] (by rfl) rfl (by go_simp) ?_
              with_reducible refine (seen_blot.mem x.f1 l (V (i + 1)) m m (w.heap.size + 2) _ (blk_cell (blk_below L2.out hbA) 0) HMa.out.drew (i := i + 1) (o := 0) (by have := HIR.out; omega) (by have := HML.out; omega) (fun h0 => (HMa.out.at_ (i + 1) (by have := HIR.out; omega) (by have := HML.out; omega)).1)).mono ?_
              rintro e w5 ⟨rfl, hM5, hb5, hk5⟩
              refine ⟨_, rfl, ?_⟩
              have HK := Aside0.mk hk5
              have HM5 := Aside0.mk hM5
              have HB5 := Aside0.mk (Below.trans (below_step LB.out hbA) (show Below w.heap.size wa w5 from ⟨hb5.os, hb5.tape, hb5.output, hb5.size, hb5.block⟩))
              clear hk5 hM5 hb5
              refine hK.out _ _ ?_
              clear hK K
              refine norm_ (a' := ?_) ?_ ?_
              rotate_left
              · show Act.put _ (some 55) _ = _
                simp only [Act.put, List.setIfInBounds_toArray, List.set_cons_zero, List.set_cons_succ, i64_w, i32_w]
                rfl
              refine done_ (by kernel_rfl) ?_
              clear hc0 q0 q1 a0 a1
              go_wp2
              go_roundg k1
              case measure => omega
              case rel =>
                refine ⟨i + 1, by simp [hw2], ⟨by have := HI.out; omega⟩, ⟨by have := HI.out; omega⟩, ⟨HM5.out.congr (fun j hj => ?_) (fun j _ _ => ⟨rfl, rfl⟩)⟩, ⟨HK.out _ _ _ (by decide) (blk_below LQ.out (below_drew1 hbA))⟩, ⟨fun hp => HK.out _ _ _ (by decide) (blk_below (LH.out hp) (below_drew1 hbA))⟩, ⟨HK.out _ _ _ (by decide) (blk_below L2.out (below_drew1 hbA))⟩, ⟨HK.out _ _ _ (by decide) (blk_below L3.out (below_drew1 hbA))⟩, HB5⟩
                exact rPart_step l arr (memX g rs) g' i j m x HX.out HMX.out
            · have cib : decide ((i : Int) < (arr.length : Int)) = false := decide_eq_false (by omega)
              obtain rfl : i = arr.length := by have := HI.out; omega
              obtain ⟨⟨q0, q1⟩, _, _⟩ := blk2 LQ.out
              obtain ⟨⟨z0, z1⟩, y0, y1⟩ := blk2 L3.out
              go_wp2
              refine bodyPost_ret (results_cell_row rfl _ _ (w.heap.size + 3) 30 #[.slice (V 0) (memX g rs 0).length (memX g rs 0).length, .slice A rs.length rs.length] (0, 0) _ rfl (blkput2 L3.out _ _) Try.underlying30 rfl (by kernel_rfl)) rfl ?_
              have hgl : (seenG l gs g).length = g.length := by
                have := Zhlg.out
                simp [seenG]
                omega
              refine ⟨_, _, rfl, ⟨V, G, A, ?_, rfl, LNN.out, fun hp => ⟨b, LA.out hp, LBB.out hp, ?_⟩, ?_⟩, below_set (below_set LB.out (by omega)) (by omega)⟩
              · show Value.slice (V 0) g.length g.length = .slice (V 0) (seenG l gs g).length (seenG l gs g).length
                rw [hgl]
              · have hne : b ≠ w.heap.size + 3 := fun he => by
                  have h1 := LH.out hp
                  rw [he, L3.out] at h1
                  injection h1 with h1
                  injection h1 with _ h1
                  exact absurd h1 (by decide)
                have := blk_far (p := ⟨w.heap.size + 3, 1, none⟩) (blk_far (p := ⟨w.heap.size + 3, 0, none⟩) (LH.out hp) hne (.slice (V 0) (memX g rs 0).length (memX g rs 0).length)) hne (.slice A rs.length rs.length)
                rw [heads_len (X := memX g rs) (fun j hj => by rw [← seenX_eq l arr rs g (seenG l gs g) Zhlr2.out (j + 1) (by omega), rPart_length])]
                exact this
              · refine ((LM.out.far L3.out (by decide) 0 _).far (blk_put L3.out 0 _ rfl) (by decide) 1 _).congr (fun j hj => ?_) (fun j _ _ => ⟨rfl, rfl⟩)
                rw [← seenX_eq l arr rs g (seenG l gs g) Zhlr2.out j hj, HG.out, Zhlr2.out]
theorem view_Seen.calls (A0_0 : Option Addr) (c0_0 : Nat) (l0_0 : List Int) (A0_1 : Option Addr) (c0_1 : Nat) (l0_1 : List S57) (A0_2 : Option Addr) (c0_2 : Nat) (l0_2 : List Int) (A0_3 : Option Addr) (c0_3 : Nat) (l0_3 : List S48) (A1_0 : Option Addr) (c1_0 : Nat) (l1_0 : List Int) (A1_1 : Option Addr) (c1_1 : Nat) (l1_1 : List (List Int)) (a2 : Int) (r1 : List Int) (r2 : List (List Int)) (w : World) (hr0_0 : Kd.C (Kd.int .u64) w A0_0 l0_0.length l0_0) (hc0_0 : l0_0.length ≤ c0_0) (hr0_1 : Kd.C k57 w A0_1 l0_1.length l0_1) (hc0_1 : l0_1.length ≤ c0_1) (hr0_2 : Kd.C (Kd.int .u64) w A0_2 l0_2.length l0_2) (hc0_2 : l0_2.length ≤ c0_2) (hr0_3 : Kd.C k48 w A0_3 l0_3.length l0_3) (hc0_3 : l0_3.length ≤ c0_3) (hr1_0 : Kd.C (Kd.int .i64) w A1_0 l1_0.length l1_0) (hc1_0 : l1_0.length ≤ c1_0) (hr1_1 : Kd.C (Kd.slice 2 (Kd.int .i64)) w A1_1 l1_1.length l1_1) (hc1_1 : l1_1.length ≤ c1_1) (h : view_Seen.f l0_0 l0_1 l0_2 l0_3 l1_0 l1_1 a2 = some (r1, r2)) :
    Calls Try.prog 11 #[.agg #[.slice A0_0 l0_0.length c0_0, .slice A0_1 l0_1.length c0_1, .slice A0_2 l0_2.length c0_2, .slice A0_3 l0_3.length c0_3], .agg #[.slice A1_0 l1_0.length c1_0, .slice A1_1 l1_1.length c1_1], .int .u64 a2] w fun e w' => ∃ v0_ v1_ : Value, e = .returned (.agg #[v0_, v1_]) ∧ Kd.V (Kd.int .i64) 2 w' w.heap.size (fun k_ => (w.heap.size ≤ k_)) v0_ r1 ∧ Kd.V (Kd.slice 2 (Kd.int .i64)) 27 w' w.heap.size (fun k_ => (w.heap.size ≤ k_)) v1_ r2 ∧ Below w.heap.size w w' := by
  unfold view_Seen.f at h
  split at h
  · rename_i hc
    split at h
    · rename_i hf
      injection h with h
      injection h with h1 h2
      subst h1; subst h2
      have hfl : l0_1.length = l1_1.length := by
        have hf2 := hf
        unfold fitsB at hf2
        simp only [Bool.and_eq_true, decide_eq_true_eq] at hf2
        simpa using congrArg List.length hf2.2
      refine (view_Seen.out A0_0 c0_0 l0_0 A0_1 c0_1 l0_1 A0_2 c0_2 l0_2 A0_3 c0_3 l0_3 A1_0 c1_0 l1_0 A1_1 c1_1 l1_1 a2 w hr0_0 hc0_0 hr0_1 hc0_1 hr0_2 hc0_2 hr0_3 hc0_3 hr1_0 hc1_0 hr1_1 hc1_1 (by omega) hc.1 hc.2.2 hf).mono ?_
      rintro e w' ⟨v0, v1, rfl, hM, hb⟩
      obtain ⟨s0, s1⟩ := hM.shared (b0 := w.heap.size) (b1 := w.heap.size)
      have e2 := rows_memX (seenG a2 l0_0 l1_0) (seenR a2 l0_1 l1_1)
      rw [seenR_length _ _ _ hfl] at e2
      rw [e2] at s1
      exact ⟨v0, v1, rfl, s0, s1, hb⟩
    · rename_i hf
      injection h with h
      injection h with h1 h2
      subst h1; subst h2
      refine (view_Seen.not A0_0 c0_0 l0_0 A0_1 c0_1 l0_1 A0_2 c0_2 l0_2 A0_3 c0_3 l0_3 A1_0 c1_0 l1_0 A1_1 c1_1 l1_1 a2 w hr0_0 hc0_0 hr0_1 hc0_1 hr0_2 hc0_2 hr0_3 hc0_3 hr1_0 hc1_0 hr1_1 hc1_1 (Kd.C_max hr0_1) (by simpa using hf)).mono ?_
      rintro e w' ⟨rfl, hb⟩
      exact ⟨_, _, rfl, Kd.V_nil _ _ _ _ _, Kd.V_nil _ _ _ _ _, hb⟩
  · cases h
end Go.Proofs.Ytlnccdgclaalbaa.PJ
