/- The document's image of a module is the form's: louverref12.Write is writeM (no program). -/
import Derived.Test.YtgpdaihfjnihhaaDoorRPJx0
import Derived.Test.YtgpdaihfjnihhaaDoorRPA
import Derived.Test.YtgpdaihfjnihhaaDoorRPB
import Derived.Test.YtgpdaihfjnihhaaDoorRSumPure
import Derived.Test.YtgpdaihfjnihhaaDoorRTablePure
import Derived.Test.YtgpdaihfjnihhaaDoorRHandImgWrite
namespace Go.Proofs.YtgpdaihfjnihhaaDoor.PJ
open Go.RowKit Go.Proofs.YtgpdaihfjnihhaaDoorW.PrintWords Go.Proofs.YtgpdaihfjnihhaaDoorW.PrintLast Go.Proofs.YtgpdaihfjnihhaaDoorW.PrintMore Go.Proofs.YtgpdaihfjnihhaaDoor.LebPure Go.Proofs.YtgpdaihfjnihhaaDoor.LebForm Go.Proofs.YtgpdaihfjnihhaaDoor.B64
set_option linter.unusedVariables false
set_option linter.unusedSimpArgs false
theorem lift3 {α : Type} (f : Nat → Option α) (hm : ∀ k, LeO (f k) (f (k + 1))) {r : α} (h : f 3 = some r) (k : Nat) (hk : 3 ≤ k) : f k = some r := by
 obtain ⟨d, rfl⟩ := Nat.exists_eq_add_of_le hk
 clear hk
 induction d with
 | zero => exact h
 | succ d ih => exact hm _ _ ih
theorem refPutI (k : Nat) (hk : 100 ≤ k) (op a : Int) (ha : -9223372036854775808 ≤ a ∧ a ≤ 9223372036854775807) : louverref10_Put.f k op a = some (cInstr ⟨op, a⟩) := by
 obtain ⟨p, q, kd, hT, ho, h32, h0⟩ := table_all op
 have hM := lift3 (fun k => louverref10_May.f k op a) (fun k => louverref10_May.mono op a k) (refMay_f op a) k (by omega)
 have hT := lift3 (fun k => louverref10_Table.f k op) (fun k => louverref10_Table.mono op k) hT k (by omega)
 unfold louverref10_Put.f cInstr
 rw [show louverref10_May.f k op a = some (mayOf op a) from hM, Option.bind_some]
 by_cases hm : mayOf op a = true
 ·
  rw [if_pos hm, if_pos hm, show louverref10_Table.f k op = _ from hT, Option.bind_some, Option.bind_some]
  obtain ⟨hv, h1, h2⟩ := may_parts hm
  have hr := valid_range hv
  have h256 : op % 256 = op := by omega
  have hk1 := h32 hv
  rw [hv, Bool.true_and] at ho
  rw [h256]
  by_cases he : op = 32
  ·
   obtain rfl : kd = 1 := hk1.mpr he
   have hs := slen_i64 ha
   rw [if_pos rfl, refPutSigned_f k a ha (by omega), Option.bind_some, if_pos (by rw [sform_length]; simp only [List.length_cons, List.length_nil]; omega), Option.bind_some, if_neg (show ¬ ((1 : Int) > 1) by decide)]
   simp [putOf, he]
  ·
   rw [if_neg (fun h => he (hk1.mp h))]
   by_cases hop : operandOp op = true
   ·
    have hkd : 0 < kd := of_decide_eq_true (ho.symm.trans hop)
    have hkn : ¬ (kd = 1) := fun h => he (hk1.mp h)
    have h0 : 0 ≤ a := (h1 hop).resolve_left he
    have hu := ulen_u64 (n := a.toNat) (by omega)
    have hp := refPut_f k a.toNat (by omega) (by omega)
    rw [show ((a.toNat : Nat) : Int) = a by omega] at hp
    rw [if_pos (show kd > 1 by omega), u64_small h0 (by omega), hp, Option.bind_some, if_pos (by rw [form_length]; simp only [List.length_cons, List.length_nil]; omega)]
    simp [putOf, he, hop]
   ·
    have hkd : ¬ (0 < kd) := fun h => hop (ho.trans (decide_eq_true h))
    rw [if_neg (show ¬ (kd > 1) by omega)]
    simp [putOf, he, hop]
 ·
  rw [if_neg hm, if_neg hm]
def Ev {α : Type} (f : Nat → Option α) (r : α) : Prop := ∃ K, ∀ k, K ≤ k → f k = some r
theorem Ev.const {α : Type} (r : α) : Ev (fun _ => some r) r := ⟨0, fun _ _ => rfl⟩
theorem Ev.from {α : Type} {f : Nat → Option α} {r : α} (K : Nat) (h : ∀ k, K ≤ k → f k = some r) : Ev f r := ⟨K, h⟩
theorem Ev.bind {α β : Type} {f : Nat → Option α} {g : Nat → α → Option β} {a : α} {r : β} (h : Ev f a) (h2 : Ev (fun k => g k a) r) : Ev (fun k => (f k).bind (g k)) r := by
 obtain ⟨K, hK⟩ := h
 obtain ⟨L, hL⟩ := h2
 refine ⟨K + L, fun k hk => ?_⟩
 show (f k).bind (g k) = some r
 rw [hK k (by omega), Option.bind_some]
 exact hL k (by omega)
theorem Ev.step {α : Type} {f h : Nat → Option α} {r : α} (hs : ∀ k, f (k + 1) = h k) (hh : Ev h r) : Ev f r := by
 obtain ⟨K, hK⟩ := hh
 refine ⟨K + 1, fun k hk => ?_⟩
 obtain ⟨m, rfl⟩ : ∃ m, k = m + 1 := ⟨k - 1, by omega⟩
 rw [hs, hK m (by omega)]
theorem Ev.eq {α : Type} {f h : Nat → Option α} {r : α} (hs : ∀ k, f k = h k) (hh : Ev h r) : Ev f r := by
 obtain ⟨K, hK⟩ := hh
 exact ⟨K, fun k hk => by rw [hs, hK k hk]⟩
theorem u64_mod (n : Int) : IntKind.u64.wrap n = n % 18446744073709551616 := rfl
theorem okU_wrap (n : Int) : okU (IntKind.u64.wrap n) := by rw [u64_mod]; unfold okU; omega
theorem cNum_wrap (n : Int) : cNum (IntKind.u64.wrap n) = cNum n := by unfold cNum; rw [u64_mod, Int.emod_emod_of_dvd _ (Int.dvd_refl _)]
theorem cNum_len (n : Int) : (cNum n).length ≤ 10 := by
 unfold cNum
 rw [form_length]
 exact ulen_u64 (by omega)
theorem put_ev (b : List Int) (n : Int) (hn : okU n) : Ev (fun k => louverref12_put.f k b n) (emit1 b (cNum n)) := by
 refine Ev.from 30 (fun k hk => ?_)
 have hnn : n.toNat < 2 ^ 64 := by unfold okU at hn; omega
 have hp := refPut_f k n.toNat hnn hk
 rw [show ((n.toNat : Nat) : Int) = n by unfold okU at hn; omega] at hp
 have hu := ulen_u64 hnn
 unfold louverref12_put.f emit1
 by_cases hb : b.length ≤ 262144
 ·
  rw [if_neg (by omega), if_pos hb, hp, Option.bind_some, if_pos (by rw [form_length]; omega), cNum_small hn]
 ·
  rw [if_pos (by omega), if_neg hb]
theorem putw_ev (b : List Int) (n : Int) : Ev (fun k => louverref12_put.f k b (IntKind.u64.wrap n)) (emit1 b (cNum n)) := by
 rw [← cNum_wrap]
 exact put_ev b _ (okU_wrap n)
theorem labels_ev0 (l : List Int) (hl : okLs l) : ∀ d i (b : List Int), i + d = l.length → Ev (fun k => louverref12_labels.l0 k b l (i : Int)) (emit b ((l.drop i).map cNum)) := by
 intro d
 induction d with
 | zero =>
  intro i b hi
  refine Ev.step (h := fun _ => some b) (fun k => ?_) ?_
  ·
   rw [louverref12_labels.l0, if_neg (by omega)]
  ·
   rw [List.drop_of_length_le (by omega)]
   exact Ev.const _
 | succ d ih =>
  intro i b hi
  have p1 : i < l.length := by omega
  refine Ev.step (fun k => by rw [louverref12_labels.l0, if_pos (by omega), if_pos (by omega), rd_get p1, wrap_at p1 hl.1]) ?_
  rw [List.drop_eq_getElem_cons p1, List.map_cons, emit_cons]
  exact Ev.bind (put_ev b _ (hl.2 _ (List.getElem_mem p1))) (ih (i + 1) _ (by omega))
theorem labels_ev (b : List Int) (l : List Int) (hl : okLs l) : Ev (fun k => louverref12_labels.f k b l) (emit b (cLabels l)) := by
 unfold louverref12_labels.f cLabels
 rw [emit_cons]
 exact Ev.bind (putw_ev b _) (labels_ev0 l hl l.length 0 _ (by omega))
def okFnR (x : S41) : Prop := okU x.f0 ∧ okLs x.f1 ∧ okLs x.f2 ∧ x.f5.length ≤ 9223372036854775807 ∧ ∀ y ∈ x.f5, -9223372036854775808 ≤ y.f1 ∧ y.f1 ≤ 9223372036854775807
theorem rd_instr {l : List S44} {j : Nat} (h : j < l.length) : rd_T44 l (j : Int) = l[j] := by simp [rd_T44, List.getD_eq_getElem?_getD, h]
theorem rd_arr {l : List S38} {j : Nat} (h : j < l.length) : rd_T38 l (j : Int) = l[j] := by simp [rd_T38, List.getD_eq_getElem?_getD, h]
theorem rd_fn {l : List S41} {j : Nat} (h : j < l.length) : rd_T41 l (j : Int) = l[j] := by simp [rd_T41, List.getD_eq_getElem?_getD, h]
def Brief (b : List Int) : Prop := b.length ≤ 262244
theorem brief_emit1 {b c : List Int} (hb : Brief b) (hc : c.length ≤ 100) : Brief (emit1 b c) := by
 unfold Brief at *
 unfold emit1
 split
 ·
  rw [List.length_append]; omega
 ·
  exact hb
theorem brief_emit {cs : List (List Int)} (hc : ∀ c ∈ cs, c.length ≤ 100) : ∀ {b : List Int}, Brief b → Brief (emit b cs) := by
 induction cs with
 | nil => exact fun h => h
 | cons c cs ih =>
  intro b hb
  rw [emit_cons]
  exact ih (fun x hx => hc x (List.mem_cons_of_mem _ hx)) (brief_emit1 hb (hc c List.mem_cons_self))
section
variable (g0 : List Int) (g1 : List S38) (g2 : List Int) (g3 : List S41)
theorem code_ev (x5 : Int) (y0 : Int) (y1 y2 : List Int) (y3 y4 : Int) (l : List S44) (hl : l.length ≤ 9223372036854775807) (hx : ∀ y ∈ l, -9223372036854775808 ≤ y.f1 ∧ y.f1 ≤ 9223372036854775807) (R : List Int) : ∀ d i (b : List Int), i + d = l.length → Brief b →
  Ev (fun k => louverref12_Bytes.l1 k (emit b ((l.drop i).map cInstr)) (wrap64 (x5 + 1)) g0 g1 g2 g3) R → Ev (fun k => louverref12_Bytes.l2 k b x5 (i : Int) g0 g1 g2 g3 y0 y1 y2 y3 y4 l) R := by
 intro d
 induction d with
 | zero =>
  intro i b hi hbr h
  refine Ev.step (fun k => by rw [louverref12_Bytes.l2, if_neg (by omega)]) ?_
  rwa [List.drop_of_length_le (by omega)] at h
 | succ d ih =>
  intro i b hi hbr h
  have p1 : i < l.length := by omega
  have hy := hx _ (List.getElem_mem p1)
  by_cases hb : b.length ≤ 262144
  ·
   have hln := cInstr_len l[i] hy
   refine Ev.step (fun k => by rw [louverref12_Bytes.l2, if_pos (by omega), if_pos (by omega), if_pos (by omega), rd_instr p1, wrap_at p1 hl]) ?_
   refine Ev.bind (Ev.from 100 (fun k hk => refPutI k hk _ _ hy)) ?_
   refine Ev.eq (fun k => if_pos (show b.length + (cInstr l[i]).length < 140737488355328 by omega)) ?_
   have he : emit1 b (cInstr l[i]) = b ++ cInstr l[i] := if_pos hb
   rw [List.drop_eq_getElem_cons p1, List.map_cons, emit_cons, he] at h
   exact ih (i + 1) _ (by omega) (by rw [← he]; exact brief_emit1 hbr hln) h
  ·
   refine Ev.step (fun k => by rw [louverref12_Bytes.l2, if_pos (by omega), if_neg (by omega)]) ?_
   rwa [emit_stuck _ _ (by omega)] at h
theorem emit_bts {cs : List (List Int)} (hc : ∀ c ∈ cs, Bts c) : ∀ {b : List Int}, Bts b → Bts (emit b cs) := by
 induction cs with
 | nil => exact fun h => h
 | cons c cs ih =>
  intro b hb
  rw [emit_cons]
  refine ih (fun x hx => hc x (List.mem_cons_of_mem _ hx)) ?_
  unfold emit1
  split
  ·
   exact hb.append (hc c List.mem_cons_self)
  ·
   exact hb
theorem sumL_nat (l : List Int) : ∃ n : Nat, sumL l = (n : Int) := by
 rcases List.eq_nil_or_concat l with rfl | ⟨l, x, rfl⟩
 ·
  exact ⟨14695981039346656037, by rw [show sumL [] = 14695981039346656037 from rfl]; omega⟩
 ·
  rw [List.concat_eq_append, sumL_snoc]
  unfold step1
  rw [u64_mod]
  generalize Go.bits .xor .u64 (sumL l) x * 1099511628211 = z
  exact ⟨(z % 18446744073709551616).toNat, by omega⟩
theorem shr_eight (n : Nat) (s : Nat) (hs : s ≤ 56) : shr .u64 (n : Int) ((s : Nat) : Int) = (n : Int) / 2 ^ s := by
 unfold shr
 have hm : min (((s : Nat) : Int)).toNat IntKind.u64.bits = s := by
  show min (((s : Nat) : Int)).toNat 64 = s
  omega
 rw [hm]
theorem sealed_ev (b : List Int) (hbr : Brief b) (hb : Bts b) : Ev (fun k => louverref12_sealed.f k b) (b ++ eightL (sumL b)) := by
 unfold Brief at hbr
 unfold louverref12_sealed.f
 refine Ev.bind (Ev.from (b.length + 1) (fun k hk => refSum_f b hb (by omega) k (by omega))) ?_
 obtain ⟨n, hn⟩ := sumL_nat b
 rw [hn]
 have key : ∀ (i : Nat) (c : List Int), i ≤ 7 → c.length + i < 300000 → ∀ k (R : List Int), louverref12_sealed.l0 k (c ++ [(n : Int) / 2 ^ (8 * i) % 256]) (n : Int) ((i : Int) - 1) = some R → louverref12_sealed.l0 (k + 1) c (n : Int) (i : Int) = some R := by
  intro i c hi hc k R h
  have e1 : IntKind.u64.wrap (wrap64 (8 * (i : Int))) = ((8 * i : Nat) : Int) := by
   rw [show wrap64 (8 * (i : Int)) = 8 * (i : Int) by unfold wrap64; omega, u64_small (by omega) (by omega)]
   omega
  have e2 : wrap64 ((i : Int) - 1) = (i : Int) - 1 := by unfold wrap64; omega
  rw [louverref12_sealed.l0, if_pos (by omega), e1, if_pos (by omega), if_pos (by omega), shr_eight _ _ (by omega), e2]
  exact h
 refine Ev.from 9 (fun k hk => ?_)
 obtain ⟨m, rfl⟩ : ∃ m, k = m + 9 := ⟨k - 9, by omega⟩
 refine key 7 b (by omega) (by omega) (m + 8) _ (key 6 _ (by omega) (by simp only [List.length_append, List.length_cons, List.length_nil]; omega) (m + 7) _ (key 5 _ (by omega) (by simp only [List.length_append, List.length_cons, List.length_nil]; omega) (m + 6) _ (key 4 _ (by omega) (by simp only [List.length_append, List.length_cons, List.length_nil]; omega) (m + 5) _ (key 3 _ (by omega) (by simp only [List.length_append, List.length_cons, List.length_nil]; omega) (m + 4) _ (key 2 _ (by omega) (by simp only [List.length_append, List.length_cons, List.length_nil]; omega) (m + 3) _ (key 1 _ (by omega) (by simp only [List.length_append, List.length_cons, List.length_nil]; omega) (m + 2) _ (key 0 _ (by omega) (by simp only [List.length_append, List.length_cons, List.length_nil]; omega) (m + 1) _ ?_)))))))
 rw [louverref12_sealed.l0, if_neg (by decide)]
 simp only [List.append_assoc]
 rfl
theorem cFn_brief {x : S41} (hx : okFnR x) : ∀ c ∈ cFn x, c.length ≤ 100 := by
 intro c hc
 have h10 : ∀ n, (cNum n).length ≤ 100 := fun n => Nat.le_trans (cNum_len n) (by decide)
 unfold cFn cLabels at hc
 simp only [List.mem_cons, List.mem_append, List.mem_map] at hc
 rcases hc with rfl | (rfl | ⟨i, _, rfl⟩) | (rfl | ⟨i, _, rfl⟩) | rfl | rfl | rfl | ⟨i, hi, rfl⟩
 all_goals first
  | exact h10 _
  | exact cInstr_len _ (hx.2.2.2.2 _ hi)
theorem cFn_bts (x : S41) : ∀ c ∈ cFn x, Bts c := by
 intro c hc
 unfold cFn at hc
 simp only [List.mem_cons, List.mem_append, List.mem_map] at hc
 rcases hc with rfl | hx | hx | rfl | rfl | rfl | ⟨i, _, rfl⟩
 ·
  exact bts_cNum _
 ·
  exact bts_cLabels _ _ hx
 ·
  exact bts_cLabels _ _ hx
 ·
  exact bts_cNum _
 ·
  exact bts_cNum _
 ·
  exact bts_cNum _
 ·
  exact bts_cInstr _
theorem fns_ev (hl : g3.length ≤ 9223372036854775807) (hx : ∀ x ∈ g3, okFnR x) : ∀ d i (b : List Int), i + d = g3.length → Brief b → Bts b →
  Ev (fun k => louverref12_Bytes.l1 k b (i : Int) g0 g1 g2 g3) (emit b ((g3.drop i).flatMap cFn) ++ eightL (sumL (emit b ((g3.drop i).flatMap cFn)))) := by
 intro d
 induction d with
 | zero =>
  intro i b hi hbr hbt
  refine Ev.step (fun k => by rw [louverref12_Bytes.l1, if_neg (by omega)]) ?_
  refine Ev.step (fun k => by rw [louverref12_Bytes.j2, if_neg (by decide)]) ?_
  rw [List.drop_of_length_le (by omega), List.flatMap_nil, emit_nil]
  exact Ev.bind (sealed_ev b hbr hbt) (Ev.const _)
 | succ d ih =>
  intro i b hi hbr hbt
  have p1 : i < g3.length := by omega
  have hy := hx _ (List.getElem_mem p1)
  refine Ev.step (fun k => by rw [louverref12_Bytes.l1, if_pos (by omega)]) ?_
  by_cases hb : b.length ≤ 262144
  ·
   rw [show decide ((b.length : Int) ≤ 262144) = true from decide_eq_true (by omega)]
   refine Ev.step (fun k => by rw [louverref12_Bytes.j2, if_pos rfl, if_pos (by omega), if_pos (by omega), rd_fn p1]) ?_
   have hg := ih (i + 1) (emit b (cFn g3[i])) (by omega) (brief_emit (cFn_brief hy) hbr) (emit_bts (cFn_bts _) hbt)
   rw [List.drop_eq_getElem_cons p1, List.flatMap_cons, emit_append]
   generalize emit (emit b (cFn g3[i])) ((g3.drop (i + 1)).flatMap cFn) = B at hg ⊢
   have hcut : emit b (cFn g3[i]) = emit (emit1 (emit1 (emit1 (emit (emit (emit1 b (cNum g3[i].f0)) (cLabels g3[i].f1)) (cLabels g3[i].f2)) (cNum g3[i].f3)) (cNum g3[i].f4)) (cNum g3[i].f5.length)) (g3[i].f5.map cInstr) := by
    unfold cFn
    rw [emit_cons, emit_append, emit_append, emit_cons, emit_cons, emit_cons]
   have h10 : ∀ n, (cNum n).length ≤ 100 := fun n => Nat.le_trans (cNum_len n) (by decide)
   have hlb : ∀ l, ∀ c ∈ cLabels l, c.length ≤ 100 := by
    intro l c hc
    unfold cLabels at hc
    simp only [List.mem_cons, List.mem_map] at hc
    rcases hc with rfl | ⟨i, _, rfl⟩
    ·
     exact h10 _
    ·
     exact h10 _
   refine Ev.bind (put_ev b _ hy.1) ?_
   refine Ev.bind (labels_ev _ _ hy.2.1) ?_
   refine Ev.bind (labels_ev _ _ hy.2.2.1) ?_
   refine Ev.bind (putw_ev _ _) ?_
   refine Ev.bind (putw_ev _ _) ?_
   refine Ev.bind (putw_ev _ _) ?_
   refine code_ev g0 g1 g2 g3 (i : Int) _ _ _ _ _ g3[i].f5 hy.2.2.2.1 hy.2.2.2.2 _ g3[i].f5.length 0 _ (by omega) (brief_emit1 (brief_emit1 (brief_emit1 (brief_emit (hlb _) (brief_emit (hlb _) (brief_emit1 hbr (h10 _)))) (h10 _)) (h10 _)) (h10 _)) ?_
   rw [List.drop_zero, ← hcut, wrap_at p1 hl]
   exact hg
  ·
   rw [show decide ((b.length : Int) ≤ 262144) = false from decide_eq_false (by omega)]
   refine Ev.step (fun k => by rw [louverref12_Bytes.j2, if_neg (by decide)]) ?_
   rw [emit_stuck _ _ (by omega)]
   exact Ev.bind (sealed_ev b hbr hbt) (Ev.const _)
theorem arrs_ev (hl : g1.length ≤ 9223372036854775807) (hx : ∀ x ∈ g1, okU x.f1) (R : List Int) : ∀ d i (b : List Int), i + d = g1.length →
  Ev (fun k => (louverref12_labels.f k (emit b ((g1.drop i).flatMap cArr)) g2).bind fun t309 => ((louverref12_put.f k t309 (IntKind.u64.wrap ((g3.length : Int)))).bind fun t312 => (louverref12_Bytes.l1 k t312 0 g0 g1 g2 g3))) R → Ev (fun k => louverref12_Bytes.l0 k b (i : Int) g0 g1 g2 g3) R := by
 intro d
 induction d with
 | zero =>
  intro i b hi h
  refine Ev.step (fun k => by rw [louverref12_Bytes.l0, if_neg (by omega)]) ?_
  rwa [List.drop_of_length_le (by omega), List.flatMap_nil, emit_nil] at h
 | succ d ih =>
  intro i b hi h
  have p1 : i < g1.length := by omega
  refine Ev.step (fun k => by rw [louverref12_Bytes.l0, if_pos (by omega), if_pos (by omega), rd_arr p1, wrap_at p1 hl]) ?_
  refine Ev.bind (putw_ev b _) (Ev.bind (put_ev _ _ (hx _ (List.getElem_mem p1))) (ih (i + 1) _ (by omega) ?_))
  rw [List.drop_eq_getElem_cons p1, List.flatMap_cons, emit_append] at h
  exact h
end
def okModR (gs : List Int) (arr : List S38) (chs : List Int) (fns : List S41) : Prop := okLs gs ∧ (arr.length ≤ 9223372036854775807 ∧ ∀ x ∈ arr, okU x.f1) ∧ okLs chs ∧ (fns.length ≤ 9223372036854775807 ∧ ∀ x ∈ fns, okFnR x)
theorem bytes_ev {gs : List Int} {arr : List S38} {chs : List Int} {fns : List S41} (h : okModR gs arr chs fns) : Ev (fun k => louverref12_Bytes.f k gs arr chs fns) (emit magicL (cMod gs arr chs fns) ++ eightL (sumL (emit magicL (cMod gs arr chs fns)))) := by
 obtain ⟨h0, ⟨h1, h1x⟩, h2, ⟨h3, h3x⟩⟩ := h
 have h10 : ∀ n, (cNum n).length ≤ 100 := fun n => Nat.le_trans (cNum_len n) (by decide)
 have hlb : ∀ l, ∀ c ∈ cLabels l, c.length ≤ 100 := by
  intro l c hc
  unfold cLabels at hc
  simp only [List.mem_cons, List.mem_map] at hc
  rcases hc with rfl | ⟨i, _, rfl⟩
  ·
   exact h10 _
  ·
   exact h10 _
 have har : ∀ c ∈ arr.flatMap cArr, c.length ≤ 100 := by
  intro c hc
  obtain ⟨a, _, ha⟩ := List.mem_flatMap.1 hc
  unfold cArr at ha
  simp only [List.mem_cons, List.not_mem_nil, or_false] at ha
  rcases ha with rfl | rfl
  ·
   exact h10 _
  ·
   exact h10 _
 have e : emit magicL (cMod gs arr chs fns) = emit (emit1 (emit (emit (emit1 (emit magicL (cLabels gs)) (cNum arr.length)) (arr.flatMap cArr)) (cLabels chs)) (cNum fns.length)) (fns.flatMap cFn) := by
  unfold cMod cArrs cFns
  rw [emit_append, emit_append, emit_cons, emit_append, emit_cons]
 have hm : Brief magicL := by unfold Brief; decide
 have hmb : Bts magicL := by unfold Bts magicL; decide
 rw [e]
 unfold louverref12_Bytes.f
 refine Ev.bind (labels_ev magicL gs h0) (Ev.bind (putw_ev _ _) ?_)
 refine arrs_ev gs arr chs fns h1 h1x _ arr.length 0 _ (by omega) ?_
 rw [List.drop_zero]
 refine Ev.bind (labels_ev _ _ h2) (Ev.bind (putw_ev _ _) ?_)
 have hf := fns_ev gs arr chs fns h3 h3x fns.length 0 (emit1 (emit (emit (emit1 (emit magicL (cLabels gs)) (cNum arr.length)) (arr.flatMap cArr)) (cLabels chs)) (cNum fns.length)) (by omega)
  (brief_emit1 (brief_emit (hlb _) (brief_emit har (brief_emit1 (brief_emit (hlb _) hm) (h10 _)))) (h10 _)) ?_
 ·
  rw [List.drop_zero] at hf
  exact hf
 ·
  have hab : ∀ c ∈ arr.flatMap cArr, Bts c := fun c hc => bts_cArrs arr c (by unfold cArrs; exact List.mem_cons_of_mem _ hc)
  have hone : ∀ (b : List Int) (n : Int), Bts b → Bts (emit1 b (cNum n)) := fun b n hb => by rw [← emit_one]; exact emit_bts (fun c hc => by rw [List.mem_singleton.1 hc]; exact bts_cNum _) hb
  exact hone _ _ (emit_bts (bts_cLabels _) (emit_bts hab (hone _ _ (emit_bts (bts_cLabels _) hmb))))
section
variable (g0 : List Int) (g1 : List S38) (g2 : List Int) (g3 : List S41)
theorem may_code (x4 : Int) (y0 : Int) (y1 y2 : List Int) (y3 y4 : Int) (l : List S44) (hl : l.length ≤ 9223372036854775807) (R : Bool) (h : Ev (fun k => louverref12_May.l1 k (wrap64 (x4 + 1)) g0 g1 g2 g3) R) : ∀ d i, i + d = l.length →
  Ev (fun k => louverref12_May.l2 k x4 (i : Int) g0 g1 g2 g3 y0 y1 y2 y3 y4 l) (!((l.drop i).any badI) && R) := by
 intro d
 induction d with
 | zero =>
  intro i hi
  refine Ev.step (fun k => by rw [louverref12_May.l2, if_neg (by omega)]) ?_
  rw [List.drop_of_length_le (by omega)]
  simpa using h
 | succ d ih =>
  intro i hi
  have p1 : i < l.length := by omega
  refine Ev.step (fun k => by rw [louverref12_May.l2, if_pos (by omega), if_pos (by omega), rd_instr p1, wrap_at p1 hl]) ?_
  refine Ev.bind (Ev.from 3 (fun k hk => lift3 (fun k => louverref10_May.f k l[i].f0 l[i].f1) (fun k => louverref10_May.mono _ _ k) (refMay_f _ _) k hk)) ?_
  rw [List.drop_eq_getElem_cons p1, List.any_cons]
  cases hm : mayOf l[i].f0 l[i].f1 with
  | true =>
   rw [show badI l[i] = false by unfold badI; rw [hm]; rfl, Bool.false_or]
   exact ih (i + 1) (by omega)
  | false =>
   rw [show badI l[i] = true by unfold badI; rw [hm]; rfl, Bool.true_or]
   exact Ev.const _
theorem may_fns (hl : g3.length ≤ 9223372036854775807) (hx : ∀ x ∈ g3, x.f5.length ≤ 9223372036854775807) : ∀ d i, i + d = g3.length → Ev (fun k => louverref12_May.l1 k (i : Int) g0 g1 g2 g3) (!((g3.drop i).any badF)) := by
 intro d
 induction d with
 | zero =>
  intro i hi
  refine Ev.step (fun k => by rw [louverref12_May.l1, if_neg (by omega)]) ?_
  rw [List.drop_of_length_le (by omega)]
  exact Ev.const _
 | succ d ih =>
  intro i hi
  have p1 : i < g3.length := by omega
  have hy := hx _ (List.getElem_mem p1)
  have hg := ih (i + 1) (by omega)
  rw [List.drop_eq_getElem_cons p1, List.any_cons]
  by_cases c3 : g3[i].f3 < 0
  ·
   refine Ev.step (fun k => by rw [louverref12_May.l1, if_pos (by omega), if_pos (by omega), rd_fn p1, if_pos c3]) ?_
   refine Ev.step (fun k => by rw [louverref12_May.j2, if_pos rfl]) ?_
   rw [show badF g3[i] = true by unfold badF; rw [decide_eq_true c3]; rfl, Bool.true_or]
   exact Ev.const _
  ·
   refine Ev.step (fun k => by rw [louverref12_May.l1, if_pos (by omega), if_pos (by omega), rd_fn p1, if_neg c3]) ?_
   by_cases c4 : g3[i].f4 < 0
   ·
    refine Ev.step (fun k => by rw [louverref12_May.j2, if_pos (decide_eq_true c4)]) ?_
    rw [show badF g3[i] = true by unfold badF; rw [decide_eq_false c3, decide_eq_true c4]; rfl, Bool.true_or]
    exact Ev.const _
   ·
    refine Ev.step (fun k => by rw [louverref12_May.j2, if_neg (by rw [decide_eq_false c4]; decide)]) ?_
    rw [show badF g3[i] = g3[i].f5.any badI by unfold badF; rw [decide_eq_false c3, decide_eq_false c4]; rfl, Bool.not_or]
    have := may_code g0 g1 g2 g3 (i : Int) g3[i].f0 g3[i].f1 g3[i].f2 g3[i].f3 g3[i].f4 g3[i].f5 hy _ (by rw [wrap_at p1 hl]; exact hg) g3[i].f5.length 0 (by omega)
    rwa [List.drop_zero] at this
theorem may_arrs (h1 : g1.length ≤ 9223372036854775807) (hl : g3.length ≤ 9223372036854775807) (hx : ∀ x ∈ g3, x.f5.length ≤ 9223372036854775807) : ∀ d i, i + d = g1.length → Ev (fun k => louverref12_May.l0 k (i : Int) g0 g1 g2 g3) (!((g1.drop i).any badA || g3.any badF)) := by
 intro d
 induction d with
 | zero =>
  intro i hi
  refine Ev.step (fun k => by rw [louverref12_May.l0, if_neg (by omega)]) ?_
  rw [List.drop_of_length_le (by omega)]
  have := may_fns g0 g1 g2 g3 hl hx g3.length 0 (by omega)
  rw [List.drop_zero] at this
  simpa using this
 | succ d ih =>
  intro i hi
  have p1 : i < g1.length := by omega
  rw [List.drop_eq_getElem_cons p1, List.any_cons]
  by_cases c3 : g1[i].f0 < 0
  ·
   refine Ev.step (fun k => by rw [louverref12_May.l0, if_pos (by omega), if_pos (by omega), rd_arr p1, if_pos c3]) ?_
   rw [show badA g1[i] = true from decide_eq_true c3, Bool.true_or, Bool.true_or]
   exact Ev.const _
  ·
   refine Ev.step (fun k => by rw [louverref12_May.l0, if_pos (by omega), if_pos (by omega), rd_arr p1, if_neg c3, wrap_at p1 h1]) ?_
   rw [show badA g1[i] = false from decide_eq_false c3, Bool.false_or]
   exact ih (i + 1) (by omega)
end
theorem refWrite_ev {gs : List Int} {arr : List S38} {chs : List Int} {fns : List S41} (h : okModR gs arr chs fns) : Ev (fun k => louverref12_Write.f k gs arr chs fns) (writeM gs arr chs fns) := by
 have hm := may_arrs gs arr chs fns h.2.1.1 h.2.2.2.1 (fun x hx => (h.2.2.2.2 x hx).2.2.2.1) arr.length 0 (by omega)
 rw [List.drop_zero] at hm
 have hb := bytes_ev h
 unfold louverref12_Write.f writeM
 refine Ev.bind hm ?_
 by_cases hbad : badM arr fns = true
 ·
  rw [show (arr.any badA || fns.any badF) = true from hbad, if_pos hbad]
  exact Ev.const _
 ·
  rw [show (arr.any badA || fns.any badF) = false from Bool.eq_false_iff.2 hbad, if_neg hbad]
  refine Ev.eq (fun k => if_pos (show (!false) = true from rfl)) ?_
  refine Ev.bind hb ?_
  have hlen : (fullM gs arr chs fns).length = (magicL ++ (cMod gs arr chs fns).flatten).length := rfl
  by_cases hlong : 262144 < (fullM gs arr chs fns).length + 8
  ·
   have := emit_long 262136 (by decide) (cMod gs arr chs fns) magicL (by rw [← hlen]; omega)
   rw [if_pos (by rw [List.length_append, eightL_length]; omega), if_pos hlong]
   exact Ev.const _
  ·
   have := emit_full (cMod gs arr chs fns) magicL (by rw [← hlen]; omega)
   rw [this, show magicL ++ (cMod gs arr chs fns).flatten = fullM gs arr chs fns from rfl, if_neg (by rw [List.length_append, eightL_length]; omega), if_neg hlong]
   exact Ev.const _
end Go.Proofs.YtgpdaihfjnihhaaDoor.PJ
