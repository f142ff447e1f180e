/- image's reader: its methods, and all, by hand. -/
import Derived.Test.YtgpdaihfjnihhaaDoorQPJx0
import Derived.Test.YtgpdaihfjnihhaaDoorQPJx3
import Derived.Test.YtgpdaihfjnihhaaDoorQHandCode3
import Derived.Test.YtgpdaihfjnihhaaDoorQHandApart
import Derived.Test.YtgpdaihfjnihhaaDoorQHandHeapy
import Derived.Test.YtgpdaihfjnihhaaDoorQHandLent
import Derived.Test.YtgpdaihfjnihhaaDoorQImagePure
import Derived.Test.YtgpdaihfjnihhaaDoorQHandWriter
namespace Go.Proofs.YtgpdaihfjnihhaaDoor.PJ
open Go.RowKit Go.Proofs.YtgpdaihfjnihhaaDoorW.PrintWords Go.Proofs.YtgpdaihfjnihhaaDoorW.PrintLast Go.Proofs.YtgpdaihfjnihhaaDoorW.PrintMore Go.Proofs.YtgpdaihfjnihhaaDoor.LebPure Go.Proofs.YtgpdaihfjnihhaaDoor.LebForm Go.Proofs.YtgpdaihfjnihhaaDoor.B64
set_option linter.unusedSimpArgs false
set_option linter.unusedVariables false
def wrongP : List PanicEntry := [{ v := .iface 144 (.agg #[]), recovered := false }]
theorem add_block (a : Addr) (j : Nat) : (a.add j).block = a.block := by unfold Addr.add; split <;> rfl
theorem C_keep {W W' : World} {A : Option Addr} {n : Nat} {xs : List Int} (h : Kd.C (Kd.int .u8) W A n xs) (hm : ∀ ad, A = some ad → ad.block < W.heap.size → W'.heap[ad.block]? = W.heap[ad.block]?) : Kd.C (Kd.int .u8) W' A n xs := by
 refine ⟨h.1, h.2.1, fun hn => ?_⟩
 obtain ⟨ad, e, hc⟩ := h.2.2 hn
 refine ⟨ad, e, fun j p hj => ?_⟩
 obtain ⟨c, h1, h2, h3⟩ := hc j p hj
 refine ⟨c, h1, h2, fun i u hu => ?_⟩
 have hx := h3 i u hu
 have hlt := World.block_lt_of_cell? _ _ hx
 rw [add_block] at hlt
 have hb := hm ad e hlt
 unfold World.cell? at hx ⊢
 rw [add_block] at hx ⊢
 rw [hb]
 exact hx
structure Rd (w0 w : World) (q : Nat) (xs : List Int) : Prop where
 below : Below w0.heap.size w0 w
 base : w0.heap.size ≤ q
 st : ∃ A c D, ∃ ds : List Int, w.heap[q]? = some (.cells #[.slice A xs.length c] 101 (0, 0)) ∧ xs.length ≤ c ∧ (∀ W, Kd.C (Kd.int .u8) W D ds.length ds → Kd.C (Kd.int .u8) W A xs.length xs) ∧ Kd.C (Kd.int .u8) w0 D ds.length ds
 bts : Bts xs
 len : xs.length ≤ 1000000
theorem Rd.qlt {w0 w : World} {q : Nat} {xs : List Int} (h : Rd w0 w q xs) : q < w.heap.size := by
 obtain ⟨A, c, D, ds, hq, _⟩ := h.st
 exact blk_lt hq
theorem Rd.step {w0 w w' : World} {q : Nat} {xs : List Int} (h : Rd w0 w q xs) (hb : Below w.heap.size w w') : Rd w0 w' q xs := by
 obtain ⟨A, c, D, ds, hq, h1, h2, h3⟩ := h.st
 exact ⟨below_step h.below hb, h.base, ⟨A, c, D, ds, blk_below hq hb, h1, h2, h3⟩, h.bts, h.len⟩
theorem Rd.put {w0 w : World} {q : Nat} {ys : List Int} {A : Option Addr} {c : Nat} {D : Option Addr} {ds : List Int} {v : Value} (hw : Below w0.heap.size w0 w) (hbs : w0.heap.size ≤ q) (hq : w.heap[q]? = some (.cells #[v] 101 (0, 0))) (hc : ys.length ≤ c) (h2 : ∀ W, Kd.C (Kd.int .u8) W D ds.length ds → Kd.C (Kd.int .u8) W A ys.length ys) (h3 : Kd.C (Kd.int .u8) w0 D ds.length ds) (hb : Bts ys) (hl : ys.length ≤ 1000000) :
  Rd w0 (w.setCell ⟨q, 0, none⟩ (.slice A ys.length c)) q ys :=
 ⟨below_set hw hbs, hbs, ⟨A, c, D, ds, blk_put hq 0 _ rfl, hc, h2, h3⟩, hb, hl⟩
theorem wrote_set {w w1 : World} {q : Nat} (hb : Below w.heap.size w w1) (v : Value) : Wrote (fun k => k = q) w (w1.setCell ⟨q, 0, none⟩ v) := ((Wrote.refl _ w).below hb).set _ _ rfl
theorem rdNum_get {xs : List Int} {n : Int} {r : List Int} (h : rdNum xs = some (n, r)) (hb : Bts xs) : ∃ K : Nat, getU xs = (n, (K : Int), 0) ∧ K ≤ xs.length ∧ xs.drop K = r ∧ r.length < xs.length ∧ okU n := by
 obtain ⟨hok, he, hne⟩ := rdNum_back h
 unfold rdNum at h
 split at h
 ·
  rename_i h0
  obtain ⟨K, u, hg, hu, hf, hk⟩ := getU_back xs h0
  rw [hg] at h ⊢
  simp only [Int.toNat_natCast, Option.some.injEq, Prod.mk.injEq] at h
  refine ⟨K, by rw [h.1], hk, h.2, ?_, hok⟩
  have : (cNum n).length ≠ 0 := fun h0 => hne (List.eq_nil_of_length_eq_zero h0)
  rw [he, List.length_append]
  omega
 ·
  cases h
theorem rdNum_bad {xs : List Int} (h : rdNum xs = none) : (getU xs).2.2 ≠ 0 := by
 unfold rdNum at h
 split at h
 ·
  cases h
 ·
  assumption
set_option maxHeartbeats 8000000 in
set_option maxRecDepth 100000 in
theorem reader_number_ok (q : Nat) (xs : List Int) (n : Int) (r : List Int) (hr : rdNum xs = some (n, r)) (w0 w : World) (h : Rd w0 w q xs) :
  Calls Tryd.prog 122 #[.pointer (some ⟨q, 0, none⟩)] w fun e w' => e = .returned (.int .u64 n) ∧ Rd w0 w' q r ∧ Wrote (fun k => k = q) w w' := by
 obtain ⟨K, hg, hK, hd, hlt, hok⟩ := rdNum_get hr h.bts
 obtain ⟨A, c, D, ds, hq, hc, h2, h3⟩ := h.st
 have q0 := blk_cell hq 0
 have z0 := blk_frozen hq 0
 simp only [List.getElem?_toArray, List.getElem?_cons_zero] at q0
 have HQ := Aside0.mk hq
 have HC := Aside0.mk hc
 have H2 := Aside0.mk h2
 have H3 := Aside0.mk (Kd.C_below h3 h.below)
 have H30 := Aside0.mk h3
 have HB := Aside0.mk h.bts
 have HL := Aside0.mk h.len
 have HW0 := Aside0.mk h.below
 have HBS := Aside0.mk h.base
 have HG := Aside0.mk (show leb_Get.f (xs.length + 41) xs = some (n, (K : Int), 0) by rw [Get_f _ xs h.bts (by have := h.len; omega) (by omega), hg])
 have HD := Aside0.mk hd
 have HLT := Aside0.mk hlt
 obtain ⟨A', hcut, hcr, hcl⟩ := cut_drop_int (P := Tryd.prog) (k := .u8) 27 5 Tryd.underlying27 winfo8 A c xs r K hK hc hd
 have HCR := Aside0.mk hcr
 have HCL := Aside0.mk hcl
 clear hr h hg hK hd hlt hok hq hc h2 h3 hcr hcl
 go_enter Tryd.func122, Tryd.ntmps122
 go_wp2_with fail
 refine (leb_Get.calls (xs.length + 41) A c xs n (K : Int) 0 _ (H2.out _ H3.out) HC.out HG.out).mono ?_
 rintro e w1 ⟨rfl, hb⟩
 have HB1 := Aside0.mk hb
 have HQ1 := Aside0.mk (blk_below HQ.out hb)
 clear hb q0 z0
 have q0 := blk_cell HQ1.out 0
 have z0 := blk_frozen HQ1.out 0
 simp only [List.getElem?_toArray, List.getElem?_cons_zero] at q0
 go_wp2
 go_ret
 exact ⟨rfl, Rd.put (below_step HW0.out HB1.out) HBS.out HQ1.out HCL.out (fun W hW => HCR.out W (H2.out W hW)) H30.out (by rw [← HD.out]; exact Bts.drop HB.out _) (by have := HLT.out; have := HL.out; omega), wrote_set HB1.out _⟩
set_option maxHeartbeats 8000000 in
set_option maxRecDepth 100000 in
theorem reader_number_no (q : Nat) (xs : List Int) (hr : rdNum xs = none) (w0 w : World) (h : Rd w0 w q xs) :
  Calls Tryd.prog 122 #[.pointer (some ⟨q, 0, none⟩)] w fun e w' => e = .panicked wrongP ∧ Wrote (fun k => k = q) w w' := by
 have hbad := rdNum_bad hr
 obtain ⟨⟨g1, g2, g3⟩, hg⟩ : ∃ p, getU xs = p := ⟨_, rfl⟩
 rw [hg] at hbad
 obtain ⟨A, c, D, ds, hq, hc, h2, h3⟩ := h.st
 have q0 := blk_cell hq 0
 have z0 := blk_frozen hq 0
 simp only [List.getElem?_toArray, List.getElem?_cons_zero] at q0
 have HQ := Aside0.mk hq
 have HC := Aside0.mk hc
 have H2 := Aside0.mk h2
 have H3 := Aside0.mk (Kd.C_below h3 h.below)
 have H30 := Aside0.mk h3
 have HB := Aside0.mk h.bts
 have HL := Aside0.mk h.len
 have HW0 := Aside0.mk h.below
 have HBS := Aside0.mk h.base
 have HG := Aside0.mk (show leb_Get.f (xs.length + 41) xs = some (g1, g2, g3) by rw [Get_f _ xs h.bts (by have := h.len; omega) (by omega), hg])
 have hbad2 : (g3 != 0) = true := by simpa using hbad
 have hbad3 : decide (g3 ≠ 0) = true := decide_eq_true hbad
 clear hr h hg hq hc h2 h3 hbad
 go_enter Tryd.func122, Tryd.ntmps122
 go_wp2_with fail
 refine (leb_Get.calls (xs.length + 41) A c xs g1 g2 g3 _ (H2.out _ H3.out) HC.out HG.out).mono ?_
 rintro e w1 ⟨rfl, hb⟩
 have HB1 := Aside0.mk hb
 clear hb q0 z0
 go_wp2
 exact ⟨rfl, rfl, (Wrote.refl _ _).below HB1.out⟩
set_option maxHeartbeats 8000000 in
set_option maxRecDepth 100000 in
theorem reader_int_ok (q : Nat) (xs : List Int) (n : Int) (r : List Int) (hr : rdInt xs = some (n, r)) (w0 w : World) (h : Rd w0 w q xs) :
  Calls Tryd.prog 120 #[.pointer (some ⟨q, 0, none⟩)] w fun e w' => e = .returned (.int .i64 n) ∧ Rd w0 w' q r ∧ Wrote (fun k => k = q) w w' := by
 have hok := (rdInt_back hr).1
 unfold rdInt at hr
 obtain ⟨p, hp, hr⟩ := Option.bind_eq_some_iff.1 hr
 split at hr
 ·
  rename_i hle
  injection hr with hr
  subst hr
  have HC := Aside0.mk (reader_number_ok q xs n r hp w0 w h)
  have hgt : decide (n > 9223372036854775807) = false := decide_eq_false (by omega)
  have hcv : wrap64 n = n := by unfold okP at hok; unfold wrap64; omega
  have hcv2 : IntKind.i64.wrap n = n := by rw [i64_w, hcv]
  clear hp h hle hok
  go_enter Tryd.func120, Tryd.ntmps120
  go_wp2_with fail
  refine HC.out.mono ?_
  rintro e w1 ⟨rfl, h1, h2⟩
  have H1 := Aside0.mk h1
  have H2 := Aside0.mk h2
  clear h1 h2
  go_wp2
  go_ret
  exact ⟨by first | rfl | simp [hcv, hcv2], H1.out, H2.out⟩
 ·
  cases hr
set_option maxHeartbeats 8000000 in
set_option maxRecDepth 100000 in
theorem reader_int_no (q : Nat) (xs : List Int) (hr : rdInt xs = none) (w0 w : World) (h : Rd w0 w q xs) :
  Calls Tryd.prog 120 #[.pointer (some ⟨q, 0, none⟩)] w fun e w' => e = .panicked wrongP ∧ Wrote (fun k => k = q) w w' := by
 cases hp : rdNum xs with
 | none =>
  have HC := Aside0.mk (reader_number_no q xs hp w0 w h)
  clear hp h hr
  go_enter Tryd.func120, Tryd.ntmps120
  go_wp2_with fail
  refine HC.out.mono ?_
  rintro e w1 ⟨rfl, h2⟩
  exact ⟨rfl, rfl, h2⟩
 | some p =>
  obtain ⟨n, r⟩ := p
  have HC := Aside0.mk (reader_number_ok q xs n r hp w0 w h)
  have hgt : decide (n > 9223372036854775807) = true := by
   unfold rdInt at hr
   rw [hp, Option.bind_some] at hr
   split at hr
   ·
    cases hr
   ·
    rename_i hle
    exact decide_eq_true (by simp only at hle; omega)
  clear hp h hr
  go_enter Tryd.func120, Tryd.ntmps120
  go_wp2_with fail
  refine HC.out.mono ?_
  rintro e w1 ⟨rfl, h1, h2⟩
  have H2 := Aside0.mk h2
  clear h1 h2
  go_wp2
  exact ⟨rfl, rfl, H2.out⟩
set_option maxHeartbeats 8000000 in
set_option maxRecDepth 100000 in
theorem reader_label_ok (q : Nat) (xs : List Int) (n : Int) (r : List Int) (hr : rdNum xs = some (n, r)) (w0 w : World) (h : Rd w0 w q xs) :
  Calls Tryd.prog 99 #[.pointer (some ⟨q, 0, none⟩)] w fun e w' => e = .returned (.int .u64 n) ∧ Rd w0 w' q r ∧ Wrote (fun k => k = q) w w' := by
 have HC := Aside0.mk (reader_number_ok q xs n r hr w0 w h)
 clear hr h
 go_enter Tryd.func99, Tryd.ntmps99
 go_wp2_with fail
 refine HC.out.mono ?_
 rintro e w1 ⟨rfl, h1, h2⟩
 have H1 := Aside0.mk h1
 have H2 := Aside0.mk h2
 clear h1 h2
 go_wp2
 go_ret
 exact ⟨rfl, H1.out, H2.out⟩
set_option maxHeartbeats 8000000 in
set_option maxRecDepth 100000 in
theorem reader_label_no (q : Nat) (xs : List Int) (hr : rdNum xs = none) (w0 w : World) (h : Rd w0 w q xs) :
  Calls Tryd.prog 99 #[.pointer (some ⟨q, 0, none⟩)] w fun e w' => e = .panicked wrongP ∧ Wrote (fun k => k = q) w w' := by
 have HC := Aside0.mk (reader_number_no q xs hr w0 w h)
 clear hr h
 go_enter Tryd.func99, Tryd.ntmps99
 go_wp2_with fail
 refine HC.out.mono ?_
 rintro e w1 ⟨rfl, h2⟩
 exact ⟨rfl, rfl, h2⟩
theorem Wrote.keep {q g : Nat} {w w' : World} {ob : Obj} (h : Wrote (fun k => k = q) w w') (hg : w.heap[g]? = some ob) (hne : g ≠ q) : w'.heap[g]? = some ob := (h.block g (blk_lt hg) hne).trans hg
theorem Wrote.then {q : Nat} {w w1 w2 : World} (h : Wrote (fun k => k = q) w w1) (h' : Wrote (fun k => k = q) w1 w2) : Wrote (fun k => k = q) w w2 := h.trans h' (fun _ hk => .inl hk)
theorem Wrote.setNew {q b i : Nat} {w w1 : World} (h : Wrote (fun k => k = q) w w1) (hb : w.heap.size ≤ b) (v : Value) : Wrote (fun k => k = q) w (w1.setCell ⟨b, i, none⟩ v) :=
 ⟨h.os, h.tape, h.output, by have := h.size; simpa [World.setCell] using this, fun k hk hn => (Below.heap_setCell w1 ⟨b, i, none⟩ v k (by simp only; omega)).trans (h.block k hk hn)⟩
theorem Rd.far {w0 w : World} {q b i : Nat} {xs : List Int} (h : Rd w0 w q xs) (hb : w0.heap.size ≤ b) (hq : b ≠ q) (v : Value) : Rd w0 (w.setCell ⟨b, i, none⟩ v) q xs := by
 obtain ⟨A, c, D, ds, hQ, h1, h2, h3⟩ := h.st
 exact ⟨below_set h.below hb, h.base, ⟨A, c, D, ds, blk_far (p := ⟨b, i, none⟩) hQ (Ne.symm hq) v, h1, h2, h3⟩, h.bts, h.len⟩
def ClipB {α : Type} (d : Kd α) (e : Nat) (W : World) (lo hi : Nat) (v : Value) (xs : List α) : Prop := ∃ A c, v = .slice A xs.length xs.length ∧ d.R e W lo (fun k => lo ≤ k ∧ k < hi) (.slice A xs.length c) xs
theorem ClipB.move {α : Type} {d : Kd α} {e : Nat} {W W' : World} {lo hi : Nat} {v : Value} {xs : List α} (h : ClipB d e W lo hi v xs) (hm : ∀ k, lo ≤ k → k < hi → k < W.heap.size → W'.heap[k]? = W.heap[k]?) : ClipB d e W' lo hi v xs := by
 obtain ⟨A, c, e1, hR⟩ := h
 exact ⟨A, c, e1, Kd.R_step hR (fun k hk hlt => hm k hk.1 hk.2 hlt)⟩
theorem ClipB.below {α : Type} {d : Kd α} {e : Nat} {W W' : World} {lo hi : Nat} {v : Value} {xs : List α} (h : ClipB d e W lo hi v xs) (hb : Below W.heap.size W W') : ClipB d e W' lo hi v xs := h.move (fun k _ _ hlt => hb.block k hlt)
theorem ClipB.wrote {α : Type} {d : Kd α} {e : Nat} {W W' : World} {lo hi q : Nat} {v : Value} {xs : List α} (h : ClipB d e W lo hi v xs) (hw : Wrote (fun k => k = q) W W') (hq : q < lo) : ClipB d e W' lo hi v xs := h.move (fun k hk _ hlt => hw.block k hlt (by omega))
theorem ClipB.of {α : Type} {d : Kd α} {e : Nat} {W : World} {lo : Nat} {A : Option Addr} {c : Nat} {xs : List α} (h : d.R e W lo (fun k => lo ≤ k) (.slice A xs.length c) xs) : ClipB d e W lo W.heap.size (.slice A xs.length xs.length) xs :=
 ⟨A, c, rfl, Kd.R_mono (Kd.R_bound h) (fun k hk => ⟨hk.1, hk.2.2.1⟩)⟩
theorem ClipB.slice {α : Type} {d : Kd α} {e : Nat} {W : World} {lo hi : Nat} {v : Value} {xs : List α} (h : ClipB d e W lo hi v xs) : ∃ A, v = .slice A xs.length xs.length := by
 obtain ⟨A, c, e1, _⟩ := h
 exact ⟨A, e1⟩
theorem ClipB.reads {α : Type} {d : Kd α} {e : Nat} {W : World} {lo hi : Nat} {v : Value} {xs : List α} (h : ClipB d e W lo hi v xs) : ∃ A, v = .slice A xs.length xs.length ∧ d.C W A xs.length xs := by
 obtain ⟨A, c, e1, hR⟩ := h
 exact ⟨A, e1, (Kd.R_reads' hR).2.2⟩
def FnRows (W : World) (lo hi : Nat) (x : S41) (cs : List Value) : Prop := ∃ v1 v2 v5 l1 m1 l2 m2 l5 m5, cs = [.int .u64 x.f0, v1, v2, .int .i64 x.f3, .int .i64 x.f4, v5] ∧ lo ≤ l1 ∧ l1 ≤ m1 ∧ m1 ≤ l2 ∧ l2 ≤ m2 ∧ m2 ≤ l5 ∧ l5 ≤ m5 ∧ m5 ≤ hi ∧ ClipB (Kd.int .u64) 36 W l1 m1 v1 x.f1 ∧ ClipB (Kd.int .u64) 36 W l2 m2 v2 x.f2 ∧ ClipB k44 44 W l5 m5 v5 x.f5
theorem FnRows.move {W W' : World} {lo hi : Nat} {x : S41} {cs : List Value} (h : FnRows W lo hi x cs) (hm : ∀ k, lo ≤ k → k < hi → k < W.heap.size → W'.heap[k]? = W.heap[k]?) : FnRows W' lo hi x cs := by
 obtain ⟨v1, v2, v5, l1, m1, l2, m2, l5, m5, e, a, b, c, d, f, g, i, h1, h2, h5⟩ := h
 exact ⟨v1, v2, v5, l1, m1, l2, m2, l5, m5, e, a, b, c, d, f, g, i, h1.move (fun k p q r => hm k (by omega) (by omega) r), h2.move (fun k p q r => hm k (by omega) (by omega) r), h5.move (fun k p q r => hm k (by omega) (by omega) r)⟩
def FnsOk (W : World) (ok : Nat → Prop) : Nat → Nat → List (List Value) → List S41 → Prop
 | lo, hi, [], [] => lo ≤ hi
 | lo, hi, cs :: css, x :: xs => ∃ l m, lo ≤ l ∧ l ≤ m ∧ (∀ k, l ≤ k → k < m → ok k) ∧ FnRows W l m x cs ∧ FnsOk W ok m hi css xs
 | _, _, _, _ => False
theorem FnsOk.le {W : World} {ok : Nat → Prop} : ∀ {css : List (List Value)} {xs : List S41} {lo hi : Nat}, FnsOk W ok lo hi css xs → lo ≤ hi
 | [], [], _, _, h => h
 | cs :: css, x :: xs, lo, hi, ⟨l, m, h1, h2, h3, h4, h5⟩ => Nat.le_trans h1 (Nat.le_trans h2 h5.le)
 | [], _ :: _, _, _, h => h.elim
 | _ :: _, [], _, _, h => h.elim
theorem FnsOk.move {W W' : World} {ok ok' : Nat → Prop} : ∀ {css : List (List Value)} {xs : List S41} {lo hi : Nat}, FnsOk W ok lo hi css xs → (∀ k, lo ≤ k → k < hi → ok k → k < W.heap.size → W'.heap[k]? = W.heap[k]?) → (∀ k, lo ≤ k → k < hi → ok k → ok' k) → FnsOk W' ok' lo hi css xs
 | [], [], _, _, h, _, _ => h
 | cs :: css, x :: xs, lo, hi, ⟨l, m, h1, h2, h3, h4, h5⟩, hm, ho => ⟨l, m, h1, h2, fun k p q => ho k (by omega) (by have := h5.le; omega) (h3 k p q), h4.move (fun k p q r => hm k (by omega) (by have := h5.le; omega) (h3 k p q) r), h5.move (fun k p q r s => hm k (by omega) q r s) (fun k p q r => ho k (by omega) q r)⟩
 | [], _ :: _, _, _, h, _, _ => h.elim
 | _ :: _, [], _, _, h, _, _ => h.elim
theorem FnsOk.snoc {W : World} {ok : Nat → Prop} {cs : List Value} {x : S41} {hi hi' : Nat} (hh : hi ≤ hi') : ∀ {css : List (List Value)} {xs : List S41} {lo l : Nat}, FnsOk W ok lo hi css xs → hi ≤ l → l ≤ hi' → (∀ k, l ≤ k → k < hi' → ok k) → FnRows W l hi' x cs → FnsOk W ok lo hi' (css ++ [cs]) (xs ++ [x])
 | [], [], lo, l, h, h1, h2, ho, h3 => ⟨l, hi', Nat.le_trans h h1, h2, ho, h3, Nat.le_refl _⟩
 | c :: css, y :: xs, lo, l, ⟨a, b, p, q, oo, r, s⟩, h1, h2, ho, h3 => ⟨a, b, p, q, oo, r, s.snoc hh h1 h2 ho h3⟩
 | [], _ :: _, _, _, h, _, _, _, _ => h.elim
 | _ :: _, [], _, _, h, _, _, _, _ => h.elim
theorem FnsOk.grow {W : World} {ok : Nat → Prop} {hi hi' : Nat} (hh : hi ≤ hi') : ∀ {css : List (List Value)} {xs : List S41} {lo : Nat}, FnsOk W ok lo hi css xs → FnsOk W ok lo hi' css xs
 | [], [], lo, h => Nat.le_trans h hh
 | c :: css, y :: xs, lo, ⟨a, b, p, q, oo, r, s⟩ => ⟨a, b, p, q, oo, r, s.grow hh⟩
 | [], _ :: _, _, h => h.elim
 | _ :: _, [], _, h => h.elim
theorem FnRows.cells {W : World} {lo hi : Nat} {x : S41} {cs : List Value} (h : FnRows W lo hi x cs) : ∃ A1 A2 A5, cs = [.int .u64 x.f0, .slice A1 x.f1.length x.f1.length, .slice A2 x.f2.length x.f2.length, .int .i64 x.f3, .int .i64 x.f4, .slice A5 x.f5.length x.f5.length] := by
 obtain ⟨v1, v2, v5, l1, m1, l2, m2, l5, m5, e, a, b, c, d, f, g, i, h1, h2, h5⟩ := h
 obtain ⟨A1, e1⟩ := h1.slice
 obtain ⟨A2, e2⟩ := h2.slice
 obtain ⟨A5, e5⟩ := h5.slice
 subst e1 e2 e5
 exact ⟨A1, A2, A5, e⟩
set_option maxHeartbeats 8000000 in
set_option maxRecDepth 100000 in
theorem reader_array_ok (q : Nat) (xs : List Int) (x : S38) (r : List Int) (hr : rdArr xs = some (x, r)) (w0 w : World) (h : Rd w0 w q xs) :
  Calls Tryd.prog 101 #[.pointer (some ⟨q, 0, none⟩)] w fun e w' => e = .returned (.agg #[.int .i64 x.f0, .int .u64 x.f1]) ∧ Rd w0 w' q r ∧ Wrote (fun k => k = q) w w' := by
 unfold rdArr at hr
 obtain ⟨⟨n, r1⟩, h1, hr⟩ := Option.bind_eq_some_iff.1 hr
 obtain ⟨⟨m, r2⟩, h2, hr⟩ := Option.map_eq_some_iff.1 hr
 injection hr with e1 e2
 subst e1 e2
 have hbA := below_alloc (Below.refl w.heap.size w) (.cells #[.int .i64 0, .int .u64 0] 38)
 have HC1 := Aside0.mk (reader_int_ok q xs n r1 h1 w0 _ (h.step hbA))
 have HN := Aside0.mk h2
 have HQL := Aside0.mk (show w.heap.size ≠ q by have := h.qlt; omega)
 have HG := Aside0.mk (heap_alloc_new w (.cells #[.int .i64 0, .int .u64 0] 38))
 have HBA := Aside0.mk hbA
 have HS0 := Aside0.mk h.below.size
 clear h h1 h2 hbA
 go_enter Tryd.func101, Tryd.ntmps101
 go_wp2_with fail
 refine HC1.out.mono ?_
 rintro e w1 ⟨rfl, hR1, hW1⟩
 replace HG := Aside0.mk (hW1.keep HG.out HQL.out)
 have HW1 := Aside0.mk (((Wrote.refl (fun k => k = q) w).below HBA.out).then hW1)
 have HC2 := Aside0.mk (reader_label_ok q r1 m r2 HN.out w0 w1 hR1)
 clear hR1 hW1 HC1
 go_wp2_with fail
 refine HC2.out.mono ?_
 rintro e w2 ⟨rfl, hR2, hW2⟩
 replace HG := Aside0.mk (hW2.keep HG.out HQL.out)
 have HW2 := Aside0.mk (HW1.out.then hW2)
 have HR2 := Aside0.mk hR2
 clear hR2 hW2 HC2
 obtain ⟨a0, a1, z0, z1⟩ := facts2 HG.out
 go_wp2
 refine bodyPost_ret (results_cell_row rfl _ _ w.heap.size 38 #[.int .i64 n, .int .u64 m] (0, 0) _ rfl (put2 HG.out _ _) Tryd.underlying38 rfl (by kernel_rfl)) rfl ?_
 exact ⟨rfl, (HR2.out.far HS0.out HQL.out _).far HS0.out HQL.out _, (HW2.out.setNew (Nat.le_refl _) _).setNew (Nat.le_refl _) _⟩
set_option maxHeartbeats 8000000 in
set_option maxRecDepth 100000 in
theorem reader_array_no (q : Nat) (xs : List Int) (hr : rdArr xs = none) (w0 w : World) (h : Rd w0 w q xs) :
  Calls Tryd.prog 101 #[.pointer (some ⟨q, 0, none⟩)] w fun e w' => e = .panicked wrongP ∧ Wrote (fun k => k = q) w w' := by
 have hbA := below_alloc (Below.refl w.heap.size w) (.cells #[.int .i64 0, .int .u64 0] 38)
 have HBA := Aside0.mk hbA
 cases h1 : rdInt xs with
 | none =>
  have HC1 := Aside0.mk (reader_int_no q xs h1 w0 _ (h.step hbA))
  clear h h1 hbA hr
  go_enter Tryd.func101, Tryd.ntmps101
  go_wp2_with fail
  refine HC1.out.mono ?_
  rintro e w1 ⟨rfl, hW1⟩
  exact ⟨rfl, rfl, ((Wrote.refl (fun k => k = q) w).below HBA.out).then hW1⟩
 | some p =>
  obtain ⟨n, r1⟩ := p
  have h2 : rdNum r1 = none := by
   unfold rdArr at hr
   rw [h1, Option.bind_some] at hr
   simpa using hr
  have HC1 := Aside0.mk (reader_int_ok q xs n r1 h1 w0 _ (h.step hbA))
  have HN := Aside0.mk h2
  clear h h1 h2 hbA hr
  go_enter Tryd.func101, Tryd.ntmps101
  go_wp2_with fail
  refine HC1.out.mono ?_
  rintro e w1 ⟨rfl, hR1, hW1⟩
  have HW1 := Aside0.mk (((Wrote.refl (fun k => k = q) w).below HBA.out).then hW1)
  have HC2 := Aside0.mk (reader_label_no q r1 HN.out w0 w1 hR1)
  clear hR1 hW1 HC1
  go_wp2_with fail
  refine HC2.out.mono ?_
  rintro e w2 ⟨rfl, hW2⟩
  exact ⟨rfl, rfl, HW1.out.then hW2⟩
theorem rdInstr_get {xs : List Int} {i : S44} {r : List Int} (h : rdInstr xs = some (i, r)) (hb : Bts xs) (hl : xs.length ≤ 1000000) : ∃ K : Nat, cgL xs = (i.f0, i.f1, (K : Int), 0) ∧ K ≤ xs.length ∧ xs.drop K = r ∧ r.length < xs.length ∧ okIns i := by
 obtain ⟨hok, he, hne⟩ := rdInstr_back hb hl h
 obtain ⟨ko, ka, m, f, hg, ho⟩ := get_backL xs hb hl
 unfold rdInstr cgL at h
 unfold cgL
 rw [hg] at h ⊢
 simp only at h
 split at h
 ·
  rename_i h0
  rcases ho with h1 | ⟨_, M, rfl, hm, hr, hk, ht⟩
  ·
   exact absurd h0 h1
  ·
   injection h with h
   injection h with h1 h2
   subst h1
   refine ⟨M, by rw [h0], hk, by rw [Int.toNat_natCast] at h2; exact h2, ?_, hok⟩
   have : (cInstr (⟨ko, ka⟩ : S44)).length ≠ 0 := fun h0 => hne (List.eq_nil_of_length_eq_zero h0)
   rw [he, List.length_append]
   omega
 ·
  cases h
theorem rdInstr_bad {xs : List Int} (h : rdInstr xs = none) : (cgL xs).2.2.2 ≠ 0 := by
 unfold rdInstr at h
 split at h
 ·
  cases h
 ·
  assumption
theorem code_GetL.calls (A : Option Addr) (c : Nat) (xs : List Int) (hb : Bts xs) (hl : xs.length ≤ 1000000) (w : World) (ht : Lib.TabIs Tryd.prog w "strings.asciiSpace" .u8 Lib.asciiSpaceTab) (hC : Kd.C (Kd.int .u8) w A xs.length xs) (hc : xs.length ≤ c) (p : Int × Int × Int × Int) (hp : cgL xs = p) :
  Calls Tryd.prog 23 #[.slice A xs.length c] w fun e w' => e = .returned (.tuple #[.agg #[.int .i64 p.1, .int .i64 p.2.1], .int .i64 p.2.2.1, .int .i64 p.2.2.2]) ∧ Below w.heap.size w w' := by
 have hbt : Bts xs.tail := fun x hx => hb x (List.mem_of_mem_tail hx)
 have hlt : xs.tail.length ≤ 1000000 := by rw [List.length_tail]; omega
 rw [← hp]
 exact code_Get.calls (xs.tail.length + 41) A c xs (getU xs.tail) (getS xs.tail) w ht hC hc hb (Get_f _ _ hbt (by omega) (by omega)) (GetSigned_f _ _ hbt (by omega) (by omega))
set_option maxHeartbeats 16000000 in
set_option maxRecDepth 100000 in
theorem reader_instr_ok (q : Nat) (xs : List Int) (x : S44) (r : List Int) (hr : rdInstr xs = some (x, r)) (w0 : World) (ht : Lib.TabIs Tryd.prog w0 "strings.asciiSpace" .u8 Lib.asciiSpaceTab) (w : World) (h : Rd w0 w q xs) :
  Calls Tryd.prog 126 #[.pointer (some ⟨q, 0, none⟩)] w fun e w' => e = .returned (.agg #[.int .i64 x.f0, .int .i64 x.f1]) ∧ Rd w0 w' q r ∧ Wrote (fun k => k = q) w w' := by
 obtain ⟨K, hg, hK, hd, hlt, hok⟩ := rdInstr_get hr h.bts h.len
 have hbA := below_alloc (Below.refl w.heap.size w) (.cells #[.int .i64 0, .int .i64 0] 44)
 have hS := h.step hbA
 have HS0 := Aside0.mk h.below.size
 have HQL := Aside0.mk (show w.heap.size ≠ q by have := h.qlt; omega)
 have HG := Aside0.mk (heap_alloc_new w (.cells #[.int .i64 0, .int .i64 0] 44))
 have HBA := Aside0.mk hbA
 obtain ⟨A, c, D, ds, hq, hc, h2, h3⟩ := hS.st
 have q0 := blk_cell hq 0
 have z0 := blk_frozen hq 0
 simp only [List.getElem?_toArray, List.getElem?_cons_zero] at q0
 have HQ := Aside0.mk hq
 have HC := Aside0.mk hc
 have H2 := Aside0.mk h2
 have H30 := Aside0.mk h3
 have HB := Aside0.mk h.bts
 have HL := Aside0.mk h.len
 have HW0 := Aside0.mk hS.below
 have HBS := Aside0.mk h.base
 have HX := Aside0.mk (h2 _ (Kd.C_below h3 hS.below))
 have HD := Aside0.mk hd
 have HLT := Aside0.mk hlt
 have HC1 := Aside0.mk (code_GetL.calls A c xs h.bts h.len _ (tab_below ht hS.below) HX.out hc _ hg)
 obtain ⟨A', hcut, hcr, hcl⟩ := cut_drop_int (P := Tryd.prog) (k := .u8) 27 5 Tryd.underlying27 winfo8 A c xs r K hK hc hd
 have HCR := Aside0.mk hcr
 have HCL := Aside0.mk hcl
 clear hr h hg hK hd hlt hok hq hc h2 h3 hcr hcl hbA hS ht
 go_enter Tryd.func126, Tryd.ntmps126
 go_wp2_with fail
 refine HC1.out.mono ?_
 rintro e w1 ⟨rfl, hb⟩
 have HB1 := Aside0.mk (below_step HBA.out hb)
 have hq1 := blk_below HQ.out hb
 have hg1 := blk_below HG.out hb
 have HS1 := Aside0.mk (Nat.le_trans HS0.out HB1.out.size)
 have hbB := below_alloc (Below.refl w1.heap.size w1) (.cells #[.int .i64 x.f0, .int .i64 x.f1] 44)
 have HQ1 := Aside0.mk (blk_below hq1 hbB)
 have HG1 := Aside0.mk (blk_below hg1 hbB)
 have HI1 := Aside0.mk (heap_alloc_new w1 (.cells #[.int .i64 x.f0, .int .i64 x.f1] 44))
 have HNI := Aside0.mk (show w1.heap.size ≠ q ∧ w1.heap.size ≠ w.heap.size from ⟨by have := blk_lt hq1; omega, by have := blk_lt hg1; omega⟩)
 have HW1 := Aside0.mk (below_step (below_step HW0.out hb) hbB)
 have HBB := Aside0.mk (below_step HB1.out hbB)
 clear hb hbB hq1 hg1 q0 z0
 have q0 := blk_cell HQ1.out 0
 have z0 := blk_frozen HQ1.out 0
 simp only [List.getElem?_toArray, List.getElem?_cons_zero] at q0
 have hQQ := blk_put HQ1.out 0 (.slice A' r.length (c - K)) rfl
 have hII := blk_far (p := ⟨q, 0, none⟩) HI1.out HNI.out.1 (.slice A' r.length (c - K))
 have hGG := blk_far (p := ⟨q, 0, none⟩) HG1.out HQL.out (.slice A' r.length (c - K))
 have HGG := Aside0.mk hGG
 obtain ⟨i0, i1, _, _⟩ := facts2 hII
 obtain ⟨g0, g1, y0, y1⟩ := facts2 hGG
 clear hQQ hII hGG
 go_wp2
 refine bodyPost_ret (results_cell_row rfl _ _ w.heap.size 44 #[.int .i64 x.f0, .int .i64 x.f1] (0, 0) _ rfl (put2 HGG.out _ _) Tryd.underlying44 rfl (by kernel_rfl)) rfl ?_
 refine ⟨rfl, ?_, ?_⟩
 ·
  exact ((Rd.put HW1.out HBS.out HQ1.out HCL.out (fun W hW => HCR.out W (H2.out W hW)) H30.out (by rw [← HD.out]; exact Bts.drop HB.out _) (by have := HLT.out; have := HL.out; omega)).far HS0.out HQL.out _).far HS0.out HQL.out _
 ·
  exact ((wrote_set HBB.out _).setNew (Nat.le_refl _) _).setNew (Nat.le_refl _) _
set_option maxHeartbeats 8000000 in
set_option maxRecDepth 100000 in
theorem reader_instr_no (q : Nat) (xs : List Int) (hr : rdInstr xs = none) (w0 : World) (ht : Lib.TabIs Tryd.prog w0 "strings.asciiSpace" .u8 Lib.asciiSpaceTab) (w : World) (h : Rd w0 w q xs) :
  Calls Tryd.prog 126 #[.pointer (some ⟨q, 0, none⟩)] w fun e w' => e = .panicked wrongP ∧ Wrote (fun k => k = q) w w' := by
 have hbad := rdInstr_bad hr
 obtain ⟨⟨g1, g2, g3, g4⟩, hg⟩ : ∃ p, cgL xs = p := ⟨_, rfl⟩
 rw [hg] at hbad
 have hbA := below_alloc (Below.refl w.heap.size w) (.cells #[.int .i64 0, .int .i64 0] 44)
 have hS := h.step hbA
 have HS0 := Aside0.mk h.below.size
 have HQL := Aside0.mk (show w.heap.size ≠ q by have := h.qlt; omega)
 have HG := Aside0.mk (heap_alloc_new w (.cells #[.int .i64 0, .int .i64 0] 44))
 have HBA := Aside0.mk hbA
 obtain ⟨A, c, D, ds, hq, hc, h2, h3⟩ := hS.st
 have q0 := blk_cell hq 0
 have z0 := blk_frozen hq 0
 simp only [List.getElem?_toArray, List.getElem?_cons_zero] at q0
 have HQ := Aside0.mk hq
 have HC := Aside0.mk hc
 have H2 := Aside0.mk h2
 have H30 := Aside0.mk h3
 have HB := Aside0.mk h.bts
 have HL := Aside0.mk h.len
 have HW0 := Aside0.mk hS.below
 have HBS := Aside0.mk h.base
 have HX := Aside0.mk (h2 _ (Kd.C_below h3 hS.below))
 have HC1 := Aside0.mk (code_GetL.calls A c xs h.bts h.len _ (tab_below ht hS.below) HX.out hc _ hg)
 have hbad2 : (g4 != 0) = true := by simpa using hbad
 have hbad3 : decide (g4 ≠ 0) = true := decide_eq_true hbad
 clear hr h hg hq hc h2 h3 hbA hS ht hbad
 go_enter Tryd.func126, Tryd.ntmps126
 go_wp2_with fail
 refine HC1.out.mono ?_
 rintro e w1 ⟨rfl, hb⟩
 have HB1 := Aside0.mk (below_step HBA.out hb)
 clear hb q0 z0
 go_wp2
 exact ⟨rfl, rfl, (Wrote.refl _ _).below (below_alloc HB1.out _)⟩
theorem Rd.grown {w0 w w1 : World} {q : Nat} {xs : List Int} {row : Option Nat} (h : Rd w0 w q xs) (hg : w.grownBy w1 row) (hr : ∀ g, row = some g → w0.heap.size ≤ g ∧ g ≠ q) : Rd w0 w1 q xs := by
 obtain ⟨A, c, D, ds, hQ, h1, h2, h3⟩ := h.st
 exact ⟨h.below.grown hg h.below.size (fun k e => (hr k e).1), h.base, ⟨A, c, D, ds, blk_grown hQ hg (fun e => (hr q e.symm).2 rfl), h1, h2, h3⟩, h.bts, h.len⟩
theorem rep_len {α : Type} (get : List Int → Option (α × List Int)) (hget : ∀ l x r, Bts l → l.length ≤ 1000000 → get l = some (x, r) → r.length < l.length ∧ Bts r) : ∀ (n : Nat) (l : List Int) (ys : List α) (r : List Int), Bts l → l.length ≤ 1000000 → rep get n l = some (ys, r) → ys.length + r.length ≤ l.length ∧ Bts r := by
 intro n
 induction n with
 | zero =>
  intro l ys r hb _ h
  injection h with h
  injection h with h1 h2
  subst h1 h2
  exact ⟨by simp, hb⟩
 | succ n ih =>
  intro l ys r hb hl h
  rw [rep] at h
  obtain ⟨p, hp, h⟩ := Option.bind_eq_some_iff.1 h
  obtain ⟨s, hs, h⟩ := Option.map_eq_some_iff.1 h
  injection h with h1 h2
  obtain ⟨g1, g2⟩ := hget l p.1 p.2 hb hl hp
  obtain ⟨i1, i2⟩ := ih p.2 s.1 s.2 g2 (by omega) hs
  rw [← h1, ← h2, List.length_cons]
  exact ⟨by omega, i2⟩
theorem get_num : ∀ (l : List Int) (x : Int) (r : List Int), Bts l → l.length ≤ 1000000 → rdNum l = some (x, r) → r.length < l.length ∧ Bts r := fun l x r hb hl h => by
 obtain ⟨K, _, _, hd, hlt, _⟩ := rdNum_get h hb
 exact ⟨hlt, by rw [← hd]; exact Bts.drop hb _⟩
theorem get_int : ∀ (l : List Int) (x : Int) (r : List Int), Bts l → l.length ≤ 1000000 → rdInt l = some (x, r) → r.length < l.length ∧ Bts r := fun l x r hb hl h => by
 unfold rdInt at h
 obtain ⟨p, hp, h⟩ := Option.bind_eq_some_iff.1 h
 split at h
 ·
  injection h with h
  subst h
  exact get_num l _ _ hb hl hp
 ·
  cases h
theorem get_instr : ∀ (l : List Int) (x : S44) (r : List Int), Bts l → l.length ≤ 1000000 → rdInstr l = some (x, r) → r.length < l.length ∧ Bts r := fun l x r hb hl h => by
 obtain ⟨K, _, _, hd, hlt, _⟩ := rdInstr_get h hb hl
 exact ⟨hlt, by rw [← hd]; exact Bts.drop hb _⟩
theorem get_arr : ∀ (l : List Int) (x : S38) (r : List Int), Bts l → l.length ≤ 1000000 → rdArr l = some (x, r) → r.length < l.length ∧ Bts r := fun l x r hb hl h => by
 unfold rdArr at h
 obtain ⟨⟨n, r1⟩, h1, h⟩ := Option.bind_eq_some_iff.1 h
 obtain ⟨⟨m, r2⟩, h2, h⟩ := Option.map_eq_some_iff.1 h
 injection h with _ e2
 obtain ⟨a, b⟩ := get_int l _ _ hb hl h1
 obtain ⟨c, d⟩ := get_num r1 _ _ b (by omega) h2
 rw [← e2]
 exact ⟨by simp only at c ⊢; omega, d⟩
theorem get_all {α : Type} {get : List Int → Option (α × List Int)} (hget : ∀ l x r, Bts l → l.length ≤ 1000000 → get l = some (x, r) → r.length < l.length ∧ Bts r) : ∀ (l : List Int) (x : List α) (r : List Int), Bts l → l.length ≤ 1000000 → rdAll get l = some (x, r) → r.length < l.length ∧ Bts r := fun l x r hb hl h => by
 unfold rdAll at h
 obtain ⟨⟨n, r1⟩, h1, h⟩ := Option.bind_eq_some_iff.1 h
 obtain ⟨a, b⟩ := get_int l _ _ hb hl h1
 obtain ⟨c, d⟩ := rep_len get hget _ _ _ _ b (by omega) h
 exact ⟨by omega, d⟩
theorem get_fn : ∀ (l : List Int) (x : S41) (r : List Int), Bts l → l.length ≤ 1000000 → rdFn l = some (x, r) → r.length < l.length ∧ Bts r := fun l x r hb hl h => by
 unfold rdFn at h
 obtain ⟨a, ha, h⟩ := Option.bind_eq_some_iff.1 h
 obtain ⟨b, hb', h⟩ := Option.bind_eq_some_iff.1 h
 obtain ⟨c, hc, h⟩ := Option.bind_eq_some_iff.1 h
 obtain ⟨d, hd, h⟩ := Option.bind_eq_some_iff.1 h
 obtain ⟨e, he, h⟩ := Option.bind_eq_some_iff.1 h
 obtain ⟨g, hg, h⟩ := Option.map_eq_some_iff.1 h
 injection h with _ h2
 obtain ⟨a1, a2⟩ := get_num l a.1 a.2 hb hl ha
 obtain ⟨b1, b2⟩ := get_all get_num a.2 b.1 b.2 a2 (by omega) hb'
 obtain ⟨c1, c2⟩ := get_all get_num b.2 c.1 c.2 b2 (by omega) hc
 obtain ⟨d1, d2⟩ := get_int c.2 d.1 d.2 c2 (by omega) hd
 obtain ⟨e1, e2⟩ := get_int d.2 e.1 e.2 d2 (by omega) he
 obtain ⟨g1, g2⟩ := get_all get_instr e.2 g.1 g.2 e2 (by omega) hg
 rw [← h2]
 exact ⟨by omega, g2⟩
theorem rdAll_parts {α : Type} {get : List Int → Option (α × List Int)} {xs : List Int} {ls : List α} {r : List Int} (h : rdAll get xs = some (ls, r)) : ∃ r1, rdInt xs = some ((ls.length : Int), r1) ∧ rep get ls.length r1 = some (ls, r) := by
 unfold rdAll at h
 obtain ⟨⟨n, r1⟩, hp, h⟩ := Option.bind_eq_some_iff.1 h
 have hn := (rdInt_back hp).1
 have hl : ∀ (m : Nat) (l : List Int) (ys : List α) (s : List Int), rep get m l = some (ys, s) → ys.length = m := by
  intro m
  induction m with
  | zero =>
   intro l ys s h
   injection h with h
   injection h with h1 _
   rw [← h1]
   rfl
  | succ m ih =>
   intro l ys s h
   rw [rep] at h
   obtain ⟨a, _, h⟩ := Option.bind_eq_some_iff.1 h
   obtain ⟨b, hb, h⟩ := Option.map_eq_some_iff.1 h
   injection h with h1 _
   rw [← h1, List.length_cons, ih _ _ _ hb]
 have h1 := hl _ _ _ _ h
 simp only at h h1
 have e : ((ls.length : Nat) : Int) = n := by unfold okP at hn; omega
 exact ⟨r1, by rw [e]; exact hp, by rw [h1]; exact h⟩
theorem rdAll_bad {α : Type} {get : List Int → Option (α × List Int)} {xs : List Int} (h : rdAll get xs = none) : rdInt xs = none ∨ ∃ (n : Nat) (r1 : List Int), rdInt xs = some ((n : Int), r1) ∧ n ≤ 9223372036854775807 ∧ rep get n r1 = none := by
 unfold rdAll at h
 cases hp : rdInt xs with
 | none => exact .inl rfl
 | some p =>
  obtain ⟨n, r1⟩ := p
  rw [hp, Option.bind_some] at h
  have hn := (rdInt_back hp).1
  unfold okP at hn
  refine .inr ⟨n.toNat, r1, by rw [show ((n.toNat : Nat) : Int) = n by omega], by omega, h⟩
theorem rep_next {α : Type} {get : List Int → Option (α × List Int)} {m : Nat} {l : List Int} {ys : List α} {r : List Int} (h : rep get (m + 1) l = some (ys, r)) : ∃ x r1 zs, get l = some (x, r1) ∧ ys = x :: zs ∧ rep get m r1 = some (zs, r) := by
 rw [rep] at h
 obtain ⟨⟨x, r1⟩, h1, h⟩ := Option.bind_eq_some_iff.1 h
 obtain ⟨⟨zs, r2⟩, h2, h⟩ := Option.map_eq_some_iff.1 h
 injection h with e1 e2
 subst e1 e2
 exact ⟨x, r1, zs, h1, rfl, h2⟩
theorem rep_bad {α : Type} {get : List Int → Option (α × List Int)} {m : Nat} {l : List Int} (h : rep get (m + 1) l = none) : get l = none ∨ ∃ x r1, get l = some (x, r1) ∧ rep get m r1 = none := by
 rw [rep] at h
 cases hg : get l with
 | none => exact .inl rfl
 | some p =>
  obtain ⟨x, r1⟩ := p
  rw [hg, Option.bind_some] at h
  exact .inr ⟨x, r1, rfl, by simpa using h⟩
theorem linfoA9 : (Tryd.prog.info? 38).map (fun i => (i.zero, i.size, i.bytes)) = some (some (.agg #[.int .i64 0, .int .u64 0]), 2, 16) := by kernel_rfl
theorem linfoI9 : (Tryd.prog.info? 44).map (fun i => (i.zero, i.size, i.bytes)) = some (some (.agg #[.int .i64 0, .int .i64 0]), 2, 16) := by kernel_rfl
theorem linfoF9 : (Tryd.prog.info? 41).map (fun i => (i.zero, i.size, i.bytes)) = some (some (.agg #[.int .u64 0, .slice none 0 0, .slice none 0 0, .int .i64 0, .int .i64 0, .slice none 0 0]), 6, 96) := by kernel_rfl
theorem linfoL9 : (Tryd.prog.info? 36).map (fun i => (i.zero, i.size, i.bytes)) = some (some (.int .u64 0), 1, 8) := by kernel_rfl
set_option maxHeartbeats 8000000 in
set_option maxRecDepth 100000 in
theorem clip_Label.calls (A : Option Addr) (n c : Nat) (h : n ≤ c) (w : World) : Calls Tryd.prog 121 #[.slice A n c] w fun e w' => e = .returned (.slice A n n) ∧ Drawn0 w w' := by
 obtain ⟨i010, hi010, _⟩ := info_parts linfoL9
 have hclip10 := clip_run (P := Tryd.prog) 22 36 Tryd.underlying22 hi010 A n c h
 clear hi010
 go_enter Tryd.func121, Tryd.ntmps121
 go_wp2
 go_ret
 exact ⟨rfl, by repeat (first | exact Drawn0.refl _ | apply Drawn0.step)⟩
set_option maxHeartbeats 8000000 in
set_option maxRecDepth 100000 in
theorem clip_Array.calls (A : Option Addr) (n c : Nat) (h : n ≤ c) (w : World) : Calls Tryd.prog 123 #[.slice A n c] w fun e w' => e = .returned (.slice A n n) ∧ Drawn0 w w' := by
 obtain ⟨i010, hi010, _⟩ := info_parts linfoA9
 have hclip10 := clip_run (P := Tryd.prog) 23 38 Tryd.underlying23 hi010 A n c h
 clear hi010
 go_enter Tryd.func123, Tryd.ntmps123
 go_wp2
 go_ret
 exact ⟨rfl, by repeat (first | exact Drawn0.refl _ | apply Drawn0.step)⟩
set_option maxHeartbeats 8000000 in
set_option maxRecDepth 100000 in
theorem clip_Instr.calls (A : Option Addr) (n c : Nat) (h : n ≤ c) (w : World) : Calls Tryd.prog 130 #[.slice A n c] w fun e w' => e = .returned (.slice A n n) ∧ Drawn0 w w' := by
 obtain ⟨i010, hi010, _⟩ := info_parts linfoI9
 have hclip10 := clip_run (P := Tryd.prog) 39 44 Tryd.underlying39 hi010 A n c h
 clear hi010
 go_enter Tryd.func130, Tryd.ntmps130
 go_wp2
 go_ret
 exact ⟨rfl, by repeat (first | exact Drawn0.refl _ | apply Drawn0.step)⟩
set_option maxHeartbeats 8000000 in
set_option maxRecDepth 100000 in
theorem clip_Function.calls (A : Option Addr) (n c : Nat) (h : n ≤ c) (w : World) : Calls Tryd.prog 124 #[.slice A n c] w fun e w' => e = .returned (.slice A n n) ∧ Drawn0 w w' := by
 obtain ⟨i010, hi010, _⟩ := info_parts linfoF9
 have hclip10 := clip_run (P := Tryd.prog) 24 41 Tryd.underlying24 hi010 A n c h
 clear hi010
 go_enter Tryd.func124, Tryd.ntmps124
 go_wp2
 go_ret
 exact ⟨rfl, by repeat (first | exact Drawn0.refl _ | apply Drawn0.step)⟩
set_option maxHeartbeats 16000000 in
set_option maxRecDepth 100000 in
theorem all_Label_ok (q : Nat) (xs : List Int) (ls : List Int) (r : List Int) (hr : rdAll rdNum xs = some (ls, r)) (w0 : World) (w : World) (h : Rd w0 w q xs) :
  Calls Tryd.prog 98 #[.pointer (some ⟨q, 0, none⟩), .func (.func 99) #[.pointer (some ⟨q, 0, none⟩)] #[]] w fun e w' => ∃ v, e = .returned v ∧ ClipB (Kd.int .u64) 36 w' w.heap.size w'.heap.size v ls ∧ Rd w0 w' q r ∧ Wrote (fun k => k = q) w w' := by
 obtain ⟨r1, h1, h2⟩ := rdAll_parts hr
 have HN := Aside0.mk (show ls.length ≤ 9223372036854775807 by have := (rdInt_back h1).1; unfold okP at this; omega)
 have HC1 := Aside0.mk (reader_int_ok q xs (ls.length : Int) r1 h1 w0 w h)
 have HR0 := Aside0.mk h2
 have HQL := Aside0.mk h.qlt
 have HS0 := Aside0.mk h.below.size
 have HLS := Aside0.mk (show ls.length ≤ 1000000 by
  have h3 := (rdInt_back h1).2.1
  have h4 := (rep_len _ get_num ls.length r1 ls r (fun x hx => h.bts x (by rw [h3]; exact List.mem_append_right _ hx)) (by have := h.len; rw [h3, List.length_append] at this; omega) h2).1
  have h5 := h.len
  rw [h3, List.length_append] at h5
  omega)
 clear h h1 h2 hr
 go_enter Tryd.func98, Tryd.ntmps98
 go_wp2_with fail
 refine HC1.out.mono ?_
 rintro e w2 ⟨rfl, hR1, hW1⟩
 have HR1 := Aside0.mk hR1
 have HW1 := Aside0.mk hW1
 clear hR1 hW1 HC1
 go_wp2
 go_loopg [6] (ls.length + 1) (fun kq v6 w' => ∃ (i : Nat) (ri : List Int), Aside0 (i + kq = ls.length + 1) ∧ Aside0 (1 ≤ kq) ∧ Aside0 (Rd w0 w' q ri) ∧ Aside0 (rep rdNum (ls.length - i) ri = some (ls.drop i, r)) ∧ Aside0 (Kd.R (Kd.int .u64) 36 w' w.heap.size (fun k => w.heap.size ≤ k) v6 (ls.take i)) ∧ Aside0 (Wrote (fun k => k = q) w w'))
 case atStart => exact ⟨0, r1, ⟨by omega⟩, ⟨by omega⟩, HR1, HR0, ⟨by rw [List.take_zero]; exact Kd.R_nil _ _ _ _ _⟩, HW1⟩
 case round =>
  clear HR1 HR0 HW1
  obtain ⟨i, ri, HI, HI1, HR, HP, HV, HW⟩ := hrel
  obtain ⟨A6, c6, e6⟩ := Kd.R_slice HV.out
  subst e6
  have hti : (ls.take i).length = i := by rw [List.length_take]; have := HI.out; have := HI1.out; omega
  have HTI := Aside0.mk hti
  rw [hti] at HV ⊢
  cases gk with
  | zero => exact absurd HI1.out (by omega)
  | succ k1 =>
   by_cases ci : i < ls.length
   ·
    have cib : decide ((i : Int) < (ls.length : Int)) = true := decide_eq_true (by omega)
    have hp := HP.out
    rw [show ls.length - i = (ls.length - (i + 1)) + 1 by omega] at hp
    obtain ⟨x, r2, zs, hg, hz, hp2⟩ := rep_next hp
    rw [List.drop_eq_getElem_cons ci] at hz
    injection hz with hz1 hz2
    have HX := Aside0.mk (show ls.take (i + 1) = ls.take i ++ [x] by rw [List.take_succ_eq_append_getElem ci, hz1])
    have HP2 := Aside0.mk (show rep rdNum (ls.length - (i + 1)) r2 = some (ls.drop (i + 1), r) by rw [hz2]; exact hp2)
    have HC2 := Aside0.mk (reader_label_ok q ri x r2 hg w0 wr HR.out)
    clear hp hg hz1 hz2 hp2
    go_wp2_with fail
    refine HC2.out.mono ?_
    rintro e w9 ⟨rfl, hR2, hW2⟩
    have hqr := HR.out.qlt
    have HV9 := Aside0.mk (Kd.R_step HV.out (fun k hk hlt => hW2.block k hlt (by have := HQL.out; omega)))
    have HW9 := Aside0.mk (HW.out.then hW2)
    have HR9 := Aside0.mk hR2
    clear hR2 hW2 HC2 hqr
    go_wp2_with (first | ((with_reducible refine gate_builtin (b := .append) (xs := #[.tmp 13, .tmp 16]) rfl ?_); at_builtin; refine Kd.R_append (Kd.int .u64) (w0 := w9) w.heap.size rfl (.tmp 13) (.tmp 16) 22 36 (.int .u64 0) 8 rfl Tryd.underlying22 linfoL9 rfl (by decide) (by omega) (.slice A6 i c6) (ls.take i) x [.int .u64 x] (fun k => w.heap.size ≤ k) (fun _ => False) rfl rfl ?aP (fun _ hk => hk.elim) ?aF ?aO ?aB ?aS ?aL ?_; (case aP => exact rfl); (case aB => exact Below.refl _ _); (case aF => exact (fun k hk => Nat.le_trans HW9.out.size hk)); (case aO => exact HV9.out); (case aS => exact HW9.out.size); (case aL => have := HLS.out; have := HTI.out; omega); intro v1 w1 ho hb hg hat; have HV1 := Aside0.mk ho; have HWN := Aside0.mk (HW9.out.grown hg (fun g e => .inr (HV9.out.1 g e))); have HRN := Aside0.mk (HR9.out.grown hg (fun g e => by have h1 : w.heap.size ≤ g := HV9.out.1 g e; have h2 := HQL.out; have h3 := HS0.out; exact ⟨by omega, by omega⟩)); clear ho hb hg hat))
    go_roundg k1
    case measure => omega
    case rel => exact ⟨i + 1, r2, ⟨by have := HI.out; omega⟩, ⟨by have := HI.out; omega⟩, ⟨HRN.out⟩, HP2, ⟨by rw [HX.out]; exact HV1.out⟩, ⟨HWN.out⟩⟩
   ·
    have cib : decide ((i : Int) < (ls.length : Int)) = false := decide_eq_false (by omega)
    obtain rfl : i = ls.length := by have := HI.out; omega
    have hp := HP.out
    rw [Nat.sub_self] at hp
    injection hp with hp
    obtain rfl : ri = r := congrArg Prod.snd hp
    have hV := HV.out
    rw [List.take_length] at hV
    have hcap := (Kd.R_reads' hV).2.1
    have HV2 := Aside0.mk hV
    have HC3 := Aside0.mk (clip_Label.calls A6 ls.length c6 hcap wr)
    clear hV hcap hp
    go_wp2_with fail
    refine HC3.out.mono ?_
    rintro e w9 ⟨rfl, hd⟩
    have hb := hd.below
    have HV3 := Aside0.mk (Kd.R_below HV2.out hb)
    have HR3 := Aside0.mk (HR.out.step hb)
    have HW3 := Aside0.mk (HW.out.below hb)
    clear hb hd
    go_wp2
    go_ret
    exact ⟨_, rfl, ClipB.of HV3.out, HR3.out, HW3.out⟩
set_option maxHeartbeats 16000000 in
set_option maxRecDepth 100000 in
theorem all_Array_ok (q : Nat) (xs : List Int) (ls : List S38) (r : List Int) (hr : rdAll rdArr xs = some (ls, r)) (w0 : World) (w : World) (h : Rd w0 w q xs) :
  Calls Tryd.prog 100 #[.pointer (some ⟨q, 0, none⟩), .func (.func 101) #[.pointer (some ⟨q, 0, none⟩)] #[]] w fun e w' => ∃ v, e = .returned v ∧ ClipB k38 38 w' w.heap.size w'.heap.size v ls ∧ Rd w0 w' q r ∧ Wrote (fun k => k = q) w w' := by
 obtain ⟨r1, h1, h2⟩ := rdAll_parts hr
 have HN := Aside0.mk (show ls.length ≤ 9223372036854775807 by have := (rdInt_back h1).1; unfold okP at this; omega)
 have HC1 := Aside0.mk (reader_int_ok q xs (ls.length : Int) r1 h1 w0 w h)
 have HR0 := Aside0.mk h2
 have HQL := Aside0.mk h.qlt
 have HS0 := Aside0.mk h.below.size
 have HLS := Aside0.mk (show ls.length ≤ 1000000 by
  have h3 := (rdInt_back h1).2.1
  have h4 := (rep_len _ get_arr ls.length r1 ls r (fun x hx => h.bts x (by rw [h3]; exact List.mem_append_right _ hx)) (by have := h.len; rw [h3, List.length_append] at this; omega) h2).1
  have h5 := h.len
  rw [h3, List.length_append] at h5
  omega)
 clear h h1 h2 hr
 go_enter Tryd.func100, Tryd.ntmps100
 go_wp2_with fail
 refine HC1.out.mono ?_
 rintro e w2 ⟨rfl, hR1, hW1⟩
 have HR1 := Aside0.mk hR1
 have HW1 := Aside0.mk hW1
 clear hR1 hW1 HC1
 go_wp2
 go_loopg [6] (ls.length + 1) (fun kq v6 w' => ∃ (i : Nat) (ri : List Int), Aside0 (i + kq = ls.length + 1) ∧ Aside0 (1 ≤ kq) ∧ Aside0 (Rd w0 w' q ri) ∧ Aside0 (rep rdArr (ls.length - i) ri = some (ls.drop i, r)) ∧ Aside0 (Kd.R k38 38 w' w.heap.size (fun k => w.heap.size ≤ k) v6 (ls.take i)) ∧ Aside0 (Wrote (fun k => k = q) w w'))
 case atStart => exact ⟨0, r1, ⟨by omega⟩, ⟨by omega⟩, HR1, HR0, ⟨by rw [List.take_zero]; exact Kd.R_nil _ _ _ _ _⟩, HW1⟩
 case round =>
  clear HR1 HR0 HW1
  obtain ⟨i, ri, HI, HI1, HR, HP, HV, HW⟩ := hrel
  obtain ⟨A6, c6, e6⟩ := Kd.R_slice HV.out
  subst e6
  have hti : (ls.take i).length = i := by rw [List.length_take]; have := HI.out; have := HI1.out; omega
  have HTI := Aside0.mk hti
  rw [hti] at HV ⊢
  cases gk with
  | zero => exact absurd HI1.out (by omega)
  | succ k1 =>
   by_cases ci : i < ls.length
   ·
    have cib : decide ((i : Int) < (ls.length : Int)) = true := decide_eq_true (by omega)
    have hp := HP.out
    rw [show ls.length - i = (ls.length - (i + 1)) + 1 by omega] at hp
    obtain ⟨x, r2, zs, hg, hz, hp2⟩ := rep_next hp
    rw [List.drop_eq_getElem_cons ci] at hz
    injection hz with hz1 hz2
    have HX := Aside0.mk (show ls.take (i + 1) = ls.take i ++ [x] by rw [List.take_succ_eq_append_getElem ci, hz1])
    have HP2 := Aside0.mk (show rep rdArr (ls.length - (i + 1)) r2 = some (ls.drop (i + 1), r) by rw [hz2]; exact hp2)
    have HC2 := Aside0.mk (reader_array_ok q ri x r2 hg w0 wr HR.out)
    clear hp hg hz1 hz2 hp2
    go_wp2_with fail
    refine HC2.out.mono ?_
    rintro e w9 ⟨rfl, hR2, hW2⟩
    have hqr := HR.out.qlt
    have HV9 := Aside0.mk (Kd.R_step HV.out (fun k hk hlt => hW2.block k hlt (by have := HQL.out; omega)))
    have HW9 := Aside0.mk (HW.out.then hW2)
    have HR9 := Aside0.mk hR2
    clear hR2 hW2 HC2 hqr
    go_wp2_with (first | ((with_reducible refine gate_builtin (b := .append) (xs := #[.tmp 13, .tmp 16]) rfl ?_); at_builtin; refine Kd.R_append k38 (w0 := w9) w.heap.size rfl (.tmp 13) (.tmp 16) 23 38 (.agg #[.int .i64 0, .int .u64 0]) 16 rfl Tryd.underlying23 linfoA9 rfl (by decide) (by omega) (.slice A6 i c6) (ls.take i) x [.int .i64 x.f0, .int .u64 x.f1] (fun k => w.heap.size ≤ k) (fun _ => False) rfl rfl ?aP (fun _ hk => hk.elim) ?aF ?aO ?aB ?aS ?aL ?_; (case aP => exact ⟨[.int .i64 x.f0], [.int .u64 x.f1], rfl, rfl, rfl⟩); (case aB => exact Below.refl _ _); (case aF => exact (fun k hk => Nat.le_trans HW9.out.size hk)); (case aO => exact HV9.out); (case aS => exact HW9.out.size); (case aL => have := HLS.out; have := HTI.out; omega); intro v1 w1 ho hb hg hat; have HV1 := Aside0.mk ho; have HWN := Aside0.mk (HW9.out.grown hg (fun g e => .inr (HV9.out.1 g e))); have HRN := Aside0.mk (HR9.out.grown hg (fun g e => by have h1 : w.heap.size ≤ g := HV9.out.1 g e; have h2 := HQL.out; have h3 := HS0.out; exact ⟨by omega, by omega⟩)); clear ho hb hg hat))
    go_roundg k1
    case measure => omega
    case rel => exact ⟨i + 1, r2, ⟨by have := HI.out; omega⟩, ⟨by have := HI.out; omega⟩, ⟨HRN.out⟩, HP2, ⟨by rw [HX.out]; exact HV1.out⟩, ⟨HWN.out⟩⟩
   ·
    have cib : decide ((i : Int) < (ls.length : Int)) = false := decide_eq_false (by omega)
    obtain rfl : i = ls.length := by have := HI.out; omega
    have hp := HP.out
    rw [Nat.sub_self] at hp
    injection hp with hp
    obtain rfl : ri = r := congrArg Prod.snd hp
    have hV := HV.out
    rw [List.take_length] at hV
    have hcap := (Kd.R_reads' hV).2.1
    have HV2 := Aside0.mk hV
    have HC3 := Aside0.mk (clip_Array.calls A6 ls.length c6 hcap wr)
    clear hV hcap hp
    go_wp2_with fail
    refine HC3.out.mono ?_
    rintro e w9 ⟨rfl, hd⟩
    have hb := hd.below
    have HV3 := Aside0.mk (Kd.R_below HV2.out hb)
    have HR3 := Aside0.mk (HR.out.step hb)
    have HW3 := Aside0.mk (HW.out.below hb)
    clear hb hd
    go_wp2
    go_ret
    exact ⟨_, rfl, ClipB.of HV3.out, HR3.out, HW3.out⟩
set_option maxHeartbeats 16000000 in
set_option maxRecDepth 100000 in
theorem all_Instr_ok (q : Nat) (xs : List Int) (ls : List S44) (r : List Int) (hr : rdAll rdInstr xs = some (ls, r)) (w0 : World) (ht : Lib.TabIs Tryd.prog w0 "strings.asciiSpace" .u8 Lib.asciiSpaceTab) (w : World) (h : Rd w0 w q xs) :
  Calls Tryd.prog 125 #[.pointer (some ⟨q, 0, none⟩), .func (.func 126) #[.pointer (some ⟨q, 0, none⟩)] #[]] w fun e w' => ∃ v, e = .returned v ∧ ClipB k44 44 w' w.heap.size w'.heap.size v ls ∧ Rd w0 w' q r ∧ Wrote (fun k => k = q) w w' := by
 obtain ⟨r1, h1, h2⟩ := rdAll_parts hr
 have HN := Aside0.mk (show ls.length ≤ 9223372036854775807 by have := (rdInt_back h1).1; unfold okP at this; omega)
 have HC1 := Aside0.mk (reader_int_ok q xs (ls.length : Int) r1 h1 w0 w h)
 have HR0 := Aside0.mk h2
 have HQL := Aside0.mk h.qlt
 have HS0 := Aside0.mk h.below.size
 have HLS := Aside0.mk (show ls.length ≤ 1000000 by
  have h3 := (rdInt_back h1).2.1
  have h4 := (rep_len _ get_instr ls.length r1 ls r (fun x hx => h.bts x (by rw [h3]; exact List.mem_append_right _ hx)) (by have := h.len; rw [h3, List.length_append] at this; omega) h2).1
  have h5 := h.len
  rw [h3, List.length_append] at h5
  omega)
 have HT := Aside0.mk ht
 clear h h1 h2 hr ht
 go_enter Tryd.func125, Tryd.ntmps125
 go_wp2_with fail
 refine HC1.out.mono ?_
 rintro e w2 ⟨rfl, hR1, hW1⟩
 have HR1 := Aside0.mk hR1
 have HW1 := Aside0.mk hW1
 clear hR1 hW1 HC1
 go_wp2
 go_loopg [6] (ls.length + 1) (fun kq v6 w' => ∃ (i : Nat) (ri : List Int), Aside0 (i + kq = ls.length + 1) ∧ Aside0 (1 ≤ kq) ∧ Aside0 (Rd w0 w' q ri) ∧ Aside0 (rep rdInstr (ls.length - i) ri = some (ls.drop i, r)) ∧ Aside0 (Kd.R k44 44 w' w.heap.size (fun k => w.heap.size ≤ k) v6 (ls.take i)) ∧ Aside0 (Wrote (fun k => k = q) w w'))
 case atStart => exact ⟨0, r1, ⟨by omega⟩, ⟨by omega⟩, HR1, HR0, ⟨by rw [List.take_zero]; exact Kd.R_nil _ _ _ _ _⟩, HW1⟩
 case round =>
  clear HR1 HR0 HW1
  obtain ⟨i, ri, HI, HI1, HR, HP, HV, HW⟩ := hrel
  obtain ⟨A6, c6, e6⟩ := Kd.R_slice HV.out
  subst e6
  have hti : (ls.take i).length = i := by rw [List.length_take]; have := HI.out; have := HI1.out; omega
  have HTI := Aside0.mk hti
  rw [hti] at HV ⊢
  cases gk with
  | zero => exact absurd HI1.out (by omega)
  | succ k1 =>
   by_cases ci : i < ls.length
   ·
    have cib : decide ((i : Int) < (ls.length : Int)) = true := decide_eq_true (by omega)
    have hp := HP.out
    rw [show ls.length - i = (ls.length - (i + 1)) + 1 by omega] at hp
    obtain ⟨x, r2, zs, hg, hz, hp2⟩ := rep_next hp
    rw [List.drop_eq_getElem_cons ci] at hz
    injection hz with hz1 hz2
    have HX := Aside0.mk (show ls.take (i + 1) = ls.take i ++ [x] by rw [List.take_succ_eq_append_getElem ci, hz1])
    have HP2 := Aside0.mk (show rep rdInstr (ls.length - (i + 1)) r2 = some (ls.drop (i + 1), r) by rw [hz2]; exact hp2)
    have HC2 := Aside0.mk (reader_instr_ok q ri x r2 hg w0 HT.out wr HR.out)
    clear hp hg hz1 hz2 hp2
    go_wp2_with fail
    refine HC2.out.mono ?_
    rintro e w9 ⟨rfl, hR2, hW2⟩
    have hqr := HR.out.qlt
    have HV9 := Aside0.mk (Kd.R_step HV.out (fun k hk hlt => hW2.block k hlt (by have := HQL.out; omega)))
    have HW9 := Aside0.mk (HW.out.then hW2)
    have HR9 := Aside0.mk hR2
    clear hR2 hW2 HC2 hqr
    go_wp2_with (first | ((with_reducible refine gate_builtin (b := .append) (xs := #[.tmp 13, .tmp 16]) rfl ?_); at_builtin; refine Kd.R_append k44 (w0 := w9) w.heap.size rfl (.tmp 13) (.tmp 16) 39 44 (.agg #[.int .i64 0, .int .i64 0]) 16 rfl Tryd.underlying39 linfoI9 rfl (by decide) (by omega) (.slice A6 i c6) (ls.take i) x [.int .i64 x.f0, .int .i64 x.f1] (fun k => w.heap.size ≤ k) (fun _ => False) rfl rfl ?aP (fun _ hk => hk.elim) ?aF ?aO ?aB ?aS ?aL ?_; (case aP => exact ⟨[.int .i64 x.f0], [.int .i64 x.f1], rfl, rfl, rfl⟩); (case aB => exact Below.refl _ _); (case aF => exact (fun k hk => Nat.le_trans HW9.out.size hk)); (case aO => exact HV9.out); (case aS => exact HW9.out.size); (case aL => have := HLS.out; have := HTI.out; omega); intro v1 w1 ho hb hg hat; have HV1 := Aside0.mk ho; have HWN := Aside0.mk (HW9.out.grown hg (fun g e => .inr (HV9.out.1 g e))); have HRN := Aside0.mk (HR9.out.grown hg (fun g e => by have h1 : w.heap.size ≤ g := HV9.out.1 g e; have h2 := HQL.out; have h3 := HS0.out; exact ⟨by omega, by omega⟩)); clear ho hb hg hat))
    go_roundg k1
    case measure => omega
    case rel => exact ⟨i + 1, r2, ⟨by have := HI.out; omega⟩, ⟨by have := HI.out; omega⟩, ⟨HRN.out⟩, HP2, ⟨by rw [HX.out]; exact HV1.out⟩, ⟨HWN.out⟩⟩
   ·
    have cib : decide ((i : Int) < (ls.length : Int)) = false := decide_eq_false (by omega)
    obtain rfl : i = ls.length := by have := HI.out; omega
    have hp := HP.out
    rw [Nat.sub_self] at hp
    injection hp with hp
    obtain rfl : ri = r := congrArg Prod.snd hp
    have hV := HV.out
    rw [List.take_length] at hV
    have hcap := (Kd.R_reads' hV).2.1
    have HV2 := Aside0.mk hV
    have HC3 := Aside0.mk (clip_Instr.calls A6 ls.length c6 hcap wr)
    clear hV hcap hp
    go_wp2_with fail
    refine HC3.out.mono ?_
    rintro e w9 ⟨rfl, hd⟩
    have hb := hd.below
    have HV3 := Aside0.mk (Kd.R_below HV2.out hb)
    have HR3 := Aside0.mk (HR.out.step hb)
    have HW3 := Aside0.mk (HW.out.below hb)
    clear hb hd
    go_wp2
    go_ret
    exact ⟨_, rfl, ClipB.of HV3.out, HR3.out, HW3.out⟩
set_option maxHeartbeats 16000000 in
set_option maxRecDepth 100000 in
theorem all_Label_no (q : Nat) (xs : List Int) (hr : rdAll rdNum xs = none) (w0 : World) (w : World) (h : Rd w0 w q xs) :
  Calls Tryd.prog 98 #[.pointer (some ⟨q, 0, none⟩), .func (.func 99) #[.pointer (some ⟨q, 0, none⟩)] #[]] w fun e w' => e = .panicked wrongP ∧ Wrote (fun k => k = q) w w' := by
 rcases rdAll_bad hr with h1 | ⟨n, r1, h1, hn, h2⟩
 ·
  have HC1 := Aside0.mk (reader_int_no q xs h1 w0 w h)
  clear h h1 hr
  go_enter Tryd.func98, Tryd.ntmps98
  go_wp2_with fail
  refine HC1.out.mono ?_
  rintro e w2 ⟨rfl, hW1⟩
  exact ⟨rfl, rfl, hW1⟩
 have HN := Aside0.mk hn
 have HC1 := Aside0.mk (reader_int_ok q xs (n : Int) r1 h1 w0 w h)
 have HR0 := Aside0.mk h2
 have HQL := Aside0.mk h.qlt
 have HS0 := Aside0.mk h.below.size
 have HRL := Aside0.mk (show r1.length ≤ 1000000 by
  have h3 := (rdInt_back h1).2.1
  have h5 := h.len
  rw [h3, List.length_append] at h5
  omega)
 clear h h1 h2 hr hn
 go_enter Tryd.func98, Tryd.ntmps98
 go_wp2_with fail
 refine HC1.out.mono ?_
 rintro e w2 ⟨rfl, hR1, hW1⟩
 have HR1 := Aside0.mk hR1
 have HW1 := Aside0.mk hW1
 clear hR1 hW1 HC1
 go_wp2
 go_loopg [6] (r1.length + 2) (fun kq v6 w' => ∃ (i : Nat) (l : List Int) (ri : List Int), Aside0 (ri.length + 1 ≤ kq) ∧ Aside0 (i ≤ n ∧ l.length = i ∧ i + ri.length ≤ r1.length) ∧ Aside0 (Rd w0 w' q ri) ∧ Aside0 (rep rdNum (n - i) ri = none) ∧ Aside0 (Kd.R (Kd.int .u64) 36 w' w.heap.size (fun k => w.heap.size ≤ k) v6 l) ∧ Aside0 (Wrote (fun k => k = q) w w'))
 case atStart => exact ⟨0, [], r1, ⟨by omega⟩, ⟨Nat.zero_le _, rfl, by omega⟩, HR1, HR0, ⟨Kd.R_nil _ _ _ _ _⟩, HW1⟩
 case round =>
  clear HR1 HR0 HW1
  obtain ⟨i, l, ri, HI1, HI, HR, HP, HV, HW⟩ := hrel
  obtain ⟨A6, c6, e6⟩ := Kd.R_slice HV.out
  subst e6
  have hti : l.length = i := HI.out.2.1
  have HTI := Aside0.mk hti
  rw [hti] at HV ⊢
  cases gk with
  | zero => exact absurd HI1.out (by omega)
  | succ k1 =>
   have ci : i < n := by
    apply Classical.byContradiction
    intro hc
    have hp := HP.out
    rw [show n - i = 0 by omega] at hp
    cases hp
   have cib : decide ((i : Int) < (n : Int)) = true := decide_eq_true (by omega)
   have hp := HP.out
   rw [show n - i = (n - (i + 1)) + 1 by omega] at hp
   rcases rep_bad hp with hg | ⟨x, r2, hg, hp2⟩
   ·
    have HC2 := Aside0.mk (reader_label_no q ri hg w0 wr HR.out)
    clear hp hg
    go_wp2_with fail
    refine HC2.out.mono ?_
    rintro e w9 ⟨rfl, hW2⟩
    exact ⟨rfl, rfl, HW.out.then hW2⟩
   ·
    have HLT := Aside0.mk (get_num ri x r2 HR.out.bts HR.out.len hg).1
    have HP2 := Aside0.mk hp2
    have HC2 := Aside0.mk (reader_label_ok q ri x r2 hg w0 wr HR.out)
    clear hp hg hp2
    go_wp2_with fail
    refine HC2.out.mono ?_
    rintro e w9 ⟨rfl, hR2, hW2⟩
    have HV9 := Aside0.mk (Kd.R_step HV.out (fun k hk hlt => hW2.block k hlt (by have := HQL.out; omega)))
    have HW9 := Aside0.mk (HW.out.then hW2)
    have HR9 := Aside0.mk hR2
    clear hR2 hW2 HC2
    go_wp2_with (first | ((with_reducible refine gate_builtin (b := .append) (xs := #[.tmp 13, .tmp 16]) rfl ?_); at_builtin; refine Kd.R_append (Kd.int .u64) (w0 := w9) w.heap.size rfl (.tmp 13) (.tmp 16) 22 36 (.int .u64 0) 8 rfl Tryd.underlying22 linfoL9 rfl (by decide) (by omega) (.slice A6 i c6) l x [.int .u64 x] (fun k => w.heap.size ≤ k) (fun _ => False) rfl rfl ?aP (fun _ hk => hk.elim) ?aF ?aO ?aB ?aS ?aL ?_; (case aP => exact rfl); (case aB => exact Below.refl _ _); (case aF => exact (fun k hk => Nat.le_trans HW9.out.size hk)); (case aO => exact HV9.out); (case aS => exact HW9.out.size); (case aL => have := HRL.out; have := HI.out.2.2; have := HTI.out; omega); intro v1 w1 ho hb hg hat; have HV1 := Aside0.mk ho; have HWN := Aside0.mk (HW9.out.grown hg (fun g e => .inr (HV9.out.1 g e))); have HRN := Aside0.mk (HR9.out.grown hg (fun g e => by have h1 : w.heap.size ≤ g := HV9.out.1 g e; have h2 := HQL.out; have h3 := HS0.out; exact ⟨by omega, by omega⟩)); clear ho hb hg hat))
    go_roundg k1
    case measure => omega
    case rel => exact ⟨i + 1, l ++ [x], r2, ⟨by have := HI1.out; have := HLT.out; omega⟩, ⟨by omega, by rw [List.length_append, HTI.out]; rfl, by have := HI.out.2.2; have := HLT.out; omega⟩, ⟨HRN.out⟩, HP2, ⟨HV1.out⟩, ⟨HWN.out⟩⟩
set_option maxHeartbeats 16000000 in
set_option maxRecDepth 100000 in
theorem all_Array_no (q : Nat) (xs : List Int) (hr : rdAll rdArr xs = none) (w0 : World) (w : World) (h : Rd w0 w q xs) :
  Calls Tryd.prog 100 #[.pointer (some ⟨q, 0, none⟩), .func (.func 101) #[.pointer (some ⟨q, 0, none⟩)] #[]] w fun e w' => e = .panicked wrongP ∧ Wrote (fun k => k = q) w w' := by
 rcases rdAll_bad hr with h1 | ⟨n, r1, h1, hn, h2⟩
 ·
  have HC1 := Aside0.mk (reader_int_no q xs h1 w0 w h)
  clear h h1 hr
  go_enter Tryd.func100, Tryd.ntmps100
  go_wp2_with fail
  refine HC1.out.mono ?_
  rintro e w2 ⟨rfl, hW1⟩
  exact ⟨rfl, rfl, hW1⟩
 have HN := Aside0.mk hn
 have HC1 := Aside0.mk (reader_int_ok q xs (n : Int) r1 h1 w0 w h)
 have HR0 := Aside0.mk h2
 have HQL := Aside0.mk h.qlt
 have HS0 := Aside0.mk h.below.size
 have HRL := Aside0.mk (show r1.length ≤ 1000000 by
  have h3 := (rdInt_back h1).2.1
  have h5 := h.len
  rw [h3, List.length_append] at h5
  omega)
 clear h h1 h2 hr hn
 go_enter Tryd.func100, Tryd.ntmps100
 go_wp2_with fail
 refine HC1.out.mono ?_
 rintro e w2 ⟨rfl, hR1, hW1⟩
 have HR1 := Aside0.mk hR1
 have HW1 := Aside0.mk hW1
 clear hR1 hW1 HC1
 go_wp2
 go_loopg [6] (r1.length + 2) (fun kq v6 w' => ∃ (i : Nat) (l : List S38) (ri : List Int), Aside0 (ri.length + 1 ≤ kq) ∧ Aside0 (i ≤ n ∧ l.length = i ∧ i + ri.length ≤ r1.length) ∧ Aside0 (Rd w0 w' q ri) ∧ Aside0 (rep rdArr (n - i) ri = none) ∧ Aside0 (Kd.R k38 38 w' w.heap.size (fun k => w.heap.size ≤ k) v6 l) ∧ Aside0 (Wrote (fun k => k = q) w w'))
 case atStart => exact ⟨0, [], r1, ⟨by omega⟩, ⟨Nat.zero_le _, rfl, by omega⟩, HR1, HR0, ⟨Kd.R_nil _ _ _ _ _⟩, HW1⟩
 case round =>
  clear HR1 HR0 HW1
  obtain ⟨i, l, ri, HI1, HI, HR, HP, HV, HW⟩ := hrel
  obtain ⟨A6, c6, e6⟩ := Kd.R_slice HV.out
  subst e6
  have hti : l.length = i := HI.out.2.1
  have HTI := Aside0.mk hti
  rw [hti] at HV ⊢
  cases gk with
  | zero => exact absurd HI1.out (by omega)
  | succ k1 =>
   have ci : i < n := by
    apply Classical.byContradiction
    intro hc
    have hp := HP.out
    rw [show n - i = 0 by omega] at hp
    cases hp
   have cib : decide ((i : Int) < (n : Int)) = true := decide_eq_true (by omega)
   have hp := HP.out
   rw [show n - i = (n - (i + 1)) + 1 by omega] at hp
   rcases rep_bad hp with hg | ⟨x, r2, hg, hp2⟩
   ·
    have HC2 := Aside0.mk (reader_array_no q ri hg w0 wr HR.out)
    clear hp hg
    go_wp2_with fail
    refine HC2.out.mono ?_
    rintro e w9 ⟨rfl, hW2⟩
    exact ⟨rfl, rfl, HW.out.then hW2⟩
   ·
    have HLT := Aside0.mk (get_arr ri x r2 HR.out.bts HR.out.len hg).1
    have HP2 := Aside0.mk hp2
    have HC2 := Aside0.mk (reader_array_ok q ri x r2 hg w0 wr HR.out)
    clear hp hg hp2
    go_wp2_with fail
    refine HC2.out.mono ?_
    rintro e w9 ⟨rfl, hR2, hW2⟩
    have HV9 := Aside0.mk (Kd.R_step HV.out (fun k hk hlt => hW2.block k hlt (by have := HQL.out; omega)))
    have HW9 := Aside0.mk (HW.out.then hW2)
    have HR9 := Aside0.mk hR2
    clear hR2 hW2 HC2
    go_wp2_with (first | ((with_reducible refine gate_builtin (b := .append) (xs := #[.tmp 13, .tmp 16]) rfl ?_); at_builtin; refine Kd.R_append k38 (w0 := w9) w.heap.size rfl (.tmp 13) (.tmp 16) 23 38 (.agg #[.int .i64 0, .int .u64 0]) 16 rfl Tryd.underlying23 linfoA9 rfl (by decide) (by omega) (.slice A6 i c6) l x [.int .i64 x.f0, .int .u64 x.f1] (fun k => w.heap.size ≤ k) (fun _ => False) rfl rfl ?aP (fun _ hk => hk.elim) ?aF ?aO ?aB ?aS ?aL ?_; (case aP => exact ⟨[.int .i64 x.f0], [.int .u64 x.f1], rfl, rfl, rfl⟩); (case aB => exact Below.refl _ _); (case aF => exact (fun k hk => Nat.le_trans HW9.out.size hk)); (case aO => exact HV9.out); (case aS => exact HW9.out.size); (case aL => have := HRL.out; have := HI.out.2.2; have := HTI.out; omega); intro v1 w1 ho hb hg hat; have HV1 := Aside0.mk ho; have HWN := Aside0.mk (HW9.out.grown hg (fun g e => .inr (HV9.out.1 g e))); have HRN := Aside0.mk (HR9.out.grown hg (fun g e => by have h1 : w.heap.size ≤ g := HV9.out.1 g e; have h2 := HQL.out; have h3 := HS0.out; exact ⟨by omega, by omega⟩)); clear ho hb hg hat))
    go_roundg k1
    case measure => omega
    case rel => exact ⟨i + 1, l ++ [x], r2, ⟨by have := HI1.out; have := HLT.out; omega⟩, ⟨by omega, by rw [List.length_append, HTI.out]; rfl, by have := HI.out.2.2; have := HLT.out; omega⟩, ⟨HRN.out⟩, HP2, ⟨HV1.out⟩, ⟨HWN.out⟩⟩
set_option maxHeartbeats 16000000 in
set_option maxRecDepth 100000 in
theorem all_Instr_no (q : Nat) (xs : List Int) (hr : rdAll rdInstr xs = none) (w0 : World) (ht : Lib.TabIs Tryd.prog w0 "strings.asciiSpace" .u8 Lib.asciiSpaceTab) (w : World) (h : Rd w0 w q xs) :
  Calls Tryd.prog 125 #[.pointer (some ⟨q, 0, none⟩), .func (.func 126) #[.pointer (some ⟨q, 0, none⟩)] #[]] w fun e w' => e = .panicked wrongP ∧ Wrote (fun k => k = q) w w' := by
 rcases rdAll_bad hr with h1 | ⟨n, r1, h1, hn, h2⟩
 ·
  have HC1 := Aside0.mk (reader_int_no q xs h1 w0 w h)
  clear h h1 hr ht
  go_enter Tryd.func125, Tryd.ntmps125
  go_wp2_with fail
  refine HC1.out.mono ?_
  rintro e w2 ⟨rfl, hW1⟩
  exact ⟨rfl, rfl, hW1⟩
 have HN := Aside0.mk hn
 have HC1 := Aside0.mk (reader_int_ok q xs (n : Int) r1 h1 w0 w h)
 have HR0 := Aside0.mk h2
 have HQL := Aside0.mk h.qlt
 have HS0 := Aside0.mk h.below.size
 have HRL := Aside0.mk (show r1.length ≤ 1000000 by
  have h3 := (rdInt_back h1).2.1
  have h5 := h.len
  rw [h3, List.length_append] at h5
  omega)
 have HT := Aside0.mk ht
 clear h h1 h2 hr hn ht
 go_enter Tryd.func125, Tryd.ntmps125
 go_wp2_with fail
 refine HC1.out.mono ?_
 rintro e w2 ⟨rfl, hR1, hW1⟩
 have HR1 := Aside0.mk hR1
 have HW1 := Aside0.mk hW1
 clear hR1 hW1 HC1
 go_wp2
 go_loopg [6] (r1.length + 2) (fun kq v6 w' => ∃ (i : Nat) (l : List S44) (ri : List Int), Aside0 (ri.length + 1 ≤ kq) ∧ Aside0 (i ≤ n ∧ l.length = i ∧ i + ri.length ≤ r1.length) ∧ Aside0 (Rd w0 w' q ri) ∧ Aside0 (rep rdInstr (n - i) ri = none) ∧ Aside0 (Kd.R k44 44 w' w.heap.size (fun k => w.heap.size ≤ k) v6 l) ∧ Aside0 (Wrote (fun k => k = q) w w'))
 case atStart => exact ⟨0, [], r1, ⟨by omega⟩, ⟨Nat.zero_le _, rfl, by omega⟩, HR1, HR0, ⟨Kd.R_nil _ _ _ _ _⟩, HW1⟩
 case round =>
  clear HR1 HR0 HW1
  obtain ⟨i, l, ri, HI1, HI, HR, HP, HV, HW⟩ := hrel
  obtain ⟨A6, c6, e6⟩ := Kd.R_slice HV.out
  subst e6
  have hti : l.length = i := HI.out.2.1
  have HTI := Aside0.mk hti
  rw [hti] at HV ⊢
  cases gk with
  | zero => exact absurd HI1.out (by omega)
  | succ k1 =>
   have ci : i < n := by
    apply Classical.byContradiction
    intro hc
    have hp := HP.out
    rw [show n - i = 0 by omega] at hp
    cases hp
   have cib : decide ((i : Int) < (n : Int)) = true := decide_eq_true (by omega)
   have hp := HP.out
   rw [show n - i = (n - (i + 1)) + 1 by omega] at hp
   rcases rep_bad hp with hg | ⟨x, r2, hg, hp2⟩
   ·
    have HC2 := Aside0.mk (reader_instr_no q ri hg w0 HT.out wr HR.out)
    clear hp hg
    go_wp2_with fail
    refine HC2.out.mono ?_
    rintro e w9 ⟨rfl, hW2⟩
    exact ⟨rfl, rfl, HW.out.then hW2⟩
   ·
    have HLT := Aside0.mk (get_instr ri x r2 HR.out.bts HR.out.len hg).1
    have HP2 := Aside0.mk hp2
    have HC2 := Aside0.mk (reader_instr_ok q ri x r2 hg w0 HT.out wr HR.out)
    clear hp hg hp2
    go_wp2_with fail
    refine HC2.out.mono ?_
    rintro e w9 ⟨rfl, hR2, hW2⟩
    have HV9 := Aside0.mk (Kd.R_step HV.out (fun k hk hlt => hW2.block k hlt (by have := HQL.out; omega)))
    have HW9 := Aside0.mk (HW.out.then hW2)
    have HR9 := Aside0.mk hR2
    clear hR2 hW2 HC2
    go_wp2_with (first | ((with_reducible refine gate_builtin (b := .append) (xs := #[.tmp 13, .tmp 16]) rfl ?_); at_builtin; refine Kd.R_append k44 (w0 := w9) w.heap.size rfl (.tmp 13) (.tmp 16) 39 44 (.agg #[.int .i64 0, .int .i64 0]) 16 rfl Tryd.underlying39 linfoI9 rfl (by decide) (by omega) (.slice A6 i c6) l x [.int .i64 x.f0, .int .i64 x.f1] (fun k => w.heap.size ≤ k) (fun _ => False) rfl rfl ?aP (fun _ hk => hk.elim) ?aF ?aO ?aB ?aS ?aL ?_; (case aP => exact ⟨[.int .i64 x.f0], [.int .i64 x.f1], rfl, rfl, rfl⟩); (case aB => exact Below.refl _ _); (case aF => exact (fun k hk => Nat.le_trans HW9.out.size hk)); (case aO => exact HV9.out); (case aS => exact HW9.out.size); (case aL => have := HRL.out; have := HI.out.2.2; have := HTI.out; omega); intro v1 w1 ho hb hg hat; have HV1 := Aside0.mk ho; have HWN := Aside0.mk (HW9.out.grown hg (fun g e => .inr (HV9.out.1 g e))); have HRN := Aside0.mk (HR9.out.grown hg (fun g e => by have h1 : w.heap.size ≤ g := HV9.out.1 g e; have h2 := HQL.out; have h3 := HS0.out; exact ⟨by omega, by omega⟩)); clear ho hb hg hat))
    go_roundg k1
    case measure => omega
    case rel => exact ⟨i + 1, l ++ [x], r2, ⟨by have := HI1.out; have := HLT.out; omega⟩, ⟨by omega, by rw [List.length_append, HTI.out]; rfl, by have := HI.out.2.2; have := HLT.out; omega⟩, ⟨HRN.out⟩, HP2, ⟨HV1.out⟩, ⟨HWN.out⟩⟩
theorem facts6 {w : World} {g t : Nat} {a b c d e f : Value} (h : w.heap[g]? = some (.cells #[a, b, c, d, e, f] t (0, 0))) : (w.cell? ⟨g, 0, none⟩ = some a ∧ w.cell? ⟨g, 1, none⟩ = some b ∧ w.cell? ⟨g, 2, none⟩ = some c ∧ w.cell? ⟨g, 3, none⟩ = some d ∧ w.cell? ⟨g, 4, none⟩ = some e ∧ w.cell? ⟨g, 5, none⟩ = some f) ∧ w.frozen? ⟨g, 0, none⟩ = false ∧ w.frozen? ⟨g, 1, none⟩ = false ∧ w.frozen? ⟨g, 2, none⟩ = false ∧ w.frozen? ⟨g, 3, none⟩ = false ∧ w.frozen? ⟨g, 4, none⟩ = false ∧ w.frozen? ⟨g, 5, none⟩ = false :=
 ⟨⟨blk_cell h 0, blk_cell h 1, blk_cell h 2, blk_cell h 3, blk_cell h 4, blk_cell h 5⟩, blk_frozen h 0, blk_frozen h 1, blk_frozen h 2, blk_frozen h 3, blk_frozen h 4, blk_frozen h 5⟩
theorem put6 {w : World} {g t : Nat} {a b c d e f : Value} (h : w.heap[g]? = some (.cells #[a, b, c, d, e, f] t (0, 0))) (a' b' c' d' e' f' : Value) : ((((((w.setCell ⟨g, 0, none⟩ a').setCell ⟨g, 1, none⟩ b').setCell ⟨g, 2, none⟩ c').setCell ⟨g, 3, none⟩ d').setCell ⟨g, 4, none⟩ e').setCell ⟨g, 5, none⟩ f').heap[g]? = some (.cells #[a', b', c', d', e', f'] t (0, 0)) :=
 blk_put (blk_put (blk_put (blk_put (blk_put (blk_put h 0 a' rfl) 1 b' rfl) 2 c' rfl) 3 d' rfl) 4 e' rfl) 5 f' rfl
theorem far6 (w : World) (g : Nat) (a b c d e f : Value) (k : Nat) (hk : k ≠ g) : ((((((w.setCell ⟨g, 0, none⟩ a).setCell ⟨g, 1, none⟩ b).setCell ⟨g, 2, none⟩ c).setCell ⟨g, 3, none⟩ d).setCell ⟨g, 4, none⟩ e).setCell ⟨g, 5, none⟩ f).heap[k]? = w.heap[k]? := by
 repeat (rw [Below.heap_setCell _ _ _ k hk])
theorem rdFn_parts {xs : List Int} {x : S41} {r : List Int} (h : rdFn xs = some (x, r)) : ∃ r1 r2 r3 r4 r5, rdNum xs = some (x.f0, r1) ∧ rdAll rdNum r1 = some (x.f1, r2) ∧ rdAll rdNum r2 = some (x.f2, r3) ∧ rdInt r3 = some (x.f3, r4) ∧ rdInt r4 = some (x.f4, r5) ∧ rdAll rdInstr r5 = some (x.f5, r) := by
 unfold rdFn at h
 obtain ⟨a, ha, h⟩ := Option.bind_eq_some_iff.1 h
 obtain ⟨b, hb, h⟩ := Option.bind_eq_some_iff.1 h
 obtain ⟨c, hc, h⟩ := Option.bind_eq_some_iff.1 h
 obtain ⟨d, hd, h⟩ := Option.bind_eq_some_iff.1 h
 obtain ⟨e, he, h⟩ := Option.bind_eq_some_iff.1 h
 obtain ⟨f, hf, h⟩ := Option.map_eq_some_iff.1 h
 injection h with h1 h2
 subst h1 h2
 exact ⟨_, _, _, _, _, ha, hb, hc, hd, he, hf⟩
theorem rdFn_none {xs : List Int} (h : rdFn xs = none) : rdNum xs = none ∨ ∃ a r1, rdNum xs = some (a, r1) ∧ (rdAll rdNum r1 = none ∨ ∃ b r2, rdAll rdNum r1 = some (b, r2) ∧ (rdAll rdNum r2 = none ∨ ∃ c r3, rdAll rdNum r2 = some (c, r3) ∧ (rdInt r3 = none ∨ ∃ d r4, rdInt r3 = some (d, r4) ∧ (rdInt r4 = none ∨ ∃ e r5, rdInt r4 = some (e, r5) ∧ rdAll rdInstr r5 = none)))) := by
 unfold rdFn at h
 cases h1 : rdNum xs with
 | none => exact .inl rfl
 | some p1 =>
  refine .inr ⟨p1.1, p1.2, rfl, ?_⟩
  rw [h1, Option.bind_some] at h
  cases h2 : rdAll rdNum p1.2 with
  | none => exact .inl rfl
  | some p2 =>
   refine .inr ⟨p2.1, p2.2, rfl, ?_⟩
   rw [h2, Option.bind_some] at h
   cases h3 : rdAll rdNum p2.2 with
   | none => exact .inl rfl
   | some p3 =>
    refine .inr ⟨p3.1, p3.2, rfl, ?_⟩
    rw [h3, Option.bind_some] at h
    cases h4 : rdInt p3.2 with
    | none => exact .inl rfl
    | some p4 =>
     refine .inr ⟨p4.1, p4.2, rfl, ?_⟩
     rw [h4, Option.bind_some] at h
     cases h5 : rdInt p4.2 with
     | none => exact .inl rfl
     | some p5 =>
      refine .inr ⟨p5.1, p5.2, rfl, ?_⟩
      rw [h5, Option.bind_some] at h
      simpa using h
set_option maxHeartbeats 8000000 in
set_option maxRecDepth 100000 in
theorem reader_function_ok (q : Nat) (xs : List Int) (x : S41) (r : List Int) (hr : rdFn xs = some (x, r)) (w0 : World) (ht : Lib.TabIs Tryd.prog w0 "strings.asciiSpace" .u8 Lib.asciiSpaceTab) (w : World) (h : Rd w0 w q xs) :
  Calls Tryd.prog 103 #[.pointer (some ⟨q, 0, none⟩)] w fun e w' => ∃ cs : List Value, e = .returned (.agg cs.toArray) ∧ FnRows w' w.heap.size w'.heap.size x cs ∧ Rd w0 w' q r ∧ Wrote (fun k => k = q) w w' := by
 obtain ⟨r1, r2, r3, r4, r5, h1, h2, h3, h4, h5, h6⟩ := rdFn_parts hr
 have hbA := below_alloc (Below.refl w.heap.size w) (.cells #[.int .u64 0, .slice none 0 0, .slice none 0 0, .int .i64 0, .int .i64 0, .slice none 0 0] 41)
 have HP := Aside0.mk (And.intro h2 (And.intro h3 (And.intro h4 (And.intro h5 h6))))
 have HT := Aside0.mk ht
 have HC1 := Aside0.mk (reader_label_ok q xs x.f0 r1 h1 w0 _ (h.step hbA))
 have HQL := Aside0.mk (And.intro (show w.heap.size ≠ q by have := h.qlt; omega) h.qlt)
 have HG := Aside0.mk (heap_alloc_new w (.cells #[.int .u64 0, .slice none 0 0, .slice none 0 0, .int .i64 0, .int .i64 0, .slice none 0 0] 41))
 have HBA := Aside0.mk hbA
 have HZ := Aside0.mk (show (w.alloc (.cells #[.int .u64 0, .slice none 0 0, .slice none 0 0, .int .i64 0, .int .i64 0, .slice none 0 0] 41)).heap.size = w.heap.size + 1 from Array.size_push _)
 have HS0 := Aside0.mk h.below.size
 have hmf := wr_makeFunc
 clear h h1 h2 h3 h4 h5 h6 hr hbA ht
 go_enter Tryd.func103, Tryd.ntmps103
 go_wp2_with fail
 refine HC1.out.mono ?_
 rintro e w1 ⟨rfl, hR, hW⟩
 replace HG := Aside0.mk (hW.keep HG.out HQL.out.1)
 have HZ1 := Aside0.mk (show w.heap.size < w1.heap.size by have h1 := hW.size; have h2 := HZ.out; omega)
 have HW1 := Aside0.mk (((Wrote.refl (fun k => k = q) w).below HBA.out).then hW)
 have HR1 := Aside0.mk hR
 clear hR hW HC1 HZ
 go_wp2_with fail
 refine (all_Label_ok q r1 x.f1 r2 HP.out.1 w0 w1 HR1.out).mono ?_
 rintro e w2 ⟨v1, rfl, hV, hR, hW⟩
 replace HG := Aside0.mk (hW.keep HG.out HQL.out.1)
 have HZ2 := Aside0.mk hW.size
 have HV1 := Aside0.mk hV
 have HW2 := Aside0.mk (HW1.out.then hW)
 have HR2 := Aside0.mk hR
 clear hR hW hV HR1
 go_wp2_with fail
 refine (all_Label_ok q r2 x.f2 r3 HP.out.2.1 w0 w2 HR2.out).mono ?_
 rintro e w3 ⟨v2, rfl, hV, hR, hW⟩
 replace HG := Aside0.mk (hW.keep HG.out HQL.out.1)
 have HZ3 := Aside0.mk hW.size
 have HV2 := Aside0.mk hV
 replace HV1 := Aside0.mk (HV1.out.wrote hW (by have h1 := HQL.out.2; have h2 := HZ1.out; omega))
 have HW3 := Aside0.mk (HW2.out.then hW)
 have HR3 := Aside0.mk hR
 clear hR hW hV HR2
 go_wp2_with fail
 refine (reader_int_ok q r3 x.f3 r4 HP.out.2.2.1 w0 w3 HR3.out).mono ?_
 rintro e w4 ⟨rfl, hR, hW⟩
 replace HG := Aside0.mk (hW.keep HG.out HQL.out.1)
 have HZ4 := Aside0.mk hW.size
 replace HV1 := Aside0.mk (HV1.out.wrote hW (by have h1 := HQL.out.2; have h2 := HZ1.out; omega))
 replace HV2 := Aside0.mk (HV2.out.wrote hW (by have h1 := HQL.out.2; have h2 := HZ1.out; have h3 := HZ2.out; omega))
 have HW4 := Aside0.mk (HW3.out.then hW)
 have HR4 := Aside0.mk hR
 clear hR hW HR3
 go_wp2_with fail
 refine (reader_int_ok q r4 x.f4 r5 HP.out.2.2.2.1 w0 w4 HR4.out).mono ?_
 rintro e w5 ⟨rfl, hR, hW⟩
 replace HG := Aside0.mk (hW.keep HG.out HQL.out.1)
 have HZ5 := Aside0.mk hW.size
 replace HV1 := Aside0.mk (HV1.out.wrote hW (by have h1 := HQL.out.2; have h2 := HZ1.out; omega))
 replace HV2 := Aside0.mk (HV2.out.wrote hW (by have h1 := HQL.out.2; have h2 := HZ1.out; have h3 := HZ2.out; omega))
 have HW5 := Aside0.mk (HW4.out.then hW)
 have HR5 := Aside0.mk hR
 clear hR hW HR4
 go_wp2_with fail
 refine (all_Instr_ok q r5 x.f5 r HP.out.2.2.2.2 w0 HT.out w5 HR5.out).mono ?_
 rintro e w6 ⟨v5, rfl, hV, hR, hW⟩
 replace HG := Aside0.mk (hW.keep HG.out HQL.out.1)
 have HZ6 := Aside0.mk hW.size
 have HV5 := Aside0.mk hV
 replace HV1 := Aside0.mk (HV1.out.wrote hW (by have h1 := HQL.out.2; have h2 := HZ1.out; omega))
 replace HV2 := Aside0.mk (HV2.out.wrote hW (by have h1 := HQL.out.2; have h2 := HZ1.out; have h3 := HZ2.out; omega))
 have HW6 := Aside0.mk (HW5.out.then hW)
 have HR6 := Aside0.mk hR
 clear hR hW hV HR5
 obtain ⟨⟨a0, a1, a2, a3, a4, a5⟩, z0, z1, z2, z3, z4, z5⟩ := facts6 HG.out
 obtain ⟨A1, e1⟩ := HV1.out.slice
 obtain ⟨A2, e2⟩ := HV2.out.slice
 obtain ⟨A5, e5⟩ := HV5.out.slice
 subst e1 e2 e5
 go_wp2
 refine bodyPost_ret (results_cell_row rfl _ _ w.heap.size 41 #[.int .u64 x.f0, .slice A1 x.f1.length x.f1.length, .slice A2 x.f2.length x.f2.length, .int .i64 x.f3, .int .i64 x.f4, .slice A5 x.f5.length x.f5.length] (0, 0) _ rfl (put6 HG.out _ _ _ _ _ _) Tryd.underlying41 rfl (by kernel_rfl)) rfl ?_
 have fr := far6 w6 w.heap.size (.int .u64 x.f0) (.slice A1 x.f1.length x.f1.length) (.slice A2 x.f2.length x.f2.length) (.int .i64 x.f3) (.int .i64 x.f4) (.slice A5 x.f5.length x.f5.length)
 have i1 := HZ1.out
 have i2 := HZ2.out
 have i3 := HZ3.out
 have i4 := HZ4.out
 have i5 := HZ5.out
 have i6 := HZ6.out
 exact ⟨_, rfl, ⟨_, _, _, w1.heap.size, w2.heap.size, w2.heap.size, w3.heap.size, w5.heap.size, w6.heap.size, rfl, by omega, i2, Nat.le_refl _, i3, by omega, i6, by simp [World.setCell], HV1.out.move (fun k hk _ _ => fr k (by omega)), HV2.out.move (fun k hk _ _ => fr k (by omega)), HV5.out.move (fun k hk _ _ => fr k (by omega))⟩,
  (((((HR6.out.far HS0.out HQL.out.1 _).far HS0.out HQL.out.1 _).far HS0.out HQL.out.1 _).far HS0.out HQL.out.1 _).far HS0.out HQL.out.1 _).far HS0.out HQL.out.1 _,
  (((((HW6.out.setNew (Nat.le_refl _) _).setNew (Nat.le_refl _) _).setNew (Nat.le_refl _) _).setNew (Nat.le_refl _) _).setNew (Nat.le_refl _) _).setNew (Nat.le_refl _) _⟩
set_option maxHeartbeats 8000000 in
set_option maxRecDepth 100000 in
theorem reader_function_no (q : Nat) (xs : List Int) (hr : rdFn xs = none) (w0 : World) (ht : Lib.TabIs Tryd.prog w0 "strings.asciiSpace" .u8 Lib.asciiSpaceTab) (w : World) (h : Rd w0 w q xs) :
  Calls Tryd.prog 103 #[.pointer (some ⟨q, 0, none⟩)] w fun e w' => e = .panicked wrongP ∧ Wrote (fun k => k = q) w w' := by
 have HN := Aside0.mk (rdFn_none hr)
 have hbA := below_alloc (Below.refl w.heap.size w) (.cells #[.int .u64 0, .slice none 0 0, .slice none 0 0, .int .i64 0, .int .i64 0, .slice none 0 0] 41)
 have HT := Aside0.mk ht
 have HR := Aside0.mk (h.step hbA)
 have HW := Aside0.mk ((Wrote.refl (fun k => k = q) w).below hbA)
 have hmf := wr_makeFunc
 clear h hr hbA ht
 go_enter Tryd.func103, Tryd.ntmps103
 go_wp2_with fail
 rcases HN.out with hn | ⟨y1, r1, hy, hn⟩
 ·
  refine (reader_label_no q xs hn w0 _ HR.out).mono ?_
  rintro e w9 ⟨rfl, hW⟩
  exact ⟨rfl, rfl, HW.out.then hW⟩
 refine (reader_label_ok q xs _ _ hy w0 _ HR.out).mono ?_
 rintro e w1 ⟨rfl, hR, hW⟩
 replace HN := Aside0.mk hn
 replace HR := Aside0.mk hR
 replace HW := Aside0.mk (HW.out.then hW)
 clear hn hR hW hy
 go_wp2_with fail
 rcases HN.out with hn | ⟨y2, r2, hy, hn⟩
 ·
  refine (all_Label_no q r1 hn w0 _ HR.out).mono ?_
  rintro e w9 ⟨rfl, hW⟩
  exact ⟨rfl, rfl, HW.out.then hW⟩
 refine (all_Label_ok q r1 _ _ hy w0 _ HR.out).mono ?_
 rintro e w2 ⟨v2, rfl, hV, hR, hW⟩
 replace HN := Aside0.mk hn
 replace HR := Aside0.mk hR
 replace HW := Aside0.mk (HW.out.then hW)
 clear hn hR hW hy hV
 go_wp2_with fail
 rcases HN.out with hn | ⟨y3, r3, hy, hn⟩
 ·
  refine (all_Label_no q r2 hn w0 _ HR.out).mono ?_
  rintro e w9 ⟨rfl, hW⟩
  exact ⟨rfl, rfl, HW.out.then hW⟩
 refine (all_Label_ok q r2 _ _ hy w0 _ HR.out).mono ?_
 rintro e w3 ⟨v3, rfl, hV, hR, hW⟩
 replace HN := Aside0.mk hn
 replace HR := Aside0.mk hR
 replace HW := Aside0.mk (HW.out.then hW)
 clear hn hR hW hy hV
 go_wp2_with fail
 rcases HN.out with hn | ⟨y4, r4, hy, hn⟩
 ·
  refine (reader_int_no q r3 hn w0 _ HR.out).mono ?_
  rintro e w9 ⟨rfl, hW⟩
  exact ⟨rfl, rfl, HW.out.then hW⟩
 refine (reader_int_ok q r3 _ _ hy w0 _ HR.out).mono ?_
 rintro e w4 ⟨rfl, hR, hW⟩
 replace HN := Aside0.mk hn
 replace HR := Aside0.mk hR
 replace HW := Aside0.mk (HW.out.then hW)
 clear hn hR hW hy
 go_wp2_with fail
 rcases HN.out with hn | ⟨y5, r5, hy, hn⟩
 ·
  refine (reader_int_no q r4 hn w0 _ HR.out).mono ?_
  rintro e w9 ⟨rfl, hW⟩
  exact ⟨rfl, rfl, HW.out.then hW⟩
 refine (reader_int_ok q r4 _ _ hy w0 _ HR.out).mono ?_
 rintro e w5 ⟨rfl, hR, hW⟩
 replace HN := Aside0.mk hn
 replace HR := Aside0.mk hR
 replace HW := Aside0.mk (HW.out.then hW)
 clear hn hR hW hy
 go_wp2_with fail
 refine (all_Instr_no q r5 HN.out w0 HT.out _ HR.out).mono ?_
 rintro e w9 ⟨rfl, hW⟩
 exact ⟨rfl, rfl, HW.out.then hW⟩
theorem fns_grow {w9 w1 : World} {v v1 : Value} {lo : Nat} {css : List (List Value)} {xs : List S41} (h : FnsOk w9 (fun k => some k ≠ v.ownBlock) lo w9.heap.size css xs) (hg : w9.grownBy w1 v.ownBlock) (hat : v1.ownBlock = v.ownBlock ∨ ∃ b, v1.ownBlock = some b ∧ w9.heap.size ≤ b) : FnsOk w1 (fun k => some k ≠ v1.ownBlock) lo w1.heap.size css xs := by
 refine FnsOk.grow hg.size (h.move (fun k _ _ ho hlt => hg.block k hlt (fun e => ho e)) (fun k _ hk ho => ?_))
 rcases hat with e | ⟨b, e, hb⟩
 ·
  rw [e]
  exact ho
 ·
  rw [e]
  intro e2
  injection e2 with e2
  omega
theorem fns_next {w wr w9 : World} {q lo : Nat} {v : Value} {css : List (List Value)} {cs : List Value} {xs : List S41} {x : S41} (h : FnsOk wr (fun k => some k ≠ v.ownBlock) lo wr.heap.size css xs) (hv : ∀ g, v.ownBlock = some g → g < wr.heap.size) (hq : q < lo) (hw : Wrote (fun k => k = q) wr w9) (hf : FnRows w9 wr.heap.size w9.heap.size x cs) : FnsOk w9 (fun k => some k ≠ v.ownBlock) lo w9.heap.size (css ++ [cs]) (xs ++ [x]) := by
 refine FnsOk.snoc hw.size (h.move (fun k hk _ _ hlt => hw.block k hlt (by omega)) (fun _ _ _ ho => ho)) (Nat.le_refl _) hw.size (fun k hk _ e => ?_) hf
 have := hv k e.symm
 omega
def FnsOut (W : World) (lo hi : Nat) (v : Value) (xs : List S41) : Prop := ∃ css : List (List Value), css.length = xs.length ∧ ClipB (Kd.raw 6) 41 W lo hi v css ∧ FnsOk W (fun k => some k ≠ v.ownBlock) lo hi css xs
theorem FnsOut.move {W W' : World} {lo hi : Nat} {v : Value} {xs : List S41} (h : FnsOut W lo hi v xs) (hm : ∀ k, lo ≤ k → k < hi → k < W.heap.size → W'.heap[k]? = W.heap[k]?) : FnsOut W' lo hi v xs := by
 obtain ⟨css, h1, h2, h3⟩ := h
 exact ⟨css, h1, h2.move hm, h3.move (fun k p q _ r => hm k p q r) (fun _ _ _ h => h)⟩
theorem FnsOut.slice {W : World} {lo hi : Nat} {v : Value} {xs : List S41} (h : FnsOut W lo hi v xs) : ∃ A, v = .slice A xs.length xs.length := by
 obtain ⟨css, h1, h2, _⟩ := h
 obtain ⟨A, e⟩ := h2.slice
 exact ⟨A, by rw [e, h1]⟩
set_option maxHeartbeats 16000000 in
set_option maxRecDepth 100000 in
theorem all_Function_ok (q : Nat) (xs : List Int) (ls : List S41) (r : List Int) (hr : rdAll rdFn xs = some (ls, r)) (w0 : World) (ht : Lib.TabIs Tryd.prog w0 "strings.asciiSpace" .u8 Lib.asciiSpaceTab) (w : World) (h : Rd w0 w q xs) :
  Calls Tryd.prog 102 #[.pointer (some ⟨q, 0, none⟩), .func (.func 103) #[.pointer (some ⟨q, 0, none⟩)] #[]] w fun e w' => ∃ v, e = .returned v ∧ FnsOut w' w.heap.size w'.heap.size v ls ∧ Rd w0 w' q r ∧ Wrote (fun k => k = q) w w' := by
 obtain ⟨r1, h1, h2⟩ := rdAll_parts hr
 have HN := Aside0.mk (show ls.length ≤ 9223372036854775807 by have := (rdInt_back h1).1; unfold okP at this; omega)
 have HC1 := Aside0.mk (reader_int_ok q xs (ls.length : Int) r1 h1 w0 w h)
 have HR0 := Aside0.mk h2
 have HQL := Aside0.mk h.qlt
 have HS0 := Aside0.mk h.below.size
 have HLS := Aside0.mk (show ls.length ≤ 1000000 by
  have h3 := (rdInt_back h1).2.1
  have h4 := (rep_len _ get_fn ls.length r1 ls r (fun x hx => h.bts x (by rw [h3]; exact List.mem_append_right _ hx)) (by have := h.len; rw [h3, List.length_append] at this; omega) h2).1
  have h5 := h.len
  rw [h3, List.length_append] at h5
  omega)
 have HT := Aside0.mk ht
 clear h h1 h2 hr ht
 go_enter Tryd.func102, Tryd.ntmps102
 go_wp2_with fail
 refine HC1.out.mono ?_
 rintro e w2 ⟨rfl, hR1, hW1⟩
 have HR1 := Aside0.mk hR1
 have HW1 := Aside0.mk hW1
 clear hR1 hW1 HC1
 go_wp2
 go_loopg [6] (ls.length + 1) (fun kq v6 w' => ∃ (i : Nat) (css : List (List Value)) (ri : List Int), Aside0 (i + kq = ls.length + 1) ∧ Aside0 (1 ≤ kq) ∧ Aside0 (Rd w0 w' q ri) ∧ Aside0 (rep rdFn (ls.length - i) ri = some (ls.drop i, r)) ∧ Aside0 (css.length = i ∧ Kd.R (Kd.raw 6) 41 w' w.heap.size (fun k => w.heap.size ≤ k) v6 css) ∧ Aside0 (FnsOk w' (fun k => some k ≠ v6.ownBlock) w.heap.size w'.heap.size css (ls.take i)) ∧ Aside0 (Wrote (fun k => k = q) w w'))
 case atStart => exact ⟨0, [], r1, ⟨by omega⟩, ⟨by omega⟩, HR1, HR0, ⟨rfl, Kd.R_nil _ _ _ _ _⟩, ⟨by rw [List.take_zero]; exact HW1.out.size⟩, HW1⟩
 case round =>
  clear HR1 HR0 HW1
  obtain ⟨i, css, ri, HI, HI1, HR, HP, HV, HF, HW⟩ := hrel
  obtain ⟨A6, c6, e6⟩ := Kd.R_slice HV.out.2
  subst e6
  have hti : css.length = i := HV.out.1
  have HTI := Aside0.mk hti
  rw [hti] at HV HF ⊢
  cases gk with
  | zero => exact absurd HI1.out (by omega)
  | succ k1 =>
   by_cases ci : i < ls.length
   ·
    have cib : decide ((i : Int) < (ls.length : Int)) = true := decide_eq_true (by omega)
    have hp := HP.out
    rw [show ls.length - i = (ls.length - (i + 1)) + 1 by omega] at hp
    obtain ⟨x, r2, zs, hg, hz, hp2⟩ := rep_next hp
    rw [List.drop_eq_getElem_cons ci] at hz
    injection hz with hz1 hz2
    have HX := Aside0.mk (show ls.take (i + 1) = ls.take i ++ [x] by rw [List.take_succ_eq_append_getElem ci, hz1])
    have HP2 := Aside0.mk (show rep rdFn (ls.length - (i + 1)) r2 = some (ls.drop (i + 1), r) by rw [hz2]; exact hp2)
    have HC2 := Aside0.mk (reader_function_ok q ri x r2 hg w0 HT.out wr HR.out)
    clear hp hg hz1 hz2 hp2
    go_wp2_with fail
    refine HC2.out.mono ?_
    rintro e w9 ⟨cs, rfl, hF, hR2, hW2⟩
    obtain ⟨A1, A2, A5, ecs⟩ := hF.cells
    subst ecs
    have HF9 := Aside0.mk (fns_next (w := w) HF.out (fun g e => ((Kd.R_bound HV.out.2).1 g e).2.2.1) HQL.out hW2 hF)
    have HV9 := Aside0.mk (And.intro HTI.out (Kd.R_step HV.out.2 (fun k hk hlt => hW2.block k hlt (by have := HQL.out; omega))))
    have HW9 := Aside0.mk (HW.out.then hW2)
    have HR9 := Aside0.mk hR2
    clear hR2 hW2 HC2 hF HF
    go_wp2_with (first | ((with_reducible refine gate_builtin (b := .append) (xs := #[.tmp 13, .tmp 16]) rfl ?_); at_builtin; refine Kd.R_append (Kd.raw 6) (w0 := w9) w.heap.size rfl (.tmp 13) (.tmp 16) 24 41 (.agg #[.int .u64 0, .slice none 0 0, .slice none 0 0, .int .i64 0, .int .i64 0, .slice none 0 0]) 96 rfl Tryd.underlying24 linfoF9 rfl (by decide) (by omega) (.slice A6 i c6) css [.int .u64 x.f0, .slice A1 x.f1.length x.f1.length, .slice A2 x.f2.length x.f2.length, .int .i64 x.f3, .int .i64 x.f4, .slice A5 x.f5.length x.f5.length] [.int .u64 x.f0, .slice A1 x.f1.length x.f1.length, .slice A2 x.f2.length x.f2.length, .int .i64 x.f3, .int .i64 x.f4, .slice A5 x.f5.length x.f5.length] (fun k => w.heap.size ≤ k) (fun _ => False) rfl rfl ?aP (fun _ hk => hk.elim) ?aF ?aO ?aB ?aS ?aL ?_; (case aP => exact ⟨rfl, rfl, fun u hu => by simp only [List.mem_cons, List.not_mem_nil, or_false] at hu; rcases hu with rfl | rfl | rfl | rfl | rfl | rfl <;> rfl⟩); (case aB => exact Below.refl _ _); (case aF => exact (fun k hk => Nat.le_trans HW9.out.size hk)); (case aO => exact HV9.out.2); (case aS => exact HW9.out.size); (case aL => have := HLS.out; have := HTI.out; omega); intro v1 w1 ho hb hg hat; have HV1 := Aside0.mk ho; have HWN := Aside0.mk (HW9.out.grown hg (fun g e => .inr (HV9.out.2.1 g e))); have HRN := Aside0.mk (HR9.out.grown hg (fun g e => by have h1 : w.heap.size ≤ g := HV9.out.2.1 g e; have h2 := HQL.out; have h3 := HS0.out; exact ⟨by omega, by omega⟩)); have HFN := Aside0.mk (fns_grow HF9.out hg hat); clear ho hb hg hat))
    go_roundg k1
    case measure => omega
    case rel => exact ⟨i + 1, css ++ [[.int .u64 x.f0, .slice A1 x.f1.length x.f1.length, .slice A2 x.f2.length x.f2.length, .int .i64 x.f3, .int .i64 x.f4, .slice A5 x.f5.length x.f5.length]], r2, ⟨by have := HI.out; omega⟩, ⟨by have := HI.out; omega⟩, ⟨HRN.out⟩, HP2, ⟨by rw [List.length_append, HTI.out]; rfl, HV1.out⟩, ⟨by rw [HX.out]; exact HFN.out⟩, ⟨HWN.out⟩⟩
   ·
    have cib : decide ((i : Int) < (ls.length : Int)) = false := decide_eq_false (by omega)
    obtain rfl : i = ls.length := by have := HI.out; omega
    have hp := HP.out
    rw [Nat.sub_self] at hp
    injection hp with hp
    obtain rfl : ri = r := congrArg Prod.snd hp
    have hcap := (Kd.R_reads' HV.out.2).2.1
    have HC3 := Aside0.mk (clip_Function.calls A6 ls.length c6 hcap wr)
    clear hcap hp
    go_wp2_with fail
    refine HC3.out.mono ?_
    rintro e w9 ⟨rfl, hd⟩
    have hb := hd.below
    have HV3 := Aside0.mk (Kd.R_below HV.out.2 hb)
    have HR3 := Aside0.mk (HR.out.step hb)
    have HW3 := Aside0.mk (HW.out.below hb)
    have HF3 := Aside0.mk (FnsOk.grow hb.size (HF.out.move (ok' := fun k => some k ≠ (Value.slice A6 ls.length ls.length).ownBlock) (fun k _ _ _ hlt => hb.block k hlt) (fun k _ _ ho e => ho (by cases A6 with | none => exact e | some ad => exact e))))
    clear hb hd
    go_wp2
    go_ret
    exact ⟨_, rfl, ⟨css, HTI.out, by have := ClipB.of (xs := css) (A := A6) (c := c6) (by rw [HTI.out]; exact HV3.out); rw [HTI.out] at this; exact this, by have := HF3.out; rw [List.take_length] at this; exact this⟩, HR3.out, HW3.out⟩
set_option maxHeartbeats 16000000 in
set_option maxRecDepth 100000 in
theorem all_Function_no (q : Nat) (xs : List Int) (hr : rdAll rdFn xs = none) (w0 : World) (ht : Lib.TabIs Tryd.prog w0 "strings.asciiSpace" .u8 Lib.asciiSpaceTab) (w : World) (h : Rd w0 w q xs) :
  Calls Tryd.prog 102 #[.pointer (some ⟨q, 0, none⟩), .func (.func 103) #[.pointer (some ⟨q, 0, none⟩)] #[]] w fun e w' => e = .panicked wrongP ∧ Wrote (fun k => k = q) w w' := by
 rcases rdAll_bad hr with h1 | ⟨n, r1, h1, hn, h2⟩
 ·
  have HC1 := Aside0.mk (reader_int_no q xs h1 w0 w h)
  clear h h1 hr ht
  go_enter Tryd.func102, Tryd.ntmps102
  go_wp2_with fail
  refine HC1.out.mono ?_
  rintro e w2 ⟨rfl, hW1⟩
  exact ⟨rfl, rfl, hW1⟩
 have HN := Aside0.mk hn
 have HC1 := Aside0.mk (reader_int_ok q xs (n : Int) r1 h1 w0 w h)
 have HR0 := Aside0.mk h2
 have HQL := Aside0.mk h.qlt
 have HS0 := Aside0.mk h.below.size
 have HRL := Aside0.mk (show r1.length ≤ 1000000 by
  have h3 := (rdInt_back h1).2.1
  have h5 := h.len
  rw [h3, List.length_append] at h5
  omega)
 have HT := Aside0.mk ht
 clear h h1 h2 hr hn ht
 go_enter Tryd.func102, Tryd.ntmps102
 go_wp2_with fail
 refine HC1.out.mono ?_
 rintro e w2 ⟨rfl, hR1, hW1⟩
 have HR1 := Aside0.mk hR1
 have HW1 := Aside0.mk hW1
 clear hR1 hW1 HC1
 go_wp2
 go_loopg [6] (r1.length + 2) (fun kq v6 w' => ∃ (i : Nat) (css : List (List Value)) (ri : List Int), Aside0 (ri.length + 1 ≤ kq) ∧ Aside0 (i ≤ n ∧ i + ri.length ≤ r1.length) ∧ Aside0 (Rd w0 w' q ri) ∧ Aside0 (rep rdFn (n - i) ri = none) ∧ Aside0 (css.length = i ∧ Kd.R (Kd.raw 6) 41 w' w.heap.size (fun k => w.heap.size ≤ k) v6 css) ∧ Aside0 (Wrote (fun k => k = q) w w'))
 case atStart => exact ⟨0, [], r1, ⟨by omega⟩, ⟨Nat.zero_le _, by omega⟩, HR1, HR0, ⟨rfl, Kd.R_nil _ _ _ _ _⟩, HW1⟩
 case round =>
  clear HR1 HR0 HW1
  obtain ⟨i, css, ri, HI1, HI, HR, HP, HV, HW⟩ := hrel
  obtain ⟨A6, c6, e6⟩ := Kd.R_slice HV.out.2
  subst e6
  have hti : css.length = i := HV.out.1
  have HTI := Aside0.mk hti
  rw [hti] at HV ⊢
  cases gk with
  | zero => exact absurd HI1.out (by omega)
  | succ k1 =>
   have ci : i < n := by
    apply Classical.byContradiction
    intro hc
    have hp := HP.out
    rw [show n - i = 0 by omega] at hp
    cases hp
   have cib : decide ((i : Int) < (n : Int)) = true := decide_eq_true (by omega)
   have hp := HP.out
   rw [show n - i = (n - (i + 1)) + 1 by omega] at hp
   rcases rep_bad hp with hg | ⟨x, r2, hg, hp2⟩
   ·
    have HC2 := Aside0.mk (reader_function_no q ri hg w0 HT.out wr HR.out)
    clear hp hg
    go_wp2_with fail
    refine HC2.out.mono ?_
    rintro e w9 ⟨rfl, hW2⟩
    exact ⟨rfl, rfl, HW.out.then hW2⟩
   ·
    have HLT := Aside0.mk (get_fn ri x r2 HR.out.bts HR.out.len hg).1
    have HP2 := Aside0.mk hp2
    have HC2 := Aside0.mk (reader_function_ok q ri x r2 hg w0 HT.out wr HR.out)
    clear hp hg hp2
    go_wp2_with fail
    refine HC2.out.mono ?_
    rintro e w9 ⟨cs, rfl, hF, hR2, hW2⟩
    obtain ⟨A1, A2, A5, ecs⟩ := hF.cells
    subst ecs
    have HV9 := Aside0.mk (And.intro HTI.out (Kd.R_step HV.out.2 (fun k hk hlt => hW2.block k hlt (by have := HQL.out; omega))))
    have HW9 := Aside0.mk (HW.out.then hW2)
    have HR9 := Aside0.mk hR2
    clear hR2 hW2 HC2 hF
    go_wp2_with (first | ((with_reducible refine gate_builtin (b := .append) (xs := #[.tmp 13, .tmp 16]) rfl ?_); at_builtin; refine Kd.R_append (Kd.raw 6) (w0 := w9) w.heap.size rfl (.tmp 13) (.tmp 16) 24 41 (.agg #[.int .u64 0, .slice none 0 0, .slice none 0 0, .int .i64 0, .int .i64 0, .slice none 0 0]) 96 rfl Tryd.underlying24 linfoF9 rfl (by decide) (by omega) (.slice A6 i c6) css [.int .u64 x.f0, .slice A1 x.f1.length x.f1.length, .slice A2 x.f2.length x.f2.length, .int .i64 x.f3, .int .i64 x.f4, .slice A5 x.f5.length x.f5.length] [.int .u64 x.f0, .slice A1 x.f1.length x.f1.length, .slice A2 x.f2.length x.f2.length, .int .i64 x.f3, .int .i64 x.f4, .slice A5 x.f5.length x.f5.length] (fun k => w.heap.size ≤ k) (fun _ => False) rfl rfl ?aP (fun _ hk => hk.elim) ?aF ?aO ?aB ?aS ?aL ?_; (case aP => exact ⟨rfl, rfl, fun u hu => by simp only [List.mem_cons, List.not_mem_nil, or_false] at hu; rcases hu with rfl | rfl | rfl | rfl | rfl | rfl <;> rfl⟩); (case aB => exact Below.refl _ _); (case aF => exact (fun k hk => Nat.le_trans HW9.out.size hk)); (case aO => exact HV9.out.2); (case aS => exact HW9.out.size); (case aL => have := HRL.out; have := HI.out.2; have := HTI.out; omega); intro v1 w1 ho hb hg hat; have HV1 := Aside0.mk ho; have HWN := Aside0.mk (HW9.out.grown hg (fun g e => .inr (HV9.out.2.1 g e))); have HRN := Aside0.mk (HR9.out.grown hg (fun g e => by have h1 : w.heap.size ≤ g := HV9.out.2.1 g e; have h2 := HQL.out; have h3 := HS0.out; exact ⟨by omega, by omega⟩)); clear ho hb hg hat))
    go_roundg k1
    case measure => omega
    case rel => exact ⟨i + 1, css ++ [[.int .u64 x.f0, .slice A1 x.f1.length x.f1.length, .slice A2 x.f2.length x.f2.length, .int .i64 x.f3, .int .i64 x.f4, .slice A5 x.f5.length x.f5.length]], r2, ⟨by have := HI1.out; have := HLT.out; omega⟩, ⟨by omega, by have := HI.out.2; have := HLT.out; omega⟩, ⟨HRN.out⟩, HP2, ⟨by rw [List.length_append, HTI.out]; rfl, HV1.out⟩, ⟨HWN.out⟩⟩
end Go.Proofs.YtgpdaihfjnihhaaDoor.PJ
