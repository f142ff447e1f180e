/- ops.BySign by hand: the signs of its arity, slices.Index over them. -/
import Derived.Test.YtblhmmhhjkjcgaaDoorHandSigns
namespace Go.Proofs.YtblhmmhhjkjcgaaDoor.PJ
open Go.RowKit Go.Proofs.YtblhmmhhjkjcgaaDoorW.PrintWords Go.Proofs.YtblhmmhhjkjcgaaDoorW.PrintLast Go.Proofs.YtblhmmhhjkjcgaaDoorW.PrintMore
set_option linter.unusedSimpArgs false
set_option linter.unusedVariables false

theorem cut_mid_str {P : Program} (t e : TypeId) {z : Value} {by_ : Nat} (ht : P.underlying t = some (.slice e)) (hinfo : (P.info? e).map (fun i => (i.zero, i.size, i.bytes)) = some (some z, 1, by_)) (A : Option Addr) (c : Nat) (xs ys : List ByteArray) (n : Nat) (hn : xs.length = n) (a b : Int) (h0 : 0 ≤ a) (hab : a ≤ b) (hm : b ≤ xs.length) (hc : xs.length ≤ c) (hy : (xs.take b.toNat).drop a.toNat = ys) :
    ∃ A' : Option Addr, (∀ W : World, (Instr.slice t (.slice A n c) (some (.int .i64 a)) (some (.int .i64 b)) none).run P W = .ok (.slice A' ys.length (c - a.toNat)) W) ∧
      (∀ w : World, Kd.C Kd.string w A xs.length xs → Kd.C Kd.string w A' ys.length ys) ∧ ys.length ≤ c - a.toNat := by
  obtain ⟨i0, hi, _, hsz, _⟩ := info_parts hinfo
  obtain ⟨A', h1, h2, h3⟩ := print_mid_of (P := P) Value.string ByteArray.empty t e .i64 .i64 ht hi hsz A c xs a b h0 hab hm hc
  rw [hy] at h1 h2 h3
  subst hn
  exact ⟨A', h1, fun w h => Kd.C_of_reads (h1 := fun _ => rfl) (h2 w (Kd.reads_of_C h)), h3⟩
def signs1 : List ByteArray := [⟨#[45]⟩, ⟨#[33]⟩, ⟨#[126]⟩]
def signs2 : List ByteArray := [⟨#[43]⟩, ⟨#[45]⟩, ⟨#[42]⟩, ⟨#[47]⟩, ⟨#[37]⟩, ⟨#[38]⟩, ⟨#[124]⟩, ⟨#[94]⟩, ⟨#[60, 60]⟩, ⟨#[62, 62]⟩, ⟨#[61, 61]⟩, ⟨#[33, 61]⟩, ⟨#[60]⟩, ⟨#[60, 61]⟩]
def bySign (r1 r2 ar : Int) : Int × Bool := if ar = 1 then (if r1 < 0 then (0, false) else (wrap64 (wrap64 (14 + r1) + 1), true)) else if ar = 2 then (if r2 < 0 then (0, false) else (wrap64 (wrap64 r2 + 1), true)) else (0, false)

theorem str_info : (Tryd.prog.info? 9).map (fun i => (i.zero, i.size, i.bytes)) = some (some (.string ByteArray.empty), 1, 16) := by kernel_rfl
set_option maxHeartbeats 8000000 in
set_option maxRecDepth 100000 in
theorem ops_BySign.calls (k : Nat) (s : ByteArray) (ar r1 r2 : Int) (w : World) (ht : Lib.TabIs Tryd.prog w "strings.asciiSpace" .u8 Lib.asciiSpaceTab) (h1 : slices_Index_string_string.f k signs1 s = some r1) (h2 : slices_Index_string_string.f k signs2 s = some r2) (l1 : -1 ≤ r1 ∧ r1 ≤ 3) (l2 : -1 ≤ r2 ∧ r2 ≤ 14) :
    Calls Tryd.prog 5 #[.string s, .int .i64 ar] w fun e w' => e = .returned (.tuple #[.int .i64 (bySign r1 r2 ar).1, .bool (bySign r1 r2 ar).2]) ∧ Below w.heap.size w w' := by
  have HT := Aside0.mk ht
  have H1 := Aside0.mk h1
  have H2 := Aside0.mk h2
  have L1 := Aside0.mk l1
  have L2 := Aside0.mk l2
  clear ht h1 h2 l1 l2
  have HU : Tryd.prog.underlying 32 = some (.slice 9) := Tryd.underlying32
  by_cases a1 : ar = 1
  · subst a1
    by_cases n1 : r1 < 0
    · have n1b : decide (r1 < 0) = true := decide_eq_true n1
      have e0 := Aside0.mk (show bySign r1 r2 1 = (0, false) by unfold bySign; rw [if_pos rfl]; rw [if_pos n1])
      go_enter Tryd.func5, Tryd.ntmps5
      go_wp2_with fail
      refine (signs_calls _ HT.out).mono ?_
      rintro e w1 ⟨g, rfl, _, hC, hb⟩
      have HB := Aside0.mk hb
      clear hb
      obtain ⟨A6, hcut, hR6, hc6⟩ := cut_mid_str (P := Tryd.prog) 32 9 HU str_info (some ⟨g, 0, none⟩) 17 signL signs1 17 rfl 14 17 (by decide) (by decide) (by decide) (by decide) rfl
      have HR6 := Aside0.mk (hR6 _ hC)
      clear hR6 hc6 hC
      go_wp2_with fail
      refine (slices_Index_string_string.calls k A6 _ signs1 s r1 _ HR6.out (by decide) H1.out).mono ?_
      rintro e w2 ⟨rfl, ⟨nd, rfl⟩⟩
      go_wp2_with fail
      go_ret2
      rw [e0.out]
      exact ⟨rfl, pw_below_drewN HB.out _⟩
    · have n1b : decide (r1 < 0) = false := decide_eq_false n1
      have e0 := Aside0.mk (show bySign r1 r2 1 = (wrap64 (wrap64 (14 + r1) + 1), true) by unfold bySign; rw [if_pos rfl]; rw [if_neg n1])
      go_enter Tryd.func5, Tryd.ntmps5
      go_wp2_with fail
      refine (signs_calls _ HT.out).mono ?_
      rintro e w1 ⟨g, rfl, _, hC, hb⟩
      have HB := Aside0.mk hb
      clear hb
      obtain ⟨A6, hcut, hR6, hc6⟩ := cut_mid_str (P := Tryd.prog) 32 9 HU str_info (some ⟨g, 0, none⟩) 17 signL signs1 17 rfl 14 17 (by decide) (by decide) (by decide) (by decide) rfl
      have HR6 := Aside0.mk (hR6 _ hC)
      clear hR6 hc6 hC
      go_wp2_with fail
      refine (slices_Index_string_string.calls k A6 _ signs1 s r1 _ HR6.out (by decide) H1.out).mono ?_
      rintro e w2 ⟨rfl, ⟨nd, rfl⟩⟩
      go_wp2_with fail
      go_ret2
      rw [e0.out]
      exact ⟨rfl, pw_below_drewN HB.out _⟩
  · have a1b : (ar == 1) = false := beq_eq_false_iff_ne.mpr a1
    by_cases a2 : ar = 2
    · subst a2
      by_cases n1 : r2 < 0
      · have n1b : decide (r2 < 0) = true := decide_eq_true n1
        have e0 := Aside0.mk (show bySign r1 r2 2 = (0, false) by unfold bySign; rw [if_neg (by decide), if_pos rfl]; rw [if_pos n1])
        go_enter Tryd.func5, Tryd.ntmps5
        go_wp2_with fail
        refine (signs_calls _ HT.out).mono ?_
        rintro e w1 ⟨g, rfl, _, hC, hb⟩
        have HB := Aside0.mk hb
        clear hb
        obtain ⟨A6, hcut, hR6, hc6⟩ := cut_mid_str (P := Tryd.prog) 32 9 HU str_info (some ⟨g, 0, none⟩) 17 signL signs2 17 rfl 0 14 (by decide) (by decide) (by decide) (by decide) rfl
        have HR6 := Aside0.mk (hR6 _ hC)
        clear hR6 hc6 hC
        go_wp2_with fail
        refine (slices_Index_string_string.calls k A6 _ signs2 s r2 _ HR6.out (by decide) H2.out).mono ?_
        rintro e w2 ⟨rfl, ⟨nd, rfl⟩⟩
        go_wp2_with fail
        go_ret2
        rw [e0.out]
        exact ⟨rfl, pw_below_drewN HB.out _⟩
      · have n1b : decide (r2 < 0) = false := decide_eq_false n1
        have e0 := Aside0.mk (show bySign r1 r2 2 = (wrap64 (wrap64 r2 + 1), true) by unfold bySign; rw [if_neg (by decide), if_pos rfl]; rw [if_neg n1])
        go_enter Tryd.func5, Tryd.ntmps5
        go_wp2_with fail
        refine (signs_calls _ HT.out).mono ?_
        rintro e w1 ⟨g, rfl, _, hC, hb⟩
        have HB := Aside0.mk hb
        clear hb
        obtain ⟨A6, hcut, hR6, hc6⟩ := cut_mid_str (P := Tryd.prog) 32 9 HU str_info (some ⟨g, 0, none⟩) 17 signL signs2 17 rfl 0 14 (by decide) (by decide) (by decide) (by decide) rfl
        have HR6 := Aside0.mk (hR6 _ hC)
        clear hR6 hc6 hC
        go_wp2_with fail
        refine (slices_Index_string_string.calls k A6 _ signs2 s r2 _ HR6.out (by decide) H2.out).mono ?_
        rintro e w2 ⟨rfl, ⟨nd, rfl⟩⟩
        go_wp2_with fail
        go_ret2
        rw [e0.out]
        exact ⟨rfl, pw_below_drewN HB.out _⟩
    · have a2b : (ar == 2) = false := beq_eq_false_iff_ne.mpr a2
      have e0 := Aside0.mk (show bySign r1 r2 ar = (0, false) by unfold bySign; rw [if_neg a1, if_neg a2])
      go_enter Tryd.func5, Tryd.ntmps5
      go_wp2_with fail
      refine (signs_calls _ HT.out).mono ?_
      rintro e w1 ⟨g, rfl, _, _, hb⟩
      have HB := Aside0.mk hb
      clear hb
      go_wp2_with fail
      go_ret2
      rw [e0.out]
      exact ⟨rfl, HB.out⟩
end Go.Proofs.YtblhmmhhjkjcgaaDoor.PJ
