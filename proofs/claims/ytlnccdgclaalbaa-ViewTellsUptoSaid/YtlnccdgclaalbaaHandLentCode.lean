/- Lent rows of labels and of instructions. -/
import Derived.Test.YtlnccdgclaalbaaPJx0
import Derived.Test.YtlnccdgclaalbaaHandLentKd
import Derived.Test.YtlnccdgclaalbaaHandLent
namespace Go.Proofs.Ytlnccdgclaalbaa.PJ
open Go.RowKit Go.Proofs.YtlnccdgclaalbaaW.PrintWords Go.Proofs.YtlnccdgclaalbaaW.PrintLast Go.Proofs.YtlnccdgclaalbaaW.PrintMore
set_option linter.unusedSimpArgs false
set_option linter.unusedVariables false
/-- The slice v holds l, and m stands behind it in the same new row (not elder than base). -/
def LentD {α : Type} (d : Kd α) (e : Nat) (W : World) (base : Nat) (v : Value) (l : List α) (m : α) : Prop :=
  ∃ A c, v = .slice A l.length c ∧ d.R e W base (fun k => base ≤ k) (.slice A (l ++ [m]).length c) (l ++ [m])
theorem LentD.below {α : Type} {d : Kd α} {e : Nat} {W W1 : World} {base : Nat} {v : Value} {l : List α} {m : α} (h : LentD d e W base v l m) (hb : Below W.heap.size W W1) : LentD d e W1 base v l m := by
  obtain ⟨A, c, rfl, hR⟩ := h
  exact ⟨A, c, rfl, Kd.R_below hR hb⟩
/-- Its one cell, with what it leads to. -/
theorem LentD.FK {α : Type} {d : Kd α} {e : Nat} {W : World} {base : Nat} {v : Value} {l : List α} {m : α} (h : LentD d e W base v l m) : Kd.FK (kLent d m) W (fun k => base ≤ k) (l, true) [v] := by
  obtain ⟨A, c, rfl, hR⟩ := h
  have hc := (Kd.R_reads' hR).2.1
  have hF := Kd.N_F (Kd.R_N hR)
  intro W' hW
  have hC := hF W' hW
  have hl : (l ++ [m]).length = l.length + 1 := by simp
  refine ⟨A, c, rfl, (show l.length ≤ c by omega), ?_, fun _ => ⟨(show l.length + 1 ≤ c by omega), hC⟩⟩
  have := Kd.C_take (m := l.length) hC (by omega)
  rw [List.take_left'] at this
  · exact this
  · rfl
set_option maxHeartbeats 8000000 in
set_option maxRecDepth 100000 in
theorem louverkit_LentLabelsD.calls (A0 : Option Addr) (c0 : Nat) (l0 : List Int) (w : World) (hr0 : Kd.C (Kd.int .u64) w A0 l0.length l0) (hl : (l0.length + 1) * 8 ≤ 140737488355328) :
    Calls Try.prog 35 #[.slice A0 l0.length c0] w fun e w' => ∃ v0_ : Value, e = .returned (v0_) ∧ LentD (Kd.int .u64) 32 w' w.heap.size v0_ l0 7171 ∧ Below w.heap.size w w' := by
  have HR0 := Aside0.mk hr0
  have HL := Aside0.mk hl
  clear hr0 hl
  have HB := Aside0.mk (Below.refl w.heap.size w)
  go_enter Try.func35, Try.ntmps35
  go_wp2_with (first | ((with_reducible refine gate_builtin (b := .append) (xs := #[.tmp 4, .tmp 5]) rfl ?_); at_builtin; refine Kd.R_append_rows (Kd.int .u64) (w0 := w) w.heap.size rfl (.tmp 4) (.tmp 5) 22 32 (.int .u64 0) 8 rfl Try.underlying22 linfoL rfl (by decide) (by omega) (.slice none 0 0) [] l0 _ _ _ (fun k => w.heap.size ≤ k) (fun _ => False) rfl rfl ?aO ?aR (fun _ _ h => h) (fun _ h => h.elim) ?aF ?aB ?aS ?aL ?_; (case aR => exact HR0.out); (case aB => exact HB.out); (case aF => exact (fun _ h => h)); (case aO => exact Kd.R_nil _ _ _ _ _); (case aS => exact (below_size HB.out)); (case aL => have := HL.out; simp only [List.length_nil]; omega); intro v102 w6 ho hb hg hat; rw [List.nil_append] at ho; clear HB; have HB := Aside0.mk hb; have HO := Aside0.mk ho; clear ho hb hg hat) | ((with_reducible refine gate_builtin (b := .append) (xs := #[.tmp 7, .tmp 8]) rfl ?_); at_builtin; refine Kd.R_append (Kd.int .u64) (w0 := w) w.heap.size rfl (.tmp 7) (.tmp 8) 22 32 (.int .u64 0) 8 rfl Try.underlying22 linfoL rfl (by decide) (by omega) v102 l0 7171 [.int .u64 7171] (fun k => w.heap.size ≤ k) (fun _ => False) rfl rfl ?aP (fun _ hk => hk.elim) ?aF ?aO ?aB ?aS ?aL ?_; (case aP => exact rfl); (case aB => exact HB.out); (case aF => exact (fun k hk => Nat.le_trans HB.out.size hk)); (case aO => exact HO.out); (case aS => exact HB.out.size); (case aL => have := HL.out; omega); intro v105 w7 ho hb hg hat; clear HB; have HB := Aside0.mk hb; clear HO; have HO := Aside0.mk ho; clear ho hb hg hat; obtain ⟨Ao8, co8, eo8⟩ := Kd.R_slice HO.out; subst eo8; obtain ⟨i09, hi09, _, hsz9, _⟩ := info_parts linfoL; have hcut9 := cut_up (P := Try.prog) 22 32 Try.underlying22 hi09 Ao8 (l0 ++ [7171]).length co8 (l0.length : Int) (by omega) (by have := (Kd.R_reads' HO.out).2.1; simp only [List.length_append, List.length_singleton] at this; omega); clear hi09 hsz9; simp only [List.length_append, List.length_cons, List.length_nil, Int.toNat_natCast] at hcut9))
  go_ret
  exact ⟨_, rfl, ⟨Ao8, co8, rfl, HO.out⟩, HB.out⟩
set_option maxHeartbeats 8000000 in
set_option maxRecDepth 100000 in
theorem louverkit_LentCodeD.calls (A0 : Option Addr) (c0 : Nat) (l0 : List S77) (w : World) (hr0 : Kd.C k77 w A0 l0.length l0) (hl : (l0.length + 1) * 16 ≤ 140737488355328) :
    Calls Try.prog 53 #[.slice A0 l0.length c0] w fun e w' => ∃ v0_ : Value, e = .returned (v0_) ∧ LentD k77 77 w' w.heap.size v0_ l0 (⟨-71, 0⟩ : S77) ∧ Below w.heap.size w w' := by
  have HR0 := Aside0.mk hr0
  have HL := Aside0.mk hl
  clear hr0 hl
  have HB := Aside0.mk (Below.refl w.heap.size w)
  go_enter Try.func53, Try.ntmps53
  go_wp2_with (first | ((with_reducible refine gate_builtin (b := .append) (xs := #[.tmp 4, .tmp 5]) rfl ?_); at_builtin; refine Kd.R_append_rows k77 (w0 := w) w.heap.size rfl (.tmp 4) (.tmp 5) 46 77 (.agg #[.int .i64 0, .int .i64 0]) 16 rfl Try.underlying46 linfoI rfl (by decide) (by omega) (.slice none 0 0) [] l0 _ _ _ (fun k => w.heap.size ≤ k) (fun _ => False) rfl rfl ?aO ?aR (fun _ _ h => h) (fun _ h => h.elim) ?aF ?aB ?aS ?aL ?_; (case aR => exact HR0.out); (case aB => exact HB.out); (case aF => exact (fun _ h => h)); (case aO => exact Kd.R_nil _ _ _ _ _); (case aS => exact (below_size HB.out)); (case aL => have := HL.out; simp only [List.length_nil]; omega); intro v102 w6 ho hb hg hat; rw [List.nil_append] at ho; clear HB; have HB := Aside0.mk hb; have HO := Aside0.mk ho; clear ho hb hg hat) | ((with_reducible refine gate_builtin (b := .append) (xs := #[.tmp 7, .tmp 9]) rfl ?_); at_builtin; refine Kd.R_append k77 (w0 := w) w.heap.size rfl (.tmp 7) (.tmp 9) 46 77 (.agg #[.int .i64 0, .int .i64 0]) 16 rfl Try.underlying46 linfoI rfl (by decide) (by omega) v102 l0 (⟨-71, 0⟩ : S77) [.int .i64 (-71), .int .i64 0] (fun k => w.heap.size ≤ k) (fun _ => False) rfl rfl ?aP (fun _ hk => hk.elim) ?aF ?aO ?aB ?aS ?aL ?_; (case aP => exact ⟨[.int .i64 (-71)], [.int .i64 0], rfl, rfl, rfl⟩); (case aB => exact HB.out); (case aF => exact (fun k hk => Nat.le_trans HB.out.size hk)); (case aO => exact HO.out); (case aS => exact HB.out.size); (case aL => have := HL.out; omega); intro v105 w7 ho hb hg hat; clear HB; have HB := Aside0.mk hb; clear HO; have HO := Aside0.mk ho; clear ho hb hg hat; obtain ⟨Ao8, co8, eo8⟩ := Kd.R_slice HO.out; subst eo8; obtain ⟨i09, hi09, _, hsz9, _⟩ := info_parts linfoI; have hcut9 := cut_up (P := Try.prog) 46 77 Try.underlying46 hi09 Ao8 (l0 ++ [(⟨-71, 0⟩ : S77)]).length co8 (l0.length : Int) (by omega) (by have := (Kd.R_reads' HO.out).2.1; simp only [List.length_append, List.length_singleton] at this; omega); clear hi09 hsz9; simp only [List.length_append, List.length_cons, List.length_nil, Int.toNat_natCast] at hcut9))
  go_ret
  exact ⟨_, rfl, ⟨Ao8, co8, rfl, HO.out⟩, HB.out⟩
end Go.Proofs.Ytlnccdgclaalbaa.PJ
