/- Lists that are lent out with a mark behind them: what the kit's Lent function makes of a list (new memory, the list, the mark in the next place), and that its Kept function finds list and mark. The lists are shorter than 2^47 less one. -/
import Derived.Test.YtgpdaihfjnihhaaDoorQPJx0
import Derived.Test.YtgpdaihfjnihhaaDoorQPKit
import Derived.WalkKit
namespace Go.Proofs.YtgpdaihfjnihhaaDoor.PJ
open Go.RowKit Go.Proofs.YtgpdaihfjnihhaaDoorW.PrintWords Go.Proofs.YtgpdaihfjnihhaaDoorW.PrintLast Go.Proofs.YtgpdaihfjnihhaaDoorW.PrintMore
def Lent (k : IntKind) (e : Nat) (W : World) (base : Nat) (v : Value) (l : List Int) (m : Int) : Prop :=
 ∃ A c, v = .slice A l.length c ∧ Kd.R (Kd.int k) e W base (fun _ => True) (.slice A (l ++ [m]).length c) (l ++ [m])
theorem Lent.below {k : IntKind} {e : Nat} {W W1 : World} {base : Nat} {v : Value} {l : List Int} {m : Int} (h : Lent k e W base v l m) (hb : Below W.heap.size W W1) : Lent k e W1 base v l m := by
 obtain ⟨A, c, rfl, hR⟩ := h
 exact ⟨A, c, rfl, Kd.R_below hR hb⟩
theorem Lent.reads {k : IntKind} {e : Nat} {W : World} {base : Nat} {v : Value} {l : List Int} {m : Int} (h : Lent k e W base v l m) :
  ∃ ad c, v = .slice (some ad) l.length c ∧ l.length + 1 ≤ c ∧ Kd.C (Kd.int k) W (some ad) l.length l ∧ W.cell? (ad.add l.length) = some (.int k m) := by
 obtain ⟨A, c, rfl, hR⟩ := h
 obtain ⟨_, hc, hC⟩ := Kd.R_reads' hR
 have hlen : (l ++ [m]).length = l.length + 1 := by simp
 obtain ⟨ad, rfl, hcell⟩ := hC.2.2 (by omega)
 refine ⟨ad, c, rfl, by omega, ?_, ?_⟩
 ·
  have := Kd.C_take (m := l.length) hC (by omega)
  rw [List.take_left'] at this
  ·
   exact this
  ·
   rfl
 ·
  obtain ⟨cs, h1, h2, h3⟩ := hcell l.length m (by simp)
  have e2 : cs = [.int k m] := h2
  have := h3 0 (.int k m) (by rw [e2]; rfl)
  have e3 : l.length * (Kd.int k).sz + 0 = l.length := by show l.length * 1 + 0 = l.length; omega
  rw [e3] at this
  exact this
theorem cut_up {P : Program} (t e : TypeId) {i : TypeInfo} (ht : P.underlying t = some (.slice e)) (hi : P.info? e = some i) (A : Option Addr) (n c : Nat) (j : Int) (h0 : 0 ≤ j) (hc : j ≤ c) :
  ∀ W : World, (Instr.slice t (.slice A n c) none (some (.int .i64 j)) none).run P W = .ok (.slice A j.toNat c) W := by
 intro W
 have hel : P.elem t = e := by simp [Program.elem, ht]
 have hu : P.underlying t = some (.slice (P.elem t)) := by rw [hel]; exact ht
 have ha : (A.map fun x => x.add 0) = A := by cases A <;> simp [Addr.add]
 rw [run_slice_h W t A n c hu .i64 j h0 hc, hel]
 simp [sizeOf, typeInfo, hi, sliced, Result.andThen, ha]
set_option maxHeartbeats 8000000 in
set_option maxRecDepth 100000 in
theorem louverkit_LentBytes.calls (A0 : Option Addr) (c0 : Nat) (l0 : List Int) (w : World) (hr0 : Kd.C (Kd.int .u8) w A0 l0.length l0) (hl : (l0.length + 1) * 1 ≤ 140737488355328) :
  Calls Tryd.prog 20 #[.slice A0 l0.length c0] w fun e w' => ∃ v0_ : Value, e = .returned (v0_) ∧ Lent .u8 5 w' w.heap.size v0_ l0 201 ∧ Below w.heap.size w w' := by
 have HR0 := Aside0.mk hr0
 have HL := Aside0.mk hl
 clear hr0 hl
 have HB := Aside0.mk (Below.refl w.heap.size w)
 go_enter Tryd.func20, Tryd.ntmps20
 go_wp2_with (first | ((with_reducible refine gate_builtin (b := .append) (xs := #[.tmp 4, .tmp 5]) rfl ?_); at_builtin; refine Kd.R_append_rows (Kd.int .u8) (w0 := w) w.heap.size rfl (.tmp 4) (.tmp 5) 27 5 (.int .u8 0) 1 rfl Tryd.underlying27 info5 rfl (by decide) (by omega) (.slice none 0 0) ([] : List Int) l0 _ _ _ (fun _ => True) (fun _ => False) rfl rfl ?aO ?aR (fun _ _ h => h) (fun _ h => h.elim) ?aF ?aB ?aS ?aL ?_; (case aR => exact HR0.out); (case aB => exact HB.out); (case aF => exact (fun _ _ => trivial)); (case aO => exact Kd.R_nil _ _ _ _ _); (case aS => exact (below_size HB.out)); (case aL => have := HL.out; simp only [List.length_nil]; omega); intro v102 w6 ho hb hg hat; rw [List.nil_append] at ho; have n0_ := Aside0.mk (hb); have n1_ := Aside0.mk (ho); clear HB; have HB := n0_; have HO103 := n1_; clear n0_ n1_; clear ho hb hg hat) | ((with_reducible refine gate_builtin (b := .append) (xs := #[.tmp 7, .tmp 8]) rfl ?_); at_builtin; refine Kd.R_append (Kd.int .u8) (w0 := w) w.heap.size rfl (.tmp 7) (.tmp 8) 27 5 (.int .u8 0) 1 rfl Tryd.underlying27 info5 rfl (by decide) (by omega) v102 l0 201 [.int .u8 201] (fun _ => True) (fun _ => False) rfl rfl ?aP (fun _ hk => hk.elim) ?aF ?aO ?aB ?aS ?aL ?_; (case aP => exact rfl); (case aB => exact (by repeat (first | (with_reducible first | exact HB.out | apply below_alloc | apply pw_below_drewN | apply below_drew1) | exact HB.out))); (case aF => exact (fun _ _ => trivial)); (case aO => exact (by (with_reducible repeat (first | apply Kd.R_alloc | apply Kd.R_drewN | apply Kd.R_drew)); exact HO103.out)); (case aS => exact (below_size (by repeat (first | (with_reducible first | exact HB.out | apply below_alloc | apply pw_below_drewN | apply below_drew1) | exact HB.out)))); (case aL => have := HL.out; omega); intro v105 w7 ho hb hg hat; have n0_ := Aside0.mk (hb); have n1_ := Aside0.mk (ho); clear HB; clear HO103; have HB := n0_; have HO106 := n1_; clear n0_ n1_; clear ho hb hg hat; obtain ⟨Ao8, co8, eo8⟩ := Kd.R_slice HO106.out; subst eo8; obtain ⟨i09, hi09, _, hsz9, _⟩ := info_parts info5; have hcut9 := cut_up (P := Tryd.prog) 27 5 Tryd.underlying27 hi09 Ao8 (l0 ++ [201]).length co8 (l0.length : Int) (by omega) (by have := (Kd.R_reads' HO106.out).2.1; simp only [List.length_append, List.length_singleton] at this; omega); clear hi09 hsz9; simp only [List.length_append, List.length_cons, List.length_nil, Int.toNat_natCast] at hcut9))
 go_ret
 exact ⟨_, rfl, ⟨Ao8, co8, rfl, HO106.out⟩, HB.out⟩
set_option maxHeartbeats 8000000 in
set_option maxRecDepth 100000 in
theorem louverkit_KeptBytes.calls (k : Nat) (v : Value) (l0 : List Int) (base : Nat) (A1 : Option Addr) (c1 : Nat) (l1 : List Int) (w : World) (hL : Lent .u8 5 w base v l0 201) (hr1 : Kd.C (Kd.int .u8) w A1 l1.length l1) (hc1 : l1.length ≤ c1) (hn : l0.length < 9223372036854775807) (h : louverkit_Bytes.f k l0 l1 = some true) :
  Calls Tryd.prog 26 #[v, .slice A1 l1.length c1] w fun e w' => e = .returned (.bool true) ∧ Drawn0 w w' := by
 obtain ⟨ad, c, rfl, hcap, hC, hcell⟩ := hL.reads
 have HC := Aside0.mk hC
 have HR1 := Aside0.mk hr1
 have HC1 := Aside0.mk hc1
 have HH := Aside0.mk h
 have HN := Aside0.mk hcap
 clear hL hC hr1 hc1 h
 have w1 : wrap64 ((l0.length : Int) + 1) = (l0.length : Int) + 1 := by
  unfold wrap64
  omega
 obtain ⟨i09, hi09, _, hsz9, _⟩ := info_parts info5
 have hcut9 := cut_up (P := Tryd.prog) 27 5 Tryd.underlying27 hi09 (some ad) l0.length c ((l0.length : Int) + 1) (by omega) (by omega)
 clear hi09 hsz9 hcap hn
 go_enter Tryd.func26, Tryd.ntmps26
 go_wp2_with (first | (go_at_call 25; (with_reducible refine (louverkit_Bytes.calls k _ _ l0 _ _ l1 true _ ?s1 ?s2 ?s3 ?s4 HH.out).mono ?_); (case s1 => exact HC.out); (case s2 => have := HN.out; omega); (case s3 => exact HR1.out); (case s4 => exact HC1.out); rintro e w' ⟨rfl, ⟨nd, rfl⟩⟩))
 go_ret
 exact ⟨rfl, by repeat (first | exact Drawn0.refl _ | apply Drawn0.step)⟩
end Go.Proofs.YtgpdaihfjnihhaaDoor.PJ
