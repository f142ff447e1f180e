/- The document's reader of images: number, int, labels, by hand. -/
import Derived.Test.YtgpdaihfjnihhaaDoorQPB
import Derived.Test.YtgpdaihfjnihhaaDoorQHandRd12
namespace Go.Proofs.YtgpdaihfjnihhaaDoor.PJ
open Go.RowKit Go.Proofs.YtgpdaihfjnihhaaDoorW.PrintWords Go.Proofs.YtgpdaihfjnihhaaDoorW.PrintLast Go.Proofs.YtgpdaihfjnihhaaDoorW.PrintMore Go.Proofs.YtgpdaihfjnihhaaDoor.LebPure Go.Proofs.YtgpdaihfjnihhaaDoor.LebForm Go.Proofs.YtgpdaihfjnihhaaDoor.B64
set_option linter.unusedSimpArgs false
set_option linter.unusedVariables false
def Got {α : Type} (get : List Int → Option (α × List Int)) (b : List Int) (a0 : Nat) (d0 : Bool) (x : α) (a1 : Nat) (d1 : Bool) : Prop :=
 a0 ≤ a1 ∧ (d0 = true → d1 = true) ∧ (d0 = false → (d1 = false ∧ get (b.drop a0) = some (x, b.drop a1)) ∨ (d1 = true ∧ get (b.drop a0) = none))
theorem Got.bind {α β : Type} {g1 : List Int → Option (α × List Int)} {g2 : α → List Int → Option (β × List Int)} {b : List Int} {a0 a1 a2 : Nat} {d0 d1 d2 : Bool} {x : α} {y : β} (h1 : Got g1 b a0 d0 x a1 d1) (h2 : Got (g2 x) b a1 d1 y a2 d2) : Got (fun l => (g1 l).bind fun p => g2 p.1 p.2) b a0 d0 y a2 d2 := by
 refine ⟨Nat.le_trans h1.1 h2.1, fun h => h2.2.1 (h1.2.1 h), fun h => ?_⟩
 rcases h1.2.2 h with ⟨e1, e2⟩ | ⟨e1, e2⟩
 ·
  rcases h2.2.2 e1 with ⟨f1, f2⟩ | ⟨f1, f2⟩
  ·
   exact .inl ⟨f1, by show (g1 (b.drop a0)).bind _ = _; rw [e2, Option.bind_some]; exact f2⟩
  ·
   exact .inr ⟨f1, by show (g1 (b.drop a0)).bind _ = _; rw [e2, Option.bind_some]; exact f2⟩
 ·
  exact .inr ⟨h2.2.1 e1, by show (g1 (b.drop a0)).bind _ = _; rw [e2]; rfl⟩
theorem Got.map {α β : Type} {g : List Int → Option (α × List Int)} {b : List Int} {a0 a1 : Nat} {d0 d1 : Bool} {x : α} (f : α → β) (h : Got g b a0 d0 x a1 d1) : Got (fun l => (g l).map fun q => (f q.1, q.2)) b a0 d0 (f x) a1 d1 := by
 refine ⟨h.1, h.2.1, fun hd => ?_⟩
 rcases h.2.2 hd with ⟨e1, e2⟩ | ⟨e1, e2⟩
 ·
  exact .inl ⟨e1, by show (g (b.drop a0)).map _ = _; rw [e2]; rfl⟩
 ·
  exact .inr ⟨e1, by show (g (b.drop a0)).map _ = _; rw [e2]; rfl⟩
theorem Got.congr {α : Type} {g g' : List Int → Option (α × List Int)} {b : List Int} {a0 a1 : Nat} {d0 d1 : Bool} {x : α} (h : Got g b a0 d0 x a1 d1) (e : ∀ l, g l = g' l) : Got g' b a0 d0 x a1 d1 := by
 rwa [show g = g' from funext e] at h
theorem rep_snoc {α : Type} (get : List Int → Option (α × List Int)) : ∀ (n : Nat) (l : List Int), rep get (n + 1) l = (rep get n l).bind fun q => (get q.2).map fun p => (q.1 ++ [p.1], p.2) := by
 intro n
 induction n with
 | zero =>
  intro l
  show (get l).bind (fun p => (rep get 0 p.2).map fun q => (p.1 :: q.1, q.2)) = (some ([], l)).bind _
  rw [Option.bind_some]
  cases get l <;> rfl
 | succ n ih =>
  intro l
  show (get l).bind (fun p => (rep get (n + 1) p.2).map fun q => (p.1 :: q.1, q.2)) = ((get l).bind fun p => (rep get n p.2).map fun q => (p.1 :: q.1, q.2)).bind _
  cases get l with
  | none => rfl
  | some p =>
   simp only [Option.bind_some]
   rw [ih]
   cases rep get n p.2 with
   | none => rfl
   | some q =>
    simp only [Option.bind_some, Option.map_some]
    cases get q.2 <;> rfl
theorem rep_none {α : Type} (get : List Int → Option (α × List Int)) (l : List Int) (i : Nat) (h : rep get i l = none) : ∀ d, rep get (i + d) l = none := by
 intro d
 induction d with
 | zero => exact h
 | succ d ih => rw [← Nat.add_assoc, rep_snoc, ih]; rfl
theorem Got.rep0 {α : Type} (get : List Int → Option (α × List Int)) (b : List Int) (a : Nat) (d : Bool) : Got (rep get 0) b a d [] a d :=
 ⟨Nat.le_refl _, fun h => h, fun h => .inl ⟨h, rfl⟩⟩
theorem Got.next {α : Type} {get : List Int → Option (α × List Int)} {b : List Int} {a0 a1 a2 : Nat} {d0 d1 d2 : Bool} {xs : List α} {x : α} {n : Nat} (h1 : Got (rep get n) b a0 d0 xs a1 d1) (h2 : Got get b a1 d1 x a2 d2) : Got (rep get (n + 1)) b a0 d0 (xs ++ [x]) a2 d2 :=
 (Got.bind (g2 := fun (q : List α) l => (get l).map fun p => (q ++ [p.1], p.2)) h1 (h2.map (fun p => xs ++ [p]))).congr (fun l => (rep_snoc get n l).symm)
theorem Got.stop {α : Type} {get : List Int → Option (α × List Int)} {b : List Int} {a0 a1 : Nat} {d0 : Bool} {xs : List α} {i n : Nat} (h : Got (rep get i) b a0 d0 xs a1 true) (hi : i ≤ n) : Got (rep get n) b a0 d0 xs a1 true := by
 refine ⟨h.1, fun _ => rfl, fun hd => .inr ⟨rfl, ?_⟩⟩
 rcases h.2.2 hd with ⟨e1, _⟩ | ⟨_, e2⟩
 ·
  cases e1
 ·
  obtain ⟨d, rfl⟩ := Nat.exists_eq_add_of_le hi
  exact rep_none get _ i e2 d
theorem Got.all {α : Type} {get : List Int → Option (α × List Int)} {b : List Int} {a0 a1 a2 : Nat} {d0 d1 d2 : Bool} {n : Int} {xs : List α} (h1 : Got rdInt b a0 d0 n a1 d1) (h2 : Got (rep get n.toNat) b a1 d1 xs a2 d2) : Got (rdAll get) b a0 d0 xs a2 d2 :=
 (Got.bind (g2 := fun (n : Int) l => rep get n.toNat l) h1 h2).congr (fun _ => rfl)
structure Rr (w0 w : World) (q : Nat) (A : Option Addr) (c : Nat) (b : List Int) (a : Nat) (d : Bool) : Prop where
 below : Below w0.heap.size w0 w
 base : w0.heap.size ≤ q
 st : w.heap[q]? = some (.cells #[.slice A b.length c, .int .i64 (a : Int), .bool d] 129 (0, 0))
 C : Kd.C (Kd.int .u8) w0 A b.length b
 cap : b.length ≤ c
 bts : Bts b
 len : b.length ≤ 262144
 at_ : a ≤ b.length
theorem Rr.qlt {w0 w : World} {q : Nat} {A : Option Addr} {c : Nat} {b : List Int} {a : Nat} {d : Bool} (h : Rr w0 w q A c b a d) : q < w.heap.size := blk_lt h.st
theorem Rr.step {w0 w w' : World} {q : Nat} {A : Option Addr} {c : Nat} {b : List Int} {a : Nat} {d : Bool} (h : Rr w0 w q A c b a d) (hb : Below w.heap.size w w') : Rr w0 w' q A c b a d :=
 ⟨below_step h.below hb, h.base, blk_below h.st hb, h.C, h.cap, h.bts, h.len, h.at_⟩
theorem Rr.far {w0 w : World} {q g i : Nat} {A : Option Addr} {c : Nat} {b : List Int} {a : Nat} {d : Bool} (h : Rr w0 w q A c b a d) (hb : w0.heap.size ≤ g) (hq : g ≠ q) (v : Value) : Rr w0 (w.setCell ⟨g, i, none⟩ v) q A c b a d :=
 ⟨below_set h.below hb, h.base, blk_far (p := ⟨g, i, none⟩) h.st (Ne.symm hq) v, h.C, h.cap, h.bts, h.len, h.at_⟩
theorem Rr.grown {w0 w w1 : World} {q : Nat} {A : Option Addr} {c : Nat} {b : List Int} {a : Nat} {d : Bool} {row : Option Nat} (h : Rr w0 w q A c b a d) (hg : w.grownBy w1 row) (hr : ∀ g, row = some g → w0.heap.size ≤ g ∧ g ≠ q) : Rr w0 w1 q A c b a d :=
 ⟨h.below.grown hg h.below.size (fun g e => (hr g e).1), h.base, (hg.block q h.qlt (fun e => by cases row with | none => cases e | some g => injection e with e; exact (hr g rfl).2 e.symm)).trans h.st, h.C, h.cap, h.bts, h.len, h.at_⟩
theorem Rr.put {w0 w : World} {q : Nat} {A : Option Addr} {c : Nat} {b : List Int} {a a' : Nat} {d d' : Bool} (h : Rr w0 w q A c b a d) (ha : a' ≤ b.length) : Rr w0 ((w.setCell ⟨q, 2, none⟩ (.bool d')).setCell ⟨q, 1, none⟩ (.int .i64 (a' : Int))) q A c b a' d' :=
 ⟨below_set (below_set h.below h.base) h.base, h.base, blk_put (blk_put h.st 2 _ rfl) 1 _ rfl, h.C, h.cap, h.bts, h.len, ha⟩
theorem Rr.mark {w0 w : World} {q : Nat} {A : Option Addr} {c : Nat} {b : List Int} {a : Nat} {d d' : Bool} (h : Rr w0 w q A c b a d) : Rr w0 (w.setCell ⟨q, 2, none⟩ (.bool d')) q A c b a d' :=
 ⟨below_set h.below h.base, h.base, blk_put h.st 2 _ rfl, h.C, h.cap, h.bts, h.len, h.at_⟩
theorem wrote_put {w w1 : World} {q : Nat} (hb : Below w.heap.size w w1) (u v : Value) : Wrote (fun k => k = q) w ((w1.setCell ⟨q, 2, none⟩ u).setCell ⟨q, 1, none⟩ v) :=
 (Wrote.set (S := fun k => k = q) (Wrote.set (S := fun k => k = q) ((Wrote.refl _ w).below hb) ⟨q, 2, none⟩ u rfl) ⟨q, 1, none⟩ v rfl)
theorem rr3 {w : World} {g t : Nat} {x y z : Value} (h : w.heap[g]? = some (.cells #[x, y, z] t (0, 0))) : (w.cell? ⟨g, 0, none⟩ = some x ∧ w.cell? ⟨g, 1, none⟩ = some y ∧ w.cell? ⟨g, 2, none⟩ = some z) ∧ w.frozen? ⟨g, 0, none⟩ = false ∧ w.frozen? ⟨g, 1, none⟩ = false ∧ w.frozen? ⟨g, 2, none⟩ = false :=
 ⟨⟨blk_cell h 0, blk_cell h 1, blk_cell h 2⟩, blk_frozen h 0, blk_frozen h 1, blk_frozen h 2⟩
theorem getU_zero {l : List Int} (h : (getU l).2.2 ≠ 0) : (getU l).1 = 0 ∧ (getU l).2.1 = 0 := by
 unfold getU at h ⊢
 split
 ·
  rename_i h1
  rw [if_pos h1] at h
  split
  ·
   rename_i h2
   rw [if_pos h2] at h
   exact absurd rfl h
  ·
   exact ⟨rfl, rfl⟩
 ·
  exact ⟨rfl, rfl⟩
theorem got_num (b : List Int) (a : Nat) (hb : Bts b) (ha : a ≤ b.length) : ∃ (K : Nat), (getU (b.drop a)).2.1 = (K : Int) ∧ a + K ≤ b.length ∧ okU (getU (b.drop a)).1 ∧ Got rdNum b a false (getU (b.drop a)).1 (a + K) ((getU (b.drop a)).2.2 != 0) ∧ (((getU (b.drop a)).2.2 != 0) = false → a < a + K) := by
 cases h : rdNum (b.drop a) with
 | none =>
  have hz := rdNum_bad h
  obtain ⟨e1, e2⟩ := getU_zero hz
  have hnb : ((getU (b.drop a)).2.2 != 0) = true := by simpa using hz
  refine ⟨0, by rw [e2]; rfl, by omega, by rw [e1]; unfold okU; decide, ⟨by omega, fun h => (by cases h), fun _ => .inr ⟨hnb, h⟩⟩, fun h' => by rw [hnb] at h'; cases h'⟩
 | some p =>
  obtain ⟨n, r⟩ := p
  obtain ⟨K, hg, hk, hd, hl, hu⟩ := rdNum_get h (hb.drop a)
  rw [hg]
  rw [List.length_drop] at hk hl
  rw [List.drop_drop] at hd
  have h2 : a + K ≤ b.length := by omega
  refine ⟨K, rfl, h2, hu, ⟨by omega, fun h => (by cases h), fun _ => .inl ⟨rfl, by rw [hd]; exact h⟩⟩, fun _ => ?_⟩
  rw [← hd, List.length_drop] at hl
  omega
set_option maxHeartbeats 16000000 in
set_option maxRecDepth 100000 in
theorem refNumber.calls (q : Nat) (A : Option Addr) (c : Nat) (b : List Int) (a : Nat) (d : Bool) (w0 w : World) (h : Rr w0 w q A c b a d) :
  Calls Tryd.prog 86 #[.pointer (some ⟨q, 0, none⟩)] w fun e w' => ∃ (n : Int) (a' : Nat) (d' : Bool), e = .returned (.int .u64 n) ∧ okU n ∧ Rr w0 w' q A c b a' d' ∧ Wrote (fun k => k = q) w w' ∧ Got rdNum b a d n a' d' ∧ (d' = false → a < a') := by
 have HR := Aside0.mk h
 obtain ⟨⟨q0, q1, q2⟩, z0, z1, z2⟩ := rr3 h.st
 cases d with
 | true =>
  clear h
  go_enter Tryd.func86, Tryd.ntmps86
  go_wp2
  go_ret
  exact ⟨0, a, true, rfl, by unfold okU; decide, HR.out, Wrote.refl _ _, ⟨Nat.le_refl _, fun h => h, fun h => by cases h⟩, fun h => by cases h⟩
 | false =>
  obtain ⟨kk, hK, haK, hu, hgot, hlt⟩ := got_num b a h.bts h.at_
  obtain ⟨y, hy⟩ : ∃ y, b.drop a = y := ⟨_, rfl⟩
  rw [hy] at hK hu hgot hlt
  obtain ⟨⟨n, k, f⟩, hg⟩ : ∃ p, getU y = p := ⟨_, rfl⟩
  have HGF := Aside0.mk (refGet_f (2 * y.length + 61) y (by rw [← hy]; exact h.bts.drop a) (by rw [← hy, List.length_drop]; have := h.len; omega) (by omega))
  rw [hg] at hK hu hgot hlt HGF
  simp only at hK
  subst hK
  obtain ⟨A', hcut, hC, hl⟩ := cut_drop_int (P := Tryd.prog) (k := .u8) 27 5 Tryd.underlying27 winfo8 A c b y a h.at_ h.cap hy
  have HY := Aside0.mk hC
  have HYL := Aside0.mk hl
  have HW := Aside0.mk (show Kd.C (Kd.int .u8) w.drew A b.length b from Kd.C_below h.C (below_step h.below (below_drew1 (Below.refl _ _))))
  have HG := Aside0.mk (And.intro haK (And.intro hu (And.intro hgot hlt)))
  have hw2 : wrap64 ((a : Int) + (kk : Int)) = ((a + kk : Nat) : Int) := by have := h.len; unfold wrap64; omega
  clear h hC hl hg haK hu hgot hlt hy
  go_enter Tryd.func86, Tryd.ntmps86
  go_wp2_with fail
  refine start_ (n := 17) (S := fun w' => w'.cell? ⟨q, 0, none⟩ = some (.slice A b.length c) ∧ w'.cell? ⟨q, 1, none⟩ = some (.int .i64 (a : Int))) (ds := []) #[false, false, false, false, false, false, false, false, false, false, false, false, false, false, false, false, false] (by kernel_rfl) rfl rfl ⟨q0, q1⟩ (fun hHeld => ?_)
  refine pure_ (i := 0) (N := some 11) (v := ?_) (a' := ?_) #[true, false, false, false, false, false, false, false, false, false, false, false, false, false, false, false, false] rfl rfl (by kernel_rfl) (fun _ _ _ h => h) (Or.inl ⟨by rfl, ?_⟩) ?_ ?_
  rotate_left
  ·
   intro w'
   go_simp
   with_reducible rfl
  rotate_left
  ·
   simp only [Act.put, List.setIfInBounds_toArray, List.set_cons_zero, List.set_cons_succ, i64_w, i32_w]
   rfl
  refine pure_ (i := 1) (N := some 12) (v := ?_) (a' := ?_) #[true, true, false, false, false, false, false, false, false, false, false, false, false, false, false, false, false] rfl rfl (by kernel_rfl) (fun _ _ _ h => h) (Or.inl ⟨by rfl, ?_⟩) ?_ ?_
  rotate_left
  ·
   intro w'
   go_simp
   with_reducible rfl
  rotate_left
  ·
   simp only [Act.put, List.setIfInBounds_toArray, List.set_cons_zero, List.set_cons_succ, i64_w, i32_w]
   rfl
  refine pure_ (i := 2) (N := some 13) (v := ?_) (a' := ?_) #[true, true, true, false, false, false, false, false, false, false, false, false, false, false, false, false, false] rfl rfl (by kernel_rfl) (fun _ _ _ h => h) (Or.inl ⟨by rfl, ?_⟩) ?_ ?_
  rotate_left
  ·
   intro w'
   go_simp
   with_reducible rfl
  rotate_left
  ·
   simp only [Act.put, List.setIfInBounds_toArray, List.set_cons_zero, List.set_cons_succ, i64_w, i32_w]
   rfl
  refine pure_ (i := 4) (N := some 15) (v := ?_) (a' := ?_) #[true, true, true, false, true, false, false, false, false, false, false, false, false, false, false, false, false] rfl rfl (by kernel_rfl) (fun _ _ _ h => h) (Or.inl ⟨by rfl, ?_⟩) ?_ ?_
  rotate_left
  ·
   intro w'
   go_simp
   with_reducible rfl
  rotate_left
  ·
   simp only [Act.put, List.setIfInBounds_toArray, List.set_cons_zero, List.set_cons_succ, i64_w, i32_w]
   rfl
  refine pure_ (i := 5) (N := some 16) (v := ?_) (a' := ?_) #[true, true, true, false, true, true, false, false, false, false, false, false, false, false, false, false, false] rfl rfl (by kernel_rfl) (fun _ _ _ h => h) (Or.inl ⟨by rfl, ?_⟩) ?_ ?_
  rotate_left
  ·
   intro w'
   go_simp
   with_reducible rfl
  rotate_left
  ·
   simp only [Act.put, List.setIfInBounds_toArray, List.set_cons_zero, List.set_cons_succ, i64_w, i32_w]
   rfl
  refine pure_ (i := 6) (N := some 17) (v := ?_) (a' := ?_) #[true, true, true, false, true, true, true, false, false, false, false, false, false, false, false, false, false] rfl rfl (by kernel_rfl) (fun _ _ _ h => h) (Or.inl ⟨by rfl, ?_⟩) ?_ ?_
  rotate_left
  ·
   intro w'
   go_simp
   with_reducible rfl
  rotate_left
  ·
   simp only [Act.put, List.setIfInBounds_toArray, List.set_cons_zero, List.set_cons_succ, i64_w, i32_w]
   rfl
  refine take_ (i := 3) (N := some 14) (v := ?_) (a' := ?_) #[true, true, true, true, true, true, true, false, false, false, false, false, false, false, false, false, false] rfl rfl (by kernel_rfl) (fun _ _ _ h => h) (Or.inl ⟨by rfl, ?_⟩) hHeld ?_ ?_
  rotate_left
  ·
   rintro w' ⟨s0, s1⟩
   go_simp
   with_reducible rfl
  rotate_left
  ·
   simp only [Act.put, List.setIfInBounds_toArray, List.set_cons_zero, List.set_cons_succ, i64_w, i32_w]
   rfl
  refine take_ (i := 7) (N := some 18) (v := ?_) (a' := ?_) #[true, true, true, true, true, true, true, true, false, false, false, false, false, false, false, false, false] rfl rfl (by kernel_rfl) (fun _ _ _ h => h) (Or.inl ⟨by rfl, ?_⟩) hHeld ?_ ?_
  rotate_left
  ·
   rintro w' ⟨s0, s1⟩
   go_simp
   with_reducible rfl
  rotate_left
  ·
   simp only [Act.put, List.setIfInBounds_toArray, List.set_cons_zero, List.set_cons_succ, i64_w, i32_w]
   rfl
  refine pure_ (i := 8) (N := some 19) (v := ?_) (a' := ?_) #[true, true, true, true, true, true, true, true, true, false, false, false, false, false, false, false, false] rfl rfl (by kernel_rfl) (fun _ _ _ h => h) (Or.inl ⟨by rfl, ?_⟩) ?_ ?_
  rotate_left
  ·
   intro w'
   go_simp
   with_reducible rfl
  rotate_left
  ·
   simp only [Act.put, List.setIfInBounds_toArray, List.set_cons_zero, List.set_cons_succ, i64_w, i32_w]
   rfl
  refine one_ (i := 9) (N := some 20) #[true, true, true, true, true, true, true, true, true, true, false, false, false, false, false, false, false] rfl rfl (by kernel_rfl) (by decide) (fun K hK => ?_)
  refine goes_ Tryd.func71 (by kernel_rfl) rfl #[.slice A' y.length (c - a)] (by rfl) rfl rfl (by simp only [List.map_toArray, List.map_cons, List.map_nil]; rfl) ?_
  with_reducible refine (louverref03_Get.calls (2 * y.length + 61) A' (c - a) y n (kk : Int) f w.drew (HY.out _ HW.out) HYL.out HGF.out).mono ?_
  rintro e w1 ⟨rfl, hb1⟩
  refine ⟨_, rfl, ?_⟩
  have hb2 := below_step (below_drew1 (Below.refl w.heap.size w)) hb1
  refine hK.out _ _ ⟨(pw_cell_below hb2 q0), (pw_cell_below hb2 q1)⟩ (fun hHeld => ?_)
  clear hK K
  refine norm_ (a' := ?_) ?_ ?_
  rotate_left
  ·
   show Act.put _ (some 20) _ = _
   simp only [Act.put, List.setIfInBounds_toArray, List.set_cons_zero, List.set_cons_succ, i64_w, i32_w]
   rfl
  refine pure_ (i := 10) (N := some 10) (v := ?_) (a' := ?_) #[true, true, true, true, true, true, true, true, true, true, true, false, false, false, false, false, false] rfl rfl (by kernel_rfl) (fun _ _ _ h => h) (Or.inl ⟨by rfl, ?_⟩) ?_ ?_
  rotate_left
  ·
   intro w'
   go_simp
   with_reducible rfl
  rotate_left
  ·
   simp only [Act.put, List.setIfInBounds_toArray, List.set_cons_zero, List.set_cons_succ, i64_w, i32_w]
   rfl
  refine pure_ (i := 11) (N := some 21) (v := ?_) (a' := ?_) #[true, true, true, true, true, true, true, true, true, true, true, true, false, false, false, false, false] rfl rfl (by kernel_rfl) (fun _ _ _ h => h) (Or.inl ⟨by rfl, ?_⟩) ?_ ?_
  rotate_left
  ·
   intro w'
   go_simp
   with_reducible rfl
  rotate_left
  ·
   simp only [Act.put, List.setIfInBounds_toArray, List.set_cons_zero, List.set_cons_succ, i64_w, i32_w]
   rfl
  refine pure_ (i := 12) (N := some 22) (v := ?_) (a' := ?_) #[true, true, true, true, true, true, true, true, true, true, true, true, true, false, false, false, false] rfl rfl (by kernel_rfl) (fun _ _ _ h => h) (Or.inl ⟨by rfl, ?_⟩) ?_ ?_
  rotate_left
  ·
   intro w'
   go_simp
   with_reducible rfl
  rotate_left
  ·
   simp only [Act.put, List.setIfInBounds_toArray, List.set_cons_zero, List.set_cons_succ, i64_w, i32_w]
   rfl
  refine pure_ (i := 13) (N := some 23) (v := ?_) (a' := ?_) #[true, true, true, true, true, true, true, true, true, true, true, true, true, true, false, false, false] rfl rfl (by kernel_rfl) (fun _ _ _ h => h) (Or.inl ⟨by rfl, ?_⟩) ?_ ?_
  rotate_left
  ·
   intro w'
   go_simp
   with_reducible rfl
  rotate_left
  ·
   simp only [Act.put, List.setIfInBounds_toArray, List.set_cons_zero, List.set_cons_succ, i64_w, i32_w]
   rfl
  refine pure_ (i := 14) (N := some 3) (v := ?_) (a' := ?_) #[true, true, true, true, true, true, true, true, true, true, true, true, true, true, true, false, false] rfl rfl (by kernel_rfl) (fun _ _ _ h => h) (Or.inl ⟨by rfl, ?_⟩) ?_ ?_
  rotate_left
  ·
   intro w'
   go_simp
   with_reducible rfl
  rotate_left
  ·
   simp only [Act.put, List.setIfInBounds_toArray, List.set_cons_zero, List.set_cons_succ, i64_w, i32_w]
   rfl
  refine pure_ (i := 15) (N := some 4) (v := ?_) (a' := ?_) #[true, true, true, true, true, true, true, true, true, true, true, true, true, true, true, true, false] rfl rfl (by kernel_rfl) (fun _ _ _ h => h) (Or.inl ⟨by rfl, ?_⟩) ?_ ?_
  rotate_left
  ·
   intro w'
   go_simp
   with_reducible rfl
  rotate_left
  ·
   simp only [Act.put, List.setIfInBounds_toArray, List.set_cons_zero, List.set_cons_succ, i64_w, i32_w]
   rfl
  refine pure_ (i := 16) (N := some 5) (v := ?_) (a' := ?_) #[true, true, true, true, true, true, true, true, true, true, true, true, true, true, true, true, true] rfl rfl (by kernel_rfl) (fun _ _ _ h => h) (Or.inl ⟨by rfl, ?_⟩) ?_ ?_
  rotate_left
  ·
   intro w'
   go_simp
   with_reducible rfl
  rotate_left
  ·
   simp only [Act.put, List.setIfInBounds_toArray, List.set_cons_zero, List.set_cons_succ, i64_w, i32_w]
   rfl
  refine done_ (by kernel_rfl) ?_
  have HR1 := Aside0.mk (HR.out.step hb2)
  have HB2 := Aside0.mk hb2
  obtain ⟨⟨p0, p1, p2⟩, y0, y1, y2⟩ := rr3 HR1.out.st
  clear q0 q1 q2 z0 z1 z2 hb1 hb2
  obtain ⟨df, hdf⟩ : ∃ df, (f != 0) = df := ⟨_, rfl⟩
  have hst2 : (w1.setCell ⟨q, 2, none⟩ (.bool df)).cell? ⟨q, 1, none⟩ = some (.int .i64 (a : Int)) := blk_cell (blk_put HR1.out.st 2 _ rfl) 1
  have hsf2 : (w1.setCell ⟨q, 2, none⟩ (.bool df)).frozen? ⟨q, 1, none⟩ = false := blk_frozen (blk_put HR1.out.st 2 _ rfl) 1
  rw [hdf] at HG
  go_wp2
  go_ret
  exact ⟨n, a + kk, df, rfl, HG.out.2.1, HR1.out.put HG.out.1, wrote_put HB2.out _ _, HG.out.2.2.1, HG.out.2.2.2⟩
theorem got_int {b : List Int} {a a' : Nat} {d d' : Bool} {n : Int} (h : Got rdNum b a d n a' d') (hn : n ≤ 9223372036854775807) : Got rdInt b a d n a' d' := by
 refine ⟨h.1, h.2.1, fun hd => ?_⟩
 rcases h.2.2 hd with ⟨e1, e2⟩ | ⟨e1, e2⟩
 ·
  exact .inl ⟨e1, by unfold rdInt; rw [e2, Option.bind_some, if_pos hn]⟩
 ·
  exact .inr ⟨e1, by unfold rdInt; rw [e2]; rfl⟩
theorem got_int_no {b : List Int} {a a' : Nat} {d d' : Bool} {n : Int} (h : Got rdNum b a d n a' d') (hn : ¬ n ≤ 9223372036854775807) : Got rdInt b a d 0 a' true := by
 refine ⟨h.1, fun _ => rfl, fun hd => .inr ⟨rfl, ?_⟩⟩
 rcases h.2.2 hd with ⟨e1, e2⟩ | ⟨e1, e2⟩
 ·
  unfold rdInt; rw [e2, Option.bind_some, if_neg hn]
 ·
  unfold rdInt; rw [e2]; rfl
set_option maxHeartbeats 16000000 in
set_option maxRecDepth 100000 in
theorem refInt.calls (q : Nat) (A : Option Addr) (c : Nat) (b : List Int) (a : Nat) (d : Bool) (w0 w : World) (h : Rr w0 w q A c b a d) :
  Calls Tryd.prog 85 #[.pointer (some ⟨q, 0, none⟩)] w fun e w' => ∃ (n : Int) (a' : Nat) (d' : Bool), e = .returned (.int .i64 n) ∧ okP n ∧ Rr w0 w' q A c b a' d' ∧ Wrote (fun k => k = q) w w' ∧ Got rdInt b a d n a' d' ∧ (d' = false → a < a') := by
 have HC := Aside0.mk (refNumber.calls q A c b a d w0 w h)
 clear h
 go_enter Tryd.func85, Tryd.ntmps85
 go_wp2_with fail
 refine HC.out.mono ?_
 rintro e w1 ⟨n, a1, d1, rfl, hu, hR, hW, hg, hl⟩
 have HR := Aside0.mk hR
 have HW := Aside0.mk hW
 obtain ⟨⟨p0, p1, p2⟩, y0, y1, y2⟩ := rr3 hR.st
 by_cases hn : n ≤ 9223372036854775807
 ·
  have HG := Aside0.mk (And.intro (got_int hg hn) (And.intro hl (And.intro (show okP n from ⟨hu.1, hn⟩) hu)))
  have hb1 : decide (n > 9223372036854775807) = false := decide_eq_false (by omega)
  have hc1 : wrap64 n = n := by have := hu.1; unfold wrap64; omega
  clear hR hW hg hl hu HC
  go_wp2
  go_ret
  exact ⟨n, a1, d1, by first | rfl | simp [hc1], HG.out.2.2.1, HR.out, HW.out, HG.out.1, HG.out.2.1⟩
 ·
  have HG := Aside0.mk (got_int_no hg hn)
  have hb1 : decide (n > 9223372036854775807) = true := decide_eq_true (by omega)
  clear hR hW hg hl hu HC
  go_wp2
  go_ret
  exact ⟨0, a1, true, rfl, by unfold okP; decide, HR.out.mark, HW.out.set _ _ rfl, HG.out, fun h => by cases h⟩
theorem linfoL9r : (Tryd.prog.info? 36).map (fun i => (i.zero, i.size, i.bytes)) = some (some (.int .u64 0), 1, 8) := by kernel_rfl
set_option maxHeartbeats 16000000 in
set_option maxRecDepth 100000 in
theorem refLabels.calls (q : Nat) (A : Option Addr) (c : Nat) (b : List Int) (a : Nat) (d : Bool) (w0 w : World) (h : Rr w0 w q A c b a d) :
  Calls Tryd.prog 84 #[.pointer (some ⟨q, 0, none⟩)] w fun e w' => ∃ (v : Value) (xs : List Int) (a' : Nat) (d' : Bool), e = .returned v ∧ Kd.R (Kd.int .u64) 36 w' w.heap.size (fun k => w.heap.size ≤ k) v xs ∧ Rr w0 w' q A c b a' d' ∧ Wrote (fun k => k = q) w w' ∧ Got (rdAll rdNum) b a d xs a' d' ∧ (d' = false → a < a') := by
 have HC := Aside0.mk (refInt.calls q A c b a d w0 w h)
 have HQL := Aside0.mk h.qlt
 have HS0 := Aside0.mk h.below.size
 have HBL := Aside0.mk h.len
 clear h
 go_enter Tryd.func84, Tryd.ntmps84
 go_wp2_with fail
 refine HC.out.mono ?_
 rintro e w2 ⟨n, a1, d1, rfl, hn, hR, hW, hg, hl⟩
 have HN := Aside0.mk hn
 have HR := Aside0.mk hR
 have HW := Aside0.mk hW
 have HG := Aside0.mk hg
 have HLT := Aside0.mk hl
 clear hn hR hW hg hl HC
 go_wp2_with fail
 go_loopg [3, 5, 6] (n.toNat + 1) (fun kq v3 v5 v6 w' => ∃ (i : Nat) (xs : List Int) (a2 : Nat) (d2 : Bool), v5 = .int .i64 (i : Int) ∧ Aside0 (i + kq = n.toNat + 1) ∧ Aside0 (1 ≤ kq) ∧ Aside0 (Rr w0 w' q A c b a2 d2) ∧ Aside0 (Got (rep rdNum i) b a1 d1 xs a2 d2) ∧ Aside0 (d2 = false → xs.length ≤ a2 ∧ a < a2) ∧ Aside0 (Kd.R (Kd.int .u64) 36 w' w.heap.size (fun k => w.heap.size ≤ k) v3 xs) ∧ Aside0 (Wrote (fun k => k = q) w w'))
 case atStart => exact ⟨0, [], a1, d1, rfl, ⟨by omega⟩, ⟨by omega⟩, HR, ⟨Got.rep0 _ _ _ _⟩, ⟨fun h => ⟨Nat.zero_le _, HLT.out h⟩⟩, ⟨Kd.R_nil _ _ _ _ _⟩, HW⟩
 case round =>
  clear HR HW
  obtain ⟨i, xs, a2, d2, rfl, HI, HI1, HR, HP, HX, HV, HW⟩ := hrel
  obtain ⟨A6, c6, e6⟩ := Kd.R_slice HV.out
  subst e6
  obtain ⟨⟨p0, p1, p2⟩, _⟩ := rr3 HR.out.st
  cases gk with
  | zero => exact absurd HI1.out (by omega)
  | succ k1 =>
   by_cases ci : i < n.toNat
   ·
    have cib : decide ((i : Int) < n) = true := decide_eq_true (by omega)
    cases d2 with
    | false =>
     have hx := HX.out rfl
     have hle := HR.out.at_
     have hbl := HBL.out
     have HXL := Aside0.mk (show xs.length ≤ 262144 by omega)
     have hw2 : wrap64 ((i : Int) + 1) = (i : Int) + 1 := by have := HN.out.2; unfold wrap64; omega
     have HC2 := Aside0.mk (refNumber.calls q A c b a2 false w0 wr HR.out)
     go_wp2_with fail
     refine HC2.out.mono ?_
     rintro e w9 ⟨x, a3, d3, rfl, hu, hR2, hW2, hg2, hl2⟩
     have hqr := HR.out.qlt
     have HV9 := Aside0.mk (Kd.R_step HV.out (fun k hk hlt => hW2.block k hlt (by have := HQL.out; omega)))
     have HW9 := Aside0.mk (HW.out.then hW2)
     have HR9 := Aside0.mk hR2
     have HG9 := Aside0.mk (HP.out.next hg2)
     have HX9 := Aside0.mk (show d3 = false → (xs ++ [x]).length ≤ a3 ∧ a < a3 from fun h => by have := hl2 h; rw [List.length_append]; simp only [List.length_cons, List.length_nil]; omega)
     clear hR2 hW2 HC2 hqr hu hg2 hl2 hx hle hbl p0 p1 p2
     go_wp2_with (first | ((with_reducible refine gate_builtin (b := .append) (xs := #[.tmp 23, .tmp 25]) rfl ?_); at_builtin; refine Kd.R_append (Kd.int .u64) (w0 := w9) w.heap.size rfl (.tmp 23) (.tmp 25) 22 36 (.int .u64 0) 8 rfl Tryd.underlying22 linfoL9r rfl (by decide) (by omega) (.slice A6 xs.length c6) xs x [.int .u64 x] (fun k => w.heap.size ≤ k) (fun _ => False) rfl rfl ?aP (fun _ hk => hk.elim) ?aF ?aO ?aB ?aS ?aL ?_; (case aP => exact rfl); (case aB => exact Below.refl _ _); (case aF => exact (fun k hk => Nat.le_trans HW9.out.size hk)); (case aO => exact HV9.out); (case aS => exact HW9.out.size); (case aL => have := HXL.out; omega); intro v1 w1 ho hb hg hat; have HV1 := Aside0.mk ho; have HWN := Aside0.mk (HW9.out.grown hg (fun g e => .inr (HV9.out.1 g e))); have HRN := Aside0.mk (HR9.out.grown hg (fun g e => by have h1 : w.heap.size ≤ g := HV9.out.1 g e; have h2 := HQL.out; have h3 := HS0.out; exact ⟨by omega, by omega⟩)); clear ho hb hg hat))
     go_roundg k1
     case measure => omega
     case rel => exact ⟨i + 1, xs ++ [x], a3, d3, by rw [hw2]; rfl, ⟨by have := HI.out; omega⟩, ⟨by have := HI.out; omega⟩, HRN, HG9, HX9, HV1, HWN⟩
    | true =>
     go_wp2
     go_ret
     exact ⟨_, xs, a2, true, rfl, HV.out, HR.out, HW.out, HG.out.all (HP.out.stop (by omega)), fun h => by cases h⟩
   ·
    have cib : decide ((i : Int) < n) = false := decide_eq_false (by omega)
    have HI2 := Aside0.mk (show i = n.toNat by have := HI.out; omega)
    go_wp2
    go_ret
    exact ⟨_, xs, a2, d2, rfl, HV.out, HR.out, HW.out, HG.out.all (by rw [← HI2.out]; exact HP.out), fun h => (HX.out h).2⟩
end Go.Proofs.YtgpdaihfjnihhaaDoor.PJ
