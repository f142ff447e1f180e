/- Images: what is written, what is read, as lists (no program). -/
import Derived.Test.YtgpdaihfjnihhaaDoorQPJx0
import Derived.Test.YtgpdaihfjnihhaaDoorQLebAll
import Derived.Test.YtgpdaihfjnihhaaDoorQCodePutI
namespace Go.Proofs.YtgpdaihfjnihhaaDoor.PJ
open Go.RowKit Go.Proofs.YtgpdaihfjnihhaaDoorW.PrintWords Go.Proofs.YtgpdaihfjnihhaaDoorW.PrintLast Go.Proofs.YtgpdaihfjnihhaaDoorW.PrintMore Go.Proofs.YtgpdaihfjnihhaaDoor.LebPure Go.Proofs.YtgpdaihfjnihhaaDoor.LebForm Go.Proofs.YtgpdaihfjnihhaaDoor.B64
set_option linter.unusedVariables false
set_option linter.unusedSimpArgs false
def cNum (n : Int) : List Int := form (n % 18446744073709551616).toNat
def cLabels (l : List Int) : List (List Int) := cNum l.length :: l.map cNum
def cArr (a : S38) : List (List Int) := [cNum a.f0, cNum a.f1]
def cInstr (i : S44) : List Int := if mayOf i.f0 i.f1 = true then putOf i.f0 i.f1 else []
def cFn (f : S41) : List (List Int) := cNum f.f0 :: (cLabels f.f1 ++ (cLabels f.f2 ++ (cNum f.f3 :: cNum f.f4 :: cNum f.f5.length :: f.f5.map cInstr)))
def cArrs (l : List S38) : List (List Int) := cNum l.length :: l.flatMap cArr
def cFns (l : List S41) : List (List Int) := cNum l.length :: l.flatMap cFn
def cMod (gs : List Int) (arr : List S38) (chs : List Int) (fns : List S41) : List (List Int) := cLabels gs ++ (cArrs arr ++ (cLabels chs ++ cFns fns))
def emit1 (b c : List Int) : List Int := if b.length ≤ 262144 then b ++ c else b
def emit (b : List Int) (cs : List (List Int)) : List Int := cs.foldl emit1 b
theorem emit_nil (b : List Int) : emit b [] = b := rfl
theorem emit_cons (b c : List Int) (cs : List (List Int)) : emit b (c :: cs) = emit (emit1 b c) cs := rfl
theorem emit_append (b : List Int) (cs ds : List (List Int)) : emit b (cs ++ ds) = emit (emit b cs) ds := List.foldl_append
theorem emit_full (cs : List (List Int)) : ∀ b, (b ++ cs.flatten).length ≤ 262144 → emit b cs = b ++ cs.flatten := by
 induction cs with
 | nil => intro b _; rw [emit_nil]; simp
 | cons c cs ih =>
  intro b h
  rw [List.flatten_cons, ← List.append_assoc] at h ⊢
  have hb : b.length ≤ 262144 := by rw [List.append_assoc, List.length_append] at h; omega
  rw [emit_cons, show emit1 b c = b ++ c from if_pos hb]
  exact ih _ h
theorem emit_ge (cs : List (List Int)) : ∀ b, b.length ≤ (emit b cs).length := by
 induction cs with
 | nil => intro b; exact Nat.le_refl _
 | cons c cs ih =>
  intro b
  rw [emit_cons]
  refine Nat.le_trans ?_ (ih _)
  unfold emit1
  split
  ·
   rw [List.length_append]; omega
  ·
   exact Nat.le_refl _
theorem emit_long (N : Nat) (hN : N ≤ 262144) (cs : List (List Int)) : ∀ b, N < (b ++ cs.flatten).length → N < (emit b cs).length := by
 induction cs with
 | nil => intro b h; simpa [emit_nil] using h
 | cons c cs ih =>
  intro b h
  rw [emit_cons]
  by_cases hb : b.length ≤ 262144
  ·
   rw [show emit1 b c = b ++ c from if_pos hb]
   rw [List.flatten_cons, ← List.append_assoc] at h
   exact ih _ h
  ·
   rw [show emit1 b c = b from if_neg hb]
   exact Nat.lt_of_lt_of_le (by omega) (emit_ge cs b)
def magicL : List Int := [76, 86, 82, 1]
def badA (a : S38) : Bool := decide (a.f0 < 0)
def badI (i : S44) : Bool := !mayOf i.f0 i.f1
def badF (f : S41) : Bool := decide (f.f3 < 0) || (decide (f.f4 < 0) || f.f5.any badI)
def badM (arr : List S38) (fns : List S41) : Bool := arr.any badA || fns.any badF
def step1 (n b : Int) : Int := IntKind.u64.wrap (Go.bits .xor .u64 n b * 1099511628211)
def sumL (l : List Int) : Int := l.foldl step1 14695981039346656037
def eightL (n : Int) : List Int := (List.range 8).map fun i => n / 2 ^ (56 - 8 * i) % 256
theorem eightL_length (n : Int) : (eightL n).length = 8 := by simp [eightL]
def fullM (gs : List Int) (arr : List S38) (chs : List Int) (fns : List S41) : List Int := magicL ++ (cMod gs arr chs fns).flatten
def writeM (gs : List Int) (arr : List S38) (chs : List Int) (fns : List S41) : List Int × Int :=
 if badM arr fns = true then ([], 1) else if 262144 < (fullM gs arr chs fns).length + 8 then ([], 3) else (fullM gs arr chs fns ++ eightL (sumL (fullM gs arr chs fns)), 0)
def rdNum (l : List Int) : Option (Int × List Int) := if (getU l).2.2 = 0 then some ((getU l).1, l.drop (getU l).2.1.toNat) else none
def rdInt (l : List Int) : Option (Int × List Int) := (rdNum l).bind fun p => if p.1 ≤ 9223372036854775807 then some p else none
def rep {α : Type} (get : List Int → Option (α × List Int)) : Nat → List Int → Option (List α × List Int)
 | 0, l => some ([], l)
 | n + 1, l => (get l).bind fun p => (rep get n p.2).map fun q => (p.1 :: q.1, q.2)
def rdAll {α : Type} (get : List Int → Option (α × List Int)) (l : List Int) : Option (List α × List Int) := (rdInt l).bind fun p => rep get p.1.toNat p.2
def cgL (l : List Int) : Int × Int × Int × Int := codeGet l (getU l.tail) (getS l.tail)
def rdInstr (l : List Int) : Option (S44 × List Int) := if (cgL l).2.2.2 = 0 then some (⟨(cgL l).1, (cgL l).2.1⟩, l.drop (cgL l).2.2.1.toNat) else none
def rdArr (l : List Int) : Option (S38 × List Int) := (rdInt l).bind fun p => (rdNum p.2).map fun q => (⟨p.1, q.1⟩, q.2)
def rdFn (l : List Int) : Option (S41 × List Int) :=
 (rdNum l).bind fun a => (rdAll rdNum a.2).bind fun b => (rdAll rdNum b.2).bind fun c => (rdInt c.2).bind fun d => (rdInt d.2).bind fun e => (rdAll rdInstr e.2).map fun f => (⟨a.1, b.1, c.1, d.1, e.1, f.1⟩, f.2)
abbrev ModL : Type := List Int × List S38 × List Int × List S41
def rdMod (l : List Int) : Option (ModL × List Int) :=
 (rdAll rdNum l).bind fun a => (rdAll rdArr a.2).bind fun b => (rdAll rdNum b.2).bind fun c => (rdAll rdFn c.2).map fun d => ((a.1, b.1, c.1, d.1), d.2)
def readM (data : List Int) : ModL × Int :=
 if 262144 < data.length then (([], [], [], []), 3)
 else if data.length < 12 ∨ data.take 4 ≠ magicL then (([], [], [], []), 120)
 else if data.drop (data.length - 8) ≠ eightL (sumL (data.take (data.length - 8))) then (([], [], [], []), 121)
 else match rdMod ((data.take (data.length - 8)).drop 4) with
  | some (m, []) => (m, 0)
  | _ => (([], [], [], []), 120)
def okU (n : Int) : Prop := 0 ≤ n ∧ n ≤ 18446744073709551615
def okP (n : Int) : Prop := 0 ≤ n ∧ n ≤ 9223372036854775807
def okIns (i : S44) : Prop := mayOf i.f0 i.f1 = true ∧ -9223372036854775808 ≤ i.f1 ∧ i.f1 ≤ 9223372036854775807
def okArr (a : S38) : Prop := okP a.f0 ∧ okU a.f1
def okLs (l : List Int) : Prop := l.length ≤ 9223372036854775807 ∧ ∀ x ∈ l, okU x
def okFn (f : S41) : Prop := okU f.f0 ∧ okLs f.f1 ∧ okLs f.f2 ∧ okP f.f3 ∧ okP f.f4 ∧ f.f5.length ≤ 9223372036854775807 ∧ ∀ x ∈ f.f5, okIns x
def okMod (m : ModL) : Prop := okLs m.1 ∧ (m.2.1.length ≤ 9223372036854775807 ∧ ∀ x ∈ m.2.1, okArr x) ∧ okLs m.2.2.1 ∧ (m.2.2.2.length ≤ 9223372036854775807 ∧ ∀ x ∈ m.2.2.2, okFn x)
theorem cNum_small {n : Int} (h : okU n) : cNum n = form n.toNat := by
 unfold cNum
 unfold okU at h
 rw [show n % 18446744073709551616 = n by omega]
theorem okP.u {n : Int} (h : okP n) : okU n := by unfold okP at h; unfold okU; omega
theorem map_flat {α β : Type} (f : α → β) (l : List α) : l.map f = l.flatMap (fun x => [f x]) := by
 induction l with
 | nil => rfl
 | cons x l ih => rw [List.map_cons, List.flatMap_cons, ih]; rfl
theorem rdNum_back {l : List Int} {n : Int} {r : List Int} (h : rdNum l = some (n, r)) : okU n ∧ l = cNum n ++ r ∧ cNum n ≠ [] := by
 unfold rdNum at h
 split at h
 ·
  rename_i h0
  obtain ⟨K, u, hg, hu, hf, hk⟩ := getU_back l h0
  rw [hg] at h
  simp only [Int.toNat_natCast, Option.some.injEq, Prod.mk.injEq] at h
  obtain ⟨rfl, rfl⟩ := h
  have hok : okU (u : Int) := ⟨by omega, by omega⟩
  refine ⟨hok, ?_, ?_⟩
  ·
   rw [cNum_small hok, Int.toNat_natCast, hf, List.take_append_drop]
  ·
   rw [cNum_small hok, Int.toNat_natCast]
   intro he
   have := ulen_pos u
   rw [← form_length, he] at this
   simp at this
 ·
  cases h
theorem rdInt_back {l : List Int} {n : Int} {r : List Int} (h : rdInt l = some (n, r)) : okP n ∧ l = cNum n ++ r ∧ cNum n ≠ [] := by
 unfold rdInt at h
 obtain ⟨p, hp, h⟩ := Option.bind_eq_some_iff.1 h
 split at h
 ·
  rename_i h1
  injection h with h
  subst h
  obtain ⟨h2, h3, h4⟩ := rdNum_back hp
  exact ⟨⟨h2.1, h1⟩, h3, h4⟩
 ·
  cases h
theorem rep_back {α : Type} (get : List Int → Option (α × List Int)) (put : α → List (List Int)) (ok : α → Prop) (hg : ∀ l x r, get l = some (x, r) → ok x ∧ l = (put x).flatten ++ r) :
  ∀ (n : Nat) (l : List Int) (xs : List α) (r : List Int), rep get n l = some (xs, r) → xs.length = n ∧ (∀ x ∈ xs, ok x) ∧ l = (xs.flatMap put).flatten ++ r := by
 intro n
 induction n with
 | zero =>
  intro l xs r h
  injection h with h
  injection h with h1 h2
  subst h1 h2
  exact ⟨rfl, fun x hx => (by cases hx), rfl⟩
 | succ n ih =>
  intro l xs r h
  rw [rep] at h
  obtain ⟨p, hp, h⟩ := Option.bind_eq_some_iff.1 h
  obtain ⟨q, hq, h⟩ := Option.map_eq_some_iff.1 h
  injection h with h1 h2
  obtain ⟨o1, e1⟩ := hg l p.1 p.2 hp
  obtain ⟨l2, o2, e2⟩ := ih p.2 q.1 q.2 hq
  subst h1 h2
  refine ⟨by rw [List.length_cons, l2], fun x hx => ?_, ?_⟩
  ·
   rcases List.mem_cons.1 hx with rfl | hx
   ·
    exact o1
   ·
    exact o2 x hx
  ·
   rw [List.flatMap_cons, List.flatten_append, List.append_assoc, ← e2]
   exact e1
theorem rdAll_back {α : Type} (get : List Int → Option (α × List Int)) (put : α → List (List Int)) (ok : α → Prop) (hg : ∀ l x r, get l = some (x, r) → ok x ∧ l = (put x).flatten ++ r)
  {l : List Int} {xs : List α} {r : List Int} (h : rdAll get l = some (xs, r)) : xs.length ≤ 9223372036854775807 ∧ (∀ x ∈ xs, ok x) ∧ l = (cNum xs.length :: xs.flatMap put).flatten ++ r := by
 unfold rdAll at h
 obtain ⟨p, hp, h⟩ := Option.bind_eq_some_iff.1 h
 obtain ⟨h1, h2, _⟩ := rdInt_back (n := p.1) (r := p.2) hp
 obtain ⟨h3, h4, h5⟩ := rep_back get put ok hg _ _ _ _ h
 have h6 : ((xs.length : Nat) : Int) = p.1 := by unfold okP at h1; omega
 refine ⟨by unfold okP at h1; omega, h4, ?_⟩
 rw [List.flatten_cons, List.append_assoc, ← h5, h6]
 exact h2
theorem rdLabels_back {l xs r : List Int} (h : rdAll rdNum l = some (xs, r)) : okLs xs ∧ l = (cLabels xs).flatten ++ r := by
 obtain ⟨h1, h2, h3⟩ := rdAll_back rdNum (fun x => [cNum x]) okU (fun l x r h => ⟨(rdNum_back h).1, by rw [List.flatten_singleton]; exact (rdNum_back h).2.1⟩) h
 exact ⟨⟨h1, h2⟩, by unfold cLabels; rw [map_flat]; exact h3⟩
theorem get_backL (l : List Int) (hb : Bts l) (hl : l.length ≤ 1000000) : ∃ ko ka m f, codeGet l (getU l.tail) (getS l.tail) = (ko, ka, m, f) ∧ (f ≠ 0 ∨ f = 0 ∧ ∃ M : Nat, m = (M : Int) ∧ mayOf ko ka = true ∧ (-9223372036854775808 ≤ ka ∧ ka ≤ 9223372036854775807) ∧ M ≤ l.length ∧ l.take M = putOf ko ka) := by
 cases l with
 | nil => exact ⟨0, 0, 0, 30, rfl, Or.inl (by decide)⟩
 | cons b t =>
  rw [codeGet_cons, List.tail_cons]
  rw [List.length_cons] at hl
  by_cases hv : validOp b = true
  ·
   rw [if_pos hv]
   by_cases he : b = 32
   ·
    subst he
    rw [if_pos rfl]
    by_cases hz : (getS t).2.2 = 0
    ·
     obtain ⟨K, u, hg, hu, hf, hk⟩ := getS_back t hz
     rw [hg]
     refine ⟨32, u, wrap64 ((K : Int) + 1), 0, rfl, Or.inr ⟨rfl, K + 1, ?_, ?_, hu, ?_, ?_⟩⟩
     ·
      rw [w64s (by omega) (by omega)]; omega
     ·
      exact may_of hv (fun _ => Or.inl rfl) (fun h => absurd h (by decide))
     ·
      rw [List.length_cons]; omega
     ·
      rw [List.take_succ_cons, ← hf]; rfl
    ·
     refine ⟨0, 0, 0, (getS t).2.2, ?_, Or.inl hz⟩
     unfold instrErr
     simp only [Bool.false_eq_true, and_false, if_false]
     rw [if_neg hz]
   ·
    rw [if_neg he]
    by_cases ho : operandOp b = true
    ·
     rw [if_pos ho]
     by_cases hz : (getU t).2.2 = 0
     ·
      obtain ⟨K, u, hg, hu, hf, hk⟩ := getU_back t hz
      rw [hg]
      by_cases hn : wrap64 (u : Int) < 0
      ·
       refine ⟨0, 0, 0, 100, ?_, Or.inl (by decide)⟩
       unfold instrErr
       simp only [decide_eq_true hn, and_self, if_true]
       rfl
      ·
       have hu' : u < 2 ^ 63 := by unfold wrap64 at hn; omega
       have hw : wrap64 (u : Int) = u := w64s (by omega) (by omega)
       refine ⟨b, (u : Int), wrap64 ((K : Int) + 1), 0, ?_, Or.inr ⟨rfl, K + 1, ?_, ?_, by omega, ?_, ?_⟩⟩
       ·
        unfold instrErr
        simp only [hw, decide_eq_false (show ¬ ((u : Int) < 0) by omega), Bool.false_eq_true, and_false, if_false, if_true]
       ·
        rw [w64s (by omega) (by omega)]; omega
       ·
        exact may_of hv (fun _ => Or.inr (by omega)) (fun h => by rw [ho] at h; cases h)
       ·
        rw [List.length_cons]; omega
       ·
        rw [List.take_succ_cons, ← hf]; simp [putOf, he, ho]
     ·
      refine ⟨0, 0, 0, (getU t).2.2, ?_, Or.inl hz⟩
      unfold instrErr
      simp only [hz, false_and, if_false]
    ·
     rw [if_neg ho]
     refine ⟨b, 0, 1, 0, rfl, Or.inr ⟨rfl, 1, rfl, ?_, by decide, ?_, ?_⟩⟩
     ·
      exact may_of hv (fun h => absurd h ho) (fun _ => rfl)
     ·
      rw [List.length_cons]; omega
     ·
      simp [putOf, he, ho]
  ·
   rw [if_neg hv]
   exact ⟨0, 0, 0, 100, rfl, Or.inl (by decide)⟩
theorem putOf_ne (op a : Int) : putOf op a ≠ [] := by unfold putOf; simp
theorem rdInstr_back {l : List Int} (hb : Bts l) (hl : l.length ≤ 1000000) {i : S44} {r : List Int} (h : rdInstr l = some (i, r)) : okIns i ∧ l = cInstr i ++ r ∧ cInstr i ≠ [] := by
 obtain ⟨ko, ka, m, f, hg, ho⟩ := get_backL l hb hl
 unfold rdInstr cgL at h
 rw [hg] at h
 simp only at h
 split at h
 ·
  rename_i h0
  rcases ho with h1 | ⟨_, M, rfl, hm, hr, hk, ht⟩
  ·
   exact absurd h0 h1
  ·
   injection h with h
   injection h with h1 h2
   subst h1
   refine ⟨⟨hm, hr⟩, ?_, ?_⟩
   ·
    unfold cInstr
    rw [if_pos hm, ← ht, ← h2, Int.toNat_natCast, List.take_append_drop]
   ·
    unfold cInstr
    rw [if_pos hm]
    exact putOf_ne _ _
 ·
  cases h
theorem rdArr_back {l : List Int} {a : S38} {r : List Int} (h : rdArr l = some (a, r)) : okArr a ∧ l = (cArr a).flatten ++ r := by
 unfold rdArr at h
 obtain ⟨p, hp, h⟩ := Option.bind_eq_some_iff.1 h
 obtain ⟨q, hq, h⟩ := Option.map_eq_some_iff.1 h
 injection h with h1 h2
 subst h1 h2
 obtain ⟨o1, e1, _⟩ := rdInt_back (n := p.1) (r := p.2) hp
 obtain ⟨o2, e2, _⟩ := rdNum_back (n := q.1) (r := q.2) hq
 refine ⟨⟨o1, o2⟩, ?_⟩
 unfold cArr
 rw [List.flatten_cons, List.flatten_singleton, List.append_assoc, ← e2]
 exact e1
theorem rep_backB {α : Type} (get : List Int → Option (α × List Int)) (put : α → List (List Int)) (ok : α → Prop) (hg : ∀ l x r, Bts l → l.length ≤ 1000000 → get l = some (x, r) → ok x ∧ l = (put x).flatten ++ r) :
  ∀ (n : Nat) (l : List Int) (xs : List α) (r : List Int), Bts l → l.length ≤ 1000000 → rep get n l = some (xs, r) → xs.length = n ∧ (∀ x ∈ xs, ok x) ∧ l = (xs.flatMap put).flatten ++ r := by
 intro n
 induction n with
 | zero =>
  intro l xs r _ _ h
  injection h with h
  injection h with h1 h2
  subst h1 h2
  exact ⟨rfl, fun x hx => (by cases hx), rfl⟩
 | succ n ih =>
  intro l xs r hb hl h
  rw [rep] at h
  obtain ⟨p, hp, h⟩ := Option.bind_eq_some_iff.1 h
  obtain ⟨q, hq, h⟩ := Option.map_eq_some_iff.1 h
  injection h with h1 h2
  obtain ⟨o1, e1⟩ := hg l p.1 p.2 hb hl hp
  have hb2 : Bts p.2 := fun x hx => hb x (by rw [e1]; exact List.mem_append_right _ hx)
  have hl2 : p.2.length ≤ 1000000 := by rw [e1, List.length_append] at hl; omega
  obtain ⟨l2, o2, e2⟩ := ih p.2 q.1 q.2 hb2 hl2 hq
  subst h1 h2
  refine ⟨by rw [List.length_cons, l2], fun x hx => ?_, ?_⟩
  ·
   rcases List.mem_cons.1 hx with rfl | hx
   ·
    exact o1
   ·
    exact o2 x hx
  ·
   rw [List.flatMap_cons, List.flatten_append, List.append_assoc, ← e2]
   exact e1
theorem rdAll_backB {α : Type} (get : List Int → Option (α × List Int)) (put : α → List (List Int)) (ok : α → Prop) (hg : ∀ l x r, Bts l → l.length ≤ 1000000 → get l = some (x, r) → ok x ∧ l = (put x).flatten ++ r)
  {l : List Int} {xs : List α} {r : List Int} (hb : Bts l) (hl : l.length ≤ 1000000) (h : rdAll get l = some (xs, r)) : xs.length ≤ 9223372036854775807 ∧ (∀ x ∈ xs, ok x) ∧ l = (cNum xs.length :: xs.flatMap put).flatten ++ r := by
 unfold rdAll at h
 obtain ⟨p, hp, h⟩ := Option.bind_eq_some_iff.1 h
 obtain ⟨h1, h2, _⟩ := rdInt_back (n := p.1) (r := p.2) hp
 have hb2 : Bts p.2 := fun x hx => hb x (by rw [h2]; exact List.mem_append_right _ hx)
 have hl2 : p.2.length ≤ 1000000 := by rw [h2, List.length_append] at hl; omega
 obtain ⟨h3, h4, h5⟩ := rep_backB get put ok hg _ _ _ _ hb2 hl2 h
 have h6 : ((xs.length : Nat) : Int) = p.1 := by unfold okP at h1; omega
 refine ⟨by unfold okP at h1; omega, h4, ?_⟩
 rw [List.flatten_cons, List.append_assoc, ← h5, h6]
 exact h2
theorem bts_of {l a b : List Int} (hb : Bts l) (e : l = a ++ b) : Bts b := fun x hx => hb x (by rw [e]; exact List.mem_append_right _ hx)
theorem len_of {l a b : List Int} (hl : l.length ≤ 1000000) (e : l = a ++ b) : b.length ≤ 1000000 := by rw [e, List.length_append] at hl; omega
theorem rdFn_back {l : List Int} (hb : Bts l) (hl : l.length ≤ 1000000) {f : S41} {r : List Int} (h : rdFn l = some (f, r)) : okFn f ∧ l = (cFn f).flatten ++ r := by
 unfold rdFn at h
 obtain ⟨a, ha, h⟩ := Option.bind_eq_some_iff.1 h
 obtain ⟨b, hb', h⟩ := Option.bind_eq_some_iff.1 h
 obtain ⟨c, hc, h⟩ := Option.bind_eq_some_iff.1 h
 obtain ⟨d, hd, h⟩ := Option.bind_eq_some_iff.1 h
 obtain ⟨e, he, h⟩ := Option.bind_eq_some_iff.1 h
 obtain ⟨g, hg, h⟩ := Option.map_eq_some_iff.1 h
 injection h with h1 h2
 subst h1 h2
 obtain ⟨o1, e1, _⟩ := rdNum_back (n := a.1) (r := a.2) ha
 obtain ⟨o2, e2⟩ := rdLabels_back (xs := b.1) (r := b.2) hb'
 obtain ⟨o3, e3⟩ := rdLabels_back (xs := c.1) (r := c.2) hc
 obtain ⟨o4, e4, _⟩ := rdInt_back (n := d.1) (r := d.2) hd
 obtain ⟨o5, e5, _⟩ := rdInt_back (n := e.1) (r := e.2) he
 have b5 := bts_of (bts_of (bts_of (bts_of (bts_of hb e1) e2) e3) e4) e5
 have l5 := len_of (len_of (len_of (len_of (len_of hl e1) e2) e3) e4) e5
 obtain ⟨o6, o7, e6⟩ := rdAll_backB rdInstr (fun x => [cInstr x]) okIns (fun l x r hb hl h => ⟨(rdInstr_back hb hl h).1, by rw [List.flatten_singleton]; exact (rdInstr_back hb hl h).2.1⟩) (xs := g.1) (r := g.2) b5 l5 hg
 refine ⟨⟨o1, o2, o3, o4, o5, o6, o7⟩, ?_⟩
 unfold cFn
 rw [map_flat, List.flatten_cons, List.append_assoc, List.flatten_append, List.append_assoc, List.flatten_append, List.append_assoc, List.flatten_cons, List.append_assoc, List.flatten_cons, List.append_assoc, ← e6, ← e5, ← e4, ← e3, ← e2]
 exact e1
theorem rdMod_back {l : List Int} (hb : Bts l) (hl : l.length ≤ 1000000) {m : ModL} {r : List Int} (h : rdMod l = some (m, r)) : okMod m ∧ l = (cMod m.1 m.2.1 m.2.2.1 m.2.2.2).flatten ++ r := by
 unfold rdMod at h
 obtain ⟨a, ha, h⟩ := Option.bind_eq_some_iff.1 h
 obtain ⟨b, hb', h⟩ := Option.bind_eq_some_iff.1 h
 obtain ⟨c, hc, h⟩ := Option.bind_eq_some_iff.1 h
 obtain ⟨g, hg, h⟩ := Option.map_eq_some_iff.1 h
 injection h with h1 h2
 subst h1 h2
 obtain ⟨o1, e1⟩ := rdLabels_back (xs := a.1) (r := a.2) ha
 obtain ⟨o2, o3, e2⟩ := rdAll_back rdArr cArr okArr (fun l x r h => rdArr_back h) (xs := b.1) (r := b.2) hb'
 obtain ⟨o4, e3⟩ := rdLabels_back (xs := c.1) (r := c.2) hc
 obtain ⟨o5, o6, e4⟩ := rdAll_backB rdFn cFn okFn (fun l x r hb hl h => rdFn_back hb hl h) (xs := g.1) (r := g.2) (bts_of (bts_of (bts_of hb e1) e2) e3) (len_of (len_of (len_of hl e1) e2) e3) hg
 refine ⟨⟨o1, ⟨o2, o3⟩, o4, ⟨o5, o6⟩⟩, ?_⟩
 unfold cMod cArrs cFns
 rw [List.flatten_append, List.append_assoc, List.flatten_append, List.append_assoc, List.flatten_append, List.append_assoc, ← e4, ← e3, ← e2]
 exact e1
end Go.Proofs.YtgpdaihfjnihhaaDoor.PJ
