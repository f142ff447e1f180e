/- Modules that were handed out: their rows' blocks; how long what is read may be. -/
import Derived.Test.YtgpdaihfjnihhaaDoorQPJx0
import Derived.Test.YtgpdaihfjnihhaaDoorQHandAwake12
import Derived.Test.YtgpdaihfjnihhaaDoorQHandApartL
import Derived.Test.YtgpdaihfjnihhaaDoorQHandApartK
import Derived.Test.YtgpdaihfjnihhaaDoorQImageLaw
namespace Go.Proofs.YtgpdaihfjnihhaaDoor.PJ
open Go.RowKit Go.Proofs.YtgpdaihfjnihhaaDoorW.PrintWords Go.Proofs.YtgpdaihfjnihhaaDoorW.PrintLast Go.Proofs.YtgpdaihfjnihhaaDoorW.PrintMore Go.Proofs.YtgpdaihfjnihhaaDoor.LebPure Go.Proofs.YtgpdaihfjnihhaaDoor.LebForm Go.Proofs.YtgpdaihfjnihhaaDoor.B64
set_option linter.unusedSimpArgs false
set_option linter.unusedVariables false
theorem chunks_le : ∀ (cs : List (List Int)), (∀ c ∈ cs, c ≠ []) → cs.length ≤ cs.flatten.length
 | [], _ => Nat.le_refl _
 | c :: cs, h => by
  have h1 := chunks_le cs (fun x hx => h x (List.mem_cons_of_mem _ hx))
  have h2 : 0 < c.length := List.length_pos_iff.2 (h c (List.mem_cons_self ..))
  rw [List.flatten_cons, List.length_append, List.length_cons]
  omega
theorem cNum_ne (n : Int) : cNum n ≠ [] := by
 unfold cNum
 intro h
 rw [form] at h
 split at h <;> cases h
theorem cLabels_ne (l : List Int) : ∀ c ∈ cLabels l, c ≠ [] := fun c hc => by
 rcases List.mem_cons.1 hc with h | h
 ·
  rw [h]; exact cNum_ne _
 ·
  obtain ⟨x, _, rfl⟩ := List.mem_map.1 h
  exact cNum_ne _
theorem cInstr_ne {i : S44} (h : okIns i) : cInstr i ≠ [] := by
 unfold cInstr
 rw [if_pos h.1]
 exact putOf_ne _ _
theorem cFn_ne {f : S41} (h : okFn f) : ∀ c ∈ cFn f, c ≠ [] := fun c hc => by
 obtain ⟨_, _, _, _, _, _, hi⟩ := h
 unfold cFn at hc
 simp only [List.mem_cons, List.mem_append, List.mem_map] at hc
 rcases hc with rfl | h | h | rfl | rfl | rfl | ⟨x, hx, rfl⟩
 ·
  exact cNum_ne _
 ·
  exact cLabels_ne _ c (by simpa [cLabels] using h)
 ·
  exact cLabels_ne _ c (by simpa [cLabels] using h)
 ·
  exact cNum_ne _
 ·
  exact cNum_ne _
 ·
  exact cNum_ne _
 ·
  exact cInstr_ne (hi x hx)
theorem cLabels_len (l : List Int) : l.length ≤ (cLabels l).length := by simp [cLabels]
theorem cFn_len (f : S41) : f.f1.length + f.f2.length + f.f5.length + 1 ≤ (cFn f).length := by
 simp [cFn, cLabels]
 omega
theorem flat_ge {α β : Type} (g : α → List β) : ∀ (l : List α), (∀ x ∈ l, 1 ≤ (g x).length) → l.length ≤ (l.flatMap g).length
 | [], _ => Nat.le_refl _
 | x :: l, h => by
  have h1 := flat_ge g l (fun y hy => h y (List.mem_cons_of_mem _ hy))
  have h2 := h x (List.mem_cons_self ..)
  rw [List.flatMap_cons, List.length_append, List.length_cons]
  omega
theorem flat_mem {α β : Type} (g : α → List β) : ∀ (l : List α) (x : α), x ∈ l → (g x).length ≤ (l.flatMap g).length
 | y :: l, x, h => by
  rw [List.flatMap_cons, List.length_append]
  rcases List.mem_cons.1 h with h | h
  ·
   rw [h]; omega
  ·
   have := flat_mem g l x h
   omega
def Lens (m : ModL) : Prop := m.1.length ≤ 262144 ∧ m.2.1.length ≤ 262144 ∧ m.2.2.1.length ≤ 262144 ∧ m.2.2.2.length ≤ 262144 ∧ ∀ f ∈ m.2.2.2, f.f1.length ≤ 262144 ∧ f.f2.length ≤ 262144 ∧ f.f5.length ≤ 262144
theorem lens_none : Lens ([], [], [], []) := ⟨by simp, by simp, by simp, by simp, fun _ h => nomatch h⟩
theorem lens_of {data : List Int} (hb : Bts data) : Lens (readM data).1 := by
 by_cases h0 : (readM data).2 = 0
 case neg => rw [readM_none h0]; exact lens_none
 obtain ⟨m, hm⟩ : ∃ m, (readM data).1 = m := ⟨_, rfl⟩
 have h : readM data = (m, 0) := by rw [← hm, ← h0]
 rw [hm]
 obtain ⟨ho, e⟩ := read_full hb h
 have hl := (readM_ok h).1
 have hlen : (cMod m.1 m.2.1 m.2.2.1 m.2.2.2).flatten.length ≤ 262144 := by
  have h1 : (fullM m.1 m.2.1 m.2.2.1 m.2.2.2).length ≤ 262144 := by rw [← e, List.length_take]; omega
  unfold fullM at h1
  rw [List.length_append] at h1
  omega
 have hne : ∀ c ∈ cMod m.1 m.2.1 m.2.2.1 m.2.2.2, c ≠ [] := fun c hc => by
  unfold cMod at hc
  rcases List.mem_append.1 hc with hc | hc
  ·
   exact cLabels_ne _ c hc
  rcases List.mem_append.1 hc with hc | hc
  ·
   unfold cArrs at hc
   rcases List.mem_cons.1 hc with hc | hc
   ·
    rw [hc]; exact cNum_ne _
   ·
    obtain ⟨a, _, ha⟩ := List.mem_flatMap.1 hc
    unfold cArr at ha
    simp only [List.mem_cons, List.not_mem_nil, or_false] at ha
    rcases ha with rfl | rfl <;> exact cNum_ne _
  rcases List.mem_append.1 hc with hc | hc
  ·
   exact cLabels_ne _ c hc
  ·
   unfold cFns at hc
   rcases List.mem_cons.1 hc with hc | hc
   ·
    rw [hc]; exact cNum_ne _
   ·
    obtain ⟨f, hf, hc⟩ := List.mem_flatMap.1 hc
    exact cFn_ne (ho.2.2.2.2 f hf) c hc
 have hle := Nat.le_trans (chunks_le _ hne) hlen
 unfold cMod at hle
 simp only [List.length_append] at hle
 have h1 := cLabels_len m.1
 have h3 := cLabels_len m.2.2.1
 have h2 : m.2.1.length ≤ (cArrs m.2.1).length := by
  have := flat_ge cArr m.2.1 (fun a _ => by simp [cArr])
  unfold cArrs
  rw [List.length_cons]
  omega
 have h4 : (m.2.2.2.flatMap cFn).length ≤ (cFns m.2.2.2).length := by unfold cFns; rw [List.length_cons]; omega
 have h5 := flat_ge cFn m.2.2.2 (fun f _ => by have := cFn_len f; omega)
 refine ⟨by omega, by omega, by omega, by omega, fun f hf => ?_⟩
 have h6 := flat_mem cFn m.2.2.2 f hf
 have h7 := cFn_len f
 exact ⟨by omega, by omega, by omega⟩
structure RD where
 A : Option Addr
 G : Nat
 n : Nat
def RD.v (r : RD) : Value := .slice r.A r.n r.n
def RD.Ok (t sz : Nat) (W : World) (lo hi : Nat) (r : RD) : Prop := 0 < r.n → r.A = some ⟨r.G, 0, none⟩ ∧ lo ≤ r.G ∧ r.G < hi ∧ ∃ C : Array Value, W.heap[r.G]? = some (.cells C t (0, 0)) ∧ r.n * sz ≤ C.size
theorem RD.Ok.move {t sz : Nat} {W W' : World} {lo hi : Nat} {r : RD} (h : r.Ok t sz W lo hi) (hm : ∀ C : Array Value, W.heap[r.G]? = some (.cells C t (0, 0)) → W'.heap[r.G]? = W.heap[r.G]?) : r.Ok t sz W' lo hi := fun hp => by
 obtain ⟨h1, h2, h3, C, h4, h5⟩ := h hp
 exact ⟨h1, h2, h3, C, (hm C h4).trans h4, h5⟩
theorem RD.Ok.wide {t sz : Nat} {W : World} {lo hi lo' hi' : Nat} {r : RD} (h : r.Ok t sz W lo hi) (h1 : lo' ≤ lo) (h2 : hi ≤ hi') : r.Ok t sz W lo' hi' := fun hp => by
 obtain ⟨a, b, c, d⟩ := h hp
 exact ⟨a, by omega, by omega, d⟩
theorem RD.of {α : Type} {d : Kd α} {t : Nat} {W : World} {lo hi : Nat} {v : Value} {xs : List α} (h : ClipB d t W lo hi v xs) : ∃ r : RD, v = r.v ∧ r.n = xs.length ∧ r.Ok t d.sz W lo hi := by
 obtain ⟨A, c, e, hok, inner, hw, hr⟩ := h
 rcases id hw.2 with ⟨h', h0⟩ | ⟨g, cap, cur, h', hg, hh, hc, _, hsz, hin⟩
 ·
  injection h' with h1 h2 h3
  refine ⟨⟨A, 0, xs.length⟩, e, rfl, fun hp => ?_⟩
  simp only at hp
  omega
 ·
  injection h' with h1 h2 h3
  refine ⟨⟨A, g, xs.length⟩, e, rfl, fun hp => ⟨h1, (hok g (by rw [h1]; rfl)).1, (hok g (by rw [h1]; rfl)).2, cur, hh, ?_⟩⟩
  simp only
  rw [hsz]
  exact Nat.mul_le_mul_right _ hc
def RDs (t sz : Nat) (W : World) : Nat → Nat → List RD → Prop
 | lo, hi, [] => lo ≤ hi
 | lo, hi, r :: rs => ∃ m, lo ≤ m ∧ r.Ok t sz W lo m ∧ RDs t sz W m hi rs
theorem RDs.le {t sz : Nat} {W : World} : ∀ {rs : List RD} {lo hi : Nat}, RDs t sz W lo hi rs → lo ≤ hi
 | [], _, _, h => h
 | _ :: _, _, _, ⟨m, h1, _, h3⟩ => Nat.le_trans h1 h3.le
theorem RDs.append {t sz : Nat} {W : World} : ∀ {rs qs : List RD} {lo m hi : Nat}, RDs t sz W lo m rs → RDs t sz W m hi qs → RDs t sz W lo hi (rs ++ qs)
 | [], [], lo, m, hi, h, h2 => Nat.le_trans h h2
 | [], q :: qs, lo, m, hi, h, ⟨k, a, b, c⟩ => ⟨k, Nat.le_trans h a, b.wide h (Nat.le_refl _), c⟩
 | r :: rs, qs, lo, m, hi, ⟨k, a, b, c⟩, h2 => ⟨k, a, b, c.append h2⟩
theorem RDs.wide {t sz : Nat} {W : World} : ∀ {rs : List RD} {lo hi lo' hi' : Nat}, RDs t sz W lo hi rs → lo' ≤ lo → hi ≤ hi' → RDs t sz W lo' hi' rs
 | [], lo, hi, lo', hi', h, h1, h2 => Nat.le_trans h1 (Nat.le_trans h h2)
 | r :: rs, lo, hi, lo', hi', ⟨m, a, b, c⟩, h1, h2 => ⟨m, Nat.le_trans h1 a, b.wide h1 (Nat.le_refl _), c.wide (Nat.le_refl _) h2⟩
theorem RDs.one {t sz : Nat} {W : World} {lo hi : Nat} {r : RD} (h : r.Ok t sz W lo hi) (hl : lo ≤ hi) : RDs t sz W lo hi [r] := ⟨hi, hl, h, Nat.le_refl _⟩
theorem RDs.mem {t sz : Nat} {W : World} : ∀ {rs : List RD} {lo hi : Nat}, RDs t sz W lo hi rs → ∀ r ∈ rs, r.Ok t sz W lo hi
 | [], _, _, _, r, hr => nomatch hr
 | q :: rs, lo, hi, ⟨m, a, b, c⟩, r, hr => by
  rcases List.mem_cons.1 hr with h | h
  ·
   rw [h]; exact b.wide (Nat.le_refl _) c.le
  ·
   exact (c.mem r h).wide a (Nat.le_refl _)
theorem RDs.apart {t sz : Nat} {W : World} : ∀ {rs : List RD} {lo hi : Nat}, RDs t sz W lo hi rs → rs.Pairwise (fun a b => 0 < a.n → 0 < b.n → a.G ≠ b.G)
 | [], _, _, _ => List.Pairwise.nil
 | q :: rs, lo, hi, ⟨m, a, b, c⟩ => List.Pairwise.cons (fun r hr hp hq => by
   have h1 := (b hp).2.2.1
   have h2 := (c.mem r hr hq).2.1
   omega) c.apart
theorem RDs.move {t sz : Nat} {W W' : World} : ∀ {rs : List RD} {lo hi : Nat}, RDs t sz W lo hi rs → (∀ r ∈ rs, ∀ C : Array Value, W.heap[r.G]? = some (.cells C t (0, 0)) → W'.heap[r.G]? = W.heap[r.G]?) → RDs t sz W' lo hi rs
 | [], _, _, h, _ => h
 | q :: rs, lo, hi, ⟨m, a, b, c⟩, hm => ⟨m, a, b.move (hm q (List.mem_cons_self ..)), c.move (fun r hr => hm r (List.mem_cons_of_mem _ hr))⟩
def rd0 : RD := ⟨none, 0, 0⟩
theorem rd_get {rs : List RD} {i : Nat} (h : i < rs.length) : rs.getD i rd0 = rs[i] := by rw [List.getD_eq_getElem?_getD, List.getElem?_eq_getElem h]; rfl
theorem RDs.bks {t sz : Nat} {W : World} {rs : List RD} {lo hi : Nat} (h : RDs t sz W lo hi rs) : ∃ C : Nat → Array Value, Bks t sz rs.length (fun i => (rs.getD i rd0).n) (fun i => (rs.getD i rd0).A) (fun i => (rs.getD i rd0).G) W C := by
 have hc : ∀ i, ∃ C : Array Value, i < rs.length → 0 < (rs.getD i rd0).n → W.heap[(rs.getD i rd0).G]? = some (.cells C t (0, 0)) ∧ (rs.getD i rd0).n * sz ≤ C.size := by
  intro i
  by_cases hi : i < rs.length ∧ 0 < (rs.getD i rd0).n
  ·
   obtain ⟨_, _, _, C, h1, h2⟩ := h.mem _ (show rs.getD i rd0 ∈ rs by rw [rd_get hi.1]; exact List.getElem_mem _) hi.2
   exact ⟨C, fun _ _ => ⟨h1, h2⟩⟩
  ·
   exact ⟨#[], fun h1 h2 => absurd ⟨h1, h2⟩ hi⟩
 refine ⟨fun i => (hc i).choose, fun i hi hp => (h.mem _ (show rs.getD i rd0 ∈ rs by rw [rd_get hi]; exact List.getElem_mem _) hp).1, fun i hi hp => ((hc i).choose_spec hi hp).1, fun i hi hp => ((hc i).choose_spec hi hp).2, fun i j hi hj hp hq he => ?_⟩
 have hP := List.pairwise_iff_getElem.1 h.apart
 simp only [rd_get hi] at hp he
 simp only [rd_get hj] at hq he
 rcases Nat.lt_trichotomy i j with hlt | heq | hgt
 ·
  exact absurd he (hP i j hi hj hlt hp hq)
 ·
  exact heq
 ·
  exact absurd he.symm (hP j i hj hi hgt hq hp)
end Go.Proofs.YtgpdaihfjnihhaaDoor.PJ
