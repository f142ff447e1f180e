/- louverkit.Modules: modules that were handed out lie apart: it answers true; only their blocks are written. -/
import Derived.Test.YtgpdaihfjnihhaaDoorQPJx0
import Derived.Test.YtgpdaihfjnihhaaDoorQHandModsA
namespace Go.Proofs.YtgpdaihfjnihhaaDoor.PJ
open Go.RowKit Go.Proofs.YtgpdaihfjnihhaaDoorW.PrintWords Go.Proofs.YtgpdaihfjnihhaaDoorW.PrintLast Go.Proofs.YtgpdaihfjnihhaaDoorW.PrintMore Go.Proofs.YtgpdaihfjnihhaaDoor.LebPure Go.Proofs.YtgpdaihfjnihhaaDoor.LebForm Go.Proofs.YtgpdaihfjnihhaaDoor.B64
set_option linter.unusedSimpArgs false
set_option linter.unusedVariables false
structure FD where
 p : RD
 r : RD
 c : RD
 f0 : Int
 f3 : Int
 f4 : Int
def FD.cs (f : FD) : List Value := [.int .u64 f.f0, .slice f.p.A f.p.n f.p.n, .slice f.r.A f.r.n f.r.n, .int .i64 f.f3, .int .i64 f.f4, .slice f.c.A f.c.n f.c.n]
def labF (fs : List FD) : List RD := fs.flatMap fun f => [f.p, f.r]
def codF (fs : List FD) : List RD := fs.map fun f => f.c
structure MD where
 g : RD
 ar : RD
 ch : RD
 hd : RD
 fs : List FD
def labM (m : MD) : List RD := [m.g, m.ch] ++ labF m.fs
def codM (m : MD) : List RD := codF m.fs
structure MD.Ok (m : MD) (W : World) (lo hi : Nat) : Prop where
 lab : RDs 36 1 W lo hi (labM m)
 cod : RDs 44 2 W lo hi (codM m)
 ar : m.ar.Ok 38 2 W lo hi
 hd : m.hd.Ok 41 6 W lo hi
 hn : m.hd.n = m.fs.length
 hdr : ∀ k f, m.fs[k]? = some f → ∀ q u, f.cs[q]? = some u → W.cell? ⟨m.hd.G, k * 6 + q, none⟩ = some u
 szl : ∀ r ∈ labM m, r.n ≤ 262144
 szc : ∀ r ∈ codM m, r.n ≤ 262144
 sza : m.ar.n ≤ 262144
 szf : m.fs.length ≤ 262144
theorem fds_of {W : World} {ok : Nat → Prop} : ∀ {css : List (List Value)} {xs : List S41} {lo hi : Nat}, FnsOk W ok lo hi css xs → (∀ f ∈ xs, f.f1.length ≤ 262144 ∧ f.f2.length ≤ 262144 ∧ f.f5.length ≤ 262144) →
  ∃ fs : List FD, fs.length = xs.length ∧ css = fs.map FD.cs ∧ RDs 36 1 W lo hi (labF fs) ∧ RDs 44 2 W lo hi (codF fs) ∧ (∀ r ∈ labF fs, r.n ≤ 262144) ∧ (∀ r ∈ codF fs, r.n ≤ 262144)
 | [], [], lo, hi, h, _ => ⟨[], rfl, rfl, h, h, (fun _ h => nomatch h), (fun _ h => nomatch h)⟩
 | cs :: css, x :: xs, lo, hi, ⟨l, m, h1, h2, _, h4, h5⟩, hl => by
  obtain ⟨fs, e1, e2, d1, d2, b1, b2⟩ := fds_of h5 (fun f hf => hl f (List.mem_cons_of_mem _ hf))
  obtain ⟨v1, v2, v5, l1, m1, l2, m2, l5, m5, e, p1, p2, p3, p4, p5, p6, p7, q1, q2, q5⟩ := h4
  obtain ⟨r1, f1, n1, o1⟩ := RD.of q1
  obtain ⟨r2, f2, n2, o2⟩ := RD.of q2
  obtain ⟨r5, f5, n5, o5⟩ := RD.of q5
  obtain ⟨z1, z2, z5⟩ := hl x (List.mem_cons_self ..)
  refine ⟨⟨r1, r2, r5, x.f0, x.f3, x.f4⟩ :: fs, by simp [e1], ?_, ?_, ?_, fun r hr => ?_, fun r hr => ?_⟩
  ·
   rw [List.map_cons, ← e2, e, f1, f2, f5]
   rfl
  ·
   exact ⟨m1, by omega, o1.wide (by omega) (Nat.le_refl _), m2, by omega, o2.wide (by omega) (Nat.le_refl _), d1.wide (by omega) (Nat.le_refl _)⟩
  ·
   exact ⟨m5, by omega, o5.wide (by omega) (Nat.le_refl _), d2.wide (by omega) (Nat.le_refl _)⟩
  ·
   have hr2 : r ∈ [r1, r2] ++ labF fs := hr
   rcases List.mem_append.1 hr2 with h | h
   ·
    simp only [List.mem_cons, List.not_mem_nil, or_false] at h
    rcases h with rfl | rfl
    ·
     rw [n1]; exact z1
    ·
     rw [n2]; exact z2
   ·
    exact b1 r h
  ·
   have hr2 : r ∈ r5 :: codF fs := hr
   rcases List.mem_cons.1 hr2 with h | h
   ·
    rw [h, n5]; exact z5
   ·
    exact b2 r h
 | [], _ :: _, _, _, h, _ => h.elim
 | _ :: _, [], _, _, h, _ => h.elim
theorem MD.of {W : World} {lo hi : Nat} {v1 v2 v3 v4 : Value} {m : ModL} (h : ModOut W lo hi v1 v2 v3 v4 m) (hl : Lens m) : ∃ M : MD, v1 = M.g.v ∧ v2 = M.ar.v ∧ v3 = M.ch.v ∧ v4 = M.hd.v ∧ M.Ok W lo hi := by
 obtain ⟨a1, b1, a2, b2, a3, b3, a4, b4, p1, p2, p3, p4, p5, p6, p7, p8, p9, h1, h2, h3, css, hlen, h4, h5⟩ := h
 obtain ⟨s1, s2, s3, s4, sf⟩ := hl
 obtain ⟨r1, e1, n1, o1⟩ := RD.of h1
 obtain ⟨r2, e2, n2, o2⟩ := RD.of h2
 obtain ⟨r3, e3, n3, o3⟩ := RD.of h3
 obtain ⟨r4, e4, n4, o4⟩ := RD.of h4
 obtain ⟨fs, g1, g2, d1, d2, t1, t2⟩ := fds_of h5 sf
 have hlab : RDs 36 1 W lo hi ([r1, r3] ++ labF fs) := ⟨b1, by omega, o1.wide (by omega) (Nat.le_refl _), b3, by omega, o3.wide (by omega) (Nat.le_refl _), d1.wide (by omega) (by omega)⟩
 refine ⟨⟨r1, r2, r3, r4, fs⟩, e1, e2, e3, e4, hlab, d2.wide (by omega) (by omega), o2.wide (by omega) (by omega), o4.wide (by omega) (by omega), ?_, fun k f hk q u hq => ?_, fun r hr => ?_, t2, ?_, ?_⟩
 ·
  show r4.n = fs.length
  rw [n4, hlen, g1]
 ·
  obtain ⟨A, eA, hC⟩ := h4.reads
  have hk2 : k < fs.length := (List.getElem?_eq_some_iff.1 hk).1
  have hcs : css[k]? = some f.cs := by rw [g2, List.getElem?_map, hk]; rfl
  have hkl : k < css.length := (List.getElem?_eq_some_iff.1 hcs).1
  obtain ⟨ad, ea, hcc⟩ := hC.2.2 (by omega)
  obtain ⟨c, _, hK, hcell⟩ := hcc k _ hcs
  obtain ⟨ec, _, _⟩ := hK
  subst ec
  have hA := (o4 (by omega)).1
  have hv : (Value.slice A css.length css.length) = r4.v := eA.symm.trans e4
  have hA2 : A = r4.A := by injection hv
  rw [hA2, hA] at ea
  injection ea with ea
  subst ea
  have := hcell q u hq
  rw [add_plain] at this
  exact this
 ·
  have hr2 : r ∈ [r1, r3] ++ labF fs := hr
  rcases List.mem_append.1 hr2 with h | h
  ·
   simp only [List.mem_cons, List.not_mem_nil, or_false] at h
   rcases h with rfl | rfl
   ·
    rw [n1]; exact s1
   ·
    rw [n3]; exact s3
  ·
   exact t1 r h
 ·
  show r2.n ≤ 262144
  rw [n2]; exact s2
 ·
  show fs.length ≤ 262144
  rw [g1]; exact s4
theorem MD.Ok.move {m : MD} {W W' : World} {lo hi : Nat} (h : m.Ok W lo hi) (hm : ∀ k, lo ≤ k → k < hi → k < W.heap.size → W'.heap[k]? = W.heap[k]?) : m.Ok W' lo hi := by
 have hr : ∀ {t sz : Nat} {r : RD}, r.Ok t sz W lo hi → r.Ok t sz W' lo hi := fun {t sz r} hr hp => by
  obtain ⟨a, b, c, C, d, e⟩ := hr hp
  exact ⟨a, b, c, C, (hm _ b c (blk_lt d)).trans d, e⟩
 have hrs : ∀ {t sz : Nat} {rs : List RD} {l k : Nat}, RDs t sz W l k rs → lo ≤ l → k ≤ hi → RDs t sz W' l k rs := by
  intro t sz rs
  induction rs with
  | nil => intro l k h _ _; exact h
  | cons r rs ih =>
   intro l k h h1 h2
   obtain ⟨q, a, b, c⟩ := h
   have hq := c.le
   refine ⟨q, a, fun hp => ?_, ih c (by omega) h2⟩
   obtain ⟨x, y, z, C, d, e⟩ := b hp
   exact ⟨x, y, z, C, (hm _ (by omega) (by omega) (blk_lt d)).trans d, e⟩
 refine ⟨hrs h.lab (Nat.le_refl _) (Nat.le_refl _), hrs h.cod (Nat.le_refl _) (Nat.le_refl _), hr h.ar, hr h.hd, h.hn, fun k f hk q u hq => ?_, h.szl, h.szc, h.sza, h.szf⟩
 have hp : 0 < m.hd.n := by rw [h.hn]; have := (List.getElem?_eq_some_iff.1 hk).1; omega
 obtain ⟨_, b, c, C, d, _⟩ := h.hd hp
 have hc := h.hdr k f hk q u hq
 unfold World.cell? at hc ⊢
 rw [hm _ b c (blk_lt d)]
 exact hc
def MDs (W : World) : Nat → Nat → List MD → Prop
 | lo, hi, [] => lo ≤ hi
 | lo, hi, m :: ms => ∃ k, lo ≤ k ∧ m.Ok W lo k ∧ MDs W k hi ms
theorem MDs.le {W : World} : ∀ {ms : List MD} {lo hi : Nat}, MDs W lo hi ms → lo ≤ hi
 | [], _, _, h => h
 | _ :: _, _, _, ⟨m, h1, _, h3⟩ => Nat.le_trans h1 h3.le
theorem MDs.get {W : World} : ∀ {ms : List MD} {lo hi : Nat}, MDs W lo hi ms → ∀ m ∈ ms, ∃ l h, lo ≤ l ∧ h ≤ hi ∧ m.Ok W l h
 | [], _, _, _, m, hm => nomatch hm
 | q :: ms, lo, hi, ⟨k, a, b, c⟩, m, hm => by
  rcases List.mem_cons.1 hm with h | h
  ·
   rw [h]; exact ⟨lo, k, Nat.le_refl _, c.le, b⟩
  ·
   obtain ⟨l, h2, p, q, r⟩ := c.get m h
   exact ⟨l, h2, by omega, q, r⟩
def labs (ms : List MD) : List RD := ms.flatMap labM
def cods (ms : List MD) : List RD := ms.flatMap codM
theorem MDs.lab {W : World} : ∀ {ms : List MD} {lo hi : Nat}, MDs W lo hi ms → RDs 36 1 W lo hi (labs ms)
 | [], _, _, h => h
 | m :: ms, lo, hi, ⟨k, a, b, c⟩ => b.lab.append c.lab
theorem MDs.cod {W : World} : ∀ {ms : List MD} {lo hi : Nat}, MDs W lo hi ms → RDs 44 2 W lo hi (cods ms)
 | [], _, _, h => h
 | m :: ms, lo, hi, ⟨k, a, b, c⟩ => b.cod.append c.cod
theorem MDs.hds {W : World} : ∀ {ms : List MD} {lo hi : Nat}, MDs W lo hi ms → RDs 41 6 W lo hi (ms.map (·.hd))
 | [], _, _, h => h
 | m :: ms, lo, hi, ⟨k, a, b, c⟩ => ⟨k, a, b.hd, c.hds⟩
theorem MDs.ars {W : World} : ∀ {ms : List MD} {lo hi : Nat}, MDs W lo hi ms → RDs 38 2 W lo hi (ms.map (·.ar))
 | [], _, _, h => h
 | m :: ms, lo, hi, ⟨k, a, b, c⟩ => ⟨k, a, b.ar, c.ars⟩
theorem labs_take (ms : List MD) (i : Nat) (hi : i < ms.length) : labs (ms.take (i + 1)) = labs (ms.take i) ++ labM ms[i] := by
 rw [List.take_succ_eq_append_getElem hi, labs, List.flatMap_append, List.flatMap_singleton]
 rfl
theorem cods_take (ms : List MD) (i : Nat) (hi : i < ms.length) : cods (ms.take (i + 1)) = cods (ms.take i) ++ codM ms[i] := by
 rw [List.take_succ_eq_append_getElem hi, cods, List.flatMap_append, List.flatMap_singleton]
 rfl
theorem labF_take (fs : List FD) (k : Nat) (hk : k < fs.length) : labF (fs.take (k + 1)) = labF (fs.take k) ++ [fs[k].p, fs[k].r] := by
 rw [List.take_succ_eq_append_getElem hk, labF, List.flatMap_append, List.flatMap_singleton]
 rfl
theorem codF_take (fs : List FD) (k : Nat) (hk : k < fs.length) : codF (fs.take (k + 1)) = codF (fs.take k) ++ [fs[k].c] := by
 rw [List.take_succ_eq_append_getElem hk, codF, List.map_append]
 rfl
theorem labF_len (fs : List FD) : (labF fs).length = 2 * fs.length := by
 induction fs with
 | nil => rfl
 | cons f fs ih => rw [show labF (f :: fs) = [f.p, f.r] ++ labF fs from rfl, List.length_append, ih, List.length_cons]; simp only [List.length_cons, List.length_nil]; omega
theorem labM_len (m : MD) : (labM m).length = 2 * m.fs.length + 2 := by unfold labM; rw [List.length_append, labF_len]; simp only [List.length_cons, List.length_nil]; omega
theorem codM_len (m : MD) : (codM m).length = m.fs.length := by simp [codM, codF]
theorem flat_bound {α β : Type} (g : α → List β) (N : Nat) : ∀ l : List α, (∀ x ∈ l, (g x).length ≤ N) → (l.flatMap g).length ≤ l.length * N
 | [], _ => by simp
 | x :: l, h => by
  have h1 := flat_bound g N l (fun y hy => h y (List.mem_cons_of_mem _ hy))
  have h2 := h x (List.mem_cons_self ..)
  rw [List.flatMap_cons, List.length_append, List.length_cons, Nat.add_mul]
  omega
def rowV (r : RD) : List Value := [.slice r.A r.n r.n]
theorem two_rows (W : World) (e : TypeId) (r s : RD) : ReadsRow (fun (x cs : List Value) => cs = x ∧ cs.length = 1 ∧ ∀ u ∈ cs, u.oneCell' = true) 1 (W.alloc (.cells #[.slice r.A r.n r.n, .slice s.A s.n s.n] e)) (some ⟨W.heap.size, 0, none⟩) 2 [rowV r, rowV s] := by
 refine ⟨rfl, by decide, fun _ => ⟨_, rfl, fun j p hj => ?_⟩⟩
 have hh := heap_alloc_new W (.cells #[.slice r.A r.n r.n, .slice s.A s.n s.n] e)
 match j, hj with
 | 0, hj =>
  obtain rfl : rowV r = p := by simpa using hj
  refine ⟨_, rfl, ⟨rfl, rfl, fun u hu => by rw [List.mem_singleton.1 hu]; rfl⟩, fun q u hu => ?_⟩
  match q, hu with
  | 0, hu =>
   obtain rfl : Value.slice r.A r.n r.n = u := by simpa [rowV] using hu
   show (W.alloc _).cell? ((⟨W.heap.size, 0, none⟩ : Addr).add 0) = _
   rw [add_plain]
   exact (blk_cell hh 0).trans rfl
  | q + 1, hu => simp [rowV] at hu
 | 1, hj =>
  obtain rfl : rowV s = p := by simpa using hj
  refine ⟨_, rfl, ⟨rfl, rfl, fun u hu => by rw [List.mem_singleton.1 hu]; rfl⟩, fun q u hu => ?_⟩
  match q, hu with
  | 0, hu =>
   obtain rfl : Value.slice s.A s.n s.n = u := by simpa [rowV] using hu
   show (W.alloc _).cell? ((⟨W.heap.size, 0, none⟩ : Addr).add (1 * 1 + 0)) = _
   rw [add_plain]
   exact (blk_cell hh 1).trans rfl
  | q + 1, hu => simp [rowV] at hu
 | j + 2, hj => simp at hj
theorem Bks.far {t t' sz n : Nat} {m : Nat → Nat} {V : Nat → Option Addr} {G : Nat → Nat} {W : World} {C : Nat → Array Value} {g : Nat} {C' : Array Value} (h : Bks t sz n m V G W C) (hb : W.heap[g]? = some (.cells C' t' (0, 0))) (ht : t ≠ t') (q : Nat) (y : Value) : Bks t sz n m V G (W.setCell ⟨g, q, none⟩ y) C :=
 h.step (fun i hi hp _ => Below.heap_setCell W ⟨g, q, none⟩ y (G i) (fun he => by
  have h1 := h.blk i hi hp
  rw [show G i = g from he, hb] at h1
  injection h1 with h1
  injection h1 with _ h1
  exact ht h1.symm))
theorem Bks.put6 {t n : Nat} {m : Nat → Nat} {V : Nat → Option Addr} {G : Nat → Nat} {W : World} {C : Nat → Array Value} (h : Bks t 6 n m V G W C) {i g k : Nat} (hi : i < n) (hk : k < m i) (hg : G i = g) (y0 y1 y2 y3 y4 y5 : Value) :
  ∃ C', Bks t 6 n m V G ((((((W.setCell ⟨g, k * 6, none⟩ y0).setCell ⟨g, k * 6 + 1, none⟩ y1).setCell ⟨g, k * 6 + 2, none⟩ y2).setCell ⟨g, k * 6 + 3, none⟩ y3).setCell ⟨g, k * 6 + 4, none⟩ y4).setCell ⟨g, k * 6 + 5, none⟩ y5) C' ∧ (∀ j, j ≠ i → C' j = C j) ∧ (C' i)[k * 6 + 4]? = some y4 ∧ ∀ q, q ≠ k → (C' i)[q * 6 + 4]? = (C i)[q * 6 + 4]? := by
 have hp : 0 < m i := by omega
 have hrm := h.room i hi hp
 refine ⟨_, (((((h.put hi hp hg (k * 6) y0).put hi hp hg (k * 6 + 1) y1).put hi hp hg (k * 6 + 2) y2).put hi hp hg (k * 6 + 3) y3).put hi hp hg (k * 6 + 4) y4).put hi hp hg (k * 6 + 5) y5, fun j hj => by simp only [hj, if_false], ?_, fun q hq => ?_⟩
 ·
  simp only [if_true]
  rw [set_ne (by omega), set_eq (by simp only [Array.size_setIfInBounds]; omega)]
 ·
  simp only [if_true]
  rw [set_ne (by omega), set_ne (by omega), set_ne (by omega), set_ne (by omega), set_ne (by omega), set_ne (by omega)]
theorem Bks.put2 {t n : Nat} {m : Nat → Nat} {V : Nat → Option Addr} {G : Nat → Nat} {W : World} {C : Nat → Array Value} (h : Bks t 2 n m V G W C) {i g k : Nat} (hi : i < n) (hk : k < m i) (hg : G i = g) (y0 y1 : Value) :
  ∃ C', Bks t 2 n m V G ((W.setCell ⟨g, k * 2, none⟩ y0).setCell ⟨g, k * 2 + 1, none⟩ y1) C' ∧ (∀ j, j ≠ i → C' j = C j) ∧ (C' i)[k * 2]? = some y0 ∧ ∀ q, q ≠ k → (C' i)[q * 2]? = (C i)[q * 2]? := by
 have hp : 0 < m i := by omega
 have hrm := h.room i hi hp
 refine ⟨_, (h.put hi hp hg (k * 2) y0).put hi hp hg (k * 2 + 1) y1, fun j hj => by simp only [hj, if_false], ?_, fun q hq => ?_⟩
 ·
  simp only [if_true]
  rw [set_ne (by omega), set_eq (by omega)]
 ·
  simp only [if_true]
  rw [set_ne (by omega), set_ne (by omega)]
theorem Bks.far6 {t t' sz n : Nat} {m : Nat → Nat} {V : Nat → Option Addr} {G : Nat → Nat} {W : World} {C : Nat → Array Value} {g : Nat} {C' : Array Value} (h : Bks t sz n m V G W C) (hb : W.heap[g]? = some (.cells C' t' (0, 0))) (ht : t ≠ t') (k : Nat) (y0 y1 y2 y3 y4 y5 : Value) :
  Bks t sz n m V G ((((((W.setCell ⟨g, k * 6, none⟩ y0).setCell ⟨g, k * 6 + 1, none⟩ y1).setCell ⟨g, k * 6 + 2, none⟩ y2).setCell ⟨g, k * 6 + 3, none⟩ y3).setCell ⟨g, k * 6 + 4, none⟩ y4).setCell ⟨g, k * 6 + 5, none⟩ y5) C := by
 have b1 := blk_put hb (k * 6) y0 rfl
 have b2 := blk_put b1 (k * 6 + 1) y1 rfl
 have b3 := blk_put b2 (k * 6 + 2) y2 rfl
 have b4 := blk_put b3 (k * 6 + 3) y3 rfl
 have b5 := blk_put b4 (k * 6 + 4) y4 rfl
 exact (((((h.far hb ht _ y0).far b1 ht _ y1).far b2 ht _ y2).far b3 ht _ y3).far b4 ht _ y4).far b5 ht _ y5
theorem Bks.far2 {t t' sz n : Nat} {m : Nat → Nat} {V : Nat → Option Addr} {G : Nat → Nat} {W : World} {C : Nat → Array Value} {g : Nat} {C' : Array Value} (h : Bks t sz n m V G W C) (hb : W.heap[g]? = some (.cells C' t' (0, 0))) (ht : t ≠ t') (k : Nat) (y0 y1 : Value) :
  Bks t sz n m V G ((W.setCell ⟨g, k * 2, none⟩ y0).setCell ⟨g, k * 2 + 1, none⟩ y1) C := (h.far hb ht _ y0).far (blk_put hb (k * 2) y0 rfl) ht _ y1
theorem Wrote.put6 {S : Nat → Prop} {w W : World} (h : Wrote S w W) {g : Nat} (hs : S g) (k : Nat) (y0 y1 y2 y3 y4 y5 : Value) : Wrote S w ((((((W.setCell ⟨g, k * 6, none⟩ y0).setCell ⟨g, k * 6 + 1, none⟩ y1).setCell ⟨g, k * 6 + 2, none⟩ y2).setCell ⟨g, k * 6 + 3, none⟩ y3).setCell ⟨g, k * 6 + 4, none⟩ y4).setCell ⟨g, k * 6 + 5, none⟩ y5) :=
 (((((h.put (p := ⟨g, k * 6, none⟩) (.inl hs) y0).put (p := ⟨g, k * 6 + 1, none⟩) (.inl hs) y1).put (p := ⟨g, k * 6 + 2, none⟩) (.inl hs) y2).put (p := ⟨g, k * 6 + 3, none⟩) (.inl hs) y3).put (p := ⟨g, k * 6 + 4, none⟩) (.inl hs) y4).put (p := ⟨g, k * 6 + 5, none⟩) (.inl hs) y5
theorem Wrote.put2 {S : Nat → Prop} {w W : World} (h : Wrote S w W) {g : Nat} (hs : S g) (k : Nat) (y0 y1 : Value) : Wrote S w ((W.setCell ⟨g, k * 2, none⟩ y0).setCell ⟨g, k * 2 + 1, none⟩ y1) :=
 (h.put (p := ⟨g, k * 2, none⟩) (.inl hs) y0).put (p := ⟨g, k * 2 + 1, none⟩) (.inl hs) y1
end Go.Proofs.YtgpdaihfjnihhaaDoor.PJ
