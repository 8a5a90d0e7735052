/- The walk of mbap.Cut. -/
import Derived.Test.YtheepgfafjinoaaMbapIter
import Derived.Maps.OwnIn
import Derived.Maps.AppendAt
import Derived.RegionTactic
namespace Go.Proofs.Ytheepgfafjinoaa
open Go.RowKit Go.Shelf
set_option linter.unusedSimpArgs false
set_option linter.unusedVariables false
attribute [local go_sem] Oper.semAt_some

def Fx.cells (x : Fx) : List Value := [.int .u16 (x.f.tx : Int), .int .u8 (x.f.unit : Int), .slice x.A x.f.pdu.length x.c]
def fxs (l : List Fx) : List Value := l.flatMap Fx.cells
theorem fxs_length (l : List Fx) : (fxs l).length = l.length * 3 := by
  induction l with
  | nil => rfl
  | cons a l ih => simp only [fxs, List.flatMap_cons, List.length_append, List.length_cons] at *; simp [Fx.cells, ih]; omega
theorem fxs_snoc (l : List Fx) (x : Fx) : fxs (l ++ [x]) = fxs l ++ x.cells := by simp [fxs]
theorem fxs_append (l k : List Fx) : fxs (l ++ k) = fxs l ++ fxs k := by simp [fxs]
def usedF (l : List Fr) : Nat := (l.map fun f => 7 + f.pdu.length).sum
theorem usedF_snoc (l : List Fr) (f : Fr) : usedF (l ++ [f]) = usedF l + (7 + f.pdu.length) := by simp [usedF]
theorem cutF_usedF : ∀ (k : Nat) (l : List Nat), l.length ≤ k → usedF (cutF l).1 = (cutF l).2 := by
  intro k
  induction k with
  | zero =>
    intro l hl
    rw [cutF_no (by unfold hasF; rw [decide_eq_false (by omega)]; rfl)]
    rfl
  | succ k ih =>
    intro l hl
    by_cases h : hasF l = true
    · have hh := hasF_len h
      have := ih (l.drop (lenF l)) (by simp; omega)
      rw [cutF_yes h]
      have h2 := fstF_pdu h
      simp only [usedF, List.map_cons, List.sum_cons] at this ⊢
      rw [this, h2]
      omega
    · rw [cutF_no (by simpa using h)]
      rfl
theorem usedF_le : ∀ pre : List Fx, (∀ x ∈ pre, x.f.right = true) → usedF (pre.map fun x => x.f) ≤ 260 * pre.length
  | [], _ => by simp [usedF]
  | x :: pre, h => by
    have h1 := h x (by simp)
    have h2 := usedF_le pre (fun y hy => h y (by simp [hy]))
    simp only [Fr.right, decide_eq_true_eq] at h1
    simp only [usedF, List.map_cons, List.sum_cons, List.length_cons] at h2 ⊢
    omega
theorem info_m : (Try.prog.info? 37).map (fun i => (i.zero, i.size, i.bytes)) = some (some (.agg #[.int .u16 0, .int .u8 0, .slice none 0 0]), 3, 32) := by kernel_rfl
theorem Fx.one (x : Fx) : ∀ u ∈ x.cells, u.oneCell' = true := by simp [Fx.cells, Value.oneCell']
theorem fxs_one (l : List Fx) : ∀ u ∈ fxs l, u.oneCell' = true := by
  intro u hu
  obtain ⟨x, _, hu⟩ := List.mem_flatMap.1 hu
  exact x.one u hu

/-- Cut's error -/
def cutErr (l : List Nat) : Nat := if begF (l.drop (cutF l).2) = true then 0 else 10
/-- what holds between two rounds -/
structure CutI (w : World) (N : Nat) (pre : List Fx) (W : World) : Prop where
  row : ∃ A1 c1, Blk W N 43 #[.slice A1 pre.length c1] ∧ OwK W N 37 3 A1 pre.length c1 (fxs pre)
  cnt : Blk W (N + 1) 3 #[.int .i64 (usedF (pre.map (·.f)) : Nat)]
  each : ∀ x ∈ pre, x.G N W
  bel : Below w.heap.size w W
structure CutX (N : Nat) (b : Value) (x : Fx) (a' : Act) (W : World) : Prop where
  g : x.G N W
  box : ∃ Bx v, N + 2 ≤ Bx ∧ Blk W Bx 37 #[.int .u16 (x.f.tx : Int), .int .u8 (x.f.unit : Int), .slice x.A x.f.pdu.length x.c] ∧ Blk W N 43 #[v] ∧ v.ownBlock ≠ some Bx ∧
    a' = { tmps := #[b, undef, .slice none 0 0, .int .i64 0, .int .i64 0, .pointer (some ⟨N, 0, none⟩), .pointer (some ⟨N + 1, 0, none⟩), .pointer (some ⟨Bx, 0, none⟩), b, .func (.func 55) #[] #[.pointer (some ⟨N + 2, 0, none⟩)], x.val, undef, undef, undef, undef, undef, undef, undef, undef, undef, undef, undef, undef, undef, undef, undef, undef, undef, undef, undef], defers := [] }

theorem Blk.notOwK {w : World} {g : Nat} {t : TypeId} {cs : Array Value} {B k n : Nat} {e : TypeId} {A : Option Addr} {c : Nat} {xs : List Value} (h : Blk w g t cs) (ho : OwK w B e k A n c xs) (hne : t ≠ e) : some g ≠ Value.ownBlock (.slice A n c) := by
  rcases ho.2 with ⟨hv, _⟩ | ⟨g2, cap, cur, hv, _, hh, _⟩
  · rw [hv]; simp [Value.ownBlock]
  · rw [hv]
    intro ee
    have : g = g2 := by simpa [Value.ownBlock] using ee
    subst this
    unfold Blk at h
    rw [h] at hh
    injection hh with hh
    injection hh with _ ht
    exact hne ht
theorem OwK.isCells {w : World} {B k n : Nat} {e : TypeId} {A : Option Addr} {c : Nat} {xs : List Value} (h : OwK w B e k A n c xs) (j : Nat) (o : Obj) (hj : Value.ownBlock (.slice A n c) = some j) (ho : w.heap[j]? = some o) : o.isCells = true := by
  rcases h.2 with ⟨hv, _⟩ | ⟨g, cap, cur, hv, _, hh, _⟩
  · rw [hv] at hj; cases hj
  · rw [hv] at hj
    have : g = j := by simpa [Value.ownBlock] using hj
    subst this
    rw [hh] at ho
    cases ho
    rfl
theorem OwK.setBlk {w : World} {g : Nat} {t : TypeId} {cs : Array Value} {B k n : Nat} {e : TypeId} {A : Option Addr} {c : Nat} {xs : List Value} (h : OwK w B e k A n c xs) (hb : Blk w g t cs) (hne : t ≠ e) (j : Nat) (u : Value) : OwK (w.setCell ⟨g, j, none⟩ u) B e k A n c xs := by
  refine h.kept (row := some g) ⟨rfl, rfl, rfl, by simp [World.setCell], fun i hi hne => Below.heap_setCell w ⟨g, j, none⟩ u i (fun e => hne (by rw [e]))⟩ (.inr ?_)
  exact (hb.notOwK h hne).symm
theorem Fx.G.kept {B : Nat} {x : Fx} {w w' : World} {row : Option Nat} (h : x.G B w) (hg : w.grownBy w' row) (hne : Value.ownBlock (.slice x.A (bs x.f.pdu).length x.c) = none ∨ Value.ownBlock (.slice x.A (bs x.f.pdu).length x.c) ≠ row) : x.G B w' := ⟨h.ow.kept hg hne, h.ok, h.right⟩
theorem Fx.G.alloc {B : Nat} {x : Fx} {w : World} (h : x.G B w) (o : Obj) : x.G B (w.alloc o) := ⟨h.ow.alloc o, h.ok, h.right⟩
theorem Fx.G.setBlk {B : Nat} {x : Fx} {w : World} {g : Nat} {t : TypeId} {cs : Array Value} (h : x.G B w) (hb : Blk w g t cs) (hne : t ≠ 5) (j : Nat) (u : Value) : x.G B (w.setCell ⟨g, j, none⟩ u) := ⟨h.ow.setBlk hb hne j u, h.ok, h.right⟩
theorem Fx.G.appended {B B2 : Nat} {x : Fx} {w w' : World} {k n c : Nat} {A : Option Addr} {xs : List Value} (h : x.G B w) (ho : OwK w B2 37 k A n c xs) (hg : w.grownBy w' (Value.ownBlock (.slice A n c))) : x.G B w' :=
  h.kept hg (h.ow.apart ho (by decide))

set_option maxRecDepth 100000 in
set_option maxHeartbeats 2000000 in
theorem mb_Cut (A : Option Addr) (n c : Nat) (l : List Nat) (w : World) (hA : Rd w A (bs l)) (hn : l.length = n) (hl : Bs l) (hm : n ≤ 1000000000) (hc : n ≤ c) (hcm : c ≤ 9223372036854775807) :
    Calls Try.prog 32 #[.slice A n c] w fun e w' => ∃ A' c' xs, xs.map Fx.f = (cutF l).1 ∧
      e = .returned (.tuple #[.slice A' xs.length c', .int .i64 ((cutF l).2 : Nat), .int .i64 (cutErr l : Nat)]) ∧
      OwK w' w.heap.size 37 3 A' xs.length c' (fxs xs) ∧ (∀ x ∈ xs, x.G w.heap.size w') ∧ Below w.heap.size w w' := by
  obtain ⟨i0, hi, hz0, hz1, hz2⟩ := info_parts info_m
  have HN := Lib.hid hn
  have HI := Lib.hid hi
  have HZ0 := Lib.hid hz0
  have HZ1 := Lib.hid hz1
  have HZ2 := Lib.hid hz2
  clear hn hi hz0 hz1 hz2
  refine (callsIn_wide (n := 3)).1 ?_
  refine callsIn_of_wp_marks Try.func32 rfl trivial ?_ rfl
  simp only [Try.ntmps32, List.size_toArray, List.length_cons, List.length_nil, Nat.reduceAdd, Nat.reduceSub, Array.replicate_succ, Array.replicate_zero, List.push_toArray, List.append_toArray, List.nil_append, List.cons_append]
  gi_wp2_with fail
  refine ⟨trivial, ?_⟩
  refine (callsIn_wide.2 (mb_frames A n c _)).mono ?_
  rintro e w1 ⟨rfl, rfl⟩
  obtain ⟨N, hN⟩ : ∃ N, w.heap.size = N := ⟨_, rfl⟩
  have b5 := ((Blk.newAt w 43 #[.slice none 0 0] N hN).alloc (.cells #[.int .i64 0] 3)).alloc (.cells #[.slice A n c] 22)
  have b6 := (Blk.newAt (w.alloc (.cells #[.slice none 0 0] 43)) 3 #[.int .i64 0] (N + 1) (by simp [hN])).alloc (.cells #[.slice A n c] 22)
  have b7 := Blk.newAt ((w.alloc (.cells #[.slice none 0 0] 43)).alloc (.cells #[.int .i64 0] 3)) 22 #[.slice A n c] (N + 2) (by simp [hN])
  have hb2 := (((Below.refl _ w).alloc (Nat.le_refl _) (.cells #[.slice none 0 0] 43)).alloc (by simp) (.cells #[.int .i64 0] 3)).alloc (by simp; omega) (.cells #[.slice A n c] 22)
  have hs2 : (((w.alloc (.cells #[.slice none 0 0] 43)).alloc (.cells #[.int .i64 0] 3)).alloc (.cells #[.slice A n c] 22)).heap.size = N + 3 := by simp [hN]
  gi_wp2_with fail
  generalize ((w.alloc (.cells #[.slice none 0 0] 43)).alloc (.cells #[.int .i64 0] 3)).alloc (.cells #[.slice A n c] 22) = w2 at *
  try rw [hN]
  have hIown : OwnFrom w2.heap.size (CutI w N) := by
    rintro pre W W' row ⟨⟨A1, c1, hb, ho⟩, hc, he, hbl⟩ hg hr
    have nb : ∀ {g : Nat} {t : TypeId} {cs : Array Value}, Blk W g t cs → some g ≠ row := by
      intro g t cs hb e
      obtain ⟨_, o, h1, h2⟩ := hr g e.symm
      unfold Blk at hb
      rw [hb] at h1
      cases h1
      cases h2
    have nk : ∀ {B : Nat} {e : TypeId} {k n c : Nat} {A : Option Addr} {xs : List Value}, OwK W B e k A n c xs → Value.ownBlock (.slice A n c) = none ∨ Value.ownBlock (.slice A n c) ≠ row := by
      intro B e k n c A xs h
      rcases h.2 with ⟨hv, _⟩ | ⟨g, cap, cur, hv, _, hh, _⟩
      · rw [hv]; exact .inl rfl
      · rw [hv]; exact .inr (nb hh)
    refine ⟨⟨A1, c1, hb.grown hg (nb hb), ho.kept hg (nk ho)⟩, hc.grown hg (nb hc), fun x hx => ?_, ?_⟩
    · obtain ⟨h1, h2, h3⟩ := he x hx
      refine ⟨h1.kept hg ?_, h2, h3⟩
      have := nk (k := 1) (n := (bs x.f.pdu).length) h1
      exact this
    · exact hbl.grown hg hbl.size (fun r e => by have := (hr r e).1; omega)
  have hXown : ∀ x a', OwnFrom w2.heap.size (fun (_ : Unit) W => CutX N (.slice A n c) x a' W) := by
    rintro x a' _ W W' row ⟨⟨h1, h2, h3⟩, Bx, v, hBx, hb, hb2, hv, ha⟩ hg hr
    have nb : ∀ {g : Nat} {t : TypeId} {cs : Array Value}, Blk W g t cs → some g ≠ row := by
      intro g t cs hb e
      obtain ⟨_, o, h1, h2⟩ := hr g e.symm
      unfold Blk at hb
      rw [hb] at h1
      cases h1
      cases h2
    refine ⟨⟨h1.kept hg ?_, h2, h3⟩, Bx, v, hBx, hb.grown hg (nb hb), hb2.grown hg (nb hb2), hv, ha⟩
    rcases h1.2 with ⟨hv, _⟩ | ⟨g, cap, cur, hv, _, hh, _⟩
    · rw [hv]; exact .inl rfl
    · rw [hv]; exact .inr (nb hh)
  have HN2 := Lib.hid hs2
  have HNN := Lib.hid hN
  have hwN : w.heap.size ≤ N := by omega
  refine wpIn_rangeG rfl (by omega) (gf := 55) (lb := #[.pointer (some ⟨N + 2, 0, none⟩)]) rfl trivial (enters_of Try.func55 (by kernel_rfl) rfl)
    (mb_frames1 w A n c l hA HN.out hl hm hc _ (N + 2) w2 hb2 (by omega) (b7.cell 0)) belowK_t (belowK_b (by omega)) (Below.refl _ _) (fun _ => rfl) (CutI w N) hIown
    ⟨⟨none, 0, b5, OwK.nil⟩, b6, by simp, hb2⟩ (CutX N (.slice A n c)) hXown ?assign ?body ?done
  case assign =>
    intro ll pre x W K hI hG hK
    unfold Fx.val frV
    gi_wp2_with fail
    obtain ⟨⟨A1, c1, r1, o1⟩, r2, he, hbl⟩ := hI
    have hG' : x.G N W := by rw [← HNN.out]; exact hG
    have hNW := r2.lt
    have hfx : Value.ownBlock (.slice A1 pre.length c1) ≠ some W.heap.size := fun e => by have := (o1.block e).2; omega
    exact hK _ _ ((KeepsOthers.alloc _ _).from _) ((Below.refl _ W).alloc hbl.size _) ⟨⟨A1, c1, r1.alloc _, o1.alloc _⟩, r2.alloc _, fun y hy => (he y hy).alloc _, hbl.alloc hbl.size _⟩
      ⟨hG'.alloc _, W.heap.size, _, by omega, Blk.new _ _ _, r1.alloc _, hfx, rfl⟩
  case body =>
    rintro ll pre x a' W ⟨⟨A1, c1, r1, o1⟩, r2, he, hbl⟩ ⟨hG, Bx, v, hBx, bx, r1', hv, rfl⟩ hlen
    obtain rfl : v = .slice A1 pre.length c1 := by
      unfold Blk at r1 r1'
      rw [r1] at r1'
      injection r1' with r1'
      injection r1' with r1'
      simpa using r1'.symm
    have d5 := r1.cell 0
    have d6 := r2.cell 0
    have x0 := bx.cell 0
    have x1 := bx.cell 1
    have x2 := bx.cell 2
    simp only [List.getElem?_toArray, List.getElem?_cons_zero, List.getElem?_cons_succ] at d5 d6 x0 x1 x2
    have hcells : ∀ j u, x.cells[j]? = some u → (W.alloc (.cells #[.int .u16 (x.f.tx : Int), .int .u8 (x.f.unit : Int), .slice x.A x.f.pdu.length x.c] 37)).cell? ((⟨W.heap.size, 0, none⟩ : Addr).add j) = some u := by
      intro j u hu
      rw [show (⟨W.heap.size, 0, none⟩ : Addr).add j = ⟨W.heap.size, j, none⟩ from by unfold Addr.add; split <;> simp_all]
      rw [(Blk.new W 37 #[.int .u16 (x.f.tx : Int), .int .u8 (x.f.unit : Int), .slice x.A x.f.pdu.length x.c]).cell j]
      simpa [Fx.cells] using hu
    have HCE := Lib.hid hcells
    clear hcells
    have hlm : pre.length + 1 ≤ maxLen := by unfold maxLen; omega
    have HLM := Lib.hid hlm
    have hNW : N ≤ W.heap.size := Nat.le_of_lt r1.lt
    clear hlm
    gi_wp2_with (gi_at_builtin; refine wpListIn_append_own _ rfl _ _ 43 rfl N 37 i0 _ 3 32 Try.underlying43 HI.out HZ0.out HZ1.out HZ2.out rfl (by decide) _ _ _ rfl (o1.alloc _) ⟨W.heap.size, 0, none⟩ 1 1 x.cells rfl rfl HCE.out x.one HLM.out (by omega) (by simp; omega) ?_)
    intro v' w3 hown' hgrow _
    obtain ⟨g', cap', rfl⟩ := ownsRow_succ hown'
    have r1a := r1.alloc (.cells #[.int .u16 (x.f.tx : Int), .int .u8 (x.f.unit : Int), .slice x.A x.f.pdu.length x.c] 37)
    have r2a := r2.alloc (.cells #[.int .u16 (x.f.tx : Int), .int .u8 (x.f.unit : Int), .slice x.A x.f.pdu.length x.c] 37)
    have bxa := bx.alloc (.cells #[.int .u16 (x.f.tx : Int), .int .u8 (x.f.unit : Int), .slice x.A x.f.pdu.length x.c] 37)
    have o1a := o1.alloc (.cells #[.int .u16 (x.f.tx : Int), .int .u8 (x.f.unit : Int), .slice x.A x.f.pdu.length x.c] 37)
    have hGa := hG.alloc (.cells #[.int .u16 (x.f.tx : Int), .int .u8 (x.f.unit : Int), .slice x.A x.f.pdu.length x.c] 37)
    have hea := fun y hy => (he y hy).alloc (.cells #[.int .u16 (x.f.tx : Int), .int .u8 (x.f.unit : Int), .slice x.A x.f.pdu.length x.c] 37)
    have kba := (Below.refl N W).alloc hNW (.cells #[.int .u16 (x.f.tx : Int), .int .u8 (x.f.unit : Int), .slice x.A x.f.pdu.length x.c] 37)
    have koa := KeepsOthers.alloc W (.cells #[.int .u16 (x.f.tx : Int), .int .u8 (x.f.unit : Int), .slice x.A x.f.pdu.length x.c] 37)
    clear d5 d6 x0 x1 x2 bx HCE r1'
    have hgrow' := hgrow
    generalize W.alloc (.cells #[.int .u16 (x.f.tx : Int), .int .u8 (x.f.unit : Int), .slice x.A x.f.pdu.length x.c] 37) = Wa at *
    have q5 := r1a.grown hgrow (r1a.notOwK o1a (by decide))
    have q6 := r2a.grown hgrow (r2a.notOwK o1a (by decide))
    have qx := bxa.grown hgrow (fun e => hv e.symm)
    have o3 : OwK w3 N 37 3 (some ⟨g', 0, none⟩) (pre.length + 1) cap' (fxs pre ++ x.cells) := hown'
    have hG3 := hGa.appended o1a hgrow
    have he3 := fun y hy => (hea y hy).appended o1a hgrow
    have kb3 := kba.grown hgrow (Nat.le_trans hNW kba.size) (fun k hk => (o1a.block hk).1)
    have ko3 := koa.trans (KeepsOthers.of_grownBy hgrow (fun j o hj ho => o1a.isCells j o hj ho))
    clear hgrow hgrow' hown' hea hGa
    have e5 := q5.cell 0
    have f5 := q5.frozen 0
    have e6 := q6.cell 0
    have f6 := q6.frozen 0
    have y2 := qx.cell 2
    simp only [List.getElem?_toArray, List.getElem?_cons_zero, List.getElem?_cons_succ] at e5 e6 y2
    have hp := hG.right
    simp only [Fr.right, decide_eq_true_eq] at hp
    have hp2 := hp.2
    have hul := usedF_le pre (fun y hy => (he y hy).right)
    have hus : usedF (List.map (fun x => x.f) pre) ≤ 1000000000000 := by omega
    obtain ⟨us, hUS⟩ : ∃ us, usedF (List.map (fun x => x.f) pre) = us := ⟨_, rfl⟩
    rw [hUS] at e6 hus
    have HUS := Lib.hid hUS
    clear hUS hul hp
    have hbx5 : Bx ≠ N := by omega
    have hbN : N + 1 ≠ N := by omega
    gi_wp2_with fail
    have s5 := q5.set_ 0 (.slice (some ⟨g', 0, none⟩) (pre.length + 1) cap')
    have s6 := (q6.far (p := ⟨N, 0, none⟩) hbN (.slice (some ⟨g', 0, none⟩) (pre.length + 1) cap'))
    have hu2 : (us : Int) + (7 + (x.f.pdu.length : Int)) = ((usedF ((pre ++ [x]).map (·.f)) : Nat) : Int) := by
      rw [List.map_append]
      show _ = ((usedF (List.map (fun x => x.f) pre ++ [x.f]) : Nat) : Int)
      rw [usedF_snoc, HUS.out]
      omega
    rw [hu2]
    refine ⟨((ko3.trans (KeepsOthers.setCell _ _ _)).trans (KeepsOthers.setCell _ _ _)).from _, ?_, ⟨⟨some ⟨g', 0, none⟩, cap', ?_, ?_⟩, ?_, ?_, ?_⟩⟩
    · rw [HNN.out]
      exact (kb3.setCell (p := ⟨N, 0, none⟩) (Nat.le_refl _) _).setCell (p := ⟨N + 1, 0, none⟩) (Nat.le_succ _) _
    · rw [List.length_append]
      exact s5.far (p := ⟨N + 1, 0, none⟩) (by simp) _
    · rw [List.length_append, fxs_snoc]
      exact (o3.setBlk q5 (by decide) 0 _).setBlk s6 (by decide) 0 _
    · exact s6.set_ 0 _
    · intro y hy
      rcases List.mem_append.1 hy with hy | hy
      · exact ((he3 y hy).setBlk q5 (by decide) 0 _).setBlk s6 (by decide) 0 _
      · simp at hy
        subst hy
        exact (hG3.setBlk q5 (by decide) 0 _).setBlk s6 (by decide) 0 _
    · exact (((hbl.mono (Nat.le_refl _)).trans (HNN.out ▸ kb3)).setCell (p := ⟨N, 0, none⟩) hwN _).setCell (p := ⟨N + 1, 0, none⟩) (Nat.le_succ_of_le hwN) _
  case done =>
    rintro D xs W hD hS ⟨⟨A1, c1, r1, o1⟩, r2, he, hbl⟩ hK
    obtain ⟨k, hk⟩ : ∃ k, (cutF l).2 = k := ⟨_, rfl⟩
    have hu := cutF_usedF l.length l (Nat.le_refl _)
    have hkn := cutF_used l
    rw [← hS, hk] at hu
    rw [hk] at hkn
    have HU := Lib.hid hu
    have HKk := Lib.hid hk
    have HS := Lib.hid hS
    rw [show usedF (xs.map (·.f)) = k from HU.out] at r2
    rw [HN.out] at hkn
    obtain ⟨A2, hsl, hA2⟩ := slice_from_b (hA.below hbl) HN.out hc k hkn
    have HL : Hid ((l.drop k).length = n - k) := by (show _ = _); rw [List.length_drop, HN.out]
    have e5 := r1.cell 0
    have e6 := r2.cell 0
    simp only [List.getElem?_toArray, List.getElem?_cons_zero, List.getElem?_cons_succ] at e5 e6
    clear hk hu hS
    gi_wp2_with fail
    refine ⟨trivial, ?_⟩
    refine (callsIn_wide.2 (mb_begins A2 (n - k) (c - k) (l.drop k) _ hA2 HL.out (hl.drop k) (by omega))).mono ?_
    rintro e w9 ⟨rfl, rfl⟩
    have fin : ∀ r : Nat, cutErr l = r → ∀ a : Array Value, a[2]?.getD undef = .slice A1 xs.length c1 → a[3]?.getD undef = .int .i64 (k : Int) → a[4]?.getD undef = .int .i64 (r : Int) →
        bodyPostM Fence.wide 3 Try.prog Try.f32 (fun e w' => ∃ A' c' xs, xs.map Fx.f = (cutF l).1 ∧
      e = .returned (.tuple #[.slice A' xs.length c', .int .i64 ((cutF l).2 : Nat), .int .i64 (cutErr l : Nat)]) ∧
      OwK w' w.heap.size 37 3 A' xs.length c' (fxs xs) ∧ (∀ x ∈ xs, x.G w.heap.size w') ∧ Below w.heap.size w w') Exit.ret { tmps := a, defers := [{ target := .collected D, args := #[] }] } W.drew := by
      intro r hr a h2 h3 h4
      rw [HNN.out]
      refine ⟨by simp, .inl ⟨_, _, rfl, run_takeDeferred (w := W.drew) hK, ?_⟩⟩
      refine ⟨.tuple #[.slice A1 xs.length c1, .int .i64 (k : Int), .int .i64 (r : Int)], by simp [results, Try.results32, go_sem, h2, h3, h4], A1, c1, xs, HS.out, ?_, ?_, ?_, ?_⟩
      · rw [HKk.out, hr]
      · exact ownsRow_putObj (W := W.drew) o1 _ hK rfl
      · intro x hx
        obtain ⟨g1, g2, g3⟩ := he x hx
        exact ⟨ownsRow_putObj (W := W.drew) g1 _ hK rfl, g2, g3⟩
      · have := hbl.trans (belowK_b (w := w) (Nat.le_refl _) W D _ (.deferred none) (by omega) hK rfl rfl)
        rw [HNN.out] at this
        exact this.drew
    have HFIN := Lib.hid fin
    clear fin
    by_cases hbg : begF (l.drop k) = true
    · have he0 : cutErr l = 0 := by unfold cutErr; rw [HKk.out, if_pos hbg]
      rw [hbg]
      gi_wp2_with fail
      gi_region
      gi_wp2_with fail
      (refine HFIN.out 0 he0 _ ?_ ?_ ?_) <;> rfl
    · have he0 : cutErr l = 10 := by unfold cutErr; rw [HKk.out, if_neg hbg]
      have hbg' : begF (l.drop k) = false := by simpa using hbg
      rw [hbg']
      gi_wp2_with fail
      gi_region
      gi_wp2_with fail
      (refine HFIN.out 10 he0 _ ?_ ?_ ?_) <;> rfl
end Go.Proofs.Ytheepgfafjinoaa
