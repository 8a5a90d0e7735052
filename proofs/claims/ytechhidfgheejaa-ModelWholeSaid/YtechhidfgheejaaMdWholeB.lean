/- Rows away from a block; the rest that the walk of ModelWhole wants (written by gen_mwhole.py). -/
import Derived.Test.YtechhidfgheejaaMdWhole
import Derived.Deep.DeepCutAuto
namespace Go.Proofs.Ytechhidfgheejaa
open Go.RowKit
set_option linter.unusedSimpArgs false
set_option linter.unusedVariables false
section
variable {P : Program} {ops : Array Oper} {Q : Exit → Act → World → Prop} {md : Region.Mode} {S : World → Prop}
theorem goTwoW {i j : Nat} {o o2 : Oper} {fuel : Nat} {listed : Array Bool} {a : Act} {w : World} (hr : Region.ready md ops listed = [i, j]) (ho : ops.toList[i]? = some o) (ho2 : ops.toList[j]? = some o2)
    (h : ∀ K' : Act → World → Prop, Shut (∀ a w, S w → (S w → wpAnyH P md ops Q S fuel (listed.setIfInBounds i true) a w) → K' a w) → if Region.wanted o (yielded ops a.tmps) = true then Oper.wp P o a w K' Q else K' (a.put o.dst undef) w)
    (h2 : ∀ K' : Act → World → Prop, Shut (∀ a w, S w → (S w → wpAnyH P md ops Q S fuel (listed.setIfInBounds j true) a w) → K' a w) → if Region.wanted o2 (yielded ops a.tmps) = true then Oper.wp P o2 a w K' Q else K' (a.put o2.dst undef) w) :
    wpAnyH P md ops Q S (fuel + 1) listed a w :=
  wpAnyH_ready hr (by simp) (AllReadyH.cons (by rw [← Array.getElem?_toList]; exact ho) h (AllReadyH.cons (by rw [← Array.getElem?_toList]; exact ho2) h2 AllReadyH.nil))
theorem goThreeW {i j k : Nat} {o o2 o3 : Oper} {fuel : Nat} {listed : Array Bool} {a : Act} {w : World} (hr : Region.ready md ops listed = [i, j, k]) (ho : ops.toList[i]? = some o) (ho2 : ops.toList[j]? = some o2) (ho3 : ops.toList[k]? = some o3)
    (h : ∀ K' : Act → World → Prop, Shut (∀ a w, S w → (S w → wpAnyH P md ops Q S fuel (listed.setIfInBounds i true) a w) → K' a w) → if Region.wanted o (yielded ops a.tmps) = true then Oper.wp P o a w K' Q else K' (a.put o.dst undef) w)
    (h2 : ∀ K' : Act → World → Prop, Shut (∀ a w, S w → (S w → wpAnyH P md ops Q S fuel (listed.setIfInBounds j true) a w) → K' a w) → if Region.wanted o2 (yielded ops a.tmps) = true then Oper.wp P o2 a w K' Q else K' (a.put o2.dst undef) w)
    (h3 : ∀ K' : Act → World → Prop, Shut (∀ a w, S w → (S w → wpAnyH P md ops Q S fuel (listed.setIfInBounds k true) a w) → K' a w) → if Region.wanted o3 (yielded ops a.tmps) = true then Oper.wp P o3 a w K' Q else K' (a.put o3.dst undef) w) :
    wpAnyH P md ops Q S (fuel + 1) listed a w :=
  wpAnyH_ready hr (by simp) (AllReadyH.cons (by rw [← Array.getElem?_toList]; exact ho) h (AllReadyH.cons (by rw [← Array.getElem?_toList]; exact ho2) h2 (AllReadyH.cons (by rw [← Array.getElem?_toList]; exact ho3) h3 AllReadyH.nil)))
end
/-- a row that does not lie in block g -/
def Away (g : Nat) (w : World) (A : Option Addr) (xs : List Value) : Prop := xs = [] ∨ ∃ b off, A = some ⟨b, off, none⟩ ∧ b ≠ g ∧ ∀ j u, xs[j]? = some u → w.cell? ⟨b, off + j, none⟩ = some u
section
variable {w w' : World} {g g' B : Nat} {A : Option Addr} {xs : List Value} {x0 x1 x2 x3 x4 x5 : Value}
theorem Rd.away (h : Rd w A xs) (hg : w.heap.size ≤ g) : Away g w A xs := by
  rcases h with h | ⟨b, off, hA, hc⟩
  · exact .inl h
  · rcases xs with _ | ⟨y, ys⟩
    · exact .inl rfl
    · have := World.block_lt_of_cell? w _ (hc 0 y rfl)
      exact .inr ⟨b, off, hA, by simp only at this; omega, hc⟩
theorem RdN.away (h : RdN B w A xs) (hg : g < B) : Away g w A xs := by
  rcases h with h | ⟨b, off, hA, hB, hc⟩
  · exact .inl h
  · exact .inr ⟨b, off, hA, by omega, hc⟩
theorem Away.below (h : Away g w A xs) (hb : Below w.heap.size w w') : Away g w' A xs := by
  rcases h with h | ⟨b, off, hA, hB, hc⟩
  · exact .inl h
  · exact .inr ⟨b, off, hA, hB, fun j u hu => (hb.cell (World.block_lt_of_cell? w _ (hc j u hu))).trans (hc j u hu)⟩
theorem Away.rd (h : Away g w A xs) : Rd w A xs := by
  rcases h with h | ⟨b, off, hA, hB, hc⟩
  · exact .inl h
  · exact .inr ⟨b, off, hA, hc⟩
theorem Away.put4 (h : Away g w A xs) (h2 : Away g' w A xs) : Away g' ((((w.setCell ⟨g, 0, none⟩ x0).setCell ⟨g, 1, none⟩ x1).setCell ⟨g, 2, none⟩ x2).setCell ⟨g, 3, none⟩ x3) A xs := by
  rcases h with h | ⟨b, off, hA, hB, hc⟩
  · exact .inl h
  · rcases h2 with h2 | ⟨b', off', hA', hB', -⟩
    · exact .inl h2
    · rw [hA] at hA'
      injection hA' with hA'
      injection hA' with e1 e2
      subst e1 e2
      have hf : ∀ (W : World) (i j : Nat) (v : Value), (W.setCell ⟨g, i, none⟩ v).cell? ⟨b, off + j, none⟩ = W.cell? ⟨b, off + j, none⟩ := fun W i j v => World.cell?_setCell_far W _ _ v (by simp only; intro e; exact hB e.symm)
      refine .inr ⟨b, off, hA, hB', fun j u hu => ?_⟩
      rw [hf, hf, hf, hf]
      exact hc j u hu
theorem Away.put6 (h : Away g w A xs) : Rd ((((((w.setCell ⟨g, 0, none⟩ x0).setCell ⟨g, 1, none⟩ x1).setCell ⟨g, 2, none⟩ x2).setCell ⟨g, 3, none⟩ x3).setCell ⟨g, 4, none⟩ x4).setCell ⟨g, 5, none⟩ x5) A xs := by
  rcases h with h | ⟨b, off, hA, hB, hc⟩
  · exact .inl h
  · have hf : ∀ (W : World) (i j : Nat) (v : Value), (W.setCell ⟨g, i, none⟩ v).cell? ⟨b, off + j, none⟩ = W.cell? ⟨b, off + j, none⟩ := fun W i j v => World.cell?_setCell_far W _ _ v (by simp only; intro e; exact hB e.symm)
    refine .inr ⟨b, off, hA, fun j u hu => ?_⟩
    rw [hf, hf, hf, hf, hf, hf]
    exact hc j u hu
end
structure MmA (g : Nat) (w : World) (m : Mm) (A1 A2 A3 A4 : Option Addr) : Prop where
  coils : Away g w A1 (os m.coils)
  inputs : Away g w A2 (os m.inputs)
  holding : Away g w A3 (ws m.holding)
  words : Away g w A4 (ws m.words)
section
variable {w w' : World} {g g' B : Nat} {m : Mm} {A1 A2 A3 A4 : Option Addr} {x0 x1 x2 x3 x4 x5 : Value}
theorem MmR.away (h : MmR w m A1 A2 A3 A4) (hg : w.heap.size ≤ g) : MmA g w m A1 A2 A3 A4 := ⟨h.coils.away hg, h.inputs.away hg, h.holding.away hg, h.words.away hg⟩
theorem MmN.away (h : MmN B w m A1 A2 A3 A4) (hg : g < B) : MmA g w m A1 A2 A3 A4 := ⟨h.coils.away hg, h.inputs.away hg, h.holding.away hg, h.words.away hg⟩
theorem MmA.below (h : MmA g w m A1 A2 A3 A4) (hb : Below w.heap.size w w') : MmA g w' m A1 A2 A3 A4 := ⟨h.coils.below hb, h.inputs.below hb, h.holding.below hb, h.words.below hb⟩
theorem MmA.put4 (h : MmA g w m A1 A2 A3 A4) (h2 : MmA g' w m A1 A2 A3 A4) : MmA g' ((((w.setCell ⟨g, 0, none⟩ x0).setCell ⟨g, 1, none⟩ x1).setCell ⟨g, 2, none⟩ x2).setCell ⟨g, 3, none⟩ x3) m A1 A2 A3 A4 := ⟨h.coils.put4 h2.coils, h.inputs.put4 h2.inputs, h.holding.put4 h2.holding, h.words.put4 h2.words⟩
theorem MmA.put6 (h : MmA g w m A1 A2 A3 A4) : MmR ((((((w.setCell ⟨g, 0, none⟩ x0).setCell ⟨g, 1, none⟩ x1).setCell ⟨g, 2, none⟩ x2).setCell ⟨g, 3, none⟩ x3).setCell ⟨g, 4, none⟩ x4).setCell ⟨g, 5, none⟩ x5) m A1 A2 A3 A4 := ⟨h.coils.put6, h.inputs.put6, h.holding.put6, h.words.put6⟩
end
theorem Blk.ne {w : World} {g g' : Nat} {t t' : TypeId} {cs cs' : Array Value} (h : Blk w g t cs) (h' : Blk w g' t' cs') (hne : t ≠ t') : g ≠ g' := by
  intro e
  subst e
  unfold Blk at h h'
  rw [h] at h'
  injection h' with h'
  injection h' with _ h2
  exact hne h2
theorem law_DoN (s : Sp) (q : Q8) (m : Mm) (p : Q8) (a : Ak) (A : Option Addr) (c : Nat) (B : Option Addr) (d : Nat) (w : World) (n : Mm) (r : Rp) (hn : doM s m a = (n, r)) (hS : SpR w s q) (hsk : s.ok) (hsf : s.few 1000000) (hM : MmR w m p.A1 p.A2 p.A3 p.A4) (hmf : m.few 100000)
    (hR : AkR w a A B) (hok : a.ok) (hw : a.words.length ≤ 1000000) (hk : a.bits.length ≤ 1000000) :
    Calls Try.prog 19 #[s.v q, m.v p.A1 p.c1 p.A2 p.c2 p.A3 p.c3 p.A4 p.c4, a.v A c B d] w fun e w' =>
      ∃ (p' : Q8) (A' : Option Addr) (c' : Nat) (B' : Option Addr) (d' : Nat), e = .returned (.tuple #[n.v p'.A1 p'.c1 p'.A2 p'.c2 p'.A3 p'.c3 p'.A4 p'.c4, r.v A' c' B' d']) ∧ MmN w.heap.size w' n p'.A1 p'.A2 p'.A3 p'.A4 ∧ Below w.heap.size w w' := by
  refine (md_Do s q m p a A c B d w hS hsk hsf hM hmf hR hok hw hk).mono ?_
  intro e w' hd
  rw [hn] at hd
  obtain ⟨P1, q1, P2, q2, P3, q3, P4, q4, A', c', B', d', he, hm, -, hr, hc, hb⟩ := hd
  exact ⟨⟨P1, q1, P2, q2, P3, q3, P4, q4⟩, A', c', B', d', he, hm, hb⟩
theorem slice_one_w (g n c : Nat) (hc : 1 ≤ c) (W : World) : (Instr.slice 26 (.slice (some ⟨g, 0, none⟩) n c) none (some (.int .i64 1)) none).run Try.prog W = .ok (.slice (some ⟨g, 0, none⟩) 1 c) W := by
  rw [run_slice_h W 26 (some ⟨g, 0, none⟩) n c (by kernel_rfl) .i64 1 (by omega) (by omega), size_w]
  have hadd : (⟨g, 0, none⟩ : Addr).add 0 = ⟨g, 0, none⟩ := by unfold Addr.add; split <;> simp_all
  simp [Go.sliced, hadd]
def fillTo (c j : Nat) : List Nat := upTo j ++ List.replicate (c - j) 0
theorem fillTo_len {c j : Nat} (h : j ≤ c) : (fillTo c j).length = c := by unfold fillTo; rw [List.length_append, upTo_len, List.length_replicate]; omega
theorem fillTo_set {c j : Nat} (h : j < c) : (fillTo c j).set j (j + 1) = fillTo c (j + 1) := by
  unfold fillTo
  rw [List.set_append_right _ _ (by rw [upTo_len]; omega), upTo_len, Nat.sub_self, show c - j = (c - (j + 1)) + 1 by omega, List.replicate_succ, List.set_cons_zero]
  have : upTo (j + 1) = upTo j ++ [j + 1] := by unfold upTo; rw [List.range_succ, List.map_append]; rfl
  rw [this, List.append_assoc]
  rfl
theorem upTo_Ws {c : Nat} (h : c ≤ 1000) : Ws (upTo c) := by intro x hx; simp [upTo] at hx; omega
def whQ (g : Nat) : Q8 := ⟨none, 0, none, 0, some ⟨g, 0, none⟩, 1, none, 0⟩
def whP (g n : Nat) : Q8 := ⟨none, 0, none, 0, some ⟨g, 0, none⟩, n, none, 0⟩

end Go.Proofs.Ytechhidfgheejaa
