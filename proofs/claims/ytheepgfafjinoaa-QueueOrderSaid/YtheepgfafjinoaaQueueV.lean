/- The queue's methods, told of who waits: a plain list. -/
import Derived.Test.YtheepgfafjinoaaQueueB
namespace Go.Proofs.Ytheepgfafjinoaa
open Go.RowKit
set_option linter.unusedSimpArgs false
set_option linter.unusedVariables false

theorem view_get (r : List Nat) (h m i : Nat) : (view r h m)[i]? = if i < m then some (r.getD ((h + i) % 32) 0) else none := by
  unfold view
  rw [List.getElem?_map]
  by_cases hi : i < m
  · rw [List.getElem?_range hi, if_pos hi]; rfl
  · rw [List.getElem?_eq_none (by simp; omega), if_neg hi]; rfl
theorem getD_set (r : List Nat) (p x q : Nat) (hp : p < r.length) : (r.set p x).getD q 0 = if p = q then x else r.getD q 0 := by
  simp only [List.getD_eq_getElem?_getD, List.getElem?_set]
  by_cases e : p = q
  · subst e; simp [hp]
  · simp [e]
theorem view_set (r : List Nat) (h m tx : Nat) (hr : r.length = 32) (hm : m < 32) : view (r.set ((h + m) % 32) tx) h (m + 1) = view r h m ++ [tx] := by
  rw [view_snoc, getD_set _ _ _ _ (by omega), if_pos rfl]
  congr 1
  unfold view
  refine List.map_congr_left fun i hi => ?_
  rw [List.mem_range] at hi
  rw [getD_set _ _ _ _ (by omega), if_neg (by omega)]
theorem view_tail (r : List Nat) (h m : Nat) : view r ((h + 1) % 32) (m - 1) = (view r h m).drop 1 := by
  apply List.ext_getElem?
  intro i
  rw [List.getElem?_drop, view_get, view_get, show ((h + 1) % 32 + i) % 32 = (h + (1 + i)) % 32 by omega]
  by_cases hi : 1 + i < m
  · rw [if_pos (by omega), if_pos hi]
  · rw [if_neg (by omega), if_neg hi]
theorem movR_getD (r : List Nat) (h i : Nat) (hr : r.length = 32) : ∀ j t, t < 32 → i + j < 32 →
    (movR r h i j).getD ((h + t) % 32) 0 = if i ≤ t ∧ t < i + j then r.getD ((h + (t + 1)) % 32) 0 else r.getD ((h + t) % 32) 0 := by
  intro j
  induction j with
  | zero => intro t ht hij; rw [if_neg (by omega)]; rfl
  | succ j ih =>
    intro t ht hij
    show ((movR r h i j).set ((h + (i + j)) % 32) ((movR r h i j).getD ((h + (i + 1 + j)) % 32) 0)).getD ((h + t) % 32) 0 = _
    rw [getD_set _ _ _ _ (by rw [movR_length]; omega)]
    by_cases e : t = i + j
    · subst e
      rw [if_pos rfl, ih (i + 1 + j) (by omega) (by omega), if_neg (by omega), if_pos (by omega), show i + 1 + j = i + j + 1 by omega]
    · rw [if_neg (by omega), ih t ht (by omega)]
      by_cases h1 : i ≤ t ∧ t < i + j
      · rw [if_pos h1, if_pos (by omega)]
      · rw [if_neg h1, if_neg (by omega)]
theorem view_mov (r : List Nat) (h m i : Nat) (hr : r.length = 32) (hm : m ≤ 32) (hi : i < m) : view (movR r h i (m - 1 - i)) h (m - 1) = (view r h m).eraseIdx i := by
  apply List.ext_getElem?
  intro t
  rw [List.getElem?_eraseIdx, view_get, view_get, view_get]
  by_cases ht : t < m - 1
  · rw [if_pos ht, movR_getD r h i hr _ _ (by omega) (by omega)]
    by_cases hti : t < i
    · rw [if_pos hti, if_neg (by omega), if_pos (by omega)]
    · rw [if_neg hti, if_pos (by omega), if_pos (by omega)]
  · rw [if_neg ht]
    by_cases hti : t < i
    · omega
    · rw [if_neg hti, if_neg (by omega)]
theorem erase_first : ∀ (L : List Nat) (i tx : Nat), L[i]? = some tx → (∀ t, t < i → L[t]? ≠ some tx) → L.eraseIdx i = L.erase tx
  | x :: L, 0, tx, h, _ => by simp at h; subst h; simp
  | x :: L, i + 1, tx, h, hn => by
    have hx : x ≠ tx := fun e => hn 0 (by omega) (by simp [e])
    have := erase_first L i tx (by simpa using h) (fun t ht => by have := hn (t + 1) (by omega); simpa using this)
    have hb : (x == tx) = false := by simpa using hx
    simp [List.erase_cons, hb, this]

/-- block g is a queue in which the numbers L wait -/
def QV (w : World) (g : Nat) (L : List Nat) (rm mo : Nat) : Prop := ∃ r h, Qb w g r h L.length rm mo ∧ h < 32 ∧ view r h L.length = L ∧ L.length ≤ rm ∧ rm ≤ 32

section
variable {w w' : World} {g : Nat} {L : List Nat} {rm mo : Nat}
theorem QV.lt (q : QV w g L rm mo) : g < w.heap.size := by obtain ⟨r, h, qb, _⟩ := q; exact qb.lt
theorem QV.below (q : QV w g L rm mo) {B : Nat} (hb : Below B w w') (hB : g < B) : QV w' g L rm mo := by
  obtain ⟨r, h, qb, rest⟩ := q; exact ⟨r, h, qb.below hb hB, rest⟩
theorem QV.grown (q : QV w g L rm mo) {row : Option Nat} (hb : w.grownBy w' row) (hne : some g ≠ row) : QV w' g L rm mo := by
  obtain ⟨r, h, qb, rest⟩ := q; exact ⟨r, h, qb.grown hb hne, rest⟩
theorem QV.drewN (q : QV w g L rm mo) (n : Nat) : QV (w.drewN n) g L rm mo := q
theorem QV.drew (q : QV w g L rm mo) : QV w.drew g L rm mo := q
theorem QV.alloc (q : QV w g L rm mo) (o : Obj) : QV (w.alloc o) g L rm mo := q.below ((Below.refl w.heap.size w).alloc (Nat.le_refl _) o) q.lt
theorem QV.len (q : QV w g L rm mo) : L.length ≤ rm ∧ rm ≤ 32 := by obtain ⟨r, h, _, _, _, h1, h2⟩ := q; exact ⟨h1, h2⟩
end

theorem qv_New (room : Nat) (w : World) (hr1 : 1 ≤ room) (hr2 : room ≤ 32) :
    Calls Try.prog 36 #[.int .i64 (room : Int)] w fun e w' => e = .returned (.tuple #[.pointer (some ⟨w.heap.size, 0, none⟩), .int .i64 0]) ∧ QV w' w.heap.size [] room 0 ∧ Below w.heap.size w w' :=
  (q_New room w hr1 hr2).mono fun e w' ⟨he, hq, hb⟩ => ⟨he, ⟨_, 0, hq, by omega, rfl, by simp, hr2⟩, hb⟩

/-- what Put answers -/
def putE (L : List Nat) (rm mo tx : Nat) : Nat := if tx ≤ mo then 2 else if L.length = rm then 5 else 0
def putQ (L : List Nat) (rm mo tx : Nat) : List Nat := if putE L rm mo tx = 0 then L ++ [tx] else L
def putM (L : List Nat) (rm mo tx : Nat) : Nat := if putE L rm mo tx = 0 then tx else mo

theorem qv_Put (g : Nat) (L : List Nat) (rm mo tx : Nat) (w : World) (q : QV w g L rm mo) :
    Calls Try.prog 42 #[.pointer (some ⟨g, 0, none⟩), .int .u32 (tx : Int)] w fun e w' => e = .returned (.int .i64 (putE L rm mo tx : Nat)) ∧ QV w' g (putQ L rm mo tx) rm (putM L rm mo tx) ∧ w.grownBy w' (some g) := by
  obtain ⟨r, h, qb, hh, hv, h1, h2⟩ := q
  by_cases ht : tx ≤ mo
  · have e0 : putE L rm mo tx = 2 := by unfold putE; rw [if_pos ht]
    refine (q_Put_arg g r h L.length rm mo tx w qb ht).mono ?_
    rintro e w' ⟨rfl, rfl⟩
    refine ⟨by rw [e0]; rfl, ?_, grown_refl _ _⟩
    unfold putQ putM
    rw [if_neg (by rw [e0]; decide), if_neg (by rw [e0]; decide)]
    exact ⟨r, h, qb, hh, hv, h1, h2⟩
  · by_cases hf : L.length = rm
    · have e0 : putE L rm mo tx = 5 := by unfold putE; rw [if_neg ht, if_pos hf]
      have qb' := qb
      rw [← hf] at qb'
      refine (q_Put_full g r h L.length mo tx w qb' (by omega)).mono ?_
      rintro e w' ⟨rfl, n, rfl⟩
      refine ⟨by rw [e0]; rfl, ?_, grown_drewN (grown_refl _ _) _⟩
      unfold putQ putM
      rw [if_neg (by rw [e0]; decide), if_neg (by rw [e0]; decide)]
      exact ⟨r, h, qb.drewN n, hh, hv, h1, h2⟩
    · have e0 : putE L rm mo tx = 0 := by unfold putE; rw [if_neg ht, if_neg hf]
      have hr : r.length = 32 := by obtain ⟨cs, hg, qa⟩ := qb; exact qa.len
      refine (q_Put_ok g r h L.length rm mo tx w qb (by omega) (by omega) h2 hh).mono ?_
      rintro e w' ⟨rfl, q', gr⟩
      refine ⟨by rw [e0]; rfl, ?_, gr⟩
      unfold putQ putM
      rw [if_pos e0, if_pos e0]
      refine ⟨_, h, by rw [List.length_append]; exact q', hh, ?_, by simp; omega, h2⟩
      rw [List.length_append]
      show view _ h (L.length + 1) = _
      rw [view_set r h L.length tx hr (by omega), hv]

theorem qv_Drop (g : Nat) (L : List Nat) (rm mo tx : Nat) (w : World) (q : QV w g L rm mo) :
    Calls Try.prog 40 #[.pointer (some ⟨g, 0, none⟩), .int .u32 (tx : Int)] w fun e w' => e = .returned (.bool (decide (tx ∈ L))) ∧ QV w' g (L.erase tx) rm mo ∧ w.grownBy w' (some g) := by
  obtain ⟨r, h, qb, hh, hv, h1, h2⟩ := q
  have hr : r.length = 32 := by obtain ⟨cs, hg, qa⟩ := qb; exact qa.len
  have hg : ∀ t, t < L.length → L[t]? = some (r.getD ((h + t) % 32) 0) := by
    intro t ht
    conv => lhs; rw [← hv]
    rw [view_get, if_pos ht]
  refine (q_Drop g r h L.length rm mo tx w qb (by omega) hh).mono ?_
  rintro e w' (⟨rfl, hn, q', gr⟩ | ⟨rfl, i, hi, hn, hx, q', gr⟩)
  · have hnm : tx ∉ L := by
      intro hm
      obtain ⟨t, ht⟩ := List.getElem?_of_mem hm
      have htl := (List.getElem?_eq_some_iff.1 ht).1
      rw [hg t htl] at ht
      injection ht with ht
      exact hn t htl ht
    refine ⟨by simp [hnm], ?_, gr⟩
    rw [List.erase_of_not_mem hnm]
    exact ⟨r, h, q', hh, hv, h1, h2⟩
  · have hxi : L[i]? = some tx := by rw [hg i hi, hx]
    have hm : tx ∈ L := List.mem_of_getElem? hxi
    have he := erase_first L i tx hxi (fun t ht => by rw [hg t (by omega)]; intro e; injection e with e; exact hn t ht e)
    refine ⟨by simp [hm], ?_, gr⟩
    have hlen : (L.erase tx).length = L.length - 1 := List.length_erase_of_mem hm
    have hvL : view r h L.length = L := hv
    by_cases hi0 : i = 0
    · subst hi0
      rw [if_pos rfl] at q'
      refine ⟨r, _, by rw [hlen]; exact q', Nat.mod_lt _ (by omega), ?_, by omega, h2⟩
      rw [hlen, view_tail, hvL, ← he, List.eraseIdx_zero, List.drop_one]
    · rw [if_neg hi0] at q'
      refine ⟨_, h, by rw [hlen]; exact q', hh, ?_, by omega, h2⟩
      rw [hlen, view_mov r h L.length i hr (by omega) hi, hvL, he]

theorem qv_First (g : Nat) (L : List Nat) (rm mo : Nat) (w : World) (q : QV w g L rm mo) :
    Calls Try.prog 43 #[.pointer (some ⟨g, 0, none⟩)] w fun e w' => e = .returned (.tuple #[.int .u32 (L.headD 0 : Nat), .bool (!L.isEmpty)]) ∧ ∃ n, w' = w.drewN n := by
  obtain ⟨r, h, qb, hh, hv, h1, h2⟩ := q
  match L, hv with
  | [], _ =>
    refine (q_First_none g r h rm mo w qb).mono ?_
    rintro e w' ⟨rfl, rfl⟩
    exact ⟨rfl, 0, rfl⟩
  | x :: L, hv =>
    have hr : r.length = 32 := by obtain ⟨cs, hg, qa⟩ := qb; exact qa.len
    have hx : r[h]? = some x := by
      have h0 := view_get r h (L.length + 1) 0
      rw [if_pos (by omega), show (h + 0) % 32 = h by omega] at h0
      have hv0 : (view r h (L.length + 1))[0]? = some x := by
        have : view r h (L.length + 1) = x :: L := hv
        rw [this]; rfl
      rw [h0] at hv0
      injection hv0 with hv0
      rw [← hv0, List.getD_eq_getElem?_getD, List.getElem?_eq_getElem (by omega)]
      rfl
    exact q_First_some g r h L.length rm mo x w qb hh hx

theorem qv_Len (g : Nat) (L : List Nat) (rm mo : Nat) (w : World) (q : QV w g L rm mo) :
    Calls Try.prog 46 #[.pointer (some ⟨g, 0, none⟩)] w fun e w' => e = .returned (.int .i64 (L.length : Int)) ∧ w = w' := by
  obtain ⟨r, h, qb, hh, hv, h1, h2⟩ := q
  exact q_Len g r h L.length rm mo w qb

theorem qv_List (g : Nat) (L : List Nat) (rm mo : Nat) (w : World) (q : QV w g L rm mo) :
    Calls Try.prog 45 #[.pointer (some ⟨g, 0, none⟩)] w fun e w' => ∃ A c, e = .returned (.slice A L.length c) ∧ Ow w' w.heap.size 57 A c (ds L) ∧ Below w.heap.size w w' := by
  obtain ⟨r, h, qb, hh, hv, h1, h2⟩ := q
  refine (q_List g r h L.length rm mo w qb (by omega) hh).mono ?_
  rintro e w' ⟨A, c, he, ho, hb⟩
  rw [hv] at ho
  exact ⟨A, c, he, ho, hb⟩
end Go.Proofs.Ytheepgfafjinoaa
