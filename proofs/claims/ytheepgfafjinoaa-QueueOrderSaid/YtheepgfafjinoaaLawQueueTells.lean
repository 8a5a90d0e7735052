/- saucierlaw26.QueueTells returns true: what is told as numbers are put and dropped is the reference's. -/
import Derived.Test.YtheepgfafjinoaaQueueOps
import Derived.Test.YtheepgfafjinoaaRegion
import Derived.Deep.DeepCutAuto
namespace Go.Proofs.Ytheepgfafjinoaa
open Go.RowKit
set_option linter.unusedSimpArgs false
set_option linter.unusedVariables false

/-- rising numbers, none above mo -/
def Rise (L : List Nat) (mo : Nat) : Prop := L.Pairwise (· < ·) ∧ ∀ x ∈ L, x ≤ mo
theorem Rise.nil : Rise [] 0 := ⟨List.Pairwise.nil, by simp⟩
theorem Rise.nodup {L : List Nat} {mo : Nat} (h : Rise L mo) : L.Nodup := h.1.imp (fun h => by omega)
theorem Rise.put {L : List Nat} {rm mo : Nat} (h : Rise L mo) (tx : Nat) : Rise (putQ L rm mo tx) (putM L rm mo tx) := by
  unfold putQ putM
  by_cases e : putE L rm mo tx = 0
  · rw [if_pos e, if_pos e]
    have ht : mo < tx := by
      unfold putE at e
      by_cases h1 : tx ≤ mo
      · rw [if_pos h1] at e; omega
      · omega
    refine ⟨?_, fun x hx => ?_⟩
    · rw [List.pairwise_append]
      exact ⟨h.1, by simp, fun a ha b hb => by simp at hb; subst hb; have := h.2 a ha; omega⟩
    · rcases List.mem_append.1 hx with hx | hx
      · have := h.2 x hx; omega
      · simp at hx; omega
  · rw [if_neg e, if_neg e]; exact h
theorem Rise.drop {L : List Nat} {mo : Nat} (h : Rise L mo) (tx : Nat) : Rise (L.erase tx) mo :=
  ⟨h.1.sublist List.erase_sublist, fun x hx => h.2 x (List.mem_of_mem_erase hx)⟩
theorem without_erase {L : List Nat} (h : L.Nodup) (tx : Nat) : without L tx = L.erase tx := by
  unfold without
  rw [List.Nodup.erase_eq_filter h]
  refine List.filter_congr fun x hx => ?_
  rw [Bool.eq_iff_iff]
  simp
theorem erase_lt {L : List Nat} (tx n : Nat) (hn : L.length = n) : decide ((L.erase tx).length < n) = decide (tx ∈ L) := by
  rw [Bool.eq_iff_iff, decide_eq_true_iff, decide_eq_true_iff]
  by_cases h : tx ∈ L
  · have := List.length_erase_of_mem h
    have h0 : 0 < L.length := List.length_pos_of_mem h
    exact ⟨fun _ => h, fun _ => by omega⟩
  · rw [List.erase_of_not_mem h]
    exact ⟨fun h' => by omega, fun h' => absurd h' h⟩

/-- what holds at each round's head -/
structure TellS (w : World) (g g7 B7 M : Nat) (wr : World) (L : List Nat) (mo : Nat) (A : Option Addr) (n c : Nat) : Prop where
  q : QV wr g L M mo
  bx : Box3 wr g7 (.int .i64 (M : Int)) (.slice A n c) (.int .u32 (mo : Int))
  ow : Ow wr B7 57 A c (ds L)
  len : L.length = n
  rise : Rise L mo
  bel : Below w.heap.size w wr
  le : B7 ≤ wr.heap.size

section
variable {w wr w' : World} {g g7 B7 M : Nat} {L : List Nat} {mo : Nat} {A : Option Addr} {n c : Nat}
theorem TellS.below (h : TellS w g g7 B7 M wr L mo A n c) (hb : Below wr.heap.size wr w') : TellS w g g7 B7 M w' L mo A n c :=
  ⟨h.q.below hb h.q.lt, h.bx.below hb h.bx.lt, h.ow.below hb, h.len, h.rise, bthen h.bel hb, Nat.le_trans h.le hb.size⟩
theorem TellS.drewN (h : TellS w g g7 B7 M wr L mo A n c) (k : Nat) : TellS w g g7 B7 M (wr.drewN k) L mo A n c :=
  h.below (below_drewN (Below.refl _ _) k)
/-- the queue's own block has turned -/
theorem keepQ {a b d : Value} {xs : List Value} (bx : Box3 wr g7 a b d) (ow : Ow wr B7 57 A c xs) (bel : Below w.heap.size w wr) (le : B7 ≤ wr.heap.size) (hg : wr.grownBy w' (some g)) (hB : w.heap.size ≤ g) (hgg : g < g7) (hg7 : g7 < B7) :
    Box3 w' g7 a b d ∧ Ow w' B7 57 A c xs ∧ Below w.heap.size w w' ∧ B7 ≤ w'.heap.size := by
  have key : ∀ i, w'.cell? ⟨g7, i, none⟩ = wr.cell? ⟨g7, i, none⟩ ∧ w'.frozen? ⟨g7, i, none⟩ = wr.frozen? ⟨g7, i, none⟩ := fun i =>
    ⟨World.cell?_of_block (hg.block g7 bx.lt (by intro e; injection e with e; omega)), World.frozen?_of_block (hg.block g7 bx.lt (by intro e; injection e with e; omega))⟩
  exact ⟨⟨(key 0).1.trans bx.h0, (key 1).1.trans bx.h1, (key 2).1.trans bx.h2, (key 0).2.trans bx.f0, (key 1).2.trans bx.f1, (key 2).2.trans bx.f2⟩, ow.past hg (by omega), bgrow bel hg hB, Nat.le_trans le hg.size⟩
/-- the reference's block is filled anew -/
theorem TellS.store {L2 : List Nat} {mo2 : Nat} {A2 : Option Addr} {n2 c2 : Nat} (h : TellS w g g7 B7 M wr L mo A n c) (hg : g < g7) (hg7 : g7 < B7) (hB : w.heap.size ≤ g) (o2 : Ow wr B7 57 A2 c2 (ds L2)) :
    QV (((wr.setCell ⟨g7, 0, none⟩ (.int .i64 (M : Int))).setCell ⟨g7, 1, none⟩ (.slice A2 n2 c2)).setCell ⟨g7, 2, none⟩ (.int .u32 (mo2 : Int))) g L M mo ∧
    Box3 (((wr.setCell ⟨g7, 0, none⟩ (.int .i64 (M : Int))).setCell ⟨g7, 1, none⟩ (.slice A2 n2 c2)).setCell ⟨g7, 2, none⟩ (.int .u32 (mo2 : Int))) g7 (.int .i64 (M : Int)) (.slice A2 n2 c2) (.int .u32 (mo2 : Int)) ∧
    Ow (((wr.setCell ⟨g7, 0, none⟩ (.int .i64 (M : Int))).setCell ⟨g7, 1, none⟩ (.slice A2 n2 c2)).setCell ⟨g7, 2, none⟩ (.int .u32 (mo2 : Int))) B7 57 A2 c2 (ds L2) ∧
    Below w.heap.size w (((wr.setCell ⟨g7, 0, none⟩ (.int .i64 (M : Int))).setCell ⟨g7, 1, none⟩ (.slice A2 n2 c2)).setCell ⟨g7, 2, none⟩ (.int .u32 (mo2 : Int))) ∧
    B7 ≤ (((wr.setCell ⟨g7, 0, none⟩ (.int .i64 (M : Int))).setCell ⟨g7, 1, none⟩ (.slice A2 n2 c2)).setCell ⟨g7, 2, none⟩ (.int .u32 (mo2 : Int))).heap.size := by
  obtain ⟨h0, h1, h2, f0, f1, f2⟩ := h.bx
  have gr := grown_set (grown_set (grown_set (grown_refl wr (some g7)) 0 (.int .i64 (M : Int))) 1 (.slice A2 n2 c2)) 2 (.int .u32 (mo2 : Int))
  refine ⟨h.q.grown gr (by intro e; injection e with e; omega), ?_, ((o2.far hg7 _ _).far hg7 _ _).far hg7 _ _, ((h.bel.setCell (p := ⟨g7, 0, none⟩) (show w.heap.size ≤ g7 by omega) _).setCell (p := ⟨g7, 1, none⟩) (show w.heap.size ≤ g7 by omega) _).setCell (p := ⟨g7, 2, none⟩) (show w.heap.size ≤ g7 by omega) _, Nat.le_trans h.le gr.size⟩
  constructor <;> simp [go_sem, h0, h1, h2, f0, f1, f2]
end

set_option maxRecDepth 100000 in
set_option maxHeartbeats 4000000 in
theorem QueueTells_walk (room : Int) (A : Option Addr) (n c : Nat) (ops : List Opr) (w : World) (hr : -9223372036854775808 ≤ room ∧ room ≤ 9223372036854775807) (hA : RdOp w A ops) (hn : ops.length = n) (hc : n ≤ c) (hcm : c ≤ 9223372036854775807) :
    Calls Try.prog 11 #[.int .i64 room, .slice A n c] w fun e w' => e = .returned (.bool true) ∧ Below w.heap.size w w' := by
  by_cases hroom : room < 1 ∨ 32 < room
  · have hnew := q_New_no room w hroom
    have HNEW := Lib.hid hnew
    clear hnew
    rcases hroom with hroom | hroom
    · go_enter Try.func11, Try.ntmps11
      go_wp2_with fail
      refine HNEW.out.mono ?_
      rintro e w1 ⟨rfl, rfl⟩
      go_wp2_with fail
      refine (queue_awake _).mono ?_
      rintro e w17 ⟨rfl, hb17⟩
      go_wp2_with fail
      go_ret
      exact ⟨rfl, hb17⟩
    · have h1 : decide (room < 1) = false := by simp; omega
      go_enter Try.func11, Try.ntmps11
      go_wp2_with fail
      refine HNEW.out.mono ?_
      rintro e w1 ⟨rfl, rfl⟩
      go_wp2_with fail
      refine (queue_awake _).mono ?_
      rintro e w17 ⟨rfl, hb17⟩
      go_wp2_with fail
      go_ret
      exact ⟨rfl, hb17⟩
  · obtain ⟨M, rfl⟩ : ∃ M : Nat, room = (M : Int) := ⟨room.toNat, by omega⟩
    have hM1 : 1 ≤ M := by omega
    have hM2 : M ≤ 32 := by omega
    have h1 : decide ((M : Int) < 1) = false := by simp; omega
    have h2 : decide ((32 : Int) < (M : Int)) = false := by simp; omega
    obtain ⟨m, hm⟩ : ∃ m : Nat, m = min n 200 := ⟨_, rfl⟩
    have hmn : m ≤ n := by omega
    have hm2 : m ≤ 200 := by omega
    have hmin : (if (200 : Int) < (n : Int) then (200 : Int) else (n : Int)) = (m : Int) := by split <;> omega
    have hmin2 : ∀ W, (Builtin.min_ #[3, 3] 3 #[.int .i64 (n : Int), .int .i64 200]).run Try.prog W = .ok (.int .i64 (m : Int)) W := by
      intro W
      rw [run_min_int2, hmin]
    have HN := Lib.hid hn
    clear hm hn hroom hmin
    go_enter Try.func11, Try.ntmps11
    go_wp2_with fail
    refine (qv_New M w hM1 hM2).mono ?_
    rintro e w1 ⟨rfl, q1, hb1⟩
    obtain ⟨g, hg⟩ : ∃ g, w.heap.size = g := ⟨_, rfl⟩
    have hgB : w.heap.size ≤ g := by omega
    rw [hg] at q1 ⊢
    clear hg
    have mc : (m : Int) ≤ (c : Int) := by omega
    go_wp2_with fail
    obtain ⟨g7, hg7⟩ : ∃ g7, w1.heap.size = g7 := ⟨_, rfl⟩
    have hgg7 : g < g7 := by rw [← hg7]; exact q1.lt
    have hb2 := hb1.alloc hb1.size (.cells #[.int .i64 (M : Int), .slice none 0 0, .int .u32 0] 59)
    have bx2 := Box3.new w1 59 (.int .i64 (M : Int)) (.slice none 0 0) (.int .u32 0)
    have q2 := q1.alloc (.cells #[.int .i64 (M : Int), .slice none 0 0, .int .u32 0] 59)
    have hs2 : (w1.alloc (.cells #[.int .i64 (M : Int), .slice none 0 0, .int .u32 0] 59)).heap.size = w1.heap.size + 1 := by simp
    generalize w1.alloc (.cells #[.int .i64 (M : Int), .slice none 0 0, .int .u32 0] 59) = w2 at *
    rw [hg7] at bx2 hs2 ⊢
    have hT0 : TellS w g g7 (g7 + 1) M w2 [] 0 none 0 0 := ⟨q2, bx2, Ow.nil, rfl, Rise.nil, hb2, by omega⟩
    clear hg7 hb1 q1 hb2 bx2 q2 hs2 hmin2
    go_loopw [45] (fun i wr => ∃ j : Nat, j ≤ m ∧ i = .int .i64 j ∧ ∃ L mo A7 n7 c7, TellS w g g7 (g7 + 1) M wr L mo A7 n7 c7) (fun i _ => m - (intOf i).toNat)
    case atStart => exact ⟨0, by omega, rfl, _, _, _, _, _, hT0⟩
    case round =>
      obtain ⟨j, hj, rfl, L, mo, A7, n7, c7, hT⟩ := hrel
      clear hT0
      by_cases hlt : j < m
      · have hAr := hA.below hT.bel
        rcases hAr with hAr | ⟨b, off, rfl, hAc⟩
        · exfalso
          have := HN.out
          rw [hAr] at this
          simp at this
          omega
        · obtain ⟨o, ho⟩ : ∃ o, ops[j]? = some o := ⟨_, List.getElem?_eq_getElem (by rw [HN.out]; omega)⟩
          obtain ⟨oa, c0, c1, c2, c3⟩ := hAc j o ho
          have hlb : b < wr.heap.size := World.block_lt_of_cell? wr _ c0
          have hn7 : n7 ≤ 32 := by have := hT.q.len; have := hT.len; omega
          clear hAc ho
          go_upto_region 10 with fail
          obtain ⟨g9, hg9⟩ : ∃ g9, wr.heap.size = g9 := ⟨_, rfl⟩
          have hT3 := hT.below ((Below.refl wr.heap.size wr).alloc (Nat.le_refl _) (.cells #[.bool o.dr, .bool o.by_, .int .u32 (o.tx : Int), .int .u8 (o.at_ : Int)] 61))
          have x0 : (wr.alloc (.cells #[.bool o.dr, .bool o.by_, .int .u32 (o.tx : Int), .int .u8 (o.at_ : Int)] 61)).cell? ⟨g9, 0, none⟩ = some (.bool o.dr) := by rw [← hg9]; simp
          have x1 : (wr.alloc (.cells #[.bool o.dr, .bool o.by_, .int .u32 (o.tx : Int), .int .u8 (o.at_ : Int)] 61)).cell? ⟨g9, 1, none⟩ = some (.bool o.by_) := by rw [← hg9]; simp
          have x2 : (wr.alloc (.cells #[.bool o.dr, .bool o.by_, .int .u32 (o.tx : Int), .int .u8 (o.at_ : Int)] 61)).cell? ⟨g9, 2, none⟩ = some (.int .u32 (o.tx : Int)) := by rw [← hg9]; simp
          have x3 : (wr.alloc (.cells #[.bool o.dr, .bool o.by_, .int .u32 (o.tx : Int), .int .u8 (o.at_ : Int)] 61)).cell? ⟨g9, 3, none⟩ = some (.int .u8 (o.at_ : Int)) := by rw [← hg9]; simp
          rw [hg9]
          generalize wr.alloc (.cells #[.bool o.dr, .bool o.by_, .int .u32 (o.tx : Int), .int .u8 (o.at_ : Int)] 61) = w3 at *
          have y1 := hT3.bx.h1
          clear hT c0 c1 c2 c3 hlb hg9
          go_wp2_with fail
          refine (op_number o A7 n7 c7 L _ hT3.ow.rd hT3.len oa (by omega)).mono ?_
          rintro e w4 ⟨rfl, hb4⟩
          have hT4 := hT3.below hb4
          have z0 := (hb4.cell (p := ⟨g9, 0, none⟩) (World.block_lt_of_cell? w3 _ x0)).trans x0
          obtain ⟨tx, htx⟩ : ∃ tx, numb o L = tx := ⟨_, rfl⟩
          rw [htx]
          clear hT3 x0 x1 x2 x3 y1 hb4 htx
          obtain ⟨y0, y1, y2, f0, f1, f2⟩ := hT4.bx
          go_upto_if 54 with fail
          go_cut [10] (fun v wc => ∃ L' mo' A' n' c', TellS w g g7 (g7 + 1) M wc L' mo' A' n' c')
          case first =>
            cases hdr : o.dr with
            | true =>
              go_wp2_with fail
              refine (r26_Drop A7 n7 c7 M mo tx L _ hT4.ow.rd hT4.len (by omega)).mono ?_
              rintro e w5 ⟨A5, c5, rfl, ho5, hb5⟩
              have hT5 := hT4.below hb5
              rw [without_erase hT4.rise.nodup] at ho5 ⊢
              rw [erase_lt tx n7 hT4.len]
              replace ho5 := ho5.base hT4.le
              obtain ⟨y0, y1, y2, f0, f1, f2⟩ := hT5.bx
              clear hb5
              go_wp2_with fail
              have hS := hT5.store (mo2 := mo) (n2 := (L.erase tx).length) hgg7 (Nat.lt_succ_self g7) hgB ho5
              generalize ((w5.setCell ⟨g7, 0, none⟩ (.int .i64 (M : Int))).setCell ⟨g7, 1, none⟩ (.slice A5 (L.erase tx).length c5)).setCell ⟨g7, 2, none⟩ (.int .u32 (mo : Int)) = w6 at hS ⊢
              obtain ⟨q6, b6, o6, l6, e6⟩ := hS
              clear y0 y1 y2 f0 f1 f2
              refine (qv_Drop g L M mo tx _ q6).mono ?_
              rintro e w7 ⟨rfl, q7, g77⟩
              obtain ⟨b7, o7, l7, e7⟩ := keepQ b6 o6 l6 e6 g77 hgB hgg7 (Nat.lt_succ_self g7)
              have nb : ∀ b : Bool, (b != b) = false := fun b => by cases b <;> rfl
              have nbb := nb (decide (tx ∈ L))
              go_wp2_with fail
              go_meet
              exact ⟨_, _, _, _, _, ⟨q7, b7, o7, rfl, hT4.rise.drop tx, l7, e7⟩⟩
            | false =>
              have hput : Calls Try.prog 41 #[.agg #[.int .i64 (M : Int), .slice A7 n7 c7, .int .u32 (mo : Int)], .int .u32 (tx : Int)] w4 fun e w' =>
                  ∃ A' c', e = .returned (.tuple #[.agg #[.int .i64 (M : Int), .slice A' (putQ L M mo tx).length c', .int .u32 (putM L M mo tx : Nat)], .int .i64 (putE L M mo tx : Nat)]) ∧ Ow w' (g7 + 1) 57 A' c' (ds (putQ L M mo tx)) ∧ Below w4.heap.size w4 w' := by
                have hlen := hT4.q.len
                have hl := hT4.len
                by_cases ht : tx ≤ mo
                · have e0 : putE L M mo tx = 2 := by unfold putE; rw [if_pos ht]
                  refine (r26_Put_arg A7 n7 c7 M mo tx w4 ht).mono ?_
                  rintro e w' ⟨rfl, hb⟩
                  unfold putQ putM
                  rw [if_neg (by rw [e0]; decide), if_neg (by rw [e0]; decide), e0]
                  exact ⟨A7, c7, by rw [hl]; rfl, hT4.ow.below hb, hb⟩
                · by_cases hf : L.length = M
                  · have e0 : putE L M mo tx = 5 := by unfold putE; rw [if_neg ht, if_pos hf]
                    refine (r26_Put_full A7 n7 c7 M mo tx w4 (by omega) (by omega)).mono ?_
                    rintro e w' ⟨rfl, hb⟩
                    unfold putQ putM
                    rw [if_neg (by rw [e0]; decide), if_neg (by rw [e0]; decide), e0]
                    exact ⟨A7, c7, by rw [hl]; rfl, hT4.ow.below hb, hb⟩
                  · have e0 : putE L M mo tx = 0 := by unfold putE; rw [if_neg ht, if_neg hf]
                    refine (r26_Put_ok A7 n7 c7 M mo tx L w4 hT4.ow.rd hl (by omega) (by omega) (by omega)).mono ?_
                    rintro e w' ⟨A', c', rfl, ho, hb⟩
                    unfold putQ putM
                    rw [if_pos e0, if_pos e0, e0]
                    exact ⟨A', c', by rw [List.length_append, hl]; rfl, ho.base hT4.le, hb⟩
              have HPUT := Lib.hid hput
              clear hput
              go_wp2_with fail
              refine HPUT.out.mono ?_
              rintro e w5 ⟨A5, c5, rfl, ho5, hb5⟩
              have hT5 := hT4.below hb5
              obtain ⟨y0, y1, y2, f0, f1, f2⟩ := hT5.bx
              clear hb5 HPUT
              go_wp2_with fail
              have hS := hT5.store (mo2 := putM L M mo tx) (n2 := (putQ L M mo tx).length) hgg7 (Nat.lt_succ_self g7) hgB ho5
              generalize ((w5.setCell ⟨g7, 0, none⟩ (.int .i64 (M : Int))).setCell ⟨g7, 1, none⟩ (.slice A5 (putQ L M mo tx).length c5)).setCell ⟨g7, 2, none⟩ (.int .u32 (putM L M mo tx : Nat)) = w6 at hS ⊢
              obtain ⟨q6, b6, o6, l6, e6⟩ := hS
              clear y0 y1 y2 f0 f1 f2
              refine (qv_Put g L M mo tx _ q6).mono ?_
              rintro e w7 ⟨rfl, q7, g77⟩
              obtain ⟨b7, o7, l7, e7⟩ := keepQ b6 o6 l6 e6 g77 hgB hgg7 (Nat.lt_succ_self g7)
              have nbb : (((putE L M mo tx : Nat) : Int) != ((putE L M mo tx : Nat) : Int)) = false := by simp
              go_wp2_with fail
              go_meet
              exact ⟨_, _, _, _, _, ⟨q7, b7, o7, rfl, hT4.rise.put tx, l7, e7⟩⟩
          case rest =>
            obtain ⟨L1, mo', A', n', c', hTc⟩ := hcut
            clear hT4 z0 y0 y1 y2 f0 f1 f2 hn7
            cases L1 with
            | nil =>
              go_wp2_with fail
              refine (qv_First g [] M mo' _ hTc.q).mono ?_
              rintro e w8 ⟨rfl, nd, rfl⟩
              have hT9 := hTc.drewN nd
              generalize wc.drewN nd = w9 at hT9 ⊢
              clear hTc
              rw [show (([] : List Nat).headD 0) = 0 from rfl, show (!([] : List Nat).isEmpty) = false from rfl]
              go_wp2_with fail
              · have hl9 : n' = 0 := by have := hT9.len; simp at this; omega
                subst hl9
                have HL9 : Hid (([] : List Nat).length = 0) := rfl
                have hn9 : 0 ≤ 1000000 := by omega
                have K0 : Hid (∀ W : World, TellS w g g7 (g7 + 1) M W [] mo' A' 0 c' → W.cell? ⟨g7, 1, none⟩ = some (.slice A' 0 c') ∧ True ∧ TellS w g g7 (g7 + 1) M W [] mo' A' 0 c') := fun W hW => ⟨hW.bx.h1, trivial, hW⟩
                obtain ⟨r9, h9, qb9, hh9, hv9, h19, h29⟩ := hT9.q
                have y1 := hT9.bx.h1
                go_quiet ((first
                  | (go_at_call 45; exact Calls.quiet_of_same ((q_List_none g r9 h9 M mo' _ (by exact qb9)).mono fun e w' ⟨he, hw⟩ => ⟨he, hw.symm⟩))
                  | (go_at_call 44; exact Calls.quiet_of ((l26_same none A' 0 0 0 c' [] [] _ Rd.nil Rd.nil rfl rfl (by omega) (by omega))))
                  | (go_at_call 46; exact Calls.quiet_of_same ((q_Len g r9 h9 0 M mo' _ (by exact qb9)).mono fun e w' ⟨he, hw⟩ => ⟨he, hw.symm⟩))))
                go_wp2_with fail
                go_roundw
                case rel => exact ⟨j + 1, by omega, by go_num, _, _, _, _, _, hT9.drewN nq⟩
                case measure => simp [intOf]; omega
            | cons x L' =>
              go_wp2_with fail
              refine (qv_First g (x :: L') M mo' _ hTc.q).mono ?_
              rintro e w8 ⟨rfl, nd, rfl⟩
              have hT9 := hTc.drewN nd
              generalize wc.drewN nd = w9 at hT9 ⊢
              clear hTc
              rw [show ((x :: L').headD 0) = x from rfl, show (!(x :: L').isEmpty) = true from rfl]
              go_wp2_with fail
              · obtain ⟨b0, o0, x0, hx0, hx1, hx2⟩ := hT9.ow.rd.dword (k := 0) (by simp)
                obtain rfl : x0 = x := by simpa using hx1.symm
                subst hx0
                clear hx1 hx2
                have K0 : Hid (∀ W : World, TellS w g g7 (g7 + 1) M W (x0 :: L') mo' (some ⟨b0, o0, none⟩) n' c' → W.cell? ⟨g7, 1, none⟩ = some (.slice (some ⟨b0, o0, none⟩) n' c') ∧ W.cell? ⟨b0, o0, none⟩ = some (.int .u32 (x0 : Int)) ∧ TellS w g g7 (g7 + 1) M W (x0 :: L') mo' (some ⟨b0, o0, none⟩) n' c') := by
                  (show ∀ _ : World, _ → _)
                  intro W hW
                  obtain ⟨b1, o1, x1, e1, e2, e3⟩ := hW.ow.rd.dword (k := 0) (by simp)
                  injection e1 with e1
                  injection e1 with e4 e5
                  subst e4 e5
                  refine ⟨hW.bx.h1, ?_, hW⟩
                  have e6 : x0 = x1 := by simpa using e2
                  rw [e6]
                  exact e3
                have hn0 : decide ((0 : Int) < (n' : Int)) = true := by simp; have := hT9.len; simp at this; omega
                have hn2 : decide (0 < n') = true := by simp; have := hT9.len; simp at this; omega
                have hn3 : 0 < n' := by have := hT9.len; simp at this; omega
                have tt : (true != true) = false := rfl
                have hn1 : (0 : Int) < (n' : Int) := by have := hT9.len; simp at this; omega
                have nn : ((n' : Int) != (n' : Int)) = false := by simp
                have xx : ((x0 : Int) != (x0 : Int)) = false := by simp
                have HL9 := Lib.hid hT9.len
                have hn9 : n' ≤ 1000000 := by have := hT9.q.len; have := hT9.len; omega
                have hT10 := hT9.below (Below.refl _ _).drew
                -- REGION 21 BEGIN
                refine wp_region_held_drew (S := fun w' => w'.cell? ⟨g7, 1, none⟩ = some (.slice (some ⟨b0, o0, none⟩) n' c') ∧ w'.cell? ⟨b0, o0, none⟩ = some (.int .u32 (x0 : Int)) ∧ TellS w g g7 (g7 + 1) M w' (x0 :: L') mo' (some ⟨b0, o0, none⟩) n' c') (by kernel_rfl) ?_ (fun hHeld => ?_)
                · first | exact K0.out _ hT10 | exact K0.out _ (hS.below hb8) | exact K0.out _ (hS.drewN nd8) | exact K0.out _ hS
                refine takeRun (i := 0) (v := ?_) rfl (by kernel_rfl) (by kernel_rfl) (by kernel_rfl) (fun _ _ _ h => h) rfl ?_ (by assumption) ?_
                rotate_left
                · (intro w hSw; (try dsimp only at hSw); go_simp; (try with_reducible rfl))
                try simp only [Act.put, List.setIfInBounds_toArray, List.set_cons_zero, List.set_cons_succ]
                refine takeRun (i := 2) (v := ?_) rfl (by kernel_rfl) (by kernel_rfl) (by kernel_rfl) (fun _ _ _ h => h) rfl ?_ (by assumption) ?_
                rotate_left
                · (intro w hSw; (try dsimp only at hSw); go_simp; (try with_reducible rfl))
                try simp only [Act.put, List.setIfInBounds_toArray, List.set_cons_zero, List.set_cons_succ]
                refine takeRun (i := 3) (v := ?_) rfl (by kernel_rfl) (by kernel_rfl) (by kernel_rfl) (fun _ _ _ h => h) rfl ?_ (by assumption) ?_
                rotate_left
                · (intro w hSw; (try dsimp only at hSw); go_simp; (try with_reducible rfl))
                try simp only [Act.put, List.setIfInBounds_toArray, List.set_cons_zero, List.set_cons_succ]
                refine goOne (i := 1) (by kernel_rfl) rfl (fun K hK => ?_)
                go_simp
                (have hS := hHeld.2.2; refine (qv_List g (x0 :: L') M mo' _ hS.q).mono ?_; rintro e w8 ⟨A8, c8, rfl, ho8, hb8⟩; rw [HL9.out])
                go_wp2_with fail
                refine hK.out _ _ ?_ (fun hHeld => ?_)
                · first | exact K0.out _ hT10 | exact K0.out _ (hS.below hb8) | exact K0.out _ (hS.drewN nd8) | exact K0.out _ hS
                clear hK K
                try simp only [Act.put, List.setIfInBounds_toArray, List.set_cons_zero, List.set_cons_succ]
                refine goOne (i := 4) (by kernel_rfl) rfl (fun K hK => ?_)
                go_simp
                (have hS := hHeld.2.2; refine (l26_same A8 (some ⟨b0, o0, none⟩) n' c8 n' c' (x0 :: L') (x0 :: L') _ (by exact ho8.rd) (by exact hS.ow.rd) HL9.out HL9.out (by omega) (by omega)).mono ?_; rintro e w10 ⟨rfl, nd8, rfl⟩; rw [sameB_self])
                go_wp2_with fail
                refine hK.out _ _ ?_ (fun hHeld => ?_)
                · first | exact K0.out _ hT10 | exact K0.out _ (hS.below hb8) | exact K0.out _ (hS.drewN nd8) | exact K0.out _ hS
                clear hK K
                try simp only [Act.put, List.setIfInBounds_toArray, List.set_cons_zero, List.set_cons_succ]
                refine takeRun (i := 5) (v := ?_) rfl (by kernel_rfl) (by kernel_rfl) (by kernel_rfl) (fun _ _ _ h => h) rfl ?_ (by assumption) ?_
                rotate_left
                · (intro w hSw; (try dsimp only at hSw); go_simp; (try with_reducible rfl))
                try simp only [Act.put, List.setIfInBounds_toArray, List.set_cons_zero, List.set_cons_succ]
                refine takeRun (i := 6) (v := ?_) rfl (by kernel_rfl) (by kernel_rfl) (by kernel_rfl) (fun _ _ _ h => h) rfl ?_ (by assumption) ?_
                rotate_left
                · (intro w hSw; (try dsimp only at hSw); go_simp; (try with_reducible rfl))
                try simp only [Act.put, List.setIfInBounds_toArray, List.set_cons_zero, List.set_cons_succ]
                refine takeRun (i := 7) (v := ?_) rfl (by kernel_rfl) (by kernel_rfl) (by kernel_rfl) (fun _ _ _ h => h) rfl ?_ (by assumption) ?_
                rotate_left
                · (intro w hSw; (try dsimp only at hSw); go_simp; (try with_reducible rfl))
                try simp only [Act.put, List.setIfInBounds_toArray, List.set_cons_zero, List.set_cons_succ]
                refine takeRun (i := 9) (v := ?_) rfl (by kernel_rfl) (by kernel_rfl) (by kernel_rfl) (fun _ _ _ h => h) rfl ?_ (by assumption) ?_
                rotate_left
                · (intro w hSw; (try dsimp only at hSw); go_simp; (try with_reducible rfl))
                try simp only [Act.put, List.setIfInBounds_toArray, List.set_cons_zero, List.set_cons_succ]
                refine takeRun (i := 10) (v := ?_) rfl (by kernel_rfl) (by kernel_rfl) (by kernel_rfl) (fun _ _ _ h => h) rfl ?_ (by assumption) ?_
                rotate_left
                · (intro w hSw; (try dsimp only at hSw); go_simp; (try with_reducible rfl))
                try simp only [Act.put, List.setIfInBounds_toArray, List.set_cons_zero, List.set_cons_succ]
                refine takeRun (i := 11) (v := ?_) rfl (by kernel_rfl) (by kernel_rfl) (by kernel_rfl) (fun _ _ _ h => h) rfl ?_ (by assumption) ?_
                rotate_left
                · (intro w hSw; (try dsimp only at hSw); go_simp; (try with_reducible rfl))
                try simp only [Act.put, List.setIfInBounds_toArray, List.set_cons_zero, List.set_cons_succ]
                refine goOne (i := 8) (by kernel_rfl) rfl (fun K hK => ?_)
                go_simp
                (have hS := hHeld.2.2; refine (qv_Len g (x0 :: L') M mo' _ hS.q).mono ?_; rintro e w10 ⟨rfl, rfl⟩; rw [HL9.out])
                go_wp2_with fail
                refine hK.out _ _ ?_ (fun hHeld => ?_)
                · first | exact K0.out _ hT10 | exact K0.out _ (hS.below hb8) | exact K0.out _ (hS.drewN nd8) | exact K0.out _ hS
                clear hK K
                try simp only [Act.put, List.setIfInBounds_toArray, List.set_cons_zero, List.set_cons_succ]
                refine takeRun (i := 12) (v := ?_) rfl (by kernel_rfl) (by kernel_rfl) (by kernel_rfl) (fun _ _ _ h => h) rfl ?_ (by assumption) ?_
                rotate_left
                · (intro w hSw; (try dsimp only at hSw); go_simp; (try with_reducible rfl))
                try simp only [Act.put, List.setIfInBounds_toArray, List.set_cons_zero, List.set_cons_succ]
                refine takeRun (i := 13) (v := ?_) rfl (by kernel_rfl) (by kernel_rfl) (by kernel_rfl) (fun _ _ _ h => h) rfl ?_ (by assumption) ?_
                rotate_left
                · (intro w hSw; (try dsimp only at hSw); go_simp; (try with_reducible rfl))
                try simp only [Act.put, List.setIfInBounds_toArray, List.set_cons_zero, List.set_cons_succ]
                refine takeRun (i := 14) (v := ?_) rfl (by kernel_rfl) (by kernel_rfl) (by kernel_rfl) (fun _ _ _ h => h) rfl ?_ (by assumption) ?_
                rotate_left
                · (intro w hSw; (try dsimp only at hSw); go_simp; (try with_reducible rfl))
                try simp only [Act.put, List.setIfInBounds_toArray, List.set_cons_zero, List.set_cons_succ]
                refine takeRun (i := 15) (v := ?_) rfl (by kernel_rfl) (by kernel_rfl) (by kernel_rfl) (fun _ _ _ h => h) rfl ?_ (by assumption) ?_
                rotate_left
                · (intro w hSw; (try dsimp only at hSw); go_simp; (try with_reducible rfl))
                try simp only [Act.put, List.setIfInBounds_toArray, List.set_cons_zero, List.set_cons_succ]
                refine takeRun (i := 16) (v := ?_) rfl (by kernel_rfl) (by kernel_rfl) (by kernel_rfl) (fun _ _ _ h => h) rfl ?_ (by assumption) ?_
                rotate_left
                · (intro w hSw; (try dsimp only at hSw); go_simp; (try with_reducible rfl))
                try simp only [Act.put, List.setIfInBounds_toArray, List.set_cons_zero, List.set_cons_succ]
                refine takeRun (i := 17) (v := ?_) rfl (by kernel_rfl) (by kernel_rfl) (by kernel_rfl) (fun _ _ _ h => h) rfl ?_ (by assumption) ?_
                rotate_left
                · (intro w hSw; (try dsimp only at hSw); go_simp; (try with_reducible rfl))
                try simp only [Act.put, List.setIfInBounds_toArray, List.set_cons_zero, List.set_cons_succ]
                refine takeRun (i := 18) (v := ?_) rfl (by kernel_rfl) (by kernel_rfl) (by kernel_rfl) (fun _ _ _ h => h) rfl ?_ (by assumption) ?_
                rotate_left
                · (intro w hSw; (try dsimp only at hSw); go_simp; (try with_reducible rfl))
                try simp only [Act.put, List.setIfInBounds_toArray, List.set_cons_zero, List.set_cons_succ]
                refine takeRun (i := 19) (v := ?_) rfl (by kernel_rfl) (by kernel_rfl) (by kernel_rfl) (fun _ _ _ h => h) rfl ?_ (by assumption) ?_
                rotate_left
                · (intro w hSw; (try dsimp only at hSw); go_simp; (try with_reducible rfl))
                try simp only [Act.put, List.setIfInBounds_toArray, List.set_cons_zero, List.set_cons_succ]
                refine takeRun (i := 20) (v := ?_) rfl (by kernel_rfl) (by kernel_rfl) (by kernel_rfl) (fun _ _ _ h => h) rfl ?_ (by assumption) ?_
                rotate_left
                · (intro w hSw; (try dsimp only at hSw); go_simp; (try with_reducible rfl))
                try simp only [Act.put, List.setIfInBounds_toArray, List.set_cons_zero, List.set_cons_succ]
                refine takeRun (i := 21) (v := ?_) rfl (by kernel_rfl) (by kernel_rfl) (by kernel_rfl) (fun _ _ _ h => h) rfl ?_ (by assumption) ?_
                rotate_left
                · (intro w hSw; (try dsimp only at hSw); go_simp; (try with_reducible rfl))
                try simp only [Act.put, List.setIfInBounds_toArray, List.set_cons_zero, List.set_cons_succ]
                refine takeRun (i := 22) (v := ?_) rfl (by kernel_rfl) (by kernel_rfl) (by kernel_rfl) (fun _ _ _ h => h) rfl ?_ (by assumption) ?_
                rotate_left
                · (intro w hSw; (try dsimp only at hSw); go_simp; (try with_reducible rfl))
                try simp only [Act.put, List.setIfInBounds_toArray, List.set_cons_zero, List.set_cons_succ]
                refine takeRun (i := 23) (v := ?_) rfl (by kernel_rfl) (by kernel_rfl) (by kernel_rfl) (fun _ _ _ h => h) rfl ?_ (by assumption) ?_
                rotate_left
                · (intro w hSw; (try dsimp only at hSw); go_simp; (try with_reducible rfl))
                try simp only [Act.put, List.setIfInBounds_toArray, List.set_cons_zero, List.set_cons_succ]
                refine takeRun (i := 24) (v := ?_) rfl (by kernel_rfl) (by kernel_rfl) (by kernel_rfl) (fun _ _ _ h => h) rfl ?_ (by assumption) ?_
                rotate_left
                · (intro w hSw; (try dsimp only at hSw); go_simp; (try with_reducible rfl))
                try simp only [Act.put, List.setIfInBounds_toArray, List.set_cons_zero, List.set_cons_succ]
                refine takeRun (i := 25) (v := ?_) rfl (by kernel_rfl) (by kernel_rfl) (by kernel_rfl) (fun _ _ _ h => h) rfl ?_ (by assumption) ?_
                rotate_left
                · (intro w hSw; (try dsimp only at hSw); go_simp; (try with_reducible rfl))
                try simp only [Act.put, List.setIfInBounds_toArray, List.set_cons_zero, List.set_cons_succ]
                refine takeRun (i := 26) (v := ?_) rfl (by kernel_rfl) (by kernel_rfl) (by kernel_rfl) (fun _ _ _ h => h) rfl ?_ (by assumption) ?_
                rotate_left
                · (intro w hSw; (try dsimp only at hSw); go_simp; (try with_reducible rfl))
                try simp only [Act.put, List.setIfInBounds_toArray, List.set_cons_zero, List.set_cons_succ]
                refine takeRun (i := 27) (v := ?_) rfl (by kernel_rfl) (by kernel_rfl) (by kernel_rfl) (fun _ _ _ h => h) rfl ?_ (by assumption) ?_
                rotate_left
                · (intro w hSw; (try dsimp only at hSw); go_simp; (try with_reducible rfl))
                try simp only [Act.put, List.setIfInBounds_toArray, List.set_cons_zero, List.set_cons_succ]
                refine takeRun (i := 28) (v := ?_) rfl (by kernel_rfl) (by kernel_rfl) (by kernel_rfl) (fun _ _ _ h => h) rfl ?_ (by assumption) ?_
                rotate_left
                · (intro w hSw; (try dsimp only at hSw); go_simp; (try with_reducible rfl))
                try simp only [Act.put, List.setIfInBounds_toArray, List.set_cons_zero, List.set_cons_succ]
                refine takeRun (i := 29) (v := ?_) rfl (by kernel_rfl) (by kernel_rfl) (by kernel_rfl) (fun _ _ _ h => h) rfl ?_ (by assumption) ?_
                rotate_left
                · (intro w hSw; (try dsimp only at hSw); go_simp; (try with_reducible rfl))
                try simp only [Act.put, List.setIfInBounds_toArray, List.set_cons_zero, List.set_cons_succ]
                refine takeRun (i := 30) (v := ?_) rfl (by kernel_rfl) (by kernel_rfl) (by kernel_rfl) (fun _ _ _ h => h) rfl ?_ (by assumption) ?_
                rotate_left
                · (intro w hSw; (try dsimp only at hSw); go_simp; (try with_reducible rfl))
                try simp only [Act.put, List.setIfInBounds_toArray, List.set_cons_zero, List.set_cons_succ]
                refine takeRun (i := 31) (v := ?_) rfl (by kernel_rfl) (by kernel_rfl) (by kernel_rfl) (fun _ _ _ h => h) rfl ?_ (by assumption) ?_
                rotate_left
                · (intro w hSw; (try dsimp only at hSw); go_simp; (try with_reducible rfl))
                try simp only [Act.put, List.setIfInBounds_toArray, List.set_cons_zero, List.set_cons_succ]
                refine takeRun (i := 32) (v := ?_) rfl (by kernel_rfl) (by kernel_rfl) (by kernel_rfl) (fun _ _ _ h => h) rfl ?_ (by assumption) ?_
                rotate_left
                · (intro w hSw; (try dsimp only at hSw); go_simp; (try with_reducible rfl))
                try simp only [Act.put, List.setIfInBounds_toArray, List.set_cons_zero, List.set_cons_succ]
                refine takeRun (i := 33) (v := ?_) rfl (by kernel_rfl) (by kernel_rfl) (by kernel_rfl) (fun _ _ _ h => h) rfl ?_ (by assumption) ?_
                rotate_left
                · (intro w hSw; (try dsimp only at hSw); go_simp; (try with_reducible rfl))
                try simp only [Act.put, List.setIfInBounds_toArray, List.set_cons_zero, List.set_cons_succ]
                refine takeRun (i := 34) (v := ?_) rfl (by kernel_rfl) (by kernel_rfl) (by kernel_rfl) (fun _ _ _ h => h) rfl ?_ (by assumption) ?_
                rotate_left
                · (intro w hSw; (try dsimp only at hSw); go_simp; (try with_reducible rfl))
                try simp only [Act.put, List.setIfInBounds_toArray, List.set_cons_zero, List.set_cons_succ]
                refine takeRun (i := 35) (v := ?_) rfl (by kernel_rfl) (by kernel_rfl) (by kernel_rfl) (fun _ _ _ h => h) rfl ?_ (by assumption) ?_
                rotate_left
                · (intro w hSw; (try dsimp only at hSw); go_simp; (try with_reducible rfl))
                try simp only [Act.put, List.setIfInBounds_toArray, List.set_cons_zero, List.set_cons_succ]
                refine takeRun (i := 36) (v := ?_) rfl (by kernel_rfl) (by kernel_rfl) (by kernel_rfl) (fun _ _ _ h => h) rfl ?_ (by assumption) ?_
                rotate_left
                · (intro w hSw; (try dsimp only at hSw); go_simp; (try with_reducible rfl))
                try simp only [Act.put, List.setIfInBounds_toArray, List.set_cons_zero, List.set_cons_succ]
                refine takeSkip (i := 37) rfl (by kernel_rfl) (by kernel_rfl) (by kernel_rfl) (fun _ _ _ h => h) rfl (by assumption) ?_
                try simp only [Act.put, List.setIfInBounds_toArray, List.set_cons_zero, List.set_cons_succ]
                refine takeSkip (i := 38) rfl (by kernel_rfl) (by kernel_rfl) (by kernel_rfl) (fun _ _ _ h => h) rfl (by assumption) ?_
                try simp only [Act.put, List.setIfInBounds_toArray, List.set_cons_zero, List.set_cons_succ]
                refine takeRun (i := 39) (v := ?_) rfl (by kernel_rfl) (by kernel_rfl) (by kernel_rfl) (fun _ _ _ h => h) rfl ?_ (by assumption) ?_
                rotate_left
                · (intro w hSw; (try dsimp only at hSw); go_simp; (try with_reducible rfl))
                try simp only [Act.put, List.setIfInBounds_toArray, List.set_cons_zero, List.set_cons_succ]
                refine takeRun (i := 40) (v := ?_) rfl (by kernel_rfl) (by kernel_rfl) (by kernel_rfl) (fun _ _ _ h => h) rfl ?_ (by assumption) ?_
                rotate_left
                · (intro w hSw; (try dsimp only at hSw); go_simp; (try with_reducible rfl))
                try simp only [Act.put, List.setIfInBounds_toArray, List.set_cons_zero, List.set_cons_succ]
                refine wpAnyH_done (by kernel_rfl) ?_ _
                -- REGION 21 END
                go_wp2_with fail
                go_roundw
                case rel => exact ⟨j + 1, by omega, by go_num, _, _, _, _, _, hHeld.2.2⟩
                case measure => simp [intOf]; omega
      · go_wp2_with fail
        refine (queue_awake _).mono ?_
        rintro e w17 ⟨rfl, hb17⟩
        go_wp2_with fail
        go_ret
        exact ⟨rfl, bthen hT.bel hb17⟩
end Go.Proofs.Ytheepgfafjinoaa
