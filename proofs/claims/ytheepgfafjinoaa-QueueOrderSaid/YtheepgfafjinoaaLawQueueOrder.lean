/- saucierlaw26.QueueOrder returns true: numbers that wait rise; what is taken out comes in the order in which it was put; each that was put came out, was dropped, or waits: just once. -/
import Derived.Test.YtheepgfafjinoaaLawQueueTells
import Derived.Test.YtheepgfafjinoaaBlk
import Derived.Deep.QuietTactic
import Derived.Deep.CutBlock
import Derived.BigQuiet
namespace Go.Proofs.Ytheepgfafjinoaa
open Go.RowKit
set_option linter.unusedSimpArgs false
set_option linter.unusedVariables false

/-- what holds at each round's head: L waits, T was taken, p were put, d dropped -/
structure OrdS (w : World) (g M : Nat) (wr : World) (L : List Nat) (mo : Nat) (T : List Nat) (A : Option Addr) (n c p d : Nat) : Prop where
  q : QV wr g L M mo
  ow : Ow wr (g + 1) 57 A c (ds T)
  len : T.length = n
  rise : Rise L mo
  taken : T.Pairwise (· < ·)
  apart : ∀ t ∈ T, (t ≤ mo ∧ ∀ x ∈ L, t < x)
  sum : p = n + d + L.length
  bel : Below w.heap.size w wr
  le : g + 1 ≤ wr.heap.size

section
variable {w wr w' : World} {g M : Nat} {L T : List Nat} {mo : Nat} {A : Option Addr} {n c p d : Nat}
theorem OrdS.below (h : OrdS w g M wr L mo T A n c p d) (hb : Below wr.heap.size wr w') : OrdS w g M w' L mo T A n c p d :=
  ⟨h.q.below hb h.q.lt, h.ow.below hb, h.len, h.rise, h.taken, h.apart, h.sum, bthen h.bel hb, Nat.le_trans h.le hb.size⟩
theorem OrdS.drewN (h : OrdS w g M wr L mo T A n c p d) (k : Nat) : OrdS w g M (wr.drewN k) L mo T A n c p d := h.below (below_drewN (Below.refl _ _) k)
theorem OrdS.put (h : OrdS w g M wr L mo T A n c p d) (tx : Nat) (hw : w.heap.size ≤ g) (q' : QV w' g (putQ L M mo tx) M (putM L M mo tx)) (hg : wr.grownBy w' (some g)) :
    OrdS w g M w' (putQ L M mo tx) (putM L M mo tx) T A n c (if putE L M mo tx = 0 then p + 1 else p) d := by
  refine ⟨q', h.ow.past hg (Nat.lt_succ_self g), h.len, h.rise.put tx, h.taken, fun t ht => ?_, ?_, bgrow h.bel hg hw, Nat.le_trans h.le hg.size⟩
  · obtain ⟨h1, h2⟩ := h.apart t ht
    unfold putQ putM
    by_cases e : putE L M mo tx = 0
    · rw [if_pos e, if_pos e]
      have ht : mo < tx := by
        unfold putE at e
        by_cases h1 : tx ≤ mo
        · rw [if_pos h1] at e; omega
        · omega
      refine ⟨by omega, fun x hx => ?_⟩
      rcases List.mem_append.1 hx with hx | hx
      · exact h2 x hx
      · simp at hx; omega
    · rw [if_neg e, if_neg e]
      exact ⟨h1, h2⟩
  · have := h.sum
    unfold putQ
    by_cases e : putE L M mo tx = 0
    · rw [if_pos e, if_pos e, List.length_append]; simp; omega
    · rw [if_neg e, if_neg e]; exact this
theorem OrdS.dropd (h : OrdS w g M wr L mo T A n c p d) (tx : Nat) (hw : w.heap.size ≤ g) (q' : QV w' g (L.erase tx) M mo) (hg : wr.grownBy w' (some g)) :
    OrdS w g M w' (L.erase tx) mo T A n c p (if tx ∈ L then d + 1 else d) := by
  refine ⟨q', h.ow.past hg (Nat.lt_succ_self g), h.len, h.rise.drop tx, h.taken, fun t ht => ?_, ?_, bgrow h.bel hg hw, Nat.le_trans h.le hg.size⟩
  · obtain ⟨h1, h2⟩ := h.apart t ht
    exact ⟨h1, fun x hx => h2 x (List.mem_of_mem_erase hx)⟩
  · have := h.sum
    by_cases e : tx ∈ L
    · have h0 := List.length_erase_of_mem e
      have h1 : 0 < L.length := List.length_pos_of_mem e
      rw [if_pos e]; omega
    · rw [if_neg e, List.erase_of_not_mem e]; exact this
/-- the first one is taken -/
theorem OrdS.take {x : Nat} (h : OrdS w g M wr (x :: L) mo T A n c p d) {w2 : World} {A2 : Option Addr} {c2 : Nat} (q' : QV w2 g L M mo) (ow' : Ow w2 (g + 1) 57 A2 c2 (ds (T ++ [x]))) (hb : Below w.heap.size w w2) (hl : g + 1 ≤ w2.heap.size) :
    OrdS w g M w2 L mo (T ++ [x]) A2 (n + 1) c2 p d := by
  have hr := h.rise
  refine ⟨q', ow', by rw [List.length_append, h.len]; rfl, ⟨(List.pairwise_cons.1 hr.1).2, fun y hy => hr.2 y (by simp [hy])⟩, ?_, fun t ht => ?_, ?_, hb, hl⟩
  · rw [List.pairwise_append]
    refine ⟨h.taken, by simp, fun a ha b hb => ?_⟩
    simp at hb
    subst hb
    exact (h.apart a ha).2 b (by simp)
  · rcases List.mem_append.1 ht with ht | ht
    · exact ⟨(h.apart t ht).1, fun y hy => (h.apart t ht).2 y (by simp [hy])⟩
    · simp at ht
      subst ht
      exact ⟨hr.2 t (by simp), fun y hy => (List.pairwise_cons.1 hr.1).1 y hy⟩
  · have := h.sum
    simp at this
    omega
end
theorem app_dB {w : World} {ops : Array Oper} {rest : List Oper} {o : Oper} {a : Act} {Q : Exit → Act → World → Prop} (hgd : o.guard = none) (s x : Operand) (ho : o.op = .call { callee := .builtin .append, args := #[s, x], argTypes := #[56, 56] })
    (B : Nat) (w0 : World) (hb : Below B w0 w) (hB : B ≤ w.heap.size) (A : Option Addr) (n c : Nat) (xs : List Nat) (hs : a.eval s = .slice A n c) (hown : Ow w B 57 A c (ds xs)) (hn : xs.length = n)
    (A2 : Option Addr) (m c2 : Nat) (news : List Nat) (hx : a.eval x = .slice A2 m c2) (hr : Rd w A2 (ds news)) (hm : news.length = m) (hbytes : n + m ≤ 10000000000)
    (h : ∀ A' c' w', Ow w' B 57 A' c' (ds (xs ++ news)) → Below B w0 w' → w.grownBy w' (Value.ownBlock (.slice A n c)) → wpList Try.prog ops Q rest (a.put o.dst (.slice A' (n + m) c')) w') :
    wpList Try.prog ops Q (o :: rest) a w := by
  obtain ⟨i, hi, hz0, hz1, hz2⟩ := info_parts info_d
  refine wpList_app hgd s x 56 ho 57 i _ 4 Try.underlying56 hi hz0 hz1 hz2 rfl B w0 hb hB A n c (ds xs) hs hown (by rw [ds_length]; exact hn) A2 m c2 (ds news) hx hr (by rw [ds_length]; exact hm) (one_ds news) (by omega) (by decide) ?_
  intro A' c' w' h1 h2 h3
  exact h A' c' w' (by rw [ds_append]; exact h1) h2 h3
theorem rise_get {L : List Nat} (h : L.Pairwise (· < ·)) {i x y : Nat} (hx : L[i]? = some x) (hy : L[i + 1]? = some y) : x < y := by
  obtain ⟨h1, e1⟩ := List.getElem?_eq_some_iff.1 hx
  obtain ⟨h2, e2⟩ := List.getElem?_eq_some_iff.1 hy
  have := List.pairwise_iff_getElem.1 h i (i + 1) h1 h2 (by omega)
  rw [e1, e2] at this
  exact this

set_option maxRecDepth 100000 in
set_option maxHeartbeats 8000000 in
theorem QueueOrder_walk (room : Nat) (A : Option Addr) (n c : Nat) (ops : List Opr) (w : World) (hr : room < 256) (hA : RdOp w A ops) (hn : ops.length = n) (hc : n ≤ c) (hcm : c ≤ 9223372036854775807) :
    Calls Try.prog 12 #[.int .u8 (room : Int), .slice A n c] w fun e w' => e = .returned (.bool true) ∧ Below w.heap.size w w' := by
  obtain ⟨M, hM⟩ : ∃ M : Nat, M = 1 + room % 32 := ⟨_, rfl⟩
  have hM1 : 1 ≤ M := by omega
  have hM2 : M ≤ 32 := by omega
  have hMI : (1 : Int) + (room : Int) % 32 = (M : Int) := by omega
  obtain ⟨m, hm⟩ : ∃ m : Nat, m = min n 200 := ⟨_, rfl⟩
  have hmn : m ≤ n := by omega
  have hm2 : m ≤ 200 := by omega
  have hmin : (if (200 : Int) < (n : Int) then (200 : Int) else (n : Int)) = (m : Int) := by split <;> omega
  have hmin2 : ∀ W, (Builtin.min_ #[3, 3] 3 #[.int .i64 (n : Int), .int .i64 200]).run Try.prog W = .ok (.int .i64 (m : Int)) W := by
    intro W
    rw [run_min_int2, hmin]
  have HN := Lib.hid hn
  clear hm hn hmin hM
  go_enter Try.func12, Try.ntmps12
  go_wp2_with fail
  refine (qv_New M w hM1 hM2).mono ?_
  rintro e w1 ⟨rfl, q1, hb1⟩
  obtain ⟨g, hg⟩ : ∃ g, w.heap.size = g := ⟨_, rfl⟩
  have hgB : w.heap.size ≤ g := by omega
  rw [hg] at q1 ⊢
  clear hg hMI
  have mc : (m : Int) ≤ (c : Int) := by omega
  go_wp2_with fail
  have hS0 : OrdS w g M w1 [] 0 [] none 0 0 0 0 := ⟨q1, Ow.nil, rfl, Rise.nil, List.Pairwise.nil, by simp, rfl, hb1, q1.lt⟩
  clear q1 hb1 hmin2
  go_loopw [7, 8, 9, 35] (fun t p d i wr => ∃ j : Nat, j ≤ m ∧ i = .int .i64 j ∧ ∃ L mo T A7 n7 c7 p_ d_, t = .slice A7 n7 c7 ∧ p = .int .i64 ((p_ : Nat) : Int) ∧ d = .int .i64 ((d_ : Nat) : Int) ∧ p_ ≤ j ∧ OrdS w g M wr L mo T A7 n7 c7 p_ d_) (fun _ _ _ i _ => m - (intOf i).toNat)
  case atStart => exact ⟨0, by omega, rfl, _, _, _, _, _, _, 0, 0, rfl, rfl, rfl, Nat.le_refl _, hS0⟩
  case round =>
    obtain ⟨j, hj, rfl, L, mo, T, A7, n7, c7, p, d, rfl, rfl, rfl, hpj, hS⟩ := hrel
    clear hS0
    by_cases hlt : j < m
    · have hAr := hA.below hS.bel
      rcases hAr with hAr | ⟨b, off, rfl, hAc⟩
      · exfalso
        have := HN.out
        rw [hAr] at this
        simp at this
        omega
      · obtain ⟨o, ho⟩ : ∃ o, ops[j]? = some o := ⟨_, List.getElem?_eq_getElem (by rw [HN.out]; omega)⟩
        obtain ⟨oa, c0, c1, c2, c3⟩ := hAc j o ho
        have hlb : b < wr.heap.size := World.block_lt_of_cell? wr _ c0
        clear hAc ho
        go_upto_region 9 with fail
        have hbo := (Below.refl wr.heap.size wr).alloc (Nat.le_refl _) (.cells #[.bool o.dr, .bool o.by_, .int .u32 (o.tx : Int), .int .u8 (o.at_ : Int)] 61)
        have bo := Blk.new wr 61 #[.bool o.dr, .bool o.by_, .int .u32 (o.tx : Int), .int .u8 (o.at_ : Int)]
        have hS3 := hS.below hbo
        obtain ⟨g9, hg9⟩ : ∃ g9, wr.heap.size = g9 := ⟨_, rfl⟩
        rw [hg9] at bo ⊢
        generalize wr.alloc (.cells #[.bool o.dr, .bool o.by_, .int .u32 (o.tx : Int), .int .u8 (o.at_ : Int)] 61) = w3 at *
        clear hS c0 c1 c2 c3 hlb hg9 hbo
        have hLen := hS3.q.len
        go_wp2_with fail
        refine (qv_List g L M mo _ hS3.q).mono ?_
        rintro e w4 ⟨A8, c8, rfl, ho8, hb8⟩
        have hS4 := hS3.below hb8
        have bo4 := bo.all hb8
        obtain ⟨d0, d1, d2, d3⟩ := bo4.c4
        clear hS3 bo hb8
        go_wp2_with fail
        refine (op_number o A8 L.length c8 L _ ho8.rd rfl oa (by omega)).mono ?_
        rintro e w5 ⟨rfl, hb5⟩
        have hS5 := hS4.below hb5
        have bo5 := bo4.all hb5
        obtain ⟨tx, htx⟩ : ∃ tx, numb o L = tx := ⟨_, rfl⟩
        rw [htx]
        clear hS4 d0 d1 d2 d3 bo4 hb5 htx ho8
        go_wp2_with fail
        refine (qv_First g L M mo _ hS5.q).mono ?_
        rintro e w6 ⟨rfl, nd, rfl⟩
        have hS6 := hS5.drewN nd
        have bo6 := bo5.drewN nd
        generalize w5.drewN nd = w6 at *
        obtain ⟨d0, d1, d2, d3⟩ := bo6.c4
        have hn7 : n7 ≤ 1000 := by have := hS6.sum; omega
        have hd7 : d ≤ 1000 := by have := hS6.sum; omega
        clear hS5 bo5
        go_upto_block 2 with fail
        go_cut [7, 8, 9] (fun t p d wc => ∃ L mo T A7 n7 c7 p_ d_, t = .slice A7 n7 c7 ∧ p = .int .i64 ((p_ : Nat) : Int) ∧ d = .int .i64 ((d_ : Nat) : Int) ∧ p_ ≤ j + 1 ∧ OrdS w g M wc L mo T A7 n7 c7 p_ d_)
        case first =>
          cases hdr : o.dr with
          | false =>
            by_cases he : putE L M mo tx = 0
            · go_wp2_with fail
              refine (qv_Put g L M mo tx _ hS6.q).mono ?_
              rintro e w7 ⟨rfl, q7, g77⟩
              have hS7 := hS6.put tx hgB q7 g77
              rw [if_pos he] at hS7
              rw [he]
              clear he
              go_wp2_with fail
              go_meet
              exact ⟨_, _, _, _, _, _, p + 1, d, rfl, by go_num, rfl, by omega, hS7⟩
            · have t1 : (((putE L M mo tx : Nat) : Int) == 0) = false := by simp; omega
              go_wp2_with fail
              refine (qv_Put g L M mo tx _ hS6.q).mono ?_
              rintro e w7 ⟨rfl, q7, g77⟩
              have hS7 := hS6.put tx hgB q7 g77
              rw [if_neg he] at hS7
              clear he
              go_wp2_with fail
              go_meet
              exact ⟨_, _, _, _, _, _, p, d, rfl, rfl, rfl, by omega, hS7⟩
          | true =>
            have hdrop : ∀ (Lx : List Nat), OrdS w g M w6 Lx mo T A7 n7 c7 p d → Calls Try.prog 40 #[.pointer (some ⟨g, 0, none⟩), .int .u32 (tx : Int)] w6 fun e w' => ∃ b : Bool, e = .returned (.bool b) ∧ b = decide (tx ∈ Lx) ∧ OrdS w g M w' (Lx.erase tx) mo T A7 n7 c7 p (if b = true then d + 1 else d) := by
              intro Lx hLx
              refine (qv_Drop g Lx M mo tx _ hLx.q).mono ?_
              rintro e w' ⟨h1, h2, h3⟩
              refine ⟨_, h1, rfl, ?_⟩
              have := hLx.dropd tx hgB h2 h3
              simpa using this
            have HDR := Lib.hid hdrop
            clear hdrop
            match L, hS6, hLen with
            | [], hS6, hLen =>
              go_wp2_with fail
              refine (HDR.out [] hS6).mono ?_
              rintro e w7 ⟨bb, rfl, hbb, hS7⟩
              obtain rfl : bb = false := by rw [hbb]; simp
              clear hbb
              simp only [Bool.false_eq_true, if_false] at hS7
              go_wp2_with fail
              go_meet
              exact ⟨_, _, _, _, _, _, p, d, rfl, rfl, rfl, by omega, hS7⟩
            | x :: L', hS6, hLen =>
              by_cases htx : tx = x
              · subst htx
                have t1 : ((tx : Int) == (tx : Int)) = true := by simp
                go_wp2_with fail
                refine (qv_Drop g (tx :: L') M mo tx _ hS6.q).mono ?_
                rintro e w7 ⟨rfl, q7, g77⟩
                rw [show decide (tx ∈ tx :: L') = true from by simp]
                rw [List.erase_cons_head] at q7
                have ow7 := hS6.ow.past g77 (Nat.lt_succ_self g)
                have hb7 := bgrow hS6.bel g77 hgB
                have hl7 := Nat.le_trans hS6.le g77.size
                have HX : Hid (ds [tx] = [.int .u32 (tx : Int)]) := rfl
                have HTL := Lib.hid hS6.len
                go_wp2_with (at_builtin; refine app_dB rfl _ _ rfl (g + 1) w7 ((Below.refl _ w7).alloc hl7 _) (by simp; omega) _ _ _ T rfl (ow7.alloc _) HTL.out _ 1 1 [tx] rfl (Rd.lit _ _ _ HX.out) rfl (by omega) ?_)
                intro A8 c8 w8 ow8 hb8 hg8
                have hS8 := hS6.take (q7.below hb8 (Nat.lt_succ_self g)) ow8 (hb7.trans (hb8.mono (by omega))) (Nat.le_trans hl7 hb8.size)
                go_wp2_with fail
                go_meet
                exact ⟨_, _, _, _, _, _, p, d, rfl, rfl, rfl, by omega, hS8⟩
              · have t1 : ((tx : Int) == (x : Int)) = false := by simp; omega
                by_cases hmem : tx ∈ x :: L'
                · have HMEM := Lib.hid hmem
                  clear hmem htx
                  go_wp2_with fail
                  refine (HDR.out (x :: L') hS6).mono ?_
                  rintro e w7 ⟨bb, rfl, hbb, hS7⟩
                  obtain rfl : bb = true := by rw [hbb]; exact decide_eq_true HMEM.out
                  clear hbb
                  simp only [if_true] at hS7
                  go_wp2_with fail
                  go_meet
                  exact ⟨_, _, _, _, _, _, p, d + 1, rfl, rfl, by go_num, by omega, hS7⟩
                · have HMEM := Lib.hid hmem
                  clear hmem htx
                  go_wp2_with fail
                  refine (HDR.out (x :: L') hS6).mono ?_
                  rintro e w7 ⟨bb, rfl, hbb, hS7⟩
                  obtain rfl : bb = false := by rw [hbb]; exact decide_eq_false HMEM.out
                  clear hbb
                  simp only [Bool.false_eq_true, if_false] at hS7
                  go_wp2_with fail
                  go_meet
                  exact ⟨_, _, _, _, _, _, p, d, rfl, rfl, rfl, by omega, hS7⟩
        case rest =>
          obtain ⟨L2, mo2, T2, A9, n9, c9, p2, d2', rfl, rfl, rfl, hp2, hSc⟩ := hcut
          clear hS6 bo6 d0 d1 d2 d3 hLen hn7 hd7
          have hLen := hSc.q.len
          have hsum := hSc.sum
          have hn9 : n9 ≤ 1000 := by omega
          have hd9 : d2' ≤ 1000 := by omega
          have HSUM := Lib.hid hsum
          clear hsum
          go_wp2_with fail
          refine (qv_List g L2 M mo2 _ hSc.q).mono ?_
          rintro e w10 ⟨A10, c10, rfl, ho10, hb10⟩
          have hS10 := hSc.below hb10
          obtain ⟨l10, hl10⟩ : ∃ q, L2.length = q := ⟨_, rfl⟩
          rw [hl10] at hLen
          rw [hl10]
          have HL10 := Lib.hid hl10
          clear hSc hb10 hl10
          go_wp2_with fail
          go_loopw [84] (fun i wx => ∃ k : Nat, k ≤ l10 ∧ i = .int .i64 k ∧ OrdS w g M wx L2 mo2 T2 A9 n9 c9 p2 d2' ∧ Rd wx A10 (ds L2)) (fun i _ => l10 - (intOf i).toNat)
          case atStart => exact ⟨0, by omega, rfl, hS10, ho10.rd⟩
          case round =>
            obtain ⟨k, hk, rfl, hSx, rdx⟩ := hrel
            by_cases hkl : k < l10
            · obtain ⟨b1, o1, y, rfl, hy, cy⟩ := rdx.dword (k := k) (by rw [HL10.out]; exact hkl)
              have HY := Lib.hid hy
              clear hy
              have HNE : Hid (∀ W : World, OrdS w g M W L2 mo2 T2 A9 n9 c9 p2 d2' → Rd W (some ⟨b1, o1, none⟩) (ds L2) → True) := fun _ _ _ => trivial
              have hlenT := hSx.len
              have k0 : (0 : Int) ≤ (k : Int) := by omega
              have k1 : (k : Int) < (l10 : Int) := by omega
              rcases Nat.eq_zero_or_pos n9 with h9 | h9
              · subst h9
                have t3 : decide ((0 : Int) < ((0 : Nat) : Int)) = false := by simp
                rcases Nat.eq_zero_or_pos k with hk0 | hk0
                · subst hk0
                  clear hlenT
                  go_wp2_with fail
                  go_quiet (fail)
                  go_wp2_with fail
                  go_roundw
                  case rel => exact ⟨0 + 1, by omega, by go_num, hSx.drewN nq, rdx.drewN nq⟩
                  case measure => simp [intOf]; omega
                · have hdummy : True := trivial
                  obtain ⟨k', rfl⟩ : ∃ k', k = k' + 1 := ⟨k - 1, by omega⟩
                  obtain ⟨b2, o2, x, hA2, hx, cx⟩ := rdx.dword (k := k') (by rw [HL10.out]; omega)
                  injection hA2 with hA2
                  injection hA2 with h1 h2
                  subst h1 h2
                  have HX := Lib.hid hx
                  have hxy : x < y := rise_get hSx.rise.1 hx HY.out
                  clear hx
                  have t1 : decide ((0 : Int) < (k' : Int) + 1) = true := decide_eq_true (by omega)
                  have t2 : decide ((y : Int) ≤ (x : Int)) = false := by simp; omega
                  have t2' : decide (y ≤ x) = false := by simp; omega
                  have e1 : (k' : Int) + 1 - 1 = (k' : Int) := by omega
                  have e2 : IntKind.i64.wrap (k' : Int) = (k' : Int) := IntWalk.i64_in _ (by omega)
                  have e3 : (k' : Int) < (l10 : Int) := by omega
                  have e4 : (0 : Int) ≤ (k' : Int) := by omega
                  have e5 : (k' : Int) + 1 < (l10 : Int) := by omega
                  have e6 : (0 : Int) ≤ (k' : Int) + 1 := by omega
                  have e7 : ((k' : Int) + 1).toNat = k' + 1 := by omega
                  go_wp2_with fail
                  go_quiet (fail)
                  clear e1 e2 e7
                  go_wp2_with fail
                  go_roundw
                  case rel => exact ⟨k' + 1 + 1, by omega, by go_num, hSx.drewN nq, rdx.drewN nq⟩
                  case measure => simp [intOf]; omega
              · have hdummy : True := trivial
                obtain ⟨z, hz⟩ : ∃ z, z = n9 - 1 := ⟨_, rfl⟩
                have hz1 : z < n9 := by omega
                obtain ⟨b3, o3, tl, rfl, htl, ct⟩ := hSx.ow.rd.dword (k := z) (by omega)
                have hty : tl < y := (hSx.apart tl (List.mem_of_getElem? htl)).2 y (List.mem_of_getElem? HY.out)
                have u1 : decide ((0 : Int) < (n9 : Int)) = true := decide_eq_true (by omega)
                have u1' : decide (0 < n9) = true := decide_eq_true (by omega)
                have u2 : decide ((y : Int) ≤ (tl : Int)) = false := by simp; omega
                have u2' : decide (y ≤ tl) = false := by simp; omega
                have v0 : (n9 : Int) - 1 = (z : Int) := by omega
                have v2 : IntKind.i64.wrap (z : Int) = (z : Int) := IntWalk.i64_in _ (by omega)
                have v3 : (z : Int) < (n9 : Int) := by omega
                have v4 : (0 : Int) ≤ (z : Int) := by omega
                clear htl hlenT hz
                rcases Nat.eq_zero_or_pos k with hk0 | hk0
                · subst hk0
                  rw [Nat.add_zero] at cy
                  go_wp2_with fail
                  go_quiet (fail)
                  clear v0 v2
                  go_wp2_with fail
                  go_roundw
                  case rel => exact ⟨0 + 1, by omega, by go_num, hSx.drewN nq, rdx.drewN nq⟩
                  case measure => simp [intOf]; omega
                · have hdummy2 : True := trivial
                  obtain ⟨k', rfl⟩ : ∃ k', k = k' + 1 := ⟨k - 1, by omega⟩
                  obtain ⟨b2, o2, x, hA2, hx, cx⟩ := rdx.dword (k := k') (by rw [HL10.out]; omega)
                  injection hA2 with hA2
                  injection hA2 with h1 h2
                  subst h1 h2
                  have HX := Lib.hid hx
                  have hxy : x < y := rise_get hSx.rise.1 hx HY.out
                  clear hx
                  have t1 : decide ((0 : Int) < (k' : Int) + 1) = true := decide_eq_true (by omega)
                  have t2 : decide ((y : Int) ≤ (x : Int)) = false := by simp; omega
                  have t2' : decide (y ≤ x) = false := by simp; omega
                  have e1 : (k' : Int) + 1 - 1 = (k' : Int) := by omega
                  have e2 : IntKind.i64.wrap (k' : Int) = (k' : Int) := IntWalk.i64_in _ (by omega)
                  have e3 : (k' : Int) < (l10 : Int) := by omega
                  have e4 : (0 : Int) ≤ (k' : Int) := by omega
                  have e5 : (k' : Int) + 1 < (l10 : Int) := by omega
                  have e6 : (0 : Int) ≤ (k' : Int) + 1 := by omega
                  have e7 : ((k' : Int) + 1).toNat = k' + 1 := by omega
                  go_wp2_with fail
                  go_quiet (fail)
                  clear v0 v2 e1 e2 e7
                  go_wp2_with fail
                  go_roundw
                  case rel => exact ⟨k' + 1 + 1, by omega, by go_num, hSx.drewN nq, rdx.drewN nq⟩
                  case measure => simp [intOf]; omega
            · obtain rfl : k = l10 := by omega
              have hsum2 : ((p2 : Int) != (n9 : Int) + (d2' : Int) + (k : Int)) = false := by have := HSUM.out; rw [HL10.out] at this; simp; omega
              go_wp2_with fail
              go_roundw
              case rel => exact ⟨j + 1, by omega, by go_num, L2, mo2, T2, A9, n9, c9, p2, d2', rfl, rfl, rfl, by omega, hSx⟩
              case measure => simp [intOf]; omega
    · obtain rfl : j = m := by omega
      have hn7 : n7 ≤ 1000 := by have := hS.sum; omega
      have HTL := Lib.hid hS.len
      go_wp2_with fail
      go_loopw [132] (fun i wx => ∃ k : Nat, k ≤ n7 ∧ i = .int .i64 k ∧ OrdS w g M wx L mo T A7 n7 c7 p d) (fun i _ => n7 - (intOf i).toNat)
      case atStart => exact ⟨0, by omega, rfl, hS⟩
      case round =>
        obtain ⟨k, hk, rfl, hSx⟩ := hrel
        clear hS
        by_cases hkl : k < n7
        · rcases Nat.eq_zero_or_pos k with hk0 | hk0
          · subst hk0
            have t0 : decide ((0 : Int) < ((0 : Nat) : Int)) = false := by simp
            go_wp2_with fail
            go_quiet (fail)
            go_wp2_with fail
            go_roundw
            case rel => exact ⟨0 + 1, by omega, by go_num, hSx.drewN nq⟩
            case measure => simp [intOf]; omega
          · obtain ⟨k', rfl⟩ : ∃ k', k = k' + 1 := ⟨k - 1, by omega⟩
            obtain ⟨b1, o1, y, rfl, hy, cy⟩ := hSx.ow.rd.dword (k := k' + 1) (by rw [HTL.out]; exact hkl)
            obtain ⟨b2, o2, x, hA2, hx, cx⟩ := hSx.ow.rd.dword (k := k') (by rw [HTL.out]; omega)
            injection hA2 with hA2
            injection hA2 with h1 h2
            subst h1 h2
            have hxy : x < y := rise_get hSx.taken hx hy
            clear hx hy
            have t1 : decide ((0 : Int) < (k' : Int) + 1) = true := decide_eq_true (by omega)
            have t2 : decide ((y : Int) ≤ (x : Int)) = false := by simp; omega
            have t2' : decide (y ≤ x) = false := by simp; omega
            have e1 : (k' : Int) + 1 - 1 = (k' : Int) := by omega
            have e2 : IntKind.i64.wrap (k' : Int) = (k' : Int) := IntWalk.i64_in _ (by omega)
            have e3 : (k' : Int) < (n7 : Int) := by omega
            have e4 : (0 : Int) ≤ (k' : Int) := by omega
            have e5 : (k' : Int) + 1 < (n7 : Int) := by omega
            have e6 : (0 : Int) ≤ (k' : Int) + 1 := by omega
            have e7 : ((k' : Int) + 1).toNat = k' + 1 := by omega
            go_wp2_with fail
            go_quiet (fail)
            clear e1 e2 e7
            go_wp2_with fail
            go_roundw
            case rel => exact ⟨k' + 1 + 1, by omega, by go_num, hSx.drewN nq⟩
            case measure => simp [intOf]; omega
        · obtain rfl : k = n7 := by omega
          go_wp2_with fail
          refine (queue_awake _).mono ?_
          rintro e w17 ⟨rfl, hb17⟩
          go_wp2_with fail
          go_ret
          exact ⟨rfl, bthen hSx.bel hb17⟩
end Go.Proofs.Ytheepgfafjinoaa
