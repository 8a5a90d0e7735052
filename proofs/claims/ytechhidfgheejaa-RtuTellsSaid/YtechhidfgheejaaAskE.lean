/- The walk of ask.Bytes. -/
import Derived.Test.YtechhidfgheejaaAskD
import Derived.Deep.CutBlock
namespace Go.Proofs.Ytechhidfgheejaa
open Go.RowKit
set_option linter.unusedSimpArgs false
set_option linter.unusedVariables false

/-- what stands behind the numbers -/
def tailA (f : Nat) (l : List Nat) (k : List Bool) : List Nat :=
  if f = 5 then nums [if k.getD 0 false then 65280 else 0] else if f = 6 then nums l
  else if 0 < (shp f).bits then (pk k).length :: pk k else if 0 < (shp f).words then 2 * l.length :: nums l else []
def midA (f m o nw : Nat) : List Nat := (if 0 < (shp f).many then nums [m] else []) ++ (if (shp f).to_ then nums [o, nw] else [])
/-- the bytes of a right request -/
def bytesA (a : Ak) : List Nat := [a.fn, a.at_ / 256, a.at_ % 256] ++ midA a.fn a.many a.to_ a.words.length ++ tailA a.fn a.words a.bits
/-- what is told: no bytes, and an error, if it is none -/
def bytesN (a : Ak) : List Nat := if rightA a then bytesA a else []
def errN (a : Ak) : Nat := if rightA a then 0 else 12

theorem num1 (w0 w : World) (hb : Below w0.heap.size w0 w) (A : Option Addr) (n c : Nat) (xs : List Nat) (hown : Ow w w0.heap.size 5 A c (bs xs)) (hn : xs.length = n) (x : Nat) (hx : x < 65536) (g : Nat) (hg : w.heap.size = g) (hbig : n ≤ 1000000) :
    Calls Try.prog 74 #[.slice A n c, .slice (some ⟨g, 0, none⟩) 1 1] (w.alloc (.cells #[.int .u16 (x : Int)] 34)) fun e w' => ∃ A' n' c', e = .returned (.slice A' n' c') ∧ Hid ((xs ++ nums [x]).length = n') ∧ n' ≤ n + 2 ∧ Ow w' w0.heap.size 5 A' c' (bs (xs ++ nums [x])) ∧ Below w0.heap.size w0 w' := by
  subst hg
  refine (ask_numbers w0 _ (hb.alloc hb.size _) A n c xs (hown.alloc _) hn (some ⟨w.heap.size, 0, none⟩) 1 1 [x] (.inr (Ow.lit _ _ _ [.int .u16 (x : Int)] (Nat.zero_le _) (show (1 : Nat) ≤ maxLen by decide) rfl rfl)) rfl (by intro y hy; simp at hy; omega) hbig (by omega)).mono ?_
  rintro e w' ⟨A', c', rfl, h1, h2⟩
  exact ⟨A', _, c', rfl, by (show _ = _); rw [List.length_append, nums_length, hn]; simp, by omega, h1, h2⟩
theorem num2 (w0 w : World) (hb : Below w0.heap.size w0 w) (A : Option Addr) (n c : Nat) (xs : List Nat) (hown : Ow w w0.heap.size 5 A c (bs xs)) (hn : xs.length = n) (x y : Nat) (hx : x < 65536) (hy : y < 65536) (g : Nat) (hg : w.heap.size = g) (hbig : n ≤ 1000000) :
    Calls Try.prog 74 #[.slice A n c, .slice (some ⟨g, 0, none⟩) 2 2] (w.alloc (.cells #[.int .u16 (x : Int), .int .u16 (y : Int)] 34)) fun e w' => ∃ A' n' c', e = .returned (.slice A' n' c') ∧ Hid ((xs ++ nums [x, y]).length = n') ∧ n' ≤ n + 4 ∧ Ow w' w0.heap.size 5 A' c' (bs (xs ++ nums [x, y])) ∧ Below w0.heap.size w0 w' := by
  subst hg
  refine (ask_numbers w0 _ (hb.alloc hb.size _) A n c xs (hown.alloc _) hn (some ⟨w.heap.size, 0, none⟩) 2 2 [x, y] (.inr (Ow.lit _ _ _ [.int .u16 (x : Int), .int .u16 (y : Int)] (Nat.zero_le _) (show (2 : Nat) ≤ maxLen by decide) rfl rfl)) rfl (by intro z hz; simp at hz; omega) hbig (by omega)).mono ?_
  rintro e w' ⟨A', c', rfl, h1, h2⟩
  exact ⟨A', _, c', rfl, by (show _ = _); rw [List.length_append, nums_length, hn]; simp, by omega, h1, h2⟩

theorem bytes_fin {out xs : List Nat} {n c : Nat} {A : Option Addr} (hout : out = xs) (L : xs.length = n) : Ending.returned (.tuple #[.slice A n c, .int .i64 0]) = .returned (.tuple #[.slice A out.length c, .int .i64 0]) := by subst hout L; rfl
/-- an elder row is appended to: what lies in a later block stays -/
theorem Ow.rdPast {w5 w6 w7 : World} {B : Nat} {e : TypeId} {A : Option Addr} {c n : Nat} {xs ys : List Value} {g off : Nat} (ho : Ow w5 B e A c xs) (hp : Rd w6 (some ⟨g, off, none⟩) ys) (hg : w5.heap.size ≤ g) (hgr : w6.grownBy w7 (Value.ownBlock (.slice A n c))) : Rd w7 (some ⟨g, off, none⟩) ys := by
  refine hp.other hgr ?_
  intro e
  have e1 : Value.ownBlock (.slice A n c) = Value.ownBlock (.slice A xs.length c) := by cases A <;> rfl
  rw [e1] at e
  have := ho.block e.symm
  omega
theorem len1 {α : Type} {l : List α} (h : l.length = 1) : ∃ x, l = [x] := by
  match l, h with
  | [x], _ => exact ⟨x, rfl⟩
theorem right5 {m o n b : Nat} (h : rightN 5 m o n b = true) : b = 1 := by
  simp [rightN, shp, wtn, isFn] at h; omega
theorem right6 {m o n b : Nat} (h : rightN 6 m o n b = true) : n = 1 := by
  simp [rightN, shp, wtn, isFn] at h; omega
theorem right15 {m o n b : Nat} (h : rightN 15 m o n b = true) : 1 ≤ b ∧ b ≤ 1968 := by
  simp [rightN, shp, wtn, isFn] at h; omega
theorem kinds {f : Nat} (h : isFn f = true) : (0 < (shp f).many ∧ (shp f).bits = 0 ∧ (shp f).words = 0 ∧ (shp f).to_ = false ∧ f ≠ 5 ∧ f ≠ 6) ∨ f = 5 ∨ f = 6 ∨ f = 15 ∨ f = 16 ∨ f = 23 := by
  unfold isFn at h
  rw [decide_eq_true_iff] at h
  rcases h with rfl | rfl | rfl | rfl | rfl | rfl | rfl | rfl | rfl <;> simp [shp]

set_option maxHeartbeats 2000000 in
theorem ask_Bytes_none (a : Ak) (A : Option Addr) (c : Nat) (B : Option Addr) (d : Nat) (w : World) (hok : a.ok) (hw : a.words.length ≤ 1000000) (hk : a.bits.length ≤ 1000000) (hr : rightA a = false) :
    Calls Try.prog 22 #[a.v A c B d] w fun e w' => e = .returned (.tuple #[.slice none 0 0, .int .i64 12]) ∧ Below w.heap.size w w' := by
  obtain ⟨f, t, m, o, l, k⟩ := a
  obtain ⟨h1, h2, h3, h4, h5⟩ := hok
  unfold rightA at hr
  unfold Ak.v akV
  simp only at hw hk hr h1 h2 h3 h4 h5 ⊢
  obtain ⟨n, hn⟩ : ∃ n, l.length = n := ⟨_, rfl⟩
  obtain ⟨b, hb⟩ : ∃ b, k.length = b := ⟨_, rfl⟩
  rw [hn] at hw hr ⊢
  rw [hb] at hk hr ⊢
  have E1 := Lib.hid (fun W => ask_Right f t m o A n c B b d W h1 h3 h4 hw hk)
  rw [hr] at E1
  unfold akV at E1
  clear hr hn hb
  have hb1 := (Below.refl _ w).alloc (Nat.le_refl _) (.cells #[.int .u8 (f : Int), .int .u16 (t : Int), .int .u16 (m : Int), .int .u16 (o : Int), .slice A n c, .slice B b d] 41)
  go_enter Try.func22, Try.ntmps22
  go_wp2_with fail
  refine (E1.out _).mono ?_
  rintro e w2 ⟨rfl, hb2⟩
  have hb2' := bthen hb1 hb2
  go_wp2_with fail
  go_ret2
  exact ⟨rfl, hb2'⟩

set_option maxRecDepth 100000 in
set_option maxHeartbeats 8000000 in
theorem ask_Bytes_some (a : Ak) (A : Option Addr) (c : Nat) (B : Option Addr) (d : Nat) (w : World) (hR : AkR w a A B) (hok : a.ok) (hr : rightA a = true) :
    Calls Try.prog 22 #[a.v A c B d] w fun e w' => ∃ A' c', e = .returned (.tuple #[.slice A' (bytesA a).length c', .int .i64 0]) ∧ Ow w' w.heap.size 5 A' c' (bs (bytesA a)) ∧ Below w.heap.size w w' := by
  obtain ⟨f, t, m, o, l, k⟩ := a
  obtain ⟨h1, h2, h3, h4, h5⟩ := hok
  unfold rightA at hr
  unfold Ak.v akV
  simp only at hr h1 h2 h3 h4 h5 ⊢
  have HB : Hid (bytesA ⟨f, t, m, o, l, k⟩ = [f, t / 256, t % 256] ++ midA f m o l.length ++ tailA f l k) := rfl
  generalize bytesA ⟨f, t, m, o, l, k⟩ = out at *
  obtain ⟨n, hn⟩ : ∃ n, l.length = n := ⟨_, rfl⟩
  obtain ⟨b, hb⟩ : ∃ b, k.length = b := ⟨_, rfl⟩
  rw [hn] at hr HB ⊢
  rw [hb] at hr ⊢
  have hfn : isFn f = true := by unfold rightN at hr; simp only [Bool.and_eq_true] at hr; exact hr.1.1.1.1.1
  have hnb : n ≤ 123 ∧ b ≤ 1968 := by
    unfold rightN at hr
    simp only [Bool.and_eq_true] at hr
    obtain ⟨⟨⟨_, q1⟩, q2⟩, _⟩ := hr
    unfold wtn at q1 q2
    unfold shp at q1 q2
    constructor
    · repeat' split at q2
      all_goals simp at q2 <;> omega
    · repeat' split at q1
      all_goals simp at q1 <;> omega
  obtain ⟨hn1, hb1⟩ := hnb
  have E1 := Lib.hid (fun W => ask_Right f t m o A n c B b d W h1 h3 h4 (by omega) (by omega))
  have HRT := Lib.hid hr
  rw [hr] at E1
  unfold akV at E1
  have E2 := Lib.hid (fun W => ask_shape f W h1)
  rw [hfn] at E2
  have HN := Lib.hid hn
  have HK := Lib.hid hb
  have hkd := kinds hfn
  have HKD := Lib.hid hkd
  obtain ⟨s, hs⟩ : ∃ s, shp f = s := ⟨_, rfl⟩
  have HS := Lib.hid hs
  rw [hs] at E2 HKD
  have hsle := shp_le f
  rw [hs] at hsle
  obtain ⟨s0, s1, s2, s3, s4⟩ := s
  obtain ⟨l0, l1, l2⟩ := hsle
  simp only [Shp.val] at E2
  simp only at HKD l0 l1 l2
  clear hr hn hb hs hkd hfn
  have hb1 := (Below.refl _ w).alloc (Nat.le_refl _) (.cells #[.int .u8 (f : Int), .int .u16 (t : Int), .int .u16 (m : Int), .int .u16 (o : Int), .slice A n c, .slice B b d] 41)
  have bx1 := Blk.new w 41 #[.int .u8 (f : Int), .int .u16 (t : Int), .int .u16 (m : Int), .int .u16 (o : Int), .slice A n c, .slice B b d]
  obtain ⟨g, hg⟩ : ∃ g, w.heap.size = g := ⟨_, rfl⟩
  have HG := Lib.hid hg
  go_enter Try.func22, Try.ntmps22
  go_wp2_with fail
  rw [hg] at bx1
  clear hg
  refine (E1.out _).mono ?_
  rintro e w2 ⟨rfl, hb2⟩
  have hb2' := bthen hb1 hb2
  have bx2 := bx1.all hb2
  clear hb1 hb2 bx1 E1
  obtain ⟨d0, d1, d2, d3, d4, d5⟩ := bx2.c6
  go_wp2_with fail
  refine (E2.out _).mono ?_
  rintro e w3 ⟨rfl, hb3⟩
  have hb3' := bthen hb2' hb3
  have bx3 := bx2.all hb3
  clear d0 d1 d2 d3 d4 d5 hb2' hb3 bx2 E2
  go_upto_region 4 with fail
  have hb4 := hb3'.alloc hb3'.size (.cells #[.int .i64 (s0 : Int), .int .i64 (s1 : Int), .int .i64 (s2 : Int), .bool s3, .bool s4] 92)
  have bx4 := bx3.alloc (.cells #[.int .i64 (s0 : Int), .int .i64 (s1 : Int), .int .i64 (s2 : Int), .bool s3, .bool s4] 92)
  have by4 := Blk.new w3 92 #[.int .i64 (s0 : Int), .int .i64 (s1 : Int), .int .i64 (s2 : Int), .bool s3, .bool s4]
  generalize w3.alloc (.cells #[.int .i64 (s0 : Int), .int .i64 (s1 : Int), .int .i64 (s2 : Int), .bool s3, .bool s4] 92) = w4 at *
  obtain ⟨g2, hg2⟩ : ∃ g, w3.heap.size = g := ⟨_, rfl⟩
  rw [hg2] at by4 ⊢
  clear hg2 hb3' bx3
  have hR4 := hR.below hb4
  have hsz4 : w.heap.size ≤ w4.heap.size := hb4.size
  have K0 : Hid (∀ W : World, Below w4.heap.size w4 W → Blk W g 41 #[.int .u8 (f : Int), .int .u16 (t : Int), .int .u16 (m : Int), .int .u16 (o : Int), .slice A n c, .slice B b d] ∧ Blk W g2 92 #[.int .i64 (s0 : Int), .int .i64 (s1 : Int), .int .i64 (s2 : Int), .bool s3, .bool s4]) := fun W hW => ⟨bx4.all hW, by4.all hW⟩
  obtain ⟨d0, d1, d2, d3, d4, d5⟩ := bx4.c6
  obtain ⟨d0', d1', d2', d3', d4', d5'⟩ := (bx4.alloc (.cells #[.int .u8 (f : Int)] 5)).c6
  have rr : Below w4.heap.size w4 w4 := Below.refl _ _
  have HF1 : Hid (bs [f] = [.int .u8 (f : Int)]) := rfl
  go_wp2_with fail
  refine (num1 w4 _ (rr.alloc (Nat.le_refl _) _) _ 1 1 [f] (Ow.lit _ _ _ [.int .u8 (f : Int)] (Nat.le_refl _) (show (1 : Nat) ≤ maxLen by decide) HF1.out rfl) rfl t h2 _ (World.size_alloc _ _) (by omega)).mono ?_
  rintro e w5 ⟨A5, n5, c5, rfl, L5, m5, o5, hb5⟩
  clear d0 d1 d2 d3 d4 d5 d0' d1' d2' d3' d4' d5' bx4 by4 rr
  have hb5' := bthen hb4 hb5
  obtain ⟨bx5, by5⟩ := K0.out _ hb5
  obtain ⟨d0, d1, d2, d3, d4, d5⟩ := bx5.c6
  obtain ⟨e0, e1, e2, e3, e4⟩ := by5.c5
  rcases HKD.out with ⟨k0, rfl, rfl, rfl, k5, k6⟩ | rfl | rfl | rfl | rfl | rfl
  · have v0 : (0 : Int) < (s0 : Int) := by omega
    have v5 : ((f : Int) == 5) = false := by simp; omega
    have v6 : ((f : Int) == 6) = false := by simp; omega
    go_wp2_with fail
    refine (num1 w4 _ hb5 _ n5 c5 _ o5 L5.out m h3 _ rfl (by omega)).mono ?_
    rintro e w6 ⟨A6, n6, c6, rfl, L6, m6, o6, hb6⟩
    clear d0 d1 d2 d3 d4 d5 e0 e1 e2 e3 e4 bx5 by5
    obtain ⟨bx6, by6⟩ := K0.out _ hb6
    obtain ⟨d0, d1, d2, d3, d4, d5⟩ := bx6.c6
    obtain ⟨e0, e1, e2, e3, e4⟩ := by6.c5
    go_wp2_with fail
    go_ret2
    have hout : out = [f] ++ nums [t] ++ nums [m] := by
      rw [HB.out]; unfold midA tailA; rw [HS.out]; simp [k0, k5, k6, nums]
    exact ⟨A6, c6, bytes_fin hout L6.out, by rw [hout]; exact o6.base hsz4, hb4.trans (hb6.mono hsz4)⟩
  · have hs : Shp.mk 0 1 0 false false = ⟨s0, s1, s2, s3, s4⟩ := HS.out
    injection hs with z0 z1 z2 z3 z4
    subst z0 z1 z2 z3 z4
    obtain rfl := right5 HRT.out
    obtain ⟨x, rfl⟩ := len1 HK.out
    obtain ⟨bb, off, x', rfl, hx, cx⟩ := (hR4.bits.below hb5).bit (k := 0) (by simp)
    rw [Nat.add_zero] at cx
    obtain rfl : x = x' := by simpa using hx
    clear hx
    have HOUT : Hid (out = [5] ++ nums [t] ++ nums [if x then 65280 else 0]) := by
      (show _ = _); rw [HB.out]; unfold midA tailA; simp [shp, nums]
    cases x with
    | true =>
      go_wp2_with fail
      refine (num1 w4 _ hb5 _ n5 c5 _ o5 L5.out 65280 (by omega) _ rfl (by omega)).mono ?_
      rintro e w6 ⟨A6, n6, c6, rfl, L6, m6, o6, hb6⟩
      go_wp2_with fail
      go_ret2
      exact ⟨A6, c6, bytes_fin HOUT.out L6.out, by rw [HOUT.out]; exact o6.base hsz4, hb4.trans (hb6.mono hsz4)⟩
    | false =>
      go_wp2_with fail
      refine (num1 w4 _ hb5 _ n5 c5 _ o5 L5.out 0 (by omega) _ rfl (by omega)).mono ?_
      rintro e w6 ⟨A6, n6, c6, rfl, L6, m6, o6, hb6⟩
      go_wp2_with fail
      go_ret2
      exact ⟨A6, c6, bytes_fin HOUT.out L6.out, by rw [HOUT.out]; exact o6.base hsz4, hb4.trans (hb6.mono hsz4)⟩
  · have hs : Shp.mk 0 0 1 false false = ⟨s0, s1, s2, s3, s4⟩ := HS.out
    injection hs with z0 z1 z2 z3 z4
    subst z0 z1 z2 z3 z4
    obtain rfl := right6 HRT.out
    have HOUT : Hid (out = [6] ++ nums [t] ++ nums l) := by
      (show _ = _); rw [HB.out]; unfold midA tailA; simp [shp, nums]
    go_wp2_with fail
    refine (ask_numbers w4 _ hb5 _ n5 c5 _ o5 L5.out A 1 c l (.inl hR4.words) HN.out h5 (by omega) (by omega)).mono ?_
    rintro e w6 ⟨A6, c6, rfl, o6, hb6⟩
    have L6 : Hid (([6] ++ nums [t] ++ nums l).length = n5 + 2 * 1) := by (show _ = _); rw [List.length_append, L5.out, nums_length, HN.out]
    go_wp2_with fail
    go_ret2
    exact ⟨A6, c6, bytes_fin HOUT.out L6.out, by rw [HOUT.out]; exact o6.base hsz4, hb4.trans (hb6.mono hsz4)⟩
  · have hs : Shp.mk 1968 1968 0 false true = ⟨s0, s1, s2, s3, s4⟩ := HS.out
    injection hs with z0 z1 z2 z3 z4
    subst z0 z1 z2 z3 z4
    obtain ⟨hb1, hb2⟩ := right15 HRT.out
    have HOUT : Hid (out = [15] ++ nums [t] ++ nums [m] ++ [(pk k).length] ++ pk k) := by
      (show _ = _); rw [HB.out]; unfold midA tailA; simp [shp, nums]
    go_wp2_with fail
    refine (num1 w4 _ hb5 _ n5 c5 _ o5 L5.out m h3 _ rfl (by omega)).mono ?_
    rintro e w6 ⟨A6, n6, c6, rfl, L6, m6, o6, hb6⟩
    clear d0 d1 d2 d3 d4 d5 e0 e1 e2 e3 e4 bx5 by5
    obtain ⟨bx6, by6⟩ := K0.out _ hb6
    obtain ⟨d0, d1, d2, d3, d4, d5⟩ := bx6.c6
    obtain ⟨e0, e1, e2, e3, e4⟩ := by6.c5
    go_wp2_with fail
    refine (ask_Pack B b d k w6 (hR4.bits.below hb6) HK.out (by omega)).mono ?_
    rintro e w7 ⟨A7, c7, rfl, o7, hb7⟩
    obtain ⟨q, hq⟩ : ∃ q, (b + 7) / 8 = q := ⟨_, rfl⟩
    have hq1 : 1 ≤ q := by omega
    have hq2 : q ≤ 246 := by omega
    have HQ : Hid ((pk k).length = q) := by (show _ = _); rw [pk_length, HK.out, hq]
    rw [hq]
    clear hq
    obtain ⟨g7, rfl, hg7, -, -, -⟩ := o7.head (by rw [bs_length, HQ.out]; exact hq1)
    have o67 := o6.below hb7
    have hb7' := hb6.trans (hb7.mono hb6.size)
    have hq3 : IntKind.u8.wrap (q : Int) = (q : Int) := by rw [IntKind.wrap_u8]; omega
    have HL1 : Hid (bs [q] = [.int .u8 (q : Int)]) := rfl
    go_wp2_with (at_builtin; refine app_b rfl _ _ rfl w4 (hb7'.alloc hb7'.size _) _ _ _ _ rfl (o67.alloc _) L6.out _ 1 1 [q] rfl (Rd.lit _ _ _ HL1.out) rfl (by omega) ?_)
    intro A8 c8 w8 o8 hb8 hg8
    have rd8 := o6.rdPast (o7.rd.alloc _) hg7 hg8
    have L8 : Hid (([15] ++ nums [t] ++ nums [m] ++ [q]).length = n6 + 1) := by (show _ = _); rw [List.length_append, L6.out]; rfl
    go_wp2_with (at_builtin; refine app_b rfl _ _ rfl w4 hb8 _ _ _ _ rfl o8 L8.out _ q c7 (pk k) rfl rd8 HQ.out (by omega) ?_)
    intro A9 c9 w9 o9 hb9 hg9
    rw [← HQ.out] at o9
    have L9 : Hid (([15] ++ nums [t] ++ nums [m] ++ [(pk k).length] ++ pk k).length = n6 + 1 + q) := by (show _ = _); rw [List.length_append, HQ.out, L8.out]
    go_wp2_with fail
    go_ret2
    exact ⟨A9, c9, bytes_fin HOUT.out L9.out, by rw [HOUT.out]; exact o9.base hsz4, hb4.trans (hb9.mono hsz4)⟩
  · have hs : Shp.mk 123 0 123 false true = ⟨s0, s1, s2, s3, s4⟩ := HS.out
    injection hs with z0 z1 z2 z3 z4
    subst z0 z1 z2 z3 z4
    have HOUT : Hid (out = [16] ++ nums [t] ++ nums [m] ++ [2 * n] ++ nums l) := by
      (show _ = _); rw [HB.out]; unfold midA tailA; rw [HN.out]; simp [shp, nums]
    go_wp2_with fail
    refine (num1 w4 _ hb5 _ n5 c5 _ o5 L5.out m h3 _ rfl (by omega)).mono ?_
    rintro e w6 ⟨A6, n6, c6, rfl, L6, m6, o6, hb6⟩
    clear d0 d1 d2 d3 d4 d5 e0 e1 e2 e3 e4 bx5 by5
    obtain ⟨bx6, by6⟩ := K0.out _ hb6
    obtain ⟨d0, d1, d2, d3, d4, d5⟩ := bx6.c6
    obtain ⟨e0, e1, e2, e3, e4⟩ := by6.c5
    have K1 : Hid (∀ W : World, Below w4.heap.size w4 W → W.cell? ⟨g, 4, none⟩ = some (.slice A n c)) := fun W hW => (K0.out W hW).1.c6.2.2.2.2.1
    have f1 : IntKind.i64.wrap (2 * (n : Int)) = 2 * (n : Int) := IntWalk.i64_in _ (by omega)
    have f2 : IntKind.u8.wrap (2 * (n : Int)) = 2 * (n : Int) := by rw [IntKind.wrap_u8]; omega
    have HX : Hid (bs [2 * n] = [.int .u8 (2 * (n : Int))]) := by (show _ = _); simp [bs]
    have L8 : Hid (([16] ++ nums [t] ++ nums [m] ++ [2 * n]).length = n6 + 1) := by (show _ = _); rw [List.length_append, L6.out]; rfl
    have L9 : Hid (([16] ++ nums [t] ++ nums [m] ++ [2 * n] ++ nums l).length = n6 + 1 + 2 * n) := by (show _ = _); rw [List.length_append, L8.out, nums_length, HN.out]
    go_upto_region 19 with fail
    clear d0 d1 d2 d3 d4 d5 e0 e1 e2 e3 e4
    go_region_held3 (fun w' => w'.cell? ⟨g, 4, none⟩ = some (.slice A n c)) (first | exact K1.out _ hb6.drew | exact K1.out _ (hb6.drew.alloc hb6.size _) | exact K1.out _ hb8 | exact K1.out _ hb9)
      (first
        | (refine sapp_b rfl _ _ rfl w4 (hb6.drew.alloc hb6.size _) A6 n6 c6 _ rfl (o6.drew.alloc _) L6.out _ 1 1 [2 * n] rfl (Rd.lit _ _ _ HX.out) rfl (by omega) ?_; intro A8 c8 w8 o8 hb8 hg8)
        | (go_at_call 74; refine (ask_numbers w4 _ hb8 A8 (n6 + 1) c8 _ o8 L8.out A n c l (.inl hR4.words) HN.out h5 (by omega) (by omega)).mono ?_; rintro e w9 ⟨A9, c9, rfl, o9, hb9⟩))
    go_wp2_with fail
    go_ret2
    exact ⟨A9, c9, bytes_fin HOUT.out L9.out, by rw [HOUT.out]; exact o9.base hsz4, hb4.trans (hb9.mono hsz4)⟩
  · have hs : Shp.mk 125 0 121 true false = ⟨s0, s1, s2, s3, s4⟩ := HS.out
    injection hs with z0 z1 z2 z3 z4
    subst z0 z1 z2 z3 z4
    have HOUT : Hid (out = [23] ++ nums [t] ++ nums [m] ++ nums [o, n] ++ [2 * n] ++ nums l) := by
      (show _ = _); rw [HB.out]; unfold midA tailA; rw [HN.out]; simp [shp, nums]
    go_wp2_with fail
    refine (num1 w4 _ hb5 _ n5 c5 _ o5 L5.out m h3 _ rfl (by omega)).mono ?_
    rintro e w6 ⟨A6, n6, c6, rfl, L6, m6, o6, hb6⟩
    clear d0 d1 d2 d3 d4 d5 e0 e1 e2 e3 e4 bx5 by5
    obtain ⟨bx6, by6⟩ := K0.out _ hb6
    obtain ⟨d0, d1, d2, d3, d4, d5⟩ := bx6.c6
    obtain ⟨e0, e1, e2, e3, e4⟩ := by6.c5
    have f0 : IntKind.u16.wrap (n : Int) = (n : Int) := by rw [IntKind.wrap_u16]; omega
    go_wp2_with fail
    refine (num2 w4 _ hb6 _ n6 c6 _ o6 L6.out o n h4 (by omega) _ rfl (by omega)).mono ?_
    rintro e w7 ⟨A7, n7, c7, rfl, L7, m7, o7, hb7⟩
    clear d0 d1 d2 d3 d4 d5 e0 e1 e2 e3 e4 bx6 by6 f0
    obtain ⟨bx7, by7⟩ := K0.out _ hb7
    obtain ⟨d0, d1, d2, d3, d4, d5⟩ := bx7.c6
    obtain ⟨e0, e1, e2, e3, e4⟩ := by7.c5
    have K1 : Hid (∀ W : World, Below w4.heap.size w4 W → W.cell? ⟨g, 4, none⟩ = some (.slice A n c)) := fun W hW => (K0.out W hW).1.c6.2.2.2.2.1
    have f1 : IntKind.i64.wrap (2 * (n : Int)) = 2 * (n : Int) := IntWalk.i64_in _ (by omega)
    have f2 : IntKind.u8.wrap (2 * (n : Int)) = 2 * (n : Int) := by rw [IntKind.wrap_u8]; omega
    have HX : Hid (bs [2 * n] = [.int .u8 (2 * (n : Int))]) := by (show _ = _); simp [bs]
    have L8 : Hid (([23] ++ nums [t] ++ nums [m] ++ nums [o, n] ++ [2 * n]).length = n7 + 1) := by (show _ = _); rw [List.length_append, L7.out]; rfl
    have L9 : Hid (([23] ++ nums [t] ++ nums [m] ++ nums [o, n] ++ [2 * n] ++ nums l).length = n7 + 1 + 2 * n) := by (show _ = _); rw [List.length_append, L8.out, nums_length, HN.out]
    go_upto_region 19 with fail
    clear d0 d1 d2 d3 d4 d5 e0 e1 e2 e3 e4
    go_region_held3 (fun w' => w'.cell? ⟨g, 4, none⟩ = some (.slice A n c)) (first | exact K1.out _ hb7.drew | exact K1.out _ (hb7.drew.alloc hb7.size _) | exact K1.out _ hb8 | exact K1.out _ hb9)
      (first
        | (refine sapp_b rfl _ _ rfl w4 (hb7.drew.alloc hb7.size _) A7 n7 c7 _ rfl (o7.drew.alloc _) L7.out _ 1 1 [2 * n] rfl (Rd.lit _ _ _ HX.out) rfl (by omega) ?_; intro A8 c8 w8 o8 hb8 hg8)
        | (go_at_call 74; refine (ask_numbers w4 _ hb8 A8 (n7 + 1) c8 _ o8 L8.out A n c l (.inl hR4.words) HN.out h5 (by omega) (by omega)).mono ?_; rintro e w9 ⟨A9, c9, rfl, o9, hb9⟩))
    go_wp2_with fail
    go_ret2
    exact ⟨A9, c9, bytes_fin HOUT.out L9.out, by rw [HOUT.out]; exact o9.base hsz4, hb4.trans (hb9.mono hsz4)⟩

theorem ask_Bytes (a : Ak) (A : Option Addr) (c : Nat) (B : Option Addr) (d : Nat) (w : World) (hR : AkR w a A B) (hok : a.ok) (hw : a.words.length ≤ 1000000) (hk : a.bits.length ≤ 1000000) :
    Calls Try.prog 22 #[a.v A c B d] w fun e w' => ∃ A' c', e = .returned (.tuple #[.slice A' (bytesN a).length c', .int .i64 (errN a : Nat)]) ∧ Ow w' w.heap.size 5 A' c' (bs (bytesN a)) ∧ Below w.heap.size w w' := by
  by_cases hr : rightA a = true
  · have e1 : bytesN a = bytesA a := by unfold bytesN; rw [if_pos hr]
    have e2 : errN a = 0 := by unfold errN; rw [if_pos hr]
    rw [e1, e2]
    exact ask_Bytes_some a A c B d w hR hok hr
  · have e1 : bytesN a = [] := by unfold bytesN; rw [if_neg hr]
    have e2 : errN a = 12 := by unfold errN; rw [if_neg hr]
    rw [e1, e2]
    refine (ask_Bytes_none a A c B d w hok hw hk (by simpa using hr)).mono ?_
    rintro e w' ⟨rfl, hb⟩
    exact ⟨none, 0, rfl, Ow.nil, hb⟩
end Go.Proofs.Ytechhidfgheejaa
