/- The walks of ask.numbers and ask.list. -/
import Derived.Test.YtechhidfgheejaaAskA
import Derived.Test.YtechhidfgheejaaOwnK
import Derived.Deep.RegionHeld3
import Derived.Laws.BitsAllLaws
import Derived.Laws.BitsLemmas
namespace Go.Proofs.Ytechhidfgheejaa
open Go.RowKit
set_option linter.unusedSimpArgs false
set_option linter.unusedVariables false

/-- numbers of two bytes -/
def nums (l : List Nat) : List Nat := l.flatMap fun x => [x / 256, x % 256]
theorem nums_length (l : List Nat) : (nums l).length = 2 * l.length := by
  induction l with
  | nil => rfl
  | cons a l ih => simp only [nums, List.flatMap_cons, List.length_append, List.length_cons] at *; simp at *; omega
theorem nums_snoc (l : List Nat) (x : Nat) : nums (l ++ [x]) = nums l ++ [x / 256, x % 256] := by simp [nums]
theorem nums_append (l k : List Nat) : nums (l ++ k) = nums l ++ nums k := by simp [nums]
theorem nums_Bs {l : List Nat} (h : Ws l) : Bs (nums l) := by
  intro y hy
  obtain ⟨x, hx, hy⟩ := List.mem_flatMap.1 hy
  have := h x hx
  simp at hy
  omega

theorem Ow.owK {w : World} {B : Nat} {e : TypeId} {A : Option Addr} {c : Nat} {xs : List Value} (h : Ow w B e A c xs) : OwK w B e 1 A xs.length c xs := h
/-- rows of unlike elements: one is kept where the other grows -/
theorem Ow.keptOw {w w' : World} {B c : Nat} {e : TypeId} {A : Option Addr} {xs : List Value} {B2 c2 n2 : Nat} {e2 : TypeId} {A2 : Option Addr} {ys : List Value} (h : Ow w B e A c xs) (h2 : Ow w B2 e2 A2 c2 ys) (hne : e ≠ e2) (hg : w.grownBy w' (Value.ownBlock (.slice A2 n2 c2))) : Ow w' B e A c xs := by
  have e1 : Value.ownBlock (.slice A2 n2 c2) = Value.ownBlock (.slice A2 ys.length c2) := by cases A2 <;> rfl
  rw [e1] at hg
  exact h.keptApart h2.owK hne hg
/-- words that are read while bytes are appended: of old, or in a row of their own -/
def SrcW (w0 w : World) (A : Option Addr) (c : Nat) (l : List Nat) : Prop := Rd w0 A (ws l) ∨ Ow w 0 34 A c (ws l)
theorem SrcW.rd {w0 w : World} {A : Option Addr} {c : Nat} {l : List Nat} (h : SrcW w0 w A c l) (hb : Below w0.heap.size w0 w) : Rd w A (ws l) := by
  rcases h with h | h
  · exact h.below hb
  · exact h.rd
theorem SrcW.app {w0 w w' : World} {A : Option Addr} {c : Nat} {l : List Nat} (h : SrcW w0 w A c l) {B c2 n2 : Nat} {A2 : Option Addr} {ys : List Value} (h2 : Ow w B 5 A2 c2 ys) (hg : w.grownBy w' (Value.ownBlock (.slice A2 n2 c2))) : SrcW w0 w' A c l := by
  rcases h with h | h
  · exact .inl h
  · exact .inr (h.keptOw h2 (by decide) hg)
theorem SrcW.alloc {w0 w : World} {A : Option Addr} {c : Nat} {l : List Nat} (h : SrcW w0 w A c l) (o : Obj) : SrcW w0 (w.alloc o) A c l := by
  rcases h with h | h
  · exact .inl h
  · exact .inr (h.alloc o)

set_option maxHeartbeats 1000000 in
theorem ask_numbers (w0 w : World) (hb : Below w0.heap.size w0 w) (A : Option Addr) (n c : Nat) (xs : List Nat) (hown : Ow w w0.heap.size 5 A c (bs xs)) (hn : xs.length = n)
    (A2 : Option Addr) (m c2 : Nat) (l : List Nat) (hr : SrcW w0 w A2 c2 l) (hm : l.length = m) (hl : Ws l) (hbig : n ≤ 1000000) (hbig2 : m ≤ 1000000) :
    Calls Try.prog 74 #[.slice A n c, .slice A2 m c2] w fun e w' => ∃ A' c', e = .returned (.slice A' (n + 2 * m) c') ∧ Ow w' w0.heap.size 5 A' c' (bs (xs ++ nums l)) ∧ Below w0.heap.size w0 w' := by
  have HN := Lib.hid hn
  have HM := Lib.hid hm
  clear hn hm
  go_enter Try.func74, Try.ntmps74
  go_wp2_with fail
  go_loopw [0, 9] (fun v i wr => ∃ j : Nat, j ≤ m ∧ i = .int .i64 j ∧ Below w0.heap.size w0 wr ∧ SrcW w0 wr A2 c2 l ∧ ∃ A4 c4, v = .slice A4 (n + 2 * j) c4 ∧ Ow wr w0.heap.size 5 A4 c4 (bs (xs ++ nums (l.take j)))) (fun _ i _ => m - (intOf i).toNat)
  case atStart => exact ⟨0, by omega, rfl, hb, hr, A, c, rfl, by simpa [nums] using hown⟩
  case round =>
    obtain ⟨j, hj, rfl, hbr, hsr, A4, c4, rfl, ho4⟩ := hrel
    by_cases hlt : j < m
    · obtain ⟨b, off, x, rfl, hx, hcell⟩ := (hsr.rd hbr).word (k := j) (by rw [HM.out]; exact hlt)
      have hxb := hl.get hx
      have HT := Lib.hid (take_snoc hx)
      have HL : Hid ((xs ++ nums (l.take j)).length = n + 2 * j) := by (show _ = _); rw [List.length_append, nums_length, HN.out, List.length_take, HM.out]; omega
      have HX : Hid (bs [x / 256, x % 256] = [.int .u8 ((x : Int) / 256), .int .u8 ((x : Int) % 256)]) := by (show _ = _); simp [bs]
      clear hx
      go_wp2_with (at_builtin; refine app_b rfl _ _ rfl w0 (hbr.alloc hbr.size _) _ _ _ _ rfl (ho4.alloc _) HL.out _ 2 2 [x / 256, x % 256] rfl (Rd.lit _ _ _ HX.out) rfl (by omega) ?_)
      intro A7 c7 w7 ho7 hb7 hg7
      have hs7 := (hsr.alloc _).app (ho4.alloc _) hg7
      go_wp2_with fail
      go_roundw
      case rel => exact ⟨j + 1, by omega, by go_num, hb7, hs7, A7, c7, rfl, by rw [HT.out, nums_snoc]; exact ho7⟩
      case measure => simp [intOf]; omega
    · obtain rfl : j = m := by omega
      go_wp2_with fail
      go_ret
      refine ⟨A4, c4, rfl, ?_, hbr⟩
      rw [List.take_of_length_le (by rw [HM.out]; exact Nat.le_refl _)] at ho4
      exact ho4

/-- the numbers of two bytes that bytes begin with -/
def pairs (b : List Nat) : List Nat := (List.range (b.length / 2)).map fun i => b.getD (2 * i) 0 * 256 + b.getD (2 * i + 1) 0
theorem pairs_length (b : List Nat) : (pairs b).length = b.length / 2 := by simp [pairs]
theorem getD_lt {l : List Nat} (h : Bs l) (i : Nat) : l.getD i 0 < 256 := by
  rw [List.getD_eq_getElem?_getD]
  rcases hx : l[i]? with _ | x
  · simp
  · exact h.get hx
theorem pairs_Ws {b : List Nat} (h : Bs b) : Ws (pairs b) := by
  intro x hx
  obtain ⟨i, _, rfl⟩ := List.mem_map.1 hx
  have h1 := getD_lt h (2 * i)
  have h2 := getD_lt h (2 * i + 1)
  omega
theorem u16_or8l (x y : Nat) (hx : x < 256) (hy : y < 256) : bits .or .u16 ((x : Int) * 256) (y : Int) = ((x * 256 + y : Nat) : Int) := by
  have h := u16_or_nat (256 * x) y (by omega) (by omega)
  have h2 : 256 * x ||| y = 256 * x + y := by
    rw [show 256 * x = 2 ^ 8 * x from rfl, ← Nat.two_pow_add_eq_or_of_lt (i := 8) hy]
  rw [h2] at h
  have e1 : (x : Int) * 256 = ((256 * x : Nat) : Int) := by omega
  have e2 : ((x * 256 + y : Nat) : Int) = ((256 * x + y : Nat) : Int) := by omega
  rw [e1, e2]
  exact h
theorem Rd.byteAt {w : World} {b off : Nat} {l : List Nat} (h : Rd w (some ⟨b, off, none⟩) (bs l)) (k : Nat) (hk : k < l.length) : w.cell? ⟨b, off + k, none⟩ = some (.int .u8 (l.getD k 0 : Nat)) := by
  obtain ⟨b', off', x, hA, hx, hc⟩ := h.byte hk
  injection hA with hA
  injection hA with h1 h2
  subst h1 h2
  rw [List.getD_eq_getElem?_getD, hx]
  exact hc
/-- what has been laid when j are done, of n -/
def pairsTo (b : List Nat) (j n : Nat) : List Nat := (pairs b).take j ++ List.replicate (n - j) 0
theorem pairsTo_zero (b : List Nat) (n : Nat) : pairsTo b 0 n = List.replicate n 0 := by simp [pairsTo]
theorem pairsTo_succ (b : List Nat) (j n : Nat) (hn : (pairs b).length = n) (hj : j < n) : (pairsTo b j n).set j (b.getD (2 * j) 0 * 256 + b.getD (2 * j + 1) 0) = pairsTo b (j + 1) n := by
  have hp : (pairs b)[j]? = some (b.getD (2 * j) 0 * 256 + b.getD (2 * j + 1) 0) := by
    unfold pairs
    rw [List.getElem?_map, List.getElem?_range (by rw [pairs_length] at hn; omega)]
    rfl
  unfold pairsTo
  rw [take_snoc hp]
  obtain ⟨r, hr⟩ : ∃ r, n - j = r + 1 := ⟨n - j - 1, by omega⟩
  rw [hr, show n - (j + 1) = r by omega, List.replicate_succ, List.set_append_right _ _ (by simp; omega)]
  have : j - ((pairs b).take j).length = 0 := by rw [List.length_take]; omega
  rw [this]
  simp
theorem pairsTo_length (b : List Nat) (j n : Nat) (hn : (pairs b).length = n) (hj : j ≤ n) : (pairsTo b j n).length = n := by
  unfold pairsTo
  rw [List.length_append, List.length_take, List.length_replicate]
  omega
theorem pairsTo_all (b : List Nat) (n : Nat) (hn : (pairs b).length = n) : pairsTo b n n = pairs b := by
  unfold pairsTo
  rw [List.take_of_length_le (by omega)]
  simp

set_option maxHeartbeats 2000000 in
theorem ask_list (A : Option Addr) (n c : Nat) (l : List Nat) (w : World) (hA : Rd w A (bs l)) (hn : l.length = n) (hl : Bs l) (hm : n ≤ 1000000) :
    Calls Try.prog 95 #[.slice A n c] w fun e w' => ∃ A' c', e = .returned (.slice A' (n / 2) c') ∧ Ow w' w.heap.size 34 A' c' (ws (pairs l)) ∧ Below w.heap.size w w' := by
  have HN := Lib.hid hn
  obtain ⟨h, hh⟩ : ∃ h, n / 2 = h := ⟨_, rfl⟩
  have HH : Hid ((pairs l).length = h) := by (show _ = _); rw [pairs_length, hn, hh]
  have h2n : 2 * h ≤ n := by omega
  have hhI : (n : Int) / 2 = (h : Int) := by omega
  rw [hh]
  clear hn hh
  go_enter Try.func95, Try.ntmps95
  go_wp2_with (at_make; refine mkn_w rfl _ _ rfl w (Below.refl _ _) _ _ _ _ h rfl rfl rfl rfl (by omega) ?_)
  intro w1 ho1 hb1 hg1 hs1
  clear hhI
  obtain ⟨g, hg⟩ : ∃ g, w.heap.size = g := ⟨_, rfl⟩
  have hgw : w.heap.size ≤ g := by omega
  rw [hg] at ho1 ⊢
  have HG := Lib.hid hg
  clear hg
  go_wp2_with fail
  go_loopw [11] (fun i wr => ∃ j : Nat, j ≤ h ∧ i = .int .i64 j ∧ Below w.heap.size w wr ∧ Ow wr g 34 (some ⟨g, 0, none⟩) h (ws (pairsTo l j h))) (fun i _ => h - (intOf i).toNat)
  case atStart => exact ⟨0, by omega, rfl, hb1, by rw [pairsTo_zero]; exact ho1⟩
  case round =>
    obtain ⟨j, hj, rfl, hbr, hor⟩ := hrel
    by_cases hlt : j < h
    · obtain ⟨b, off, x0, rfl, hx0, c0⟩ := hA.byte (k := 2 * j) (by rw [HN.out]; omega)
      have c1 := hA.byteAt (2 * j + 1) (by rw [HN.out]; omega)
      have e0 : l.getD (2 * j) 0 = x0 := by rw [List.getD_eq_getElem?_getD, hx0]; rfl
      obtain ⟨x1, e1⟩ : ∃ x1, l.getD (2 * j + 1) 0 = x1 := ⟨_, rfl⟩
      have b0 := hl.get hx0
      have b1 := getD_lt hl (2 * j + 1)
      rw [e1] at c1 b1
      have hst := pairsTo_succ l j h HH.out hlt
      rw [e0, e1] at hst
      have HST := Lib.hid hst
      have hblk : b < w.heap.size := World.block_lt_of_cell? w _ c0
      have k0 := (hbr.cell (p := ⟨b, off + 2 * j, none⟩) hblk).trans c0
      have k1 := (hbr.cell (p := ⟨b, off + (2 * j + 1), none⟩) hblk).trans c1
      obtain ⟨⟨u, hu, hcell⟩, hfz, -, -⟩ := hor.at_ (j := j) (by rw [ws_length, pairsTo_length l j h HH.out hj]; exact hlt)
      have ho2 := hor.stored j (.int .u16 ((x0 * 256 + x1 : Nat) : Int))
      rw [ws_set, HST.out] at ho2
      have g1 : IntKind.u16.wrap (x0 : Int) = (x0 : Int) := by rw [IntKind.wrap_u16]; omega
      have g2 : IntKind.u16.wrap (x1 : Int) = (x1 : Int) := by rw [IntKind.wrap_u16]; omega
      have g3 : IntKind.u16.wrap ((x0 : Int) * 256) = (x0 : Int) * 256 := by rw [IntKind.wrap_u16]; omega
      have or1 := u16_or8l x0 x1 b0 b1
      obtain ⟨t, ht⟩ : ∃ t, x0 * 256 + x1 = t := ⟨_, rfl⟩
      rw [ht] at or1 ho2
      have f1 : (0 : Int) ≤ 2 * (j : Int) := by omega
      have f2 : 2 * (j : Int) < (n : Int) := by omega
      have f3 : (0 : Int) ≤ 2 * (j : Int) + 1 := by omega
      have f4 : 2 * (j : Int) + 1 < (n : Int) := by omega
      have f5 : (2 * (j : Int)).toNat = 2 * j := by omega
      have f6 : (2 * (j : Int) + 1).toNat = 2 * j + 1 := by omega
      have f7 : IntKind.i64.wrap (2 * (j : Int)) = 2 * (j : Int) := IntWalk.i64_in _ (by omega)
      have f8 : IntKind.i64.wrap (2 * (j : Int) + 1) = 2 * (j : Int) + 1 := IntWalk.i64_in _ (by omega)
      have f9 : (0 : Int) ≤ (j : Int) := by omega
      have f10 : (j : Int) < (h : Int) := by omega
      have hbg : b ≠ g := by omega
      have hgb : g ≠ b := by omega
      clear ht hx0 e0 e1 hst hu c0 c1
      go_wp2_with fail
      go_region_held3 (fun w' => w'.cell? ⟨b, off + 2 * j, none⟩ = some (.int .u8 (x0 : Int)) ∧ w'.cell? ⟨b, off + (2 * j + 1), none⟩ = some (.int .u8 (x1 : Int))) (go_keep) (fail)
      clear f1 f2 f3 f4 f5 f6 f7 f8 g1 g2 g3 or1
      go_wp2_with fail
      go_roundw
      case rel => exact ⟨j + 1, by omega, by go_num, (hbr.setCell (p := ⟨g, j, none⟩) hgw _).drew, ho2⟩
      case measure => simp [intOf]; omega
    · obtain rfl : j = h := by omega
      go_wp2_with fail
      go_ret
      refine ⟨some ⟨g, 0, none⟩, j, rfl, ?_, hbr⟩
      rw [pairsTo_all l j HH.out] at hor
      exact hor.base hgw
end Go.Proofs.Ytechhidfgheejaa
