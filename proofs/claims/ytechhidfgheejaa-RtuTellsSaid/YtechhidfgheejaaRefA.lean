/- The reference of chapter 2: Two, Words, At, Pack, Unpack. -/
import Derived.Test.YtechhidfgheejaaMore
import Derived.Test.YtechhidfgheejaaAskLaw
import Derived.Deep.QuietTactic
import Derived.BigQuiet
namespace Go.Proofs.Ytechhidfgheejaa
open Go.RowKit
set_option linter.unusedSimpArgs false
set_option linter.unusedVariables false

section
variable {a : Act} {w : World} {o : Oper} {ops : Array Oper} {rest : List Oper} {Q : Exit → Act → World → Prop}
theorem appL_b (hgd : o.guard = none) (s x : Operand) (ho : o.op = .call { callee := .builtin .append, args := #[s, x], argTypes := #[29, 29] })
    (w0 : World) (hb : Below w0.heap.size w0 w) (A : Option Addr) (n c : Nat) (xs : List Nat) (hs : a.eval s = .slice A n c) (hown : Ow w w0.heap.size 5 A c (bs xs)) (hn : xs.length = n)
    (A2 : Option Addr) (m c2 : Nat) (news : List Nat) (hx : a.eval x = .slice A2 m c2) (hr : Rd w A2 (bs news)) (hm : news.length = m) (hbytes : n + m ≤ 10000000000)
    (h : ∀ A' c' w', Ow w' w0.heap.size 5 A' c' (bs (xs ++ news)) → Below w0.heap.size w0 w' → w.grownBy w' (Value.ownBlock (.slice A n c)) → (A'.map (·.block) = A.map (·.block) ∨ A'.map (·.block) = some w.heap.size) → wpList Try.prog ops Q rest (a.put o.dst (.slice A' (n + m) c')) w') :
    wpList Try.prog ops Q (o :: rest) a w := by
  obtain ⟨i, hi, hz0, hz1, hz2⟩ := info_parts info_b
  refine wpList_plain hgd fun _ hK => wp_appL s x 29 ho 5 i (.int .u8 0) 1 Try.underlying29 hi hz0 hz1 hz2 rfl w0.heap.size w0 hb hb.size A n c (bs xs) hs hown (by rw [bs_length]; exact hn) A2 m c2 (bs news) hx hr (by rw [bs_length]; exact hm) (one_bs news) (by omega) (by decide) fun A' c' w' h1 h2 h3 h4 => hK _ _ (h A' c' w' (by rw [bs_append]; exact h1) h2 h3 h4)
end
theorem own_map (A : Option Addr) (n c : Nat) : Value.ownBlock (.slice A n c) = A.map (·.block) := by cases A <;> rfl
/-- what lies in another row stays -/
def Stays (w w' : World) (row row' : Option Nat) : Prop := (∀ g off ys, g < w.heap.size → some g ≠ row → Rd w (some ⟨g, off, none⟩) ys → Rd w' (some ⟨g, off, none⟩) ys) ∧ ∀ g, g < w.heap.size → some g ≠ row → some g ≠ row'

set_option maxHeartbeats 1000000 in
theorem ref_Two (w0 w : World) (hb : Below w0.heap.size w0 w) (A : Option Addr) (n c : Nat) (xs : List Nat) (hown : Ow w w0.heap.size 5 A c (bs xs)) (hn : xs.length = n) (x : Nat) (hx : x < 65536) (hbig : n ≤ 1000000) :
    Calls Try.prog 75 #[.slice A n c, .int .i64 (x : Int)] w fun e w' => ∃ A' c', e = .returned (.slice A' (n + 2) c') ∧ Ow w' w0.heap.size 5 A' c' (bs (xs ++ nums [x])) ∧ Below w0.heap.size w0 w' ∧ Stays w w' (A.map (·.block)) (A'.map (·.block)) := by
  have HN := Lib.hid hn
  obtain ⟨h, hh⟩ : ∃ h, x / 256 = h := ⟨_, rfl⟩
  obtain ⟨l, hl⟩ : ∃ l, x % 256 = l := ⟨_, rfl⟩
  have e1 : (x : Int) / 256 = (h : Int) := by omega
  have e2 : (x : Int) % 256 = (l : Int) := by omega
  have e3 : IntKind.u8.wrap (h : Int) = (h : Int) := by rw [IntKind.wrap_u8]; omega
  have e4 : IntKind.u8.wrap (l : Int) = (l : Int) := by rw [IntKind.wrap_u8]; omega
  have HX : Hid (nums [x] = [h] ++ [l]) := by (show _ = _); simp [nums, hh, hl]
  have H1 : Hid (bs [h] = [.int .u8 (h : Int)]) := rfl
  have H2 : Hid (bs [l] = [.int .u8 (l : Int)]) := rfl
  clear hn hh hl
  go_enter Try.func75, Try.ntmps75
  go_wp2_with (at_builtin; refine appL_b rfl _ _ rfl w0 (hb.alloc hb.size _) A n c xs rfl (hown.alloc _) HN.out _ 1 1 [h] rfl (Rd.lit _ _ _ H1.out) rfl (by omega) ?_)
  intro A3 c3 w3 o3 hb3 g3 l3
  have L3 := Lib.hid l3
  clear l3
  go_wp2_with (at_builtin; refine appL_b rfl _ _ rfl w0 (hb3.alloc hb3.size _) _ _ _ _ rfl (o3.alloc _) (by rw [List.length_append, HN.out]; rfl) _ 1 1 [l] rfl (Rd.lit _ _ _ H2.out) rfl (by omega) ?_)
  intro A4 c4 w4 o4 hb4 g4 l4
  have L4 := Lib.hid l4
  clear l4
  have S3 : Hid (w.heap.size < w3.heap.size) := by (show _ < _); have := g3.size; simp at this; omega
  go_wp2_with fail
  go_ret
  have hA3 : ∀ g, g < w.heap.size → some g ≠ A.map (·.block) → some g ≠ A3.map (·.block) := by
    intro g hg hne
    rcases L3.out with e | ⟨a, e, ha⟩
    · rw [e]; exact hne
    · rw [e]
      intro q
      have q : g = a.block := by simpa using q
      omega
  refine ⟨A4, c4, rfl, ?_, hb4, ?_, ?_⟩
  · rw [HX.out]
    first | exact o4 | (rw [← List.append_assoc]; exact o4)
  · intro g off ys hg hne hr
    have r3 := (hr.alloc (.cells #[.int .u8 (h : Int)] 5)).other g3 (by rw [own_map]; exact hne)
    refine (r3.alloc _).other g4 ?_
    rw [own_map]
    exact hA3 g hg hne
  · intro g hg hne
    have := S3.out
    rcases L4.out with e | ⟨a, e, ha⟩
    · rw [e]; exact hA3 g hg hne
    · rw [e]
      intro q
      have q : g = a.block := by simpa using q
      omega

set_option maxHeartbeats 1000000 in
theorem ref_Words (w0 w : World) (hb : Below w0.heap.size w0 w) (A : Option Addr) (n c : Nat) (xs : List Nat) (hown : Ow w w0.heap.size 5 A c (bs xs)) (hn : xs.length = n)
    (A2 : Option Addr) (m c2 : Nat) (l : List Nat) (hr : Rd w0 A2 (ws l)) (hm : l.length = m) (hl : Ws l) (hbig : n ≤ 100000) (hbig2 : m ≤ 100000) :
    Calls Try.prog 76 #[.slice A n c, .slice A2 m c2] w fun e w' => ∃ A' c', e = .returned (.slice A' (n + 2 * m) c') ∧ Ow w' w0.heap.size 5 A' c' (bs (xs ++ nums l)) ∧ Below w0.heap.size w0 w' := by
  have HN := Lib.hid hn
  have HM := Lib.hid hm
  clear hn hm
  go_enter Try.func76, Try.ntmps76
  go_wp2_with fail
  go_loopw [0, 5] (fun v i wr => ∃ j : Nat, j ≤ m ∧ i = .int .i64 j ∧ Below w0.heap.size w0 wr ∧ ∃ A4 c4, v = .slice A4 (n + 2 * j) c4 ∧ Ow wr w0.heap.size 5 A4 c4 (bs (xs ++ nums (l.take j)))) (fun _ i _ => m - (intOf i).toNat)
  case atStart => exact ⟨0, by omega, rfl, hb, A, c, rfl, by simpa [nums] using hown⟩
  case round =>
    obtain ⟨j, hj, rfl, hbr, A4, c4, rfl, ho4⟩ := hrel
    by_cases hlt : j < m
    · obtain ⟨b, off, x, rfl, hx, hcell⟩ := (hr.below hbr).word (k := j) (by rw [HM.out]; exact hlt)
      have hxb := hl.get hx
      have HT := Lib.hid (take_snoc hx)
      have HL : Hid ((xs ++ nums (l.take j)).length = n + 2 * j) := by (show _ = _); rw [List.length_append, nums_length, HN.out, List.length_take, HM.out]; omega
      clear hx
      go_wp2_with fail
      refine (ref_Two w0 wr hbr A4 (n + 2 * j) c4 _ ho4 HL.out x hxb (by omega)).mono ?_
      rintro e w3 ⟨A5, c5, rfl, o5, hb5, -⟩
      go_wp2_with fail
      go_roundw
      case rel => exact ⟨j + 1, by omega, by go_num, hb5, A5, c5, rfl, by rw [HT.out, nums_append, ← List.append_assoc]; exact o5⟩
      case measure => simp [intOf]; omega
    · obtain rfl : j = m := by omega
      go_wp2_with fail
      go_ret
      refine ⟨A4, c4, rfl, ?_, hbr⟩
      rw [List.take_of_length_le (by rw [HM.out]; exact Nat.le_refl _)] at ho4
      exact ho4

/-- the number at a place -/
def atR (l : List Nat) (i : Nat) : Nat := if i + 1 < l.length then l.getD i 0 * 256 + l.getD (i + 1) 0 else 0
theorem atR_lt {l : List Nat} (h : Bs l) (i : Nat) : atR l i < 65536 := by
  unfold atR
  split
  · have h1 := getD_lt h i
    have h2 := getD_lt h (i + 1)
    omega
  · omega

set_option maxHeartbeats 1000000 in
theorem ref_At (A : Option Addr) (n c : Nat) (l : List Nat) (i : Nat) (w : World) (hA : Rd w A (bs l)) (hn : l.length = n) (hl : Bs l) (hi : i ≤ 1000000) (hbig : n ≤ 1000000) :
    Calls Try.prog 79 #[.slice A n c, .int .i64 (i : Int)] w fun e w' => e = .returned (.int .i64 (atR l i : Nat)) ∧ ∃ dn, w' = w.drewN dn := by
  have HV : Hid (atR l i = if i + 1 < n then l.getD i 0 * 256 + l.getD (i + 1) 0 else 0) := by (show _ = _); unfold atR; rw [hn]
  have HN := Lib.hid hn
  clear hn
  by_cases hlt : i + 1 < n
  · have v1 : decide ((n : Int) ≤ (i : Int) + 1) = false := decide_eq_false (by omega)
    obtain ⟨b, off, x, rfl, hx, cx⟩ := hA.byte (k := i) (by rw [HN.out]; omega)
    have cy := hA.byteAt (i + 1) (by rw [HN.out]; exact hlt)
    have hxb := hl.get hx
    have hyb := getD_lt hl (i + 1)
    obtain ⟨y, hy⟩ : ∃ y, l.getD (i + 1) 0 = y := ⟨_, rfl⟩
    rw [hy] at cy hyb
    have HR : Hid (atR l i = x * 256 + y) := by (show _ = _); rw [HV.out, if_pos hlt, getD_of hx, hy]
    obtain ⟨t, ht⟩ : ∃ t, x * 256 + y = t := ⟨_, rfl⟩
    rw [ht] at HR
    have ht1 : 256 * (x : Int) + (y : Int) = (t : Int) := by omega
    have f1 : (0 : Int) ≤ (i : Int) := by omega
    have f2 : (i : Int) < (n : Int) := by omega
    have f3 : (0 : Int) ≤ (i : Int) + 1 := by omega
    have f4 : (i : Int) + 1 < (n : Int) := by omega
    have f5 : ((i : Int) + 1).toNat = i + 1 := by omega
    have f6 : IntKind.i64.wrap ((i : Int) + 1) = (i : Int) + 1 := IntWalk.i64_in _ (by omega)
    have f7 : IntKind.i64.wrap (256 * (x : Int)) = 256 * (x : Int) := IntWalk.i64_in _ (by omega)
    have f8 : IntKind.i64.wrap (256 * (x : Int) + (y : Int)) = (t : Int) := by rw [ht1]; exact IntWalk.i64_in _ (by omega)
    have f9 : IntKind.i64.wrap (x : Int) = (x : Int) := IntWalk.i64_in _ (by omega)
    have f10 : IntKind.i64.wrap (y : Int) = (y : Int) := IntWalk.i64_in _ (by omega)
    clear hx hy ht
    go_enter Try.func79, Try.ntmps79
    go_wp2_with fail
    go_quiet (fail)
    clear f1 f2 f3 f4 f5 f6 f7 f8 f9 f10
    go_wp2_with fail
    go_ret
    exact ⟨ret_int (by rw [HR.out]; try exact ht1), _, rfl⟩
  · have v1 : decide ((n : Int) ≤ (i : Int) + 1) = true := decide_eq_true (by omega)
    have HR : Hid (atR l i = 0) := by (show _ = _); rw [HV.out, if_neg hlt]
    go_enter Try.func79, Try.ntmps79
    go_wp2_with fail
    go_ret
    exact ⟨ret_int (by rw [HR.out]; rfl), 0, rfl⟩

/-- the upper bits of a byte, n of them -/
def hiB (f : Nat → Bool) : Nat → Nat
  | 0 => 0
  | n + 1 => (f (7 - n)).toNat + 2 * hiB f n
theorem hiB_lt (f : Nat → Bool) (n : Nat) : hiB f n < 2 ^ n := by
  induction n with
  | zero => simp [hiB]
  | succ n ih =>
    have := tn_lt (f (7 - n))
    simp only [hiB, Nat.pow_succ]
    omega
theorem hiB_all (f : Nat → Bool) : hiB f 8 = by8 f := by simp [hiB, by8]

set_option maxRecDepth 100000 in
set_option maxHeartbeats 2000000 in
theorem ref_Pack (A : Option Addr) (n c : Nat) (l : List Bool) (w : World) (hA : Rd w A (os l)) (hn : l.length = n) (hbig : n ≤ 100000) :
    Calls Try.prog 33 #[.slice A n c] w fun e w' => ∃ A' c', e = .returned (.slice A' ((n + 7) / 8) c') ∧ Ow w' w.heap.size 5 A' c' (bs (pk l)) ∧ Below w.heap.size w w' := by
  have HN := Lib.hid hn
  obtain ⟨h, hh⟩ : ∃ h, (n + 7) / 8 = h := ⟨_, rfl⟩
  have HH : Hid ((pk l).length = h) := by (show _ = _); rw [pk_length, hn, hh]
  have h1 : n ≤ 8 * h := by omega
  have h2 : 8 * h ≤ n + 7 := by omega
  rw [hh]
  clear hn hh
  have hb0 := Below.refl w.heap.size w
  go_enter Try.func33, Try.ntmps33
  go_wp2_with fail
  go_loopw [3, 4] (fun v i wr => ∃ j : Nat, j ≤ h ∧ i = .int .i64 (8 * j : Nat) ∧ Below w.heap.size w wr ∧ ∃ A4 c4, v = .slice A4 j c4 ∧ Ow wr w.heap.size 5 A4 c4 (bs ((pk l).take j))) (fun _ i _ => 8 * h - (intOf i).toNat)
  case atStart => exact ⟨0, by omega, rfl, hb0, none, 0, rfl, Ow.nil⟩
  case round =>
    obtain ⟨j, hj, rfl, hbr, A4, c4, rfl, o4⟩ := hrel
    obtain ⟨i, hi⟩ : ∃ i, 8 * j = i := ⟨_, rfl⟩
    rw [hi]
    by_cases hlt : i < n
    · have hi2 : i ≤ 100000 := by omega
      have hget := pk_get l j (by have := HN.out; omega)
      have hpl : (pk l)[j]? = some ((pk l).getD j 0) := by rw [List.getD_eq_getElem?_getD, List.getElem?_eq_getElem (by rw [HH.out]; omega)]; rfl
      rw [hget, hi] at hpl
      have HPL := Lib.hid hpl
      obtain ⟨f, hf⟩ : ∃ f : Nat → Bool, (fun k => l.getD (i + k) false) = f := ⟨_, rfl⟩
      have HF : ∀ k, l.getD (i + k) false = f k := fun k => congrFun hf k
      have HFH := Lib.hid HF
      rw [hf] at HPL
      have HI := Lib.hid hi
      have rd := hA.below hbr
      obtain ⟨wo, rfl⟩ : ∃ wo : World, wo = wr := ⟨_, rfl⟩
      clear hget hpl hf HF hi
      go_wp2_with fail
      go_loopw [5, 6] (fun cv kv wi => ∃ m : Nat, m ≤ 8 ∧ kv = .int .i64 (7 - (m : Int)) ∧ cv = .int .i64 (hiB f m : Nat) ∧ wo = wi) (fun _ kv _ => (intOf kv + 1).toNat)
      case atStart => exact ⟨0, by omega, rfl, rfl, rfl⟩
      case round =>
        obtain ⟨m, hm, rfl, rfl, rfl⟩ := hrel
        have hlt8 := hiB_lt f m
        have hp8 : 2 ^ m ≤ 256 := Nat.pow_le_pow_right (n := 2) (by decide) hm
        obtain ⟨cv, hcv⟩ : ∃ c, hiB f m = c := ⟨_, rfl⟩
        rw [hcv] at hlt8
        have HCV := Lib.hid hcv
        rw [hcv]
        have hcb : cv ≤ 256 := by omega
        clear hcv hlt8 hp8
        by_cases hm8 : m < 8
        · obtain ⟨k, hk⟩ : ∃ k, 7 - m = k := ⟨_, rfl⟩
          have hki : (7 : Int) - (m : Int) = (k : Int) := by omega
          have hk0 : (0 : Int) ≤ (k : Int) := by omega
          have HS : Hid (hiB f (m + 1) = (f k).toNat + 2 * cv) := by (show _ = _); simp only [hiB]; rw [hk, HCV.out]
          have hnext : (k : Int) - 1 = 7 - ((m + 1 : Nat) : Int) := by omega
          have hkb : k ≤ 7 := by omega
          rw [hki]
          by_cases hin : i + k < n
          · obtain ⟨bb, off, x, rfl, hx, cx⟩ := rd.bit (k := i + k) (by rw [HN.out]; exact hin)
            have hfx : f k = x := by rw [← HFH.out k, getD_of hx]
            have HFX := Lib.hid hfx
            have v1 : decide ((i : Int) + (k : Int) < (n : Int)) = true := decide_eq_true (by omega)
            have f1 : (0 : Int) ≤ (i : Int) + (k : Int) := by omega
            have f2 : (i : Int) + (k : Int) < (n : Int) := by omega
            have f3 : ((i : Int) + (k : Int)).toNat = i + k := by omega
            clear hx hfx hk
            cases x with
            | true =>
              go_wp2_with fail
              go_roundw
              case rel => exact ⟨m + 1, by omega, congrArg (Value.int .i64) (by omega), by rw [HS.out, HFX.out]; simp only [Bool.toNat_true]; go_num, by first | rfl | trivial⟩
              case measure => simp [intOf]; omega
            | false =>
              go_wp2_with fail
              go_roundw
              case rel => exact ⟨m + 1, by omega, congrArg (Value.int .i64) (by omega), by rw [HS.out, HFX.out]; simp only [Bool.toNat_false]; go_num, by first | rfl | trivial⟩
              case measure => simp [intOf]; omega
          · have hfx : f k = false := by rw [← HFH.out k, getD_out (by rw [HN.out]; omega)]
            have HFX := Lib.hid hfx
            have v1 : decide ((i : Int) + (k : Int) < (n : Int)) = false := decide_eq_false (by omega)
            clear hfx hk
            go_wp2_with fail
            go_roundw
            case rel => exact ⟨m + 1, by omega, congrArg (Value.int .i64) (by omega), by rw [HS.out, HFX.out]; simp only [Bool.toNat_false]; go_num, by first | rfl | trivial⟩
            case measure => simp [intOf]; omega
        · obtain rfl : m = 8 := by omega
          have HT : Hid ((pk l).take (j + 1) = (pk l).take j ++ [cv]) := by (show _ = _); rw [take_snoc HPL.out, ← hiB_all, HCV.out]
          have hcv2 : cv < 256 := by rw [← HCV.out, hiB_all]; exact by8_lt f
          have e1 : IntKind.u8.wrap (cv : Int) = (cv : Int) := by rw [IntKind.wrap_u8]; omega
          have H1 : Hid (bs [cv] = [.int .u8 (cv : Int)]) := rfl
          have HL : Hid (((pk l).take j).length = j) := by (show _ = _); rw [List.length_take, HH.out]; omega
          have hjb : j ≤ 100000 := by omega
          have hneg : ¬ (0 : Int) ≤ 7 - 8 := by omega
          have HIJ : Hid (i + 8 = 8 * (j + 1)) := by (show _ = _); have := HI.out; omega
          go_wp2_with (at_builtin; refine app_b rfl _ _ rfl w (hbr.alloc hbr.size _) A4 j c4 _ rfl (o4.alloc _) HL.out _ 1 1 [cv] rfl (Rd.lit _ _ _ H1.out) rfl (by omega) ?_)
          intro A5 c5 w5 o5 hb5 _
          go_wp2_with fail
          go_roundw
          case rel => exact ⟨j + 1, by have := HI.out; omega, by rw [← HIJ.out]; go_num, hb5, A5, c5, rfl, by rw [HT.out]; exact o5⟩
          case measure => have := HI.out; simp [intOf]; omega
    · obtain rfl : j = h := by omega
      go_wp2_with fail
      go_ret
      refine ⟨A4, c4, rfl, ?_, hbr⟩
      rw [List.take_of_length_le (by rw [HH.out]; exact Nat.le_refl _)] at o4
      exact o4

set_option maxRecDepth 100000 in
set_option maxHeartbeats 2000000 in
theorem ref_Unpack (A : Option Addr) (n c : Nat) (l : List Nat) (w : World) (hA : Rd w A (bs l)) (hn : l.length = n) (hl : Bs l) (hbig : n ≤ 100000) :
    Calls Try.prog 36 #[.slice A n c] w fun e w' => ∃ A' c', e = .returned (.slice A' (8 * n) c') ∧ Ow w' w.heap.size 4 A' c' (os (unpk l)) ∧ Below w.heap.size w w' := by
  have HN := Lib.hid hn
  have HU : Hid ((unpk l).length = 8 * n) := by (show _ = _); rw [unpk_length, hn]
  clear hn
  have hb0 := Below.refl w.heap.size w
  go_enter Try.func36, Try.ntmps36
  go_wp2_with fail
  go_loopw [3, 4] (fun v i wr => ∃ j : Nat, j ≤ n ∧ i = .int .i64 (j : Nat) ∧ Below w.heap.size w wr ∧ ∃ A4 c4, v = .slice A4 (8 * j) c4 ∧ Ow wr w.heap.size 4 A4 c4 (os ((unpk l).take (8 * j)))) (fun _ i _ => n - (intOf i).toNat)
  case atStart => exact ⟨0, by omega, rfl, hb0, none, 0, rfl, Ow.nil⟩
  case round =>
    obtain ⟨j, hj, rfl, hbr, A4, c4, rfl, o4⟩ := hrel
    by_cases hlt : j < n
    · obtain ⟨bb, off, x, rfl, hx, cx⟩ := (hA.below hbr).byte (k := j) (by rw [HN.out]; exact hlt)
      have hxb := hl.get hx
      have HX : Hid (l.getD j 0 = x) := getD_of hx
      obtain ⟨q, hq⟩ : ∃ q, 8 * j = q := ⟨_, rfl⟩
      have HQ := Lib.hid hq
      have hqb : q ≤ 800000 := by omega
      rw [hq] at o4 ⊢
      obtain ⟨wo, rfl⟩ : ∃ wo : World, wo = wr := ⟨_, rfl⟩
      clear hx hq
      go_wp2_with fail
      go_loopw [3, 5, 6] (fun v xv kv wi => ∃ m : Nat, m ≤ 8 ∧ kv = .int .i64 (m : Nat) ∧ xv = .int .i64 (x / 2 ^ m : Nat) ∧ Below w.heap.size w wi ∧ ∃ A5 c5, v = .slice A5 (q + m) c5 ∧ Ow wi w.heap.size 4 A5 c5 (os ((unpk l).take (q + m)))) (fun _ _ kv _ => 8 - (intOf kv).toNat)
      case atStart => exact ⟨0, by omega, rfl, by simp, hbr, A4, c4, rfl, o4⟩
      case round =>
        clear hbr o4
        obtain ⟨m, hm, rfl, rfl, hbr, A5, c5, rfl, o5⟩ := hrel
        by_cases hm8 : m < 8
        · have hdl : x / 2 ^ m ≤ x := Nat.div_le_self _ _
          have HD : Hid (x / 2 ^ (m + 1) = x / 2 ^ m / 2) := by (show _ = _); rw [Nat.pow_succ, Nat.div_div_eq_div_mul]
          have hbit : (unpk l)[q + m]? = some (x.testBit m) := by
            rw [unpk_get l (q + m) (by have := HQ.out; have := HN.out; omega)]
            have hq1 : (q + m) / 8 = j := by have := HQ.out; omega
            have hq2 : (q + m) % 8 = m := by have := HQ.out; omega
            rw [hq1, hq2, HX.out]
          have HT := Lib.hid (take_snoc hbit)
          obtain ⟨d, hd⟩ : ∃ d, x / 2 ^ m = d := ⟨_, rfl⟩
          have htb : x.testBit m = decide (d % 2 = 1) := by rw [Nat.testBit_eq_decide_div_mod_eq, hd]
          rw [hd] at hdl HD ⊢
          have hdi : ((d : Int) % 2 == 1) = x.testBit m := by
            rw [htb]
            by_cases h : d % 2 = 1
            · have : (d : Int) % 2 = 1 := by omega
              simp [h, this]
            · have : (d : Int) % 2 = 0 := by omega
              simp [h, this]
          obtain ⟨tb, htb2⟩ : ∃ b, x.testBit m = b := ⟨_, rfl⟩
          rw [htb2] at HT hdi
          have HL : Hid (((unpk l).take (q + m)).length = q + m) := by (show _ = _); rw [List.length_take, HU.out]; have := HQ.out; omega
          have H1 : Hid (os [tb] = [.bool tb]) := rfl
          have hqm : q + m ≤ 900000 := by omega
          clear hd htb htb2 hbit
          go_wp2_with (at_builtin; refine app_o rfl _ _ rfl w (hbr.alloc hbr.size _) A5 (q + m) c5 _ rfl (o5.alloc _) HL.out _ 1 1 [tb] rfl (Rd.lit _ _ _ H1.out) rfl (by omega) ?_)
          intro A6 c6 w6 o6 hb6 _
          go_wp2_with fail
          go_roundw
          case rel => exact ⟨m + 1, by omega, by go_num, by rw [HD.out]; go_num, hb6, A6, c6, by rw [Nat.add_assoc], by rw [← Nat.add_assoc, HT.out]; exact o6⟩
          case measure => simp [intOf]; omega
        · obtain rfl : m = 8 := by omega
          have HQ8 : Hid (q + 8 = 8 * (j + 1)) := by (show _ = _); have := HQ.out; omega
          go_wp2_with fail
          go_roundw
          case rel => exact ⟨j + 1, by omega, by go_num, hbr, A5, c5, by rw [← HQ8.out], by rw [← HQ8.out]; exact o5⟩
          case measure => simp [intOf]; omega
    · obtain rfl : j = n := by omega
      go_wp2_with fail
      go_ret
      refine ⟨A4, c4, rfl, ?_, hbr⟩
      rw [List.take_of_length_le (by rw [HU.out]; exact Nat.le_refl _)] at o4
      exact o4
end Go.Proofs.Ytechhidfgheejaa
