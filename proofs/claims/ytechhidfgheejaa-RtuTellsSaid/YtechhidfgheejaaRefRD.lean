/- The reference of chapter 3: Bytes (written by gen_rrefd.py). -/
import Derived.Test.YtechhidfgheejaaRefRC
import Derived.Test.YtechhidfgheejaaRpLaw
namespace Go.Proofs.Ytechhidfgheejaa
open Go.RowKit
set_option linter.unusedSimpArgs false
set_option linter.unusedVariables false

/-- what is told of a right reply: its bytes, in a row of the call's own -/
def ToldB (w : World) (out : List Nat) (e : Ending) (w' : World) : Prop :=
  ∃ A' c', e = .returned (.tuple #[.slice A' out.length c', .int .i64 0]) ∧ Ow w' w.heap.size 5 A' c' (bs out) ∧ Below w.heap.size w w'
set_option maxHeartbeats 2000000 in
theorem rref_Bytes_none (r : Rp) (A : Option Addr) (c : Nat) (B : Option Addr) (d : Nat) (w : World) (hw : r.words.length ≤ 1000000) (hk : r.bits.length ≤ 1000000) (hr : rightR r = false) :
    Calls Try.prog 41 #[r.v A c B d] w fun e w' => e = .returned (.tuple #[.slice none 0 0, .int .i64 13]) ∧ Below w.heap.size w w' := by
  have E1 := Lib.hid (fun W => rref_Right r A c B d W hw hk)
  rw [hr] at E1
  simp only [Rp.v, rpV] at E1 ⊢
  have hb1 := (Below.refl _ w).alloc (Nat.le_refl _) (.cells #[.int .u8 (r.fn : Int), .int .u8 (r.ex : Int), .slice B r.bits.length d, .slice A r.words.length c, .int .u16 (r.at_ : Int), .int .u16 (r.many : Int)] 36)
  clear hr
  go_enter Try.func41, Try.ntmps41
  go_wp2_with fail
  refine (E1.out _).mono ?_
  rintro e w2 ⟨rfl, hb2⟩
  have hb2' := bthen hb1 hb2
  go_wp2_with fail
  go_ret2
  exact ⟨rfl, hb2'⟩
set_option maxRecDepth 100000 in
set_option maxHeartbeats 4000000 in
theorem rref_Bytes_exc (f x : Nat) (A : Option Addr) (c : Nat) (B : Option Addr) (d : Nat) (w : World) (hR : RpR w (⟨f, x, [], [], 0, 0⟩ : Rp) A B) (hf : f < 128) (hx : x < 256) (hx1 : 1 ≤ x) (hr : rightR (⟨f, x, [], [], 0, 0⟩ : Rp) = true) :
    Calls Try.prog 41 #[(⟨f, x, [], [], 0, 0⟩ : Rp).v A c B d] w fun e w' => ToldB w ([f + 128, x]) e w' := by
  obtain ⟨rw_, rb_⟩ := hR
  simp only at rw_ rb_
  have E1 : Hid (∀ W, Calls Try.prog 44 #[.agg #[.int .u8 (f : Int), .int .u8 (x : Int), .slice B 0 d, .slice A 0 c, .int .u16 0, .int .u16 0]] W fun e w' => e = .returned (.bool true) ∧ Below W.heap.size W w') := fun W => by
    have h := rref_Right (⟨f, x, [], [], 0, 0⟩ : Rp) A c B d W (by simp only [List.length_nil, List.length_cons]; omega) (by simp only [List.length_nil, List.length_cons]; omega)
    rw [hr] at h
    exact h
  clear hr
  show Calls _ _ #[.agg #[.int .u8 (f : Int), .int .u8 (x : Int), .slice B 0 d, .slice A 0 c, .int .u16 0, .int .u16 0]] _ _
  have hb1 := (Below.refl _ w).alloc (Nat.le_refl _) (.cells #[.int .u8 (f : Int), .int .u8 (x : Int), .slice B 0 d, .slice A 0 c, .int .u16 0, .int .u16 0] 36)
  have bx1 := Blk.new w 36 #[.int .u8 (f : Int), .int .u8 (x : Int), .slice B 0 d, .slice A 0 c, .int .u16 0, .int .u16 0]
  obtain ⟨g, hg⟩ : ∃ g, w.heap.size = g := ⟨_, rfl⟩
  go_enter Try.func41, Try.ntmps41
  go_wp2_with fail
  rw [hg] at bx1
  clear hg
  refine (E1.out _).mono ?_
  rintro e w2 ⟨rfl, hb2⟩
  have hb2' := bthen hb1 hb2
  have bx2 := bx1.all hb2
  clear hb1 hb2 bx1 E1
  have hsz2 : w.heap.size ≤ w2.heap.size := hb2'.size
  have rr := Below.refl w2.heap.size w2
  obtain ⟨d0, d1, d2, d3, d4, d5⟩ := bx2.c6
  have hx0 : ((x : Int) != 0) = true := by simp; omega
  have e1 : IntKind.u8.wrap ((f : Int) + 128) = (f : Int) + 128 := by rw [IntKind.wrap_u8]; omega
  have HX : Hid (bs [f + 128, x] = [.int .u8 ((f : Int) + 128), .int .u8 (x : Int)]) := by (show _ = _); simp [bs]
  have oL := Ow.lit w2 w.heap.size 5 [.int .u8 ((f : Int) + 128), .int .u8 (x : Int)] hsz2 (show (2 : Nat) ≤ maxLen by decide) HX.out rfl
  go_wp2_with fail
  go_ret2
  exact ⟨_, _, rfl, oL, hb2'.alloc hsz2 _⟩
set_option maxRecDepth 100000 in
set_option maxHeartbeats 4000000 in
theorem rref_Bytes_bl (f : Nat) (k : List Bool) (A : Option Addr) (c : Nat) (B : Option Addr) (d : Nat) (w : World) (hR : RpR w (⟨f, 0, k, [], 0, 0⟩ : Rp) A B) (hf : f = 1 ∨ f = 2) (hk : k.length ≤ 2000) (hr : rightR (⟨f, 0, k, [], 0, 0⟩ : Rp) = true) :
    Calls Try.prog 41 #[(⟨f, 0, k, [], 0, 0⟩ : Rp).v A c B d] w fun e w' => ToldB w ([f, (pk k).length] ++ pk k) e w' := by
  obtain ⟨rw_, rb_⟩ := hR
  simp only at rw_ rb_
  have E1 : Hid (∀ W, Calls Try.prog 44 #[.agg #[.int .u8 (f : Int), .int .u8 0, .slice B k.length d, .slice A 0 c, .int .u16 0, .int .u16 0]] W fun e w' => e = .returned (.bool true) ∧ Below W.heap.size W w') := fun W => by
    have h := rref_Right (⟨f, 0, k, [], 0, 0⟩ : Rp) A c B d W (by simp only [List.length_nil, List.length_cons]; omega) (by simp only [List.length_nil, List.length_cons]; omega)
    rw [hr] at h
    exact h
  clear hr
  show Calls _ _ #[.agg #[.int .u8 (f : Int), .int .u8 0, .slice B k.length d, .slice A 0 c, .int .u16 0, .int .u16 0]] _ _
  have hb1 := (Below.refl _ w).alloc (Nat.le_refl _) (.cells #[.int .u8 (f : Int), .int .u8 0, .slice B k.length d, .slice A 0 c, .int .u16 0, .int .u16 0] 36)
  have bx1 := Blk.new w 36 #[.int .u8 (f : Int), .int .u8 0, .slice B k.length d, .slice A 0 c, .int .u16 0, .int .u16 0]
  obtain ⟨g, hg⟩ : ∃ g, w.heap.size = g := ⟨_, rfl⟩
  go_enter Try.func41, Try.ntmps41
  go_wp2_with fail
  rw [hg] at bx1
  clear hg
  refine (E1.out _).mono ?_
  rintro e w2 ⟨rfl, hb2⟩
  have hb2' := bthen hb1 hb2
  have bx2 := bx1.all hb2
  clear hb1 hb2 bx1 E1
  have hsz2 : w.heap.size ≤ w2.heap.size := hb2'.size
  have rr := Below.refl w2.heap.size w2
  obtain ⟨d0, d1, d2, d3, d4, d5⟩ := bx2.c6
  obtain ⟨b, hb⟩ : ∃ b, k.length = b := ⟨_, rfl⟩
  have HK := Lib.hid hb
  rw [hb] at hk d2 bx2
  obtain ⟨q, hq⟩ : ∃ q, (b + 7) / 8 = q := ⟨_, rfl⟩
  have HQ : Hid ((pk k).length = q) := by (show _ = _); rw [pk_length, HK.out, hq]
  have hq2 : q ≤ 250 := by omega
  have HQQ : Hid ([f, (pk k).length] ++ pk k = [f, q] ++ pk k) := by (show _ = _); rw [HQ.out]
  have E2 : Hid (∀ W, Rd W B (os k) → Calls Try.prog 33 #[.slice B b d] W fun e w' => ∃ A' c', e = .returned (.slice A' q c') ∧ Ow w' W.heap.size 5 A' c' (bs (pk k)) ∧ Below W.heap.size W w') := fun W h => by rw [← hq]; exact ref_Pack B b d k W h HK.out (by omega)
  have e1 : IntKind.u8.wrap (q : Int) = (q : Int) := by rw [IntKind.wrap_u8]; omega
  have HX : Hid (bs [f, q] = [.int .u8 (f : Int), .int .u8 (q : Int)]) := rfl
  have HL : Hid (([f, q] ++ pk k).length = 2 + q) := by (show _ = _); rw [List.length_append, HQ.out]; rfl
  have hf1 : ((f : Int) == 1) = true ∨ ((f : Int) == 1) = false ∧ ((f : Int) == 2) = true := by
    rcases hf with h | h
    · left; simp; omega
    · right; constructor <;> (simp; omega)
  clear hb hq hf
  have hx0 : True := trivial
  rcases hf1 with v1 | ⟨v1, v2⟩
  all_goals
    go_wp2_with fail
    refine (E2.out _ (rb_.below hb2')).mono ?_
    rintro e w3 ⟨A3, c3, rfl, o3, hb3⟩
    have bx3 := bx2.all hb3
    have hb3' := bthen hb2' hb3
    clear d0 d1 d2 d3 d4 d5
    obtain ⟨d0, d1, d2, d3, d4, d5⟩ := bx3.c6
    go_wp2_with (at_builtin; refine app_b rfl _ _ rfl w3 ((Below.refl _ _).alloc (Nat.le_refl _) _) _ 2 2 [f, q] rfl (Ow.lit _ _ _ [.int .u8 (f : Int), .int .u8 (q : Int)] (Nat.le_refl _) (show (2 : Nat) ≤ maxLen by decide) HX.out rfl) rfl A3 q c3 (pk k) rfl (o3.rd.alloc _) HQ.out (by omega) ?_)
    intro A4 c4 w4 o4 hb4 _
    go_wp2_with fail
    go_ret2
    exact ⟨A4, c4, bytes_fin HQQ.out HL.out, by show Ow _ _ _ _ _ (bs ([f, (pk k).length] ++ pk k)); rw [HQQ.out]; exact o4.base (by have := hb3'.size; omega), bthen hb3' hb4⟩
set_option maxRecDepth 100000 in
set_option maxHeartbeats 4000000 in
theorem rref_Bytes_wl (f : Nat) (l : List Nat) (A : Option Addr) (c : Nat) (B : Option Addr) (d : Nat) (w : World) (hR : RpR w (⟨f, 0, [], l, 0, 0⟩ : Rp) A B) (hf : f = 3 ∨ f = 4 ∨ f = 23) (hl : l.length ≤ 125) (hlw : Ws l) (hr : rightR (⟨f, 0, [], l, 0, 0⟩ : Rp) = true) :
    Calls Try.prog 41 #[(⟨f, 0, [], l, 0, 0⟩ : Rp).v A c B d] w fun e w' => ToldB w ([f, 2 * l.length] ++ nums l) e w' := by
  obtain ⟨rw_, rb_⟩ := hR
  simp only at rw_ rb_
  have E1 : Hid (∀ W, Calls Try.prog 44 #[.agg #[.int .u8 (f : Int), .int .u8 0, .slice B 0 d, .slice A l.length c, .int .u16 0, .int .u16 0]] W fun e w' => e = .returned (.bool true) ∧ Below W.heap.size W w') := fun W => by
    have h := rref_Right (⟨f, 0, [], l, 0, 0⟩ : Rp) A c B d W (by simp only [List.length_nil, List.length_cons]; omega) (by simp only [List.length_nil, List.length_cons]; omega)
    rw [hr] at h
    exact h
  clear hr
  show Calls _ _ #[.agg #[.int .u8 (f : Int), .int .u8 0, .slice B 0 d, .slice A l.length c, .int .u16 0, .int .u16 0]] _ _
  have hb1 := (Below.refl _ w).alloc (Nat.le_refl _) (.cells #[.int .u8 (f : Int), .int .u8 0, .slice B 0 d, .slice A l.length c, .int .u16 0, .int .u16 0] 36)
  have bx1 := Blk.new w 36 #[.int .u8 (f : Int), .int .u8 0, .slice B 0 d, .slice A l.length c, .int .u16 0, .int .u16 0]
  obtain ⟨g, hg⟩ : ∃ g, w.heap.size = g := ⟨_, rfl⟩
  go_enter Try.func41, Try.ntmps41
  go_wp2_with fail
  rw [hg] at bx1
  clear hg
  refine (E1.out _).mono ?_
  rintro e w2 ⟨rfl, hb2⟩
  have hb2' := bthen hb1 hb2
  have bx2 := bx1.all hb2
  clear hb1 hb2 bx1 E1
  have hsz2 : w.heap.size ≤ w2.heap.size := hb2'.size
  have rr := Below.refl w2.heap.size w2
  obtain ⟨d0, d1, d2, d3, d4, d5⟩ := bx2.c6
  obtain ⟨n, hn⟩ : ∃ n, l.length = n := ⟨_, rfl⟩
  have HN := Lib.hid hn
  rw [hn] at hl d3 bx2
  rw [hn]
  have e1 : IntKind.i64.wrap (2 * (n : Int)) = 2 * (n : Int) := IntWalk.i64_in _ (by omega)
  have e2 : IntKind.u8.wrap (2 * (n : Int)) = 2 * (n : Int) := by rw [IntKind.wrap_u8]; omega
  have HX : Hid (bs [f, 2 * n] = [.int .u8 (f : Int), .int .u8 (2 * (n : Int))]) := by (show _ = _); simp [bs]
  have HOUT : Hid ([f, 2 * l.length] ++ nums l = [f, 2 * n] ++ nums l) := by (show _ = _); rw [HN.out]
  have HL : Hid (([f, 2 * n] ++ nums l).length = 2 + 2 * n) := by (show _ = _); rw [List.length_append, nums_length, HN.out]; rfl
  have h1 : ((f : Int) == 1) = false := by simp; omega
  have h2 : ((f : Int) == 2) = false := by simp; omega
  have hf1 : ((f : Int) == 3) = true ∨ ((f : Int) == 3) = false ∧ ((f : Int) == 4) = true ∨ ((f : Int) == 3) = false ∧ ((f : Int) == 4) = false ∧ ((f : Int) == 23) = true := by
    rcases hf with h | h | h
    · left; simp; omega
    · right; left; constructor <;> (simp; omega)
    · right; right; refine ⟨?_, ?_, ?_⟩ <;> (simp; omega)
  clear hn hf
  obtain ⟨d0', d1', d2', d3', d4', d5'⟩ := (bx2.alloc (.cells #[.int .u8 (f : Int), .int .u8 (2 * (n : Int))] 5)).c6
  rcases hf1 with v1 | ⟨v1, v2⟩ | ⟨v1, v2, v3⟩
  all_goals
    go_wp2_with fail
    refine (ref_Words w2 _ (rr.alloc (Nat.le_refl _) _) _ 2 2 [f, 2 * n] (Ow.lit _ _ _ [.int .u8 (f : Int), .int .u8 (2 * (n : Int))] (Nat.le_refl _) (show (2 : Nat) ≤ maxLen by decide) HX.out rfl) rfl A n c l (rw_.below hb2') HN.out hlw (by omega) (by omega)).mono ?_
    rintro e w4 ⟨A4, c4, rfl, o4, hb4⟩
    go_wp2_with fail
    go_ret2
    exact ⟨A4, c4, bytes_fin HOUT.out HL.out, by show Ow _ _ _ _ _ (bs ([f, 2 * l.length] ++ nums l)); rw [HOUT.out]; exact o4.base hsz2, hb2'.trans (hb4.mono hsz2)⟩
set_option maxRecDepth 100000 in
set_option maxHeartbeats 4000000 in
theorem rref_Bytes_ob (t : Nat) (x : Bool) (A : Option Addr) (c : Nat) (B : Option Addr) (d : Nat) (w : World) (hR : RpR w (⟨5, 0, [x], [], t, 0⟩ : Rp) A B) (ht : t < 65536) (hr : rightR (⟨5, 0, [x], [], t, 0⟩ : Rp) = true) :
    Calls Try.prog 41 #[(⟨5, 0, [x], [], t, 0⟩ : Rp).v A c B d] w fun e w' => ToldB w ([5] ++ nums [t, if x then 65280 else 0]) e w' := by
  obtain ⟨rw_, rb_⟩ := hR
  simp only at rw_ rb_
  have E1 : Hid (∀ W, Calls Try.prog 44 #[.agg #[.int .u8 5, .int .u8 0, .slice B 1 d, .slice A 0 c, .int .u16 (t : Int), .int .u16 0]] W fun e w' => e = .returned (.bool true) ∧ Below W.heap.size W w') := fun W => by
    have h := rref_Right (⟨5, 0, [x], [], t, 0⟩ : Rp) A c B d W (by simp only [List.length_nil, List.length_cons]; omega) (by simp only [List.length_nil, List.length_cons]; omega)
    rw [hr] at h
    exact h
  clear hr
  show Calls _ _ #[.agg #[.int .u8 5, .int .u8 0, .slice B 1 d, .slice A 0 c, .int .u16 (t : Int), .int .u16 0]] _ _
  have hb1 := (Below.refl _ w).alloc (Nat.le_refl _) (.cells #[.int .u8 5, .int .u8 0, .slice B 1 d, .slice A 0 c, .int .u16 (t : Int), .int .u16 0] 36)
  have bx1 := Blk.new w 36 #[.int .u8 5, .int .u8 0, .slice B 1 d, .slice A 0 c, .int .u16 (t : Int), .int .u16 0]
  obtain ⟨g, hg⟩ : ∃ g, w.heap.size = g := ⟨_, rfl⟩
  go_enter Try.func41, Try.ntmps41
  go_wp2_with fail
  rw [hg] at bx1
  clear hg
  refine (E1.out _).mono ?_
  rintro e w2 ⟨rfl, hb2⟩
  have hb2' := bthen hb1 hb2
  have bx2 := bx1.all hb2
  clear hb1 hb2 bx1 E1
  have hsz2 : w.heap.size ≤ w2.heap.size := hb2'.size
  have rr := Below.refl w2.heap.size w2
  obtain ⟨d0, d1, d2, d3, d4, d5⟩ := bx2.c6
  have HO : ∀ y : Nat, [5] ++ nums [t, y] = [5] ++ nums [t] ++ nums [y] := fun y => by simp [nums]
  have HF1 : Hid (bs [5] = [.int .u8 5]) := rfl
  obtain ⟨bb, off, x', rfl, hx, cx⟩ := rb_.bit (k := 0) (by simp)
  rw [Nat.add_zero] at cx
  obtain rfl : x = x' := by simpa using hx
  clear hx
  have K0 : Hid (∀ W : World, Below w.heap.size w W → W.cell? ⟨bb, off, none⟩ = some (.bool x)) := fun W hW => (hW.cell (World.block_lt_of_cell? w _ cx)).trans cx
  obtain ⟨d0', d1', d2', d3', d4', d5'⟩ := (bx2.alloc (.cells #[.int .u8 5] 5)).c6
  go_wp2_with fail
  refine (ref_Two w2 _ (rr.alloc (Nat.le_refl _) _) _ 1 1 [5] (Ow.lit _ _ _ [.int .u8 5] (Nat.le_refl _) (show (1 : Nat) ≤ maxLen by decide) HF1.out rfl) rfl t ht (by omega)).mono ?_
  rintro e w3 ⟨A3, c3, rfl, o3, hb3, -⟩
  have L3 : Hid (([5] ++ nums [t]).length = 3) := rfl
  have bx3 := bx2.all hb3
  have hb3' := hb2'.trans (hb3.mono hsz2)
  clear d0 d1 d2 d3 d4 d5
  obtain ⟨d0, d1, d2, d3, d4, d5⟩ := bx3.c6
  have cx3 := K0.out _ hb3'
  cases x with
  | true =>
    go_wp2_with fail
    refine (ref_Two w2 _ hb3 A3 3 c3 _ o3 L3.out 65280 (by omega) (by omega)).mono ?_
    rintro e w4 ⟨A4, c4, rfl, o4, hb4, -⟩
    have L4 : Hid (([5] ++ nums [t] ++ nums [65280]).length = 5) := rfl
    go_wp2_with fail
    go_ret2
    exact ⟨A4, c4, bytes_fin (HO _).symm.symm L4.out, by show Ow _ _ _ _ _ (bs ([5] ++ nums [t, 65280])); rw [HO]; exact o4.base hsz2, hb2'.trans (hb4.mono hsz2)⟩
  | false =>
    go_wp2_with fail
    refine (ref_Two w2 _ hb3 A3 3 c3 _ o3 L3.out 0 (by omega) (by omega)).mono ?_
    rintro e w4 ⟨A4, c4, rfl, o4, hb4, -⟩
    have L4 : Hid (([5] ++ nums [t] ++ nums [0]).length = 5) := rfl
    go_wp2_with fail
    go_ret2
    exact ⟨A4, c4, bytes_fin (HO _).symm.symm L4.out, by show Ow _ _ _ _ _ (bs ([5] ++ nums [t, 0])); rw [HO]; exact o4.base hsz2, hb2'.trans (hb4.mono hsz2)⟩
set_option maxRecDepth 100000 in
set_option maxHeartbeats 4000000 in
theorem rref_Bytes_ow (t x : Nat) (A : Option Addr) (c : Nat) (B : Option Addr) (d : Nat) (w : World) (hR : RpR w (⟨6, 0, [], [x], t, 0⟩ : Rp) A B) (ht : t < 65536) (hxb : x < 65536) (hr : rightR (⟨6, 0, [], [x], t, 0⟩ : Rp) = true) :
    Calls Try.prog 41 #[(⟨6, 0, [], [x], t, 0⟩ : Rp).v A c B d] w fun e w' => ToldB w ([6] ++ nums [t, x]) e w' := by
  obtain ⟨rw_, rb_⟩ := hR
  simp only at rw_ rb_
  have E1 : Hid (∀ W, Calls Try.prog 44 #[.agg #[.int .u8 6, .int .u8 0, .slice B 0 d, .slice A 1 c, .int .u16 (t : Int), .int .u16 0]] W fun e w' => e = .returned (.bool true) ∧ Below W.heap.size W w') := fun W => by
    have h := rref_Right (⟨6, 0, [], [x], t, 0⟩ : Rp) A c B d W (by simp only [List.length_nil, List.length_cons]; omega) (by simp only [List.length_nil, List.length_cons]; omega)
    rw [hr] at h
    exact h
  clear hr
  show Calls _ _ #[.agg #[.int .u8 6, .int .u8 0, .slice B 0 d, .slice A 1 c, .int .u16 (t : Int), .int .u16 0]] _ _
  have hb1 := (Below.refl _ w).alloc (Nat.le_refl _) (.cells #[.int .u8 6, .int .u8 0, .slice B 0 d, .slice A 1 c, .int .u16 (t : Int), .int .u16 0] 36)
  have bx1 := Blk.new w 36 #[.int .u8 6, .int .u8 0, .slice B 0 d, .slice A 1 c, .int .u16 (t : Int), .int .u16 0]
  obtain ⟨g, hg⟩ : ∃ g, w.heap.size = g := ⟨_, rfl⟩
  go_enter Try.func41, Try.ntmps41
  go_wp2_with fail
  rw [hg] at bx1
  clear hg
  refine (E1.out _).mono ?_
  rintro e w2 ⟨rfl, hb2⟩
  have hb2' := bthen hb1 hb2
  have bx2 := bx1.all hb2
  clear hb1 hb2 bx1 E1
  have hsz2 : w.heap.size ≤ w2.heap.size := hb2'.size
  have rr := Below.refl w2.heap.size w2
  obtain ⟨d0, d1, d2, d3, d4, d5⟩ := bx2.c6
  have HO : ∀ y : Nat, [6] ++ nums [t, y] = [6] ++ nums [t] ++ nums [y] := fun y => by simp [nums]
  have HF1 : Hid (bs [6] = [.int .u8 6]) := rfl
  obtain ⟨bb, off, x', rfl, hx, cx⟩ := rw_.word (k := 0) (by simp)
  rw [Nat.add_zero] at cx
  obtain rfl : x = x' := by simpa using hx
  clear hx
  have K0 : Hid (∀ W : World, Below w.heap.size w W → W.cell? ⟨bb, off, none⟩ = some (.int .u16 (x : Int))) := fun W hW => (hW.cell (World.block_lt_of_cell? w _ cx)).trans cx
  obtain ⟨d0', d1', d2', d3', d4', d5'⟩ := (bx2.alloc (.cells #[.int .u8 6] 5)).c6
  go_wp2_with fail
  refine (ref_Two w2 _ (rr.alloc (Nat.le_refl _) _) _ 1 1 [6] (Ow.lit _ _ _ [.int .u8 6] (Nat.le_refl _) (show (1 : Nat) ≤ maxLen by decide) HF1.out rfl) rfl t ht (by omega)).mono ?_
  rintro e w3 ⟨A3, c3, rfl, o3, hb3, -⟩
  have L3 : Hid (([6] ++ nums [t]).length = 3) := rfl
  have bx3 := bx2.all hb3
  have hb3' := hb2'.trans (hb3.mono hsz2)
  clear d0 d1 d2 d3 d4 d5
  obtain ⟨d0, d1, d2, d3, d4, d5⟩ := bx3.c6
  have cx3 := K0.out _ hb3'
  go_wp2_with fail
  refine (ref_Two w2 _ hb3 A3 3 c3 _ o3 L3.out x hxb (by omega)).mono ?_
  rintro e w4 ⟨A4, c4, rfl, o4, hb4, -⟩
  have L4 : Hid (([6] ++ nums [t] ++ nums [x]).length = 5) := rfl
  go_wp2_with fail
  go_ret2
  exact ⟨A4, c4, bytes_fin (HO _).symm.symm L4.out, by show Ow _ _ _ _ _ (bs ([6] ++ nums [t, x])); rw [HO]; exact o4.base hsz2, hb2'.trans (hb4.mono hsz2)⟩
set_option maxRecDepth 100000 in
set_option maxHeartbeats 4000000 in
theorem rref_Bytes_ct15 (t m : Nat) (A : Option Addr) (c : Nat) (B : Option Addr) (d : Nat) (w : World) (hR : RpR w (⟨15, 0, [], [], t, m⟩ : Rp) A B) (ht : t < 65536) (hm : m < 65536) (hr : rightR (⟨15, 0, [], [], t, m⟩ : Rp) = true) :
    Calls Try.prog 41 #[(⟨15, 0, [], [], t, m⟩ : Rp).v A c B d] w fun e w' => ToldB w ([15] ++ nums [t, m]) e w' := by
  obtain ⟨rw_, rb_⟩ := hR
  simp only at rw_ rb_
  have E1 : Hid (∀ W, Calls Try.prog 44 #[.agg #[.int .u8 15, .int .u8 0, .slice B 0 d, .slice A 0 c, .int .u16 (t : Int), .int .u16 (m : Int)]] W fun e w' => e = .returned (.bool true) ∧ Below W.heap.size W w') := fun W => by
    have h := rref_Right (⟨15, 0, [], [], t, m⟩ : Rp) A c B d W (by simp only [List.length_nil, List.length_cons]; omega) (by simp only [List.length_nil, List.length_cons]; omega)
    rw [hr] at h
    exact h
  clear hr
  show Calls _ _ #[.agg #[.int .u8 15, .int .u8 0, .slice B 0 d, .slice A 0 c, .int .u16 (t : Int), .int .u16 (m : Int)]] _ _
  have hb1 := (Below.refl _ w).alloc (Nat.le_refl _) (.cells #[.int .u8 15, .int .u8 0, .slice B 0 d, .slice A 0 c, .int .u16 (t : Int), .int .u16 (m : Int)] 36)
  have bx1 := Blk.new w 36 #[.int .u8 15, .int .u8 0, .slice B 0 d, .slice A 0 c, .int .u16 (t : Int), .int .u16 (m : Int)]
  obtain ⟨g, hg⟩ : ∃ g, w.heap.size = g := ⟨_, rfl⟩
  go_enter Try.func41, Try.ntmps41
  go_wp2_with fail
  rw [hg] at bx1
  clear hg
  refine (E1.out _).mono ?_
  rintro e w2 ⟨rfl, hb2⟩
  have hb2' := bthen hb1 hb2
  have bx2 := bx1.all hb2
  clear hb1 hb2 bx1 E1
  have hsz2 : w.heap.size ≤ w2.heap.size := hb2'.size
  have rr := Below.refl w2.heap.size w2
  obtain ⟨d0, d1, d2, d3, d4, d5⟩ := bx2.c6
  have HO : ∀ y : Nat, [15] ++ nums [t, y] = [15] ++ nums [t] ++ nums [y] := fun y => by simp [nums]
  have HF1 : Hid (bs [15] = [.int .u8 15]) := rfl
  obtain ⟨d0', d1', d2', d3', d4', d5'⟩ := (bx2.alloc (.cells #[.int .u8 15] 5)).c6
  go_wp2_with fail
  refine (ref_Two w2 _ (rr.alloc (Nat.le_refl _) _) _ 1 1 [15] (Ow.lit _ _ _ [.int .u8 15] (Nat.le_refl _) (show (1 : Nat) ≤ maxLen by decide) HF1.out rfl) rfl t ht (by omega)).mono ?_
  rintro e w3 ⟨A3, c3, rfl, o3, hb3, -⟩
  have L3 : Hid (([15] ++ nums [t]).length = 3) := rfl
  have bx3 := bx2.all hb3
  have hb3' := hb2'.trans (hb3.mono hsz2)
  clear d0 d1 d2 d3 d4 d5
  obtain ⟨d0, d1, d2, d3, d4, d5⟩ := bx3.c6
  go_wp2_with fail
  refine (ref_Two w2 _ hb3 A3 3 c3 _ o3 L3.out m hm (by omega)).mono ?_
  rintro e w4 ⟨A4, c4, rfl, o4, hb4, -⟩
  have L4 : Hid (([15] ++ nums [t] ++ nums [m]).length = 5) := rfl
  go_wp2_with fail
  go_ret2
  exact ⟨A4, c4, bytes_fin (HO _).symm.symm L4.out, by show Ow _ _ _ _ _ (bs ([15] ++ nums [t, m])); rw [HO]; exact o4.base hsz2, hb2'.trans (hb4.mono hsz2)⟩
set_option maxRecDepth 100000 in
set_option maxHeartbeats 4000000 in
theorem rref_Bytes_ct16 (t m : Nat) (A : Option Addr) (c : Nat) (B : Option Addr) (d : Nat) (w : World) (hR : RpR w (⟨16, 0, [], [], t, m⟩ : Rp) A B) (ht : t < 65536) (hm : m < 65536) (hr : rightR (⟨16, 0, [], [], t, m⟩ : Rp) = true) :
    Calls Try.prog 41 #[(⟨16, 0, [], [], t, m⟩ : Rp).v A c B d] w fun e w' => ToldB w ([16] ++ nums [t, m]) e w' := by
  obtain ⟨rw_, rb_⟩ := hR
  simp only at rw_ rb_
  have E1 : Hid (∀ W, Calls Try.prog 44 #[.agg #[.int .u8 16, .int .u8 0, .slice B 0 d, .slice A 0 c, .int .u16 (t : Int), .int .u16 (m : Int)]] W fun e w' => e = .returned (.bool true) ∧ Below W.heap.size W w') := fun W => by
    have h := rref_Right (⟨16, 0, [], [], t, m⟩ : Rp) A c B d W (by simp only [List.length_nil, List.length_cons]; omega) (by simp only [List.length_nil, List.length_cons]; omega)
    rw [hr] at h
    exact h
  clear hr
  show Calls _ _ #[.agg #[.int .u8 16, .int .u8 0, .slice B 0 d, .slice A 0 c, .int .u16 (t : Int), .int .u16 (m : Int)]] _ _
  have hb1 := (Below.refl _ w).alloc (Nat.le_refl _) (.cells #[.int .u8 16, .int .u8 0, .slice B 0 d, .slice A 0 c, .int .u16 (t : Int), .int .u16 (m : Int)] 36)
  have bx1 := Blk.new w 36 #[.int .u8 16, .int .u8 0, .slice B 0 d, .slice A 0 c, .int .u16 (t : Int), .int .u16 (m : Int)]
  obtain ⟨g, hg⟩ : ∃ g, w.heap.size = g := ⟨_, rfl⟩
  go_enter Try.func41, Try.ntmps41
  go_wp2_with fail
  rw [hg] at bx1
  clear hg
  refine (E1.out _).mono ?_
  rintro e w2 ⟨rfl, hb2⟩
  have hb2' := bthen hb1 hb2
  have bx2 := bx1.all hb2
  clear hb1 hb2 bx1 E1
  have hsz2 : w.heap.size ≤ w2.heap.size := hb2'.size
  have rr := Below.refl w2.heap.size w2
  obtain ⟨d0, d1, d2, d3, d4, d5⟩ := bx2.c6
  have HO : ∀ y : Nat, [16] ++ nums [t, y] = [16] ++ nums [t] ++ nums [y] := fun y => by simp [nums]
  have HF1 : Hid (bs [16] = [.int .u8 16]) := rfl
  obtain ⟨d0', d1', d2', d3', d4', d5'⟩ := (bx2.alloc (.cells #[.int .u8 16] 5)).c6
  go_wp2_with fail
  refine (ref_Two w2 _ (rr.alloc (Nat.le_refl _) _) _ 1 1 [16] (Ow.lit _ _ _ [.int .u8 16] (Nat.le_refl _) (show (1 : Nat) ≤ maxLen by decide) HF1.out rfl) rfl t ht (by omega)).mono ?_
  rintro e w3 ⟨A3, c3, rfl, o3, hb3, -⟩
  have L3 : Hid (([16] ++ nums [t]).length = 3) := rfl
  have bx3 := bx2.all hb3
  have hb3' := hb2'.trans (hb3.mono hsz2)
  clear d0 d1 d2 d3 d4 d5
  obtain ⟨d0, d1, d2, d3, d4, d5⟩ := bx3.c6
  go_wp2_with fail
  refine (ref_Two w2 _ hb3 A3 3 c3 _ o3 L3.out m hm (by omega)).mono ?_
  rintro e w4 ⟨A4, c4, rfl, o4, hb4, -⟩
  have L4 : Hid (([16] ++ nums [t] ++ nums [m]).length = 5) := rfl
  go_wp2_with fail
  go_ret2
  exact ⟨A4, c4, bytes_fin (HO _).symm.symm L4.out, by show Ow _ _ _ _ _ (bs ([16] ++ nums [t, m])); rw [HO]; exact o4.base hsz2, hb2'.trans (hb4.mono hsz2)⟩
theorem rref_Bytes (r : Rp) (A : Option Addr) (c : Nat) (B : Option Addr) (d : Nat) (w : World) (hR : RpR w r A B) (hok : r.ok) (hw : r.words.length ≤ 1000000) (hk : r.bits.length ≤ 1000000) :
    Calls Try.prog 41 #[r.v A c B d] w fun e w' => ∃ A' c', e = .returned (.tuple #[.slice A' (bytesR r).length c', .int .i64 (errR r : Nat)]) ∧ Ow w' w.heap.size 5 A' c' (bs (bytesR r)) ∧ Below w.heap.size w w' := by
  by_cases hr : rightR r = true
  · have e0 : errR r = 0 := by unfold errR; rw [if_pos hr]
    obtain ⟨k, hk', hkr⟩ := rightR_some hr
    have hB := bytesR_of hk' hkr
    rw [e0, hB]
    obtain ⟨hf, hx, hws, ht, hm⟩ := hok
    rcases rightR_kinds hr with ⟨f, x, h1, h2, h3, rfl⟩ | ⟨f, l, hf', h1, h2, h3, rfl⟩ | ⟨f, l, hf', h1, h2, rfl⟩ | ⟨t, x, rfl⟩ | ⟨t, x, rfl⟩ | ⟨t, m, h1, h2, rfl⟩ | ⟨t, m, h1, h2, rfl⟩
    · obtain rfl : k = .exc := by
        have : kindR ⟨f, x, [], [], 0, 0⟩ = some Kd.exc := by unfold kindR; rw [if_pos (by simp only; omega)]
        rw [this] at hk'; injection hk' with hk'; exact hk'.symm
      have e : writeK .exc ⟨f, x, [], [], 0, 0⟩ = [f + 128, x] := by simp only [writeK]; rw [Nat.mod_eq_of_lt (by omega)]
      rw [e]
      exact rref_Bytes_exc f x A c B d w hR h1 hx h2 hr
    · obtain rfl : k = .bl := by
        have : kindR ⟨f, 0, l, [], 0, 0⟩ = some Kd.bl := by unfold kindR findK; rw [if_neg (by simp), if_pos hf']
        rw [this] at hk'; injection hk' with hk'; exact hk'.symm
      exact rref_Bytes_bl f l A c B d w hR hf' h2 hr
    · obtain rfl : k = .wl := by
        have : kindR ⟨f, 0, [], l, 0, 0⟩ = some Kd.wl := by unfold kindR findK; rw [if_neg (by simp), if_neg (by simp only; omega), if_pos hf']
        rw [this] at hk'; injection hk' with hk'; exact hk'.symm
      exact rref_Bytes_wl f l A c B d w hR hf' h2 hws hr
    · obtain rfl : k = .ob := by injection hk' with hk'; exact hk'.symm
      exact rref_Bytes_ob t x A c B d w hR ht hr
    · obtain rfl : k = .ow := by injection hk' with hk'; exact hk'.symm
      exact rref_Bytes_ow t x A c B d w hR ht (hws x (by simp)) hr
    · obtain rfl : k = .ct 1968 := by injection hk' with hk'; exact hk'.symm
      exact rref_Bytes_ct15 t m A c B d w hR ht hm hr
    · obtain rfl : k = .ct 123 := by injection hk' with hk'; exact hk'.symm
      exact rref_Bytes_ct16 t m A c B d w hR ht hm hr
  · have hr0 := Bool.eq_false_iff.2 hr
    have e0 : errR r = 13 := by unfold errR; rw [if_neg hr]
    rw [e0, bytesR_not hr0]
    refine (rref_Bytes_none r A c B d w hw hk hr0).mono ?_
    rintro e w' ⟨rfl, hb⟩
    exact ⟨none, 0, rfl, Ow.nil, hb⟩
end Go.Proofs.Ytechhidfgheejaa
