/- The walk of mbap.frames and of the iterator that it hands back. -/
import Derived.Test.YtheepgfafjinoaaRangeG
import Derived.Test.YtheepgfafjinoaaMbapB
import Derived.Test.YtheepgfafjinoaaOwnK
import Derived.Shelf.Abstract
import Derived.Shelf.RegionOpen
import Derived.OwnWalkIn
import Derived.TacticsInMore
import Derived.LoopNIn
import Derived.LoopIn
namespace Go.Proofs.Ytheepgfafjinoaa
open Go.RowKit Go.Shelf
set_option linter.unusedSimpArgs false
set_option linter.unusedVariables false
attribute [local go_sem] Oper.semAt_some

/-- a frame, and where its bytes lie -/
structure Fx where
  f : Fr
  A : Option Addr
  c : Nat
def Fx.val (x : Fx) : Value := frV x.f.tx x.f.unit x.A x.f.pdu.length x.c
/-- what is said of memory when a frame is handed over -/
structure Fx.G (B : Nat) (x : Fx) (W : World) : Prop where
  ow : Ow W B 5 x.A x.c (bs x.f.pdu)
  ok : x.f.ok
  right : x.f.right = true

theorem grown_below {w w' : World} (hb : Below w.heap.size w w') : w.grownBy w' none := ⟨hb.os, hb.tape, hb.output, hb.size, fun i hi _ => hb.block i hi⟩

set_option maxHeartbeats 1000000 in
theorem mb_frames (A : Option Addr) (n c : Nat) (w : World) :
    Calls Try.prog 51 #[.slice A n c] w fun e w' => e = .returned (.func (.func 55) #[] #[.pointer (some ⟨w.heap.size, 0, none⟩)]) ∧ w' = w.alloc (.cells #[.slice A n c] 22) := by
  go_enter Try.func51, Try.ntmps51
  go_wp2_with fail
  go_ret
  exact ⟨rfl, rfl⟩

def lenOf : Value → Nat
  | .slice _ n _ => n
  | _ => 0

set_option maxRecDepth 100000 in
set_option maxHeartbeats 1000000 in
theorem mb_frames1 (w0 : World) (A : Option Addr) (n c : Nat) (l : List Nat) (hA : Rd w0 A (bs l)) (hn : l.length = n) (hl : Bs l) (hm : n ≤ 1000000000) (hc : n ≤ c)
    (m Bn : Nat) (w : World) (hb0 : Below w0.heap.size w0 w) (hBn : Bn < w.heap.size) (hcell : w.cell? ⟨Bn, 0, none⟩ = some (.slice A n c)) :
    SeqG Fence.wide m Try.prog 55 #[.pointer (some ⟨Bn, 0, none⟩)] (fun x : Fx => #[x.val]) (fun x W => x.G w0.heap.size W) (Below w0.heap.size) (fun xs => xs.map (·.f) = (cutF l).1) (n + 1) w := by
  intro ll J W hW hJ hY h0
  have hcW := (hW.cell (p := ⟨Bn, 0, none⟩) hBn).trans hcell
  have hb1 := bthen hb0 hW
  have HN := Lib.hid hn
  have HJ := Lib.hid hJ
  have HY := Lib.hid hY
  clear hcell hn hJ hY
  refine callsIn_of_wp Try.func55 rfl trivial ?_ rfl
  simp only [Try.ntmps55, List.size_toArray, List.length_cons, List.length_nil, Nat.reduceAdd, Nat.reduceSub, Array.replicate_succ, Array.replicate_zero, List.push_toArray, List.append_toArray, List.nil_append, List.cons_append]
  gi_wp2
  gi_loopw [3] (fun v wr => ∃ (pre : List Fx) (A' : Option Addr) (k : Nat), k ≤ n ∧ v = .slice A' (n - k) (c - k) ∧ Rd w0 A' (bs (l.drop k)) ∧ (cutF l).1 = pre.map (·.f) ++ (cutF (l.drop k)).1 ∧ pre.length ≤ k ∧ J pre wr ∧ Below w0.heap.size w0 wr) (fun v _ => lenOf v)
  case atStart => exact ⟨[], A, 0, by omega, rfl, by simpa using hA, by simp, by simp, h0, hb1⟩
  case round =>
    obtain ⟨pre, A', k, hk, rfl, hr, hcut, hpk, hJs, hbr⟩ := hrel
    have HC := Lib.hid hcut
    have HK : Hid ((l.drop k).length = n - k) := by (show _ = _); rw [List.length_drop, HN.out]
    have hrr := hr.below hbr
    clear hcut
    by_cases hyes : hasF (l.drop k) = true
    · have hh := hasF_len hyes
      have HC1 := Lib.hid (cutF_yes hyes)
      have hfirst := mb_first_yes A' (n - k) (c - k) (l.drop k) wr hrr HK.out (hl.drop k) (by omega) (by omega) hyes
      have HF := Lib.hid hfirst
      have hok := fstF_ok (hl.drop k)
      have hri := fstF_right hyes
      have hpd := fstF_pdu hyes
      have hlk := hh.2.2.1
      rw [HK.out] at hlk
      obtain ⟨g, hg⟩ : ∃ g, lenF (l.drop k) = g := ⟨_, rfl⟩
      rw [hg] at hh hpd HF hlk HC1
      obtain ⟨A2, hsl, hA2⟩ := slice_from_b (c := c - k) hr HK.out (by omega) g hlk
      obtain ⟨f, hf⟩ : ∃ f, fstF (l.drop k) = f := ⟨_, rfl⟩
      rw [hf] at hok hri hpd HF HC1
      obtain ⟨hg8, hg260, -, -⟩ := hh
      have HPD := Lib.hid hpd
      clear hfirst hyes hg hf hpd
      gi_wp2_with fail
      refine ⟨trivial, (fun h => by cases h), ?_⟩
      refine (callsIn_wide.2 HF.out).mono ?_
      rintro e w1 ⟨A3, c3, rfl, ho3, hb3⟩
      unfold frV
      have hG : Fx.G w0.heap.size ⟨f, A3, c3⟩ (w1.alloc (.cells #[.int .u16 (f.tx : Int), .int .u8 (f.unit : Int), .slice A3 (g - 7) c3] 37)) := ⟨(ho3.base hbr.size).alloc _, hok, hri⟩
      have hJ1 := HJ.out pre wr w1 none hJs (grown_below hb3) (by intro r e; cases e)
      have hJ2 := HJ.out pre _ _ none hJ1 (World.grownBy_alloc w1 (.cells #[.int .u16 (f.tx : Int), .int .u8 (f.unit : Int), .slice A3 (g - 7) c3] 37) none) (by intro r e; cases e)
      have hb4 := (bthen hbr hb3).alloc (bthen hbr hb3).size (.cells #[.int .u16 (f.tx : Int), .int .u8 (f.unit : Int), .slice A3 (g - 7) c3] 37)
      obtain ⟨fn, tmps, assign, body, hy, hR⟩ := HY.out pre ⟨f, A3, c3⟩ _ hJ2 hG (by omega)
      unfold Fx.val frV at hy
      simp only [HPD.out] at hy
      have g0 : ((g : Int) == 0) = false := by simp; omega
      have HSL := Lib.hid hsl
      clear hsl
      gi_wp2_with fail
      refine ⟨(fun h => by cases h), ?_⟩
      refine hR.mono ?_
      rintro e W5 ⟨rfl, hJ5, hk5⟩
      have hsl := HSL.out
      gi_wp2_with fail
      go_roundw
      case rel =>
        refine ⟨pre ++ [⟨f, A3, c3⟩], A2, k + g, by omega, by rw [Nat.sub_sub, Nat.sub_sub], by rw [← List.drop_drop]; exact hA2, ?_, by simp; omega, hJ5, hb4.trans hk5⟩
        rw [HC.out, HC1.out, List.drop_drop]
        simp
      case measure => simp [lenOf]; omega
    · have hno : hasF (l.drop k) = false := by simpa using hyes
      have HC0 := Lib.hid (cutF_no hno)
      have hfirst := mb_first_no A' (n - k) (c - k) (l.drop k) wr hrr HK.out (hl.drop k) (by omega) hno
      have HF := Lib.hid hfirst
      clear hfirst hno hyes
      gi_wp2_with fail
      refine ⟨trivial, (fun h => by cases h), ?_⟩
      refine (callsIn_wide.2 HF.out).mono ?_
      rintro e w1 ⟨rfl, hb1'⟩
      unfold frV
      gi_wp2_with fail
      refine ⟨fun _ h => (by cases h), ?_⟩
      gi_wp2_with fail
      refine bodyPost_ret (results_none rfl _ _ _) rfl ?_
      refine ⟨⟨_, rfl⟩, pre, by rw [HC.out, HC0.out]; simp, ?_⟩
      exact HJ.out pre _ _ none (HJ.out pre wr w1 none hJs (grown_below hb1') (by intro r e; cases e)) (World.grownBy_alloc w1 _ none) (by intro r e; cases e)
end Go.Proofs.Ytheepgfafjinoaa
