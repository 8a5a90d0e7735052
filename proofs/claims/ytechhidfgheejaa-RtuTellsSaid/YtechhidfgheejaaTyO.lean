/- The laws of making, appending and copying at this seat's slice types. -/
import Derived.Test.YtechhidfgheejaaProg
import Derived.Test.YtechhidfgheejaaOwn
namespace Go.Proofs.Ytechhidfgheejaa
open Go.RowKit
set_option linter.unusedSimpArgs false
set_option linter.unusedVariables false
theorem one_os (l : List Bool) : ∀ u ∈ os l, u.oneCell' = true := by
  intro u hu
  obtain ⟨x, _, rfl⟩ := List.mem_map.1 hu
  rfl
section
variable {w : World} {ops : Array Oper} {rest : List Oper} {o : Oper} {a : Act} {Q : Exit → Act → World → Prop}
theorem info_o : (Try.prog.info? 4).map (fun i => (i.zero, i.size, i.bytes)) = some (some (.bool false), 1, 1) := by kernel_rfl
theorem app_o (hgd : o.guard = none) (s x : Operand) (ho : o.op = .call { callee := .builtin .append, args := #[s, x], argTypes := #[25, 25] })
    (w0 : World) (hb : Below w0.heap.size w0 w) (A : Option Addr) (n c : Nat) (xs : List Bool) (hs : a.eval s = .slice A n c) (hown : Ow w w0.heap.size 4 A c (os xs)) (hn : xs.length = n)
    (A2 : Option Addr) (m c2 : Nat) (news : List Bool) (hx : a.eval x = .slice A2 m c2) (hr : Rd w A2 (os news)) (hm : news.length = m) (hbytes : n + m ≤ 10000000000)
    (h : ∀ A' c' w', Ow w' w0.heap.size 4 A' c' (os (xs ++ news)) → Below w0.heap.size w0 w' → w.grownBy w' (Value.ownBlock (.slice A n c)) → wpList Try.prog ops Q rest (a.put o.dst (.slice A' (n + m) c')) w') :
    wpList Try.prog ops Q (o :: rest) a w := by
  obtain ⟨i, hi, hz0, hz1, hz2⟩ := info_parts info_o
  refine wpList_app hgd s x 25 ho 4 i (.bool false) 1 Try.underlying25 hi hz0 hz1 hz2 rfl w0.heap.size w0 hb hb.size A n c (os xs) hs hown (by rw [os_length]; exact hn) A2 m c2 (os news) hx hr (by rw [os_length]; exact hm) (one_os news) (by omega) (by decide) ?_
  intro A' c' w' h1 h2 h3
  exact h A' c' w' (by rw [os_append]; exact h1) h2 h3
theorem sapp_o {K : Act → World → Prop} {E : Prop} (hgd : o.guard = none) (s x : Operand) (ho : o.op = .call { callee := .builtin .append, args := #[s, x], argTypes := #[25, 25] })
    (w0 : World) (hb : Below w0.heap.size w0 w) (A : Option Addr) (n c : Nat) (xs : List Bool) (hs : a.eval s = .slice A n c) (hown : Ow w w0.heap.size 4 A c (os xs)) (hn : xs.length = n)
    (A2 : Option Addr) (m c2 : Nat) (news : List Bool) (hx : a.eval x = .slice A2 m c2) (hr : Rd w A2 (os news)) (hm : news.length = m) (hbytes : n + m ≤ 10000000000)
    (h : ∀ A' c' w', Ow w' w0.heap.size 4 A' c' (os (xs ++ news)) → Below w0.heap.size w0 w' → w.grownBy w' (Value.ownBlock (.slice A n c)) → K (a.put o.dst (.slice A' (n + m) c')) w') :
    if Region.wanted o (yielded ops a.tmps) = true then Oper.wp Try.prog o a w K Q else E := by
  obtain ⟨i, hi, hz0, hz1, hz2⟩ := info_parts info_o
  refine step_app hgd s x 25 ho 4 i (.bool false) 1 Try.underlying25 hi hz0 hz1 hz2 rfl w0.heap.size w0 hb hb.size A n c (os xs) hs hown (by rw [os_length]; exact hn) A2 m c2 (os news) hx hr (by rw [os_length]; exact hm) (one_os news) (by omega) (by decide) ?_
  intro A' c' w' h1 h2 h3
  exact h A' c' w' (by rw [os_append]; exact h1) h2 h3
theorem sappL_o {K : Act → World → Prop} {E : Prop} (hgd : o.guard = none) (s x : Operand) (ho : o.op = .call { callee := .builtin .append, args := #[s, x], argTypes := #[25, 25] })
    (w0 : World) (hb : Below w0.heap.size w0 w) (A : Option Addr) (n c : Nat) (xs : List Bool) (hs : a.eval s = .slice A n c) (hown : Ow w w0.heap.size 4 A c (os xs)) (hn : xs.length = n)
    (A2 : Option Addr) (m c2 : Nat) (news : List Bool) (hx : a.eval x = .slice A2 m c2) (hr : Rd w A2 (os news)) (hm : news.length = m) (hbytes : n + m ≤ 10000000000)
    (h : ∀ A' c' w', Ow w' w0.heap.size 4 A' c' (os (xs ++ news)) → Below w0.heap.size w0 w' → w.grownBy w' (Value.ownBlock (.slice A n c)) → (A'.map (·.block) = A.map (·.block) ∨ A'.map (·.block) = some w.heap.size) → K (a.put o.dst (.slice A' (n + m) c')) w') :
    if Region.wanted o (yielded ops a.tmps) = true then Oper.wp Try.prog o a w K Q else E := by
  obtain ⟨i, hi, hz0, hz1, hz2⟩ := info_parts info_o
  refine step_appL hgd s x 25 ho 4 i (.bool false) 1 Try.underlying25 hi hz0 hz1 hz2 rfl w0.heap.size w0 hb hb.size A n c (os xs) hs hown (by rw [os_length]; exact hn) A2 m c2 (os news) hx hr (by rw [os_length]; exact hm) (one_os news) (by omega) (by decide) ?_
  intro A' c' w' h1 h2 h3 h4
  exact h A' c' w' (by rw [os_append]; exact h1) h2 h3 h4
theorem mk0_o (hg : o.guard = none) (l c : Operand) (hop : o.op = Op.makeSlice 25 l c)
    (w0 : World) (hb : Below w0.heap.size w0 w) (kl kc : IntKind) (C : Int) (n : Nat) (hl : a.eval l = .int kl 0) (hc : a.eval c = .int kc C) (hC : C = (n : Int)) (b2 : n ≤ 10000000000)
    (hK : ∀ w', Ow w' w0.heap.size 4 (some ⟨w.heap.size, 0, none⟩) n (os []) → Below w0.heap.size w0 w' → w.grownBy w' none → wpList Try.prog ops Q rest (a.put o.dst (.slice (some ⟨w.heap.size, 0, none⟩) 0 n)) w') :
    wpList Try.prog ops Q (o :: rest) a w := by
  obtain ⟨i, hi, hz0, hz1, hz2⟩ := info_parts info_o
  exact wpList_mk0 hg l c 25 hop 4 i (.bool false) 1 Try.underlying25 hi hz0 hz1 hz2 w0.heap.size w0 hb hb.size kl kc C n hl hc hC (by omega) (by simp only [maxLen]; omega) hK
theorem mkn_o (hg : o.guard = none) (l c : Operand) (hop : o.op = Op.makeSlice 25 l c)
    (w0 : World) (hb : Below w0.heap.size w0 w) (kl kc : IntKind) (L C : Int) (n : Nat) (hl : a.eval l = .int kl L) (hc : a.eval c = .int kc C) (hL : L = (n : Int)) (hC : C = (n : Int)) (b2 : n ≤ 10000000000)
    (hK : ∀ w', Ow w' w0.heap.size 4 (some ⟨w.heap.size, 0, none⟩) n (os (List.replicate n false)) → Below w0.heap.size w0 w' → w.grownBy w' none → w'.heap.size = w.heap.size + 1 → wpList Try.prog ops Q rest (a.put o.dst (.slice (some ⟨w.heap.size, 0, none⟩) n n)) w') :
    wpList Try.prog ops Q (o :: rest) a w := by
  obtain ⟨i, hi, hz0, hz1, hz2⟩ := info_parts info_o
  refine wpList_mkn hg l c 25 hop 4 i (.bool false) 1 Try.underlying25 hi hz0 hz1 hz2 rfl w0.heap.size w0 hb hb.size kl kc L C n hl hc hL hC (by omega) (by simp only [maxLen]; omega) ?_
  intro w' h1 h2 h3 h4
  exact hK w' (by simpa [os] using h1) h2 h3 h4
theorem cpy_o (hgd : o.guard = none) (d s : Operand) (ho : o.op = .call { callee := .builtin .copy, args := #[d, s], argTypes := #[25, 25] })
    (w0 : World) (hb : Below w0.heap.size w0 w) (A : Option Addr) (n c : Nat) (xs : List Bool) (hd : a.eval d = .slice A n c) (hown : Ow w w0.heap.size 4 A c (os xs)) (hn : xs.length = n)
    (A2 : Option Addr) (m c2 : Nat) (news : List Bool) (hs : a.eval s = .slice A2 m c2) (hr : Rd w A2 (os news)) (hm : news.length = m)
    (h : ∀ w', Ow w' w0.heap.size 4 A c (os (news.take n ++ xs.drop m)) → Below w0.heap.size w0 w' → w'.heap.size = w.heap.size → w.grownBy w' (Value.ownBlock (.slice A n c)) → wpList Try.prog ops Q rest (a.put o.dst (goInt ((min m n : Nat) : Int))) w') :
    wpList Try.prog ops Q (o :: rest) a w := by
  refine wpList_cpy hgd d s 25 25 ho 4 Try.underlying25 (by kernel_rfl) w0.heap.size w0 hb A n c (os xs) hd hown (by rw [os_length]; exact hn) A2 m c2 (os news) hs hr (by rw [os_length]; exact hm) (one_os news) ?_
  intro w' h1 h2 h3 h4
  exact h w' (by simpa [os, List.map_take, List.map_drop] using h1) h2 h3 h4
/-! ### slices of slices -/
theorem size_o (W : World) : (sizeOf (Try.prog.elem 25)).run Try.prog W = .ok 1 W := by
  obtain ⟨i, hi, hz0, hz1, hz2⟩ := info_parts info_o
  rw [show Try.prog.elem 25 = 4 from by kernel_rfl]
  simp [sizeOf, typeInfo, hi, hz1]
theorem slice_from_o {A : Option Addr} {n c : Nat} {l : List Bool} (h : Rd w A (os l)) (hn : l.length = n) (hc : n ≤ c) (k : Nat) (hk : k ≤ n) :
    ∃ A', (∀ W, (Instr.slice 25 (.slice A n c) (some (.int .i64 (k : Int))) none none).run Try.prog W = .ok (.slice A' (n - k) (c - k)) W) ∧ Rd w A' (os (l.drop k)) := by
  obtain ⟨A', e, r⟩ := h.sliced k n c hk (by rw [os_length]; omega) (by rw [os_length]; omega)
  refine ⟨A', fun W => ?_, ?_⟩
  · rw [run_slice_l W 25 A n c (by kernel_rfl) .i64 k (by omega) (by omega), size_o]
    simp only [Result.andThen_ok, Int.toNat_natCast, e]
  · rw [List.take_of_length_le (by rw [os_length]; omega)] at r
    rw [os_drop]; exact r
theorem slice_mid_o {A : Option Addr} {n c : Nat} {l : List Bool} (h : Rd w A (os l)) (hn : l.length = n) (hc : n ≤ c) (k m : Nat) (hk : k ≤ m) (hm : m ≤ n) :
    ∃ A', (∀ W, (Instr.slice 25 (.slice A n c) (some (.int .i64 (k : Int))) (some (.int .i64 (m : Int))) none).run Try.prog W = .ok (.slice A' (m - k) (c - k)) W) ∧ Rd w A' (os ((l.take m).drop k)) := by
  obtain ⟨A', e, r⟩ := h.sliced k m c hk (by rw [os_length]; omega) (by rw [os_length]; omega)
  refine ⟨A', fun W => ?_, ?_⟩
  · rw [run_slice_lh W 25 A n c (by kernel_rfl) .i64 .i64 k m (by omega) (by omega) (by omega), size_o]
    simp only [Result.andThen_ok, Int.toNat_natCast, e]
  · rw [os_drop, os_take]; exact r
end
end Go.Proofs.Ytechhidfgheejaa
