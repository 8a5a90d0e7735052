/- The laws of making, appending and copying at this seat's slice types. -/
import Derived.Test.YtechhidfgheejaaProg
import Derived.Test.YtechhidfgheejaaOwn
namespace Go.Proofs.Ytechhidfgheejaa
open Go.RowKit
set_option linter.unusedSimpArgs false
set_option linter.unusedVariables false
theorem one_ws (l : List Nat) : ∀ u ∈ ws l, u.oneCell' = true := by simp [ws, Value.oneCell']
section
variable {w : World} {ops : Array Oper} {rest : List Oper} {o : Oper} {a : Act} {Q : Exit → Act → World → Prop}
theorem info_w : (Try.prog.info? 34).map (fun i => (i.zero, i.size, i.bytes)) = some (some (.int .u16 0), 1, 2) := by kernel_rfl
theorem app_w (hgd : o.guard = none) (s x : Operand) (ho : o.op = .call { callee := .builtin .append, args := #[s, x], argTypes := #[26, 26] })
    (w0 : World) (hb : Below w0.heap.size w0 w) (A : Option Addr) (n c : Nat) (xs : List Nat) (hs : a.eval s = .slice A n c) (hown : Ow w w0.heap.size 34 A c (ws xs)) (hn : xs.length = n)
    (A2 : Option Addr) (m c2 : Nat) (news : List Nat) (hx : a.eval x = .slice A2 m c2) (hr : Rd w A2 (ws news)) (hm : news.length = m) (hbytes : n + m ≤ 10000000000)
    (h : ∀ A' c' w', Ow w' w0.heap.size 34 A' c' (ws (xs ++ news)) → Below w0.heap.size w0 w' → w.grownBy w' (Value.ownBlock (.slice A n c)) → wpList Try.prog ops Q rest (a.put o.dst (.slice A' (n + m) c')) w') :
    wpList Try.prog ops Q (o :: rest) a w := by
  obtain ⟨i, hi, hz0, hz1, hz2⟩ := info_parts info_w
  refine wpList_app hgd s x 26 ho 34 i (.int .u16 0) 2 Try.underlying26 hi hz0 hz1 hz2 rfl w0.heap.size w0 hb hb.size A n c (ws xs) hs hown (by rw [ws_length]; exact hn) A2 m c2 (ws news) hx hr (by rw [ws_length]; exact hm) (one_ws news) (by omega) (by decide) ?_
  intro A' c' w' h1 h2 h3
  exact h A' c' w' (by rw [ws_append]; exact h1) h2 h3
theorem sapp_w {K : Act → World → Prop} {E : Prop} (hgd : o.guard = none) (s x : Operand) (ho : o.op = .call { callee := .builtin .append, args := #[s, x], argTypes := #[26, 26] })
    (w0 : World) (hb : Below w0.heap.size w0 w) (A : Option Addr) (n c : Nat) (xs : List Nat) (hs : a.eval s = .slice A n c) (hown : Ow w w0.heap.size 34 A c (ws xs)) (hn : xs.length = n)
    (A2 : Option Addr) (m c2 : Nat) (news : List Nat) (hx : a.eval x = .slice A2 m c2) (hr : Rd w A2 (ws news)) (hm : news.length = m) (hbytes : n + m ≤ 10000000000)
    (h : ∀ A' c' w', Ow w' w0.heap.size 34 A' c' (ws (xs ++ news)) → Below w0.heap.size w0 w' → w.grownBy w' (Value.ownBlock (.slice A n c)) → K (a.put o.dst (.slice A' (n + m) c')) w') :
    if Region.wanted o (yielded ops a.tmps) = true then Oper.wp Try.prog o a w K Q else E := by
  obtain ⟨i, hi, hz0, hz1, hz2⟩ := info_parts info_w
  refine step_app hgd s x 26 ho 34 i (.int .u16 0) 2 Try.underlying26 hi hz0 hz1 hz2 rfl w0.heap.size w0 hb hb.size A n c (ws xs) hs hown (by rw [ws_length]; exact hn) A2 m c2 (ws news) hx hr (by rw [ws_length]; exact hm) (one_ws news) (by omega) (by decide) ?_
  intro A' c' w' h1 h2 h3
  exact h A' c' w' (by rw [ws_append]; exact h1) h2 h3
theorem sappL_w {K : Act → World → Prop} {E : Prop} (hgd : o.guard = none) (s x : Operand) (ho : o.op = .call { callee := .builtin .append, args := #[s, x], argTypes := #[26, 26] })
    (w0 : World) (hb : Below w0.heap.size w0 w) (A : Option Addr) (n c : Nat) (xs : List Nat) (hs : a.eval s = .slice A n c) (hown : Ow w w0.heap.size 34 A c (ws xs)) (hn : xs.length = n)
    (A2 : Option Addr) (m c2 : Nat) (news : List Nat) (hx : a.eval x = .slice A2 m c2) (hr : Rd w A2 (ws news)) (hm : news.length = m) (hbytes : n + m ≤ 10000000000)
    (h : ∀ A' c' w', Ow w' w0.heap.size 34 A' c' (ws (xs ++ news)) → Below w0.heap.size w0 w' → w.grownBy w' (Value.ownBlock (.slice A n c)) → (A'.map (·.block) = A.map (·.block) ∨ A'.map (·.block) = some w.heap.size) → K (a.put o.dst (.slice A' (n + m) c')) w') :
    if Region.wanted o (yielded ops a.tmps) = true then Oper.wp Try.prog o a w K Q else E := by
  obtain ⟨i, hi, hz0, hz1, hz2⟩ := info_parts info_w
  refine step_appL hgd s x 26 ho 34 i (.int .u16 0) 2 Try.underlying26 hi hz0 hz1 hz2 rfl w0.heap.size w0 hb hb.size A n c (ws xs) hs hown (by rw [ws_length]; exact hn) A2 m c2 (ws news) hx hr (by rw [ws_length]; exact hm) (one_ws news) (by omega) (by decide) ?_
  intro A' c' w' h1 h2 h3 h4
  exact h A' c' w' (by rw [ws_append]; exact h1) h2 h3 h4
theorem mk0_w (hg : o.guard = none) (l c : Operand) (hop : o.op = Op.makeSlice 26 l c)
    (w0 : World) (hb : Below w0.heap.size w0 w) (kl kc : IntKind) (C : Int) (n : Nat) (hl : a.eval l = .int kl 0) (hc : a.eval c = .int kc C) (hC : C = (n : Int)) (b2 : n ≤ 10000000000)
    (hK : ∀ w', Ow w' w0.heap.size 34 (some ⟨w.heap.size, 0, none⟩) n (ws []) → Below w0.heap.size w0 w' → w.grownBy w' none → wpList Try.prog ops Q rest (a.put o.dst (.slice (some ⟨w.heap.size, 0, none⟩) 0 n)) w') :
    wpList Try.prog ops Q (o :: rest) a w := by
  obtain ⟨i, hi, hz0, hz1, hz2⟩ := info_parts info_w
  exact wpList_mk0 hg l c 26 hop 34 i (.int .u16 0) 2 Try.underlying26 hi hz0 hz1 hz2 w0.heap.size w0 hb hb.size kl kc C n hl hc hC (by omega) (by simp only [maxLen]; omega) hK
theorem mkn_w (hg : o.guard = none) (l c : Operand) (hop : o.op = Op.makeSlice 26 l c)
    (w0 : World) (hb : Below w0.heap.size w0 w) (kl kc : IntKind) (L C : Int) (n : Nat) (hl : a.eval l = .int kl L) (hc : a.eval c = .int kc C) (hL : L = (n : Int)) (hC : C = (n : Int)) (b2 : n ≤ 10000000000)
    (hK : ∀ w', Ow w' w0.heap.size 34 (some ⟨w.heap.size, 0, none⟩) n (ws (List.replicate n 0)) → Below w0.heap.size w0 w' → w.grownBy w' none → w'.heap.size = w.heap.size + 1 → wpList Try.prog ops Q rest (a.put o.dst (.slice (some ⟨w.heap.size, 0, none⟩) n n)) w') :
    wpList Try.prog ops Q (o :: rest) a w := by
  obtain ⟨i, hi, hz0, hz1, hz2⟩ := info_parts info_w
  refine wpList_mkn hg l c 26 hop 34 i (.int .u16 0) 2 Try.underlying26 hi hz0 hz1 hz2 rfl w0.heap.size w0 hb hb.size kl kc L C n hl hc hL hC (by omega) (by simp only [maxLen]; omega) ?_
  intro w' h1 h2 h3 h4
  exact hK w' (by simpa [ws] using h1) h2 h3 h4
theorem cpy_w (hgd : o.guard = none) (d s : Operand) (ho : o.op = .call { callee := .builtin .copy, args := #[d, s], argTypes := #[26, 26] })
    (w0 : World) (hb : Below w0.heap.size w0 w) (A : Option Addr) (n c : Nat) (xs : List Nat) (hd : a.eval d = .slice A n c) (hown : Ow w w0.heap.size 34 A c (ws xs)) (hn : xs.length = n)
    (A2 : Option Addr) (m c2 : Nat) (news : List Nat) (hs : a.eval s = .slice A2 m c2) (hr : Rd w A2 (ws news)) (hm : news.length = m)
    (h : ∀ w', Ow w' w0.heap.size 34 A c (ws (news.take n ++ xs.drop m)) → Below w0.heap.size w0 w' → w'.heap.size = w.heap.size → w.grownBy w' (Value.ownBlock (.slice A n c)) → wpList Try.prog ops Q rest (a.put o.dst (goInt ((min m n : Nat) : Int))) w') :
    wpList Try.prog ops Q (o :: rest) a w := by
  refine wpList_cpy hgd d s 26 26 ho 34 Try.underlying26 (by kernel_rfl) w0.heap.size w0 hb A n c (ws xs) hd hown (by rw [ws_length]; exact hn) A2 m c2 (ws news) hs hr (by rw [ws_length]; exact hm) (one_ws news) ?_
  intro w' h1 h2 h3 h4
  exact h w' (by simpa [ws, List.map_take, List.map_drop] using h1) h2 h3 h4
/-! ### slices of slices -/
theorem size_w (W : World) : (sizeOf (Try.prog.elem 26)).run Try.prog W = .ok 1 W := by
  obtain ⟨i, hi, hz0, hz1, hz2⟩ := info_parts info_w
  rw [show Try.prog.elem 26 = 34 from by kernel_rfl]
  simp [sizeOf, typeInfo, hi, hz1]
theorem slice_from_w {A : Option Addr} {n c : Nat} {l : List Nat} (h : Rd w A (ws l)) (hn : l.length = n) (hc : n ≤ c) (k : Nat) (hk : k ≤ n) :
    ∃ A', (∀ W, (Instr.slice 26 (.slice A n c) (some (.int .i64 (k : Int))) none none).run Try.prog W = .ok (.slice A' (n - k) (c - k)) W) ∧ Rd w A' (ws (l.drop k)) := by
  obtain ⟨A', e, r⟩ := h.sliced k n c hk (by rw [ws_length]; omega) (by rw [ws_length]; omega)
  refine ⟨A', fun W => ?_, ?_⟩
  · rw [run_slice_l W 26 A n c (by kernel_rfl) .i64 k (by omega) (by omega), size_w]
    simp only [Result.andThen_ok, Int.toNat_natCast, e]
  · rw [List.take_of_length_le (by rw [ws_length]; omega)] at r
    rw [ws_drop]; exact r
theorem slice_mid_w {A : Option Addr} {n c : Nat} {l : List Nat} (h : Rd w A (ws l)) (hn : l.length = n) (hc : n ≤ c) (k m : Nat) (hk : k ≤ m) (hm : m ≤ n) :
    ∃ A', (∀ W, (Instr.slice 26 (.slice A n c) (some (.int .i64 (k : Int))) (some (.int .i64 (m : Int))) none).run Try.prog W = .ok (.slice A' (m - k) (c - k)) W) ∧ Rd w A' (ws ((l.take m).drop k)) := by
  obtain ⟨A', e, r⟩ := h.sliced k m c hk (by rw [ws_length]; omega) (by rw [ws_length]; omega)
  refine ⟨A', fun W => ?_, ?_⟩
  · rw [run_slice_lh W 26 A n c (by kernel_rfl) .i64 .i64 k m (by omega) (by omega) (by omega), size_w]
    simp only [Result.andThen_ok, Int.toNat_natCast, e]
  · rw [ws_drop, ws_take]; exact r
end
end Go.Proofs.Ytechhidfgheejaa
