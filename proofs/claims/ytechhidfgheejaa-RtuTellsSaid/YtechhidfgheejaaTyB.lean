/- The laws of making, appending and copying at this seat's slice types. -/
import Derived.Test.YtechhidfgheejaaProg
import Derived.Test.YtechhidfgheejaaOwn
namespace Go.Proofs.Ytechhidfgheejaa
open Go.RowKit
set_option linter.unusedSimpArgs false
set_option linter.unusedVariables false
theorem one_bs (l : List Nat) : ∀ u ∈ bs l, u.oneCell' = true := by simp [bs, Value.oneCell']
section
variable {w : World} {ops : Array Oper} {rest : List Oper} {o : Oper} {a : Act} {Q : Exit → Act → World → Prop}
theorem info_b : (Try.prog.info? 5).map (fun i => (i.zero, i.size, i.bytes)) = some (some (.int .u8 0), 1, 1) := by kernel_rfl
theorem app_b (hgd : o.guard = none) (s x : Operand) (ho : o.op = .call { callee := .builtin .append, args := #[s, x], argTypes := #[29, 29] })
    (w0 : World) (hb : Below w0.heap.size w0 w) (A : Option Addr) (n c : Nat) (xs : List Nat) (hs : a.eval s = .slice A n c) (hown : Ow w w0.heap.size 5 A c (bs xs)) (hn : xs.length = n)
    (A2 : Option Addr) (m c2 : Nat) (news : List Nat) (hx : a.eval x = .slice A2 m c2) (hr : Rd w A2 (bs news)) (hm : news.length = m) (hbytes : n + m ≤ 10000000000)
    (h : ∀ A' c' w', Ow w' w0.heap.size 5 A' c' (bs (xs ++ news)) → Below w0.heap.size w0 w' → w.grownBy w' (Value.ownBlock (.slice A n c)) → wpList Try.prog ops Q rest (a.put o.dst (.slice A' (n + m) c')) w') :
    wpList Try.prog ops Q (o :: rest) a w := by
  obtain ⟨i, hi, hz0, hz1, hz2⟩ := info_parts info_b
  refine wpList_app hgd s x 29 ho 5 i (.int .u8 0) 1 Try.underlying29 hi hz0 hz1 hz2 rfl w0.heap.size w0 hb hb.size A n c (bs xs) hs hown (by rw [bs_length]; exact hn) A2 m c2 (bs news) hx hr (by rw [bs_length]; exact hm) (one_bs news) (by omega) (by decide) ?_
  intro A' c' w' h1 h2 h3
  exact h A' c' w' (by rw [bs_append]; exact h1) h2 h3
theorem sapp_b {K : Act → World → Prop} {E : Prop} (hgd : o.guard = none) (s x : Operand) (ho : o.op = .call { callee := .builtin .append, args := #[s, x], argTypes := #[29, 29] })
    (w0 : World) (hb : Below w0.heap.size w0 w) (A : Option Addr) (n c : Nat) (xs : List Nat) (hs : a.eval s = .slice A n c) (hown : Ow w w0.heap.size 5 A c (bs xs)) (hn : xs.length = n)
    (A2 : Option Addr) (m c2 : Nat) (news : List Nat) (hx : a.eval x = .slice A2 m c2) (hr : Rd w A2 (bs news)) (hm : news.length = m) (hbytes : n + m ≤ 10000000000)
    (h : ∀ A' c' w', Ow w' w0.heap.size 5 A' c' (bs (xs ++ news)) → Below w0.heap.size w0 w' → w.grownBy w' (Value.ownBlock (.slice A n c)) → K (a.put o.dst (.slice A' (n + m) c')) w') :
    if Region.wanted o (yielded ops a.tmps) = true then Oper.wp Try.prog o a w K Q else E := by
  obtain ⟨i, hi, hz0, hz1, hz2⟩ := info_parts info_b
  refine step_app hgd s x 29 ho 5 i (.int .u8 0) 1 Try.underlying29 hi hz0 hz1 hz2 rfl w0.heap.size w0 hb hb.size A n c (bs xs) hs hown (by rw [bs_length]; exact hn) A2 m c2 (bs news) hx hr (by rw [bs_length]; exact hm) (one_bs news) (by omega) (by decide) ?_
  intro A' c' w' h1 h2 h3
  exact h A' c' w' (by rw [bs_append]; exact h1) h2 h3
theorem sappL_b {K : Act → World → Prop} {E : Prop} (hgd : o.guard = none) (s x : Operand) (ho : o.op = .call { callee := .builtin .append, args := #[s, x], argTypes := #[29, 29] })
    (w0 : World) (hb : Below w0.heap.size w0 w) (A : Option Addr) (n c : Nat) (xs : List Nat) (hs : a.eval s = .slice A n c) (hown : Ow w w0.heap.size 5 A c (bs xs)) (hn : xs.length = n)
    (A2 : Option Addr) (m c2 : Nat) (news : List Nat) (hx : a.eval x = .slice A2 m c2) (hr : Rd w A2 (bs news)) (hm : news.length = m) (hbytes : n + m ≤ 10000000000)
    (h : ∀ A' c' w', Ow w' w0.heap.size 5 A' c' (bs (xs ++ news)) → Below w0.heap.size w0 w' → w.grownBy w' (Value.ownBlock (.slice A n c)) → (A'.map (·.block) = A.map (·.block) ∨ A'.map (·.block) = some w.heap.size) → K (a.put o.dst (.slice A' (n + m) c')) w') :
    if Region.wanted o (yielded ops a.tmps) = true then Oper.wp Try.prog o a w K Q else E := by
  obtain ⟨i, hi, hz0, hz1, hz2⟩ := info_parts info_b
  refine step_appL hgd s x 29 ho 5 i (.int .u8 0) 1 Try.underlying29 hi hz0 hz1 hz2 rfl w0.heap.size w0 hb hb.size A n c (bs xs) hs hown (by rw [bs_length]; exact hn) A2 m c2 (bs news) hx hr (by rw [bs_length]; exact hm) (one_bs news) (by omega) (by decide) ?_
  intro A' c' w' h1 h2 h3 h4
  exact h A' c' w' (by rw [bs_append]; exact h1) h2 h3 h4
theorem mk0_b (hg : o.guard = none) (l c : Operand) (hop : o.op = Op.makeSlice 29 l c)
    (w0 : World) (hb : Below w0.heap.size w0 w) (kl kc : IntKind) (C : Int) (n : Nat) (hl : a.eval l = .int kl 0) (hc : a.eval c = .int kc C) (hC : C = (n : Int)) (b2 : n ≤ 10000000000)
    (hK : ∀ w', Ow w' w0.heap.size 5 (some ⟨w.heap.size, 0, none⟩) n (bs []) → Below w0.heap.size w0 w' → w.grownBy w' none → wpList Try.prog ops Q rest (a.put o.dst (.slice (some ⟨w.heap.size, 0, none⟩) 0 n)) w') :
    wpList Try.prog ops Q (o :: rest) a w := by
  obtain ⟨i, hi, hz0, hz1, hz2⟩ := info_parts info_b
  exact wpList_mk0 hg l c 29 hop 5 i (.int .u8 0) 1 Try.underlying29 hi hz0 hz1 hz2 w0.heap.size w0 hb hb.size kl kc C n hl hc hC (by omega) (by simp only [maxLen]; omega) hK
theorem mkn_b (hg : o.guard = none) (l c : Operand) (hop : o.op = Op.makeSlice 29 l c)
    (w0 : World) (hb : Below w0.heap.size w0 w) (kl kc : IntKind) (L C : Int) (n : Nat) (hl : a.eval l = .int kl L) (hc : a.eval c = .int kc C) (hL : L = (n : Int)) (hC : C = (n : Int)) (b2 : n ≤ 10000000000)
    (hK : ∀ w', Ow w' w0.heap.size 5 (some ⟨w.heap.size, 0, none⟩) n (bs (List.replicate n 0)) → Below w0.heap.size w0 w' → w.grownBy w' none → w'.heap.size = w.heap.size + 1 → wpList Try.prog ops Q rest (a.put o.dst (.slice (some ⟨w.heap.size, 0, none⟩) n n)) w') :
    wpList Try.prog ops Q (o :: rest) a w := by
  obtain ⟨i, hi, hz0, hz1, hz2⟩ := info_parts info_b
  refine wpList_mkn hg l c 29 hop 5 i (.int .u8 0) 1 Try.underlying29 hi hz0 hz1 hz2 rfl w0.heap.size w0 hb hb.size kl kc L C n hl hc hL hC (by omega) (by simp only [maxLen]; omega) ?_
  intro w' h1 h2 h3 h4
  exact hK w' (by simpa [bs] using h1) h2 h3 h4
theorem cpy_b (hgd : o.guard = none) (d s : Operand) (ho : o.op = .call { callee := .builtin .copy, args := #[d, s], argTypes := #[29, 29] })
    (w0 : World) (hb : Below w0.heap.size w0 w) (A : Option Addr) (n c : Nat) (xs : List Nat) (hd : a.eval d = .slice A n c) (hown : Ow w w0.heap.size 5 A c (bs xs)) (hn : xs.length = n)
    (A2 : Option Addr) (m c2 : Nat) (news : List Nat) (hs : a.eval s = .slice A2 m c2) (hr : Rd w A2 (bs news)) (hm : news.length = m)
    (h : ∀ w', Ow w' w0.heap.size 5 A c (bs (news.take n ++ xs.drop m)) → Below w0.heap.size w0 w' → w'.heap.size = w.heap.size → w.grownBy w' (Value.ownBlock (.slice A n c)) → wpList Try.prog ops Q rest (a.put o.dst (goInt ((min m n : Nat) : Int))) w') :
    wpList Try.prog ops Q (o :: rest) a w := by
  refine wpList_cpy hgd d s 29 29 ho 5 Try.underlying29 (by kernel_rfl) w0.heap.size w0 hb A n c (bs xs) hd hown (by rw [bs_length]; exact hn) A2 m c2 (bs news) hs hr (by rw [bs_length]; exact hm) (one_bs news) ?_
  intro w' h1 h2 h3 h4
  exact h w' (by simpa [bs, List.map_take, List.map_drop] using h1) h2 h3 h4
/-! ### slices of slices -/
theorem size_b (W : World) : (sizeOf (Try.prog.elem 29)).run Try.prog W = .ok 1 W := by
  obtain ⟨i, hi, hz0, hz1, hz2⟩ := info_parts info_b
  rw [show Try.prog.elem 29 = 5 from by kernel_rfl]
  simp [sizeOf, typeInfo, hi, hz1]
theorem slice_from_b {A : Option Addr} {n c : Nat} {l : List Nat} (h : Rd w A (bs l)) (hn : l.length = n) (hc : n ≤ c) (k : Nat) (hk : k ≤ n) :
    ∃ A', (∀ W, (Instr.slice 29 (.slice A n c) (some (.int .i64 (k : Int))) none none).run Try.prog W = .ok (.slice A' (n - k) (c - k)) W) ∧ Rd w A' (bs (l.drop k)) := by
  obtain ⟨A', e, r⟩ := h.sliced k n c hk (by rw [bs_length]; omega) (by rw [bs_length]; omega)
  refine ⟨A', fun W => ?_, ?_⟩
  · rw [run_slice_l W 29 A n c (by kernel_rfl) .i64 k (by omega) (by omega), size_b]
    simp only [Result.andThen_ok, Int.toNat_natCast, e]
  · rw [List.take_of_length_le (by rw [bs_length]; omega)] at r
    rw [bs_drop]; exact r
theorem slice_mid_b {A : Option Addr} {n c : Nat} {l : List Nat} (h : Rd w A (bs l)) (hn : l.length = n) (hc : n ≤ c) (k m : Nat) (hk : k ≤ m) (hm : m ≤ n) :
    ∃ A', (∀ W, (Instr.slice 29 (.slice A n c) (some (.int .i64 (k : Int))) (some (.int .i64 (m : Int))) none).run Try.prog W = .ok (.slice A' (m - k) (c - k)) W) ∧ Rd w A' (bs ((l.take m).drop k)) := by
  obtain ⟨A', e, r⟩ := h.sliced k m c hk (by rw [bs_length]; omega) (by rw [bs_length]; omega)
  refine ⟨A', fun W => ?_, ?_⟩
  · rw [run_slice_lh W 29 A n c (by kernel_rfl) .i64 .i64 k m (by omega) (by omega) (by omega), size_b]
    simp only [Result.andThen_ok, Int.toNat_natCast, e]
  · rw [bs_drop, bs_take]; exact r
end
end Go.Proofs.Ytechhidfgheejaa
