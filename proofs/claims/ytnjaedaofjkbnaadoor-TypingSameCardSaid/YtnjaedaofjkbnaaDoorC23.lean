/- Contracts: slots and scopes. Conditions: none. -/
import Derived.Test.YtnjaedaofjkbnaaDoorC21
set_option maxRecDepth 100000
set_option linter.unusedVariables false
set_option linter.unusedSimpArgs false
namespace Go.Abs
open Go
/-- Read whole, in all so many steps or more. -/
def Rdb (h : AHeap) (x y : AV) : Prop := ∃ N, ∀ n, N ≤ n → rdv h n x = some y
def RdbL (h : AHeap) (x y : List AV) : Prop := ∃ N, ∀ n, N ≤ n → rdvL h n x = some y
theorem Rdb.closed {h : AHeap} {x : AV} (hx : x.closed = true) : Rdb h x x := ⟨1, fun n hn => by
  cases n with
  | zero => omega
  | succ n => simp [rdv, hx]⟩
theorem RdbL.nil {h : AHeap} : RdbL h [] [] := ⟨1, fun n hn => by
  cases n with
  | zero => omega
  | succ n => simp [rdvL]⟩
theorem RdbL.cons {h : AHeap} {x y : AV} {xs ys : List AV} (h1 : Rdb h x y) (h2 : RdbL h xs ys) : RdbL h (x :: xs) (y :: ys) := by
  obtain ⟨a, ha⟩ := h1
  obtain ⟨b, hb⟩ := h2
  refine ⟨a + b + 1, fun n hn => ?_⟩
  cases n with
  | zero => omega
  | succ n => simp [rdvL, ha n (by omega), hb n (by omega)]
theorem RdbL.closed {h : AHeap} : ∀ {xs : List AV}, AV.closedL xs = true → RdbL h xs xs
  | [], _ => .nil
  | x :: xs, hc => by
    simp only [AV.closedL, Bool.and_eq_true] at hc
    exact .cons (.closed hc.1) (.closed hc.2)
theorem Rdb.ms {h : AHeap} {b ver off k sz : Nat} {xs ys : List AV} (hb : h[b]? = some (.cells ver xs)) (hl : off + k * sz ≤ xs.length) (hy : RdbL h ((xs.drop off).take (k * sz)) ys) : Rdb h (.ms b ver off k sz) (.ro k ys) := by
  obtain ⟨N, hN⟩ := hy
  refine ⟨N + 1, fun n hn => ?_⟩
  cases n with
  | zero => omega
  | succ n => simp [rdv, AV.closed, getCells, hb, hl, hN n (by omega)]
theorem Rdb.agg {h : AHeap} {xs ys : List AV} (hy : RdbL h xs ys) : Rdb h (.agg xs) (.agg ys) := by
  by_cases hc : AV.closedL xs = true
  · obtain ⟨N, hN⟩ := hy
    have h2 := RdbL.closed (h := h) hc
    obtain ⟨M, hM⟩ := h2
    have e : xs = ys := by
      have a := hN (N + M) (by omega)
      have b := hM (N + M) (by omega)
      rw [a] at b
      injection b with b
      exact b.symm
    subst e
    exact .closed (by simpa [AV.closed] using hc)
  · obtain ⟨N, hN⟩ := hy
    refine ⟨N + 1, fun n hn => ?_⟩
    cases n with
    | zero => omega
    | succ n => simp [rdv, AV.closed, hc, hN n (by omega)]
theorem Rdb.tup {h : AHeap} {xs ys : List AV} (hy : RdbL h xs ys) : Rdb h (.tup xs) (.tup ys) := by
  by_cases hc : AV.closedL xs = true
  · obtain ⟨N, hN⟩ := hy
    have h2 := RdbL.closed (h := h) hc
    obtain ⟨M, hM⟩ := h2
    have e : xs = ys := by
      have a := hN (N + M) (by omega)
      have b := hM (N + M) (by omega)
      rw [a] at b
      injection b with b
      exact b.symm
    subst e
    exact .closed (by simpa [AV.closed] using hc)
  · obtain ⟨N, hN⟩ := hy
    refine ⟨N + 1, fun n hn => ?_⟩
    cases n with
    | zero => omega
    | succ n => simp [rdv, AV.closed, hc, hN n (by omega)]
theorem RetOk_rdb {h : AHeap} {vs : List AV} {r : AV} (h1 : Rdb h (oneOrTup vs) r) (h2 : r.closed = true) : RetOk h vs r := by
  obtain ⟨N, hN⟩ := h1
  exact ⟨N, hN N (Nat.le_refl _), h2⟩
theorem RetX_rdb {h : AHeap} {vs : List AV} {Φ : AV → Prop} {r : AV} (h1 : Rdb h (oneOrTup vs) r) (h2 : r.closed = true) (h3 : Φ r) : RetX h vs Φ := ⟨r, RetOk_rdb h1 h2, h3⟩
theorem intC_len (l : List Int) : (recs intC l).length = l.length * 1 := recs_length (w := 1) (fun _ => rfl) l
theorem intC_len' (l : List Int) : (recs intC l).length = l.length := by rw [intC_len]; omega
theorem set_self {h : AHeap} {b : Nat} {x y : ABlock} (hb : h[b]? = some x) : (h.set b y)[b]? = some y := by
  rw [List.getElem?_set_self (List.getElem?_eq_some_iff.1 hb).1]
theorem intC_at' {l : List Int} {i : Nat} {x : Int} (h : l[i]? = some x) : (recs intC l).drop i = I x :: recs intC (l.drop (i + 1)) := by
  have := intC_at h
  rwa [Nat.mul_one] at this
theorem take_ints {l : List Int} : (recs intC l).take l.length = recs intC l := List.take_of_length_le (by rw [intC_len']; exact Nat.le_refl _)
end Go.Abs

