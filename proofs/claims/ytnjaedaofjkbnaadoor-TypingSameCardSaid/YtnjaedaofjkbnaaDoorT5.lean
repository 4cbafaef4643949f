/- Contract: where one may come behind an instruction. Conditions: none. -/
import Derived.Test.YtnjaedaofjkbnaaDoorT4
set_option maxRecDepth 100000
set_option linter.unusedVariables false
set_option linter.unusedSimpArgs false
namespace Go.Abs
open Go
theorem ints_map (l : List Int) : recs intC l = l.map intA := by
  induction l with
  | nil => rfl
  | cons x l ih => rw [recs_cons, ih]; rfl
theorem sort_call {K : QK} {d : Dep K} {h : AHeap} {b ver n : Nat} {zs : List Int} (hb : h[b]? = some (.cells ver (recs intC zs))) (hn : n = zs.length) (hne : zs ≠ []) (hl : zs.length < 4611686018427387904)
    (hk : K (.tup []) (h.set b (.cells ver (recs intC (sortZ zs)))) .W) : C1 E K d h 64 [.ms b ver 0 n 1] := by
  subst hn
  have hp := SortP.some (h := h) (b := b) (ver := ver) (off := 0) (zs := zs) (xs := recs intC zs) (by simp [getCells, hb]) (by rw [List.drop_zero, take_ints, ints_map]) hne hl
  have e : (recs intC zs).take 0 ++ (sortZ zs).map intA ++ (recs intC zs).drop (0 + zs.length) = recs intC (sortZ zs) := by
    rw [List.drop_eq_nil_of_le (by rw [intC_len']; omega), ints_map (sortZ zs)]
    simp
  rw [e] at hp
  exact C1.prim fn64 (Or.inr (Or.inl ⟨rfl, hp⟩)) hk
theorem sort_none {K : QK} {d : Dep K} {h : AHeap} (hk : K (.tup []) h .W) : C1 E K d h 64 [.lit (.slice none 0 0)] := C1.prim fn64 (Or.inr (Or.inl ⟨rfl, SortP.none⟩)) hk
def padZ (zs : List Int) : List Int := packZ zs ++ List.replicate (zs.length - (packZ zs).length) 0
theorem pack_call {K : QK} {d : Dep K} {h : AHeap} {b ver n : Nat} {zs : List Int} (hb : h[b]? = some (.cells ver (recs intC zs))) (hn : n = zs.length) (hne : zs ≠ []) (hl : zs.length < 4611686018427387904)
    (hk : K (.ms b ver 0 (packZ zs).length 1) (h.set b (.cells ver (recs intC (padZ zs)))) .W) : C1 E K d h 65 [.ms b ver 0 n 1] := by
  subst hn
  have hp := PackP.some (h := h) (b := b) (ver := ver) (off := 0) (zs := zs) (xs := recs intC zs) (by simp [getCells, hb]) (by rw [List.drop_zero, take_ints, ints_map]) hne hl
  have e : (recs intC zs).take 0 ++ (packZ zs ++ List.replicate (zs.length - (packZ zs).length) 0).map intA ++ (recs intC zs).drop (0 + zs.length) = recs intC (padZ zs) := by
    rw [List.drop_eq_nil_of_le (by rw [intC_len']; omega), ints_map (padZ zs)]
    simp [padZ]
  rw [e] at hp
  exact C1.prim fn65 (Or.inr (Or.inr ⟨rfl, hp⟩)) hk
theorem pack_none {K : QK} {d : Dep K} {h : AHeap} (hk : K (.lit (.slice none 0 0)) h .W) : C1 E K d h 65 [.lit (.slice none 0 0)] := C1.prim fn65 (Or.inr (Or.inr ⟨rfl, PackP.none⟩)) hk
theorem sort_len (zs : List Int) : (sortZ zs).length = zs.length := List.length_mergeSort zs
theorem packZ_pos {zs : List Int} (h : zs ≠ []) : packZ zs ≠ [] := by
  cases zs with
  | nil => exact absurd rfl h
  | cons z r =>
    unfold packZ Lib.compact Lib.compactUpTo
    intro hn
    have := List.map_eq_nil_iff.1 hn
    have h0 : (0 : Nat) ∈ (List.range (z :: r).length).filter (Lib.keeps (z :: r).toArray) := by
      rw [List.mem_filter]
      exact ⟨by simp, by simp [Lib.keeps]⟩
    rw [this] at h0
    cases h0
theorem sortZ_pos {zs : List Int} (h : zs ≠ []) : sortZ zs ≠ [] := by
  intro hn
  have := congrArg List.length hn
  rw [show (sortZ zs).length = zs.length from List.length_mergeSort zs] at this
  exact h (List.eq_nil_of_length_eq_zero this)
theorem rdb_pack {h : AHeap} {b ver : Nat} {zs : List Int} (hb : h[b]? = some (.cells ver (recs intC (padZ zs)))) : Rdb h (.ms b ver 0 (packZ zs).length 1) (intsA (packZ zs)) := by
  refine Rdb.ms hb ?_ ?_
  · rw [intC_len']; simp [padZ]
  · have : List.take ((packZ zs).length * 1) (List.drop 0 (recs intC (padZ zs))) = recs intC (packZ zs) := by
      unfold padZ
      rw [recs_append, List.drop_zero, Nat.mul_one]
      exact List.take_left' (intC_len' _)
    rw [this]
    exact RdbL.closed (ints_closed _)
end Go.Abs

