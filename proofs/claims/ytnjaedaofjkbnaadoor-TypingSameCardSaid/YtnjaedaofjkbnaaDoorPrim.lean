/- The library's functions on slices of numbers do what is told of them. Conditions: none. -/
import Derived.Test.YtnjaedaofjkbnaaDoorAbs10
import Derived.Test.YtnjaedaofjkbnaaDoorShelf
set_option linter.unusedVariables false
set_option linter.unusedSimpArgs false
namespace Go.Abs
open Go Go.RowKit Go.Proofs
section
variable {E : Env}
theorem VL_one {s : St} {x : AV} {us : List Value} (h : VL s [x] us) : ∃ u, us = [u] ∧ V s x u := by
  obtain ⟨u, us', rfl, hu, h'⟩ := VL_cons.1 h
  exact ⟨u, by rw [VL_nil.1 h'], hu⟩
theorem VL_two {s : St} {x y : AV} {us : List Value} (h : VL s [x, y] us) : ∃ u v, us = [u, v] ∧ V s x u ∧ V s y v := by
  obtain ⟨u, us', rfl, hu, h'⟩ := VL_cons.1 h
  obtain ⟨v, rfl, hv⟩ := VL_one h'
  exact ⟨u, v, rfl, hu, hv⟩
theorem VL_three {s : St} {x y z : AV} {us : List Value} (h : VL s [x, y, z] us) : ∃ u v t, us = [u, v, t] ∧ V s x u ∧ V s y v ∧ V s z t := by
  obtain ⟨u, us', rfl, hu, h'⟩ := VL_cons.1 h
  obtain ⟨v, t, rfl, hv, ht⟩ := VL_two h'
  exact ⟨u, v, t, rfl, hu, hv, ht⟩
theorem VL_ints {s : St} : ∀ {zs : List Int} {us : List Value}, VL s (zs.map intA) us → us = zs.map (Value.int .i64)
  | [], us, h => VL_nil.1 h
  | z :: zs, us, h => by
    obtain ⟨u, us', rfl, hu, h'⟩ := VL_cons.1 h
    rw [V_lit] at hu
    rw [hu, VL_ints h']
    rfl
theorem VL_ints_mk {s : St} (zs : List Int) : VL s (zs.map intA) (zs.map (Value.int .i64)) := by
  induction zs with
  | nil => exact VL_nil.2 rfl
  | cons z zs ih => exact VL_cons.2 ⟨_, _, rfl, V_lit.2 rfl, ih⟩
theorem ints_one {zs : List Int} : ∀ y ∈ zs.map (Value.int .i64), y.oneCell' = true := by
  intro y hy
  obtain ⟨z, _, rfl⟩ := List.mem_map.1 hy
  rfl
theorem frozen_row {w : World} {g o : Nat} {c : Array Value} {e : TypeId} (hg : w.heap[g]? = some (.cells c e (0, 0))) : w.frozen? ⟨g, o, none⟩ = false := by
  simp [World.frozen?, hg]
theorem row_some {w : World} {g o : Nat} {c : Array Value} {e : TypeId} (hg : w.heap[g]? = some (.cells c e (0, 0))) (h : o < c.size) : (w.cell? ⟨g, o, none⟩).isSome = true := by
  rw [cell_of_row w g _ c e (0, 0) hg]
  simp [h]
/-- The block of a row that was put at once. -/
theorem putRow_row {w : World} {g o : Nat} {c : Array Value} {e : TypeId} {zs : List Int} (hg : w.heap[g]? = some (.cells c e (0, 0))) (h : o + zs.length ≤ c.size) :
    ∃ c' : Array Value, (Sort.putRow (Value.int .i64) w g o zs.toArray).heap[g]? = some (.cells c' e (0, 0)) ∧ c'.size = c.size ∧ c'.toList = c.toList.take o ++ zs.map (Value.int .i64) ++ c.toList.drop (o + zs.length) := by
  refine ⟨Sort.putCells (Value.int .i64) o zs.toArray c, ?_, by simp [Sort.putCells], ?_⟩
  · simp [Sort.putRow, Sort.mapBlock, Array.getElem?_modify, hg, Sort.onCells]
  · apply List.ext_getElem?
    intro j
    simp only [Sort.putCells, Array.toList_mapIdx, List.getElem?_mapIdx, List.size_toArray]
    simp only [List.append_assoc, List.getElem?_append, List.length_take, Array.length_toList, List.getElem?_take, List.length_map, List.getElem?_drop, List.getElem?_map]
    have e1 : min o c.size = o := by omega
    simp only [e1]
    by_cases h1 : j < o
    · have : ¬ (o ≤ j ∧ j < o + zs.length) := by omega
      cases hc : c.toList[j]? with
      | none => simp [h1]
      | some x => simp [h1, this]
    · by_cases h2 : j - o < zs.length
      · have h3 : o ≤ j ∧ j < o + zs.length := by omega
        have hlt : j < c.toList.length := by simp; omega
        rw [List.getElem?_eq_getElem hlt, List.getElem?_eq_getElem h2]
        simp [h1, h2, h3, getElem!_pos]
      · have h3 : ¬ (o ≤ j ∧ j < o + zs.length) := by omega
        have h4 : o + zs.length + (j - o - zs.length) = j := by omega
        simp only [h1, h2, if_false, h4]
        cases hc : c.toList[j]? with
        | none => simp
        | some x => simp [h3]
theorem putRow_off {w : World} {g o : Nat} {zs : Array Int} {j : Nat} (h : j ≠ g) : (Sort.putRow (Value.int .i64) w g o zs).heap[j]? = w.heap[j]? := by
  simp [Sort.putRow, Sort.mapBlock, Array.getElem?_modify, Ne.symm h]
theorem heap_ahead (w : World) (n : Nat) : (Sort.ahead w n).heap = w.heap := rfl
theorem drop_three {α : Type} {a b d : List α} {k o : Nat} (ha : a.length = k + o) : (a ++ b ++ d).drop k = a.drop k ++ b ++ d := by
  rw [List.append_assoc, List.drop_append_of_le_length (by omega), List.append_assoc]
/-- The cells of a block of which a part was put anew. -/
theorem part_put {c c' us vs : List Value} {k off n : Nat} (h : (c.drop k).take us.length = us) (hle : off + n ≤ us.length) (hn : vs.length = n) (hk : k + us.length ≤ c.length) (hc : c' = c.take (k + off) ++ vs ++ c.drop (k + off + n)) :
    (c'.drop k).take (us.take off ++ vs ++ us.drop (off + n)).length = us.take off ++ vs ++ us.drop (off + n) := by
  subst hc
  have hl : (us.take off ++ vs ++ us.drop (off + n)).length = us.length := by simp; omega
  rw [hl]
  have h1 := drop_put (c := c) (vs := vs) (k := k) (off := off) (by omega)
  rw [hn] at h1
  rw [h1]
  have h2 := take_put (c := c.drop k) (us := us) (vs := vs) (off := off) h (by omega)
  rw [hn] at h2
  exact h2
theorem packZ_le (zs : List Int) : (packZ zs).length ≤ zs.length := by
  unfold packZ Lib.compact Lib.compactUpTo
  rw [List.length_map]
  exact Nat.le_trans (List.length_filter_le _ _) (by simp)
theorem sortZ_length (zs : List Int) : (sortZ zs).length = zs.length := List.length_mergeSort zs
/-- The numbers of a slice in the abstract heap, in the real one. -/
theorem ints_at {s : St} {b off g : Nat} {xs : List AV} {us : List Value} {c : Array Value} {e : TypeId} {zs : List Int} (hg : s.w.heap[g]? = some (.cells c e (0, 0))) (hl : VL s xs us) (ht : (c.toList.drop (s.bs b)).take us.length = us)
    (hz : (xs.drop off).take zs.length = zs.map intA) : (us.drop off).take zs.length = zs.map (Value.int .i64) ∧ off + zs.length ≤ us.length ∨ zs = [] := by
  cases hzs : zs with
  | nil => exact .inr rfl
  | cons z r =>
    rw [← hzs]
    left
    have h1 := (hl.drop off).take zs.length
    rw [hz] at h1
    refine ⟨VL_ints h1, ?_⟩
    have := congrArg List.length (VL_ints h1)
    rw [List.length_take, List.length_drop, List.length_map] at this
    have : 0 < zs.length := by rw [hzs]; simp
    omega
theorem sortP_ok {args : List AV} {h h' : AHeap} {v : AV} (hp : SortP args h v h') : CallS Tryd.prog E 64 args h v h' := by
  intro s us hR hus
  cases hp with
  | none =>
    obtain ⟨u, rfl, hu⟩ := VL_one hus
    rw [V_lit] at hu
    subst hu
    refine (Tryd.slices_Sort_int_none none 0 s.w).mono fun e w' ⟨he, hw⟩ => ?_
    exact ⟨_, s, he, hw.symm, Step.refl s, hR, by simp only [V]; exact ⟨[], rfl, VL_nil.2 rfl⟩⟩
  | @some _ b ver off xs zs hg hz hne hb =>
    obtain ⟨u, rfl, hu⟩ := VL_one hus
    obtain ⟨ad, cap, g, c, e, us, rfl, hn, hρ, hh, hl, h1, ht, hi, hc0⟩ := ms_at hR hg hu
    have hpos : 0 < zs.length := List.length_pos_iff.2 hne
    obtain ⟨rfl, hcs, hcm⟩ : ad = ⟨g, s.bs b + off, none⟩ ∧ s.bs b + off + cap * 1 ≤ c.size ∧ cap ≤ 9223372036854775807 := hc0.resolve_left (by omega)
    obtain ⟨hzu, hle⟩ := (ints_at (b := b) hh hl ht hz).resolve_right hne
    have hat := at_block (off := off) hh ht
    have hk : s.bs b + us.length ≤ c.toList.length := by
      have := congrArg List.length ht
      simp only [List.length_take, List.length_drop] at this
      omega
    have hH : Sort.Holds (Value.int .i64) s.w g (s.bs b + off) zs.toArray := fun j hj => by
      have hj' : j < zs.length := by simpa using hj
      refine ⟨?_, frozen_row hh⟩
      have h2 : ((us.drop off).take zs.length)[j]? = some (.int .i64 zs[j]) := by rw [hzu]; simp [hj']
      rw [List.getElem?_take, if_pos hj'] at h2
      have := hat j _ h2
      rw [Addr.add_lit] at this
      rw [this]
      simp [hj']
    refine (Tryd.slices_Sort_int g (s.bs b + off) cap zs s.w hH (lt_of_heap hh) hb).mono fun e w' ⟨he, q, os, hw⟩ => ?_
    have hlen : (sortZ zs).length = zs.length := sortZ_length zs
    obtain ⟨c', k1, k2, k3⟩ := putRow_row (w := Sort.ahead s.w q) (g := g) (o := s.bs b + off) (zs := sortZ zs) hh (by rw [hlen]; simp at hk; omega)
    obtain ⟨s', g1, g2, g3, g4, g5, g6⟩ := world_write (k := s.bs b) (xs' := xs.take off ++ (sortZ zs).map intA ++ xs.drop (off + zs.length)) (us' := us.take off ++ (sortZ zs).map (Value.int .i64) ++ us.drop (off + zs.length)) (c' := c') (w' := w') (ver' := ver) hR hg hρ hh
      (by rw [hw, Sort.heap_grow_old _ _ (by simp; exact lt_of_heap hh)]; exact k1) k2 (fun j hj hjg => by rw [hw, Sort.heap_grow_old _ _ (by simp; exact hj)]; exact (putRow_off hjg)) (by rw [hw]; simp [Sort.ahead]) (by rw [hw]; rfl) (by rw [hw]; rfl) (by rw [hw]; rfl)
      (Nat.le_refl _) (((hl.take off).append (VL_ints_mk _)).append (hl.drop _)) (by
        intro y hy
        rcases List.mem_append.1 hy with hy | hy
        · rcases List.mem_append.1 hy with hy | hy
          · exact h1 y (List.mem_of_mem_take hy)
          · exact ints_one y hy
        · exact h1 y (List.mem_of_mem_drop hy)) (part_put (n := zs.length) ht hle (by rw [List.length_map, hlen]) hk (by rw [k3, hlen])) (fun _ => rfl)
    exact ⟨_, s', he, g1, g2, g3, by simp only [V]; exact ⟨[], rfl, VL_nil.2 rfl⟩⟩
theorem packP_ok {args : List AV} {h h' : AHeap} {v : AV} (hp : PackP args h v h') : CallS Tryd.prog E 65 args h v h' := by
  intro s us hR hus
  cases hp with
  | none =>
    obtain ⟨u, rfl, hu⟩ := VL_one hus
    rw [V_lit] at hu
    subst hu
    refine (Tryd.slices_Compact_int_empty none 0 s.w).mono fun e w' ⟨he, hw⟩ => ?_
    exact ⟨_, s, he, hw.symm, Step.refl s, hR, by simp⟩
  | @some _ b ver off xs zs hg hz hne hb =>
    obtain ⟨u, rfl, hu⟩ := VL_one hus
    obtain ⟨ad, cap, g, c, e, us, rfl, hn, hρ, hh, hl, h1, ht, hi, hc0⟩ := ms_at hR hg hu
    have hpos : 0 < zs.length := List.length_pos_iff.2 hne
    obtain ⟨rfl, hcs, hcm⟩ : ad = ⟨g, s.bs b + off, none⟩ ∧ s.bs b + off + cap * 1 ≤ c.size ∧ cap ≤ 9223372036854775807 := hc0.resolve_left (by omega)
    obtain ⟨hzu, hle⟩ := (ints_at (b := b) hh hl ht hz).resolve_right hne
    have hat := at_block (off := off) hh ht
    have hk : s.bs b + us.length ≤ c.toList.length := by
      have := congrArg List.length ht
      simp only [List.length_take, List.length_drop] at this
      omega
    have hH : Sort.Holds (Value.int .i64) s.w g (s.bs b + off) zs.toArray := fun j hj => by
      have hj' : j < zs.length := by simpa using hj
      refine ⟨?_, frozen_row hh⟩
      have h2 : ((us.drop off).take zs.length)[j]? = some (.int .i64 zs[j]) := by rw [hzu]; simp [hj']
      rw [List.getElem?_take, if_pos hj'] at h2
      have := hat j _ h2
      rw [Addr.add_lit] at this
      rw [this]
      simp [hj']
    refine (Tryd.slices_Compact_int g (s.bs b + off) cap zs s.w hH (by omega) hn).mono fun e w' ⟨he, q, hw⟩ => ?_
    have hpl := packZ_le zs
    obtain ⟨ws, hws⟩ : ∃ ws, ws = packZ zs ++ List.replicate (zs.length - (packZ zs).length) 0 := ⟨_, rfl⟩
    have hlen : ws.length = zs.length := by rw [hws]; simp; omega
    have hw' : w' = Sort.putRow (Value.int .i64) (Sort.ahead s.w q) g (s.bs b + off) ws.toArray := by rw [hws]; exact hw
    rw [← hws]
    obtain ⟨c', k1, k2, k3⟩ := putRow_row (w := Sort.ahead s.w q) (g := g) (o := s.bs b + off) (zs := ws) hh (by rw [hlen]; simp at hk; omega)
    obtain ⟨s', g1, g2, g3, g4, g5, g6⟩ := world_write (k := s.bs b) (xs' := xs.take off ++ ws.map intA ++ xs.drop (off + zs.length)) (us' := us.take off ++ ws.map (Value.int .i64) ++ us.drop (off + zs.length)) (c' := c') (w' := w') (ver' := ver) hR hg hρ hh
      (by rw [hw']; exact k1) k2 (fun j hj hjg => by rw [hw']; exact (putRow_off hjg)) (by rw [hw']; simp [Sort.ahead]) (by rw [hw']; rfl) (by rw [hw']; rfl) (by rw [hw']; rfl)
      (Nat.le_refl _) (((hl.take off).append (VL_ints_mk _)).append (hl.drop _)) (by
        intro y hy
        rcases List.mem_append.1 hy with hy | hy
        · rcases List.mem_append.1 hy with hy | hy
          · exact h1 y (List.mem_of_mem_take hy)
          · exact ints_one y hy
        · exact h1 y (List.mem_of_mem_drop hy)) (part_put (n := zs.length) ht hle (by rw [List.length_map, hlen]) hk (by rw [k3, hlen])) (fun _ => rfl)
    refine ⟨_, s', he, g1, g2, g3, ?_⟩
    simp only [V]
    refine ⟨_, cap, ver, rfl, by have : (Lib.compact zs).length ≤ zs.length := hpl; show (Lib.compact zs).length ≤ cap; omega, g6, Nat.le_refl _, fun _ => .inr ⟨g, c', _, by rw [g4]; exact hρ, by rw [g1, hw']; exact k1, by rw [g5], by rw [g5, k2]; exact hcs, hcm⟩⟩
theorem VL_putIn {s : St} {xs : List AV} {us : List Value} (h : VL s xs us) (i : Nat) {x : AV} {u : Value} (hx : V s x u) : VL s (putIn xs i x) (putIn us i u) :=
  (h.take i).append (VL_cons.2 ⟨_, _, rfl, hx, h.drop i⟩)
theorem putIn_length {α : Type} {l : List α} {i : Nat} {x : α} : (putIn l i x).length = l.length + 1 := by
  simp [putIn]; omega
theorem putIn_one {us : List Value} {i : Nat} {u : Value} (h : ∀ y ∈ us, y.oneCell' = true) (hu : u.oneCell' = true) : ∀ y ∈ putIn us i u, y.oneCell' = true := by
  intro y hy
  rcases List.mem_append.1 hy with hy | hy
  · exact h y (List.mem_of_mem_take hy)
  · rcases List.mem_cons.1 hy with rfl | hy
    · exact hu
    · exact h y (List.mem_of_mem_drop hy)
theorem putIn_end {us : List Value} {u : Value} : putIn us us.length u = us ++ [u] := by simp [putIn]
theorem take_of_at {c us : List Value} {k off n : Nat} (h : (c.drop k).take us.length = us) (hle : off + n ≤ us.length) : (c.drop (k + off)).take n = (us.drop off).take n := by
  conv => rhs; rw [← h]
  rw [List.drop_take, List.take_take, List.drop_drop]
  congr 1
  omega
/-- The one cell of the argument. -/
theorem arg_at {s : St} {h : AHeap} (hR : R E s h) {b' v' : Nat} {x : AV} {t : Value} (hg : getCells h b' v' = some [x]) (hv : V s (.ms b' v' 0 1 1) t) :
    ∃ g o cap c e u, t = .slice (some ⟨g, o, none⟩) 1 cap ∧ s.ρ b' = some g ∧ s.w.heap[g]? = some (.cells c e (0, 0)) ∧ V s x u ∧ u.oneCell' = true ∧ s.w.cell? ⟨g, o, none⟩ = some u ∧ ¬ s.imm g := by
  obtain ⟨ad, cap, g, c, e, us, rfl, hn, hρ, hh, hl, h1, ht, hi, hc0⟩ := ms_at hR hg hv
  obtain ⟨rfl, hcs, hcm⟩ : ad = ⟨g, s.bs b' + 0, none⟩ ∧ s.bs b' + 0 + cap * 1 ≤ c.size ∧ cap ≤ 9223372036854775807 := hc0.resolve_left (by omega)
  obtain ⟨u, rfl, hu⟩ := VL_one hl
  refine ⟨g, s.bs b' + 0, cap, c, e, u, rfl, hρ, hh, hu, h1 u (by simp), ?_, hi⟩
  have := at_block (off := 0) hh ht 0 u (by simp)
  simpa [Addr.add_lit] using this
theorem insP_ok {args : List AV} {h h' : AHeap} {v : AV} (hp : InsP args h v h') : CallS Tryd.prog E 79 args h v h' := by
  intro s us hR hus
  cases hp with
  | @new _ b' v' x hg =>
    obtain ⟨u1, u2, u3, rfl, hu1, hu2, hu3⟩ := VL_three hus
    rw [V_lit] at hu1 hu2
    subst hu1
    subst hu2
    obtain ⟨g, o, cap, c, e, u, rfl, hρ, hh, hu, hu1, hcell, _⟩ := arg_at hR hg hu3
    refine (Any2.slices_Insert_int_end_grow Tryd.laysNm221 none 0 0 g o 1 cap [] [u] s.w (by omega) (by omega) (by omega) (by omega) rfl rfl (fun _ => rfl) (fun a ha => by cases ha) (fun j v hj => by
      cases j with
      | zero => simp at hj; subst hj; simpa using hcell
      | succ j => simp at hj) (by simpa using hu1)).mono fun e' w' ⟨he, hw⟩ => ?_
    have hRd : R E { s with w := s.w.drew } h := hR.quiet ⟨rfl, rfl, rfl, fun _ h => h, fun _ h => .inl h, fun _ _ => rfl, Nat.le_refl _, rfl, rfl, rfl⟩
    have hSd : Step s { s with w := s.w.drew } := Quiet.step ⟨rfl, rfl, rfl, fun _ h => h, fun _ h => .inl h, fun _ _ => rfl, Nat.le_refl _, rfl, rfl, rfl⟩ hR.immlt
    have hcap := grownCap_ge s.w 1 0 (Tryd.laysNm221_ren.t 3)
    obtain ⟨k1, k2⟩ := allocM_ok (E := E) hRd (xs := [x]) (us := [u]) (c := ([] ++ [u]).toArray ++ Builtin.zeroCells (Value.int .i64 0).cells (grownCap s.w (0 + 1) 0 (Tryd.laysNm221_ren.t 3) - (0 + 1))) (e := Tryd.laysNm221_ren.t 3)
      (VL_cons.2 ⟨_, _, rfl, V.mono hSd.ext _ _ hu, VL_nil.2 rfl⟩) (by simpa using hu1) (by simp)
    refine ⟨_, _, he, hw.symm, hSd.trans k1, k2, ?_⟩
    refine allocM_ms (n := 1) (sz := 1) (cap := grownCap s.w (0 + 1) 0 (Tryd.laysNm221_ren.t 3)) hcap ?_ (grownCap_le_maxLen s.w _ _ _ (by unfold maxLen; omega))
    simp only [Array.size_append, List.size_toArray, size_zeroCells]
    show _ ≤ 1 + _ * 1
    omega
  | @put _ b ver off n i b' v' x xs hne hg hg' hle hi hb =>
    obtain ⟨u1, u2, u3, rfl, hu1, hu2, hu3⟩ := VL_three hus
    rw [V_lit] at hu2
    subst hu2
    obtain ⟨g', o', cap', c', e', u, rfl, hρ', hh', hux, hu1x, hcell, hi'⟩ := arg_at hR hg' hu3
    obtain ⟨ad, cap, g, c, e, us, rfl, hn, hρ, hh, hl, h1, ht, him, hc0⟩ := ms_at hR hg hu1
    have hgg : g' ≠ g := fun he => hne (hR.inj b b' g (List.getElem?_eq_some_iff.1 (getCells_eq hg)).1 (List.getElem?_eq_some_iff.1 (getCells_eq hg')).1 hρ (by rw [← he]; exact hρ'))
    have hus' := hl.length
    have hoff : off + n ≤ us.length := by omega
    have hk : s.bs b + us.length ≤ c.toList.length ∨ us.length = 0 := by
      have := congrArg List.length ht
      simp only [List.length_take, List.length_drop] at this
      omega
    have hcsl : ((us.drop off).take n).length = n := by simp; omega
    have hVput := VL_putIn ((hl.drop off).take n) i hux
    have hone := putIn_one (i := i) (us := (us.drop off).take n) (fun y hy => h1 y (List.mem_of_mem_drop (List.mem_of_mem_take hy))) hu1x
    have hvs : ∀ j v, [u][j]? = some v → s.w.cell? ⟨g', o' + j, none⟩ = some v := fun j v hj => by
      cases j with
      | zero => simp at hj; subst hj; simpa using hcell
      | succ j => simp at hj
    have hv1 : ∀ v ∈ [u], v.oneCell' = true := by simpa using hu1x
    by_cases hroom : n + 1 ≤ cap
    · obtain ⟨rfl, hcs, hcm⟩ : ad = ⟨g, s.bs b + off, none⟩ ∧ s.bs b + off + cap * 1 ≤ c.size ∧ cap ≤ 9223372036854775807 := hc0.resolve_left (by omega)
      have hat := at_block (off := off) hh ht
      have hcells : ∀ j v, ((us.drop off).take n)[j]? = some v → s.w.cell? ⟨g, s.bs b + off + j, none⟩ = some v := fun j v hj => by
        have hjn : j < n := by have := (List.getElem?_eq_some_iff.1 hj).1; omega
        rw [List.getElem?_take, if_pos hjn] at hj
        have := hat j v hj
        rwa [Addr.add_lit] at this
      -- the block as it is behind the call
      have fin : ∀ (w' : World) (c2 : Array Value), w'.heap[g]? = some (.cells c2 e (0, 0)) → c2.size = c.size → (∀ j, j < s.w.heap.size → j ≠ g → w'.heap[j]? = s.w.heap[j]?) → w'.heap.size = s.w.heap.size → w'.os = s.w.os → w'.tape = s.w.tape → w'.output = s.w.output →
          (c2.toList.drop (s.bs b + off)).take (n + 1) = putIn ((us.drop off).take n) i u →
          ∃ u' s', Ending.returned (.slice (some ⟨g, s.bs b + off, none⟩) (n + 1) cap) = .returned u' ∧ s'.w = w' ∧ Step s s' ∧ R E s' (h.set b (.cells (ver + 1) (putIn ((xs.drop off).take n) i x))) ∧ V s' (.ms b (ver + 1) 0 (n + 1) 1) u' := by
        intro w' c2 f1 f2 f3 f4 f5 f6 f7 f8
        obtain ⟨s', g1, g2, g3, g4, g5, g6⟩ := world_write (k := s.bs b + off) (xs' := putIn ((xs.drop off).take n) i x) (us' := putIn ((us.drop off).take n) i u) (c' := c2) (w' := w') (ver' := ver + 1) hR hg hρ hh f1 f2 f3 (by omega) f5 f6 f7 (by omega) hVput hone (by rw [putIn_length, hcsl]; exact f8) (fun h => by omega)
        refine ⟨_, s', rfl, g1, g2, g3, ?_⟩
        simp only [V]
        exact ⟨_, cap, ver + 1, rfl, hroom, g6, Nat.le_refl _, fun _ => .inr ⟨g, c2, e, by rw [g4]; exact hρ, by rw [g1]; exact f1, by rw [g5, Nat.add_zero], by rw [g5, f2]; simpa using hcs, hcm⟩⟩
      have hcl : s.bs b + off + n + 1 ≤ c.toList.length := by simp; omega
      have htake : (c.toList.drop (s.bs b + off)).take n = (us.drop off).take n := take_of_at ht hoff
      by_cases hin : i < n
      · refine (Any2.slices_Insert_int_shift Tryd.laysNm221 g (s.bs b + off) n cap i g' o' 1 cap' ((us.drop off).take n) [u] s.w hin (by omega) hroom hcm hgg hcsl rfl hcells (fun j hj => row_some hh (by omega)) (fun j hj => frozen_row hh) hvs
          (fun y hy => h1 y (List.mem_of_mem_drop (List.mem_of_mem_take hy))) hv1 e' e c'.size c.size (by simp [World.shape?, hh']) (by simp [World.shape?, hh]) (by omega) (frozen_row hh') (frozen_row hh')).mono fun e0 w' ⟨he, hw⟩ => ?_
        obtain ⟨c1, p1, p2, p3⟩ := setCells_at (w := s.w.drew) ((List.take n (List.drop off us)).drop i) (s.bs b + off + (i + 1)) _ hh (by simp [List.length_drop, hcsl]; simp at hcl; omega)
        obtain ⟨c2, q1, q2, q3⟩ := setCells_at [u] (s.bs b + off + i) _ c1 p1 (by simp; omega)
        rw [he]
        refine fin w' c2 (by rw [hw]; exact q1) (by rw [q2, p2]) (fun j hj hjg => by rw [hw, setCells_off _ _ _ hjg, setCells_off _ _ _ hjg]; rfl) (by rw [hw, setCells_size, setCells_size]; rfl) ?_ ?_ ?_ ?_
        · rw [hw, (setCells_rest g _ _ _).1, (setCells_rest g _ _ _).1]; rfl
        · rw [hw, (setCells_rest g _ _ _).2.1, (setCells_rest g _ _ _).2.1]; rfl
        · rw [hw, (setCells_rest g _ _ _).2.2, (setCells_rest g _ _ _).2.2]; rfl
        · rw [q3, p3]
          have e1 : (c.toList.take (s.bs b + off + (i + 1)) ++ ((us.drop off).take n).drop i ++ c.toList.drop (s.bs b + off + (i + 1) + (((us.drop off).take n).drop i).length)).take (s.bs b + off + i) = c.toList.take (s.bs b + off + i) := by
            rw [List.append_assoc, List.take_append_of_le_length (by simp; omega), List.take_take]
            congr 1; omega
          have e2 : (c.toList.take (s.bs b + off + (i + 1)) ++ ((us.drop off).take n).drop i ++ c.toList.drop (s.bs b + off + (i + 1) + (((us.drop off).take n).drop i).length)).drop (s.bs b + off + i + [u].length) = ((us.drop off).take n).drop i ++ c.toList.drop (s.bs b + off + (i + 1) + (((us.drop off).take n).drop i).length) := by
            rw [List.append_assoc, List.drop_left' (by simp; omega)]
          rw [e1, e2, ← List.append_assoc, List.append_assoc (c.toList.take _), List.append_assoc, List.drop_append_of_le_length (by simp; omega)]
          have e3 : (c.toList.take (s.bs b + off + i)).drop (s.bs b + off) = ((us.drop off).take n).take i := by
            rw [List.drop_take, ← htake, List.take_take]
            congr 1; omega
          rw [e3]
          unfold putIn
          rw [← List.append_assoc, ← List.append_assoc]
          rw [List.take_append_of_le_length (by simp; omega), List.take_of_length_le (by simp; omega)]
          simp
      · obtain rfl : i = n := by omega
        refine (Any2.slices_Insert_int_end_room Tryd.laysNm221 g (s.bs b + off) i cap g' o' 1 cap' [u] s.w (by omega) hroom hcm rfl (fun j hj => row_some hh (by omega)) (fun j hj => frozen_row hh) hvs hv1).mono fun e0 w' ⟨he, hw⟩ => ?_
        obtain ⟨c2, q1, q2, q3⟩ := setCells_at [u] (s.bs b + off + i) _ c hh (by simp; simp at hcl; omega)
        rw [he]
        refine fin w' c2 (by rw [hw]; exact q1) q2 (fun j hj hjg => by rw [hw, setCells_off _ _ _ hjg]) (by rw [hw, setCells_size]) ?_ ?_ ?_ ?_
        · rw [hw, (setCells_rest g _ _ _).1]
        · rw [hw, (setCells_rest g _ _ _).2.1]
        · rw [hw, (setCells_rest g _ _ _).2.2]
        · rw [q3, List.append_assoc, List.drop_append_of_le_length (by simp; omega)]
          have e3 : (c.toList.take (s.bs b + off + i)).drop (s.bs b + off) = (us.drop off).take i := by
            rw [List.drop_take, ← htake]
            congr 1; omega
          rw [e3]
          have := @putIn_end ((us.drop off).take i) u
          rw [hcsl] at this
          rw [this, ← List.append_assoc, List.take_append_of_le_length (by simp; omega), List.take_of_length_le (by simp; omega)]
    · have hcells : ∀ j v, ((us.drop off).take n)[j]? = some v → s.w.cell? (ad.add j) = some v := fun j v hj => by
        have hjn : j < n := by have := (List.getElem?_eq_some_iff.1 hj).1; omega
        obtain ⟨rfl, _⟩ : ad = ⟨g, s.bs b + off, none⟩ ∧ s.bs b + off + cap * 1 ≤ c.size ∧ cap ≤ 9223372036854775807 := hc0.resolve_left (by omega)
        rw [List.getElem?_take, if_pos hjn] at hj
        exact at_block (off := off) hh ht j v hj
      have fin : ∀ (w' : World) (c2 : Array Value) (t2 : TypeId) (cp : Nat), n + 1 ≤ cp → cp ≤ c2.size → cp ≤ 9223372036854775807 → w'.heap[s.w.heap.size]? = some (.cells c2 t2 (0, 0)) → (∀ j, j < s.w.heap.size → w'.heap[j]? = s.w.heap[j]?) → w'.os = s.w.os → w'.tape = s.w.tape → w'.output = s.w.output →
          c2.toList.take (n + 1) = putIn ((us.drop off).take n) i u →
          ∃ u' s', Ending.returned (.slice (some ⟨s.w.heap.size, 0, none⟩) (n + 1) cp) = .returned u' ∧ s'.w = w' ∧ Step s s' ∧ R E s' (h.set b (.cells (ver + 1) (putIn ((xs.drop off).take n) i x))) ∧ V s' (.ms b (ver + 1) 0 (n + 1) 1) u' := by
        intro w' c2 t2 cp f0 f1 f2 f3 f4 f5 f6 f7 f8
        obtain ⟨s', g1, g2, g3, g4, g5, g6⟩ := world_move (xs' := putIn ((xs.drop off).take n) i x) (us' := putIn ((us.drop off).take n) i u) (c' := c2) (w' := w') hR hg f3 f4 f5 f6 f7 hVput hone (by rw [putIn_length, hcsl]; exact f8)
        refine ⟨_, s', rfl, g1, g2, g3, ?_⟩
        simp only [V]
        exact ⟨_, cp, ver + 1, rfl, f0, g6, Nat.le_refl _, fun _ => .inr ⟨_, c2, t2, g4, by rw [g1]; exact f3, by rw [g5], by rw [g5]; omega, f2⟩⟩
      have hge := grownCap_ge s.w (n + 1) cap (Tryd.laysNm221_ren.t 3)
      have hmx := grownCap_le_maxLen s.w (n + 1) cap (Tryd.laysNm221_ren.t 3) (by unfold maxLen; omega)
      have hz0 : (Value.int IntKind.i64 0).cells.size = 1 := rfl
      by_cases hin : i < n
      · obtain ⟨rfl, hcs, hcm⟩ : ad = ⟨g, s.bs b + off, none⟩ ∧ s.bs b + off + cap * 1 ≤ c.size ∧ cap ≤ 9223372036854775807 := hc0.resolve_left (by omega)
        refine (Any2.slices_Insert_int_grow Tryd.laysNm221 g (s.bs b + off) n cap i g' o' 1 cap' ((us.drop off).take n) [u] s.w hin (by omega) hn (by omega) hb hcsl rfl (fun j v hj => by have := hcells j v hj; rwa [Addr.add_lit] at this) hvs (fun y hy => h1 y (List.mem_of_mem_drop (List.mem_of_mem_take hy))) hv1).mono fun e0 w' ⟨he, hw⟩ => ?_
        generalize hq : grownCap s.w (n + 1) cap (Tryd.laysNm221_ren.t 3) = cp at *
        obtain ⟨c0, hc00⟩ : ∃ c0, c0 = ((us.drop off).take n |>.take i).toArray ++ Builtin.zeroCells (Value.int .i64 0).cells (n + 1 - i) ++ Builtin.zeroCells (Value.int .i64 0).cells (cp - (n + 1)) := ⟨_, rfl⟩
        rw [← hc00] at hw
        have hcz : c0.size = cp := by rw [hc00]; simp [size_zeroCells, hz0]; omega
        have hnew := heap_alloc_new s.w (.cells c0 (Tryd.laysNm221_ren.t 3))
        obtain ⟨c1, p1, p2, p3⟩ := setCells_at (w := (s.w.alloc (.cells c0 (Tryd.laysNm221_ren.t 3))).drew) [u] i _ hnew (by simp; omega)
        obtain ⟨c2, q1, q2, q3⟩ := setCells_at (w := ((s.w.alloc (.cells c0 (Tryd.laysNm221_ren.t 3))).drew.setCells s.w.heap.size i [u]).drew) (((us.drop off).take n).drop i) (i + 1) _ p1 (by simp [hcsl]; omega)
        rw [he]
        refine fin w' c2 _ cp hge (by omega) hmx (by rw [hw]; exact q1) (fun j hj => ?_) ?_ ?_ ?_ ?_
        · rw [hw, setCells_off _ _ _ (by omega)]
          show ((s.w.alloc (.cells c0 (Tryd.laysNm221_ren.t 3))).drew.setCells s.w.heap.size i [u]).heap[j]? = _
          rw [setCells_off _ _ _ (by omega)]
          exact heap_alloc_old s.w _ hj
        · rw [hw, (setCells_rest _ _ _ _).1]
          show ((s.w.alloc (.cells c0 (Tryd.laysNm221_ren.t 3))).drew.setCells s.w.heap.size i [u]).os = _
          rw [(setCells_rest _ _ _ _).1]; rfl
        · rw [hw, (setCells_rest _ _ _ _).2.1]
          show ((s.w.alloc (.cells c0 (Tryd.laysNm221_ren.t 3))).drew.setCells s.w.heap.size i [u]).tape = _
          rw [(setCells_rest _ _ _ _).2.1]; rfl
        · rw [hw, (setCells_rest _ _ _ _).2.2]
          show ((s.w.alloc (.cells c0 (Tryd.laysNm221_ren.t 3))).drew.setCells s.w.heap.size i [u]).output = _
          rw [(setCells_rest _ _ _ _).2.2]; rfl
        · rw [q3, p3]
          have e0 : c0.toList.take i = ((us.drop off).take n).take i := by
            rw [hc00]
            simp only [Array.toList_append, List.append_assoc]
            rw [List.take_append_of_le_length (by simp; omega), List.take_of_length_le (by simp; omega)]
          have e1 : (c0.toList.take i ++ [u] ++ c0.toList.drop (i + [u].length)).take (i + 1) = c0.toList.take i ++ [u] := by
            rw [List.take_append_of_le_length (by simp; omega), List.take_of_length_le (by simp; omega)]
          rw [e1, e0, List.take_append_of_le_length (by simp; omega), List.take_of_length_le (by simp; omega)]
          unfold putIn
          simp
      · obtain rfl : i = n := by omega
        refine (Any2.slices_Insert_int_end_grow Tryd.laysNm221 (some ad) i cap g' o' 1 cap' ((us.drop off).take i) [u] s.w (by omega) hn (by omega) hb hcsl rfl (fun h => by cases h) (fun a ha j v hj => by injection ha with ha; subst ha; exact hcells j v hj) hvs hv1).mono fun e0 w' ⟨he, hw⟩ => ?_
        generalize hq : grownCap s.w (i + 1) cap (Tryd.laysNm221_ren.t 3) = cp at *
        rw [he]
        refine fin w' _ _ cp hge ?_ hmx (by rw [hw]; exact heap_alloc_new s.w.drew _) (fun j hj => by rw [hw]; exact heap_alloc_old s.w.drew _ hj) (by rw [hw]; rfl) (by rw [hw]; rfl) (by rw [hw]; rfl) ?_
        · simp only [Array.size_append, List.size_toArray, size_zeroCells, hz0, List.length_append, hcsl, List.length_cons, List.length_nil]
          omega
        · have := @putIn_end ((us.drop off).take i) u
          rw [hcsl] at this
          rw [this]
          simp only [Array.toList_append]
          rw [List.take_append_of_le_length (by simp; omega), List.take_of_length_le (by simp; omega)]
/-- All three. -/
theorem slP_ok {f : FuncId} {args : List AV} {h h' : AHeap} {v : AV} (hp : slP 79 64 65 f args h v h') : CallS Tryd.prog E f args h v h' := by
  rcases hp with ⟨rfl, hp⟩ | ⟨rfl, hp⟩ | ⟨rfl, hp⟩
  · exact insP_ok hp
  · exact sortP_ok hp
  · exact packP_ok hp
end
end Go.Abs

