/- The plain law: the network of a right network's expression is it. No program in sight. Conditions: none. -/
import Derived.Test.YtnjaedaofjkbnaaDoorC32
import Derived.Test.YtnjaedaofjkbnaaDoorC27
set_option maxRecDepth 100000
set_option linter.unusedVariables false
set_option linter.unusedSimpArgs false
namespace Go.Abs
open Go
def conNK (n : Nt) (cs : List Nat) : Nat := if n.kind = 1 then 1 else cs.sum
mutual
def conN : Nt → Nat
  | .mk k n e l => conNK (.mk k n e l) (conNL l)
def conNL : List Nt → List Nat
  | [] => []
  | e :: l => conN e :: conNL l
end
theorem conNL_eq : ∀ l, conNL l = l.map conN
  | [] => rfl
  | e :: l => by rw [conNL, conNL_eq l, List.map_cons]
theorem conN_eq (n : Nt) : conN n = conNK n (n.l.map conN) := by
  cases n with
  | mk k n e l => rw [conN, conNL_eq]; rfl
theorem con_fold : ∀ (l : List Nt) (a : Nat), (∀ x ∈ l, con x = (conN x : Int) ∧ conN x ≤ x.size) → a + (l.map Nt.size).sum ≤ 100 → (l.map con).foldl (fun a c => IntKind.i64.wrap (a + c)) (a : Int) = ((a + (l.map conN).sum : Nat) : Int)
  | [], a, _, _ => by simp
  | x :: l, a, h, hs => by
    obtain ⟨h1, h2⟩ := h x (by simp)
    simp only [List.map_cons, List.sum_cons] at hs
    rw [List.map_cons, List.foldl_cons, h1, wrap64 (by unfold In64; omega), ← Int.natCast_add, con_fold l (a + conN x) (fun y hy => h y (by simp [hy])) (by omega), List.map_cons, List.sum_cons]
    congr 1
    omega
theorem sum_le {α : Type} {f g : α → Nat} : ∀ {l : List α}, (∀ x ∈ l, f x ≤ g x) → (l.map f).sum ≤ (l.map g).sum
  | [], _ => by simp
  | x :: l, h => by
    have h1 := h x (by simp)
    have h2 := sum_le (l := l) fun y hy => h y (by simp [hy])
    simp only [List.map_cons, List.sum_cons]
    omega
theorem con_nat : ∀ n : Nt, n.size ≤ 100 → con n = (conN n : Int) ∧ conN n ≤ n.size := by
  intro n
  induction n using Nt.ind with
  | _ n ih =>
  intro hs
  have hs' := hs
  rw [Nt.size_eq] at hs'
  have hk : ∀ x ∈ n.l, con x = (conN x : Int) ∧ conN x ≤ x.size := fun x hx => ih x hx (by have := sum_mem (f := Nt.size) hx; omega)
  rw [con_eq, conN_eq, conK, conNK]
  split
  · exact ⟨rfl, by rw [Nt.size_eq]; omega⟩
  · have := con_fold n.l 0 hk (by omega)
    rw [Nat.zero_add] at this
    refine ⟨by simpa using this, ?_⟩
    have := sum_le (l := n.l) (f := conN) (g := Nt.size) fun x hx => (hk x hx).2
    rw [Nt.size_eq]
    omega
theorem leaf_op {s : Sc} {e : Ex} (h : nleaf s e = true) : e.op ≠ 6 ∧ e.op ≠ 7 := by
  simp [nleaf] at h
  omega
theorem one1_ff {e : Ex} (h : e.op ≠ 6) : one1 e = false := by simp [one1, h]
theorem two1_ff {e : Ex} {ops : List Int} (h : e.op ≠ 7) : two1 e ops = false := by simp [two1, h]
theorem cnt_leaf {s : Sc} {e : Ex} (h : nleaf s e = true) : cnt s e = 1 := by
  have ho := leaf_op h
  rw [cnt_eq, cntK, one1_ff ho.1, two1_ff ho.2, two1_ff ho.2, h]
  rfl
theorem one1_not {e : Ex} : one1 (notE e) = true := rfl
theorem cnt_not {s : Sc} {e : Ex} (h : nleaf s e = true) : cnt s (notE e) = 1 := by
  rw [cnt_eq, cntK, one1_not, if_pos rfl]
  show [cnt s e].getD 0 0 = 1
  exact cnt_leaf h
theorem nm_leaf {s : Sc} {e : Ex} (h : nleaf s e = true) : nm1 e false = e := by
  have ho := leaf_op h
  rw [nm1_eq, nmK, one1_ff ho.1, two1_ff ho.2, two1_ff ho.2]
  simp
theorem nm_leafT {s : Sc} {e : Ex} (h : nleaf s e = true) (h1 : e.op ≠ 1) : nm1 e true = notE e := by
  have ho := leaf_op h
  rw [nm1_eq, nmK, one1_ff ho.1, two1_ff ho.2, two1_ff ho.2]
  simp [h1, notE]
theorem nm_not {s : Sc} {e : Ex} (h : nleaf s e = true) (h1 : e.op ≠ 1) : nm1 (notE e) false = notE e := by
  rw [nm1_eq, nmK, one1_not]
  show nm1 e (!false) = notE e
  exact nm_leafT h h1
theorem one1_bin {op : Int} {a b : Ex} : one1 (binE op a b) = false := rfl
theorem two1_bin {op : Int} {a b : Ex} (h : op = 14 ∨ op = 15) : two1 (binE op a b) [14, 15] = true := by rcases h with rfl | rfl <;> rfl
theorem cnt_bin {s : Sc} {op : Int} {a b : Ex} (h : op = 14 ∨ op = 15) : cnt s (binE op a b) = min 25 (cnt s a + cnt s b) := by
  rw [cnt_eq, cntK, one1_bin, two1_bin h]
  rfl
theorem nm_bin {op : Int} {a b : Ex} (h : op = 14 ∨ op = 15) : nm1 (binE op a b) false = binE op (nm1 a false) (nm1 b false) := by
  rw [nm1_eq, nmK, one1_bin, two1_bin h]
  rfl
theorem of_binE {op : Int} {a b : Ex} : ofN (binE op a b) = joinN (if op = 14 then 2 else 3) [ofN a, ofN b] := ofN_bin rfl rfl rfl
theorem nn_binE {op : Int} {a b : Ex} (ha : Nn a) (hb : Nn b) : Nn (binE op a b) := .bin _ a b rfl rfl rfl ha hb
theorem nlit_binE {op : Int} {a b : Ex} : nlit (binE op a b) = nlit a + nlit b := nlit_bin rfl rfl rfl
/-- What holds of a network whose expression leads back to it. -/
structure Back (s : Sc) (e : Ex) (c : Nat) (n : Nt) : Prop where
  cnt : cnt s e = (c : Int)
  pos : 1 ≤ c
  of : ofN (nm1 e false) = n
  nn : Nn (nm1 e false)
  lit : nlit (nm1 e false) = c
theorem back_bin {s : Sc} {op k : Int} (hk : (op = 14 ∧ k = 2) ∨ (op = 15 ∧ k = 3)) {a b : Ex} {c d : Nat} {A z : Nt} (ha : Back s a c A) (hb : Back s b d z) (hc : c + d ≤ 24) : Back s (binE op a b) (c + d) (joinN k [A, z]) := by
  have ho : op = 14 ∨ op = 15 := by omega
  refine ⟨?_, by have := ha.pos; omega, ?_, ?_, ?_⟩
  · rw [cnt_bin ho, ha.cnt, hb.cnt]; omega
  · rw [nm_bin ho, of_binE, ha.of, hb.of]
    rcases hk with ⟨rfl, rfl⟩ | ⟨rfl, rfl⟩ <;> rfl
  · rw [nm_bin ho]; exact nn_binE ha.nn hb.nn
  · rw [nm_bin ho, nlit_binE, ha.lit, hb.lit]
theorem part_ne {k : Int} {z : Nt} (h : z.kind ≠ k) : partN k z = [z] := by rw [partN, if_neg h]
theorem fold_back {s : Sc} {op k : Int} (hk : (op = 14 ∧ k = 2) ∨ (op = 15 ∧ k = 3)) : ∀ (tl : List Nt) (a : Ex) (c : Nat) (L : List Nt), (∀ z ∈ tl, z.kind ≠ k ∧ Back s (expN z) (conN z) z) → Back s a c (.mk k 0 ex0 L) → c + (tl.map conN).sum ≤ 24 →
    Back s ((tl.map expN).foldl (fun a b => binE op a b) a) (c + (tl.map conN).sum) (.mk k 0 ex0 (L ++ tl))
  | [], a, c, L, _, ha, _ => by simpa using ha
  | z :: tl, a, c, L, h, ha, hc => by
    obtain ⟨h1, h2⟩ := h z (by simp)
    simp only [List.map_cons, List.sum_cons] at hc
    have hb := back_bin hk ha h2 (by omega)
    have hj : joinN k [.mk k 0 ex0 L, z] = .mk k 0 ex0 (L ++ [z]) := by
      simp only [joinN, List.flatMap_cons, List.flatMap_nil, List.append_nil, part_ne h1]
      rw [show partN k (.mk k 0 ex0 L) = L by rw [partN, if_pos (show (Nt.mk k 0 ex0 L).kind = k from rfl)]; rfl]
    rw [hj] at hb
    have := fold_back hk tl (binE op a (expN z)) (c + conN z) (L ++ [z]) (fun y hy => h y (by simp [hy])) hb (by omega)
    simp only [List.map_cons, List.foldl_cons, List.sum_cons]
    rw [List.append_assoc] at this
    rw [show c + (conN z + (tl.map conN).sum) = c + conN z + (tl.map conN).sum by omega]
    exact this
theorem right_con {s : Sc} {n : Nt} (h : rightN s n = true) (hk : n.kind = 1) : n.l = [] ∧ nleaf s n.e = true ∧ (n.neg = 0 ∨ (n.neg = 1 ∧ n.e.op ≠ 1)) := by
  rw [rightN_eq, rightK, if_pos hk] at h
  simp at h
  exact ⟨h.1.1, h.1.2, h.2⟩
theorem right_ser {s : Sc} {n : Nt} (h : rightN s n = true) (hk : n.kind ≠ 1) : (n.kind = 2 ∨ n.kind = 3) ∧ n.neg = 0 ∧ n.e = ex0 ∧ (∃ x y tl, n.l = x :: y :: tl) ∧ ∀ z ∈ n.l, z.kind ≠ n.kind ∧ rightN s z = true := by
  rw [rightN_eq, rightK, if_neg hk] at h
  split at h
  · cases h
  · rename_i hg
    simp only [not_or, not_and, Decidable.not_not] at hg
    obtain ⟨h1, h2, h3, h4⟩ := hg
    simp only [Bool.and_eq_true, List.all_eq_true] at h
    refine ⟨?_, h2, same1_iff.1 (by simpa using h3), ?_, fun z hz => ⟨by simpa using h.1 z hz, h.2 _ (List.mem_map.2 ⟨z, hz, rfl⟩)⟩⟩
    · by_cases hk2 : n.kind = 2
      · exact .inl hk2
      · exact .inr (by simpa using h1 hk2)
    · match hl : n.l with
      | [] => rw [hl] at h4; simp at h4
      | [x] => rw [hl] at h4; simp at h4
      | x :: y :: tl => exact ⟨x, y, tl, rfl⟩
theorem back (s : Sc) : ∀ n : Nt, rightN s n = true → conN n ≤ 24 → Back s (expN n) (conN n) n := by
  intro n
  induction n using Nt.ind with
  | _ n ih =>
  intro hr hc
  by_cases hk : n.kind = 1
  · obtain ⟨hl, hlf, hn⟩ := right_con hr hk
    have ho := leaf_op hlf
    rw [expN_con hk, conN_eq, conNK, if_pos hk]
    rcases hn with h0 | ⟨h1, h2⟩
    · rw [if_neg (by omega)]
      have e : Nt.mk 1 0 n.e [] = n := Nt.ext hk.symm h0.symm rfl hl.symm
      refine ⟨cnt_leaf hlf, by omega, ?_, ?_, ?_⟩
      · rw [nm_leaf hlf, ofN_leaf ho.1 ho.2, e]
      · rw [nm_leaf hlf]; exact .leaf _ ho.1 ho.2
      · rw [nm_leaf hlf, nlit_one ho.2]
    · rw [if_pos h1]
      have e : Nt.mk 1 1 n.e [] = n := Nt.ext hk.symm h1.symm rfl hl.symm
      refine ⟨cnt_not hlf, by omega, ?_, ?_, ?_⟩
      · rw [nm_not hlf h2, ofN_un (x := n.e) rfl rfl, e]
      · rw [nm_not hlf h2]; exact .un _ n.e rfl rfl
      · rw [nm_not hlf h2, nlit_one (e := notE n.e) (show (6 : Int) ≠ 7 by decide)]
  · obtain ⟨hk2, hn0, he0, ⟨x, y, tl, hl⟩, hall⟩ := right_ser hr hk
    have hcn : conN n = conN x + conN y + (tl.map conN).sum := by
      rw [conN_eq, conNK, if_neg hk, hl]
      simp only [List.map_cons, List.sum_cons]
      omega
    have hmem : ∀ z ∈ n.l, conN z ≤ 24 := fun z hz => by
      have h1 := sum_mem (f := conN) hz
      have h2 : conN n = (n.l.map conN).sum := by rw [conN_eq, conNK, if_neg hk]
      omega
    have hb : ∀ z ∈ n.l, z.kind ≠ n.kind ∧ Back s (expN z) (conN z) z := fun z hz => ⟨(hall z hz).1, ih z hz (hall z hz).2 (hmem z hz)⟩
    have hop : (n.kind + 12 = 14 ∧ n.kind = 2) ∨ (n.kind + 12 = 15 ∧ n.kind = 3) := by omega
    obtain ⟨hx1, hx2⟩ := hb x (by rw [hl]; simp)
    obtain ⟨hy1, hy2⟩ := hb y (by rw [hl]; simp)
    have h2 := back_bin hop hx2 hy2 (by omega)
    have hj : joinN n.kind [x, y] = .mk n.kind 0 ex0 [x, y] := by
      simp only [joinN, List.flatMap_cons, List.flatMap_nil, List.append_nil, part_ne hx1, part_ne hy1]
      rfl
    rw [hj] at h2
    have h3 := fold_back hop tl _ _ [x, y] (fun z hz => hb z (by rw [hl]; simp [hz])) h2 (by omega)
    rw [expN_ser hk2 hl, hcn]
    have e : Nt.mk n.kind 0 ex0 ([x, y] ++ tl) = n := Nt.ext rfl hn0.symm he0.symm (by rw [hl]; rfl)
    rw [e] at h3
    exact h3
theorem wf_right (s : Sc) : ∀ n : Nt, rightN s n = true → Wf n := by
  intro n
  induction n using Nt.ind with
  | _ n ih =>
  intro hr
  by_cases hk : n.kind = 1
  · obtain ⟨hl, _, hn⟩ := right_con hr hk
    exact .con n hk hl (by omega)
  · obtain ⟨hk2, _, _, ⟨x, y, tl, hl⟩, hall⟩ := right_ser hr hk
    exact .ser n x (y :: tl) hk2 hl fun z hz => ih z hz (hall z hz).2
theorem in64_of {n : Int} (h : -100 ≤ n ∧ n ≤ 100) : In64 n := by unfold In64; omega
theorem notE_fit {e : Ex} (h : e.Fit) : (notE e).Fit := .mk _ (show 1 < 9223372036854775808 by decide) (in64_of (show -100 ≤ (6 : Int) ∧ (6 : Int) ≤ 100 by decide)) (in64_of (show -100 ≤ (0 : Int) ∧ (0 : Int) ≤ 100 by decide)) (in64_of (show -100 ≤ (0 : Int) ∧ (0 : Int) ≤ 100 by decide)) (in64_of (show -100 ≤ (17 : Int) ∧ (17 : Int) ≤ 100 by decide)) (by
  intro x hx
  have hx : x ∈ [e] := hx
  rw [List.mem_singleton.1 hx]
  exact h)
theorem binE_fit {op : Int} {a b : Ex} (ho : -100 ≤ op ∧ op ≤ 100) (ha : a.Fit) (hb : b.Fit) : (binE op a b).Fit := .mk _ (show 2 < 9223372036854775808 by decide) (in64_of (show -100 ≤ (7 : Int) ∧ (7 : Int) ≤ 100 by decide)) (in64_of (show -100 ≤ (0 : Int) ∧ (0 : Int) ≤ 100 by decide)) (in64_of (show -100 ≤ (0 : Int) ∧ (0 : Int) ≤ 100 by decide)) (in64_of ho) (by
  intro x hx
  have hx : x ∈ [a, b] := hx
  simp at hx
  rcases hx with rfl | rfl
  · exact ha
  · exact hb)
theorem notE_small {e : Ex} (h : e.Small) : (notE e).Small := .mk _ (show 1 ≤ 100 by decide) (by
  intro x hx
  have hx : x ∈ [e] := hx
  rw [List.mem_singleton.1 hx]
  exact h)
theorem binE_small {op : Int} {a b : Ex} (ha : a.Small) (hb : b.Small) : (binE op a b).Small := .mk _ (show 2 ≤ 100 by decide) (by
  intro x hx
  have hx : x ∈ [a, b] := hx
  simp at hx
  rcases hx with rfl | rfl
  · exact ha
  · exact hb)
theorem fold_both {M : Ex → Prop} {op : Int} (hb : ∀ a b, M a → M b → M (binE op a b)) : ∀ (l : List Ex) (a : Ex), M a → (∀ x ∈ l, M x) → M (l.foldl (fun a b => binE op a b) a)
  | [], a, ha, _ => ha
  | x :: l, a, ha, h => fold_both hb l _ (hb _ _ ha (h x (by simp))) fun y hy => h y (by simp [hy])
theorem exp_fit : ∀ n : Nt, n.Fit → Wf n → (expN n).Fit := by
  intro n
  induction n using Nt.ind with
  | _ n ih =>
  intro hf hw
  cases hw with
  | con _ h1 hl hn =>
    rw [expN_con h1]
    split
    · exact notE_fit hf.ex
    · exact hf.ex
  | ser _ x tl hk hl hsub =>
    rw [expN_ser hk hl]
    have hz : ∀ z ∈ n.l, (expN z).Fit := fun z hz => ih z hz (hf.sub z hz) (hsub z hz)
    refine fold_both (fun a b => binE_fit (by omega)) _ _ (hz x (by rw [hl]; simp)) fun y hy => ?_
    obtain ⟨z, hz', rfl⟩ := List.mem_map.1 hy
    exact hz z (by rw [hl]; simp [hz'])
theorem exp_small : ∀ n : Nt, n.Small → Wf n → (expN n).Small := by
  intro n
  induction n using Nt.ind with
  | _ n ih =>
  intro hf hw
  cases hw with
  | con _ h1 hl hn =>
    rw [expN_con h1]
    split
    · exact notE_small hf.ex
    · exact hf.ex
  | ser _ x tl hk hl hsub =>
    rw [expN_ser hk hl]
    have hz : ∀ z ∈ n.l, (expN z).Small := fun z hz => ih z hz (hf.sub z hz) (hsub z hz)
    refine fold_both (fun a b => binE_small) _ _ (hz x (by rw [hl]; simp)) fun y hy => ?_
    obtain ⟨z, hz', rfl⟩ := List.mem_map.1 hy
    exact hz z (by rw [hl]; simp [hz'])
end Go.Abs

