/- What is read of the program's cases, expressions and networks, and of the laid tables; what a contract says of a call. Conditions: none. -/
import Derived.Test.YtnjaedaofjkbnaaDoorRead1
import Derived.Test.YtnjaedaofjkbnaaDoorData4
import Derived.Test.YtnjaedaofjkbnaaDoorPrim
import Derived.Below
import Derived.OpenShut
set_option maxRecDepth 100000
set_option linter.unusedVariables false
set_option linter.unusedSimpArgs false
namespace Go.Abs
open Go Go.RowKit
section
variable {H : Type} {enc : TypeId × Value → H} {w : World}
theorem rd_sl {α : Type} {c : α → List AV} {G : α → Prop} {n : Nat} {t e : TypeId} {sz : Nat} (ht : P.underlying t = some (.slice e)) (hs : P.cellsOf e = sz) (hc : ∀ a, (c a).length = sz) (h1 : ∀ a, ∀ x ∈ c a, x.one = true)
    (hR : ∀ m, m < n → Rd enc P w m e (fun xs => ∃ a, xs = c a ∧ G a)) : Rd enc P w n t (fun xs => ∃ l : List α, xs = [.ro l.length (recs c l)] ∧ Short l ∧ ∀ a ∈ l, G a) := by
  cases n with
  | zero => exact rd_zero
  | succ n => exact (rd_slice ht hs hc h1 (hR n (by omega))).mono fun xs ⟨l, h, h2, h3⟩ => ⟨l, h, by unfold Short; unfold maxLen at h2; omega, h3⟩
theorem rd_st {n : Nat} {t : TypeId} {fs : Array Field} {ds : List Fd} (ht : P.underlying t = some (.struct fs)) (hf : FieldsAt P 0 fs.toList ds) (hs : P.cellsOf t = total ds) (hd : ∀ m, m < n → ∀ d ∈ ds, Rd enc P w m d.t d.Q) : Rd enc P w n t (AllQ ds) := by
  cases n with
  | zero => exact rd_zero
  | succ n => exact rd_struct ht hf hs (hd n (by omega))
theorem cells3 : P.cellsOf 3 = 1 := by kernel_rfl
theorem cells9 : P.cellsOf 9 = 1 := by kernel_rfl
theorem cells22 : P.cellsOf 22 = 1 := by kernel_rfl
theorem cells23 : P.cellsOf 23 = 1 := by kernel_rfl
theorem cells24 : P.cellsOf 24 = 1 := by kernel_rfl
theorem cells25 : P.cellsOf 25 = 1 := by kernel_rfl
theorem cells27 : P.cellsOf 27 = 4 := by kernel_rfl
theorem cells28 : P.cellsOf 28 = 1 := by kernel_rfl
theorem cells29 : P.cellsOf 29 = 1 := by kernel_rfl
theorem cells31 : P.cellsOf 31 = 4 := by kernel_rfl
theorem cells32 : P.cellsOf 32 = 1 := by kernel_rfl
theorem cells34 : P.cellsOf 34 = 10 := by kernel_rfl
theorem cells35 : P.cellsOf 35 = 1 := by kernel_rfl
theorem cells37 : P.cellsOf 37 = 5 := by kernel_rfl
theorem cells52 : P.cellsOf 52 = 1 := by kernel_rfl
theorem cells54 : P.cellsOf 54 = 8 := by kernel_rfl
theorem cells70 : P.cellsOf 70 = 1 := by kernel_rfl
theorem cells72 : P.cellsOf 72 = 5 := by kernel_rfl
theorem cells76 : P.cellsOf 76 = 3 := by kernel_rfl
theorem cells83 : P.cellsOf 83 = 5 := by kernel_rfl
theorem cells99 : P.cellsOf 99 = 2 := by kernel_rfl
theorem cells133 : P.cellsOf 133 = 2 := by kernel_rfl
theorem cells191 : P.cellsOf 191 = 10 := by kernel_rfl
def intF : Fd := ⟨3, 1, fun xs => ∃ v : Int, xs = [I v] ∧ In64 v⟩
def strF : Fd := ⟨9, 1, fun xs => ∃ v : ByteArray, xs = [.lit (.string v)] ∧ v.size ≤ maxLen⟩
def intsF : Fd := ⟨32, 1, fun xs => ∃ l : List Int, xs = [.ro l.length (recs intC l)] ∧ Short l ∧ ∀ a ∈ l, In64 a⟩
theorem wf_in64 {v : Int} (h : (Lit.int .i64 v).wf = true) : In64 v := by have := bounds_i64 h; unfold In64; omega
theorem rd_i {n : Nat} : Rd enc P w n 3 intF.Q := (rd_int Go.Proofs.Tryd.underlying3).mono fun xs ⟨v, h1, h2⟩ => ⟨v, h1, wf_in64 h2⟩
theorem rd_s {n : Nat} : Rd enc P w n 9 strF.Q := rd_string Go.Proofs.Tryd.underlying9
theorem rd_is {n : Nat} : Rd enc P w n 32 intsF.Q := rd_sl Go.Proofs.Tryd.underlying32 cells3 (fun _ => rfl) (fun a x hx => by simp [intC] at hx; subst hx; rfl) fun m _ => rd_i.mono fun xs ⟨v, h, h2⟩ => ⟨v, h, h2⟩
theorem one_lit {x : AV} {v : Int} (h : x = I v) : x.one = true := by subst h; rfl
theorem rd_cn {n : Nat} : Rd enc P w n 133 (fun xs => ∃ a : Cn, xs = a.cs ∧ True) :=
  (rd_st Go.Proofs.Tryd.underlying133 (ds := [intF, intF]) ⟨rfl, rfl, cells3, rfl, rfl, cells3, trivial⟩ cells133 fun m _ => by simp only [List.forall_mem_cons, List.not_mem_nil, false_implies, implies_true, and_true]; exact ⟨rd_i, rd_i⟩).mono fun xs h => by
    obtain ⟨_, _, rfl, ⟨t, rfl, _⟩, _, _, rfl, ⟨v, rfl, _⟩, rfl⟩ := h
    exact ⟨⟨t, v⟩, rfl, trivial⟩
def I3.In (i : I3) : Prop := In64 i.op ∧ In64 i.a ∧ In64 i.b
theorem rd_i3 {n : Nat} : Rd enc P w n 76 (fun xs => ∃ a : I3, xs = a.cs ∧ a.In) :=
  (rd_st Go.Proofs.Tryd.underlying76 (ds := [intF, intF, intF]) ⟨rfl, rfl, cells3, rfl, rfl, cells3, rfl, rfl, cells3, trivial⟩ cells76 fun m _ => by simp only [List.forall_mem_cons, List.not_mem_nil, false_implies, implies_true, and_true]; exact ⟨rd_i, rd_i, rd_i⟩).mono fun xs h => by
    obtain ⟨_, _, rfl, ⟨t, rfl, h1⟩, _, _, rfl, ⟨v, rfl, h2⟩, _, _, rfl, ⟨u, rfl, h3⟩, rfl⟩ := h
    exact ⟨⟨t, v, u⟩, rfl, h1, h2, h3⟩
theorem rd_vr {n : Nat} : Rd enc P w n 83 (fun xs => ∃ a : Vr, xs = a.cs ∧ True) :=
  (rd_st Go.Proofs.Tryd.underlying83 (ds := [strF, intF, intF, intF, intF]) ⟨rfl, rfl, cells9, rfl, rfl, cells3, rfl, rfl, cells3, rfl, rfl, cells3, rfl, rfl, cells3, trivial⟩ cells83 fun m _ => by simp only [List.forall_mem_cons, List.not_mem_nil, false_implies, implies_true, and_true]; exact ⟨rd_s, rd_i, rd_i, rd_i, rd_i⟩).mono fun xs h => by
    obtain ⟨_, _, rfl, ⟨s, rfl, _⟩, _, _, rfl, ⟨t, rfl, _⟩, _, _, rfl, ⟨v, rfl, _⟩, _, _, rfl, ⟨u, rfl, _⟩, _, _, rfl, ⟨i, rfl, _⟩, rfl⟩ := h
    exact ⟨⟨s, t, v, u, i⟩, rfl, trivial⟩
theorem rd_bk {n : Nat} : Rd enc P w n 99 (fun xs => ∃ a : Bk, xs = a.cs ∧ True) :=
  (rd_st Go.Proofs.Tryd.underlying99 (ds := [strF, intF]) ⟨rfl, rfl, cells9, rfl, rfl, cells3, trivial⟩ cells99 fun m _ => by simp only [List.forall_mem_cons, List.not_mem_nil, false_implies, implies_true, and_true]; exact ⟨rd_s, rd_i⟩).mono fun xs h => by
    obtain ⟨_, _, rfl, ⟨s, rfl, _⟩, _, _, rfl, ⟨t, rfl, _⟩, rfl⟩ := h
    exact ⟨⟨s, t⟩, rfl, trivial⟩
def listF {α : Type} (t : TypeId) (c : α → List AV) : Fd := ⟨t, 1, fun xs => ∃ l : List α, xs = [.ro l.length (recs c l)] ∧ Short l⟩
def listG {α : Type} (t : TypeId) (c : α → List AV) (G : α → Prop) : Fd := ⟨t, 1, fun xs => ∃ l : List α, xs = [.ro l.length (recs c l)] ∧ Short l ∧ ∀ a ∈ l, G a⟩
theorem rd_un {n : Nat} : Rd enc P w n 72 (fun xs => ∃ a : Un, xs = a.cs ∧ ∀ i ∈ a.code, I3.In i) :=
  (rd_st Go.Proofs.Tryd.underlying72 (ds := [strF, intsF, intF, intsF, listG 70 I3.cs I3.In]) ⟨rfl, rfl, cells9, rfl, rfl, cells32, rfl, rfl, cells3, rfl, rfl, cells32, rfl, rfl, cells70, trivial⟩ cells72 fun m _ => by
    simp only [List.forall_mem_cons, List.not_mem_nil, false_implies, implies_true, and_true]
    exact ⟨rd_s, rd_is, rd_i, rd_is, (rd_sl Go.Proofs.Tryd.underlying70 cells76 (fun _ => rfl) (fun a x hx => by simp [I3.cs] at hx; rcases hx with rfl | rfl | rfl <;> rfl) fun m _ => rd_i3)⟩).mono fun xs h => by
    obtain ⟨_, _, rfl, ⟨s, rfl, _⟩, _, _, rfl, ⟨p, rfl, _⟩, _, _, rfl, ⟨r, rfl, _⟩, _, _, rfl, ⟨l, rfl, _⟩, _, _, rfl, ⟨c, rfl, _, hc⟩, rfl⟩ := h
    exact ⟨⟨s, p, r, l, c⟩, rfl, hc⟩
theorem parts_read {n : Nat} {cs : List Value} {t : TypeId} (hs : P.cellsOf t = 1) {α : Type} {c : α → List AV} (hR : Rd enc P w n t (fun xs => ∃ a, xs = c a ∧ True)) :
    ∀ (k off : Nat), cs.length = off + k → (∀ i, i < k → ∃ x, DataW.trod enc P w 0 (fun _ => true) true n t ((cs.drop (off + i)).take 1) = some x) → ∃ l : List α, l.length = k ∧ VL (stIn w) (recs c l) (cs.drop off)
  | 0, off, hl, _ => ⟨[], rfl, VL_nil.2 (List.drop_eq_nil_of_le (by omega))⟩
  | k + 1, off, hl, hx => by
    obtain ⟨x, hx0⟩ := hx 0 (by omega)
    obtain ⟨_, h1, a, rfl, _⟩ := hR _ _ hx0
    obtain ⟨l, hl', h2⟩ := parts_read (cs := cs) hs hR k (off + 1) (by omega) (fun i hi => by have := hx (i + 1) (by omega); rwa [show off + (i + 1) = off + 1 + i by omega] at this)
    refine ⟨a :: l, by simp [hl'], ?_⟩
    have := h1.append h2
    rw [Nat.add_zero] at this
    rw [recs_cons]
    rwa [← List.drop_drop, List.take_append_drop] at this
theorem rd_arr {n : Nat} : Rd enc P w n 189 (fun xs => ∃ l : List Int, xs = recs intC l ∧ l.length = 10) := fun cs x h => by
  obtain ⟨xs, m, rfl, _, hl, hn, hx⟩ := DataW.trod_array Go.Proofs.Tryd.underlying189 h
  rw [cells3] at hx
  rw [show P.cellsOf 189 = 10 by kernel_rfl] at hl
  obtain ⟨l, h1, h2⟩ := parts_read (enc := enc) (w := w) (n := m) (cs := cs) cells3 (c := intC) (rd_i.mono fun xs ⟨v, h, _⟩ => ⟨v, h, trivial⟩) 10 0 (by omega) (fun i hi => by
    have := hx i hi
    rw [Nat.mul_one] at this
    rw [Nat.zero_add, this, List.getElem?_eq_getElem (by omega)]
    exact ⟨_, rfl⟩)
  exact ⟨_, h2, l, rfl, h1⟩
theorem rd_ins {n : Nat} : Rd enc P w n 191 (fun xs => ∃ a : Ins, xs = a.cs ∧ True) :=
  (rd_st Go.Proofs.Tryd.underlying191 (ds := [⟨189, 10, fun xs => ∃ l : List Int, xs = recs intC l ∧ l.length = 10⟩]) ⟨rfl, rfl, by kernel_rfl, trivial⟩ cells191 fun m _ => by
    simp only [List.forall_mem_cons, List.not_mem_nil, false_implies, implies_true, and_true]
    exact rd_arr).mono fun xs h => by
    obtain ⟨_, _, rfl, ⟨l, rfl, hl⟩, rfl⟩ := h
    exact ⟨⟨l, hl⟩, by simp [Ins.cs], trivial⟩
theorem rd_pr {n : Nat} : Rd enc P w n 27 (fun xs => ∃ p : Pr, xs = p.cs ∧ Short p.consts ∧ Short p.vars ∧ Short p.blocks ∧ Short p.units ∧ ∀ u ∈ p.units, ∀ i ∈ u.code, I3.In i) :=
  (rd_st Go.Proofs.Tryd.underlying27 (ds := [listF 22 Cn.cs, listF 23 Vr.cs, listF 24 Bk.cs, listG 25 Un.cs (fun u => ∀ i ∈ u.code, I3.In i)]) ⟨rfl, rfl, cells22, rfl, rfl, cells23, rfl, rfl, cells24, rfl, rfl, cells25, trivial⟩ cells27 fun m _ => by
    simp only [List.forall_mem_cons, List.not_mem_nil, false_implies, implies_true, and_true]
    exact ⟨(rd_sl Go.Proofs.Tryd.underlying22 cells133 (fun _ => rfl) (fun a x hx => by simp [Cn.cs] at hx; rcases hx with rfl | rfl <;> rfl) fun m _ => rd_cn).mono fun xs ⟨l, h1, h2, _⟩ => ⟨l, h1, h2⟩,
      (rd_sl Go.Proofs.Tryd.underlying23 cells83 (fun _ => rfl) (fun a x hx => by simp [Vr.cs] at hx; rcases hx with rfl | rfl | rfl | rfl | rfl <;> rfl) fun m _ => rd_vr).mono fun xs ⟨l, h1, h2, _⟩ => ⟨l, h1, h2⟩,
      (rd_sl Go.Proofs.Tryd.underlying24 cells99 (fun _ => rfl) (fun a x hx => by simp [Bk.cs] at hx; rcases hx with rfl | rfl <;> rfl) fun m _ => rd_bk).mono fun xs ⟨l, h1, h2, _⟩ => ⟨l, h1, h2⟩,
      (rd_sl Go.Proofs.Tryd.underlying25 cells72 (fun _ => rfl) (fun a x hx => by simp [Un.cs] at hx; rcases hx with rfl | rfl | rfl | rfl | rfl <;> rfl) fun m _ => rd_un)⟩).mono fun xs h => by
    obtain ⟨_, _, rfl, ⟨a, rfl, h1⟩, _, _, rfl, ⟨b, rfl, h2⟩, _, _, rfl, ⟨c, rfl, h3⟩, _, _, rfl, ⟨d, rfl, h4, h5⟩, rfl⟩ := h
    exact ⟨⟨a, b, c, d⟩, rfl, h1, h2, h3, h4, h5⟩
theorem rd_sta {n : Nat} : Rd enc P w n 31 (fun xs => ∃ s : Sta, xs = s.cs ∧ Short s.vars ∧ (∀ l ∈ s.vars, Short l) ∧ Short s.blocks) :=
  (rd_st Go.Proofs.Tryd.underlying31 (ds := [⟨28, 1, fun xs => ∃ l : List (List Int), xs = [.ro l.length (recs rowC l)] ∧ Short l ∧ ∀ a ∈ l, Short a⟩, listF 29 Ins.cs, intF, intF]) ⟨rfl, rfl, cells28, rfl, rfl, cells29, rfl, rfl, cells3, rfl, rfl, cells3, trivial⟩ cells31 fun m _ => by
    simp only [List.forall_mem_cons, List.not_mem_nil, false_implies, implies_true, and_true]
    exact ⟨rd_sl Go.Proofs.Tryd.underlying28 cells32 (fun _ => rfl) (fun a x hx => by simp [rowC] at hx; subst hx; rfl) fun m _ => rd_is.mono fun xs ⟨l, h1, h2, _⟩ => ⟨l, h1, h2⟩,
      (rd_sl Go.Proofs.Tryd.underlying29 cells191 (fun a => by rw [Ins.cs, recs_length (w := 1) (fun _ => rfl), a.h]) (fun a x hx => by
        rw [Ins.cs] at hx
        obtain ⟨v, _, hv⟩ := List.mem_flatMap.1 hx
        simp [intC] at hv
        subst hv
        rfl) fun m _ => rd_ins).mono fun xs ⟨l, h1, h2, _⟩ => ⟨l, h1, h2⟩, rd_i, rd_i⟩).mono fun xs h => by
    obtain ⟨_, _, rfl, ⟨a, rfl, h1, h1'⟩, _, _, rfl, ⟨b, rfl, h2⟩, _, _, rfl, ⟨c, rfl, h3⟩, _, _, rfl, ⟨d, rfl, h4⟩, rfl⟩ := h
    exact ⟨⟨a, b, c, d⟩, rfl, h1, h1', h2⟩
theorem rd_cas {n : Nat} : Rd enc P w n 34 (fun xs => ∃ c : Cas, xs = c.cs ∧ c.Fit) :=
  (rd_st Go.Proofs.Tryd.underlying34 (ds := [⟨27, 4, _⟩, intF, ⟨31, 4, _⟩, intsF]) ⟨rfl, rfl, cells27, rfl, rfl, cells3, rfl, rfl, cells31, rfl, rfl, cells32, trivial⟩ cells34 fun m _ => by
    simp only [List.forall_mem_cons, List.not_mem_nil, false_implies, implies_true, and_true]
    exact ⟨rd_pr, rd_i, rd_sta, rd_is⟩).mono fun xs h => by
    obtain ⟨_, _, rfl, ⟨p, rfl, h1, h2, h3, h4, _⟩, _, _, rfl, ⟨u, rfl, _⟩, _, _, rfl, ⟨s, rfl, h5, h6, h7⟩, _, _, rfl, ⟨l, rfl, h8, _⟩, rfl⟩ := h
    exact ⟨⟨p, u, s, l⟩, rfl, h1, h2, h3, h4, h5, h6, h7, h8⟩
theorem ex_one (a : Ex) : ∀ x ∈ a.cs, x.one = true := fun x hx => by
  rw [Ex.cs_eq] at hx
  simp at hx
  rcases hx with rfl | rfl | rfl | rfl | rfl <;> rfl
theorem nt_one (a : Nt) : ∀ x ∈ a.cs, x.one = true := fun x hx => by
  rw [Nt.cs_eq] at hx
  simp at hx
  rcases hx with rfl | rfl | rfl | rfl | rfl | rfl | rfl | rfl <;> rfl
theorem rd_ex : ∀ n : Nat, Rd enc P w n 37 (fun xs => ∃ e : Ex, xs = e.cs ∧ e.Fit) := by
  intro n
  induction n using Nat.strongRecOn with
  | _ n ih =>
  refine (rd_st Go.Proofs.Tryd.underlying37 (ds := [intF, intF, intF, intF, ⟨35, 1, fun xs => ∃ l : List Ex, xs = [.ro l.length (recs Ex.cs l)] ∧ Short l ∧ ∀ a ∈ l, a.Fit⟩]) ⟨rfl, rfl, cells3, rfl, rfl, cells3, rfl, rfl, cells3, rfl, rfl, cells3, rfl, rfl, cells35, trivial⟩ cells37 fun m hm => ?_).mono fun xs h => ?_
  · simp only [List.forall_mem_cons, List.not_mem_nil, false_implies, implies_true, and_true]
    exact ⟨rd_i, rd_i, rd_i, rd_i, rd_sl Go.Proofs.Tryd.underlying35 cells37 Ex.cs_len ex_one fun k hk => ih k (by omega)⟩
  · obtain ⟨_, _, rfl, ⟨a, rfl, h1⟩, _, _, rfl, ⟨b, rfl, h2⟩, _, _, rfl, ⟨c, rfl, h3⟩, _, _, rfl, ⟨d, rfl, h4⟩, _, _, rfl, ⟨l, rfl, h5, h6⟩, rfl⟩ := h
    exact ⟨.mk a b c d l, by rw [Ex.cs_eq]; rfl, .mk _ h5 h1 h2 h3 h4 h6⟩
theorem rd_nt : ∀ n : Nat, Rd enc P w n 54 (fun xs => ∃ e : Nt, xs = e.cs ∧ e.Fit) := by
  intro n
  induction n using Nat.strongRecOn with
  | _ n ih =>
  refine (rd_st Go.Proofs.Tryd.underlying54 (ds := [intF, intF, ⟨37, 5, fun xs => ∃ e : Ex, xs = e.cs ∧ e.Fit⟩, ⟨52, 1, fun xs => ∃ l : List Nt, xs = [.ro l.length (recs Nt.cs l)] ∧ Short l ∧ ∀ a ∈ l, a.Fit⟩]) ⟨rfl, rfl, cells3, rfl, rfl, cells3, rfl, rfl, cells37, rfl, rfl, cells52, trivial⟩ cells54 fun m hm => ?_).mono fun xs h => ?_
  · simp only [List.forall_mem_cons, List.not_mem_nil, false_implies, implies_true, and_true]
    exact ⟨rd_i, rd_i, rd_ex m, rd_sl Go.Proofs.Tryd.underlying52 cells54 Nt.cs_len nt_one fun k hk => ih k (by omega)⟩
  · obtain ⟨_, _, rfl, ⟨a, rfl, h1⟩, _, _, rfl, ⟨b, rfl, h2⟩, _, _, rfl, ⟨e, rfl, h3⟩, _, _, rfl, ⟨l, rfl, h5, h6⟩, rfl⟩ := h
    exact ⟨.mk a b e l, by rw [Nt.cs_eq, Ex.cs_eq]; rfl, .mk _ h5 h1 h2 h3 h6⟩
/-- A value of many cells, and of ones that memory holds, is theirs. -/
theorem agg_of {s : St} {v : Value} {xs : List AV} (h : VL s xs v.cells.toList) (hl : xs.length ≠ 1) (h1 : ∀ x ∈ xs, x.one = true) : V s (.agg xs) v := by
  have hlen := h.length
  have hv : ∃ us, v = .agg us := by
    cases v with
    | agg us => exact ⟨us, rfl⟩
    | _ => simp [Value.cells] at hlen; exact absurd hlen.symm hl
  obtain ⟨us, rfl⟩ := hv
  simp only [V]
  refine ⟨us.toList, by simp, h, fun u hu => ?_⟩
  obtain ⟨j, hj⟩ := List.getElem?_of_mem hu
  obtain ⟨x, hx, hxv⟩ := VL.getR h j u hj
  exact one_V hxv (h1 x (List.mem_of_getElem? hx))
theorem cas_one (c : Cas) : ∀ x ∈ c.cs, x.one = true := fun x hx => by
  simp at hx
  rcases hx with rfl | rfl | rfl | rfl | rfl | rfl | rfl | rfl | rfl | rfl <;> rfl
theorem read_cas {v : Value} {d : DataW H} {p : List MemPlace} (h : DataW.Trod enc P w 0 (fun _ => true) true 34 v d p) : ∃ c : Cas, V (stIn w) (casA c) v ∧ c.Fit := by
  obtain ⟨n, hn⟩ := h
  obtain ⟨xs, h1, c, rfl, hc⟩ := rd_cas _ _ hn
  exact ⟨c, agg_of h1 (by simp) (cas_one c), hc⟩
theorem pr_one (p : Pr) : ∀ x ∈ p.cs, x.one = true := fun x hx => by
  simp at hx
  rcases hx with rfl | rfl | rfl | rfl <;> rfl
theorem read_pr {v : Value} {d : DataW H} {p : List MemPlace} (h : DataW.Trod enc P w 0 (fun _ => true) true 27 v d p) : ∃ c : Pr, V (stIn w) (prA c) v ∧ ∀ u ∈ c.units, ∀ i ∈ u.code, I3.In i := by
  obtain ⟨n, hn⟩ := h
  obtain ⟨xs, h1, c, rfl, _, _, _, _, hc⟩ := rd_pr _ _ hn
  exact ⟨c, agg_of h1 (by simp) (pr_one c), hc⟩
theorem read_nt {v : Value} {d : DataW H} {p : List MemPlace} (h : DataW.Trod enc P w 0 (fun _ => true) true 54 v d p) : ∃ e : Nt, V (stIn w) (ntA e) v ∧ e.Fit := by
  obtain ⟨n, hn⟩ := h
  obtain ⟨xs, h1, e, rfl, he⟩ := rd_nt _ _ _ hn
  refine ⟨e, ?_, he⟩
  have := agg_of h1 (by rw [Nt.cs_len]; omega) (nt_one e)
  rwa [Nt.cs_eq] at this
theorem read_ex {v : Value} {d : DataW H} {p : List MemPlace} (h : DataW.Trod enc P w 0 (fun _ => true) true 37 v d p) : ∃ e : Ex, V (stIn w) (exA e) v ∧ e.Fit := by
  obtain ⟨n, hn⟩ := h
  obtain ⟨xs, h1, e, rfl, he⟩ := rd_ex _ _ _ hn
  refine ⟨e, ?_, he⟩
  have := agg_of h1 (by rw [Ex.cs_len]; omega) (ex_one e)
  rwa [Ex.cs_eq] at this
end
/-! ### Laid tables -/
def litV : Lit → Option Value
  | .bool b => some (.bool b)
  | .int k n => some (.int k n)
  | .string s => some (.string ⟨s.toArray⟩)
  | _ => none
mutual
def flatV {H : Type} : DataW H → Option (List Value)
  | .lit l => (litV l).map ([·])
  | .agg ds => flatVL ds
  | _ => none
def flatVL {H : Type} : List (DataW H) → Option (List Value)
  | [] => some []
  | d :: ds => (flatV d).bind fun a => (flatVL ds).map (a ++ ·)
end
def contig (P : Program) : Nat → List Field → Option Nat
  | off, [] => some off
  | off, f :: fs => if f.offset = off then contig P (off + P.cellsOf f.type) fs else none
def okT (P : Program) : Nat → TypeId → Bool
  | 0, _ => false
  | n + 1, t => match P.underlying t with
    | some .bool => true
    | some (.int _) => true
    | some .string => true
    | some (.array k e) => P.cellsOf t == k * P.cellsOf e && okT P n e
    | some (.struct fs) => contig P 0 fs.toList == some (P.cellsOf t) && fs.toList.all fun f => okT P n f.type
    | _ => false
section
variable {H : Type} {enc : TypeId × Value → H} {P : Program} {w : World} {sp : Nat → Bool} {held : Bool}
def PinAt (enc : TypeId × Value → H) (P : Program) (w : World) (sp : Nat → Bool) (held : Bool) (t : TypeId) : Prop :=
  ∀ (fuel : Nat) (cs : List Value) (x : DataW H × List MemPlace) (vs : List Value), DataW.trod enc P w 0 sp held fuel t cs = some x → flatV x.1 = some vs → cs = vs
theorem flatVL_cons {d : DataW H} {ds : List (DataW H)} {vs : List Value} (h : flatVL (d :: ds) = some vs) : ∃ a b, flatV d = some a ∧ flatVL ds = some b ∧ vs = a ++ b := by
  rw [flatVL] at h
  obtain ⟨a, ha, h⟩ := Option.bind_eq_some_iff.1 h
  obtain ⟨b, hb, rfl⟩ := Option.map_eq_some_iff.1 h
  exact ⟨a, b, ha, hb, rfl⟩
theorem pin_parts {m s : Nat} {e : TypeId} (hp : PinAt enc P w sp held e) {cs : List Value} : ∀ (xs : List (DataW H × List MemPlace)) (off : Nat) (vs : List Value),
    (∀ i, i < xs.length → DataW.trod enc P w 0 sp held m e ((cs.drop ((off + i) * s)).take s) = xs[i]?) → cs.length = (off + xs.length) * s → flatVL (xs.map (·.1)) = some vs → cs.drop (off * s) = vs
  | [], off, vs, _, hl, hf => by
    simp [flatVL] at hf
    subst hf
    exact List.drop_eq_nil_of_le (by simp at hl; omega)
  | x :: xs, off, vs, hx, hl, hf => by
    rw [List.map_cons] at hf
    obtain ⟨a, b, ha, hb, rfl⟩ := flatVL_cons hf
    have h0 := hx 0 (by simp)
    rw [Nat.add_zero] at h0
    have e1 := hp _ _ x a (by simpa using h0) ha
    have e2 := pin_parts hp xs (off + 1) b (fun i hi => by
      have := hx (i + 1) (by simp; omega)
      rw [show off + (i + 1) = off + 1 + i by omega] at this
      simpa using this) (by rw [hl]; simp; congr 1; omega) hb
    rw [← e1, ← e2, Nat.succ_mul, ← List.drop_drop, List.take_append_drop]
theorem pin_fields {m : Nat} {cs : List Value} : ∀ (fs : List Field) (xs : List (DataW H × List MemPlace)) (off : Nat) (vs : List Value), (∀ f ∈ fs, PinAt enc P w sp held f.type) → fs.length = xs.length →
    (∀ (i : Nat) (f : Field), fs[i]? = some f → DataW.trod enc P w 0 sp held m f.type ((cs.drop f.offset).take (P.cellsOf f.type)) = xs[i]?) → contig P off fs = some cs.length → flatVL (xs.map (·.1)) = some vs → cs.drop off = vs
  | [], [], off, vs, _, _, _, hc, hf => by
    simp [flatVL] at hf
    subst hf
    simp [contig] at hc
    exact List.drop_eq_nil_of_le (by omega)
  | [], _ :: _, _, _, _, hl, _, _, _ => by simp at hl
  | _ :: _, [], _, _, _, hl, _, _, _ => by simp at hl
  | f :: fs, x :: xs, off, vs, hp, hl, hx, hc, hf => by
    rw [List.map_cons] at hf
    obtain ⟨a, b, ha, hb, rfl⟩ := flatVL_cons hf
    rw [contig] at hc
    split at hc
    · rename_i ho
      have h0 := hx 0 f rfl
      rw [ho] at h0
      have e1 := hp f (by simp) _ _ x a (by simpa using h0) ha
      have e2 := pin_fields fs xs (off + P.cellsOf f.type) b (fun g hg => hp g (by simp [hg])) (by simpa using hl) (fun i g hg => by simpa using hx (i + 1) g (by simpa using hg)) hc hb
      rw [← e1, ← e2, ← List.drop_drop, List.take_append_drop]
    · cases hc
theorem pin : ∀ (n : Nat) (t : TypeId), okT P n t = true → PinAt enc P w sp held t
  | 0, t, h => by simp [okT] at h
  | n + 1, t, h => by
    intro fuel cs x vs hx hf
    rw [okT] at h
    split at h
    · rename_i ht
      obtain ⟨b, rfl, rfl⟩ := DataW.trod_bool ht hx
      simpa [flatV, litV] using hf
    · rename_i k ht
      obtain ⟨v, rfl, rfl, _⟩ := DataW.trod_int ht hx
      simpa [flatV, litV] using hf
    · rename_i ht
      obtain ⟨v, rfl, rfl, _⟩ := DataW.trod_string ht hx
      simpa [flatV, litV] using hf
    · rename_i k e ht
      simp only [Bool.and_eq_true, beq_iff_eq] at h
      obtain ⟨xs, m, _, rfl, hl, hn, hxs⟩ := DataW.trod_array ht hx
      have := pin_parts (m := m) (s := P.cellsOf e) (pin n e h.2) (cs := cs) xs 0 vs (fun i hi => by simpa using hxs i (by omega)) (by rw [hl, h.1, hn]; simp) (by simpa [flatV] using hf)
      simpa using this
    · rename_i fs ht
      simp only [Bool.and_eq_true, beq_iff_eq, List.all_eq_true] at h
      obtain ⟨xs, m, _, rfl, hl, hn, hxs⟩ := DataW.trod_struct ht hx
      have := pin_fields (m := m) (cs := cs) fs.toList xs 0 vs (fun f hf => pin n f.type (h.2 f hf)) (by simpa using hn.symm) (fun i f hif => hxs i f (by simpa using hif)) (by rw [h.1, hl]) (by simpa [flatV] using hf)
      simpa using this
    · cases h
def unlit : List AV → List Value
  | [] => []
  | .lit v :: xs => v :: unlit xs
  | _ :: xs => unlit xs
def allLit : List AV → Bool
  | [] => true
  | .lit v :: xs => v.oneCell' && allLit xs
  | _ :: _ => false
theorem VL_litL {s : St} : ∀ {xs : List AV}, allLit xs = true → VL s xs (unlit xs) ∧ ∀ u ∈ unlit xs, u.oneCell' = true
  | [], _ => ⟨VL_nil.2 rfl, by simp [unlit]⟩
  | x :: xs, h => by
    cases x with
    | lit v =>
      simp only [allLit, Bool.and_eq_true] at h
      obtain ⟨h1, h2⟩ := VL_litL (s := s) h.2
      refine ⟨VL_cons.2 ⟨_, _, rfl, V_lit.2 rfl, h1⟩, fun u hu => ?_⟩
      rcases List.mem_cons.1 hu with rfl | hu
      · exact h.1
      · exact h2 u hu
    | _ => simp [allLit] at h
theorem glob_of {name : String} {g t : Nat} {xs : List AV} {d : DataW Unit} {laid : List (String × DataW Unit)} {ps : List MemPlace} {n : Nat} (hg : P.globalNamed name = some g) (hty : (P.globals[g]?).map (·.type) = some t) (hok : okT P n t = true)
    (hd : flatV d = some (unlit xs)) (hl : allLit xs = true) (hm : DataW.LaidVars P w laid ps) (hin : (name, d) ∈ laid) : V (stIn w) (.rp xs) (.pointer (some ⟨g, 0, none⟩)) := by
  induction laid generalizing ps with
  | nil => cases hin
  | cons x r ih =>
    obtain ⟨nm, d'⟩ := x
    obtain ⟨g', t', cs, fuel, p, q, hg', ht', hv, hx, hr, _⟩ := hm
    rcases List.mem_cons.1 hin with he | hin
    · injection he with e1 e2
      subst e1
      subst e2
      obtain rfl := Option.some.inj (hg.symm.trans hg')
      obtain rfl := Option.some.inj (hty.symm.trans ht')
      have hcs := pin n t hok fuel cs.toList _ _ hx hd
      obtain ⟨h1, h2⟩ := VL_litL (s := stIn w) hl
      unfold World.var? at hv
      rw [hg, Option.bind_some] at hv
      simp only [V]
      refine ⟨⟨g, 0, none⟩, unlit xs, rfl, h1, fun j u hj => ?_⟩
      split at hv
      · rename_i cs' e fz hh
        injection hv with hv
        subst hv
        refine ⟨h2 u (List.mem_of_getElem? hj), (Array.getElem?_eq_some_iff.1 hh).1, ?_⟩
        rw [← hcs] at hj
        have : ((⟨g, 0, none⟩ : Addr).add j) = ⟨g, j, none⟩ := by
          unfold Addr.add
          split
          · rename_i hz; subst hz; rfl
          · simp
        rw [this]
        have hh' : (stIn w).w.heap[g]? = some (.cells cs' e fz) := hh
        simp [World.cell?, hh']
        simpa using hj
      · cases hv
    · exact ih hr hin
end
theorem primOk : PrimOk P E := fun f args h v h' hp => slP_ok hp
/-- What a contract in closed values says of a call, in a world in which the globals read so. -/
theorem calls_of {f : FuncId} {args : List AV} {us : List Value} {w : World} (hp : PFn E f args (B true)) (hE : EnvOk E P) (hg : ∀ g xs, E.G g = some xs → V (stIn w) (.rp xs) (.pointer (some ⟨g, 0, none⟩)))
    (hc : AV.closedL args = true) (hv : VL (stIn w) args us) : Calls P f us.toArray w fun e w' => e = .returned (.bool true) ∧ Below w.heap.size w w' := by
  obtain ⟨ws, v, h1, n, r0, hw, hev, hr, hrc, hwk⟩ := hp
  have hV0 : VL (stIn w).fresh ws us := hw _ _ (VL.closed (extC_fresh (stIn w)) _ _ hc hv)
  have hR0 : R E (stIn w).fresh [] := R_fresh hE (fun g hg => hg) hg
  refine (sound hE primOk hev (stIn w).fresh us hR0 hV0).mono fun e w' he => ?_
  obtain ⟨u, s', rfl, rfl, hst, hR, hu⟩ := he
  have h2 := hwk _ _ (rdv_V hR n v r0 u hr hu)
  rw [V_lit] at h2
  subst h2
  exact ⟨rfl, hst.os, hst.tape, hst.output, hst.size, fun k hk => hst.frame k hk fun b hb => absurd (fresh_vr (stIn w) b) hb⟩
end Go.Abs

