/- What is read of the law's arguments; what a contract says of a call. Conditions: none. -/
import Derived.Test.YtnjaedaofjkbnaaRead1
import Derived.Below
import Derived.OpenShut
set_option maxRecDepth 100000
set_option linter.unusedVariables false
set_option linter.unusedSimpArgs false
namespace Go.Abs
open Go Go.RowKit
abbrev Short {α : Type} (l : List α) : Prop := l.length < 9223372036854775808
section
variable {H : Type} {enc : TypeId × Value → H} {w : World}
theorem rd_sl {α : Type} {c : α → List AV} {G : α → Prop} {n : Nat} {t e : TypeId} {sz : Nat} (ht : P.underlying t = some (.slice e)) (hs : P.cellsOf e = sz) (hc : ∀ a, (c a).length = sz) (h1 : ∀ a, ∀ x ∈ c a, x.one = true)
    (hR : ∀ m, m < n → Rd enc P w m e (fun xs => ∃ a, xs = c a ∧ G a)) : Rd enc P w n t (fun xs => ∃ l : List α, xs = [.ro l.length (recs c l)] ∧ Short l ∧ ∀ a ∈ l, G a) := by
  cases n with
  | zero => exact rd_zero
  | succ n => exact (rd_slice ht hs hc h1 (hR n (by omega))).mono fun xs ⟨l, h, h2, h3⟩ => ⟨l, h, by unfold maxLen at h2; show l.length < _; omega, h3⟩
theorem rd_st {n : Nat} {t : TypeId} {fs : Array Field} {ds : List Fd} (ht : P.underlying t = some (.struct fs)) (hf : FieldsAt P 0 fs.toList ds) (hs : P.cellsOf t = total ds) (hd : ∀ m, m < n → ∀ d ∈ ds, Rd enc P w m d.t d.Q) : Rd enc P w n t (AllQ ds) := by
  cases n with
  | zero => exact rd_zero
  | succ n => exact rd_struct ht hf hs (hd n (by omega))
theorem cells3 : P.cellsOf 3 = 1 := by kernel_rfl
theorem cells22 : P.cellsOf 22 = 1 := by kernel_rfl
theorem cells27 : P.cellsOf 27 = 1 := by kernel_rfl
theorem cells29 : P.cellsOf 29 = 5 := by kernel_rfl
theorem cells30 : P.cellsOf 30 = 1 := by kernel_rfl
theorem cells31 : P.cellsOf 31 = 1 := by kernel_rfl
theorem cells32 : P.cellsOf 32 = 1 := by kernel_rfl
theorem cells34 : P.cellsOf 34 = 19 := by kernel_rfl
theorem cells35 : P.cellsOf 35 = 1 := by kernel_rfl
theorem cells37 : P.cellsOf 37 = 20 := by kernel_rfl
theorem cells66 : P.cellsOf 66 = 6 := by kernel_rfl
theorem cells69 : P.cellsOf 69 = 2 := by kernel_rfl
def intF : Fd := ⟨3, 1, fun xs => ∃ v : Int, xs = [I v] ∧ In64 v⟩
def intsF : Fd := ⟨35, 1, fun xs => ∃ l : List Int, xs = [.ro l.length (recs intC l)] ∧ Short l ∧ ∀ a ∈ l, In64 a⟩
theorem wf_in64 {v : Int} (h : (Lit.int .i64 v).wf = true) : In64 v := by have := bounds_i64 h; unfold In64; omega
theorem rd_i {n : Nat} : Rd enc P w n 3 intF.Q := (rd_int Go.Proofs.Try.underlying3).mono fun xs ⟨v, h1, h2⟩ => ⟨v, h1, wf_in64 h2⟩
theorem rd_is {n : Nat} : Rd enc P w n 35 intsF.Q := rd_sl Go.Proofs.Try.underlying35 cells3 (fun _ => rfl) (fun a x hx => by simp [intC] at hx; subst hx; rfl) fun m _ => rd_i.mono fun xs ⟨v, h, h2⟩ => ⟨v, h, h2⟩
theorem ex_one (a : Ex) : ∀ x ∈ a.cs, x.one = true := fun x hx => by
  rw [Ex.cs_eq] at hx
  simp at hx
  rcases hx with rfl | rfl | rfl | rfl | rfl <;> rfl
theorem rd_ex : ∀ n : Nat, Rd enc P w n 29 (fun xs => ∃ e : Ex, xs = e.cs ∧ e.Fit) := by
  intro n
  induction n using Nat.strongRecOn with
  | _ n ih =>
  refine (rd_st Go.Proofs.Try.underlying29 (ds := [intF, intF, intF, intF, ⟨27, 1, fun xs => ∃ l : List Ex, xs = [.ro l.length (recs Ex.cs l)] ∧ Short l ∧ ∀ a ∈ l, a.Fit⟩]) ⟨rfl, rfl, cells3, rfl, rfl, cells3, rfl, rfl, cells3, rfl, rfl, cells3, rfl, rfl, cells27, trivial⟩ cells29 fun m hm => ?_).mono fun xs h => ?_
  · simp only [List.forall_mem_cons, List.not_mem_nil, false_implies, implies_true, and_true]
    exact ⟨rd_i, rd_i, rd_i, rd_i, rd_sl Go.Proofs.Try.underlying27 cells29 Ex.cs_len ex_one fun k hk => ih k (by omega)⟩
  · obtain ⟨_, _, rfl, ⟨a, rfl, h1⟩, _, _, rfl, ⟨b, rfl, h2⟩, _, _, rfl, ⟨c, rfl, h3⟩, _, _, rfl, ⟨d, rfl, h4⟩, _, _, rfl, ⟨l, rfl, h5, h6⟩, rfl⟩ := h
    exact ⟨.mk a b c d l, by rw [Ex.cs_eq]; rfl, .mk _ h5 h1 h2 h3 h4 h6⟩
def exF : Fd := ⟨29, 5, fun xs => ∃ e : Ex, xs = e.cs ∧ e.Fit⟩
def exsF : Fd := ⟨27, 1, fun xs => ∃ l : List Ex, xs = [.ro l.length (recs Ex.cs l)] ∧ Short l ∧ ∀ a ∈ l, a.Fit⟩
theorem rd_exs {n : Nat} : Rd enc P w n 27 exsF.Q := rd_sl Go.Proofs.Try.underlying27 cells29 Ex.cs_len ex_one fun k hk => rd_ex k
theorem rd_ag {n : Nat} : Rd enc P w n 66 (fun xs => ∃ a : Ag, xs = a.cs ∧ (In64 a.f ∧ a.e.Fit)) :=
  (rd_st Go.Proofs.Try.underlying66 (ds := [intF, exF]) ⟨rfl, rfl, cells3, rfl, rfl, cells29, trivial⟩ cells66 fun m hm => by
    simp only [List.forall_mem_cons, List.not_mem_nil, false_implies, implies_true, and_true]
    exact ⟨rd_i, rd_ex m⟩).mono fun xs h => by
    obtain ⟨_, _, rfl, ⟨a, rfl, h1⟩, _, _, rfl, ⟨e, rfl, h2⟩, rfl⟩ := h
    exact ⟨⟨a, e⟩, by rw [Ex.cs_eq]; rfl, h1, h2⟩
def agsF : Fd := ⟨30, 1, fun xs => ∃ l : List Ag, xs = [.ro l.length (recs Ag.cs l)] ∧ Short l ∧ ∀ a ∈ l, In64 a.f ∧ a.e.Fit⟩
theorem rd_ags {n : Nat} : Rd enc P w n 30 agsF.Q := rd_sl Go.Proofs.Try.underlying30 cells66 (fun _ => rfl) (fun a x hx => by simp at hx; rcases hx with rfl | rfl | rfl | rfl | rfl | rfl <;> rfl) fun k hk => rd_ag
def smsF : Fd := ⟨31, 1, fun xs => ∃ l : List Sm, xs = [.ro l.length (recs Sm.cs l)] ∧ Short l ∧ ∀ a ∈ l, a.Fit⟩
def ArmFit (a : List Int × List Sm) : Prop := (a.1.length < 9223372036854775808 ∧ a.2.length < 9223372036854775808) ∧ ∀ x ∈ a.2, x.Fit
def armsF : Fd := ⟨32, 1, fun xs => ∃ l : List (List Int × List Sm), xs = [.ro l.length (recs armC l)] ∧ Short l ∧ ∀ a ∈ l, ArmFit a⟩
theorem smcells_one (a : Sm) : ∀ x ∈ a.cells, x.one = true := fun x hx => by
  simp only [Sm.cells, List.mem_cons, List.not_mem_nil, or_false] at hx
  rcases hx with rfl | rfl | rfl | rfl | rfl | rfl | rfl | rfl | rfl | rfl | rfl | rfl | rfl | rfl | rfl | rfl | rfl | rfl | rfl <;> rfl
theorem sm_one (a : Sm) : ∀ x ∈ a.cs, x.one = true := by rw [Sm.cs_eq]; exact smcells_one a
theorem rd_sm : ∀ n : Nat, Rd enc P w n 34 (fun xs => ∃ e : Sm, xs = e.cs ∧ e.Fit) := by
  intro n
  induction n using Nat.strongRecOn with
  | _ n ih =>
  have sms : ∀ m, m ≤ n → Rd enc P w m 31 smsF.Q := fun m hm => rd_sl Go.Proofs.Try.underlying31 cells34 Sm.cs_len sm_one fun k hk => ih k (by omega)
  have arm : ∀ m, m ≤ n → Rd enc P w m 69 (fun xs => ∃ a, xs = armC a ∧ ArmFit a) := fun m hm =>
    (rd_st Go.Proofs.Try.underlying69 (ds := [intsF, smsF]) ⟨rfl, rfl, cells35, rfl, rfl, cells31, trivial⟩ cells69 fun k hk => by
      simp only [List.forall_mem_cons, List.not_mem_nil, false_implies, implies_true, and_true]
      exact ⟨rd_is, sms k (by omega)⟩).mono fun xs h => by
      obtain ⟨_, _, rfl, ⟨a, rfl, h1, _⟩, _, _, rfl, ⟨l, rfl, h2, h3⟩, rfl⟩ := h
      exact ⟨(a, l), rfl, ⟨h1, h2⟩, h3⟩
  have arms : ∀ m, m ≤ n → Rd enc P w m 32 armsF.Q := fun m hm => rd_sl Go.Proofs.Try.underlying32 cells69 (fun _ => rfl) (fun a x hx => by simp [armC] at hx; rcases hx with rfl | rfl <;> rfl) fun k hk => arm k (by omega)
  refine (rd_st Go.Proofs.Try.underlying34 (ds := [intF, intF, intF, intF, exF, exF, exsF, agsF, smsF, smsF, armsF]) ⟨rfl, rfl, cells3, rfl, rfl, cells3, rfl, rfl, cells3, rfl, rfl, cells3, rfl, rfl, cells29, rfl, rfl, cells29, rfl, rfl, cells27, rfl, rfl, cells30, rfl, rfl, cells31, rfl, rfl, cells31, rfl, rfl, cells32, trivial⟩ cells34 fun m hm => ?_).mono fun xs h => ?_
  · simp only [List.forall_mem_cons, List.not_mem_nil, false_implies, implies_true, and_true]
    exact ⟨rd_i, rd_i, rd_i, rd_i, rd_ex m, rd_ex m, rd_exs, rd_ags, sms m (by omega), sms m (by omega), arms m (by omega)⟩
  · obtain ⟨_, _, rfl, ⟨k, rfl, h1⟩, _, _, rfl, ⟨c, rfl, h2⟩, _, _, rfl, ⟨n', rfl, h3⟩, _, _, rfl, ⟨m', rfl, h4⟩, _, _, rfl, ⟨e, rfl, h5⟩, _, _, rfl, ⟨i, rfl, h6⟩, _, _, rfl, ⟨l, rfl, h7, h7'⟩, _, _, rfl, ⟨ag, rfl, h8, h8'⟩, _, _, rfl, ⟨bd, rfl, h9, h9'⟩, _, _, rfl, ⟨el, rfl, h10, h10'⟩, _, _, rfl, ⟨ar, rfl, h11, h11'⟩, rfl⟩ := h
    refine ⟨.mk ⟨k, c, n', m', e, i, l, ag⟩ bd el ar, ?_, .mk _ ⟨h1, h2, h3, h4, h5, h6, h7, h7', h8, h8'⟩ h9 h10 h11 h9' h10' (fun a ha => (h11' a ha).1) (fun a ha => (h11' a ha).2)⟩
    rw [Sm.cs_eq, Ex.cs_eq, Ex.cs_eq]
    rfl
theorem rd_nd {n : Nat} : Rd enc P w n 37 (fun xs => ∃ x : Nd, xs = x.cs ∧ x.Fit) :=
  (rd_st Go.Proofs.Try.underlying37 (ds := [⟨34, 19, fun xs => ∃ e : Sm, xs = e.cs ∧ e.Fit⟩, intsF]) ⟨rfl, rfl, cells34, rfl, rfl, cells35, trivial⟩ cells37 fun m hm => by
    simp only [List.forall_mem_cons, List.not_mem_nil, false_implies, implies_true, and_true]
    exact ⟨rd_sm m, rd_is⟩).mono fun xs h => by
    obtain ⟨_, _, rfl, ⟨s, rfl, h1⟩, _, _, rfl, ⟨l, rfl, h2, h3⟩, rfl⟩ := h
    exact ⟨⟨s, l⟩, by rw [Sm.cs_eq]; rfl, h1, h2, h3⟩
theorem nd_one (a : Nd) : ∀ x ∈ a.cs, x.one = true := fun x hx => by
  rcases List.mem_append.1 hx with hx | hx
  · exact smcells_one _ x hx
  · rw [List.mem_singleton.1 hx]; rfl
theorem read_nds {ad : Option Addr} {len cap : Nat} {d : DataW H} {p : List MemPlace} (h : DataW.Trod enc P w 0 (fun _ => true) true 22 (.slice ad len cap) d p) : ∃ l : List Nd, V (stIn w) (ndsA l) (.slice ad len cap) ∧ l.length < 9223372036854775808 ∧ ∀ x ∈ l, x.Fit := by
  obtain ⟨n, hn⟩ := h
  obtain ⟨xs, h1, l, rfl, hl, hf⟩ := rd_sl (n := n) (c := Nd.cs) (G := Nd.Fit) Go.Proofs.Try.underlying22 cells37 (fun _ => rfl) nd_one (fun m _ => rd_nd) _ _ hn
  refine ⟨l, ?_, hl, hf⟩
  obtain ⟨u, us, e, hv, hn'⟩ := VL_cons.1 h1
  rw [VL_nil] at hn'
  subst hn'
  have e' : [Value.slice ad len cap] = [u] := e
  injection e' with e' _
  rw [e']
  exact hv
end
/-- What a contract in closed values says of a call. -/
theorem calls_of {f : FuncId} {args : List AV} {us : List Value} {w : World} (hp : PFn E f args (B true)) (hE : EnvOk E P) (hg : ∀ g xs, E.G g = some xs → V (stIn w) (.rp xs) (.pointer (some ⟨g, 0, none⟩)))
    (hc : AV.closedL args = true) (hv : VL (stIn w) args us) : Calls P f us.toArray w fun e w' => e = .returned (.bool true) ∧ Below w.heap.size w w' := by
  obtain ⟨ws, v, h1, n, r0, hw, hev, hr, hrc, hwk⟩ := hp
  have hV0 : VL (stIn w).fresh ws us := hw _ _ (VL.closed (extC_fresh (stIn w)) _ _ hc hv)
  have hR0 : R E (stIn w).fresh [] := R_fresh hE (fun g hg => hg) hg
  refine (sound hE hev (stIn w).fresh us hR0 hV0).mono fun e w' he => ?_
  obtain ⟨u, s', rfl, rfl, hst, hR, hu⟩ := he
  have h2 := hwk _ _ (rdv_V hR n v r0 u hr hu)
  rw [V_lit] at h2
  subst h2
  exact ⟨rfl, hst.os, hst.tape, hst.output, hst.size, fun k hk => hst.frame k hk fun b hb => absurd (fresh_vr (stIn w) b) hb⟩
end Go.Abs

