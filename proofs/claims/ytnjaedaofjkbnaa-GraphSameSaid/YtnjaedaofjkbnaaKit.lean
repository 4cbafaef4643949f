/- Facts of types, functions and laid tables of the program that the abstract runs ask for; written by wip/gen/kit.py. Conditions: none. -/
import Derived.Test.YtnjaedaofjkbnaaProg
import Derived.Test.YtnjaedaofjkbnaaChecked
import Derived.Test.YtnjaedaofjkbnaaAbs9
set_option maxRecDepth 100000
set_option linter.unusedVariables false
namespace Go.Abs
open Go
noncomputable abbrev P : Program := Go.Proofs.Try.prog
/-- The places that are written after they are made. -/
def pol : FuncId → Nat → Nat := fun f d => if (f, d) ∈ ([(5, 1), (5, 2), (6, 7), (6, 12), (6, 13), (6, 25), (7, 4), (8, 4), (11, 7), (11, 10), (12, 7), (18, 8), (20, 5), (21, 2), (23, 4), (23, 5), (25, 6), (31, 7), (31, 8), (32, 4), (32, 5), (42, 11), (42, 18)] : List (Nat × Nat)) then 1 else 0
def GT : Nat → Option (List AV) := fun g => none
noncomputable def E : Env := Env.of P GT pol
theorem E_pol : E.pol = pol := rfl
def ti3 : TI := ⟨TK.int IntKind.i64, 1, 8, Value.int IntKind.i64 0⟩
theorem ty3 : E.ty 3 = some ti3 := by kernel_rfl
theorem ty3k : ti3.kind = TK.int IntKind.i64 := rfl
theorem ty3s : ti3.size = 1 := rfl
theorem ty3b : ti3.bytes = 8 := rfl
theorem ty3z : AV.ofV ti3.zero = .lit (Value.int IntKind.i64 0) := rfl
theorem ty3o : zeroOk ti3 = true := by kernel_rfl
theorem ty3t {xs : List AV} : takeT ti3 xs = xs.head? := by cases xs <;> rfl
def ti4 : TI := ⟨TK.bool, 1, 1, Value.bool false⟩
theorem ty4 : E.ty 4 = some ti4 := by kernel_rfl
theorem ty4k : ti4.kind = TK.bool := rfl
theorem ty4s : ti4.size = 1 := rfl
theorem ty4b : ti4.bytes = 1 := rfl
theorem ty4z : AV.ofV ti4.zero = .lit (Value.bool false) := rfl
theorem ty4o : zeroOk ti4 = true := by kernel_rfl
theorem ty4t {xs : List AV} : takeT ti4 xs = xs.head? := by cases xs <;> rfl
def ti22 : TI := ⟨TK.slice 37, 1, 24, Value.slice none 0 0⟩
theorem ty22 : E.ty 22 = some ti22 := by kernel_rfl
theorem ty22k : ti22.kind = TK.slice 37 := rfl
theorem ty22s : ti22.size = 1 := rfl
theorem ty22b : ti22.bytes = 24 := rfl
theorem ty22z : AV.ofV ti22.zero = .lit (Value.slice none 0 0) := rfl
theorem ty22o : zeroOk ti22 = true := by kernel_rfl
theorem ty22t {xs : List AV} : takeT ti22 xs = xs.head? := by cases xs <;> rfl
def ti27 : TI := ⟨TK.slice 29, 1, 24, Value.slice none 0 0⟩
theorem ty27 : E.ty 27 = some ti27 := by kernel_rfl
theorem ty27k : ti27.kind = TK.slice 29 := rfl
theorem ty27s : ti27.size = 1 := rfl
theorem ty27b : ti27.bytes = 24 := rfl
theorem ty27z : AV.ofV ti27.zero = .lit (Value.slice none 0 0) := rfl
theorem ty27o : zeroOk ti27 = true := by kernel_rfl
theorem ty27t {xs : List AV} : takeT ti27 xs = xs.head? := by cases xs <;> rfl
def ti29 : TI := ⟨TK.struct [(0, 3), (1, 3), (2, 3), (3, 3), (4, 27)], 5, 56, Value.agg #[Value.int IntKind.i64 0, Value.int IntKind.i64 0, Value.int IntKind.i64 0, Value.int IntKind.i64 0, Value.slice none 0 0]⟩
theorem ty29 : E.ty 29 = some ti29 := by kernel_rfl
theorem ty29k : ti29.kind = TK.struct [(0, 3), (1, 3), (2, 3), (3, 3), (4, 27)] := rfl
theorem ty29s : ti29.size = 5 := rfl
theorem ty29b : ti29.bytes = 56 := rfl
theorem ty29z : AV.ofV ti29.zero = .agg [.lit (Value.int IntKind.i64 0), .lit (Value.int IntKind.i64 0), .lit (Value.int IntKind.i64 0), .lit (Value.int IntKind.i64 0), .lit (Value.slice none 0 0)] := rfl
theorem ty29o : zeroOk ti29 = true := by kernel_rfl
theorem ty29t {xs : List AV} : takeT ti29 xs = if 5 ≤ xs.length then some (.agg (xs.take 5)) else none := rfl
def ti30 : TI := ⟨TK.slice 66, 1, 24, Value.slice none 0 0⟩
theorem ty30 : E.ty 30 = some ti30 := by kernel_rfl
theorem ty30k : ti30.kind = TK.slice 66 := rfl
theorem ty30s : ti30.size = 1 := rfl
theorem ty30b : ti30.bytes = 24 := rfl
theorem ty30z : AV.ofV ti30.zero = .lit (Value.slice none 0 0) := rfl
theorem ty30o : zeroOk ti30 = true := by kernel_rfl
theorem ty30t {xs : List AV} : takeT ti30 xs = xs.head? := by cases xs <;> rfl
def ti31 : TI := ⟨TK.slice 34, 1, 24, Value.slice none 0 0⟩
theorem ty31 : E.ty 31 = some ti31 := by kernel_rfl
theorem ty31k : ti31.kind = TK.slice 34 := rfl
theorem ty31s : ti31.size = 1 := rfl
theorem ty31b : ti31.bytes = 24 := rfl
theorem ty31z : AV.ofV ti31.zero = .lit (Value.slice none 0 0) := rfl
theorem ty31o : zeroOk ti31 = true := by kernel_rfl
theorem ty31t {xs : List AV} : takeT ti31 xs = xs.head? := by cases xs <;> rfl
def ti32 : TI := ⟨TK.slice 69, 1, 24, Value.slice none 0 0⟩
theorem ty32 : E.ty 32 = some ti32 := by kernel_rfl
theorem ty32k : ti32.kind = TK.slice 69 := rfl
theorem ty32s : ti32.size = 1 := rfl
theorem ty32b : ti32.bytes = 24 := rfl
theorem ty32z : AV.ofV ti32.zero = .lit (Value.slice none 0 0) := rfl
theorem ty32o : zeroOk ti32 = true := by kernel_rfl
theorem ty32t {xs : List AV} : takeT ti32 xs = xs.head? := by cases xs <;> rfl
def ti34 : TI := ⟨TK.struct [(0, 3), (1, 3), (2, 3), (3, 3), (4, 29), (9, 29), (14, 27), (15, 30), (16, 31), (17, 31), (18, 32)], 19, 264, Value.agg #[Value.int IntKind.i64 0, Value.int IntKind.i64 0, Value.int IntKind.i64 0, Value.int IntKind.i64 0, Value.int IntKind.i64 0, Value.int IntKind.i64 0, Value.int IntKind.i64 0, Value.int IntKind.i64 0, Value.slice none 0 0, Value.int IntKind.i64 0, Value.int IntKind.i64 0, Value.int IntKind.i64 0, Value.int IntKind.i64 0, Value.slice none 0 0, Value.slice none 0 0, Value.slice none 0 0, Value.slice none 0 0, Value.slice none 0 0, Value.slice none 0 0]⟩
theorem ty34 : E.ty 34 = some ti34 := by kernel_rfl
theorem ty34k : ti34.kind = TK.struct [(0, 3), (1, 3), (2, 3), (3, 3), (4, 29), (9, 29), (14, 27), (15, 30), (16, 31), (17, 31), (18, 32)] := rfl
theorem ty34s : ti34.size = 19 := rfl
theorem ty34b : ti34.bytes = 264 := rfl
theorem ty34z : AV.ofV ti34.zero = .agg [.lit (Value.int IntKind.i64 0), .lit (Value.int IntKind.i64 0), .lit (Value.int IntKind.i64 0), .lit (Value.int IntKind.i64 0), .lit (Value.int IntKind.i64 0), .lit (Value.int IntKind.i64 0), .lit (Value.int IntKind.i64 0), .lit (Value.int IntKind.i64 0), .lit (Value.slice none 0 0), .lit (Value.int IntKind.i64 0), .lit (Value.int IntKind.i64 0), .lit (Value.int IntKind.i64 0), .lit (Value.int IntKind.i64 0), .lit (Value.slice none 0 0), .lit (Value.slice none 0 0), .lit (Value.slice none 0 0), .lit (Value.slice none 0 0), .lit (Value.slice none 0 0), .lit (Value.slice none 0 0)] := rfl
theorem ty34o : zeroOk ti34 = true := by kernel_rfl
theorem ty34t {xs : List AV} : takeT ti34 xs = if 19 ≤ xs.length then some (.agg (xs.take 19)) else none := rfl
def ti35 : TI := ⟨TK.slice 3, 1, 24, Value.slice none 0 0⟩
theorem ty35 : E.ty 35 = some ti35 := by kernel_rfl
theorem ty35k : ti35.kind = TK.slice 3 := rfl
theorem ty35s : ti35.size = 1 := rfl
theorem ty35b : ti35.bytes = 24 := rfl
theorem ty35z : AV.ofV ti35.zero = .lit (Value.slice none 0 0) := rfl
theorem ty35o : zeroOk ti35 = true := by kernel_rfl
theorem ty35t {xs : List AV} : takeT ti35 xs = xs.head? := by cases xs <;> rfl
def ti37 : TI := ⟨TK.struct [(0, 34), (19, 35)], 20, 288, Value.agg #[Value.int IntKind.i64 0, Value.int IntKind.i64 0, Value.int IntKind.i64 0, Value.int IntKind.i64 0, Value.int IntKind.i64 0, Value.int IntKind.i64 0, Value.int IntKind.i64 0, Value.int IntKind.i64 0, Value.slice none 0 0, Value.int IntKind.i64 0, Value.int IntKind.i64 0, Value.int IntKind.i64 0, Value.int IntKind.i64 0, Value.slice none 0 0, Value.slice none 0 0, Value.slice none 0 0, Value.slice none 0 0, Value.slice none 0 0, Value.slice none 0 0, Value.slice none 0 0]⟩
theorem ty37 : E.ty 37 = some ti37 := by kernel_rfl
theorem ty37k : ti37.kind = TK.struct [(0, 34), (19, 35)] := rfl
theorem ty37s : ti37.size = 20 := rfl
theorem ty37b : ti37.bytes = 288 := rfl
theorem ty37z : AV.ofV ti37.zero = .agg [.lit (Value.int IntKind.i64 0), .lit (Value.int IntKind.i64 0), .lit (Value.int IntKind.i64 0), .lit (Value.int IntKind.i64 0), .lit (Value.int IntKind.i64 0), .lit (Value.int IntKind.i64 0), .lit (Value.int IntKind.i64 0), .lit (Value.int IntKind.i64 0), .lit (Value.slice none 0 0), .lit (Value.int IntKind.i64 0), .lit (Value.int IntKind.i64 0), .lit (Value.int IntKind.i64 0), .lit (Value.int IntKind.i64 0), .lit (Value.slice none 0 0), .lit (Value.slice none 0 0), .lit (Value.slice none 0 0), .lit (Value.slice none 0 0), .lit (Value.slice none 0 0), .lit (Value.slice none 0 0), .lit (Value.slice none 0 0)] := rfl
theorem ty37o : zeroOk ti37 = true := by kernel_rfl
theorem ty37t {xs : List AV} : takeT ti37 xs = if 20 ≤ xs.length then some (.agg (xs.take 20)) else none := rfl
def ti41 : TI := ⟨TK.array 2 3, 2, 16, Value.agg #[Value.int IntKind.i64 0, Value.int IntKind.i64 0]⟩
theorem ty41 : E.ty 41 = some ti41 := by kernel_rfl
theorem ty41k : ti41.kind = TK.array 2 3 := rfl
theorem ty41s : ti41.size = 2 := rfl
theorem ty41b : ti41.bytes = 16 := rfl
theorem ty41z : AV.ofV ti41.zero = .agg [.lit (Value.int IntKind.i64 0), .lit (Value.int IntKind.i64 0)] := rfl
theorem ty41o : zeroOk ti41 = true := by kernel_rfl
theorem ty41t {xs : List AV} : takeT ti41 xs = if 2 ≤ xs.length then some (.agg (xs.take 2)) else none := rfl
def ti42 : TI := ⟨TK.slice 41, 1, 24, Value.slice none 0 0⟩
theorem ty42 : E.ty 42 = some ti42 := by kernel_rfl
theorem ty42k : ti42.kind = TK.slice 41 := rfl
theorem ty42s : ti42.size = 1 := rfl
theorem ty42b : ti42.bytes = 24 := rfl
theorem ty42z : AV.ofV ti42.zero = .lit (Value.slice none 0 0) := rfl
theorem ty42o : zeroOk ti42 = true := by kernel_rfl
theorem ty42t {xs : List AV} : takeT ti42 xs = xs.head? := by cases xs <;> rfl
def ti47 : TI := ⟨TK.slice 4, 1, 24, Value.slice none 0 0⟩
theorem ty47 : E.ty 47 = some ti47 := by kernel_rfl
theorem ty47k : ti47.kind = TK.slice 4 := rfl
theorem ty47s : ti47.size = 1 := rfl
theorem ty47b : ti47.bytes = 24 := rfl
theorem ty47z : AV.ofV ti47.zero = .lit (Value.slice none 0 0) := rfl
theorem ty47o : zeroOk ti47 = true := by kernel_rfl
theorem ty47t {xs : List AV} : takeT ti47 xs = xs.head? := by cases xs <;> rfl
def ti48 : TI := ⟨TK.func, 1, 8, Value.nilFunc⟩
theorem ty48 : E.ty 48 = some ti48 := by kernel_rfl
theorem ty48k : ti48.kind = TK.func := rfl
theorem ty48s : ti48.size = 1 := rfl
theorem ty48b : ti48.bytes = 8 := rfl
theorem ty48z : AV.ofV ti48.zero = .lit (Value.nilFunc) := rfl
theorem ty48o : zeroOk ti48 = true := by kernel_rfl
theorem ty48t {xs : List AV} : takeT ti48 xs = xs.head? := by cases xs <;> rfl
def ti50 : TI := ⟨TK.ptr, 1, 8, Value.pointer none⟩
theorem ty50 : E.ty 50 = some ti50 := by kernel_rfl
theorem ty50k : ti50.kind = TK.ptr := rfl
theorem ty50s : ti50.size = 1 := rfl
theorem ty50b : ti50.bytes = 8 := rfl
theorem ty50z : AV.ofV ti50.zero = .lit (Value.pointer none) := rfl
theorem ty50o : zeroOk ti50 = true := by kernel_rfl
theorem ty50t {xs : List AV} : takeT ti50 xs = xs.head? := by cases xs <;> rfl
def ti52 : TI := ⟨TK.struct [(0, 22)], 1, 24, Value.agg #[Value.slice none 0 0]⟩
theorem ty52 : E.ty 52 = some ti52 := by kernel_rfl
theorem ty52k : ti52.kind = TK.struct [(0, 22)] := rfl
theorem ty52s : ti52.size = 1 := rfl
theorem ty52b : ti52.bytes = 24 := rfl
theorem ty52z : AV.ofV ti52.zero = .agg [.lit (Value.slice none 0 0)] := rfl
theorem ty52o : zeroOk ti52 = true := by kernel_rfl
theorem ty52t {xs : List AV} : takeT ti52 xs = if 1 ≤ xs.length then some (.agg (xs.take 1)) else none := rfl
def ti56 : TI := ⟨TK.struct [(0, 3), (1, 3), (2, 3)], 3, 24, Value.agg #[Value.int IntKind.i64 0, Value.int IntKind.i64 0, Value.int IntKind.i64 0]⟩
theorem ty56 : E.ty 56 = some ti56 := by kernel_rfl
theorem ty56k : ti56.kind = TK.struct [(0, 3), (1, 3), (2, 3)] := rfl
theorem ty56s : ti56.size = 3 := rfl
theorem ty56b : ti56.bytes = 24 := rfl
theorem ty56z : AV.ofV ti56.zero = .agg [.lit (Value.int IntKind.i64 0), .lit (Value.int IntKind.i64 0), .lit (Value.int IntKind.i64 0)] := rfl
theorem ty56o : zeroOk ti56 = true := by kernel_rfl
theorem ty56t {xs : List AV} : takeT ti56 xs = if 3 ≤ xs.length then some (.agg (xs.take 3)) else none := rfl
def ti57 : TI := ⟨TK.slice 72, 1, 24, Value.slice none 0 0⟩
theorem ty57 : E.ty 57 = some ti57 := by kernel_rfl
theorem ty57k : ti57.kind = TK.slice 72 := rfl
theorem ty57s : ti57.size = 1 := rfl
theorem ty57b : ti57.bytes = 24 := rfl
theorem ty57z : AV.ofV ti57.zero = .lit (Value.slice none 0 0) := rfl
theorem ty57o : zeroOk ti57 = true := by kernel_rfl
theorem ty57t {xs : List AV} : takeT ti57 xs = xs.head? := by cases xs <;> rfl
def ti59 : TI := ⟨TK.struct [(0, 3), (1, 57)], 2, 32, Value.agg #[Value.int IntKind.i64 0, Value.slice none 0 0]⟩
theorem ty59 : E.ty 59 = some ti59 := by kernel_rfl
theorem ty59k : ti59.kind = TK.struct [(0, 3), (1, 57)] := rfl
theorem ty59s : ti59.size = 2 := rfl
theorem ty59b : ti59.bytes = 32 := rfl
theorem ty59z : AV.ofV ti59.zero = .agg [.lit (Value.int IntKind.i64 0), .lit (Value.slice none 0 0)] := rfl
theorem ty59o : zeroOk ti59 = true := by kernel_rfl
theorem ty59t {xs : List AV} : takeT ti59 xs = if 2 ≤ xs.length then some (.agg (xs.take 2)) else none := rfl
def ti63 : TI := ⟨TK.func, 1, 8, Value.nilFunc⟩
theorem ty63 : E.ty 63 = some ti63 := by kernel_rfl
theorem ty63k : ti63.kind = TK.func := rfl
theorem ty63s : ti63.size = 1 := rfl
theorem ty63b : ti63.bytes = 8 := rfl
theorem ty63z : AV.ofV ti63.zero = .lit (Value.nilFunc) := rfl
theorem ty63o : zeroOk ti63 = true := by kernel_rfl
theorem ty63t {xs : List AV} : takeT ti63 xs = xs.head? := by cases xs <;> rfl
def ti66 : TI := ⟨TK.struct [(0, 3), (1, 29)], 6, 64, Value.agg #[Value.int IntKind.i64 0, Value.int IntKind.i64 0, Value.int IntKind.i64 0, Value.int IntKind.i64 0, Value.int IntKind.i64 0, Value.slice none 0 0]⟩
theorem ty66 : E.ty 66 = some ti66 := by kernel_rfl
theorem ty66k : ti66.kind = TK.struct [(0, 3), (1, 29)] := rfl
theorem ty66s : ti66.size = 6 := rfl
theorem ty66b : ti66.bytes = 64 := rfl
theorem ty66z : AV.ofV ti66.zero = .agg [.lit (Value.int IntKind.i64 0), .lit (Value.int IntKind.i64 0), .lit (Value.int IntKind.i64 0), .lit (Value.int IntKind.i64 0), .lit (Value.int IntKind.i64 0), .lit (Value.slice none 0 0)] := rfl
theorem ty66o : zeroOk ti66 = true := by kernel_rfl
theorem ty66t {xs : List AV} : takeT ti66 xs = if 6 ≤ xs.length then some (.agg (xs.take 6)) else none := rfl
def ti69 : TI := ⟨TK.struct [(0, 35), (1, 31)], 2, 48, Value.agg #[Value.slice none 0 0, Value.slice none 0 0]⟩
theorem ty69 : E.ty 69 = some ti69 := by kernel_rfl
theorem ty69k : ti69.kind = TK.struct [(0, 35), (1, 31)] := rfl
theorem ty69s : ti69.size = 2 := rfl
theorem ty69b : ti69.bytes = 48 := rfl
theorem ty69z : AV.ofV ti69.zero = .agg [.lit (Value.slice none 0 0), .lit (Value.slice none 0 0)] := rfl
theorem ty69o : zeroOk ti69 = true := by kernel_rfl
theorem ty69t {xs : List AV} : takeT ti69 xs = if 2 ≤ xs.length then some (.agg (xs.take 2)) else none := rfl
def ti72 : TI := ⟨TK.int IntKind.u64, 1, 8, Value.int IntKind.u64 0⟩
theorem ty72 : E.ty 72 = some ti72 := by kernel_rfl
theorem ty72k : ti72.kind = TK.int IntKind.u64 := rfl
theorem ty72s : ti72.size = 1 := rfl
theorem ty72b : ti72.bytes = 8 := rfl
theorem ty72z : AV.ofV ti72.zero = .lit (Value.int IntKind.u64 0) := rfl
theorem ty72o : zeroOk ti72 = true := by kernel_rfl
theorem ty72t {xs : List AV} : takeT ti72 xs = xs.head? := by cases xs <;> rfl
def ti73 : TI := ⟨TK.func, 1, 8, Value.nilFunc⟩
theorem ty73 : E.ty 73 = some ti73 := by kernel_rfl
theorem ty73k : ti73.kind = TK.func := rfl
theorem ty73s : ti73.size = 1 := rfl
theorem ty73b : ti73.bytes = 8 := rfl
theorem ty73z : AV.ofV ti73.zero = .lit (Value.nilFunc) := rfl
theorem ty73o : zeroOk ti73 = true := by kernel_rfl
theorem ty73t {xs : List AV} : takeT ti73 xs = xs.head? := by cases xs <;> rfl
def ti74 : TI := ⟨TK.func, 1, 8, Value.nilFunc⟩
theorem ty74 : E.ty 74 = some ti74 := by kernel_rfl
theorem ty74k : ti74.kind = TK.func := rfl
theorem ty74s : ti74.size = 1 := rfl
theorem ty74b : ti74.bytes = 8 := rfl
theorem ty74z : AV.ofV ti74.zero = .lit (Value.nilFunc) := rfl
theorem ty74o : zeroOk ti74 = true := by kernel_rfl
theorem ty74t {xs : List AV} : takeT ti74 xs = xs.head? := by cases xs <;> rfl
def ti76 : TI := ⟨TK.func, 1, 8, Value.nilFunc⟩
theorem ty76 : E.ty 76 = some ti76 := by kernel_rfl
theorem ty76k : ti76.kind = TK.func := rfl
theorem ty76s : ti76.size = 1 := rfl
theorem ty76b : ti76.bytes = 8 := rfl
theorem ty76z : AV.ofV ti76.zero = .lit (Value.nilFunc) := rfl
theorem ty76o : zeroOk ti76 = true := by kernel_rfl
theorem ty76t {xs : List AV} : takeT ti76 xs = xs.head? := by cases xs <;> rfl
theorem fn3 : E.fn 3 = some ⟨48, (Go.Proofs.Try.f3.body).getD .skip, Go.Proofs.Try.f3.results.toList⟩ := fnOf_eq Go.Proofs.Try.func3 (by kernel_rfl)
theorem fn4 : E.fn 4 = some ⟨51, (Go.Proofs.Try.f4.body).getD .skip, Go.Proofs.Try.f4.results.toList⟩ := fnOf_eq Go.Proofs.Try.func4 (by kernel_rfl)
theorem fn5 : E.fn 5 = some ⟨25, (Go.Proofs.Try.f5.body).getD .skip, Go.Proofs.Try.f5.results.toList⟩ := fnOf_eq Go.Proofs.Try.func5 (by kernel_rfl)
theorem fn6 : E.fn 6 = some ⟨136, (Go.Proofs.Try.f6.body).getD .skip, Go.Proofs.Try.f6.results.toList⟩ := fnOf_eq Go.Proofs.Try.func6 (by kernel_rfl)
theorem fn7 : E.fn 7 = some ⟨91, (Go.Proofs.Try.f7.body).getD .skip, Go.Proofs.Try.f7.results.toList⟩ := fnOf_eq Go.Proofs.Try.func7 (by kernel_rfl)
theorem fn8 : E.fn 8 = some ⟨105, (Go.Proofs.Try.f8.body).getD .skip, Go.Proofs.Try.f8.results.toList⟩ := fnOf_eq Go.Proofs.Try.func8 (by kernel_rfl)
theorem fn9 : E.fn 9 = some ⟨143, (Go.Proofs.Try.f9.body).getD .skip, Go.Proofs.Try.f9.results.toList⟩ := fnOf_eq Go.Proofs.Try.func9 (by kernel_rfl)
theorem fn10 : E.fn 10 = some ⟨9, (Go.Proofs.Try.f10.body).getD .skip, Go.Proofs.Try.f10.results.toList⟩ := fnOf_eq Go.Proofs.Try.func10 (by kernel_rfl)
theorem fn11 : E.fn 11 = some ⟨35, (Go.Proofs.Try.f11.body).getD .skip, Go.Proofs.Try.f11.results.toList⟩ := fnOf_eq Go.Proofs.Try.func11 (by kernel_rfl)
theorem fn12 : E.fn 12 = some ⟨48, (Go.Proofs.Try.f12.body).getD .skip, Go.Proofs.Try.f12.results.toList⟩ := fnOf_eq Go.Proofs.Try.func12 (by kernel_rfl)
theorem fn13 : E.fn 13 = some ⟨8, (Go.Proofs.Try.f13.body).getD .skip, Go.Proofs.Try.f13.results.toList⟩ := fnOf_eq Go.Proofs.Try.func13 (by kernel_rfl)
theorem fn14 : E.fn 14 = some ⟨15, (Go.Proofs.Try.f14.body).getD .skip, Go.Proofs.Try.f14.results.toList⟩ := fnOf_eq Go.Proofs.Try.func14 (by kernel_rfl)
theorem fn15 : E.fn 15 = some ⟨45, (Go.Proofs.Try.f15.body).getD .skip, Go.Proofs.Try.f15.results.toList⟩ := fnOf_eq Go.Proofs.Try.func15 (by kernel_rfl)
theorem fn16 : E.fn 16 = some ⟨153, (Go.Proofs.Try.f16.body).getD .skip, Go.Proofs.Try.f16.results.toList⟩ := fnOf_eq Go.Proofs.Try.func16 (by kernel_rfl)
theorem fn17 : E.fn 17 = some ⟨23, (Go.Proofs.Try.f17.body).getD .skip, Go.Proofs.Try.f17.results.toList⟩ := fnOf_eq Go.Proofs.Try.func17 (by kernel_rfl)
theorem fn18 : E.fn 18 = some ⟨138, (Go.Proofs.Try.f18.body).getD .skip, Go.Proofs.Try.f18.results.toList⟩ := fnOf_eq Go.Proofs.Try.func18 (by kernel_rfl)
theorem fn19 : E.fn 19 = some ⟨25, (Go.Proofs.Try.f19.body).getD .skip, Go.Proofs.Try.f19.results.toList⟩ := fnOf_eq Go.Proofs.Try.func19 (by kernel_rfl)
theorem fn20 : E.fn 20 = some ⟨25, (Go.Proofs.Try.f20.body).getD .skip, Go.Proofs.Try.f20.results.toList⟩ := fnOf_eq Go.Proofs.Try.func20 (by kernel_rfl)
theorem fn21 : E.fn 21 = some ⟨12, (Go.Proofs.Try.f21.body).getD .skip, Go.Proofs.Try.f21.results.toList⟩ := fnOf_eq Go.Proofs.Try.func21 (by kernel_rfl)
theorem fn22 : E.fn 22 = some ⟨26, (Go.Proofs.Try.f22.body).getD .skip, Go.Proofs.Try.f22.results.toList⟩ := fnOf_eq Go.Proofs.Try.func22 (by kernel_rfl)
theorem fn23 : E.fn 23 = some ⟨31, (Go.Proofs.Try.f23.body).getD .skip, Go.Proofs.Try.f23.results.toList⟩ := fnOf_eq Go.Proofs.Try.func23 (by kernel_rfl)
theorem fn24 : E.fn 24 = some ⟨30, (Go.Proofs.Try.f24.body).getD .skip, Go.Proofs.Try.f24.results.toList⟩ := fnOf_eq Go.Proofs.Try.func24 (by kernel_rfl)
theorem fn25 : E.fn 25 = some ⟨86, (Go.Proofs.Try.f25.body).getD .skip, Go.Proofs.Try.f25.results.toList⟩ := fnOf_eq Go.Proofs.Try.func25 (by kernel_rfl)
theorem fn26 : E.fn 26 = some ⟨60, (Go.Proofs.Try.f26.body).getD .skip, Go.Proofs.Try.f26.results.toList⟩ := fnOf_eq Go.Proofs.Try.func26 (by kernel_rfl)
theorem fn27 : E.fn 27 = some ⟨27, (Go.Proofs.Try.f27.body).getD .skip, Go.Proofs.Try.f27.results.toList⟩ := fnOf_eq Go.Proofs.Try.func27 (by kernel_rfl)
theorem fn28 : E.fn 28 = some ⟨26, (Go.Proofs.Try.f28.body).getD .skip, Go.Proofs.Try.f28.results.toList⟩ := fnOf_eq Go.Proofs.Try.func28 (by kernel_rfl)
theorem fn29 : E.fn 29 = some ⟨40, (Go.Proofs.Try.f29.body).getD .skip, Go.Proofs.Try.f29.results.toList⟩ := fnOf_eq Go.Proofs.Try.func29 (by kernel_rfl)
theorem fn30 : E.fn 30 = some ⟨9, (Go.Proofs.Try.f30.body).getD .skip, Go.Proofs.Try.f30.results.toList⟩ := fnOf_eq Go.Proofs.Try.func30 (by kernel_rfl)
theorem fn31 : E.fn 31 = some ⟨163, (Go.Proofs.Try.f31.body).getD .skip, Go.Proofs.Try.f31.results.toList⟩ := fnOf_eq Go.Proofs.Try.func31 (by kernel_rfl)
theorem fn32 : E.fn 32 = some ⟨14, (Go.Proofs.Try.f32.body).getD .skip, Go.Proofs.Try.f32.results.toList⟩ := fnOf_eq Go.Proofs.Try.func32 (by kernel_rfl)
theorem fn33 : E.fn 33 = some ⟨60, (Go.Proofs.Try.f33.body).getD .skip, Go.Proofs.Try.f33.results.toList⟩ := fnOf_eq Go.Proofs.Try.func33 (by kernel_rfl)
theorem fn34 : E.fn 34 = some ⟨17, (Go.Proofs.Try.f34.body).getD .skip, Go.Proofs.Try.f34.results.toList⟩ := fnOf_eq Go.Proofs.Try.func34 (by kernel_rfl)
theorem fn35 : E.fn 35 = some ⟨8, (Go.Proofs.Try.f35.body).getD .skip, Go.Proofs.Try.f35.results.toList⟩ := fnOf_eq Go.Proofs.Try.func35 (by kernel_rfl)
theorem fn36 : E.fn 36 = some ⟨19, (Go.Proofs.Try.f36.body).getD .skip, Go.Proofs.Try.f36.results.toList⟩ := fnOf_eq Go.Proofs.Try.func36 (by kernel_rfl)
theorem fn37 : E.fn 37 = some ⟨30, (Go.Proofs.Try.f37.body).getD .skip, Go.Proofs.Try.f37.results.toList⟩ := fnOf_eq Go.Proofs.Try.func37 (by kernel_rfl)
theorem fn38 : E.fn 38 = some ⟨30, (Go.Proofs.Try.f38.body).getD .skip, Go.Proofs.Try.f38.results.toList⟩ := fnOf_eq Go.Proofs.Try.func38 (by kernel_rfl)
theorem fn39 : E.fn 39 = some ⟨30, (Go.Proofs.Try.f39.body).getD .skip, Go.Proofs.Try.f39.results.toList⟩ := fnOf_eq Go.Proofs.Try.func39 (by kernel_rfl)
theorem fn40 : E.fn 40 = some ⟨30, (Go.Proofs.Try.f40.body).getD .skip, Go.Proofs.Try.f40.results.toList⟩ := fnOf_eq Go.Proofs.Try.func40 (by kernel_rfl)
theorem fn41 : E.fn 41 = some ⟨35, (Go.Proofs.Try.f41.body).getD .skip, Go.Proofs.Try.f41.results.toList⟩ := fnOf_eq Go.Proofs.Try.func41 (by kernel_rfl)
theorem fn42 : E.fn 42 = some ⟨93, (Go.Proofs.Try.f42.body).getD .skip, Go.Proofs.Try.f42.results.toList⟩ := fnOf_eq Go.Proofs.Try.func42 (by kernel_rfl)
theorem fn43 : E.fn 43 = some ⟨9, (Go.Proofs.Try.f43.body).getD .skip, Go.Proofs.Try.f43.results.toList⟩ := fnOf_eq Go.Proofs.Try.func43 (by kernel_rfl)
end Go.Abs
