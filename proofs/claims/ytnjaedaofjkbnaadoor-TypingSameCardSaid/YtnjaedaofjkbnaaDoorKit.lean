/- Facts of types, functions and laid tables of the program that the abstract runs ask for; written by wip/gen/kit.py. Conditions: none. -/
import Derived.Test.YtnjaedaofjkbnaaDoorProg
import Derived.Test.YtnjaedaofjkbnaaDoorChecked
import Derived.Test.YtnjaedaofjkbnaaDoorAbs10
set_option maxRecDepth 100000
set_option linter.unusedVariables false
namespace Go.Abs
open Go
noncomputable abbrev P : Program := Go.Proofs.Tryd.prog
/-- The places that are written after they are made. -/
def pol : FuncId → Nat → Nat := fun f d => if (f, d) ∈ ([(3, 5), (3, 6), (4, 7), (5, 5), (5, 6), (5, 7), (9, 1), (9, 2), (9, 3), (9, 4), (10, 4), (10, 5), (17, 4), (19, 2), (19, 3), (19, 4), (21, 1), (21, 2), (21, 3), (22, 6), (24, 5), (28, 2), (28, 4), (28, 6), (29, 4), (29, 6), (30, 2), (30, 3), (33, 43), (35, 96), (36, 5), (36, 24), (36, 31), (36, 38), (43, 5), (44, 7), (51, 2), (51, 4), (51, 6), (52, 2), (52, 3), (52, 4), (53, 6), (56, 2), (58, 8), (59, 37), (60, 8), (60, 83), (62, 10), (62, 149), (74, 6), (75, 4), (76, 4), (76, 5), (76, 7), (77, 5), (77, 9), (89, 4), (94, 6), (111, 3), (114, 7), (123, 2)] : List (Nat × Nat)) then 1 else 0
def tab_ladderback_alu_goes : List AV := [.lit (.int .i64 76), .lit (.int .i64 76), .lit (.int .i64 12), .lit (.int .i64 12), .lit (.int .i64 12), .lit (.int .i64 76), .lit (.int .i64 50), .lit (.int .i64 50), .lit (.int .i64 50), .lit (.int .i64 50), .lit (.int .i64 48), .lit (.int .i64 48), .lit (.int .i64 126), .lit (.int .i64 126), .lit (.int .i64 124), .lit (.int .i64 124), .lit (.int .i64 124), .lit (.int .i64 124)]
def tab_ladderback_block_rows : List AV := [.lit (.string ⟨#[]⟩), .lit (.int .i64 0), .lit (.string ⟨#[]⟩), .lit (.int .i64 0), .lit (.string ⟨#[]⟩), .lit (.int .i64 0), .lit (.string ⟨#[]⟩), .lit (.int .i64 0), .lit (.string ⟨#[]⟩), .lit (.int .i64 0), .lit (.string ⟨#[]⟩), .lit (.int .i64 0), .lit (.string ⟨#[]⟩), .lit (.int .i64 0), .lit (.string ⟨#[]⟩), .lit (.int .i64 0), .lit (.string ⟨#[]⟩), .lit (.int .i64 0), .lit (.string ⟨#[84, 79, 78]⟩), .lit (.int .i64 2), .lit (.string ⟨#[73, 78]⟩), .lit (.int .i64 1), .lit (.string ⟨#[80, 84]⟩), .lit (.int .i64 6), .lit (.string ⟨#[81]⟩), .lit (.int .i64 1), .lit (.string ⟨#[69, 84]⟩), .lit (.int .i64 6), .lit (.string ⟨#[]⟩), .lit (.int .i64 0), .lit (.string ⟨#[]⟩), .lit (.int .i64 0), .lit (.string ⟨#[]⟩), .lit (.int .i64 0), .lit (.string ⟨#[]⟩), .lit (.int .i64 0), .lit (.string ⟨#[84, 79, 70]⟩), .lit (.int .i64 2), .lit (.string ⟨#[73, 78]⟩), .lit (.int .i64 1), .lit (.string ⟨#[80, 84]⟩), .lit (.int .i64 6), .lit (.string ⟨#[81]⟩), .lit (.int .i64 1), .lit (.string ⟨#[69, 84]⟩), .lit (.int .i64 6), .lit (.string ⟨#[]⟩), .lit (.int .i64 0), .lit (.string ⟨#[]⟩), .lit (.int .i64 0), .lit (.string ⟨#[]⟩), .lit (.int .i64 0), .lit (.string ⟨#[]⟩), .lit (.int .i64 0), .lit (.string ⟨#[84, 80]⟩), .lit (.int .i64 2), .lit (.string ⟨#[73, 78]⟩), .lit (.int .i64 1), .lit (.string ⟨#[80, 84]⟩), .lit (.int .i64 6), .lit (.string ⟨#[81]⟩), .lit (.int .i64 1), .lit (.string ⟨#[69, 84]⟩), .lit (.int .i64 6), .lit (.string ⟨#[]⟩), .lit (.int .i64 0), .lit (.string ⟨#[]⟩), .lit (.int .i64 0), .lit (.string ⟨#[]⟩), .lit (.int .i64 0), .lit (.string ⟨#[]⟩), .lit (.int .i64 0), .lit (.string ⟨#[67, 84, 85]⟩), .lit (.int .i64 3), .lit (.string ⟨#[67, 85]⟩), .lit (.int .i64 1), .lit (.string ⟨#[82]⟩), .lit (.int .i64 1), .lit (.string ⟨#[80, 86]⟩), .lit (.int .i64 2), .lit (.string ⟨#[81]⟩), .lit (.int .i64 1), .lit (.string ⟨#[67, 86]⟩), .lit (.int .i64 2), .lit (.string ⟨#[]⟩), .lit (.int .i64 0), .lit (.string ⟨#[]⟩), .lit (.int .i64 0), .lit (.string ⟨#[]⟩), .lit (.int .i64 0), .lit (.string ⟨#[67, 84, 68]⟩), .lit (.int .i64 3), .lit (.string ⟨#[67, 68]⟩), .lit (.int .i64 1), .lit (.string ⟨#[76, 68]⟩), .lit (.int .i64 1), .lit (.string ⟨#[80, 86]⟩), .lit (.int .i64 2), .lit (.string ⟨#[81]⟩), .lit (.int .i64 1), .lit (.string ⟨#[67, 86]⟩), .lit (.int .i64 2), .lit (.string ⟨#[]⟩), .lit (.int .i64 0), .lit (.string ⟨#[]⟩), .lit (.int .i64 0), .lit (.string ⟨#[]⟩), .lit (.int .i64 0), .lit (.string ⟨#[67, 84, 85, 68]⟩), .lit (.int .i64 5), .lit (.string ⟨#[67, 85]⟩), .lit (.int .i64 1), .lit (.string ⟨#[67, 68]⟩), .lit (.int .i64 1), .lit (.string ⟨#[82]⟩), .lit (.int .i64 1), .lit (.string ⟨#[76, 68]⟩), .lit (.int .i64 1), .lit (.string ⟨#[80, 86]⟩), .lit (.int .i64 2), .lit (.string ⟨#[81, 85]⟩), .lit (.int .i64 1), .lit (.string ⟨#[81, 68]⟩), .lit (.int .i64 1), .lit (.string ⟨#[67, 86]⟩), .lit (.int .i64 2), .lit (.string ⟨#[82, 95, 84, 82, 73, 71]⟩), .lit (.int .i64 1), .lit (.string ⟨#[67, 76, 75]⟩), .lit (.int .i64 1), .lit (.string ⟨#[81]⟩), .lit (.int .i64 1), .lit (.string ⟨#[]⟩), .lit (.int .i64 0), .lit (.string ⟨#[]⟩), .lit (.int .i64 0), .lit (.string ⟨#[]⟩), .lit (.int .i64 0), .lit (.string ⟨#[]⟩), .lit (.int .i64 0), .lit (.string ⟨#[]⟩), .lit (.int .i64 0), .lit (.string ⟨#[]⟩), .lit (.int .i64 0), .lit (.string ⟨#[70, 95, 84, 82, 73, 71]⟩), .lit (.int .i64 1), .lit (.string ⟨#[67, 76, 75]⟩), .lit (.int .i64 1), .lit (.string ⟨#[81]⟩), .lit (.int .i64 1), .lit (.string ⟨#[]⟩), .lit (.int .i64 0), .lit (.string ⟨#[]⟩), .lit (.int .i64 0), .lit (.string ⟨#[]⟩), .lit (.int .i64 0), .lit (.string ⟨#[]⟩), .lit (.int .i64 0), .lit (.string ⟨#[]⟩), .lit (.int .i64 0), .lit (.string ⟨#[]⟩), .lit (.int .i64 0)]
def tab_ladderback_op_rows : List AV := [.lit (.string ⟨#[110, 111, 112]⟩), .lit (.int .i64 10), .lit (.int .i64 10), .lit (.string ⟨#[99, 111, 110, 115, 116]⟩), .lit (.int .i64 1), .lit (.int .i64 0), .lit (.string ⟨#[108, 111, 97, 100]⟩), .lit (.int .i64 2), .lit (.int .i64 0), .lit (.string ⟨#[115, 116, 111, 114, 101]⟩), .lit (.int .i64 2), .lit (.int .i64 0), .lit (.string ⟨#[103, 101, 116]⟩), .lit (.int .i64 3), .lit (.int .i64 0), .lit (.string ⟨#[112, 117, 116]⟩), .lit (.int .i64 3), .lit (.int .i64 0), .lit (.string ⟨#[105, 116, 101, 109]⟩), .lit (.int .i64 2), .lit (.int .i64 0), .lit (.string ⟨#[107, 101, 101, 112]⟩), .lit (.int .i64 2), .lit (.int .i64 0), .lit (.string ⟨#[97, 100, 100]⟩), .lit (.int .i64 4), .lit (.int .i64 0), .lit (.string ⟨#[115, 117, 98]⟩), .lit (.int .i64 4), .lit (.int .i64 0), .lit (.string ⟨#[109, 117, 108]⟩), .lit (.int .i64 4), .lit (.int .i64 0), .lit (.string ⟨#[100, 105, 118]⟩), .lit (.int .i64 4), .lit (.int .i64 0), .lit (.string ⟨#[109, 111, 100]⟩), .lit (.int .i64 4), .lit (.int .i64 0), .lit (.string ⟨#[110, 101, 103]⟩), .lit (.int .i64 4), .lit (.int .i64 0), .lit (.string ⟨#[97, 110, 100]⟩), .lit (.int .i64 4), .lit (.int .i64 0), .lit (.string ⟨#[111, 114]⟩), .lit (.int .i64 4), .lit (.int .i64 0), .lit (.string ⟨#[120, 111, 114]⟩), .lit (.int .i64 4), .lit (.int .i64 0), .lit (.string ⟨#[110, 111, 116]⟩), .lit (.int .i64 4), .lit (.int .i64 0), .lit (.string ⟨#[115, 104, 108]⟩), .lit (.int .i64 4), .lit (.int .i64 0), .lit (.string ⟨#[115, 104, 114]⟩), .lit (.int .i64 4), .lit (.int .i64 0), .lit (.string ⟨#[101, 113]⟩), .lit (.int .i64 4), .lit (.int .i64 0), .lit (.string ⟨#[110, 101]⟩), .lit (.int .i64 4), .lit (.int .i64 0), .lit (.string ⟨#[108, 116]⟩), .lit (.int .i64 4), .lit (.int .i64 0), .lit (.string ⟨#[108, 101]⟩), .lit (.int .i64 4), .lit (.int .i64 0), .lit (.string ⟨#[103, 116]⟩), .lit (.int .i64 4), .lit (.int .i64 0), .lit (.string ⟨#[103, 101]⟩), .lit (.int .i64 4), .lit (.int .i64 0), .lit (.string ⟨#[99, 111, 110, 118]⟩), .lit (.int .i64 4), .lit (.int .i64 4), .lit (.string ⟨#[100, 117, 112]⟩), .lit (.int .i64 0), .lit (.int .i64 0), .lit (.string ⟨#[112, 111, 112]⟩), .lit (.int .i64 0), .lit (.int .i64 0), .lit (.string ⟨#[115, 119, 97, 112]⟩), .lit (.int .i64 0), .lit (.int .i64 0), .lit (.string ⟨#[106, 117, 109, 112]⟩), .lit (.int .i64 5), .lit (.int .i64 10), .lit (.string ⟨#[102, 97, 108, 115, 101]⟩), .lit (.int .i64 5), .lit (.int .i64 10), .lit (.string ⟨#[115, 119, 105, 116, 99, 104]⟩), .lit (.int .i64 6), .lit (.int .i64 10), .lit (.string ⟨#[99, 97, 108, 108]⟩), .lit (.int .i64 7), .lit (.int .i64 0), .lit (.string ⟨#[114, 101, 116]⟩), .lit (.int .i64 0), .lit (.int .i64 0), .lit (.string ⟨#[115, 101, 116]⟩), .lit (.int .i64 8), .lit (.int .i64 9), .lit (.string ⟨#[114, 117, 110]⟩), .lit (.int .i64 8), .lit (.int .i64 0), .lit (.string ⟨#[111, 117, 116]⟩), .lit (.int .i64 8), .lit (.int .i64 9)]
def GT : Nat → Option (List AV) := fun g => if g = 0 then some tab_ladderback_op_rows else if g = 1 then some tab_ladderback_alu_goes else if g = 2 then some tab_ladderback_block_rows else none
noncomputable def E : Env := Env.of P GT pol (slP 79 64 65)
theorem E_prim : E.prim = slP 79 64 65 := rfl
theorem E_pol : E.pol = pol := rfl
theorem E_G0 : E.G 0 = some tab_ladderback_op_rows := rfl
theorem E_G1 : E.G 1 = some tab_ladderback_alu_goes := rfl
theorem E_G2 : E.G 2 = some tab_ladderback_block_rows := rfl
def ti3 : TI := ⟨TK.int IntKind.i64, 1, 8, Value.int IntKind.i64 0⟩
theorem ty3 : E.ty 3 = some ti3 := by kernel_rfl
theorem ty3k : ti3.kind = TK.int IntKind.i64 := rfl
theorem ty3s : ti3.size = 1 := rfl
theorem ty3b : ti3.bytes = 8 := rfl
theorem ty3z : AV.ofV ti3.zero = .lit (Value.int IntKind.i64 0) := rfl
theorem ty3o : zeroOk ti3 = true := by kernel_rfl
theorem ty3t {xs : List AV} : takeT ti3 xs = xs.head? := by cases xs <;> rfl
def ti4 : TI := ⟨TK.bool, 1, 1, Value.bool false⟩
theorem ty4 : E.ty 4 = some ti4 := by kernel_rfl
theorem ty4k : ti4.kind = TK.bool := rfl
theorem ty4s : ti4.size = 1 := rfl
theorem ty4b : ti4.bytes = 1 := rfl
theorem ty4z : AV.ofV ti4.zero = .lit (Value.bool false) := rfl
theorem ty4o : zeroOk ti4 = true := by kernel_rfl
theorem ty4t {xs : List AV} : takeT ti4 xs = xs.head? := by cases xs <;> rfl
def ti5 : TI := ⟨TK.int IntKind.u8, 1, 1, Value.int IntKind.u8 0⟩
theorem ty5 : E.ty 5 = some ti5 := by kernel_rfl
theorem ty5k : ti5.kind = TK.int IntKind.u8 := rfl
theorem ty5s : ti5.size = 1 := rfl
theorem ty5b : ti5.bytes = 1 := rfl
theorem ty5z : AV.ofV ti5.zero = .lit (Value.int IntKind.u8 0) := rfl
theorem ty5o : zeroOk ti5 = true := by kernel_rfl
theorem ty5t {xs : List AV} : takeT ti5 xs = xs.head? := by cases xs <;> rfl
def ti9 : TI := ⟨TK.string, 1, 16, Value.string (ByteArray.mk #[])⟩
theorem ty9 : E.ty 9 = some ti9 := by kernel_rfl
theorem ty9k : ti9.kind = TK.string := rfl
theorem ty9s : ti9.size = 1 := rfl
theorem ty9b : ti9.bytes = 16 := rfl
theorem ty9z : AV.ofV ti9.zero = .lit (Value.string (ByteArray.mk #[])) := rfl
theorem ty9o : zeroOk ti9 = true := by kernel_rfl
theorem ty9t {xs : List AV} : takeT ti9 xs = xs.head? := by cases xs <;> rfl
def ti21 : TI := ⟨TK.int IntKind.i32, 1, 4, Value.int IntKind.i32 0⟩
theorem ty21 : E.ty 21 = some ti21 := by kernel_rfl
theorem ty21k : ti21.kind = TK.int IntKind.i32 := rfl
theorem ty21s : ti21.size = 1 := rfl
theorem ty21b : ti21.bytes = 4 := rfl
theorem ty21z : AV.ofV ti21.zero = .lit (Value.int IntKind.i32 0) := rfl
theorem ty21o : zeroOk ti21 = true := by kernel_rfl
theorem ty21t {xs : List AV} : takeT ti21 xs = xs.head? := by cases xs <;> rfl
def ti22 : TI := ⟨TK.slice 133, 1, 24, Value.slice none 0 0⟩
theorem ty22 : E.ty 22 = some ti22 := by kernel_rfl
theorem ty22k : ti22.kind = TK.slice 133 := rfl
theorem ty22s : ti22.size = 1 := rfl
theorem ty22b : ti22.bytes = 24 := rfl
theorem ty22z : AV.ofV ti22.zero = .lit (Value.slice none 0 0) := rfl
theorem ty22o : zeroOk ti22 = true := by kernel_rfl
theorem ty22t {xs : List AV} : takeT ti22 xs = xs.head? := by cases xs <;> rfl
def ti23 : TI := ⟨TK.slice 83, 1, 24, Value.slice none 0 0⟩
theorem ty23 : E.ty 23 = some ti23 := by kernel_rfl
theorem ty23k : ti23.kind = TK.slice 83 := rfl
theorem ty23s : ti23.size = 1 := rfl
theorem ty23b : ti23.bytes = 24 := rfl
theorem ty23z : AV.ofV ti23.zero = .lit (Value.slice none 0 0) := rfl
theorem ty23o : zeroOk ti23 = true := by kernel_rfl
theorem ty23t {xs : List AV} : takeT ti23 xs = xs.head? := by cases xs <;> rfl
def ti24 : TI := ⟨TK.slice 99, 1, 24, Value.slice none 0 0⟩
theorem ty24 : E.ty 24 = some ti24 := by kernel_rfl
theorem ty24k : ti24.kind = TK.slice 99 := rfl
theorem ty24s : ti24.size = 1 := rfl
theorem ty24b : ti24.bytes = 24 := rfl
theorem ty24z : AV.ofV ti24.zero = .lit (Value.slice none 0 0) := rfl
theorem ty24o : zeroOk ti24 = true := by kernel_rfl
theorem ty24t {xs : List AV} : takeT ti24 xs = xs.head? := by cases xs <;> rfl
def ti25 : TI := ⟨TK.slice 72, 1, 24, Value.slice none 0 0⟩
theorem ty25 : E.ty 25 = some ti25 := by kernel_rfl
theorem ty25k : ti25.kind = TK.slice 72 := rfl
theorem ty25s : ti25.size = 1 := rfl
theorem ty25b : ti25.bytes = 24 := rfl
theorem ty25z : AV.ofV ti25.zero = .lit (Value.slice none 0 0) := rfl
theorem ty25o : zeroOk ti25 = true := by kernel_rfl
theorem ty25t {xs : List AV} : takeT ti25 xs = xs.head? := by cases xs <;> rfl
def ti27 : TI := ⟨TK.struct [(0, 22), (1, 23), (2, 24), (3, 25)], 4, 96, Value.agg #[Value.slice none 0 0, Value.slice none 0 0, Value.slice none 0 0, Value.slice none 0 0]⟩
theorem ty27 : E.ty 27 = some ti27 := by kernel_rfl
theorem ty27k : ti27.kind = TK.struct [(0, 22), (1, 23), (2, 24), (3, 25)] := rfl
theorem ty27s : ti27.size = 4 := rfl
theorem ty27b : ti27.bytes = 96 := rfl
theorem ty27z : AV.ofV ti27.zero = .agg [.lit (Value.slice none 0 0), .lit (Value.slice none 0 0), .lit (Value.slice none 0 0), .lit (Value.slice none 0 0)] := rfl
theorem ty27o : zeroOk ti27 = true := by kernel_rfl
theorem ty27t {xs : List AV} : takeT ti27 xs = if 4 ≤ xs.length then some (.agg (xs.take 4)) else none := rfl
def ti28 : TI := ⟨TK.slice 32, 1, 24, Value.slice none 0 0⟩
theorem ty28 : E.ty 28 = some ti28 := by kernel_rfl
theorem ty28k : ti28.kind = TK.slice 32 := rfl
theorem ty28s : ti28.size = 1 := rfl
theorem ty28b : ti28.bytes = 24 := rfl
theorem ty28z : AV.ofV ti28.zero = .lit (Value.slice none 0 0) := rfl
theorem ty28o : zeroOk ti28 = true := by kernel_rfl
theorem ty28t {xs : List AV} : takeT ti28 xs = xs.head? := by cases xs <;> rfl
def ti29 : TI := ⟨TK.slice 191, 1, 24, Value.slice none 0 0⟩
theorem ty29 : E.ty 29 = some ti29 := by kernel_rfl
theorem ty29k : ti29.kind = TK.slice 191 := rfl
theorem ty29s : ti29.size = 1 := rfl
theorem ty29b : ti29.bytes = 24 := rfl
theorem ty29z : AV.ofV ti29.zero = .lit (Value.slice none 0 0) := rfl
theorem ty29o : zeroOk ti29 = true := by kernel_rfl
theorem ty29t {xs : List AV} : takeT ti29 xs = xs.head? := by cases xs <;> rfl
def ti31 : TI := ⟨TK.struct [(0, 28), (1, 29), (2, 3), (3, 3)], 4, 64, Value.agg #[Value.slice none 0 0, Value.slice none 0 0, Value.int IntKind.i64 0, Value.int IntKind.i64 0]⟩
theorem ty31 : E.ty 31 = some ti31 := by kernel_rfl
theorem ty31k : ti31.kind = TK.struct [(0, 28), (1, 29), (2, 3), (3, 3)] := rfl
theorem ty31s : ti31.size = 4 := rfl
theorem ty31b : ti31.bytes = 64 := rfl
theorem ty31z : AV.ofV ti31.zero = .agg [.lit (Value.slice none 0 0), .lit (Value.slice none 0 0), .lit (Value.int IntKind.i64 0), .lit (Value.int IntKind.i64 0)] := rfl
theorem ty31o : zeroOk ti31 = true := by kernel_rfl
theorem ty31t {xs : List AV} : takeT ti31 xs = if 4 ≤ xs.length then some (.agg (xs.take 4)) else none := rfl
def ti32 : TI := ⟨TK.slice 3, 1, 24, Value.slice none 0 0⟩
theorem ty32 : E.ty 32 = some ti32 := by kernel_rfl
theorem ty32k : ti32.kind = TK.slice 3 := rfl
theorem ty32s : ti32.size = 1 := rfl
theorem ty32b : ti32.bytes = 24 := rfl
theorem ty32z : AV.ofV ti32.zero = .lit (Value.slice none 0 0) := rfl
theorem ty32o : zeroOk ti32 = true := by kernel_rfl
theorem ty32t {xs : List AV} : takeT ti32 xs = xs.head? := by cases xs <;> rfl
def ti34 : TI := ⟨TK.struct [(0, 27), (4, 3), (5, 31), (9, 32)], 10, 192, Value.agg #[Value.slice none 0 0, Value.slice none 0 0, Value.slice none 0 0, Value.slice none 0 0, Value.int IntKind.i64 0, Value.slice none 0 0, Value.slice none 0 0, Value.int IntKind.i64 0, Value.int IntKind.i64 0, Value.slice none 0 0]⟩
theorem ty34 : E.ty 34 = some ti34 := by kernel_rfl
theorem ty34k : ti34.kind = TK.struct [(0, 27), (4, 3), (5, 31), (9, 32)] := rfl
theorem ty34s : ti34.size = 10 := rfl
theorem ty34b : ti34.bytes = 192 := rfl
theorem ty34z : AV.ofV ti34.zero = .agg [.lit (Value.slice none 0 0), .lit (Value.slice none 0 0), .lit (Value.slice none 0 0), .lit (Value.slice none 0 0), .lit (Value.int IntKind.i64 0), .lit (Value.slice none 0 0), .lit (Value.slice none 0 0), .lit (Value.int IntKind.i64 0), .lit (Value.int IntKind.i64 0), .lit (Value.slice none 0 0)] := rfl
theorem ty34o : zeroOk ti34 = true := by kernel_rfl
theorem ty34t {xs : List AV} : takeT ti34 xs = if 10 ≤ xs.length then some (.agg (xs.take 10)) else none := rfl
def ti35 : TI := ⟨TK.slice 37, 1, 24, Value.slice none 0 0⟩
theorem ty35 : E.ty 35 = some ti35 := by kernel_rfl
theorem ty35k : ti35.kind = TK.slice 37 := rfl
theorem ty35s : ti35.size = 1 := rfl
theorem ty35b : ti35.bytes = 24 := rfl
theorem ty35z : AV.ofV ti35.zero = .lit (Value.slice none 0 0) := rfl
theorem ty35o : zeroOk ti35 = true := by kernel_rfl
theorem ty35t {xs : List AV} : takeT ti35 xs = xs.head? := by cases xs <;> rfl
def ti37 : TI := ⟨TK.struct [(0, 3), (1, 3), (2, 3), (3, 3), (4, 35)], 5, 56, Value.agg #[Value.int IntKind.i64 0, Value.int IntKind.i64 0, Value.int IntKind.i64 0, Value.int IntKind.i64 0, Value.slice none 0 0]⟩
theorem ty37 : E.ty 37 = some ti37 := by kernel_rfl
theorem ty37k : ti37.kind = TK.struct [(0, 3), (1, 3), (2, 3), (3, 3), (4, 35)] := rfl
theorem ty37s : ti37.size = 5 := rfl
theorem ty37b : ti37.bytes = 56 := rfl
theorem ty37z : AV.ofV ti37.zero = .agg [.lit (Value.int IntKind.i64 0), .lit (Value.int IntKind.i64 0), .lit (Value.int IntKind.i64 0), .lit (Value.int IntKind.i64 0), .lit (Value.slice none 0 0)] := rfl
theorem ty37o : zeroOk ti37 = true := by kernel_rfl
theorem ty37t {xs : List AV} : takeT ti37 xs = if 5 ≤ xs.length then some (.agg (xs.take 5)) else none := rfl
def ti41 : TI := ⟨TK.slice 88, 1, 24, Value.slice none 0 0⟩
theorem ty41 : E.ty 41 = some ti41 := by kernel_rfl
theorem ty41k : ti41.kind = TK.slice 88 := rfl
theorem ty41s : ti41.size = 1 := rfl
theorem ty41b : ti41.bytes = 24 := rfl
theorem ty41z : AV.ofV ti41.zero = .lit (Value.slice none 0 0) := rfl
theorem ty41o : zeroOk ti41 = true := by kernel_rfl
theorem ty41t {xs : List AV} : takeT ti41 xs = xs.head? := by cases xs <;> rfl
def ti43 : TI := ⟨TK.struct [(0, 23), (1, 24), (2, 41), (3, 32)], 4, 96, Value.agg #[Value.slice none 0 0, Value.slice none 0 0, Value.slice none 0 0, Value.slice none 0 0]⟩
theorem ty43 : E.ty 43 = some ti43 := by kernel_rfl
theorem ty43k : ti43.kind = TK.struct [(0, 23), (1, 24), (2, 41), (3, 32)] := rfl
theorem ty43s : ti43.size = 4 := rfl
theorem ty43b : ti43.bytes = 96 := rfl
theorem ty43z : AV.ofV ti43.zero = .agg [.lit (Value.slice none 0 0), .lit (Value.slice none 0 0), .lit (Value.slice none 0 0), .lit (Value.slice none 0 0)] := rfl
theorem ty43o : zeroOk ti43 = true := by kernel_rfl
theorem ty43t {xs : List AV} : takeT ti43 xs = if 4 ≤ xs.length then some (.agg (xs.take 4)) else none := rfl
def ti52 : TI := ⟨TK.slice 54, 1, 24, Value.slice none 0 0⟩
theorem ty52 : E.ty 52 = some ti52 := by kernel_rfl
theorem ty52k : ti52.kind = TK.slice 54 := rfl
theorem ty52s : ti52.size = 1 := rfl
theorem ty52b : ti52.bytes = 24 := rfl
theorem ty52z : AV.ofV ti52.zero = .lit (Value.slice none 0 0) := rfl
theorem ty52o : zeroOk ti52 = true := by kernel_rfl
theorem ty52t {xs : List AV} : takeT ti52 xs = xs.head? := by cases xs <;> rfl
def ti54 : TI := ⟨TK.struct [(0, 3), (1, 3), (2, 37), (7, 52)], 8, 96, Value.agg #[Value.int IntKind.i64 0, Value.int IntKind.i64 0, Value.int IntKind.i64 0, Value.int IntKind.i64 0, Value.int IntKind.i64 0, Value.int IntKind.i64 0, Value.slice none 0 0, Value.slice none 0 0]⟩
theorem ty54 : E.ty 54 = some ti54 := by kernel_rfl
theorem ty54k : ti54.kind = TK.struct [(0, 3), (1, 3), (2, 37), (7, 52)] := rfl
theorem ty54s : ti54.size = 8 := rfl
theorem ty54b : ti54.bytes = 96 := rfl
theorem ty54z : AV.ofV ti54.zero = .agg [.lit (Value.int IntKind.i64 0), .lit (Value.int IntKind.i64 0), .lit (Value.int IntKind.i64 0), .lit (Value.int IntKind.i64 0), .lit (Value.int IntKind.i64 0), .lit (Value.int IntKind.i64 0), .lit (Value.slice none 0 0), .lit (Value.slice none 0 0)] := rfl
theorem ty54o : zeroOk ti54 = true := by kernel_rfl
theorem ty54t {xs : List AV} : takeT ti54 xs = if 8 ≤ xs.length then some (.agg (xs.take 8)) else none := rfl
def ti65 : TI := ⟨TK.slice 4, 1, 24, Value.slice none 0 0⟩
theorem ty65 : E.ty 65 = some ti65 := by kernel_rfl
theorem ty65k : ti65.kind = TK.slice 4 := rfl
theorem ty65s : ti65.size = 1 := rfl
theorem ty65b : ti65.bytes = 24 := rfl
theorem ty65z : AV.ofV ti65.zero = .lit (Value.slice none 0 0) := rfl
theorem ty65o : zeroOk ti65 = true := by kernel_rfl
theorem ty65t {xs : List AV} : takeT ti65 xs = xs.head? := by cases xs <;> rfl
def ti66 : TI := ⟨TK.int IntKind.i64, 1, 8, Value.int IntKind.i64 0⟩
theorem ty66 : E.ty 66 = some ti66 := by kernel_rfl
theorem ty66k : ti66.kind = TK.int IntKind.i64 := rfl
theorem ty66s : ti66.size = 1 := rfl
theorem ty66b : ti66.bytes = 8 := rfl
theorem ty66z : AV.ofV ti66.zero = .lit (Value.int IntKind.i64 0) := rfl
theorem ty66o : zeroOk ti66 = true := by kernel_rfl
theorem ty66t {xs : List AV} : takeT ti66 xs = xs.head? := by cases xs <;> rfl
def ti70 : TI := ⟨TK.slice 76, 1, 24, Value.slice none 0 0⟩
theorem ty70 : E.ty 70 = some ti70 := by kernel_rfl
theorem ty70k : ti70.kind = TK.slice 76 := rfl
theorem ty70s : ti70.size = 1 := rfl
theorem ty70b : ti70.bytes = 24 := rfl
theorem ty70z : AV.ofV ti70.zero = .lit (Value.slice none 0 0) := rfl
theorem ty70o : zeroOk ti70 = true := by kernel_rfl
theorem ty70t {xs : List AV} : takeT ti70 xs = xs.head? := by cases xs <;> rfl
def ti72 : TI := ⟨TK.struct [(0, 9), (1, 32), (2, 3), (3, 32), (4, 70)], 5, 96, Value.agg #[Value.string (ByteArray.mk #[]), Value.slice none 0 0, Value.int IntKind.i64 0, Value.slice none 0 0, Value.slice none 0 0]⟩
theorem ty72 : E.ty 72 = some ti72 := by kernel_rfl
theorem ty72k : ti72.kind = TK.struct [(0, 9), (1, 32), (2, 3), (3, 32), (4, 70)] := rfl
theorem ty72s : ti72.size = 5 := rfl
theorem ty72b : ti72.bytes = 96 := rfl
theorem ty72z : AV.ofV ti72.zero = .agg [.lit (Value.string (ByteArray.mk #[])), .lit (Value.slice none 0 0), .lit (Value.int IntKind.i64 0), .lit (Value.slice none 0 0), .lit (Value.slice none 0 0)] := rfl
theorem ty72o : zeroOk ti72 = true := by kernel_rfl
theorem ty72t {xs : List AV} : takeT ti72 xs = if 5 ≤ xs.length then some (.agg (xs.take 5)) else none := rfl
def ti76 : TI := ⟨TK.struct [(0, 3), (1, 3), (2, 3)], 3, 24, Value.agg #[Value.int IntKind.i64 0, Value.int IntKind.i64 0, Value.int IntKind.i64 0]⟩
theorem ty76 : E.ty 76 = some ti76 := by kernel_rfl
theorem ty76k : ti76.kind = TK.struct [(0, 3), (1, 3), (2, 3)] := rfl
theorem ty76s : ti76.size = 3 := rfl
theorem ty76b : ti76.bytes = 24 := rfl
theorem ty76z : AV.ofV ti76.zero = .agg [.lit (Value.int IntKind.i64 0), .lit (Value.int IntKind.i64 0), .lit (Value.int IntKind.i64 0)] := rfl
theorem ty76o : zeroOk ti76 = true := by kernel_rfl
theorem ty76t {xs : List AV} : takeT ti76 xs = if 3 ≤ xs.length then some (.agg (xs.take 3)) else none := rfl
def ti83 : TI := ⟨TK.struct [(0, 9), (1, 3), (2, 3), (3, 3), (4, 3)], 5, 48, Value.agg #[Value.string (ByteArray.mk #[]), Value.int IntKind.i64 0, Value.int IntKind.i64 0, Value.int IntKind.i64 0, Value.int IntKind.i64 0]⟩
theorem ty83 : E.ty 83 = some ti83 := by kernel_rfl
theorem ty83k : ti83.kind = TK.struct [(0, 9), (1, 3), (2, 3), (3, 3), (4, 3)] := rfl
theorem ty83s : ti83.size = 5 := rfl
theorem ty83b : ti83.bytes = 48 := rfl
theorem ty83z : AV.ofV ti83.zero = .agg [.lit (Value.string (ByteArray.mk #[])), .lit (Value.int IntKind.i64 0), .lit (Value.int IntKind.i64 0), .lit (Value.int IntKind.i64 0), .lit (Value.int IntKind.i64 0)] := rfl
theorem ty83o : zeroOk ti83 = true := by kernel_rfl
theorem ty83t {xs : List AV} : takeT ti83 xs = if 5 ≤ xs.length then some (.agg (xs.take 5)) else none := rfl
def ti84 : TI := ⟨TK.func, 1, 8, Value.nilFunc⟩
theorem ty84 : E.ty 84 = some ti84 := by kernel_rfl
theorem ty84k : ti84.kind = TK.func := rfl
theorem ty84s : ti84.size = 1 := rfl
theorem ty84b : ti84.bytes = 8 := rfl
theorem ty84z : AV.ofV ti84.zero = .lit (Value.nilFunc) := rfl
theorem ty84o : zeroOk ti84 = true := by kernel_rfl
theorem ty84t {xs : List AV} : takeT ti84 xs = xs.head? := by cases xs <;> rfl
def ti88 : TI := ⟨TK.struct [(0, 32), (1, 3)], 2, 32, Value.agg #[Value.slice none 0 0, Value.int IntKind.i64 0]⟩
theorem ty88 : E.ty 88 = some ti88 := by kernel_rfl
theorem ty88k : ti88.kind = TK.struct [(0, 32), (1, 3)] := rfl
theorem ty88s : ti88.size = 2 := rfl
theorem ty88b : ti88.bytes = 32 := rfl
theorem ty88z : AV.ofV ti88.zero = .agg [.lit (Value.slice none 0 0), .lit (Value.int IntKind.i64 0)] := rfl
theorem ty88o : zeroOk ti88 = true := by kernel_rfl
theorem ty88t {xs : List AV} : takeT ti88 xs = if 2 ≤ xs.length then some (.agg (xs.take 2)) else none := rfl
def ti99 : TI := ⟨TK.struct [(0, 9), (1, 3)], 2, 24, Value.agg #[Value.string (ByteArray.mk #[]), Value.int IntKind.i64 0]⟩
theorem ty99 : E.ty 99 = some ti99 := by kernel_rfl
theorem ty99k : ti99.kind = TK.struct [(0, 9), (1, 3)] := rfl
theorem ty99s : ti99.size = 2 := rfl
theorem ty99b : ti99.bytes = 24 := rfl
theorem ty99z : AV.ofV ti99.zero = .agg [.lit (Value.string (ByteArray.mk #[])), .lit (Value.int IntKind.i64 0)] := rfl
theorem ty99o : zeroOk ti99 = true := by kernel_rfl
theorem ty99t {xs : List AV} : takeT ti99 xs = if 2 ≤ xs.length then some (.agg (xs.take 2)) else none := rfl
def ti103 : TI := ⟨TK.ptr, 1, 8, Value.pointer none⟩
theorem ty103 : E.ty 103 = some ti103 := by kernel_rfl
theorem ty103k : ti103.kind = TK.ptr := rfl
theorem ty103s : ti103.size = 1 := rfl
theorem ty103b : ti103.bytes = 8 := rfl
theorem ty103z : AV.ofV ti103.zero = .lit (Value.pointer none) := rfl
theorem ty103o : zeroOk ti103 = true := by kernel_rfl
theorem ty103t {xs : List AV} : takeT ti103 xs = xs.head? := by cases xs <;> rfl
def ti105 : TI := ⟨TK.struct [(0, 27), (4, 3), (5, 70), (6, 28), (7, 65), (8, 32)], 9, 200, Value.agg #[Value.slice none 0 0, Value.slice none 0 0, Value.slice none 0 0, Value.slice none 0 0, Value.int IntKind.i64 0, Value.slice none 0 0, Value.slice none 0 0, Value.slice none 0 0, Value.slice none 0 0]⟩
theorem ty105 : E.ty 105 = some ti105 := by kernel_rfl
theorem ty105k : ti105.kind = TK.struct [(0, 27), (4, 3), (5, 70), (6, 28), (7, 65), (8, 32)] := rfl
theorem ty105s : ti105.size = 9 := rfl
theorem ty105b : ti105.bytes = 200 := rfl
theorem ty105z : AV.ofV ti105.zero = .agg [.lit (Value.slice none 0 0), .lit (Value.slice none 0 0), .lit (Value.slice none 0 0), .lit (Value.slice none 0 0), .lit (Value.int IntKind.i64 0), .lit (Value.slice none 0 0), .lit (Value.slice none 0 0), .lit (Value.slice none 0 0), .lit (Value.slice none 0 0)] := rfl
theorem ty105o : zeroOk ti105 = true := by kernel_rfl
theorem ty105t {xs : List AV} : takeT ti105 xs = if 9 ≤ xs.length then some (.agg (xs.take 9)) else none := rfl
def ti116 : TI := ⟨TK.slice 9, 1, 24, Value.slice none 0 0⟩
theorem ty116 : E.ty 116 = some ti116 := by kernel_rfl
theorem ty116k : ti116.kind = TK.slice 9 := rfl
theorem ty116s : ti116.size = 1 := rfl
theorem ty116b : ti116.bytes = 24 := rfl
theorem ty116z : AV.ofV ti116.zero = .lit (Value.slice none 0 0) := rfl
theorem ty116o : zeroOk ti116 = true := by kernel_rfl
theorem ty116t {xs : List AV} : takeT ti116 xs = xs.head? := by cases xs <;> rfl
def ti133 : TI := ⟨TK.struct [(0, 3), (1, 3)], 2, 16, Value.agg #[Value.int IntKind.i64 0, Value.int IntKind.i64 0]⟩
theorem ty133 : E.ty 133 = some ti133 := by kernel_rfl
theorem ty133k : ti133.kind = TK.struct [(0, 3), (1, 3)] := rfl
theorem ty133s : ti133.size = 2 := rfl
theorem ty133b : ti133.bytes = 16 := rfl
theorem ty133z : AV.ofV ti133.zero = .agg [.lit (Value.int IntKind.i64 0), .lit (Value.int IntKind.i64 0)] := rfl
theorem ty133o : zeroOk ti133 = true := by kernel_rfl
theorem ty133t {xs : List AV} : takeT ti133 xs = if 2 ≤ xs.length then some (.agg (xs.take 2)) else none := rfl
def ti137 : TI := ⟨TK.int IntKind.u64, 1, 8, Value.int IntKind.u64 0⟩
theorem ty137 : E.ty 137 = some ti137 := by kernel_rfl
theorem ty137k : ti137.kind = TK.int IntKind.u64 := rfl
theorem ty137s : ti137.size = 1 := rfl
theorem ty137b : ti137.bytes = 8 := rfl
theorem ty137z : AV.ofV ti137.zero = .lit (Value.int IntKind.u64 0) := rfl
theorem ty137o : zeroOk ti137 = true := by kernel_rfl
theorem ty137t {xs : List AV} : takeT ti137 xs = xs.head? := by cases xs <;> rfl
def ti144 : TI := ⟨TK.struct [(0, 9), (1, 3), (2, 3)], 3, 32, Value.agg #[Value.string (ByteArray.mk #[]), Value.int IntKind.i64 0, Value.int IntKind.i64 0]⟩
theorem ty144 : E.ty 144 = some ti144 := by kernel_rfl
theorem ty144k : ti144.kind = TK.struct [(0, 9), (1, 3), (2, 3)] := rfl
theorem ty144s : ti144.size = 3 := rfl
theorem ty144b : ti144.bytes = 32 := rfl
theorem ty144z : AV.ofV ti144.zero = .agg [.lit (Value.string (ByteArray.mk #[])), .lit (Value.int IntKind.i64 0), .lit (Value.int IntKind.i64 0)] := rfl
theorem ty144o : zeroOk ti144 = true := by kernel_rfl
theorem ty144t {xs : List AV} : takeT ti144 xs = if 3 ≤ xs.length then some (.agg (xs.take 3)) else none := rfl
def ti145 : TI := ⟨TK.array 38 144, 114, 1216, Value.agg #[Value.string (ByteArray.mk #[]), Value.int IntKind.i64 0, Value.int IntKind.i64 0, Value.string (ByteArray.mk #[]), Value.int IntKind.i64 0, Value.int IntKind.i64 0, Value.string (ByteArray.mk #[]), Value.int IntKind.i64 0, Value.int IntKind.i64 0, Value.string (ByteArray.mk #[]), Value.int IntKind.i64 0, Value.int IntKind.i64 0, Value.string (ByteArray.mk #[]), Value.int IntKind.i64 0, Value.int IntKind.i64 0, Value.string (ByteArray.mk #[]), Value.int IntKind.i64 0, Value.int IntKind.i64 0, Value.string (ByteArray.mk #[]), Value.int IntKind.i64 0, Value.int IntKind.i64 0, Value.string (ByteArray.mk #[]), Value.int IntKind.i64 0, Value.int IntKind.i64 0, Value.string (ByteArray.mk #[]), Value.int IntKind.i64 0, Value.int IntKind.i64 0, Value.string (ByteArray.mk #[]), Value.int IntKind.i64 0, Value.int IntKind.i64 0, Value.string (ByteArray.mk #[]), Value.int IntKind.i64 0, Value.int IntKind.i64 0, Value.string (ByteArray.mk #[]), Value.int IntKind.i64 0, Value.int IntKind.i64 0, Value.string (ByteArray.mk #[]), Value.int IntKind.i64 0, Value.int IntKind.i64 0, Value.string (ByteArray.mk #[]), Value.int IntKind.i64 0, Value.int IntKind.i64 0, Value.string (ByteArray.mk #[]), Value.int IntKind.i64 0, Value.int IntKind.i64 0, Value.string (ByteArray.mk #[]), Value.int IntKind.i64 0, Value.int IntKind.i64 0, Value.string (ByteArray.mk #[]), Value.int IntKind.i64 0, Value.int IntKind.i64 0, Value.string (ByteArray.mk #[]), Value.int IntKind.i64 0, Value.int IntKind.i64 0, Value.string (ByteArray.mk #[]), Value.int IntKind.i64 0, Value.int IntKind.i64 0, Value.string (ByteArray.mk #[]), Value.int IntKind.i64 0, Value.int IntKind.i64 0, Value.string (ByteArray.mk #[]), Value.int IntKind.i64 0, Value.int IntKind.i64 0, Value.string (ByteArray.mk #[]), Value.int IntKind.i64 0, Value.int IntKind.i64 0, Value.string (ByteArray.mk #[]), Value.int IntKind.i64 0, Value.int IntKind.i64 0, Value.string (ByteArray.mk #[]), Value.int IntKind.i64 0, Value.int IntKind.i64 0, Value.string (ByteArray.mk #[]), Value.int IntKind.i64 0, Value.int IntKind.i64 0, Value.string (ByteArray.mk #[]), Value.int IntKind.i64 0, Value.int IntKind.i64 0, Value.string (ByteArray.mk #[]), Value.int IntKind.i64 0, Value.int IntKind.i64 0, Value.string (ByteArray.mk #[]), Value.int IntKind.i64 0, Value.int IntKind.i64 0, Value.string (ByteArray.mk #[]), Value.int IntKind.i64 0, Value.int IntKind.i64 0, Value.string (ByteArray.mk #[]), Value.int IntKind.i64 0, Value.int IntKind.i64 0, Value.string (ByteArray.mk #[]), Value.int IntKind.i64 0, Value.int IntKind.i64 0, Value.string (ByteArray.mk #[]), Value.int IntKind.i64 0, Value.int IntKind.i64 0, Value.string (ByteArray.mk #[]), Value.int IntKind.i64 0, Value.int IntKind.i64 0, Value.string (ByteArray.mk #[]), Value.int IntKind.i64 0, Value.int IntKind.i64 0, Value.string (ByteArray.mk #[]), Value.int IntKind.i64 0, Value.int IntKind.i64 0, Value.string (ByteArray.mk #[]), Value.int IntKind.i64 0, Value.int IntKind.i64 0, Value.string (ByteArray.mk #[]), Value.int IntKind.i64 0, Value.int IntKind.i64 0, Value.string (ByteArray.mk #[]), Value.int IntKind.i64 0, Value.int IntKind.i64 0]⟩
theorem ty145 : E.ty 145 = some ti145 := by kernel_rfl
theorem ty145k : ti145.kind = TK.array 38 144 := rfl
theorem ty145s : ti145.size = 114 := rfl
theorem ty145b : ti145.bytes = 1216 := rfl
theorem ty145z : AV.ofV ti145.zero = .agg [.lit (Value.string (ByteArray.mk #[])), .lit (Value.int IntKind.i64 0), .lit (Value.int IntKind.i64 0), .lit (Value.string (ByteArray.mk #[])), .lit (Value.int IntKind.i64 0), .lit (Value.int IntKind.i64 0), .lit (Value.string (ByteArray.mk #[])), .lit (Value.int IntKind.i64 0), .lit (Value.int IntKind.i64 0), .lit (Value.string (ByteArray.mk #[])), .lit (Value.int IntKind.i64 0), .lit (Value.int IntKind.i64 0), .lit (Value.string (ByteArray.mk #[])), .lit (Value.int IntKind.i64 0), .lit (Value.int IntKind.i64 0), .lit (Value.string (ByteArray.mk #[])), .lit (Value.int IntKind.i64 0), .lit (Value.int IntKind.i64 0), .lit (Value.string (ByteArray.mk #[])), .lit (Value.int IntKind.i64 0), .lit (Value.int IntKind.i64 0), .lit (Value.string (ByteArray.mk #[])), .lit (Value.int IntKind.i64 0), .lit (Value.int IntKind.i64 0), .lit (Value.string (ByteArray.mk #[])), .lit (Value.int IntKind.i64 0), .lit (Value.int IntKind.i64 0), .lit (Value.string (ByteArray.mk #[])), .lit (Value.int IntKind.i64 0), .lit (Value.int IntKind.i64 0), .lit (Value.string (ByteArray.mk #[])), .lit (Value.int IntKind.i64 0), .lit (Value.int IntKind.i64 0), .lit (Value.string (ByteArray.mk #[])), .lit (Value.int IntKind.i64 0), .lit (Value.int IntKind.i64 0), .lit (Value.string (ByteArray.mk #[])), .lit (Value.int IntKind.i64 0), .lit (Value.int IntKind.i64 0), .lit (Value.string (ByteArray.mk #[])), .lit (Value.int IntKind.i64 0), .lit (Value.int IntKind.i64 0), .lit (Value.string (ByteArray.mk #[])), .lit (Value.int IntKind.i64 0), .lit (Value.int IntKind.i64 0), .lit (Value.string (ByteArray.mk #[])), .lit (Value.int IntKind.i64 0), .lit (Value.int IntKind.i64 0), .lit (Value.string (ByteArray.mk #[])), .lit (Value.int IntKind.i64 0), .lit (Value.int IntKind.i64 0), .lit (Value.string (ByteArray.mk #[])), .lit (Value.int IntKind.i64 0), .lit (Value.int IntKind.i64 0), .lit (Value.string (ByteArray.mk #[])), .lit (Value.int IntKind.i64 0), .lit (Value.int IntKind.i64 0), .lit (Value.string (ByteArray.mk #[])), .lit (Value.int IntKind.i64 0), .lit (Value.int IntKind.i64 0), .lit (Value.string (ByteArray.mk #[])), .lit (Value.int IntKind.i64 0), .lit (Value.int IntKind.i64 0), .lit (Value.string (ByteArray.mk #[])), .lit (Value.int IntKind.i64 0), .lit (Value.int IntKind.i64 0), .lit (Value.string (ByteArray.mk #[])), .lit (Value.int IntKind.i64 0), .lit (Value.int IntKind.i64 0), .lit (Value.string (ByteArray.mk #[])), .lit (Value.int IntKind.i64 0), .lit (Value.int IntKind.i64 0), .lit (Value.string (ByteArray.mk #[])), .lit (Value.int IntKind.i64 0), .lit (Value.int IntKind.i64 0), .lit (Value.string (ByteArray.mk #[])), .lit (Value.int IntKind.i64 0), .lit (Value.int IntKind.i64 0), .lit (Value.string (ByteArray.mk #[])), .lit (Value.int IntKind.i64 0), .lit (Value.int IntKind.i64 0), .lit (Value.string (ByteArray.mk #[])), .lit (Value.int IntKind.i64 0), .lit (Value.int IntKind.i64 0), .lit (Value.string (ByteArray.mk #[])), .lit (Value.int IntKind.i64 0), .lit (Value.int IntKind.i64 0), .lit (Value.string (ByteArray.mk #[])), .lit (Value.int IntKind.i64 0), .lit (Value.int IntKind.i64 0), .lit (Value.string (ByteArray.mk #[])), .lit (Value.int IntKind.i64 0), .lit (Value.int IntKind.i64 0), .lit (Value.string (ByteArray.mk #[])), .lit (Value.int IntKind.i64 0), .lit (Value.int IntKind.i64 0), .lit (Value.string (ByteArray.mk #[])), .lit (Value.int IntKind.i64 0), .lit (Value.int IntKind.i64 0), .lit (Value.string (ByteArray.mk #[])), .lit (Value.int IntKind.i64 0), .lit (Value.int IntKind.i64 0), .lit (Value.string (ByteArray.mk #[])), .lit (Value.int IntKind.i64 0), .lit (Value.int IntKind.i64 0), .lit (Value.string (ByteArray.mk #[])), .lit (Value.int IntKind.i64 0), .lit (Value.int IntKind.i64 0), .lit (Value.string (ByteArray.mk #[])), .lit (Value.int IntKind.i64 0), .lit (Value.int IntKind.i64 0), .lit (Value.string (ByteArray.mk #[])), .lit (Value.int IntKind.i64 0), .lit (Value.int IntKind.i64 0)] := rfl
theorem ty145o : zeroOk ti145 = true := by kernel_rfl
theorem ty145t {xs : List AV} : takeT ti145 xs = if 114 ≤ xs.length then some (.agg (xs.take 114)) else none := rfl
def ti147 : TI := ⟨TK.int IntKind.i64, 1, 8, Value.int IntKind.i64 0⟩
theorem ty147 : E.ty 147 = some ti147 := by kernel_rfl
theorem ty147k : ti147.kind = TK.int IntKind.i64 := rfl
theorem ty147s : ti147.size = 1 := rfl
theorem ty147b : ti147.bytes = 8 := rfl
theorem ty147z : AV.ofV ti147.zero = .lit (Value.int IntKind.i64 0) := rfl
theorem ty147o : zeroOk ti147 = true := by kernel_rfl
theorem ty147t {xs : List AV} : takeT ti147 xs = xs.head? := by cases xs <;> rfl
def ti154 : TI := ⟨TK.int IntKind.u32, 1, 4, Value.int IntKind.u32 0⟩
theorem ty154 : E.ty 154 = some ti154 := by kernel_rfl
theorem ty154k : ti154.kind = TK.int IntKind.u32 := rfl
theorem ty154s : ti154.size = 1 := rfl
theorem ty154b : ti154.bytes = 4 := rfl
theorem ty154z : AV.ofV ti154.zero = .lit (Value.int IntKind.u32 0) := rfl
theorem ty154o : zeroOk ti154 = true := by kernel_rfl
theorem ty154t {xs : List AV} : takeT ti154 xs = xs.head? := by cases xs <;> rfl
def ti156 : TI := ⟨TK.int IntKind.u64, 1, 8, Value.int IntKind.u64 0⟩
theorem ty156 : E.ty 156 = some ti156 := by kernel_rfl
theorem ty156k : ti156.kind = TK.int IntKind.u64 := rfl
theorem ty156s : ti156.size = 1 := rfl
theorem ty156b : ti156.bytes = 8 := rfl
theorem ty156z : AV.ofV ti156.zero = .lit (Value.int IntKind.u64 0) := rfl
theorem ty156o : zeroOk ti156 = true := by kernel_rfl
theorem ty156t {xs : List AV} : takeT ti156 xs = xs.head? := by cases xs <;> rfl
def ti158 : TI := ⟨TK.struct [(0, 9), (1, 3)], 2, 24, Value.agg #[Value.string (ByteArray.mk #[]), Value.int IntKind.i64 0]⟩
theorem ty158 : E.ty 158 = some ti158 := by kernel_rfl
theorem ty158k : ti158.kind = TK.struct [(0, 9), (1, 3)] := rfl
theorem ty158s : ti158.size = 2 := rfl
theorem ty158b : ti158.bytes = 24 := rfl
theorem ty158z : AV.ofV ti158.zero = .agg [.lit (Value.string (ByteArray.mk #[])), .lit (Value.int IntKind.i64 0)] := rfl
theorem ty158o : zeroOk ti158 = true := by kernel_rfl
theorem ty158t {xs : List AV} : takeT ti158 xs = if 2 ≤ xs.length then some (.agg (xs.take 2)) else none := rfl
def ti159 : TI := ⟨TK.array 8 158, 16, 192, Value.agg #[Value.string (ByteArray.mk #[]), Value.int IntKind.i64 0, Value.string (ByteArray.mk #[]), Value.int IntKind.i64 0, Value.string (ByteArray.mk #[]), Value.int IntKind.i64 0, Value.string (ByteArray.mk #[]), Value.int IntKind.i64 0, Value.string (ByteArray.mk #[]), Value.int IntKind.i64 0, Value.string (ByteArray.mk #[]), Value.int IntKind.i64 0, Value.string (ByteArray.mk #[]), Value.int IntKind.i64 0, Value.string (ByteArray.mk #[]), Value.int IntKind.i64 0]⟩
theorem ty159 : E.ty 159 = some ti159 := by kernel_rfl
theorem ty159k : ti159.kind = TK.array 8 158 := rfl
theorem ty159s : ti159.size = 16 := rfl
theorem ty159b : ti159.bytes = 192 := rfl
theorem ty159z : AV.ofV ti159.zero = .agg [.lit (Value.string (ByteArray.mk #[])), .lit (Value.int IntKind.i64 0), .lit (Value.string (ByteArray.mk #[])), .lit (Value.int IntKind.i64 0), .lit (Value.string (ByteArray.mk #[])), .lit (Value.int IntKind.i64 0), .lit (Value.string (ByteArray.mk #[])), .lit (Value.int IntKind.i64 0), .lit (Value.string (ByteArray.mk #[])), .lit (Value.int IntKind.i64 0), .lit (Value.string (ByteArray.mk #[])), .lit (Value.int IntKind.i64 0), .lit (Value.string (ByteArray.mk #[])), .lit (Value.int IntKind.i64 0), .lit (Value.string (ByteArray.mk #[])), .lit (Value.int IntKind.i64 0)] := rfl
theorem ty159o : zeroOk ti159 = true := by kernel_rfl
theorem ty159t {xs : List AV} : takeT ti159 xs = if 16 ≤ xs.length then some (.agg (xs.take 16)) else none := rfl
def ti161 : TI := ⟨TK.struct [(0, 9), (1, 3), (2, 159)], 18, 216, Value.agg #[Value.string (ByteArray.mk #[]), Value.int IntKind.i64 0, Value.string (ByteArray.mk #[]), Value.int IntKind.i64 0, Value.string (ByteArray.mk #[]), Value.int IntKind.i64 0, Value.string (ByteArray.mk #[]), Value.int IntKind.i64 0, Value.string (ByteArray.mk #[]), Value.int IntKind.i64 0, Value.string (ByteArray.mk #[]), Value.int IntKind.i64 0, Value.string (ByteArray.mk #[]), Value.int IntKind.i64 0, Value.string (ByteArray.mk #[]), Value.int IntKind.i64 0, Value.string (ByteArray.mk #[]), Value.int IntKind.i64 0]⟩
theorem ty161 : E.ty 161 = some ti161 := by kernel_rfl
theorem ty161k : ti161.kind = TK.struct [(0, 9), (1, 3), (2, 159)] := rfl
theorem ty161s : ti161.size = 18 := rfl
theorem ty161b : ti161.bytes = 216 := rfl
theorem ty161z : AV.ofV ti161.zero = .agg [.lit (Value.string (ByteArray.mk #[])), .lit (Value.int IntKind.i64 0), .lit (Value.string (ByteArray.mk #[])), .lit (Value.int IntKind.i64 0), .lit (Value.string (ByteArray.mk #[])), .lit (Value.int IntKind.i64 0), .lit (Value.string (ByteArray.mk #[])), .lit (Value.int IntKind.i64 0), .lit (Value.string (ByteArray.mk #[])), .lit (Value.int IntKind.i64 0), .lit (Value.string (ByteArray.mk #[])), .lit (Value.int IntKind.i64 0), .lit (Value.string (ByteArray.mk #[])), .lit (Value.int IntKind.i64 0), .lit (Value.string (ByteArray.mk #[])), .lit (Value.int IntKind.i64 0), .lit (Value.string (ByteArray.mk #[])), .lit (Value.int IntKind.i64 0)] := rfl
theorem ty161o : zeroOk ti161 = true := by kernel_rfl
theorem ty161t {xs : List AV} : takeT ti161 xs = if 18 ≤ xs.length then some (.agg (xs.take 18)) else none := rfl
def ti163 : TI := ⟨TK.array 18 3, 18, 144, Value.agg #[Value.int IntKind.i64 0, Value.int IntKind.i64 0, Value.int IntKind.i64 0, Value.int IntKind.i64 0, Value.int IntKind.i64 0, Value.int IntKind.i64 0, Value.int IntKind.i64 0, Value.int IntKind.i64 0, Value.int IntKind.i64 0, Value.int IntKind.i64 0, Value.int IntKind.i64 0, Value.int IntKind.i64 0, Value.int IntKind.i64 0, Value.int IntKind.i64 0, Value.int IntKind.i64 0, Value.int IntKind.i64 0, Value.int IntKind.i64 0, Value.int IntKind.i64 0]⟩
theorem ty163 : E.ty 163 = some ti163 := by kernel_rfl
theorem ty163k : ti163.kind = TK.array 18 3 := rfl
theorem ty163s : ti163.size = 18 := rfl
theorem ty163b : ti163.bytes = 144 := rfl
theorem ty163z : AV.ofV ti163.zero = .agg [.lit (Value.int IntKind.i64 0), .lit (Value.int IntKind.i64 0), .lit (Value.int IntKind.i64 0), .lit (Value.int IntKind.i64 0), .lit (Value.int IntKind.i64 0), .lit (Value.int IntKind.i64 0), .lit (Value.int IntKind.i64 0), .lit (Value.int IntKind.i64 0), .lit (Value.int IntKind.i64 0), .lit (Value.int IntKind.i64 0), .lit (Value.int IntKind.i64 0), .lit (Value.int IntKind.i64 0), .lit (Value.int IntKind.i64 0), .lit (Value.int IntKind.i64 0), .lit (Value.int IntKind.i64 0), .lit (Value.int IntKind.i64 0), .lit (Value.int IntKind.i64 0), .lit (Value.int IntKind.i64 0)] := rfl
theorem ty163o : zeroOk ti163 = true := by kernel_rfl
theorem ty163t {xs : List AV} : takeT ti163 xs = if 18 ≤ xs.length then some (.agg (xs.take 18)) else none := rfl
def ti164 : TI := ⟨TK.int IntKind.u64, 1, 8, Value.int IntKind.u64 0⟩
theorem ty164 : E.ty 164 = some ti164 := by kernel_rfl
theorem ty164k : ti164.kind = TK.int IntKind.u64 := rfl
theorem ty164s : ti164.size = 1 := rfl
theorem ty164b : ti164.bytes = 8 := rfl
theorem ty164z : AV.ofV ti164.zero = .lit (Value.int IntKind.u64 0) := rfl
theorem ty164o : zeroOk ti164 = true := by kernel_rfl
theorem ty164t {xs : List AV} : takeT ti164 xs = xs.head? := by cases xs <;> rfl
def ti168 : TI := ⟨TK.ptr, 1, 8, Value.pointer none⟩
theorem ty168 : E.ty 168 = some ti168 := by kernel_rfl
theorem ty168k : ti168.kind = TK.ptr := rfl
theorem ty168s : ti168.size = 1 := rfl
theorem ty168b : ti168.bytes = 8 := rfl
theorem ty168z : AV.ofV ti168.zero = .lit (Value.pointer none) := rfl
theorem ty168o : zeroOk ti168 = true := by kernel_rfl
theorem ty168t {xs : List AV} : takeT ti168 xs = xs.head? := by cases xs <;> rfl
def ti170 : TI := ⟨TK.int IntKind.i16, 1, 2, Value.int IntKind.i16 0⟩
theorem ty170 : E.ty 170 = some ti170 := by kernel_rfl
theorem ty170k : ti170.kind = TK.int IntKind.i16 := rfl
theorem ty170s : ti170.size = 1 := rfl
theorem ty170b : ti170.bytes = 2 := rfl
theorem ty170z : AV.ofV ti170.zero = .lit (Value.int IntKind.i16 0) := rfl
theorem ty170o : zeroOk ti170 = true := by kernel_rfl
theorem ty170t {xs : List AV} : takeT ti170 xs = xs.head? := by cases xs <;> rfl
def ti171 : TI := ⟨TK.int IntKind.u16, 1, 2, Value.int IntKind.u16 0⟩
theorem ty171 : E.ty 171 = some ti171 := by kernel_rfl
theorem ty171k : ti171.kind = TK.int IntKind.u16 := rfl
theorem ty171s : ti171.size = 1 := rfl
theorem ty171b : ti171.bytes = 2 := rfl
theorem ty171z : AV.ofV ti171.zero = .lit (Value.int IntKind.u16 0) := rfl
theorem ty171o : zeroOk ti171 = true := by kernel_rfl
theorem ty171t {xs : List AV} : takeT ti171 xs = xs.head? := by cases xs <;> rfl
def ti172 : TI := ⟨TK.array 9 161, 162, 1944, Value.agg #[Value.string (ByteArray.mk #[]), Value.int IntKind.i64 0, Value.string (ByteArray.mk #[]), Value.int IntKind.i64 0, Value.string (ByteArray.mk #[]), Value.int IntKind.i64 0, Value.string (ByteArray.mk #[]), Value.int IntKind.i64 0, Value.string (ByteArray.mk #[]), Value.int IntKind.i64 0, Value.string (ByteArray.mk #[]), Value.int IntKind.i64 0, Value.string (ByteArray.mk #[]), Value.int IntKind.i64 0, Value.string (ByteArray.mk #[]), Value.int IntKind.i64 0, Value.string (ByteArray.mk #[]), Value.int IntKind.i64 0, Value.string (ByteArray.mk #[]), Value.int IntKind.i64 0, Value.string (ByteArray.mk #[]), Value.int IntKind.i64 0, Value.string (ByteArray.mk #[]), Value.int IntKind.i64 0, Value.string (ByteArray.mk #[]), Value.int IntKind.i64 0, Value.string (ByteArray.mk #[]), Value.int IntKind.i64 0, Value.string (ByteArray.mk #[]), Value.int IntKind.i64 0, Value.string (ByteArray.mk #[]), Value.int IntKind.i64 0, Value.string (ByteArray.mk #[]), Value.int IntKind.i64 0, Value.string (ByteArray.mk #[]), Value.int IntKind.i64 0, Value.string (ByteArray.mk #[]), Value.int IntKind.i64 0, Value.string (ByteArray.mk #[]), Value.int IntKind.i64 0, Value.string (ByteArray.mk #[]), Value.int IntKind.i64 0, Value.string (ByteArray.mk #[]), Value.int IntKind.i64 0, Value.string (ByteArray.mk #[]), Value.int IntKind.i64 0, Value.string (ByteArray.mk #[]), Value.int IntKind.i64 0, Value.string (ByteArray.mk #[]), Value.int IntKind.i64 0, Value.string (ByteArray.mk #[]), Value.int IntKind.i64 0, Value.string (ByteArray.mk #[]), Value.int IntKind.i64 0, Value.string (ByteArray.mk #[]), Value.int IntKind.i64 0, Value.string (ByteArray.mk #[]), Value.int IntKind.i64 0, Value.string (ByteArray.mk #[]), Value.int IntKind.i64 0, Value.string (ByteArray.mk #[]), Value.int IntKind.i64 0, Value.string (ByteArray.mk #[]), Value.int IntKind.i64 0, Value.string (ByteArray.mk #[]), Value.int IntKind.i64 0, Value.string (ByteArray.mk #[]), Value.int IntKind.i64 0, Value.string (ByteArray.mk #[]), Value.int IntKind.i64 0, Value.string (ByteArray.mk #[]), Value.int IntKind.i64 0, Value.string (ByteArray.mk #[]), Value.int IntKind.i64 0, Value.string (ByteArray.mk #[]), Value.int IntKind.i64 0, Value.string (ByteArray.mk #[]), Value.int IntKind.i64 0, Value.string (ByteArray.mk #[]), Value.int IntKind.i64 0, Value.string (ByteArray.mk #[]), Value.int IntKind.i64 0, Value.string (ByteArray.mk #[]), Value.int IntKind.i64 0, Value.string (ByteArray.mk #[]), Value.int IntKind.i64 0, Value.string (ByteArray.mk #[]), Value.int IntKind.i64 0, Value.string (ByteArray.mk #[]), Value.int IntKind.i64 0, Value.string (ByteArray.mk #[]), Value.int IntKind.i64 0, Value.string (ByteArray.mk #[]), Value.int IntKind.i64 0, Value.string (ByteArray.mk #[]), Value.int IntKind.i64 0, Value.string (ByteArray.mk #[]), Value.int IntKind.i64 0, Value.string (ByteArray.mk #[]), Value.int IntKind.i64 0, Value.string (ByteArray.mk #[]), Value.int IntKind.i64 0, Value.string (ByteArray.mk #[]), Value.int IntKind.i64 0, Value.string (ByteArray.mk #[]), Value.int IntKind.i64 0, Value.string (ByteArray.mk #[]), Value.int IntKind.i64 0, Value.string (ByteArray.mk #[]), Value.int IntKind.i64 0, Value.string (ByteArray.mk #[]), Value.int IntKind.i64 0, Value.string (ByteArray.mk #[]), Value.int IntKind.i64 0, Value.string (ByteArray.mk #[]), Value.int IntKind.i64 0, Value.string (ByteArray.mk #[]), Value.int IntKind.i64 0, Value.string (ByteArray.mk #[]), Value.int IntKind.i64 0, Value.string (ByteArray.mk #[]), Value.int IntKind.i64 0, Value.string (ByteArray.mk #[]), Value.int IntKind.i64 0, Value.string (ByteArray.mk #[]), Value.int IntKind.i64 0, Value.string (ByteArray.mk #[]), Value.int IntKind.i64 0, Value.string (ByteArray.mk #[]), Value.int IntKind.i64 0, Value.string (ByteArray.mk #[]), Value.int IntKind.i64 0, Value.string (ByteArray.mk #[]), Value.int IntKind.i64 0, Value.string (ByteArray.mk #[]), Value.int IntKind.i64 0, Value.string (ByteArray.mk #[]), Value.int IntKind.i64 0, Value.string (ByteArray.mk #[]), Value.int IntKind.i64 0, Value.string (ByteArray.mk #[]), Value.int IntKind.i64 0, Value.string (ByteArray.mk #[]), Value.int IntKind.i64 0, Value.string (ByteArray.mk #[]), Value.int IntKind.i64 0, Value.string (ByteArray.mk #[]), Value.int IntKind.i64 0, Value.string (ByteArray.mk #[]), Value.int IntKind.i64 0, Value.string (ByteArray.mk #[]), Value.int IntKind.i64 0, Value.string (ByteArray.mk #[]), Value.int IntKind.i64 0, Value.string (ByteArray.mk #[]), Value.int IntKind.i64 0, Value.string (ByteArray.mk #[]), Value.int IntKind.i64 0, Value.string (ByteArray.mk #[]), Value.int IntKind.i64 0, Value.string (ByteArray.mk #[]), Value.int IntKind.i64 0]⟩
theorem ty172 : E.ty 172 = some ti172 := by kernel_rfl
theorem ty172k : ti172.kind = TK.array 9 161 := rfl
theorem ty172s : ti172.size = 162 := rfl
theorem ty172b : ti172.bytes = 1944 := rfl
theorem ty172z : AV.ofV ti172.zero = .agg [.lit (Value.string (ByteArray.mk #[])), .lit (Value.int IntKind.i64 0), .lit (Value.string (ByteArray.mk #[])), .lit (Value.int IntKind.i64 0), .lit (Value.string (ByteArray.mk #[])), .lit (Value.int IntKind.i64 0), .lit (Value.string (ByteArray.mk #[])), .lit (Value.int IntKind.i64 0), .lit (Value.string (ByteArray.mk #[])), .lit (Value.int IntKind.i64 0), .lit (Value.string (ByteArray.mk #[])), .lit (Value.int IntKind.i64 0), .lit (Value.string (ByteArray.mk #[])), .lit (Value.int IntKind.i64 0), .lit (Value.string (ByteArray.mk #[])), .lit (Value.int IntKind.i64 0), .lit (Value.string (ByteArray.mk #[])), .lit (Value.int IntKind.i64 0), .lit (Value.string (ByteArray.mk #[])), .lit (Value.int IntKind.i64 0), .lit (Value.string (ByteArray.mk #[])), .lit (Value.int IntKind.i64 0), .lit (Value.string (ByteArray.mk #[])), .lit (Value.int IntKind.i64 0), .lit (Value.string (ByteArray.mk #[])), .lit (Value.int IntKind.i64 0), .lit (Value.string (ByteArray.mk #[])), .lit (Value.int IntKind.i64 0), .lit (Value.string (ByteArray.mk #[])), .lit (Value.int IntKind.i64 0), .lit (Value.string (ByteArray.mk #[])), .lit (Value.int IntKind.i64 0), .lit (Value.string (ByteArray.mk #[])), .lit (Value.int IntKind.i64 0), .lit (Value.string (ByteArray.mk #[])), .lit (Value.int IntKind.i64 0), .lit (Value.string (ByteArray.mk #[])), .lit (Value.int IntKind.i64 0), .lit (Value.string (ByteArray.mk #[])), .lit (Value.int IntKind.i64 0), .lit (Value.string (ByteArray.mk #[])), .lit (Value.int IntKind.i64 0), .lit (Value.string (ByteArray.mk #[])), .lit (Value.int IntKind.i64 0), .lit (Value.string (ByteArray.mk #[])), .lit (Value.int IntKind.i64 0), .lit (Value.string (ByteArray.mk #[])), .lit (Value.int IntKind.i64 0), .lit (Value.string (ByteArray.mk #[])), .lit (Value.int IntKind.i64 0), .lit (Value.string (ByteArray.mk #[])), .lit (Value.int IntKind.i64 0), .lit (Value.string (ByteArray.mk #[])), .lit (Value.int IntKind.i64 0), .lit (Value.string (ByteArray.mk #[])), .lit (Value.int IntKind.i64 0), .lit (Value.string (ByteArray.mk #[])), .lit (Value.int IntKind.i64 0), .lit (Value.string (ByteArray.mk #[])), .lit (Value.int IntKind.i64 0), .lit (Value.string (ByteArray.mk #[])), .lit (Value.int IntKind.i64 0), .lit (Value.string (ByteArray.mk #[])), .lit (Value.int IntKind.i64 0), .lit (Value.string (ByteArray.mk #[])), .lit (Value.int IntKind.i64 0), .lit (Value.string (ByteArray.mk #[])), .lit (Value.int IntKind.i64 0), .lit (Value.string (ByteArray.mk #[])), .lit (Value.int IntKind.i64 0), .lit (Value.string (ByteArray.mk #[])), .lit (Value.int IntKind.i64 0), .lit (Value.string (ByteArray.mk #[])), .lit (Value.int IntKind.i64 0), .lit (Value.string (ByteArray.mk #[])), .lit (Value.int IntKind.i64 0), .lit (Value.string (ByteArray.mk #[])), .lit (Value.int IntKind.i64 0), .lit (Value.string (ByteArray.mk #[])), .lit (Value.int IntKind.i64 0), .lit (Value.string (ByteArray.mk #[])), .lit (Value.int IntKind.i64 0), .lit (Value.string (ByteArray.mk #[])), .lit (Value.int IntKind.i64 0), .lit (Value.string (ByteArray.mk #[])), .lit (Value.int IntKind.i64 0), .lit (Value.string (ByteArray.mk #[])), .lit (Value.int IntKind.i64 0), .lit (Value.string (ByteArray.mk #[])), .lit (Value.int IntKind.i64 0), .lit (Value.string (ByteArray.mk #[])), .lit (Value.int IntKind.i64 0), .lit (Value.string (ByteArray.mk #[])), .lit (Value.int IntKind.i64 0), .lit (Value.string (ByteArray.mk #[])), .lit (Value.int IntKind.i64 0), .lit (Value.string (ByteArray.mk #[])), .lit (Value.int IntKind.i64 0), .lit (Value.string (ByteArray.mk #[])), .lit (Value.int IntKind.i64 0), .lit (Value.string (ByteArray.mk #[])), .lit (Value.int IntKind.i64 0), .lit (Value.string (ByteArray.mk #[])), .lit (Value.int IntKind.i64 0), .lit (Value.string (ByteArray.mk #[])), .lit (Value.int IntKind.i64 0), .lit (Value.string (ByteArray.mk #[])), .lit (Value.int IntKind.i64 0), .lit (Value.string (ByteArray.mk #[])), .lit (Value.int IntKind.i64 0), .lit (Value.string (ByteArray.mk #[])), .lit (Value.int IntKind.i64 0), .lit (Value.string (ByteArray.mk #[])), .lit (Value.int IntKind.i64 0), .lit (Value.string (ByteArray.mk #[])), .lit (Value.int IntKind.i64 0), .lit (Value.string (ByteArray.mk #[])), .lit (Value.int IntKind.i64 0), .lit (Value.string (ByteArray.mk #[])), .lit (Value.int IntKind.i64 0), .lit (Value.string (ByteArray.mk #[])), .lit (Value.int IntKind.i64 0), .lit (Value.string (ByteArray.mk #[])), .lit (Value.int IntKind.i64 0), .lit (Value.string (ByteArray.mk #[])), .lit (Value.int IntKind.i64 0), .lit (Value.string (ByteArray.mk #[])), .lit (Value.int IntKind.i64 0), .lit (Value.string (ByteArray.mk #[])), .lit (Value.int IntKind.i64 0), .lit (Value.string (ByteArray.mk #[])), .lit (Value.int IntKind.i64 0), .lit (Value.string (ByteArray.mk #[])), .lit (Value.int IntKind.i64 0), .lit (Value.string (ByteArray.mk #[])), .lit (Value.int IntKind.i64 0), .lit (Value.string (ByteArray.mk #[])), .lit (Value.int IntKind.i64 0), .lit (Value.string (ByteArray.mk #[])), .lit (Value.int IntKind.i64 0), .lit (Value.string (ByteArray.mk #[])), .lit (Value.int IntKind.i64 0), .lit (Value.string (ByteArray.mk #[])), .lit (Value.int IntKind.i64 0), .lit (Value.string (ByteArray.mk #[])), .lit (Value.int IntKind.i64 0), .lit (Value.string (ByteArray.mk #[])), .lit (Value.int IntKind.i64 0), .lit (Value.string (ByteArray.mk #[])), .lit (Value.int IntKind.i64 0), .lit (Value.string (ByteArray.mk #[])), .lit (Value.int IntKind.i64 0), .lit (Value.string (ByteArray.mk #[])), .lit (Value.int IntKind.i64 0), .lit (Value.string (ByteArray.mk #[])), .lit (Value.int IntKind.i64 0), .lit (Value.string (ByteArray.mk #[])), .lit (Value.int IntKind.i64 0), .lit (Value.string (ByteArray.mk #[])), .lit (Value.int IntKind.i64 0), .lit (Value.string (ByteArray.mk #[])), .lit (Value.int IntKind.i64 0)] := rfl
theorem ty172o : zeroOk ti172 = true := by kernel_rfl
theorem ty172t {xs : List AV} : takeT ti172 xs = if 162 ≤ xs.length then some (.agg (xs.take 162)) else none := rfl
def ti189 : TI := ⟨TK.array 10 3, 10, 80, Value.agg #[Value.int IntKind.i64 0, Value.int IntKind.i64 0, Value.int IntKind.i64 0, Value.int IntKind.i64 0, Value.int IntKind.i64 0, Value.int IntKind.i64 0, Value.int IntKind.i64 0, Value.int IntKind.i64 0, Value.int IntKind.i64 0, Value.int IntKind.i64 0]⟩
theorem ty189 : E.ty 189 = some ti189 := by kernel_rfl
theorem ty189k : ti189.kind = TK.array 10 3 := rfl
theorem ty189s : ti189.size = 10 := rfl
theorem ty189b : ti189.bytes = 80 := rfl
theorem ty189z : AV.ofV ti189.zero = .agg [.lit (Value.int IntKind.i64 0), .lit (Value.int IntKind.i64 0), .lit (Value.int IntKind.i64 0), .lit (Value.int IntKind.i64 0), .lit (Value.int IntKind.i64 0), .lit (Value.int IntKind.i64 0), .lit (Value.int IntKind.i64 0), .lit (Value.int IntKind.i64 0), .lit (Value.int IntKind.i64 0), .lit (Value.int IntKind.i64 0)] := rfl
theorem ty189o : zeroOk ti189 = true := by kernel_rfl
theorem ty189t {xs : List AV} : takeT ti189 xs = if 10 ≤ xs.length then some (.agg (xs.take 10)) else none := rfl
def ti191 : TI := ⟨TK.struct [(0, 189)], 10, 80, Value.agg #[Value.int IntKind.i64 0, Value.int IntKind.i64 0, Value.int IntKind.i64 0, Value.int IntKind.i64 0, Value.int IntKind.i64 0, Value.int IntKind.i64 0, Value.int IntKind.i64 0, Value.int IntKind.i64 0, Value.int IntKind.i64 0, Value.int IntKind.i64 0]⟩
theorem ty191 : E.ty 191 = some ti191 := by kernel_rfl
theorem ty191k : ti191.kind = TK.struct [(0, 189)] := rfl
theorem ty191s : ti191.size = 10 := rfl
theorem ty191b : ti191.bytes = 80 := rfl
theorem ty191z : AV.ofV ti191.zero = .agg [.lit (Value.int IntKind.i64 0), .lit (Value.int IntKind.i64 0), .lit (Value.int IntKind.i64 0), .lit (Value.int IntKind.i64 0), .lit (Value.int IntKind.i64 0), .lit (Value.int IntKind.i64 0), .lit (Value.int IntKind.i64 0), .lit (Value.int IntKind.i64 0), .lit (Value.int IntKind.i64 0), .lit (Value.int IntKind.i64 0)] := rfl
theorem ty191o : zeroOk ti191 = true := by kernel_rfl
theorem ty191t {xs : List AV} : takeT ti191 xs = if 10 ≤ xs.length then some (.agg (xs.take 10)) else none := rfl
theorem fn3 : E.fn 3 = some ⟨77, (Go.Proofs.Tryd.f3.body).getD .skip, Go.Proofs.Tryd.f3.results.toList⟩ := fnOf_eq Go.Proofs.Tryd.func3 (by kernel_rfl)
theorem fn4 : E.fn 4 = some ⟨58, (Go.Proofs.Tryd.f4.body).getD .skip, Go.Proofs.Tryd.f4.results.toList⟩ := fnOf_eq Go.Proofs.Tryd.func4 (by kernel_rfl)
theorem fn5 : E.fn 5 = some ⟨56, (Go.Proofs.Tryd.f5.body).getD .skip, Go.Proofs.Tryd.f5.results.toList⟩ := fnOf_eq Go.Proofs.Tryd.func5 (by kernel_rfl)
theorem fn6 : E.fn 6 = some ⟨181, (Go.Proofs.Tryd.f6.body).getD .skip, Go.Proofs.Tryd.f6.results.toList⟩ := fnOf_eq Go.Proofs.Tryd.func6 (by kernel_rfl)
theorem fn7 : E.fn 7 = some ⟨87, (Go.Proofs.Tryd.f7.body).getD .skip, Go.Proofs.Tryd.f7.results.toList⟩ := fnOf_eq Go.Proofs.Tryd.func7 (by kernel_rfl)
theorem fn8 : E.fn 8 = some ⟨9, (Go.Proofs.Tryd.f8.body).getD .skip, Go.Proofs.Tryd.f8.results.toList⟩ := fnOf_eq Go.Proofs.Tryd.func8 (by kernel_rfl)
theorem fn9 : E.fn 9 = some ⟨41, (Go.Proofs.Tryd.f9.body).getD .skip, Go.Proofs.Tryd.f9.results.toList⟩ := fnOf_eq Go.Proofs.Tryd.func9 (by kernel_rfl)
theorem fn10 : E.fn 10 = some ⟨48, (Go.Proofs.Tryd.f10.body).getD .skip, Go.Proofs.Tryd.f10.results.toList⟩ := fnOf_eq Go.Proofs.Tryd.func10 (by kernel_rfl)
theorem fn11 : E.fn 11 = some ⟨16, (Go.Proofs.Tryd.f11.body).getD .skip, Go.Proofs.Tryd.f11.results.toList⟩ := fnOf_eq Go.Proofs.Tryd.func11 (by kernel_rfl)
theorem fn12 : E.fn 12 = some ⟨29, (Go.Proofs.Tryd.f12.body).getD .skip, Go.Proofs.Tryd.f12.results.toList⟩ := fnOf_eq Go.Proofs.Tryd.func12 (by kernel_rfl)
theorem fn13 : E.fn 13 = some ⟨43, (Go.Proofs.Tryd.f13.body).getD .skip, Go.Proofs.Tryd.f13.results.toList⟩ := fnOf_eq Go.Proofs.Tryd.func13 (by kernel_rfl)
theorem fn14 : E.fn 14 = some ⟨53, (Go.Proofs.Tryd.f14.body).getD .skip, Go.Proofs.Tryd.f14.results.toList⟩ := fnOf_eq Go.Proofs.Tryd.func14 (by kernel_rfl)
theorem fn15 : E.fn 15 = some ⟨35, (Go.Proofs.Tryd.f15.body).getD .skip, Go.Proofs.Tryd.f15.results.toList⟩ := fnOf_eq Go.Proofs.Tryd.func15 (by kernel_rfl)
theorem fn16 : E.fn 16 = some ⟨16, (Go.Proofs.Tryd.f16.body).getD .skip, Go.Proofs.Tryd.f16.results.toList⟩ := fnOf_eq Go.Proofs.Tryd.func16 (by kernel_rfl)
theorem fn17 : E.fn 17 = some ⟨13, (Go.Proofs.Tryd.f17.body).getD .skip, Go.Proofs.Tryd.f17.results.toList⟩ := fnOf_eq Go.Proofs.Tryd.func17 (by kernel_rfl)
theorem fn18 : E.fn 18 = some ⟨60, (Go.Proofs.Tryd.f18.body).getD .skip, Go.Proofs.Tryd.f18.results.toList⟩ := fnOf_eq Go.Proofs.Tryd.func18 (by kernel_rfl)
theorem fn19 : E.fn 19 = some ⟨65, (Go.Proofs.Tryd.f19.body).getD .skip, Go.Proofs.Tryd.f19.results.toList⟩ := fnOf_eq Go.Proofs.Tryd.func19 (by kernel_rfl)
theorem fn20 : E.fn 20 = some ⟨9, (Go.Proofs.Tryd.f20.body).getD .skip, Go.Proofs.Tryd.f20.results.toList⟩ := fnOf_eq Go.Proofs.Tryd.func20 (by kernel_rfl)
theorem fn21 : E.fn 21 = some ⟨37, (Go.Proofs.Tryd.f21.body).getD .skip, Go.Proofs.Tryd.f21.results.toList⟩ := fnOf_eq Go.Proofs.Tryd.func21 (by kernel_rfl)
theorem fn22 : E.fn 22 = some ⟨81, (Go.Proofs.Tryd.f22.body).getD .skip, Go.Proofs.Tryd.f22.results.toList⟩ := fnOf_eq Go.Proofs.Tryd.func22 (by kernel_rfl)
theorem fn23 : E.fn 23 = some ⟨87, (Go.Proofs.Tryd.f23.body).getD .skip, Go.Proofs.Tryd.f23.results.toList⟩ := fnOf_eq Go.Proofs.Tryd.func23 (by kernel_rfl)
theorem fn24 : E.fn 24 = some ⟨22, (Go.Proofs.Tryd.f24.body).getD .skip, Go.Proofs.Tryd.f24.results.toList⟩ := fnOf_eq Go.Proofs.Tryd.func24 (by kernel_rfl)
theorem fn25 : E.fn 25 = some ⟨29, (Go.Proofs.Tryd.f25.body).getD .skip, Go.Proofs.Tryd.f25.results.toList⟩ := fnOf_eq Go.Proofs.Tryd.func25 (by kernel_rfl)
theorem fn26 : E.fn 26 = some ⟨54, (Go.Proofs.Tryd.f26.body).getD .skip, Go.Proofs.Tryd.f26.results.toList⟩ := fnOf_eq Go.Proofs.Tryd.func26 (by kernel_rfl)
theorem fn27 : E.fn 27 = some ⟨54, (Go.Proofs.Tryd.f27.body).getD .skip, Go.Proofs.Tryd.f27.results.toList⟩ := fnOf_eq Go.Proofs.Tryd.func27 (by kernel_rfl)
theorem fn28 : E.fn 28 = some ⟨49, (Go.Proofs.Tryd.f28.body).getD .skip, Go.Proofs.Tryd.f28.results.toList⟩ := fnOf_eq Go.Proofs.Tryd.func28 (by kernel_rfl)
theorem fn29 : E.fn 29 = some ⟨19, (Go.Proofs.Tryd.f29.body).getD .skip, Go.Proofs.Tryd.f29.results.toList⟩ := fnOf_eq Go.Proofs.Tryd.func29 (by kernel_rfl)
theorem fn30 : E.fn 30 = some ⟨42, (Go.Proofs.Tryd.f30.body).getD .skip, Go.Proofs.Tryd.f30.results.toList⟩ := fnOf_eq Go.Proofs.Tryd.func30 (by kernel_rfl)
theorem fn31 : E.fn 31 = some ⟨72, (Go.Proofs.Tryd.f31.body).getD .skip, Go.Proofs.Tryd.f31.results.toList⟩ := fnOf_eq Go.Proofs.Tryd.func31 (by kernel_rfl)
theorem fn32 : E.fn 32 = some ⟨24, (Go.Proofs.Tryd.f32.body).getD .skip, Go.Proofs.Tryd.f32.results.toList⟩ := fnOf_eq Go.Proofs.Tryd.func32 (by kernel_rfl)
theorem fn33 : E.fn 33 = some ⟨69, (Go.Proofs.Tryd.f33.body).getD .skip, Go.Proofs.Tryd.f33.results.toList⟩ := fnOf_eq Go.Proofs.Tryd.func33 (by kernel_rfl)
theorem fn34 : E.fn 34 = some ⟨59, (Go.Proofs.Tryd.f34.body).getD .skip, Go.Proofs.Tryd.f34.results.toList⟩ := fnOf_eq Go.Proofs.Tryd.func34 (by kernel_rfl)
theorem fn35 : E.fn 35 = some ⟨103, (Go.Proofs.Tryd.f35.body).getD .skip, Go.Proofs.Tryd.f35.results.toList⟩ := fnOf_eq Go.Proofs.Tryd.func35 (by kernel_rfl)
theorem fn36 : E.fn 36 = some ⟨63, (Go.Proofs.Tryd.f36.body).getD .skip, Go.Proofs.Tryd.f36.results.toList⟩ := fnOf_eq Go.Proofs.Tryd.func36 (by kernel_rfl)
theorem fn37 : E.fn 37 = some ⟨26, (Go.Proofs.Tryd.f37.body).getD .skip, Go.Proofs.Tryd.f37.results.toList⟩ := fnOf_eq Go.Proofs.Tryd.func37 (by kernel_rfl)
theorem fn38 : E.fn 38 = some ⟨28, (Go.Proofs.Tryd.f38.body).getD .skip, Go.Proofs.Tryd.f38.results.toList⟩ := fnOf_eq Go.Proofs.Tryd.func38 (by kernel_rfl)
theorem fn39 : E.fn 39 = some ⟨95, (Go.Proofs.Tryd.f39.body).getD .skip, Go.Proofs.Tryd.f39.results.toList⟩ := fnOf_eq Go.Proofs.Tryd.func39 (by kernel_rfl)
theorem fn40 : E.fn 40 = some ⟨9, (Go.Proofs.Tryd.f40.body).getD .skip, Go.Proofs.Tryd.f40.results.toList⟩ := fnOf_eq Go.Proofs.Tryd.func40 (by kernel_rfl)
theorem fn41 : E.fn 41 = some ⟨21, (Go.Proofs.Tryd.f41.body).getD .skip, Go.Proofs.Tryd.f41.results.toList⟩ := fnOf_eq Go.Proofs.Tryd.func41 (by kernel_rfl)
theorem fn42 : E.fn 42 = some ⟨35, (Go.Proofs.Tryd.f42.body).getD .skip, Go.Proofs.Tryd.f42.results.toList⟩ := fnOf_eq Go.Proofs.Tryd.func42 (by kernel_rfl)
theorem fn43 : E.fn 43 = some ⟨33, (Go.Proofs.Tryd.f43.body).getD .skip, Go.Proofs.Tryd.f43.results.toList⟩ := fnOf_eq Go.Proofs.Tryd.func43 (by kernel_rfl)
theorem fn44 : E.fn 44 = some ⟨51, (Go.Proofs.Tryd.f44.body).getD .skip, Go.Proofs.Tryd.f44.results.toList⟩ := fnOf_eq Go.Proofs.Tryd.func44 (by kernel_rfl)
theorem fn45 : E.fn 45 = some ⟨317, (Go.Proofs.Tryd.f45.body).getD .skip, Go.Proofs.Tryd.f45.results.toList⟩ := fnOf_eq Go.Proofs.Tryd.func45 (by kernel_rfl)
theorem fn46 : E.fn 46 = some ⟨27, (Go.Proofs.Tryd.f46.body).getD .skip, Go.Proofs.Tryd.f46.results.toList⟩ := fnOf_eq Go.Proofs.Tryd.func46 (by kernel_rfl)
theorem fn47 : E.fn 47 = some ⟨37, (Go.Proofs.Tryd.f47.body).getD .skip, Go.Proofs.Tryd.f47.results.toList⟩ := fnOf_eq Go.Proofs.Tryd.func47 (by kernel_rfl)
theorem fn48 : E.fn 48 = some ⟨94, (Go.Proofs.Tryd.f48.body).getD .skip, Go.Proofs.Tryd.f48.results.toList⟩ := fnOf_eq Go.Proofs.Tryd.func48 (by kernel_rfl)
theorem fn49 : E.fn 49 = some ⟨16, (Go.Proofs.Tryd.f49.body).getD .skip, Go.Proofs.Tryd.f49.results.toList⟩ := fnOf_eq Go.Proofs.Tryd.func49 (by kernel_rfl)
theorem fn50 : E.fn 50 = some ⟨42, (Go.Proofs.Tryd.f50.body).getD .skip, Go.Proofs.Tryd.f50.results.toList⟩ := fnOf_eq Go.Proofs.Tryd.func50 (by kernel_rfl)
theorem fn51 : E.fn 51 = some ⟨72, (Go.Proofs.Tryd.f51.body).getD .skip, Go.Proofs.Tryd.f51.results.toList⟩ := fnOf_eq Go.Proofs.Tryd.func51 (by kernel_rfl)
theorem fn52 : E.fn 52 = some ⟨77, (Go.Proofs.Tryd.f52.body).getD .skip, Go.Proofs.Tryd.f52.results.toList⟩ := fnOf_eq Go.Proofs.Tryd.func52 (by kernel_rfl)
theorem fn53 : E.fn 53 = some ⟨12, (Go.Proofs.Tryd.f53.body).getD .skip, Go.Proofs.Tryd.f53.results.toList⟩ := fnOf_eq Go.Proofs.Tryd.func53 (by kernel_rfl)
theorem fn54 : E.fn 54 = some ⟨41, (Go.Proofs.Tryd.f54.body).getD .skip, Go.Proofs.Tryd.f54.results.toList⟩ := fnOf_eq Go.Proofs.Tryd.func54 (by kernel_rfl)
theorem fn55 : E.fn 55 = some ⟨60, (Go.Proofs.Tryd.f55.body).getD .skip, Go.Proofs.Tryd.f55.results.toList⟩ := fnOf_eq Go.Proofs.Tryd.func55 (by kernel_rfl)
theorem fn56 : E.fn 56 = some ⟨51, (Go.Proofs.Tryd.f56.body).getD .skip, Go.Proofs.Tryd.f56.results.toList⟩ := fnOf_eq Go.Proofs.Tryd.func56 (by kernel_rfl)
theorem fn57 : E.fn 57 = some ⟨25, (Go.Proofs.Tryd.f57.body).getD .skip, Go.Proofs.Tryd.f57.results.toList⟩ := fnOf_eq Go.Proofs.Tryd.func57 (by kernel_rfl)
theorem fn58 : E.fn 58 = some ⟨49, (Go.Proofs.Tryd.f58.body).getD .skip, Go.Proofs.Tryd.f58.results.toList⟩ := fnOf_eq Go.Proofs.Tryd.func58 (by kernel_rfl)
theorem fn59 : E.fn 59 = some ⟨41, (Go.Proofs.Tryd.f59.body).getD .skip, Go.Proofs.Tryd.f59.results.toList⟩ := fnOf_eq Go.Proofs.Tryd.func59 (by kernel_rfl)
theorem fn60 : E.fn 60 = some ⟨114, (Go.Proofs.Tryd.f60.body).getD .skip, Go.Proofs.Tryd.f60.results.toList⟩ := fnOf_eq Go.Proofs.Tryd.func60 (by kernel_rfl)
theorem fn61 : E.fn 61 = some ⟨35, (Go.Proofs.Tryd.f61.body).getD .skip, Go.Proofs.Tryd.f61.results.toList⟩ := fnOf_eq Go.Proofs.Tryd.func61 (by kernel_rfl)
theorem fn62 : E.fn 62 = some ⟨168, (Go.Proofs.Tryd.f62.body).getD .skip, Go.Proofs.Tryd.f62.results.toList⟩ := fnOf_eq Go.Proofs.Tryd.func62 (by kernel_rfl)
theorem fn63 : E.fn 63 = some ⟨4, (Go.Proofs.Tryd.f63.body).getD .skip, Go.Proofs.Tryd.f63.results.toList⟩ := fnOf_eq Go.Proofs.Tryd.func63 (by kernel_rfl)
theorem fn64 : E.fn 64 = some ⟨11, (Go.Proofs.Tryd.f64.body).getD .skip, Go.Proofs.Tryd.f64.results.toList⟩ := fnOf_eq Go.Proofs.Tryd.func64 (by kernel_rfl)
theorem fn65 : E.fn 65 = some ⟨61, (Go.Proofs.Tryd.f65.body).getD .skip, Go.Proofs.Tryd.f65.results.toList⟩ := fnOf_eq Go.Proofs.Tryd.func65 (by kernel_rfl)
theorem fn66 : E.fn 66 = some ⟨7, (Go.Proofs.Tryd.f66.body).getD .skip, Go.Proofs.Tryd.f66.results.toList⟩ := fnOf_eq Go.Proofs.Tryd.func66 (by kernel_rfl)
theorem fn67 : E.fn 67 = some ⟨11, (Go.Proofs.Tryd.f67.body).getD .skip, Go.Proofs.Tryd.f67.results.toList⟩ := fnOf_eq Go.Proofs.Tryd.func67 (by kernel_rfl)
theorem fn68 : E.fn 68 = some ⟨113, (Go.Proofs.Tryd.f68.body).getD .skip, Go.Proofs.Tryd.f68.results.toList⟩ := fnOf_eq Go.Proofs.Tryd.func68 (by kernel_rfl)
theorem fn69 : E.fn 69 = some ⟨97, (Go.Proofs.Tryd.f69.body).getD .skip, Go.Proofs.Tryd.f69.results.toList⟩ := fnOf_eq Go.Proofs.Tryd.func69 (by kernel_rfl)
theorem fn70 : E.fn 70 = some ⟨43, (Go.Proofs.Tryd.f70.body).getD .skip, Go.Proofs.Tryd.f70.results.toList⟩ := fnOf_eq Go.Proofs.Tryd.func70 (by kernel_rfl)
theorem fn71 : E.fn 71 = some ⟨33, (Go.Proofs.Tryd.f71.body).getD .skip, Go.Proofs.Tryd.f71.results.toList⟩ := fnOf_eq Go.Proofs.Tryd.func71 (by kernel_rfl)
theorem fn72 : E.fn 72 = some ⟨12, (Go.Proofs.Tryd.f72.body).getD .skip, Go.Proofs.Tryd.f72.results.toList⟩ := fnOf_eq Go.Proofs.Tryd.func72 (by kernel_rfl)
theorem fn73 : E.fn 73 = some ⟨17, (Go.Proofs.Tryd.f73.body).getD .skip, Go.Proofs.Tryd.f73.results.toList⟩ := fnOf_eq Go.Proofs.Tryd.func73 (by kernel_rfl)
theorem fn74 : E.fn 74 = some ⟨12, (Go.Proofs.Tryd.f74.body).getD .skip, Go.Proofs.Tryd.f74.results.toList⟩ := fnOf_eq Go.Proofs.Tryd.func74 (by kernel_rfl)
theorem fn75 : E.fn 75 = some ⟨20, (Go.Proofs.Tryd.f75.body).getD .skip, Go.Proofs.Tryd.f75.results.toList⟩ := fnOf_eq Go.Proofs.Tryd.func75 (by kernel_rfl)
theorem fn76 : E.fn 76 = some ⟨34, (Go.Proofs.Tryd.f76.body).getD .skip, Go.Proofs.Tryd.f76.results.toList⟩ := fnOf_eq Go.Proofs.Tryd.func76 (by kernel_rfl)
theorem fn77 : E.fn 77 = some ⟨68, (Go.Proofs.Tryd.f77.body).getD .skip, Go.Proofs.Tryd.f77.results.toList⟩ := fnOf_eq Go.Proofs.Tryd.func77 (by kernel_rfl)
theorem fn78 : E.fn 78 = some ⟨54, (Go.Proofs.Tryd.f78.body).getD .skip, Go.Proofs.Tryd.f78.results.toList⟩ := fnOf_eq Go.Proofs.Tryd.func78 (by kernel_rfl)
theorem fn79 : E.fn 79 = some ⟨95, (Go.Proofs.Tryd.f79.body).getD .skip, Go.Proofs.Tryd.f79.results.toList⟩ := fnOf_eq Go.Proofs.Tryd.func79 (by kernel_rfl)
theorem fn80 : E.fn 80 = some ⟨15, (Go.Proofs.Tryd.f80.body).getD .skip, Go.Proofs.Tryd.f80.results.toList⟩ := fnOf_eq Go.Proofs.Tryd.func80 (by kernel_rfl)
theorem fn81 : E.fn 81 = some ⟨9, (Go.Proofs.Tryd.f81.body).getD .skip, Go.Proofs.Tryd.f81.results.toList⟩ := fnOf_eq Go.Proofs.Tryd.func81 (by kernel_rfl)
theorem fn82 : E.fn 82 = some ⟨8, (Go.Proofs.Tryd.f82.body).getD .skip, Go.Proofs.Tryd.f82.results.toList⟩ := fnOf_eq Go.Proofs.Tryd.func82 (by kernel_rfl)
theorem fn83 : E.fn 83 = some ⟨26, (Go.Proofs.Tryd.f83.body).getD .skip, Go.Proofs.Tryd.f83.results.toList⟩ := fnOf_eq Go.Proofs.Tryd.func83 (by kernel_rfl)
theorem fn84 : E.fn 84 = some ⟨26, (Go.Proofs.Tryd.f84.body).getD .skip, Go.Proofs.Tryd.f84.results.toList⟩ := fnOf_eq Go.Proofs.Tryd.func84 (by kernel_rfl)
theorem fn85 : E.fn 85 = some ⟨31, (Go.Proofs.Tryd.f85.body).getD .skip, Go.Proofs.Tryd.f85.results.toList⟩ := fnOf_eq Go.Proofs.Tryd.func85 (by kernel_rfl)
theorem fn86 : E.fn 86 = some ⟨108, (Go.Proofs.Tryd.f86.body).getD .skip, Go.Proofs.Tryd.f86.results.toList⟩ := fnOf_eq Go.Proofs.Tryd.func86 (by kernel_rfl)
theorem fn87 : E.fn 87 = some ⟨15, (Go.Proofs.Tryd.f87.body).getD .skip, Go.Proofs.Tryd.f87.results.toList⟩ := fnOf_eq Go.Proofs.Tryd.func87 (by kernel_rfl)
theorem fn88 : E.fn 88 = some ⟨58, (Go.Proofs.Tryd.f88.body).getD .skip, Go.Proofs.Tryd.f88.results.toList⟩ := fnOf_eq Go.Proofs.Tryd.func88 (by kernel_rfl)
theorem fn89 : E.fn 89 = some ⟨20, (Go.Proofs.Tryd.f89.body).getD .skip, Go.Proofs.Tryd.f89.results.toList⟩ := fnOf_eq Go.Proofs.Tryd.func89 (by kernel_rfl)
theorem fn90 : E.fn 90 = some ⟨21, (Go.Proofs.Tryd.f90.body).getD .skip, Go.Proofs.Tryd.f90.results.toList⟩ := fnOf_eq Go.Proofs.Tryd.func90 (by kernel_rfl)
theorem fn91 : E.fn 91 = some ⟨134, (Go.Proofs.Tryd.f91.body).getD .skip, Go.Proofs.Tryd.f91.results.toList⟩ := fnOf_eq Go.Proofs.Tryd.func91 (by kernel_rfl)
theorem fn92 : E.fn 92 = some ⟨8, (Go.Proofs.Tryd.f92.body).getD .skip, Go.Proofs.Tryd.f92.results.toList⟩ := fnOf_eq Go.Proofs.Tryd.func92 (by kernel_rfl)
theorem fn93 : E.fn 93 = some ⟨14, (Go.Proofs.Tryd.f93.body).getD .skip, Go.Proofs.Tryd.f93.results.toList⟩ := fnOf_eq Go.Proofs.Tryd.func93 (by kernel_rfl)
theorem fn94 : E.fn 94 = some ⟨24, (Go.Proofs.Tryd.f94.body).getD .skip, Go.Proofs.Tryd.f94.results.toList⟩ := fnOf_eq Go.Proofs.Tryd.func94 (by kernel_rfl)
theorem fn95 : E.fn 95 = some ⟨7, (Go.Proofs.Tryd.f95.body).getD .skip, Go.Proofs.Tryd.f95.results.toList⟩ := fnOf_eq Go.Proofs.Tryd.func95 (by kernel_rfl)
theorem fn96 : E.fn 96 = some ⟨18, (Go.Proofs.Tryd.f96.body).getD .skip, Go.Proofs.Tryd.f96.results.toList⟩ := fnOf_eq Go.Proofs.Tryd.func96 (by kernel_rfl)
theorem fn97 : E.fn 97 = some ⟨14, (Go.Proofs.Tryd.f97.body).getD .skip, Go.Proofs.Tryd.f97.results.toList⟩ := fnOf_eq Go.Proofs.Tryd.func97 (by kernel_rfl)
theorem fn98 : E.fn 98 = some ⟨70, (Go.Proofs.Tryd.f98.body).getD .skip, Go.Proofs.Tryd.f98.results.toList⟩ := fnOf_eq Go.Proofs.Tryd.func98 (by kernel_rfl)
theorem fn99 : E.fn 99 = some ⟨17, (Go.Proofs.Tryd.f99.body).getD .skip, Go.Proofs.Tryd.f99.results.toList⟩ := fnOf_eq Go.Proofs.Tryd.func99 (by kernel_rfl)
theorem fn100 : E.fn 100 = some ⟨6, (Go.Proofs.Tryd.f100.body).getD .skip, Go.Proofs.Tryd.f100.results.toList⟩ := fnOf_eq Go.Proofs.Tryd.func100 (by kernel_rfl)
theorem fn102 : E.fn 102 = some ⟨10, (Go.Proofs.Tryd.f102.body).getD .skip, Go.Proofs.Tryd.f102.results.toList⟩ := fnOf_eq Go.Proofs.Tryd.func102 (by kernel_rfl)
theorem fn103 : E.fn 103 = some ⟨19, (Go.Proofs.Tryd.f103.body).getD .skip, Go.Proofs.Tryd.f103.results.toList⟩ := fnOf_eq Go.Proofs.Tryd.func103 (by kernel_rfl)
theorem fn104 : E.fn 104 = some ⟨9, (Go.Proofs.Tryd.f104.body).getD .skip, Go.Proofs.Tryd.f104.results.toList⟩ := fnOf_eq Go.Proofs.Tryd.func104 (by kernel_rfl)
theorem fn105 : E.fn 105 = some ⟨15, (Go.Proofs.Tryd.f105.body).getD .skip, Go.Proofs.Tryd.f105.results.toList⟩ := fnOf_eq Go.Proofs.Tryd.func105 (by kernel_rfl)
theorem fn106 : E.fn 106 = some ⟨9, (Go.Proofs.Tryd.f106.body).getD .skip, Go.Proofs.Tryd.f106.results.toList⟩ := fnOf_eq Go.Proofs.Tryd.func106 (by kernel_rfl)
theorem fn107 : E.fn 107 = some ⟨25, (Go.Proofs.Tryd.f107.body).getD .skip, Go.Proofs.Tryd.f107.results.toList⟩ := fnOf_eq Go.Proofs.Tryd.func107 (by kernel_rfl)
theorem fn108 : E.fn 108 = some ⟨17, (Go.Proofs.Tryd.f108.body).getD .skip, Go.Proofs.Tryd.f108.results.toList⟩ := fnOf_eq Go.Proofs.Tryd.func108 (by kernel_rfl)
theorem fn109 : E.fn 109 = some ⟨17, (Go.Proofs.Tryd.f109.body).getD .skip, Go.Proofs.Tryd.f109.results.toList⟩ := fnOf_eq Go.Proofs.Tryd.func109 (by kernel_rfl)
theorem fn110 : E.fn 110 = some ⟨6, (Go.Proofs.Tryd.f110.body).getD .skip, Go.Proofs.Tryd.f110.results.toList⟩ := fnOf_eq Go.Proofs.Tryd.func110 (by kernel_rfl)
theorem fn111 : E.fn 111 = some ⟨21, (Go.Proofs.Tryd.f111.body).getD .skip, Go.Proofs.Tryd.f111.results.toList⟩ := fnOf_eq Go.Proofs.Tryd.func111 (by kernel_rfl)
theorem fn112 : E.fn 112 = some ⟨49, (Go.Proofs.Tryd.f112.body).getD .skip, Go.Proofs.Tryd.f112.results.toList⟩ := fnOf_eq Go.Proofs.Tryd.func112 (by kernel_rfl)
theorem fn113 : E.fn 113 = some ⟨56, (Go.Proofs.Tryd.f113.body).getD .skip, Go.Proofs.Tryd.f113.results.toList⟩ := fnOf_eq Go.Proofs.Tryd.func113 (by kernel_rfl)
theorem fn114 : E.fn 114 = some ⟨65, (Go.Proofs.Tryd.f114.body).getD .skip, Go.Proofs.Tryd.f114.results.toList⟩ := fnOf_eq Go.Proofs.Tryd.func114 (by kernel_rfl)
theorem fn115 : E.fn 115 = some ⟨57, (Go.Proofs.Tryd.f115.body).getD .skip, Go.Proofs.Tryd.f115.results.toList⟩ := fnOf_eq Go.Proofs.Tryd.func115 (by kernel_rfl)
theorem fn116 : E.fn 116 = some ⟨32, (Go.Proofs.Tryd.f116.body).getD .skip, Go.Proofs.Tryd.f116.results.toList⟩ := fnOf_eq Go.Proofs.Tryd.func116 (by kernel_rfl)
theorem fn117 : E.fn 117 = some ⟨133, (Go.Proofs.Tryd.f117.body).getD .skip, Go.Proofs.Tryd.f117.results.toList⟩ := fnOf_eq Go.Proofs.Tryd.func117 (by kernel_rfl)
theorem fn118 : E.fn 118 = some ⟨84, (Go.Proofs.Tryd.f118.body).getD .skip, Go.Proofs.Tryd.f118.results.toList⟩ := fnOf_eq Go.Proofs.Tryd.func118 (by kernel_rfl)
theorem fn119 : E.fn 119 = some ⟨168, (Go.Proofs.Tryd.f119.body).getD .skip, Go.Proofs.Tryd.f119.results.toList⟩ := fnOf_eq Go.Proofs.Tryd.func119 (by kernel_rfl)
theorem fn120 : E.fn 120 = some ⟨19, (Go.Proofs.Tryd.f120.body).getD .skip, Go.Proofs.Tryd.f120.results.toList⟩ := fnOf_eq Go.Proofs.Tryd.func120 (by kernel_rfl)
theorem fn121 : E.fn 121 = some ⟨25, (Go.Proofs.Tryd.f121.body).getD .skip, Go.Proofs.Tryd.f121.results.toList⟩ := fnOf_eq Go.Proofs.Tryd.func121 (by kernel_rfl)
theorem fn122 : E.fn 122 = some ⟨33, (Go.Proofs.Tryd.f122.body).getD .skip, Go.Proofs.Tryd.f122.results.toList⟩ := fnOf_eq Go.Proofs.Tryd.func122 (by kernel_rfl)
theorem fn123 : E.fn 123 = some ⟨10, (Go.Proofs.Tryd.f123.body).getD .skip, Go.Proofs.Tryd.f123.results.toList⟩ := fnOf_eq Go.Proofs.Tryd.func123 (by kernel_rfl)
theorem fn124 : E.fn 124 = some ⟨9, (Go.Proofs.Tryd.f124.body).getD .skip, Go.Proofs.Tryd.f124.results.toList⟩ := fnOf_eq Go.Proofs.Tryd.func124 (by kernel_rfl)
theorem fn125 : E.fn 125 = some ⟨6, (Go.Proofs.Tryd.f125.body).getD .skip, Go.Proofs.Tryd.f125.results.toList⟩ := fnOf_eq Go.Proofs.Tryd.func125 (by kernel_rfl)
theorem fn126 : E.fn 126 = some ⟨14, (Go.Proofs.Tryd.f126.body).getD .skip, Go.Proofs.Tryd.f126.results.toList⟩ := fnOf_eq Go.Proofs.Tryd.func126 (by kernel_rfl)
theorem fn127 : E.fn 127 = some ⟨76, (Go.Proofs.Tryd.f127.body).getD .skip, Go.Proofs.Tryd.f127.results.toList⟩ := fnOf_eq Go.Proofs.Tryd.func127 (by kernel_rfl)
theorem fn128 : E.fn 128 = some ⟨7, (Go.Proofs.Tryd.f128.body).getD .skip, Go.Proofs.Tryd.f128.results.toList⟩ := fnOf_eq Go.Proofs.Tryd.func128 (by kernel_rfl)
theorem fn129 : E.fn 129 = some ⟨33, (Go.Proofs.Tryd.f129.body).getD .skip, Go.Proofs.Tryd.f129.results.toList⟩ := fnOf_eq Go.Proofs.Tryd.func129 (by kernel_rfl)
theorem fn130 : E.fn 130 = some ⟨15, (Go.Proofs.Tryd.f130.body).getD .skip, Go.Proofs.Tryd.f130.results.toList⟩ := fnOf_eq Go.Proofs.Tryd.func130 (by kernel_rfl)
theorem fn131 : E.fn 131 = some ⟨36, (Go.Proofs.Tryd.f131.body).getD .skip, Go.Proofs.Tryd.f131.results.toList⟩ := fnOf_eq Go.Proofs.Tryd.func131 (by kernel_rfl)
theorem fn132 : E.fn 132 = some ⟨9, (Go.Proofs.Tryd.f132.body).getD .skip, Go.Proofs.Tryd.f132.results.toList⟩ := fnOf_eq Go.Proofs.Tryd.func132 (by kernel_rfl)
theorem fn133 : E.fn 133 = some ⟨28, (Go.Proofs.Tryd.f133.body).getD .skip, Go.Proofs.Tryd.f133.results.toList⟩ := fnOf_eq Go.Proofs.Tryd.func133 (by kernel_rfl)
theorem fn134 : E.fn 134 = some ⟨28, (Go.Proofs.Tryd.f134.body).getD .skip, Go.Proofs.Tryd.f134.results.toList⟩ := fnOf_eq Go.Proofs.Tryd.func134 (by kernel_rfl)
end Go.Abs
