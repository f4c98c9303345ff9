/- The facts on types that walks of this seat ask for: printed by a program, checked by the kernel. -/
import Derived.Test.YtncccjpbaeaafaaG13
import Derived.Test.YtncccjpbaeaafaaProg
import Derived.KernelRfl
namespace Go.Proofs.Ytncccjpbaeaafaa
open Go
def tabF : List (Nat × Nat × Nat) := [(24, 2, 2), (24, 0, 0), (28, 0, 0), (24, 1, 1), (28, 1, 1), (28, 2, 2), (85, 0, 0), (37, 1, 1), (37, 2, 2), (95, 6, 13), (95, 1, 1), (37, 0, 0), (43, 0, 0), (43, 1, 1), (43, 2, 2), (100, 0, 0), (40, 0, 0), (40, 1, 1), (40, 2, 2), (40, 3, 3), (40, 4, 4), (40, 5, 5), (40, 6, 6), (40, 7, 7), (95, 4, 11), (105, 2, 2), (95, 3, 10), (105, 1, 1), (95, 5, 12), (109, 1, 1), (95, 2, 9), (105, 0, 0), (59, 1, 1), (59, 2, 2), (62, 1, 1), (59, 0, 0), (62, 0, 0), (62, 2, 2), (131, 0, 0), (129, 0, 0), (129, 1, 1), (141, 1, 1), (141, 0, 0), (141, 2, 2), (170, 1, 3), (170, 2, 4), (170, 3, 5), (176, 3, 3), (176, 1, 1), (176, 0, 0), (176, 2, 2), (176, 4, 4), (180, 1, 1), (180, 2, 2), (180, 0, 0), (149, 0, 0), (149, 1, 1), (149, 2, 2), (170, 0, 0), (80, 0, 0), (85, 3, 5), (85, 1, 3), (85, 2, 4), (100, 1, 8), (109, 0, 0), (131, 2, 3), (131, 1, 2)]
def tabC : List Nat := [2, 3, 4, 9, 22, 26, 35, 57, 71, 77, 78, 82, 91, 98, 101, 107, 112, 121, 124, 127, 153, 174, 182, 185, 199, 202, 205]
def tabA : List (Nat × Nat) := [(24, 3), (28, 3), (37, 3), (40, 8), (43, 3), (59, 3), (62, 3), (80, 1), (85, 6), (95, 14), (100, 9), (105, 3), (109, 2), (129, 2), (131, 4), (141, 3), (149, 3), (170, 6), (176, 5), (180, 5)]
def tabS : List (Nat × Nat) := [(22, 3), (26, 3), (35, 1), (57, 1), (127, 5), (174, 3)]
def tabP : List (Nat × Nat × Nat) := [(22, 3, 24), (26, 3, 24), (35, 1, 8), (57, 1, 24), (127, 5, 72), (174, 3, 56)]
def tabE : List (Nat × Nat) := [(22, 149), (26, 141), (35, 2), (57, 35), (127, 180), (174, 43)]
def tabN : List (Nat × Nat) := [(2, 1), (3, 1), (4, 1), (9, 1), (22, 1), (24, 3), (26, 1), (28, 3), (35, 1), (37, 3), (40, 8), (43, 3), (57, 1), (59, 3), (62, 3), (71, 1), (77, 1), (78, 1), (80, 1), (82, 1), (85, 6), (91, 1), (95, 14), (98, 1), (100, 9), (101, 1), (105, 3), (107, 1), (109, 2), (112, 1), (121, 1), (124, 1), (127, 1), (129, 2), (131, 4), (141, 3), (149, 3), (153, 1), (170, 6), (174, 1), (176, 5), (180, 5), (182, 1), (185, 1), (199, 1), (202, 1), (205, 1)]
def tabZ : List (Nat × List Value) := [(2, [.int .i64 0]), (3, [.int .i64 0]), (4, [.bool false]), (9, [.string .empty]), (22, [.slice none 0 0]), (24, [.int .i64 0, .int .i64 0, .slice none 0 0]), (26, [.slice none 0 0]), (28, [.int .i64 0, .int .i64 0, .slice none 0 0]), (35, [.slice none 0 0]), (37, [.int .i64 0, .slice none 0 0, .slice none 0 0]), (40, [.int .i64 0, .bool false, .int .i64 0, .int .i64 0, .int .i64 0, .int .i64 0, .int .i64 0, .int .i64 0]), (43, [.int .i64 0, .slice none 0 0, .slice none 0 0]), (57, [.slice none 0 0]), (59, [.int .i64 0, .slice none 0 0, .slice none 0 0]), (62, [.int .i64 0, .slice none 0 0, .slice none 0 0]), (71, [.pointer none]), (77, [.pointer none]), (78, [.map none]), (80, [.map none]), (82, [.pointer none]), (85, [.int .i64 0, .int .i64 0, .slice none 0 0, .pointer none, .pointer none, .int .i64 0]), (91, [.pointer none]), (95, [.pointer none, .int .i64 0, .bool false, .int .i64 0, .int .i64 0, .int .i64 0, .int .i64 0, .int .i64 0, .int .i64 0, .slice none 0 0, .slice none 0 0, .slice none 0 0, .slice none 0 0, .bool false]), (98, [.pointer none]), (100, [.int .i64 0, .bool false, .int .i64 0, .int .i64 0, .int .i64 0, .int .i64 0, .int .i64 0, .int .i64 0, .int .i64 0]), (101, [.pointer none]), (105, [.map none, .slice none 0 0, .slice none 0 0]), (107, [.pointer none]), (109, [.int .i64 0, .slice none 0 0]), (112, [.pointer none]), (121, [.pointer none]), (124, [.pointer none]), (127, [.slice none 0 0]), (129, [.slice none 0 0, .slice none 0 0]), (131, [.slice none 0 0, .slice none 0 0, .int .i64 0, .int .i64 0]), (141, [.int .i64 0, .int .i64 0, .int .i64 0]), (149, [.int .i64 0, .int .i64 0, .int .i64 0]), (153, [.nilIface]), (170, [.int .i64 0, .int .i64 0, .slice none 0 0, .int .i64 0, .slice none 0 0, .slice none 0 0]), (174, [.slice none 0 0]), (176, [.slice none 0 0, .slice none 0 0, .slice none 0 0, .bool false, .bool false]), (180, [.int .i64 0, .int .i64 0, .int .i64 0, .slice none 0 0, .slice none 0 0]), (182, [.int .u64 0]), (185, [.nilFunc]), (199, [.int .u32 0]), (202, [.int .u64 0]), (205, [.nilFunc])]
def tabU : List (Nat × List (Nat × Nat)) := [(24, [(0, 1), (1, 1), (2, 1)]), (28, [(0, 1), (1, 1), (2, 1)]), (37, [(0, 1), (1, 1), (2, 1)]), (40, [(0, 1), (1, 1), (2, 1), (3, 1), (4, 1), (5, 1), (6, 1), (7, 1)]), (43, [(0, 1), (1, 1), (2, 1)]), (59, [(0, 1), (1, 1), (2, 1)]), (62, [(0, 1), (1, 1), (2, 1)]), (80, [(0, 1)]), (85, [(0, 3), (3, 1), (4, 1), (5, 1)]), (95, [(0, 1), (1, 8), (9, 1), (10, 1), (11, 1), (12, 1), (13, 1)]), (100, [(0, 8), (8, 1)]), (105, [(0, 1), (1, 1), (2, 1)]), (109, [(0, 1), (1, 1)]), (129, [(0, 1), (1, 1)]), (131, [(0, 2), (2, 1), (3, 1)]), (141, [(0, 1), (1, 1), (2, 1)]), (149, [(0, 1), (1, 1), (2, 1)]), (170, [(0, 3), (3, 1), (4, 1), (5, 1)]), (176, [(0, 1), (1, 1), (2, 1), (3, 1), (4, 1)]), (180, [(0, 1), (1, 1), (2, 3)])]
def tabI : List Nat := [2, 3, 4, 9, 22, 24, 26, 28, 35, 37, 40, 43, 57, 59, 62, 71, 77, 78, 80, 82, 85, 91, 95, 98, 100, 101, 105, 107, 109, 112, 121, 124, 127, 129, 131, 141, 149, 170, 174, 176, 180, 182, 185, 199, 202, 205]
def tabK : List (Nat × IntKind) := [(2, .i64), (3, .i64), (182, .u64), (199, .u32), (202, .u64)]
def tabT : List Nat := [9]
def tabQ : List Nat := [2, 3, 4, 5, 6, 7, 8, 9, 10, 11, 12, 13, 14, 15, 16, 17, 18, 19, 20, 21, 22, 23, 24, 25, 26, 27, 28, 29, 30, 31, 32, 33, 34, 35, 36, 37, 38, 39, 40, 41, 42, 43, 44, 45, 46, 47, 48, 49, 50, 51, 52, 53, 54, 55, 56, 57, 58, 59, 60, 61, 62, 63, 64, 65, 66, 67, 68, 69, 70, 71, 72, 73, 74, 75, 76, 77, 78, 79, 80, 81, 82, 83, 84, 85, 86, 87, 88, 89, 90, 91, 92, 93, 94, 95, 96, 97, 98, 99, 100, 101, 102, 103, 104, 105, 106, 107, 108, 109, 110, 111, 112, 113, 114, 115, 116, 117, 118, 119, 120, 121, 122, 123, 124, 125, 126, 127, 128, 129, 130, 131, 132, 133, 134, 135, 136, 137, 138, 139, 140, 141, 142, 143, 144, 145, 146, 147, 148, 149, 150, 151, 152, 153, 154, 155, 156, 157, 158, 159, 160, 161, 177, 178, 179, 180, 181, 182, 183, 184, 185, 186, 187, 188]
theorem okF : tabF.all (fun x => fieldB Try.prog x.1 x.2.1 x.2.2) = true := by kernel_rfl
theorem okC : tabC.all (fun x => cellB Try.prog x) = true := by kernel_rfl
theorem okA : tabA.all (fun x => aggB Try.prog x.1 x.2) = true := by kernel_rfl
theorem okS : tabS.all (fun x => sliceB Try.prog x.1 x.2) = true := by kernel_rfl
theorem okP : tabP.all (fun x => appB Try.prog x.1 x.2.1 x.2.2) = true := by kernel_rfl
theorem okE : tabE.all (fun x => elemB Try.prog x.1 x.2) = true := by kernel_rfl
theorem okN : tabN.all (fun x => sizeB Try.prog x.1 x.2) = true := by kernel_rfl
theorem okZ : allZ Try.prog tabZ := by repeat (first | exact trivial | refine And.intro (by kernel_rfl) ?_)
theorem okU : tabU.all (fun x => fieldsB Try.prog x.1 x.2) = true := by kernel_rfl
theorem okI : tabI.all (fun x => noIfc Try.prog x) = true := by kernel_rfl
theorem okK : tabK.all (fun x => intB Try.prog x.1 x.2) = true := by kernel_rfl
theorem okT : tabT.all (fun x => strB Try.prog x) = true := by kernel_rfl
theorem okQ : tabQ.all (fun x => entB Try.prog x) = true := by kernel_rfl
theorem okM : Try.prog.follows .mixedOrders = true := by kernel_rfl
theorem fF {T f off : Nat} (h : lk3 tabF T f = some off) : fieldB Try.prog T f off = true := lk3_all okF h
theorem fC {T : Nat} (h : lk1 tabC T = true) : cellB Try.prog T = true := lk1_all okC h
theorem fA {T n : Nat} (h : lk2 tabA T = some n) : aggB Try.prog T n = true := lk2_all okA h
theorem fS {T n : Nat} (h : lk2 tabS T = some n) : sliceB Try.prog T n = true := lk2_all okS h
theorem fP {T z b : Nat} (h : lk2 tabP T = some (z, b)) : appB Try.prog T z b = true := lk22_all okP h
theorem fE {T e : Nat} (h : lk2 tabE T = some e) : Try.prog.underlying T = some (.slice e) := elemB_spec (lk2_all okE h)
theorem fN {T n m : Nat} (h : lk2 tabN T = some m) (e : m = n) : sizeB Try.prog T n = true := e ▸ lk2_all okN h
theorem fZ {T : Nat} {vs : List Value} (h : lk2 tabZ T = some vs) : zeroC Try.prog T = some vs := allZ_get okZ h
theorem fU {T : Nat} {l : List (Nat × Nat)} (h : lk2 tabU T = some l) : fieldsB Try.prog T l = true := lk2_all okU h
theorem fI {T : Nat} (h : lk1 tabI T = true) : noIfc Try.prog T = true := lk1_all okI h
theorem fK {T : Nat} {k : IntKind} (h : lk2 tabK T = some k) : intT Try.prog T k := intB_spec (lk2_all okK h)
theorem fT {T : Nat} (h : lk1 tabT T = true) : Try.prog.underlying T = some .string := strB_spec (lk1_all okT h)
theorem fQ {f : Nat} (h : lk1 tabQ f = true) : entB Try.prog f = true := lk1_all okQ h
end Go.Proofs.Ytncccjpbaeaafaa
