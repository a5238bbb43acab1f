/- Part 18 of a proof: Ty, W1, W2 -/
import Derived.Test.YtgcdpfpffalalaaGreatDoorProg
import Derived.KernelRfl
import Derived.Test.YtgcdpfpffalalaaGreatDoorQ06
import Derived.Test.YtgcdpfpffalalaaGreatDoorQ13
import Derived.Test.YtgcdpfpffalalaaGreatDoorQ17
set_option linter.all false

/- The facts on the types that the operations use, printed by a program of mine out of the dump's table; each proved by the kernel. -/
namespace Go.Proofs.YtgcdpfpffalalaaGreatDoor
open Go Go.Abs
@[simp] theorem tk1 : tkind Tryz.prog 1 = .func := by kernel_rfl
@[simp] theorem ts1 : tsize Tryz.prog 1 = 1 := by kernel_rfl
@[simp] theorem tz1 : tzero Tryz.prog 1 = [.val .nilFunc] := by kernel_rfl
@[simp] theorem tb1 : tbytes Tryz.prog 1 = 8 := by kernel_rfl
@[simp] theorem tk2 : tkind Tryz.prog 2 = .int .i64 := by kernel_rfl
@[simp] theorem ts2 : tsize Tryz.prog 2 = 1 := by kernel_rfl
@[simp] theorem tz2 : tzero Tryz.prog 2 = [.val (.int .i64 0)] := by kernel_rfl
@[simp] theorem tb2 : tbytes Tryz.prog 2 = 8 := by kernel_rfl
@[simp] theorem tk3 : tkind Tryz.prog 3 = .int .i64 := by kernel_rfl
@[simp] theorem ts3 : tsize Tryz.prog 3 = 1 := by kernel_rfl
@[simp] theorem tz3 : tzero Tryz.prog 3 = [.val (.int .i64 0)] := by kernel_rfl
@[simp] theorem tb3 : tbytes Tryz.prog 3 = 8 := by kernel_rfl
@[simp] theorem tk4 : tkind Tryz.prog 4 = .bool := by kernel_rfl
@[simp] theorem ts4 : tsize Tryz.prog 4 = 1 := by kernel_rfl
@[simp] theorem tz4 : tzero Tryz.prog 4 = [.val (.bool false)] := by kernel_rfl
@[simp] theorem tb4 : tbytes Tryz.prog 4 = 1 := by kernel_rfl
@[simp] theorem tk5 : tkind Tryz.prog 5 = .int .u8 := by kernel_rfl
@[simp] theorem ts5 : tsize Tryz.prog 5 = 1 := by kernel_rfl
@[simp] theorem tz5 : tzero Tryz.prog 5 = [.val (.int .u8 0)] := by kernel_rfl
@[simp] theorem tb5 : tbytes Tryz.prog 5 = 1 := by kernel_rfl
@[simp] theorem tk9 : tkind Tryz.prog 9 = .string := by kernel_rfl
@[simp] theorem ts9 : tsize Tryz.prog 9 = 1 := by kernel_rfl
@[simp] theorem tz9 : tzero Tryz.prog 9 = [.val (.string ⟨#[]⟩)] := by kernel_rfl
@[simp] theorem tb9 : tbytes Tryz.prog 9 = 16 := by kernel_rfl
@[simp] theorem tk20 : tkind Tryz.prog 20 = .iface := by kernel_rfl
@[simp] theorem ts20 : tsize Tryz.prog 20 = 1 := by kernel_rfl
@[simp] theorem tz20 : tzero Tryz.prog 20 = [.val .nilIface] := by kernel_rfl
@[simp] theorem tb20 : tbytes Tryz.prog 20 = 16 := by kernel_rfl
@[simp] theorem tk21 : tkind Tryz.prog 21 = .int .i32 := by kernel_rfl
@[simp] theorem ts21 : tsize Tryz.prog 21 = 1 := by kernel_rfl
@[simp] theorem tz21 : tzero Tryz.prog 21 = [.val (.int .i32 0)] := by kernel_rfl
@[simp] theorem tb21 : tbytes Tryz.prog 21 = 4 := by kernel_rfl
@[simp] theorem tk22 : tkind Tryz.prog 22 = .slice 68 2 := by kernel_rfl
@[simp] theorem ts22 : tsize Tryz.prog 22 = 1 := by kernel_rfl
@[simp] theorem tz22 : tzero Tryz.prog 22 = [.nils] := by kernel_rfl
@[simp] theorem tb22 : tbytes Tryz.prog 22 = 24 := by kernel_rfl
@[simp] theorem tk23 : tkind Tryz.prog 23 = .slice 103 13 := by kernel_rfl
@[simp] theorem ts23 : tsize Tryz.prog 23 = 1 := by kernel_rfl
@[simp] theorem tz23 : tzero Tryz.prog 23 = [.nils] := by kernel_rfl
@[simp] theorem tb23 : tbytes Tryz.prog 23 = 24 := by kernel_rfl
@[simp] theorem tk25 : tkind Tryz.prog 25 = .struct [(0, 1), (1, 1), (2, 1)] := by kernel_rfl
@[simp] theorem ts25 : tsize Tryz.prog 25 = 3 := by kernel_rfl
@[simp] theorem tz25 : tzero Tryz.prog 25 = [.val (.string ⟨#[]⟩), .nils, .nils] := by kernel_rfl
@[simp] theorem tb25 : tbytes Tryz.prog 25 = 64 := by kernel_rfl
@[simp] theorem tk26 : tkind Tryz.prog 26 = .slice 41 3 := by kernel_rfl
@[simp] theorem ts26 : tsize Tryz.prog 26 = 1 := by kernel_rfl
@[simp] theorem tz26 : tzero Tryz.prog 26 = [.nils] := by kernel_rfl
@[simp] theorem tb26 : tbytes Tryz.prog 26 = 24 := by kernel_rfl
@[simp] theorem tk27 : tkind Tryz.prog 27 = .slice 9 1 := by kernel_rfl
@[simp] theorem ts27 : tsize Tryz.prog 27 = 1 := by kernel_rfl
@[simp] theorem tz27 : tzero Tryz.prog 27 = [.nils] := by kernel_rfl
@[simp] theorem tb27 : tbytes Tryz.prog 27 = 24 := by kernel_rfl
@[simp] theorem tk29 : tkind Tryz.prog 29 = .struct [(0, 1), (1, 1), (2, 1)] := by kernel_rfl
@[simp] theorem ts29 : tsize Tryz.prog 29 = 3 := by kernel_rfl
@[simp] theorem tz29 : tzero Tryz.prog 29 = [.val (.bool false), .nils, .nils] := by kernel_rfl
@[simp] theorem tb29 : tbytes Tryz.prog 29 = 56 := by kernel_rfl
@[simp] theorem tk31 : tkind Tryz.prog 31 = .struct [(0, 3), (3, 1), (4, 3)] := by kernel_rfl
@[simp] theorem ts31 : tsize Tryz.prog 31 = 7 := by kernel_rfl
@[simp] theorem tz31 : tzero Tryz.prog 31 = [.val (.string ⟨#[]⟩), .nils, .nils, .nils, .val (.bool false), .nils, .nils] := by kernel_rfl
@[simp] theorem tb31 : tbytes Tryz.prog 31 = 144 := by kernel_rfl
@[simp] theorem tk32 : tkind Tryz.prog 32 = .slice 44 4 := by kernel_rfl
@[simp] theorem ts32 : tsize Tryz.prog 32 = 1 := by kernel_rfl
@[simp] theorem tz32 : tzero Tryz.prog 32 = [.nils] := by kernel_rfl
@[simp] theorem tb32 : tbytes Tryz.prog 32 = 24 := by kernel_rfl
@[simp] theorem tk34 : tkind Tryz.prog 34 = .struct [(0, 1), (1, 1), (2, 1)] := by kernel_rfl
@[simp] theorem ts34 : tsize Tryz.prog 34 = 3 := by kernel_rfl
@[simp] theorem tz34 : tzero Tryz.prog 34 = [.val (.int .i64 0), .val (.int .i64 0), .nils] := by kernel_rfl
@[simp] theorem tb34 : tbytes Tryz.prog 34 = 40 := by kernel_rfl
@[simp] theorem tk36 : tkind Tryz.prog 36 = .struct [(0, 3), (3, 1), (4, 1), (5, 1), (6, 1), (7, 1)] := by kernel_rfl
@[simp] theorem ts36 : tsize Tryz.prog 36 = 8 := by kernel_rfl
@[simp] theorem tz36 : tzero Tryz.prog 36 = [.val (.int .i64 0), .val (.int .i64 0), .nils, .nils, .nils, .nils, .val (.string ⟨#[]⟩), .val (.int .i64 0)] := by kernel_rfl
@[simp] theorem tb36 : tbytes Tryz.prog 36 = 136 := by kernel_rfl
@[simp] theorem tk41 : tkind Tryz.prog 41 = .struct [(0, 1), (1, 1), (2, 1)] := by kernel_rfl
@[simp] theorem ts41 : tsize Tryz.prog 41 = 3 := by kernel_rfl
@[simp] theorem tz41 : tzero Tryz.prog 41 = [.val (.int .i64 0), .val (.int .i64 0), .val (.string ⟨#[]⟩)] := by kernel_rfl
@[simp] theorem fl41 : flatOf Tryz.prog 41 = [.int .i64, .int .i64, .string] := by kernel_rfl
@[simp] theorem tb41 : tbytes Tryz.prog 41 = 32 := by kernel_rfl
@[simp] theorem tk44 : tkind Tryz.prog 44 = .struct [(0, 1), (1, 3)] := by kernel_rfl
@[simp] theorem ts44 : tsize Tryz.prog 44 = 4 := by kernel_rfl
@[simp] theorem tz44 : tzero Tryz.prog 44 = [.val (.string ⟨#[]⟩), .val (.int .i64 0), .val (.int .i64 0), .val (.string ⟨#[]⟩)] := by kernel_rfl
@[simp] theorem fl44 : flatOf Tryz.prog 44 = [.string, .int .i64, .int .i64, .string] := by kernel_rfl
@[simp] theorem tb44 : tbytes Tryz.prog 44 = 48 := by kernel_rfl
@[simp] theorem tk45 : tkind Tryz.prog 45 = .int .i64 := by kernel_rfl
@[simp] theorem ts45 : tsize Tryz.prog 45 = 1 := by kernel_rfl
@[simp] theorem tz45 : tzero Tryz.prog 45 = [.val (.int .i64 0)] := by kernel_rfl
@[simp] theorem tb45 : tbytes Tryz.prog 45 = 8 := by kernel_rfl
@[simp] theorem tk56 : tkind Tryz.prog 56 = .slice 58 4 := by kernel_rfl
@[simp] theorem ts56 : tsize Tryz.prog 56 = 1 := by kernel_rfl
@[simp] theorem tz56 : tzero Tryz.prog 56 = [.nils] := by kernel_rfl
@[simp] theorem tb56 : tbytes Tryz.prog 56 = 24 := by kernel_rfl
@[simp] theorem tk58 : tkind Tryz.prog 58 = .struct [(0, 1), (1, 1), (2, 1), (3, 1)] := by kernel_rfl
@[simp] theorem ts58 : tsize Tryz.prog 58 = 4 := by kernel_rfl
@[simp] theorem tz58 : tzero Tryz.prog 58 = [.val (.int .i64 0), .val (.int .i64 0), .val (.string ⟨#[]⟩), .nils] := by kernel_rfl
@[simp] theorem tb58 : tbytes Tryz.prog 58 = 56 := by kernel_rfl
@[simp] theorem tk59 : tkind Tryz.prog 59 = .array 2 32 1 := by kernel_rfl
@[simp] theorem ts59 : tsize Tryz.prog 59 = 2 := by kernel_rfl
@[simp] theorem tz59 : tzero Tryz.prog 59 = [.nils, .nils] := by kernel_rfl
@[simp] theorem tb59 : tbytes Tryz.prog 59 = 48 := by kernel_rfl
@[simp] theorem tk65 : tkind Tryz.prog 65 = .ptr := by kernel_rfl
@[simp] theorem ts65 : tsize Tryz.prog 65 = 1 := by kernel_rfl
@[simp] theorem tz65 : tzero Tryz.prog 65 = [.val (.pointer none)] := by kernel_rfl
@[simp] theorem tb65 : tbytes Tryz.prog 65 = 8 := by kernel_rfl
@[simp] theorem tk68 : tkind Tryz.prog 68 = .struct [(0, 1), (1, 1)] := by kernel_rfl
@[simp] theorem ts68 : tsize Tryz.prog 68 = 2 := by kernel_rfl
@[simp] theorem tz68 : tzero Tryz.prog 68 = [.val (.string ⟨#[]⟩), .val (.int .i64 0)] := by kernel_rfl
@[simp] theorem fl68 : flatOf Tryz.prog 68 = [.string, .int .i64] := by kernel_rfl
@[simp] theorem tb68 : tbytes Tryz.prog 68 = 24 := by kernel_rfl
@[simp] theorem tk69 : tkind Tryz.prog 69 = .map 9 41 := by kernel_rfl
@[simp] theorem ts69 : tsize Tryz.prog 69 = 1 := by kernel_rfl
@[simp] theorem tz69 : tzero Tryz.prog 69 = [.val (.map none)] := by kernel_rfl
@[simp] theorem tb69 : tbytes Tryz.prog 69 = 8 := by kernel_rfl
@[simp] theorem tk71 : tkind Tryz.prog 71 = .struct [(0, 1), (1, 3), (4, 1), (5, 1), (6, 8)] := by kernel_rfl
@[simp] theorem ts71 : tsize Tryz.prog 71 = 14 := by kernel_rfl
@[simp] theorem tz71 : tzero Tryz.prog 71 = [.nils, .val (.bool false), .nils, .nils, .val (.map none), .val (.map none), .val (.int .i64 0), .val (.int .i64 0), .nils, .nils, .nils, .nils, .val (.string ⟨#[]⟩), .val (.int .i64 0)] := by kernel_rfl
@[simp] theorem tb71 : tbytes Tryz.prog 71 = 232 := by kernel_rfl
@[simp] theorem tk74 : tkind Tryz.prog 74 = .struct [(0, 3), (3, 1)] := by kernel_rfl
@[simp] theorem ts74 : tsize Tryz.prog 74 = 4 := by kernel_rfl
@[simp] theorem tz74 : tzero Tryz.prog 74 = [.val (.int .i64 0), .val (.int .i64 0), .nils, .val (.string ⟨#[]⟩)] := by kernel_rfl
@[simp] theorem tb74 : tbytes Tryz.prog 74 = 56 := by kernel_rfl
@[simp] theorem tk84 : tkind Tryz.prog 84 = .struct [(0, 1), (1, 3), (4, 1), (5, 1), (6, 8)] := by kernel_rfl
@[simp] theorem ts84 : tsize Tryz.prog 84 = 14 := by kernel_rfl
@[simp] theorem tz84 : tzero Tryz.prog 84 = [.nils, .val (.bool false), .nils, .nils, .nils, .nils, .val (.int .i64 0), .val (.int .i64 0), .nils, .nils, .nils, .nils, .val (.string ⟨#[]⟩), .val (.int .i64 0)] := by kernel_rfl
@[simp] theorem tb84 : tbytes Tryz.prog 84 = 264 := by kernel_rfl
@[simp] theorem tk89 : tkind Tryz.prog 89 = .array 4 3 1 := by kernel_rfl
@[simp] theorem ts89 : tsize Tryz.prog 89 = 4 := by kernel_rfl
@[simp] theorem tz89 : tzero Tryz.prog 89 = [.val (.int .i64 0), .val (.int .i64 0), .val (.int .i64 0), .val (.int .i64 0)] := by kernel_rfl
@[simp] theorem tb89 : tbytes Tryz.prog 89 = 32 := by kernel_rfl
@[simp] theorem tk101 : tkind Tryz.prog 101 = .func := by kernel_rfl
@[simp] theorem ts101 : tsize Tryz.prog 101 = 1 := by kernel_rfl
@[simp] theorem tz101 : tzero Tryz.prog 101 = [.val .nilFunc] := by kernel_rfl
@[simp] theorem tb101 : tbytes Tryz.prog 101 = 8 := by kernel_rfl
@[simp] theorem tk103 : tkind Tryz.prog 103 = .struct [(0, 1), (1, 1), (2, 1), (3, 4), (7, 4), (11, 1), (12, 1)] := by kernel_rfl
@[simp] theorem ts103 : tsize Tryz.prog 103 = 13 := by kernel_rfl
@[simp] theorem tz103 : tzero Tryz.prog 103 = [.val (.int .i64 0), .val (.string ⟨#[]⟩), .val (.int .i64 0), .val (.int .i64 0), .val (.int .i64 0), .val (.string ⟨#[]⟩), .nils, .val (.int .i64 0), .val (.int .i64 0), .val (.string ⟨#[]⟩), .nils, .nils, .nils] := by kernel_rfl
@[simp] theorem tb103 : tbytes Tryz.prog 103 = 192 := by kernel_rfl
@[simp] theorem tk106 : tkind Tryz.prog 106 = .struct [(0, 1), (1, 1), (2, 1), (3, 1)] := by kernel_rfl
@[simp] theorem ts106 : tsize Tryz.prog 106 = 4 := by kernel_rfl
@[simp] theorem tz106 : tzero Tryz.prog 106 = [.val (.int .i64 0), .val (.int .i64 0), .val (.int .i64 0), .val (.int .i64 0)] := by kernel_rfl
@[simp] theorem fl106 : flatOf Tryz.prog 106 = [.int .i64, .int .i64, .int .i64, .int .i64] := by kernel_rfl
@[simp] theorem tb106 : tbytes Tryz.prog 106 = 32 := by kernel_rfl
@[simp] theorem tk124 : tkind Tryz.prog 124 = .map 9 3 := by kernel_rfl
@[simp] theorem ts124 : tsize Tryz.prog 124 = 1 := by kernel_rfl
@[simp] theorem tz124 : tzero Tryz.prog 124 = [.val (.map none)] := by kernel_rfl
@[simp] theorem tb124 : tbytes Tryz.prog 124 = 8 := by kernel_rfl
@[simp] theorem tk132 : tkind Tryz.prog 132 = .struct [(0, 1), (1, 1)] := by kernel_rfl
@[simp] theorem ts132 : tsize Tryz.prog 132 = 2 := by kernel_rfl
@[simp] theorem tz132 : tzero Tryz.prog 132 = [.nils, .nils] := by kernel_rfl
@[simp] theorem tb132 : tbytes Tryz.prog 132 = 48 := by kernel_rfl
@[simp] theorem tk156 : tkind Tryz.prog 156 = .ptr := by kernel_rfl
@[simp] theorem ts156 : tsize Tryz.prog 156 = 1 := by kernel_rfl
@[simp] theorem tz156 : tzero Tryz.prog 156 = [.val (.pointer none)] := by kernel_rfl
@[simp] theorem tb156 : tbytes Tryz.prog 156 = 8 := by kernel_rfl
@[simp] theorem tk157 : tkind Tryz.prog 157 = .map 9 4 := by kernel_rfl
@[simp] theorem ts157 : tsize Tryz.prog 157 = 1 := by kernel_rfl
@[simp] theorem tz157 : tzero Tryz.prog 157 = [.val (.map none)] := by kernel_rfl
@[simp] theorem tb157 : tbytes Tryz.prog 157 = 8 := by kernel_rfl
@[simp] theorem tk159 : tkind Tryz.prog 159 = .struct [(0, 1), (1, 1), (2, 1)] := by kernel_rfl
@[simp] theorem ts159 : tsize Tryz.prog 159 = 3 := by kernel_rfl
@[simp] theorem tz159 : tzero Tryz.prog 159 = [.val (.map none), .val (.map none), .val (.map none)] := by kernel_rfl
@[simp] theorem tb159 : tbytes Tryz.prog 159 = 24 := by kernel_rfl
@[simp] theorem tk162 : tkind Tryz.prog 162 = .func := by kernel_rfl
@[simp] theorem ts162 : tsize Tryz.prog 162 = 1 := by kernel_rfl
@[simp] theorem tz162 : tzero Tryz.prog 162 = [.val .nilFunc] := by kernel_rfl
@[simp] theorem tb162 : tbytes Tryz.prog 162 = 8 := by kernel_rfl
@[simp] theorem tk165 : tkind Tryz.prog 165 = .int .u64 := by kernel_rfl
@[simp] theorem ts165 : tsize Tryz.prog 165 = 1 := by kernel_rfl
@[simp] theorem tz165 : tzero Tryz.prog 165 = [.val (.int .u64 0)] := by kernel_rfl
@[simp] theorem tb165 : tbytes Tryz.prog 165 = 8 := by kernel_rfl
@[simp] theorem tk166 : tkind Tryz.prog 166 = .slice 3 1 := by kernel_rfl
@[simp] theorem ts166 : tsize Tryz.prog 166 = 1 := by kernel_rfl
@[simp] theorem tz166 : tzero Tryz.prog 166 = [.nils] := by kernel_rfl
@[simp] theorem tb166 : tbytes Tryz.prog 166 = 24 := by kernel_rfl
@[simp] theorem tk172 : tkind Tryz.prog 172 = .slice 175 20 := by kernel_rfl
@[simp] theorem ts172 : tsize Tryz.prog 172 = 1 := by kernel_rfl
@[simp] theorem tz172 : tzero Tryz.prog 172 = [.nils] := by kernel_rfl
@[simp] theorem tb172 : tbytes Tryz.prog 172 = 24 := by kernel_rfl
@[simp] theorem tk175 : tkind Tryz.prog 175 = .struct [(0, 1), (1, 13), (14, 1), (15, 4), (19, 1)] := by kernel_rfl
@[simp] theorem ts175 : tsize Tryz.prog 175 = 20 := by kernel_rfl
@[simp] theorem tz175 : tzero Tryz.prog 175 = [.val (.bool false), .val (.int .i64 0), .val (.string ⟨#[]⟩), .val (.int .i64 0), .val (.int .i64 0), .val (.int .i64 0), .val (.string ⟨#[]⟩), .nils, .val (.int .i64 0), .val (.int .i64 0), .val (.string ⟨#[]⟩), .nils, .nils, .nils, .val (.int .i64 0), .val (.int .i64 0), .val (.int .i64 0), .val (.string ⟨#[]⟩), .nils, .val (.bool false)] := by kernel_rfl
@[simp] theorem tb175 : tbytes Tryz.prog 175 = 272 := by kernel_rfl
@[simp] theorem tk184 : tkind Tryz.prog 184 = .func := by kernel_rfl
@[simp] theorem ts184 : tsize Tryz.prog 184 = 1 := by kernel_rfl
@[simp] theorem tz184 : tzero Tryz.prog 184 = [.val .nilFunc] := by kernel_rfl
@[simp] theorem tb184 : tbytes Tryz.prog 184 = 8 := by kernel_rfl
@[simp] theorem tk185 : tkind Tryz.prog 185 = .func := by kernel_rfl
@[simp] theorem ts185 : tsize Tryz.prog 185 = 1 := by kernel_rfl
@[simp] theorem tz185 : tzero Tryz.prog 185 = [.val .nilFunc] := by kernel_rfl
@[simp] theorem tb185 : tbytes Tryz.prog 185 = 8 := by kernel_rfl
@[simp] theorem tk187 : tkind Tryz.prog 187 = .func := by kernel_rfl
@[simp] theorem ts187 : tsize Tryz.prog 187 = 1 := by kernel_rfl
@[simp] theorem tz187 : tzero Tryz.prog 187 = [.val .nilFunc] := by kernel_rfl
@[simp] theorem tb187 : tbytes Tryz.prog 187 = 8 := by kernel_rfl
@[simp] theorem tk211 : tkind Tryz.prog 211 = .func := by kernel_rfl
@[simp] theorem ts211 : tsize Tryz.prog 211 = 1 := by kernel_rfl
@[simp] theorem tz211 : tzero Tryz.prog 211 = [.val .nilFunc] := by kernel_rfl
@[simp] theorem tb211 : tbytes Tryz.prog 211 = 8 := by kernel_rfl
@[simp] theorem tk212 : tkind Tryz.prog 212 = .ptr := by kernel_rfl
@[simp] theorem ts212 : tsize Tryz.prog 212 = 1 := by kernel_rfl
@[simp] theorem tz212 : tzero Tryz.prog 212 = [.val (.pointer none)] := by kernel_rfl
@[simp] theorem tb212 : tbytes Tryz.prog 212 = 8 := by kernel_rfl
@[simp] theorem tk214 : tkind Tryz.prog 214 = .struct [(0, 1), (1, 1), (2, 1)] := by kernel_rfl
@[simp] theorem ts214 : tsize Tryz.prog 214 = 3 := by kernel_rfl
@[simp] theorem tz214 : tzero Tryz.prog 214 = [.val (.int .i64 0), .val .nilFunc, .val .nilFunc] := by kernel_rfl
@[simp] theorem tb214 : tbytes Tryz.prog 214 = 24 := by kernel_rfl
@[simp] theorem tk217 : tkind Tryz.prog 217 = .struct [(0, 1), (1, 1), (2, 1), (3, 1), (4, 1), (5, 1)] := by kernel_rfl
@[simp] theorem ts217 : tsize Tryz.prog 217 = 6 := by kernel_rfl
@[simp] theorem tz217 : tzero Tryz.prog 217 = [.val (.bool false), .val (.bool false), .val (.bool false), .val (.bool false), .val (.bool false), .val (.bool false)] := by kernel_rfl
@[simp] theorem fl217 : flatOf Tryz.prog 217 = [.bool, .bool, .bool, .bool, .bool, .bool] := by kernel_rfl
@[simp] theorem tb217 : tbytes Tryz.prog 217 = 6 := by kernel_rfl
@[simp] theorem tk223 : tkind Tryz.prog 223 = .struct [(0, 3), (3, 3)] := by kernel_rfl
@[simp] theorem ts223 : tsize Tryz.prog 223 = 6 := by kernel_rfl
@[simp] theorem tz223 : tzero Tryz.prog 223 = [.val (.int .i64 0), .val (.int .i64 0), .val (.string ⟨#[]⟩), .val (.int .i64 0), .val (.int .i64 0), .val (.string ⟨#[]⟩)] := by kernel_rfl
@[simp] theorem fl223 : flatOf Tryz.prog 223 = [.int .i64, .int .i64, .string, .int .i64, .int .i64, .string] := by kernel_rfl
@[simp] theorem tb223 : tbytes Tryz.prog 223 = 64 := by kernel_rfl
@[simp] theorem tk226 : tkind Tryz.prog 226 = .slice 5 1 := by kernel_rfl
@[simp] theorem ts226 : tsize Tryz.prog 226 = 1 := by kernel_rfl
@[simp] theorem tz226 : tzero Tryz.prog 226 = [.nils] := by kernel_rfl
@[simp] theorem tb226 : tbytes Tryz.prog 226 = 24 := by kernel_rfl
@[simp] theorem tk227 : tkind Tryz.prog 227 = .int .u64 := by kernel_rfl
@[simp] theorem ts227 : tsize Tryz.prog 227 = 1 := by kernel_rfl
@[simp] theorem tz227 : tzero Tryz.prog 227 = [.val (.int .u64 0)] := by kernel_rfl
@[simp] theorem tb227 : tbytes Tryz.prog 227 = 8 := by kernel_rfl
@[simp] theorem tk234 : tkind Tryz.prog 234 = .array 24 5 1 := by kernel_rfl
@[simp] theorem ts234 : tsize Tryz.prog 234 = 24 := by kernel_rfl
@[simp] theorem tz234 : tzero Tryz.prog 234 = [.val (.int .u8 0), .val (.int .u8 0), .val (.int .u8 0), .val (.int .u8 0), .val (.int .u8 0), .val (.int .u8 0), .val (.int .u8 0), .val (.int .u8 0), .val (.int .u8 0), .val (.int .u8 0), .val (.int .u8 0), .val (.int .u8 0), .val (.int .u8 0), .val (.int .u8 0), .val (.int .u8 0), .val (.int .u8 0), .val (.int .u8 0), .val (.int .u8 0), .val (.int .u8 0), .val (.int .u8 0), .val (.int .u8 0), .val (.int .u8 0), .val (.int .u8 0), .val (.int .u8 0)] := by kernel_rfl
@[simp] theorem tb234 : tbytes Tryz.prog 234 = 24 := by kernel_rfl
@[simp] theorem tk246 : tkind Tryz.prog 246 = .array 20 165 1 := by kernel_rfl
@[simp] theorem ts246 : tsize Tryz.prog 246 = 20 := by kernel_rfl
@[simp] theorem tz246 : tzero Tryz.prog 246 = [.val (.int .u64 0), .val (.int .u64 0), .val (.int .u64 0), .val (.int .u64 0), .val (.int .u64 0), .val (.int .u64 0), .val (.int .u64 0), .val (.int .u64 0), .val (.int .u64 0), .val (.int .u64 0), .val (.int .u64 0), .val (.int .u64 0), .val (.int .u64 0), .val (.int .u64 0), .val (.int .u64 0), .val (.int .u64 0), .val (.int .u64 0), .val (.int .u64 0), .val (.int .u64 0), .val (.int .u64 0)] := by kernel_rfl
@[simp] theorem tb246 : tbytes Tryz.prog 246 = 160 := by kernel_rfl
@[simp] theorem tk247 : tkind Tryz.prog 247 = .int .u32 := by kernel_rfl
@[simp] theorem ts247 : tsize Tryz.prog 247 = 1 := by kernel_rfl
@[simp] theorem tz247 : tzero Tryz.prog 247 = [.val (.int .u32 0)] := by kernel_rfl
@[simp] theorem tb247 : tbytes Tryz.prog 247 = 4 := by kernel_rfl
@[simp] theorem tk253 : tkind Tryz.prog 253 = .array 32 5 1 := by kernel_rfl
@[simp] theorem ts253 : tsize Tryz.prog 253 = 32 := by kernel_rfl
@[simp] theorem tz253 : tzero Tryz.prog 253 = [.val (.int .u8 0), .val (.int .u8 0), .val (.int .u8 0), .val (.int .u8 0), .val (.int .u8 0), .val (.int .u8 0), .val (.int .u8 0), .val (.int .u8 0), .val (.int .u8 0), .val (.int .u8 0), .val (.int .u8 0), .val (.int .u8 0), .val (.int .u8 0), .val (.int .u8 0), .val (.int .u8 0), .val (.int .u8 0), .val (.int .u8 0), .val (.int .u8 0), .val (.int .u8 0), .val (.int .u8 0), .val (.int .u8 0), .val (.int .u8 0), .val (.int .u8 0), .val (.int .u8 0), .val (.int .u8 0), .val (.int .u8 0), .val (.int .u8 0), .val (.int .u8 0), .val (.int .u8 0), .val (.int .u8 0), .val (.int .u8 0), .val (.int .u8 0)] := by kernel_rfl
@[simp] theorem tb253 : tbytes Tryz.prog 253 = 32 := by kernel_rfl
@[simp] theorem tk254 : tkind Tryz.prog 254 = .array 64 5 1 := by kernel_rfl
@[simp] theorem ts254 : tsize Tryz.prog 254 = 64 := by kernel_rfl
@[simp] theorem tz254 : tzero Tryz.prog 254 = [.val (.int .u8 0), .val (.int .u8 0), .val (.int .u8 0), .val (.int .u8 0), .val (.int .u8 0), .val (.int .u8 0), .val (.int .u8 0), .val (.int .u8 0), .val (.int .u8 0), .val (.int .u8 0), .val (.int .u8 0), .val (.int .u8 0), .val (.int .u8 0), .val (.int .u8 0), .val (.int .u8 0), .val (.int .u8 0), .val (.int .u8 0), .val (.int .u8 0), .val (.int .u8 0), .val (.int .u8 0), .val (.int .u8 0), .val (.int .u8 0), .val (.int .u8 0), .val (.int .u8 0), .val (.int .u8 0), .val (.int .u8 0), .val (.int .u8 0), .val (.int .u8 0), .val (.int .u8 0), .val (.int .u8 0), .val (.int .u8 0), .val (.int .u8 0), .val (.int .u8 0), .val (.int .u8 0), .val (.int .u8 0), .val (.int .u8 0), .val (.int .u8 0), .val (.int .u8 0), .val (.int .u8 0), .val (.int .u8 0), .val (.int .u8 0), .val (.int .u8 0), .val (.int .u8 0), .val (.int .u8 0), .val (.int .u8 0), .val (.int .u8 0), .val (.int .u8 0), .val (.int .u8 0), .val (.int .u8 0), .val (.int .u8 0), .val (.int .u8 0), .val (.int .u8 0), .val (.int .u8 0), .val (.int .u8 0), .val (.int .u8 0), .val (.int .u8 0), .val (.int .u8 0), .val (.int .u8 0), .val (.int .u8 0), .val (.int .u8 0), .val (.int .u8 0), .val (.int .u8 0), .val (.int .u8 0), .val (.int .u8 0)] := by kernel_rfl
@[simp] theorem tb254 : tbytes Tryz.prog 254 = 64 := by kernel_rfl
end Go.Proofs.YtgcdpfpffalalaaGreatDoor

set_option linter.unusedSimpArgs false
set_option linter.unusedVariables false
namespace Go.Proofs.YtgcdpfpffalalaaGreatDoor
open Go Go.Abs Go.Cw

theorem mixed : Tryz.prog.follows .mixedOrders = true := by kernel_rfl

theorem c_value_plain (s : Bytes) : APure Tryz.prog 123 [S s] (Bo (plainS s)) := by
  refine apure_introB Tryz.func123 rfl (by kernel_rfl) (by simp [Tryz.ntmps123]) rfl ?_
  intro E h hN hh hu hb
  rw [Tryz.ntmps123] at hN
  refine awp_of_wpC _ _ _ ?_
  simp [go_sem] at hb
  simp -dsimp [go_sem, hN]
  refine awp_loopN s.size (fun n => allL okB ((bl s).drop n) = allL okB (bl s)) (fun n => ⟨[(0, S s), (3, I n)], h⟩) (by simp) (Wk.mk (by simp [hh]) (by simp [go_sem]) (by simp [hu, hUnder_ext hu, go_sem]) (by simp [go_sem])) ?_
  intro n hn hI
  have hw := wrapS hn hb
  simp -dsimp [go_sem, hN]
  refine cnd (fun hc => ?_) (fun hc => ?_) <;> try simp at hc
  · rw [bdrop hc, allL] at hI
    simp -dsimp [go_sem, hN, hc]
    refine cnd (fun hg => ?_) (fun hg => ?_)
    · simp -dsimp [go_sem, hN]
      simp [plainS, ← hI, okB, hg]
    · simp -dsimp [go_sem, hN, hw]
      exact ⟨hc, by simpa [okB, hg] using hI, (Wk.mk (by simp [hh]) (by simp [go_sem]) (by simp [hu, hUnder_ext hu, go_sem]) (by simp [go_sem]))⟩
  · rw [bend (by omega), allL] at hI
    simp -dsimp [go_sem, hN, plainS, ← hI]

theorem c_value_Valid (k n : Int) (s : Bytes) : APure Tryz.prog 88 [.agg [I k, I n, S s]] (Bo (valOk k n s)) := by
  refine apure_introB Tryz.func88 rfl (by kernel_rfl) (by simp [Tryz.ntmps88]) rfl ?_
  intro E h hN hh hu hb
  rw [Tryz.ntmps88] at hN
  refine awp_of_wpC _ _ _ ?_
  simp -dsimp [go_sem, hN]
  refine cnd (fun h0 => ?_) (fun h0 => ?_) <;> try simp at h0
  all_goals simp -dsimp [go_sem, hN, valOk, h0]
  refine cnd (fun h1 => ?_) (fun h1 => ?_) <;> try simp at h1
  all_goals simp -dsimp [go_sem, hN, valOk, h0, h1]
  refine cnd (fun h2 => ?_) (fun h2 => ?_) <;> try simp at h2
  all_goals simp -dsimp [go_sem, hN, valOk, h0, h1, h2]
  refine tgcall_pure (c_value_plain s) (by simp) ?_
  simp -dsimp [go_sem, hN, valOk, h0, h1, h2]

theorem c_interp_variable (k n : Int) (s : Bytes) : APure Tryz.prog 61 [.agg [I k, I n, S s]] (Bo (varOk k n s)) := by
  refine apure_introB Tryz.func61 rfl (by kernel_rfl) (by simp [Tryz.ntmps61]) rfl ?_
  intro E h hN hh hu hb
  rw [Tryz.ntmps61] at hN
  refine awp_of_wpC _ _ _ ?_
  simp -dsimp [go_sem, hN]
  refine cnd (fun h0 => ?_) (fun h0 => ?_) <;> try simp at h0
  all_goals simp -dsimp [go_sem, hN, varOk, h0]
  refine tgcall_pure (c_value_Valid k n s) (by simp) ?_
  simp -dsimp [go_sem, hN, varOk, h0]

theorem c_keys_Valid1 (b : UInt8) : APure Tryz.prog 139 [U8 b.toNat] (Bo (keyB b)) := by
  refine apure_introB Tryz.func139 rfl (by kernel_rfl) (by simp [Tryz.ntmps139]) rfl ?_
  intro E h hN hh hu hb
  rw [Tryz.ntmps139] at hN
  refine awp_of_wpC _ _ _ ?_
  simp -dsimp [go_sem, hN, keyB]
  omega

theorem c_keys_consists (s : Bytes) (f : FuncId) (p : UInt8 → Bool) (hp : ∀ b : UInt8, APure Tryz.prog f [U8 b.toNat] (Bo (p b))) : APure Tryz.prog 138 [S s, .fn (.func f) [] []] (Bo (decide ((s.size : Int) ≤ 24) && allL p (bl s))) := by
  refine apure_introB Tryz.func138 rfl (by kernel_rfl) (by simp [Tryz.ntmps138]) rfl ?_
  intro E h hN hh hu hb
  rw [Tryz.ntmps138] at hN
  refine awp_of_wpC _ _ _ ?_
  simp [go_sem] at hb
  simp -dsimp [go_sem, hN]
  refine cnd (fun h0 => ?_) (fun h0 => ?_) <;> try simp at h0
  all_goals simp -dsimp [go_sem, hN, h0]
  · simp [Int.not_le.2 h0]
  refine awp_loopN s.size (fun n => allL p ((bl s).drop n) = allL p (bl s)) (fun n => ⟨[(0, S s), (1, .fn (.func f) [] []), (10, I s.size), (11, I n)], h⟩) (by simp) (Wk.mk (by simp [hh]) (by simp [go_sem]) (by simp [hu, hUnder_ext hu, go_sem]) (by simp [go_sem])) ?_
  intro n hn hI
  have hw := wrapS hn hb
  simp -dsimp [go_sem, hN]
  refine cnd (fun hc => ?_) (fun hc => ?_) <;> try simp at hc
  · rw [bdrop hc, allL] at hI
    simp -dsimp [go_sem, hN, hc]
    refine tcall_pure (hp _) ?_
    simp -dsimp [go_sem, hN]
    refine cnd (fun hg => ?_) (fun hg => ?_) <;> try simp at hg
    · simp -dsimp [go_sem, hN]
      simp [h0, ← hI, hg]
    · simp -dsimp [go_sem, hN, hw]
      exact ⟨hc, by simpa [hg] using hI, (Wk.mk (by simp [hh]) (by simp [go_sem]) (by simp [hu, hUnder_ext hu, go_sem]) (by simp [go_sem]))⟩
  · rw [bend (by omega), allL] at hI
    simp -dsimp [go_sem, hN, h0, ← hI]

theorem c_keys_Valid (s : Bytes) : APure Tryz.prog 99 [S s] (Bo (keyOk s)) := by
  refine apure_introB Tryz.func99 rfl (by kernel_rfl) (by simp [Tryz.ntmps99]) rfl ?_
  intro E h hN hh hu hb
  rw [Tryz.ntmps99] at hN
  refine awp_of_wpC _ _ _ ?_
  simp -dsimp [go_sem, hN]
  refine tgcall_pure (c_keys_consists s _ keyB c_keys_Valid1) (by simp) ?_
  simp -dsimp [go_sem, hN, keyOk, Bool.and_assoc]

theorem c_interp_ascending (l : List Bytes) : APure Tryz.prog 72 [.slice (l.map sRow)] (Bo (ascK none l && decide ((l.length : Int) ≤ 64))) := by
  refine apure_introB Tryz.func72 rfl (by kernel_rfl) (by simp [Tryz.ntmps72]) rfl ?_
  intro E h hN hh hu hb
  rw [Tryz.ntmps72] at hN
  refine awp_of_wpC _ _ _ ?_
  simp [go_sem] at hb
  simp -dsimp [go_sem, hN]
  refine awp_loopN l.length (fun n => ascK (prevOf l n) (l.drop n) = ascK none l) (fun n => ⟨[(0, .slice (l.map sRow)), (5, .slice (l.map sRow)), (6, I l.length), (7, I n)], h⟩) (by simp [prevOf]) (Wk.mk (by simp [hh]) (by simp [go_sem]) (by simp [hu, hUnder_ext hu, go_sem]) (by simp [go_sem])) ?_
  intro n hn hI
  have hw := wrapS hn hb.1
  simp -dsimp [go_sem, hN]
  refine cnd (fun hc => ?_) (fun hc => ?_) <;> try simp at hc
  · rw [drop_next hc, ascK] at hI
    simp -dsimp [go_sem, hN, hc]
    refine tcall_pure (c_keys_Valid _) ?_
    cases n with
    | zero =>
      simp -dsimp [go_sem, hN]
      refine cnd (fun hg => ?_) (fun hg => ?_) <;> try simp at hg
      · simp -dsimp [go_sem, hN]
        simp [← hI, hg, prevOf, after]
      · simp -dsimp [go_sem, hN, hw]
        exact ⟨hc, by simpa [hg, prevOf, hc, after] using hI, (Wk.mk (by simp [hh]) (by simp [go_sem]) (by simp [hu, hUnder_ext hu, go_sem]) (by simp [go_sem]))⟩
    | succ m =>
      have hm : m < l.length := by omega
      have hw2 := wrapN (Nat.le_of_lt hm) hb.1
      simp at hw
      simp -dsimp [go_sem, hN, hw2, hm]
      refine cnd (fun hg => ?_) (fun hg => ?_) <;> try simp at hg
      · simp -dsimp [go_sem, hN]
        rw [← hI]
        rcases hg with h1 | h1 <;> simp [prevOf, hm, after, h1]
      · simp -dsimp [go_sem, hN, hw]
        simp [hg, prevOf, hm, after] at hI
        exact ⟨hc, by simpa [prevOf, hc] using hI, (Wk.mk (by simp [hh]) (by simp [go_sem]) (by simp [hu, hUnder_ext hu, go_sem]) (by simp [go_sem]))⟩
  · rw [List.drop_eq_nil_of_le (by omega), ascK] at hI
    simp -dsimp [go_sem, hN, ← hI]

theorem c_interp_valid (a : Bool) (r w : List Bytes) : APure Tryz.prog 31 [.agg [Bo a, .slice (r.map sRow), .slice (w.map sRow)]] (Bo (footOk a r w)) := by
  refine apure_introB Tryz.func31 rfl (by kernel_rfl) (by simp [Tryz.ntmps31]) rfl ?_
  intro E h hN hh hu hb
  rw [Tryz.ntmps31] at hN
  refine awp_of_wpC _ _ _ ?_
  simp -dsimp [go_sem, hN]
  refine cnd (fun h0 => ?_) (fun h0 => ?_) <;> try simp at h0
  all_goals simp -dsimp [go_sem, hN, footOk, h0]
  refine tcall_pure (c_interp_ascending r) ?_
  simp -dsimp [go_sem, hN]
  refine tgcall_pure (c_interp_ascending w) (by simp) ?_
  simp -dsimp [go_sem, hN, footOk, h0]

theorem c_state_absent (p : Pr) : APure Tryz.prog 71 [.agg p.c] (Bo (decide (p.v.k = 0))) := by
  refine apure_introB Tryz.func71 rfl (by kernel_rfl) (by simp [Tryz.ntmps71]) rfl ?_
  intro E h hN hh hu hb
  rw [Tryz.ntmps71] at hN
  refine awp_of_wpC _ _ _ ?_
  simp -dsimp [go_sem, hN]

theorem c_IndexFunc_Pair (l : List Pr) (f : FuncId) (p : Pr → Bool) (hp : ∀ x : Pr, APure Tryz.prog f [.agg x.c] (Bo (p x))) : APure Tryz.prog 100 [.slice (l.map Pr.c), .fn (.func f) [] []] (I (idxOf p l)) := by
  refine apure_introB Tryz.func100 rfl (by kernel_rfl) (by simp [Tryz.ntmps100]) rfl ?_
  intro E h hN hh hu hb
  rw [Tryz.ntmps100] at hN
  refine awp_of_wpC _ _ _ ?_
  simp [go_sem] at hb
  simp -dsimp [go_sem, hN]
  refine awp_loopN l.length (fun n => idxFrom p n (l.drop n) = idxOf p l) (fun n => ⟨[(0, .slice (l.map Pr.c)), (1, .fn (.func f) [] []), (7, I l.length), (8, I n)], h⟩) (by simp [idxOf]) (Wk.mk (by simp [hh]) (by simp [go_sem]) (by simp [hu, hUnder_ext hu, go_sem]) (by simp [go_sem])) ?_
  intro n hn hI
  have hw := wrapS hn hb.1
  simp -dsimp [go_sem, hN]
  refine cnd (fun hc => ?_) (fun hc => ?_) <;> try simp at hc
  · rw [drop_next hc, idxFrom] at hI
    simp -dsimp [go_sem, hN, hc]
    refine tcall_pure (hp l[n]) ?_
    simp -dsimp [go_sem, hN]
    refine cnd (fun hg => ?_) (fun hg => ?_) <;> try simp at hg
    · simp -dsimp [go_sem, hN]
      simpa [hg] using hI
    · simp -dsimp [go_sem, hN, hw]
      exact ⟨hc, by simpa [hg] using hI, (Wk.mk (by simp [hh]) (by simp [go_sem]) (by simp [hu, hUnder_ext hu, go_sem]) (by simp [go_sem]))⟩
  · rw [List.drop_eq_nil_of_le (by omega), idxFrom] at hI
    simp -dsimp [go_sem, hN, ← hI]

theorem c_ContainsFunc_Pair (l : List Pr) (f : FuncId) (p : Pr → Bool) (hp : ∀ x : Pr, APure Tryz.prog f [.agg x.c] (Bo (p x))) : APure Tryz.prog 70 [.slice (l.map Pr.c), .fn (.func f) [] []] (Bo (anyL p l)) := by
  refine apure_introB Tryz.func70 rfl (by kernel_rfl) (by simp [Tryz.ntmps70]) rfl ?_
  intro E h hN hh hu hb
  rw [Tryz.ntmps70] at hN
  refine awp_of_wpC _ _ _ ?_
  simp -dsimp [go_sem, hN]
  refine tcall_pure (c_IndexFunc_Pair l f p hp) ?_
  simp -dsimp [go_sem, hN, idxOf_nonneg]

theorem c_state_sorted (l : List Pr) : APure Tryz.prog 69 [.slice (l.map Pr.c)] (Bo (sortedP none l)) := by
  refine apure_introB Tryz.func69 rfl (by kernel_rfl) (by simp [Tryz.ntmps69]) rfl ?_
  intro E h hN hh hu hb
  rw [Tryz.ntmps69] at hN
  refine awp_of_wpC _ _ _ ?_
  simp [go_sem] at hb
  simp -dsimp [go_sem, hN]
  refine awp_loopN l.length (fun n => sortedP ((prevOf l n).map Pr.key) (l.drop n) = sortedP none l) (fun n => ⟨[(0, .slice (l.map Pr.c)), (5, .slice (l.map Pr.c)), (6, I l.length), (7, I n)], h⟩) (by simp [prevOf]) (Wk.mk (by simp [hh]) (by simp [go_sem]) (by simp [hu, hUnder_ext hu, go_sem]) (by simp [go_sem])) ?_
  intro n hn hI
  have hw := wrapS hn hb.1
  simp -dsimp [go_sem, hN]
  refine cnd (fun hc => ?_) (fun hc => ?_) <;> try simp at hc
  · rw [drop_next hc, sortedP] at hI
    simp -dsimp [go_sem, hN, hc]
    refine awp_drawQ 22 mixed (by kernel_rfl) (by kernel_rfl) ?_
    simp -dsimp [go_sem, hN]
    refine tdcall (c_keys_Valid _) (by simp) ?_
    simp -dsimp [go_sem, hN]
    refine tdcall (c_value_Valid _ _ _) (by simp) ?_
    cases n with
    | zero =>
      simp -dsimp [go_sem, hN]
      refine cnd (fun hg => ?_) (fun hg => ?_) <;> try simp at hg
      · simp -dsimp [go_sem, hN]
        rw [← hI]
        rcases hg with h1 | h1 <;> simp [prevOf, after, h1]
      · simp -dsimp [go_sem, hN, hw]
        exact ⟨hc, by simpa [hg, prevOf, hc, after] using hI, (Wk.mk (by simp [hh]) (by simp [go_sem]) (by simp [hu, hUnder_ext hu, go_sem]) (by simp [go_sem]))⟩
    | succ m =>
      have hm : m < l.length := by omega
      have hw2 := wrapN (Nat.le_of_lt hm) hb.1
      simp at hw
      simp -dsimp [go_sem, hN, hw2, hm]
      refine cnd (fun hg => ?_) (fun hg => ?_) <;> try simp at hg
      · simp -dsimp [go_sem, hN]
        rw [← hI]
        grind [prevOf, after]
      · simp -dsimp [go_sem, hN, hw]
        simp [hg, prevOf, hm, after] at hI
        exact ⟨hc, by simpa [prevOf, hc] using hI, (Wk.mk (by simp [hh]) (by simp [go_sem]) (by simp [hu, hUnder_ext hu, go_sem]) (by simp [go_sem]))⟩
  · rw [List.drop_eq_nil_of_le (by omega), sortedP] at hI
    simp -dsimp [go_sem, hN, ← hI]

theorem c_state_Valid (l : List Pr) : APure Tryz.prog 30 [.slice (l.map Pr.c)] (Bo (stateOk l)) := by
  refine apure_introB Tryz.func30 rfl (by kernel_rfl) (by simp [Tryz.ntmps30]) rfl ?_
  intro E h hN hh hu hb
  rw [Tryz.ntmps30] at hN
  refine awp_of_wpC _ _ _ ?_
  simp -dsimp [go_sem, hN]
  refine tcall_pure (c_state_sorted l) ?_
  simp -dsimp [go_sem, hN]
  refine tgcall_pure (c_ContainsFunc_Pair l _ _ c_state_absent) (by simp) ?_
  simp -dsimp [go_sem, hN, stateOk]

theorem c_state_Get (l : List Pr) (k : Bytes) : APure Tryz.prog 174 [.slice (l.map Pr.c), S k] (.agg (getP l k).c) := by
  refine apure_introB Tryz.func174 rfl (by kernel_rfl) (by simp [Tryz.ntmps174]) rfl ?_
  intro E h hN hh hu hb
  rw [Tryz.ntmps174] at hN
  refine awp_of_wpC _ _ _ ?_
  simp [go_sem] at hb
  simp -dsimp [go_sem, hN]
  refine awp_loopN l.length (fun n => getP (l.drop n) k = getP l k) (fun n => ⟨[(0, .slice (l.map Pr.c)), (1, S k), (4, P0 h.length), (7, .slice (l.map Pr.c)), (8, I l.length), (9, I n)], h ++ [.cells [I 0, I 0, S em]]⟩) (by simp) (Wk.mk (by simp [hh]) (by simp [go_sem]) (by simp [hu, hUnder_ext hu, go_sem]) (by simp [go_sem])) ?_
  intro n hn hI
  have hw := wrapS hn hb.1.1
  simp -dsimp [go_sem, hN]
  refine cnd (fun hc => ?_) (fun hc => ?_) <;> try simp at hc
  · rw [drop_next hc, getP] at hI
    simp -dsimp [go_sem, hN, hc]
    refine cnd (fun hg => ?_) (fun hg => ?_) <;> try simp at hg
    · simp -dsimp [go_sem, hN]
      simp [← hI, hg]
    · simp -dsimp [go_sem, hN, hw]
      exact ⟨hc, by simpa [hg] using hI, (Wk.mk (by simp [hh]) (by simp [go_sem]) (by simp [hu, hUnder_ext hu, go_sem]) (by simp [go_sem]))⟩
  · rw [List.drop_eq_nil_of_le (by omega), getP] at hI
    simp -dsimp [go_sem, hN, ← hI]
end Go.Proofs.YtgcdpfpffalalaaGreatDoor

set_option linter.unusedSimpArgs false
set_option linter.unusedVariables false
set_option maxRecDepth 4000
namespace Go.Proofs.YtgcdpfpffalalaaGreatDoor
open Go Go.Abs Go.Cw

theorem c_ref05_Plain (s : Bytes) : APure Tryz.prog 86 [S s] (Bo (plainS s)) := by
  refine apure_introB Tryz.func86 rfl (by kernel_rfl) (by simp [Tryz.ntmps86]) rfl ?_
  intro E h hN hh hu hb
  rw [Tryz.ntmps86] at hN
  refine awp_of_wpC _ _ _ ?_
  simp [go_sem] at hb
  simp -dsimp [go_sem, hN]
  refine cnd (fun h0 => ?_) (fun h0 => ?_) <;> simp at h0
  · simp -dsimp [go_sem, hN]
    simp [plainS, Int.not_le.2 h0]
  simp -dsimp [go_sem, hN]
  refine awp_loopN s.size (fun n => allL okB ((bl s).drop n) = allL okB (bl s)) (fun n => ⟨[(0, S s), (3, I n)], h⟩) (by simp) (Wk.mk (by simp [hh]) (by simp [go_sem]) (by simp [hu, hUnder_ext hu, go_sem]) (by simp [go_sem])) ?_
  intro n hn hI
  have hw := wrapS hn hb
  simp -dsimp [go_sem, hN]
  refine cnd (fun hc => ?_) (fun hc => ?_) <;> simp at hc
  · rw [bdrop hc, allL] at hI
    simp -dsimp [go_sem, hN, hc]
    refine cnd (fun hg => ?_) (fun hg => ?_)
    · simp -dsimp [go_sem, hN]
      simp [plainS, ← hI, okB, hg]
    · simp -dsimp [go_sem, hN, hw]
      exact ⟨hc, by simpa [okB, hg] using hI, (Wk.mk (by simp [hh]) (by simp [go_sem]) (by simp [hu, hUnder_ext hu, go_sem]) (by simp [go_sem]))⟩
  · rw [bend (by omega), allL] at hI
    simp -dsimp [go_sem, hN, plainS, ← hI, h0]

theorem c_ref04_Valid (s : Bytes) : APure Tryz.prog 82 [S s] (Bo (keyOk s)) := by
  refine apure_introB Tryz.func82 rfl (by kernel_rfl) (by simp [Tryz.ntmps82]) rfl ?_
  intro E h hN hh hu hb
  rw [Tryz.ntmps82] at hN
  refine awp_of_wpC _ _ _ ?_
  simp [go_sem] at hb
  simp -dsimp [go_sem, hN]
  refine awp_loopN s.size (fun n => allL keyB ((bl s).drop n) = allL keyB (bl s)) (fun n => ⟨[(0, S s), (3, I n)], h⟩) (by simp) (Wk.mk (by simp [hh]) (by simp [go_sem]) (by simp [hu, hUnder_ext hu, go_sem]) (by simp [go_sem])) ?_
  intro n hn hI
  have hw := wrapS hn hb
  simp -dsimp [go_sem, hN]
  refine cnd (fun hc => ?_) (fun hc => ?_) <;> simp at hc
  · rw [bdrop hc, allL] at hI
    simp -dsimp [go_sem, hN, hc]
    refine ⟨by omega, cnd (fun hg => ?_) (fun hg => ?_)⟩
    · simp -dsimp [go_sem, hN]
      have : keyB (bAt s n) = false := by
        simp [keyB] at hg ⊢
        omega
      simp [keyOk, ← hI, this]
    · simp -dsimp [go_sem, hN, hw]
      have : keyB (bAt s n) = true := by
        simp [keyB] at hg ⊢
        omega
      exact ⟨hc, by simpa [this] using hI, (Wk.mk (by simp [hh]) (by simp [go_sem]) (by simp [hu, hUnder_ext hu, go_sem]) (by simp [go_sem]))⟩
  · rw [bend (by omega), allL] at hI
    have e1 : s = em ∨ 1 ≤ (s.size : Int) := sz_em s
    rcases e1 with rfl | e1
    · simp -dsimp [go_sem, hN, keyOk]
    · have e2 : ¬ s = em := by rintro rfl; simp at e1
      simp -dsimp [go_sem, hN, keyOk, ← hI, e1, e2]

theorem c_ref05_Valid (k n : Int) (s : Bytes) : APure Tryz.prog 55 [.agg [I k, I n, S s]] (Bo (valOk k n s)) := by
  refine apure_introB Tryz.func55 rfl (by kernel_rfl) (by simp [Tryz.ntmps55]) rfl ?_
  intro E h hN hh hu hb
  rw [Tryz.ntmps55] at hN
  refine awp_of_wpC _ _ _ ?_
  simp -dsimp [go_sem, hN]
  refine cnd (fun h0 => ?_) (fun h0 => ?_) <;> simp at h0 <;> simp -dsimp [go_sem, hN, valOk, h0]
  refine cnd (fun h1 => ?_) (fun h1 => ?_) <;> simp at h1 <;> simp -dsimp [go_sem, hN, valOk, h0, h1]
  refine tgcall_pure (c_ref05_Plain s) (by simp) ?_
  by_cases h2 : k = 2 <;> simp -dsimp [go_sem, hN, valOk, h0, h1, h2]

theorem c_ref06_ascending (l : List Pr) : APure Tryz.prog 56 [.slice (l.map Pr.c)] (Bo (ascP none l)) := by
  refine apure_introB Tryz.func56 rfl (by kernel_rfl) (by simp [Tryz.ntmps56]) rfl ?_
  intro E h hN hh hu hb
  rw [Tryz.ntmps56] at hN
  refine awp_of_wpC _ _ _ ?_
  simp [go_sem] at hb
  simp -dsimp [go_sem, hN]
  refine awp_loopN l.length (fun n => ascP ((prevOf l n).map Pr.key) (l.drop n) = ascP none l) (fun n => ⟨[(0, .slice (l.map Pr.c)), (3, I n)], h⟩) (by simp [prevOf]) (Wk.mk (by simp [hh]) (by simp [go_sem]) (by simp [hu, hUnder_ext hu, go_sem]) (by simp [go_sem])) ?_
  intro n hn hI
  have hw := wrapS hn hb.1
  simp -dsimp [go_sem, hN]
  refine cnd (fun hc => ?_) (fun hc => ?_) <;> simp at hc
  · rw [drop_next hc, ascP] at hI
    simp -dsimp [go_sem, hN, hc]
    refine awp_drawQ 22 mixed (by kernel_rfl) (by kernel_rfl) ?_
    simp -dsimp [go_sem, hN, hc]
    refine tdcall (c_ref04_Valid _) (by simp) ?_
    cases n with
    | zero =>
      simp -dsimp [go_sem, hN]
      refine cnd (fun hg => ?_) (fun hg => ?_) <;> try simp at hg
      · simp -dsimp [go_sem, hN]
        grind [prevOf, after]
      · simp -dsimp [go_sem, hN, hw]
        exact ⟨hc, by simpa [hg, prevOf, hc, after] using hI, (Wk.mk (by simp [hh]) (by simp [go_sem]) (by simp [hu, hUnder_ext hu, go_sem]) (by simp [go_sem]))⟩
    | succ m =>
      have hm : m < l.length := by omega
      have hw2 := wrapN (Nat.le_of_lt hm) hb.1
      simp at hw
      simp -dsimp [go_sem, hN, hw2, hm, hc]
      refine ⟨fun hk => ⟨hk, by omega⟩, cnd (fun hg => ?_) (fun hg => ?_)⟩ <;> rw [sLe_not] at hg <;> simp at hg
      · simp -dsimp [go_sem, hN]
        rw [← hI]
        rcases hg with h1 | h1 <;> simp [prevOf, hm, after, h1]
      · simp -dsimp [go_sem, hN, hw]
        simp [hg, prevOf, hm, after] at hI
        exact ⟨hc, by simpa [prevOf, hc] using hI, (Wk.mk (by simp [hh]) (by simp [go_sem]) (by simp [hu, hUnder_ext hu, go_sem]) (by simp [go_sem]))⟩
  · rw [List.drop_eq_nil_of_le (by omega), ascP] at hI
    simp -dsimp [go_sem, hN, ← hI]

theorem c_ref06_ValidWrites (l : List Pr) : APure Tryz.prog 25 [.slice (l.map Pr.c)] (Bo (writesOk l)) := by
  refine apure_introB Tryz.func25 rfl (by kernel_rfl) (by simp [Tryz.ntmps25]) rfl ?_
  intro E h hN hh hu hb
  rw [Tryz.ntmps25] at hN
  refine awp_of_wpC _ _ _ ?_
  simp [go_sem] at hb
  simp -dsimp [go_sem, hN]
  refine awp_loopN l.length (fun n => valsOk (l.drop n) = valsOk l) (fun n => ⟨[(0, .slice (l.map Pr.c)), (3, I n)], h⟩) (by simp) (Wk.mk (by simp [hh]) (by simp [go_sem]) (by simp [hu, hUnder_ext hu, go_sem]) (by simp [go_sem])) ?_
  intro n hn hI
  have hw := wrapS hn hb.1
  simp -dsimp [go_sem, hN]
  refine cnd (fun hc => ?_) (fun hc => ?_) <;> simp at hc
  · rw [drop_next hc, valsOk, allL] at hI
    simp -dsimp [go_sem, hN, hc]
    refine tcall_pure (c_ref05_Valid _ _ _) ?_
    simp -dsimp [go_sem, hN]
    refine cnd (fun hg => ?_) (fun hg => ?_) <;> simp at hg
    · simp -dsimp [go_sem, hN]
      simp [writesOk, ← hI, hg]
    · simp -dsimp [go_sem, hN, hw]
      exact ⟨hc, by simpa [hg, valsOk] using hI, (Wk.mk (by simp [hh]) (by simp [go_sem]) (by simp [hu, hUnder_ext hu, go_sem]) (by simp [go_sem]))⟩
  · rw [List.drop_eq_nil_of_le (by omega), valsOk, allL] at hI
    simp -dsimp [go_sem, hN]
    refine tcall_pure (c_ref06_ascending l) ?_
    simp -dsimp [go_sem, hN, writesOk, ← hI]

theorem c_ref06_Valid (l : List Pr) : APure Tryz.prog 10 [.slice (l.map Pr.c)] (Bo (stateOk l)) := by
  rw [← stateOkR_eq]
  refine apure_introB Tryz.func10 rfl (by kernel_rfl) (by simp [Tryz.ntmps10]) rfl ?_
  intro E h hN hh hu hb
  rw [Tryz.ntmps10] at hN
  refine awp_of_wpC _ _ _ ?_
  simp [go_sem] at hb
  simp -dsimp [go_sem, hN]
  refine awp_loopN l.length (fun n => anyL (fun p => decide (p.v.k = 0)) (l.drop n) = anyL (fun p => decide (p.v.k = 0)) l) (fun n => ⟨[(0, .slice (l.map Pr.c)), (3, I n)], h⟩) (by simp) (Wk.mk (by simp [hh]) (by simp [go_sem]) (by simp [hu, hUnder_ext hu, go_sem]) (by simp [go_sem])) ?_
  intro n hn hI
  have hw := wrapS hn hb.1
  simp -dsimp [go_sem, hN]
  refine cnd (fun hc => ?_) (fun hc => ?_) <;> simp at hc
  · rw [drop_next hc, anyL] at hI
    simp -dsimp [go_sem, hN, hc]
    refine cnd (fun hg => ?_) (fun hg => ?_) <;> simp at hg
    · simp -dsimp [go_sem, hN]
      simp [stateOkR, ← hI, hg]
    · simp -dsimp [go_sem, hN, hw]
      exact ⟨hc, by simpa [hg] using hI, (Wk.mk (by simp [hh]) (by simp [go_sem]) (by simp [hu, hUnder_ext hu, go_sem]) (by simp [go_sem]))⟩
  · rw [List.drop_eq_nil_of_le (by omega), anyL] at hI
    simp -dsimp [go_sem, hN]
    refine tcall_pure (c_ref06_ValidWrites l) ?_
    simp -dsimp [go_sem, hN, stateOkR, ← hI]

theorem c_ref06_Has (l : List Pr) (k : Bytes) : APure Tryz.prog 39 [.slice (l.map Pr.c), S k] (Bo (hasP l k)) := by
  refine apure_introB Tryz.func39 rfl (by kernel_rfl) (by simp [Tryz.ntmps39]) rfl ?_
  intro E h hN hh hu hb
  rw [Tryz.ntmps39] at hN
  refine awp_of_wpC _ _ _ ?_
  simp [go_sem] at hb
  simp -dsimp [go_sem, hN]
  refine awp_loopN l.length (fun n => hasP (l.drop n) k = hasP l k) (fun n => ⟨[(0, .slice (l.map Pr.c)), (1, S k), (5, I n)], h⟩) (by simp) (Wk.mk (by simp [hh]) (by simp [go_sem]) (by simp [hu, hUnder_ext hu, go_sem]) (by simp [go_sem])) ?_
  intro n hn hI
  have hw := wrapS hn hb.1.1
  simp -dsimp [go_sem, hN]
  refine cnd (fun hc => ?_) (fun hc => ?_) <;> simp at hc
  · rw [drop_next hc, hasP, anyL] at hI
    simp -dsimp [go_sem, hN, hc]
    refine cnd (fun hg => ?_) (fun hg => ?_) <;> simp at hg
    · simp -dsimp [go_sem, hN]
      simp [← hI, hg]
    · simp -dsimp [go_sem, hN, hw]
      exact ⟨hc, by simpa [hg, hasP] using hI, (Wk.mk (by simp [hh]) (by simp [go_sem]) (by simp [hu, hUnder_ext hu, go_sem]) (by simp [go_sem]))⟩
  · rw [List.drop_eq_nil_of_le (by omega), hasP, anyL] at hI
    simp -dsimp [go_sem, hN, ← hI]

theorem c_ref06_Get (l : List Pr) (k : Bytes) : APure Tryz.prog 12 [.slice (l.map Pr.c), S k] (.agg (getP l k).c) := by
  refine apure_introB Tryz.func12 rfl (by kernel_rfl) (by simp [Tryz.ntmps12]) rfl ?_
  intro E h hN hh hu hb
  rw [Tryz.ntmps12] at hN
  refine awp_of_wpC _ _ _ ?_
  simp [go_sem] at hb
  simp -dsimp [go_sem, hN]
  refine awp_loopN l.length (fun n => getP (l.drop n) k = getP l k) (fun n => ⟨[(0, .slice (l.map Pr.c)), (1, S k), (4, P0 h.length), (5, I n)], h ++ [.cells [I 0, I 0, S em]]⟩) (by simp) (Wk.mk (by simp [hh]) (by simp [go_sem]) (by simp [hu, hUnder_ext hu, go_sem]) (by simp [go_sem])) ?_
  intro n hn hI
  have hw := wrapS hn hb.1.1
  simp -dsimp [go_sem, hN]
  refine cnd (fun hc => ?_) (fun hc => ?_) <;> simp at hc
  · rw [drop_next hc, getP] at hI
    simp -dsimp [go_sem, hN, hc]
    refine cnd (fun hg => ?_) (fun hg => ?_) <;> simp at hg
    · simp -dsimp [go_sem, hN, hc]
      simp [← hI, hg]
    · simp -dsimp [go_sem, hN, hw]
      exact ⟨hc, by simpa [hg] using hI, (Wk.mk (by simp [hh]) (by simp [go_sem]) (by simp [hu, hUnder_ext hu, go_sem]) (by simp [go_sem]))⟩
  · rw [List.drop_eq_nil_of_le (by omega), getP] at hI
    simp -dsimp [go_sem, hN, ← hI]

theorem c_ref06_with (l : List Pr) (p : Pr) (hB : l.length < 68719476736) : APure Tryz.prog 40 [.slice (l.map Pr.c), .agg p.c] (.slice ((withP l p).map Pr.c)) := by
  refine apure_introB Tryz.func40 rfl (by kernel_rfl) (by simp [Tryz.ntmps40]) rfl ?_
  intro E h hN hh hu hb
  rw [Tryz.ntmps40] at hN
  refine awp_of_wpC _ _ _ ?_
  simp [go_sem] at hb
  simp -dsimp [go_sem, hN]
  refine awp_loopN l.length (fun n => n + posP p.key (l.drop n) = posP p.key l) (fun n => ⟨[(0, .slice (l.map Pr.c)), (3, P0 h.length), (5, I n)], h ++ [.cells p.c]⟩) (by simp) (Wk.mk (by simp [hh]) (by simp [go_sem]) (by simp [hu, hUnder_ext hu, go_sem]) (by simp [go_sem])) ?_
  intro n hn hI
  have hw := wrapS hn (Nat.le_of_lt hB)
  simp -dsimp [go_sem, hN]
  refine awp_drawQ 12 mixed (by kernel_rfl) (by kernel_rfl) ?_
  by_cases hc : n < l.length
  · rw [drop_next hc, posP] at hI
    simp -dsimp [go_sem, hN, hc]
    refine cnd (fun hg => ?_) (fun hg => ?_) <;> try simp at hg
    · simp -dsimp [go_sem, hN, hw]
      rw [if_pos hg] at hI
      exact ⟨hc, by omega, (Wk.mk (by simp [hh]) (by simp [go_sem]) (by simp [hu, hUnder_ext hu, go_sem]) (by simp [go_sem]))⟩
    · rw [if_neg (by simp [hg])] at hI
      simp -dsimp [go_sem, hN]
      refine ⟨by omega, by omega, by omega, by omega, by omega, ?_⟩
      rw [if_pos (by omega)]
      simp [withP, ← hI, Pr.c, List.map_take, List.map_drop]
  · rw [List.drop_eq_nil_of_le (by omega), posP] at hI
    simp -dsimp [go_sem, hN, hc]
    refine ⟨by omega, by omega, by omega, by omega, by omega, ?_⟩
    rw [if_pos (by omega)]
    simp [withP, ← hI, Pr.c, List.map_take, List.map_drop]

theorem c_ref06_Apply (l w : List Pr) (hB : l.length + w.length < 68719476736) : APure Tryz.prog 13 [.slice (l.map Pr.c), .slice (w.map Pr.c)]
    (if stateOk l && writesOk w then .tuple [.slice ((applyP l w).map Pr.c), I 0] else .tuple [.slice [], I 1]) := by
  refine apure_introB Tryz.func13 rfl (by kernel_rfl) (by simp [Tryz.ntmps13]) (by split <;> rfl) ?_
  intro E h hN hh hu hb
  rw [Tryz.ntmps13] at hN
  refine awp_of_wpC _ _ _ ?_
  simp [go_sem] at hb
  simp -dsimp [go_sem, hN]
  refine tcall_pure (c_ref06_Valid l) ?_
  simp -dsimp [go_sem, hN]
  refine tgcall_pure (c_ref06_ValidWrites w) (by simp) ?_
  simp -dsimp [go_sem, hN]
  refine cnd (fun h0 => ?_) (fun h0 => ?_) <;> simp at h0
  · simp -dsimp [go_sem, hN]
    grind
  rw [h0.1, h0.2]
  simp -dsimp [go_sem, hN]
  refine awp_loopA (α := List Pr) l.length (fun n o => o ++ keepP w (l.drop n) = keepP w l ∧ o.length ≤ n) (fun n o => ⟨[(0, .slice (l.map Pr.c)), (1, .slice (w.map Pr.c)), (6, .own h.length o.length), (7, I n)], h ++ [.arr 44 4 (o.map Pr.c)]⟩) [] (by simp) ((nil_wk E _ 6 44 4 rfl).trans (Wk.mk (by simp [hh]) (by simp [go_sem]) (by simp [hu, hUnder_ext hu, go_sem]) (by simp [go_sem]))) ?_
  intro n o hn ⟨hI, hol⟩
  have hw := wrapS hn hb.1.1
  simp -dsimp [go_sem, hN]
  refine cnd (fun hc => ?_) (fun hc => ?_) <;> simp at hc
  · rw [drop_next hc, keepP] at hI
    simp -dsimp [go_sem, hN, hc]
    refine tcall_pure (c_ref06_Has w _) ?_
    simp -dsimp [go_sem, hN]
    refine cnd (fun hg => ?_) (fun hg => ?_) <;> simp at hg
    · simp -dsimp [go_sem, hN, hc]
      refine ⟨by omega, ?_⟩
      simp -dsimp [go_sem, hN, hw]
      exact ⟨o ++ [l[n]], ⟨by simpa [hg] using hI, by simp; omega⟩, (Wk.mk (by simp [hh]) (by simp [go_sem]) (by simp [hu, hUnder_ext hu, go_sem]) (by simp [go_sem]))⟩
    · simp -dsimp [go_sem, hN, hw]
      exact ⟨hc, o, ⟨by simpa [hg] using hI, by omega⟩, (Wk.mk (by simp [hh]) (by simp [go_sem]) (by simp [hu, hUnder_ext hu, go_sem]) (by simp [go_sem]))⟩
  rw [List.drop_eq_nil_of_le (by omega), keepP, List.append_nil] at hI
  simp -dsimp [go_sem, hN]
  subst hI
  refine awp_loopA (α := List Pr) w.length (fun n o => addP o (w.drop n) = applyP l w ∧ o.length ≤ l.length + n) (fun n o => ⟨[(1, .slice (w.map Pr.c)), (6, .slice (o.map Pr.c)), (8, I n)], h⟩) (keepP w l) (by simp [applyP]; omega) ((norm_wk E _).trans (Wk.mk (by simp [hh]) (by simp [go_sem]) (by simp [hu, hUnder_ext hu, go_sem]) (by simp [go_sem]))) ?_
  intro n o hn ⟨hI, hol⟩
  have hw := wrapS hn hb.2.1
  simp -dsimp [go_sem, hN]
  refine cnd (fun hc => ?_) (fun hc => ?_) <;> simp at hc
  · rw [drop_next hc, addP] at hI
    simp -dsimp [go_sem, hN, hc]
    refine cnd (fun hg => ?_) (fun hg => ?_) <;> simp at hg
    · simp -dsimp [go_sem, hN, hc]
      refine tcall_pure (c_ref06_with o _ (by omega)) ?_
      simp -dsimp [go_sem, hN, hw]
      exact ⟨hc, withP o w[n], ⟨by simpa [hg] using hI, by rw [withP_len]; omega⟩, (Wk.mk (by simp [hh]) (by simp [go_sem]) (by simp [hu, hUnder_ext hu, go_sem]) (by simp [go_sem]))⟩
    · simp -dsimp [go_sem, hN, hw]
      exact ⟨hc, o, ⟨by simpa [hg] using hI, by omega⟩, (Wk.mk (by simp [hh]) (by simp [go_sem]) (by simp [hu, hUnder_ext hu, go_sem]) (by simp [go_sem]))⟩
  · rw [List.drop_eq_nil_of_le (by omega), addP] at hI
    simp -dsimp [go_sem, hN, hI]
end Go.Proofs.YtgcdpfpffalalaaGreatDoor
