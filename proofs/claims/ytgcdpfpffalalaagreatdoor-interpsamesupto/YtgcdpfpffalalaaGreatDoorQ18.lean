/- Part 18 of a proof: Ty, W1, W4, W5, W6 -/
import Derived.Test.YtgcdpfpffalalaaGreatDoorProg
import Derived.KernelRfl
import Derived.Test.YtgcdpfpffalalaaGreatDoorQ06
import Derived.Test.YtgcdpfpffalalaaGreatDoorQ13
import Derived.Test.YtgcdpfpffalalaaGreatDoorQ17
set_option linter.all false

/- The facts on the types that the operations use, printed by a program of mine out of the dump's table; each proved by the kernel. -/
namespace Go.Proofs.YtgcdpfpffalalaaGreatDoor
open Go Go.Abs
@[simp] theorem tk1 : tkind Tryz.prog 1 = .func := by kernel_rfl
@[simp] theorem ts1 : tsize Tryz.prog 1 = 1 := by kernel_rfl
@[simp] theorem tz1 : tzero Tryz.prog 1 = [.val .nilFunc] := by kernel_rfl
@[simp] theorem tb1 : tbytes Tryz.prog 1 = 8 := by kernel_rfl
@[simp] theorem tk2 : tkind Tryz.prog 2 = .int .i64 := by kernel_rfl
@[simp] theorem ts2 : tsize Tryz.prog 2 = 1 := by kernel_rfl
@[simp] theorem tz2 : tzero Tryz.prog 2 = [.val (.int .i64 0)] := by kernel_rfl
@[simp] theorem tb2 : tbytes Tryz.prog 2 = 8 := by kernel_rfl
@[simp] theorem tk3 : tkind Tryz.prog 3 = .int .i64 := by kernel_rfl
@[simp] theorem ts3 : tsize Tryz.prog 3 = 1 := by kernel_rfl
@[simp] theorem tz3 : tzero Tryz.prog 3 = [.val (.int .i64 0)] := by kernel_rfl
@[simp] theorem tb3 : tbytes Tryz.prog 3 = 8 := by kernel_rfl
@[simp] theorem tk4 : tkind Tryz.prog 4 = .bool := by kernel_rfl
@[simp] theorem ts4 : tsize Tryz.prog 4 = 1 := by kernel_rfl
@[simp] theorem tz4 : tzero Tryz.prog 4 = [.val (.bool false)] := by kernel_rfl
@[simp] theorem tb4 : tbytes Tryz.prog 4 = 1 := by kernel_rfl
@[simp] theorem tk5 : tkind Tryz.prog 5 = .int .u8 := by kernel_rfl
@[simp] theorem ts5 : tsize Tryz.prog 5 = 1 := by kernel_rfl
@[simp] theorem tz5 : tzero Tryz.prog 5 = [.val (.int .u8 0)] := by kernel_rfl
@[simp] theorem tb5 : tbytes Tryz.prog 5 = 1 := by kernel_rfl
@[simp] theorem tk9 : tkind Tryz.prog 9 = .string := by kernel_rfl
@[simp] theorem ts9 : tsize Tryz.prog 9 = 1 := by kernel_rfl
@[simp] theorem tz9 : tzero Tryz.prog 9 = [.val (.string ⟨#[]⟩)] := by kernel_rfl
@[simp] theorem tb9 : tbytes Tryz.prog 9 = 16 := by kernel_rfl
@[simp] theorem tk20 : tkind Tryz.prog 20 = .iface := by kernel_rfl
@[simp] theorem ts20 : tsize Tryz.prog 20 = 1 := by kernel_rfl
@[simp] theorem tz20 : tzero Tryz.prog 20 = [.val .nilIface] := by kernel_rfl
@[simp] theorem tb20 : tbytes Tryz.prog 20 = 16 := by kernel_rfl
@[simp] theorem tk21 : tkind Tryz.prog 21 = .int .i32 := by kernel_rfl
@[simp] theorem ts21 : tsize Tryz.prog 21 = 1 := by kernel_rfl
@[simp] theorem tz21 : tzero Tryz.prog 21 = [.val (.int .i32 0)] := by kernel_rfl
@[simp] theorem tb21 : tbytes Tryz.prog 21 = 4 := by kernel_rfl
@[simp] theorem tk22 : tkind Tryz.prog 22 = .slice 68 2 := by kernel_rfl
@[simp] theorem ts22 : tsize Tryz.prog 22 = 1 := by kernel_rfl
@[simp] theorem tz22 : tzero Tryz.prog 22 = [.nils] := by kernel_rfl
@[simp] theorem tb22 : tbytes Tryz.prog 22 = 24 := by kernel_rfl
@[simp] theorem tk23 : tkind Tryz.prog 23 = .slice 103 13 := by kernel_rfl
@[simp] theorem ts23 : tsize Tryz.prog 23 = 1 := by kernel_rfl
@[simp] theorem tz23 : tzero Tryz.prog 23 = [.nils] := by kernel_rfl
@[simp] theorem tb23 : tbytes Tryz.prog 23 = 24 := by kernel_rfl
@[simp] theorem tk25 : tkind Tryz.prog 25 = .struct [(0, 1), (1, 1), (2, 1)] := by kernel_rfl
@[simp] theorem ts25 : tsize Tryz.prog 25 = 3 := by kernel_rfl
@[simp] theorem tz25 : tzero Tryz.prog 25 = [.val (.string ⟨#[]⟩), .nils, .nils] := by kernel_rfl
@[simp] theorem tb25 : tbytes Tryz.prog 25 = 64 := by kernel_rfl
@[simp] theorem tk26 : tkind Tryz.prog 26 = .slice 41 3 := by kernel_rfl
@[simp] theorem ts26 : tsize Tryz.prog 26 = 1 := by kernel_rfl
@[simp] theorem tz26 : tzero Tryz.prog 26 = [.nils] := by kernel_rfl
@[simp] theorem tb26 : tbytes Tryz.prog 26 = 24 := by kernel_rfl
@[simp] theorem tk27 : tkind Tryz.prog 27 = .slice 9 1 := by kernel_rfl
@[simp] theorem ts27 : tsize Tryz.prog 27 = 1 := by kernel_rfl
@[simp] theorem tz27 : tzero Tryz.prog 27 = [.nils] := by kernel_rfl
@[simp] theorem tb27 : tbytes Tryz.prog 27 = 24 := by kernel_rfl
@[simp] theorem tk29 : tkind Tryz.prog 29 = .struct [(0, 1), (1, 1), (2, 1)] := by kernel_rfl
@[simp] theorem ts29 : tsize Tryz.prog 29 = 3 := by kernel_rfl
@[simp] theorem tz29 : tzero Tryz.prog 29 = [.val (.bool false), .nils, .nils] := by kernel_rfl
@[simp] theorem tb29 : tbytes Tryz.prog 29 = 56 := by kernel_rfl
@[simp] theorem tk31 : tkind Tryz.prog 31 = .struct [(0, 3), (3, 1), (4, 3)] := by kernel_rfl
@[simp] theorem ts31 : tsize Tryz.prog 31 = 7 := by kernel_rfl
@[simp] theorem tz31 : tzero Tryz.prog 31 = [.val (.string ⟨#[]⟩), .nils, .nils, .nils, .val (.bool false), .nils, .nils] := by kernel_rfl
@[simp] theorem tb31 : tbytes Tryz.prog 31 = 144 := by kernel_rfl
@[simp] theorem tk32 : tkind Tryz.prog 32 = .slice 44 4 := by kernel_rfl
@[simp] theorem ts32 : tsize Tryz.prog 32 = 1 := by kernel_rfl
@[simp] theorem tz32 : tzero Tryz.prog 32 = [.nils] := by kernel_rfl
@[simp] theorem tb32 : tbytes Tryz.prog 32 = 24 := by kernel_rfl
@[simp] theorem tk34 : tkind Tryz.prog 34 = .struct [(0, 1), (1, 1), (2, 1)] := by kernel_rfl
@[simp] theorem ts34 : tsize Tryz.prog 34 = 3 := by kernel_rfl
@[simp] theorem tz34 : tzero Tryz.prog 34 = [.val (.int .i64 0), .val (.int .i64 0), .nils] := by kernel_rfl
@[simp] theorem tb34 : tbytes Tryz.prog 34 = 40 := by kernel_rfl
@[simp] theorem tk36 : tkind Tryz.prog 36 = .struct [(0, 3), (3, 1), (4, 1), (5, 1), (6, 1), (7, 1)] := by kernel_rfl
@[simp] theorem ts36 : tsize Tryz.prog 36 = 8 := by kernel_rfl
@[simp] theorem tz36 : tzero Tryz.prog 36 = [.val (.int .i64 0), .val (.int .i64 0), .nils, .nils, .nils, .nils, .val (.string ⟨#[]⟩), .val (.int .i64 0)] := by kernel_rfl
@[simp] theorem tb36 : tbytes Tryz.prog 36 = 136 := by kernel_rfl
@[simp] theorem tk41 : tkind Tryz.prog 41 = .struct [(0, 1), (1, 1), (2, 1)] := by kernel_rfl
@[simp] theorem ts41 : tsize Tryz.prog 41 = 3 := by kernel_rfl
@[simp] theorem tz41 : tzero Tryz.prog 41 = [.val (.int .i64 0), .val (.int .i64 0), .val (.string ⟨#[]⟩)] := by kernel_rfl
@[simp] theorem fl41 : flatOf Tryz.prog 41 = [.int .i64, .int .i64, .string] := by kernel_rfl
@[simp] theorem tb41 : tbytes Tryz.prog 41 = 32 := by kernel_rfl
@[simp] theorem tk44 : tkind Tryz.prog 44 = .struct [(0, 1), (1, 3)] := by kernel_rfl
@[simp] theorem ts44 : tsize Tryz.prog 44 = 4 := by kernel_rfl
@[simp] theorem tz44 : tzero Tryz.prog 44 = [.val (.string ⟨#[]⟩), .val (.int .i64 0), .val (.int .i64 0), .val (.string ⟨#[]⟩)] := by kernel_rfl
@[simp] theorem fl44 : flatOf Tryz.prog 44 = [.string, .int .i64, .int .i64, .string] := by kernel_rfl
@[simp] theorem tb44 : tbytes Tryz.prog 44 = 48 := by kernel_rfl
@[simp] theorem tk45 : tkind Tryz.prog 45 = .int .i64 := by kernel_rfl
@[simp] theorem ts45 : tsize Tryz.prog 45 = 1 := by kernel_rfl
@[simp] theorem tz45 : tzero Tryz.prog 45 = [.val (.int .i64 0)] := by kernel_rfl
@[simp] theorem tb45 : tbytes Tryz.prog 45 = 8 := by kernel_rfl
@[simp] theorem tk56 : tkind Tryz.prog 56 = .slice 58 4 := by kernel_rfl
@[simp] theorem ts56 : tsize Tryz.prog 56 = 1 := by kernel_rfl
@[simp] theorem tz56 : tzero Tryz.prog 56 = [.nils] := by kernel_rfl
@[simp] theorem tb56 : tbytes Tryz.prog 56 = 24 := by kernel_rfl
@[simp] theorem tk58 : tkind Tryz.prog 58 = .struct [(0, 1), (1, 1), (2, 1), (3, 1)] := by kernel_rfl
@[simp] theorem ts58 : tsize Tryz.prog 58 = 4 := by kernel_rfl
@[simp] theorem tz58 : tzero Tryz.prog 58 = [.val (.int .i64 0), .val (.int .i64 0), .val (.string ⟨#[]⟩), .nils] := by kernel_rfl
@[simp] theorem tb58 : tbytes Tryz.prog 58 = 56 := by kernel_rfl
@[simp] theorem tk59 : tkind Tryz.prog 59 = .array 2 32 1 := by kernel_rfl
@[simp] theorem ts59 : tsize Tryz.prog 59 = 2 := by kernel_rfl
@[simp] theorem tz59 : tzero Tryz.prog 59 = [.nils, .nils] := by kernel_rfl
@[simp] theorem tb59 : tbytes Tryz.prog 59 = 48 := by kernel_rfl
@[simp] theorem tk65 : tkind Tryz.prog 65 = .ptr := by kernel_rfl
@[simp] theorem ts65 : tsize Tryz.prog 65 = 1 := by kernel_rfl
@[simp] theorem tz65 : tzero Tryz.prog 65 = [.val (.pointer none)] := by kernel_rfl
@[simp] theorem tb65 : tbytes Tryz.prog 65 = 8 := by kernel_rfl
@[simp] theorem tk68 : tkind Tryz.prog 68 = .struct [(0, 1), (1, 1)] := by kernel_rfl
@[simp] theorem ts68 : tsize Tryz.prog 68 = 2 := by kernel_rfl
@[simp] theorem tz68 : tzero Tryz.prog 68 = [.val (.string ⟨#[]⟩), .val (.int .i64 0)] := by kernel_rfl
@[simp] theorem fl68 : flatOf Tryz.prog 68 = [.string, .int .i64] := by kernel_rfl
@[simp] theorem tb68 : tbytes Tryz.prog 68 = 24 := by kernel_rfl
@[simp] theorem tk69 : tkind Tryz.prog 69 = .map 9 41 := by kernel_rfl
@[simp] theorem ts69 : tsize Tryz.prog 69 = 1 := by kernel_rfl
@[simp] theorem tz69 : tzero Tryz.prog 69 = [.val (.map none)] := by kernel_rfl
@[simp] theorem tb69 : tbytes Tryz.prog 69 = 8 := by kernel_rfl
@[simp] theorem tk71 : tkind Tryz.prog 71 = .struct [(0, 1), (1, 3), (4, 1), (5, 1), (6, 8)] := by kernel_rfl
@[simp] theorem ts71 : tsize Tryz.prog 71 = 14 := by kernel_rfl
@[simp] theorem tz71 : tzero Tryz.prog 71 = [.nils, .val (.bool false), .nils, .nils, .val (.map none), .val (.map none), .val (.int .i64 0), .val (.int .i64 0), .nils, .nils, .nils, .nils, .val (.string ⟨#[]⟩), .val (.int .i64 0)] := by kernel_rfl
@[simp] theorem tb71 : tbytes Tryz.prog 71 = 232 := by kernel_rfl
@[simp] theorem tk74 : tkind Tryz.prog 74 = .struct [(0, 3), (3, 1)] := by kernel_rfl
@[simp] theorem ts74 : tsize Tryz.prog 74 = 4 := by kernel_rfl
@[simp] theorem tz74 : tzero Tryz.prog 74 = [.val (.int .i64 0), .val (.int .i64 0), .nils, .val (.string ⟨#[]⟩)] := by kernel_rfl
@[simp] theorem tb74 : tbytes Tryz.prog 74 = 56 := by kernel_rfl
@[simp] theorem tk84 : tkind Tryz.prog 84 = .struct [(0, 1), (1, 3), (4, 1), (5, 1), (6, 8)] := by kernel_rfl
@[simp] theorem ts84 : tsize Tryz.prog 84 = 14 := by kernel_rfl
@[simp] theorem tz84 : tzero Tryz.prog 84 = [.nils, .val (.bool false), .nils, .nils, .nils, .nils, .val (.int .i64 0), .val (.int .i64 0), .nils, .nils, .nils, .nils, .val (.string ⟨#[]⟩), .val (.int .i64 0)] := by kernel_rfl
@[simp] theorem tb84 : tbytes Tryz.prog 84 = 264 := by kernel_rfl
@[simp] theorem tk89 : tkind Tryz.prog 89 = .array 4 3 1 := by kernel_rfl
@[simp] theorem ts89 : tsize Tryz.prog 89 = 4 := by kernel_rfl
@[simp] theorem tz89 : tzero Tryz.prog 89 = [.val (.int .i64 0), .val (.int .i64 0), .val (.int .i64 0), .val (.int .i64 0)] := by kernel_rfl
@[simp] theorem tb89 : tbytes Tryz.prog 89 = 32 := by kernel_rfl
@[simp] theorem tk101 : tkind Tryz.prog 101 = .func := by kernel_rfl
@[simp] theorem ts101 : tsize Tryz.prog 101 = 1 := by kernel_rfl
@[simp] theorem tz101 : tzero Tryz.prog 101 = [.val .nilFunc] := by kernel_rfl
@[simp] theorem tb101 : tbytes Tryz.prog 101 = 8 := by kernel_rfl
@[simp] theorem tk103 : tkind Tryz.prog 103 = .struct [(0, 1), (1, 1), (2, 1), (3, 4), (7, 4), (11, 1), (12, 1)] := by kernel_rfl
@[simp] theorem ts103 : tsize Tryz.prog 103 = 13 := by kernel_rfl
@[simp] theorem tz103 : tzero Tryz.prog 103 = [.val (.int .i64 0), .val (.string ⟨#[]⟩), .val (.int .i64 0), .val (.int .i64 0), .val (.int .i64 0), .val (.string ⟨#[]⟩), .nils, .val (.int .i64 0), .val (.int .i64 0), .val (.string ⟨#[]⟩), .nils, .nils, .nils] := by kernel_rfl
@[simp] theorem tb103 : tbytes Tryz.prog 103 = 192 := by kernel_rfl
@[simp] theorem tk106 : tkind Tryz.prog 106 = .struct [(0, 1), (1, 1), (2, 1), (3, 1)] := by kernel_rfl
@[simp] theorem ts106 : tsize Tryz.prog 106 = 4 := by kernel_rfl
@[simp] theorem tz106 : tzero Tryz.prog 106 = [.val (.int .i64 0), .val (.int .i64 0), .val (.int .i64 0), .val (.int .i64 0)] := by kernel_rfl
@[simp] theorem fl106 : flatOf Tryz.prog 106 = [.int .i64, .int .i64, .int .i64, .int .i64] := by kernel_rfl
@[simp] theorem tb106 : tbytes Tryz.prog 106 = 32 := by kernel_rfl
@[simp] theorem tk124 : tkind Tryz.prog 124 = .map 9 3 := by kernel_rfl
@[simp] theorem ts124 : tsize Tryz.prog 124 = 1 := by kernel_rfl
@[simp] theorem tz124 : tzero Tryz.prog 124 = [.val (.map none)] := by kernel_rfl
@[simp] theorem tb124 : tbytes Tryz.prog 124 = 8 := by kernel_rfl
@[simp] theorem tk132 : tkind Tryz.prog 132 = .struct [(0, 1), (1, 1)] := by kernel_rfl
@[simp] theorem ts132 : tsize Tryz.prog 132 = 2 := by kernel_rfl
@[simp] theorem tz132 : tzero Tryz.prog 132 = [.nils, .nils] := by kernel_rfl
@[simp] theorem tb132 : tbytes Tryz.prog 132 = 48 := by kernel_rfl
@[simp] theorem tk156 : tkind Tryz.prog 156 = .ptr := by kernel_rfl
@[simp] theorem ts156 : tsize Tryz.prog 156 = 1 := by kernel_rfl
@[simp] theorem tz156 : tzero Tryz.prog 156 = [.val (.pointer none)] := by kernel_rfl
@[simp] theorem tb156 : tbytes Tryz.prog 156 = 8 := by kernel_rfl
@[simp] theorem tk157 : tkind Tryz.prog 157 = .map 9 4 := by kernel_rfl
@[simp] theorem ts157 : tsize Tryz.prog 157 = 1 := by kernel_rfl
@[simp] theorem tz157 : tzero Tryz.prog 157 = [.val (.map none)] := by kernel_rfl
@[simp] theorem tb157 : tbytes Tryz.prog 157 = 8 := by kernel_rfl
@[simp] theorem tk159 : tkind Tryz.prog 159 = .struct [(0, 1), (1, 1), (2, 1)] := by kernel_rfl
@[simp] theorem ts159 : tsize Tryz.prog 159 = 3 := by kernel_rfl
@[simp] theorem tz159 : tzero Tryz.prog 159 = [.val (.map none), .val (.map none), .val (.map none)] := by kernel_rfl
@[simp] theorem tb159 : tbytes Tryz.prog 159 = 24 := by kernel_rfl
@[simp] theorem tk162 : tkind Tryz.prog 162 = .func := by kernel_rfl
@[simp] theorem ts162 : tsize Tryz.prog 162 = 1 := by kernel_rfl
@[simp] theorem tz162 : tzero Tryz.prog 162 = [.val .nilFunc] := by kernel_rfl
@[simp] theorem tb162 : tbytes Tryz.prog 162 = 8 := by kernel_rfl
@[simp] theorem tk165 : tkind Tryz.prog 165 = .int .u64 := by kernel_rfl
@[simp] theorem ts165 : tsize Tryz.prog 165 = 1 := by kernel_rfl
@[simp] theorem tz165 : tzero Tryz.prog 165 = [.val (.int .u64 0)] := by kernel_rfl
@[simp] theorem tb165 : tbytes Tryz.prog 165 = 8 := by kernel_rfl
@[simp] theorem tk166 : tkind Tryz.prog 166 = .slice 3 1 := by kernel_rfl
@[simp] theorem ts166 : tsize Tryz.prog 166 = 1 := by kernel_rfl
@[simp] theorem tz166 : tzero Tryz.prog 166 = [.nils] := by kernel_rfl
@[simp] theorem tb166 : tbytes Tryz.prog 166 = 24 := by kernel_rfl
@[simp] theorem tk172 : tkind Tryz.prog 172 = .slice 175 20 := by kernel_rfl
@[simp] theorem ts172 : tsize Tryz.prog 172 = 1 := by kernel_rfl
@[simp] theorem tz172 : tzero Tryz.prog 172 = [.nils] := by kernel_rfl
@[simp] theorem tb172 : tbytes Tryz.prog 172 = 24 := by kernel_rfl
@[simp] theorem tk175 : tkind Tryz.prog 175 = .struct [(0, 1), (1, 13), (14, 1), (15, 4), (19, 1)] := by kernel_rfl
@[simp] theorem ts175 : tsize Tryz.prog 175 = 20 := by kernel_rfl
@[simp] theorem tz175 : tzero Tryz.prog 175 = [.val (.bool false), .val (.int .i64 0), .val (.string ⟨#[]⟩), .val (.int .i64 0), .val (.int .i64 0), .val (.int .i64 0), .val (.string ⟨#[]⟩), .nils, .val (.int .i64 0), .val (.int .i64 0), .val (.string ⟨#[]⟩), .nils, .nils, .nils, .val (.int .i64 0), .val (.int .i64 0), .val (.int .i64 0), .val (.string ⟨#[]⟩), .nils, .val (.bool false)] := by kernel_rfl
@[simp] theorem tb175 : tbytes Tryz.prog 175 = 272 := by kernel_rfl
@[simp] theorem tk184 : tkind Tryz.prog 184 = .func := by kernel_rfl
@[simp] theorem ts184 : tsize Tryz.prog 184 = 1 := by kernel_rfl
@[simp] theorem tz184 : tzero Tryz.prog 184 = [.val .nilFunc] := by kernel_rfl
@[simp] theorem tb184 : tbytes Tryz.prog 184 = 8 := by kernel_rfl
@[simp] theorem tk185 : tkind Tryz.prog 185 = .func := by kernel_rfl
@[simp] theorem ts185 : tsize Tryz.prog 185 = 1 := by kernel_rfl
@[simp] theorem tz185 : tzero Tryz.prog 185 = [.val .nilFunc] := by kernel_rfl
@[simp] theorem tb185 : tbytes Tryz.prog 185 = 8 := by kernel_rfl
@[simp] theorem tk187 : tkind Tryz.prog 187 = .func := by kernel_rfl
@[simp] theorem ts187 : tsize Tryz.prog 187 = 1 := by kernel_rfl
@[simp] theorem tz187 : tzero Tryz.prog 187 = [.val .nilFunc] := by kernel_rfl
@[simp] theorem tb187 : tbytes Tryz.prog 187 = 8 := by kernel_rfl
@[simp] theorem tk211 : tkind Tryz.prog 211 = .func := by kernel_rfl
@[simp] theorem ts211 : tsize Tryz.prog 211 = 1 := by kernel_rfl
@[simp] theorem tz211 : tzero Tryz.prog 211 = [.val .nilFunc] := by kernel_rfl
@[simp] theorem tb211 : tbytes Tryz.prog 211 = 8 := by kernel_rfl
@[simp] theorem tk212 : tkind Tryz.prog 212 = .ptr := by kernel_rfl
@[simp] theorem ts212 : tsize Tryz.prog 212 = 1 := by kernel_rfl
@[simp] theorem tz212 : tzero Tryz.prog 212 = [.val (.pointer none)] := by kernel_rfl
@[simp] theorem tb212 : tbytes Tryz.prog 212 = 8 := by kernel_rfl
@[simp] theorem tk214 : tkind Tryz.prog 214 = .struct [(0, 1), (1, 1), (2, 1)] := by kernel_rfl
@[simp] theorem ts214 : tsize Tryz.prog 214 = 3 := by kernel_rfl
@[simp] theorem tz214 : tzero Tryz.prog 214 = [.val (.int .i64 0), .val .nilFunc, .val .nilFunc] := by kernel_rfl
@[simp] theorem tb214 : tbytes Tryz.prog 214 = 24 := by kernel_rfl
@[simp] theorem tk217 : tkind Tryz.prog 217 = .struct [(0, 1), (1, 1), (2, 1), (3, 1), (4, 1), (5, 1)] := by kernel_rfl
@[simp] theorem ts217 : tsize Tryz.prog 217 = 6 := by kernel_rfl
@[simp] theorem tz217 : tzero Tryz.prog 217 = [.val (.bool false), .val (.bool false), .val (.bool false), .val (.bool false), .val (.bool false), .val (.bool false)] := by kernel_rfl
@[simp] theorem fl217 : flatOf Tryz.prog 217 = [.bool, .bool, .bool, .bool, .bool, .bool] := by kernel_rfl
@[simp] theorem tb217 : tbytes Tryz.prog 217 = 6 := by kernel_rfl
@[simp] theorem tk223 : tkind Tryz.prog 223 = .struct [(0, 3), (3, 3)] := by kernel_rfl
@[simp] theorem ts223 : tsize Tryz.prog 223 = 6 := by kernel_rfl
@[simp] theorem tz223 : tzero Tryz.prog 223 = [.val (.int .i64 0), .val (.int .i64 0), .val (.string ⟨#[]⟩), .val (.int .i64 0), .val (.int .i64 0), .val (.string ⟨#[]⟩)] := by kernel_rfl
@[simp] theorem fl223 : flatOf Tryz.prog 223 = [.int .i64, .int .i64, .string, .int .i64, .int .i64, .string] := by kernel_rfl
@[simp] theorem tb223 : tbytes Tryz.prog 223 = 64 := by kernel_rfl
@[simp] theorem tk226 : tkind Tryz.prog 226 = .slice 5 1 := by kernel_rfl
@[simp] theorem ts226 : tsize Tryz.prog 226 = 1 := by kernel_rfl
@[simp] theorem tz226 : tzero Tryz.prog 226 = [.nils] := by kernel_rfl
@[simp] theorem tb226 : tbytes Tryz.prog 226 = 24 := by kernel_rfl
@[simp] theorem tk227 : tkind Tryz.prog 227 = .int .u64 := by kernel_rfl
@[simp] theorem ts227 : tsize Tryz.prog 227 = 1 := by kernel_rfl
@[simp] theorem tz227 : tzero Tryz.prog 227 = [.val (.int .u64 0)] := by kernel_rfl
@[simp] theorem tb227 : tbytes Tryz.prog 227 = 8 := by kernel_rfl
@[simp] theorem tk234 : tkind Tryz.prog 234 = .array 24 5 1 := by kernel_rfl
@[simp] theorem ts234 : tsize Tryz.prog 234 = 24 := by kernel_rfl
@[simp] theorem tz234 : tzero Tryz.prog 234 = [.val (.int .u8 0), .val (.int .u8 0), .val (.int .u8 0), .val (.int .u8 0), .val (.int .u8 0), .val (.int .u8 0), .val (.int .u8 0), .val (.int .u8 0), .val (.int .u8 0), .val (.int .u8 0), .val (.int .u8 0), .val (.int .u8 0), .val (.int .u8 0), .val (.int .u8 0), .val (.int .u8 0), .val (.int .u8 0), .val (.int .u8 0), .val (.int .u8 0), .val (.int .u8 0), .val (.int .u8 0), .val (.int .u8 0), .val (.int .u8 0), .val (.int .u8 0), .val (.int .u8 0)] := by kernel_rfl
@[simp] theorem tb234 : tbytes Tryz.prog 234 = 24 := by kernel_rfl
@[simp] theorem tk246 : tkind Tryz.prog 246 = .array 20 165 1 := by kernel_rfl
@[simp] theorem ts246 : tsize Tryz.prog 246 = 20 := by kernel_rfl
@[simp] theorem tz246 : tzero Tryz.prog 246 = [.val (.int .u64 0), .val (.int .u64 0), .val (.int .u64 0), .val (.int .u64 0), .val (.int .u64 0), .val (.int .u64 0), .val (.int .u64 0), .val (.int .u64 0), .val (.int .u64 0), .val (.int .u64 0), .val (.int .u64 0), .val (.int .u64 0), .val (.int .u64 0), .val (.int .u64 0), .val (.int .u64 0), .val (.int .u64 0), .val (.int .u64 0), .val (.int .u64 0), .val (.int .u64 0), .val (.int .u64 0)] := by kernel_rfl
@[simp] theorem tb246 : tbytes Tryz.prog 246 = 160 := by kernel_rfl
@[simp] theorem tk247 : tkind Tryz.prog 247 = .int .u32 := by kernel_rfl
@[simp] theorem ts247 : tsize Tryz.prog 247 = 1 := by kernel_rfl
@[simp] theorem tz247 : tzero Tryz.prog 247 = [.val (.int .u32 0)] := by kernel_rfl
@[simp] theorem tb247 : tbytes Tryz.prog 247 = 4 := by kernel_rfl
@[simp] theorem tk253 : tkind Tryz.prog 253 = .array 32 5 1 := by kernel_rfl
@[simp] theorem ts253 : tsize Tryz.prog 253 = 32 := by kernel_rfl
@[simp] theorem tz253 : tzero Tryz.prog 253 = [.val (.int .u8 0), .val (.int .u8 0), .val (.int .u8 0), .val (.int .u8 0), .val (.int .u8 0), .val (.int .u8 0), .val (.int .u8 0), .val (.int .u8 0), .val (.int .u8 0), .val (.int .u8 0), .val (.int .u8 0), .val (.int .u8 0), .val (.int .u8 0), .val (.int .u8 0), .val (.int .u8 0), .val (.int .u8 0), .val (.int .u8 0), .val (.int .u8 0), .val (.int .u8 0), .val (.int .u8 0), .val (.int .u8 0), .val (.int .u8 0), .val (.int .u8 0), .val (.int .u8 0), .val (.int .u8 0), .val (.int .u8 0), .val (.int .u8 0), .val (.int .u8 0), .val (.int .u8 0), .val (.int .u8 0), .val (.int .u8 0), .val (.int .u8 0)] := by kernel_rfl
@[simp] theorem tb253 : tbytes Tryz.prog 253 = 32 := by kernel_rfl
@[simp] theorem tk254 : tkind Tryz.prog 254 = .array 64 5 1 := by kernel_rfl
@[simp] theorem ts254 : tsize Tryz.prog 254 = 64 := by kernel_rfl
@[simp] theorem tz254 : tzero Tryz.prog 254 = [.val (.int .u8 0), .val (.int .u8 0), .val (.int .u8 0), .val (.int .u8 0), .val (.int .u8 0), .val (.int .u8 0), .val (.int .u8 0), .val (.int .u8 0), .val (.int .u8 0), .val (.int .u8 0), .val (.int .u8 0), .val (.int .u8 0), .val (.int .u8 0), .val (.int .u8 0), .val (.int .u8 0), .val (.int .u8 0), .val (.int .u8 0), .val (.int .u8 0), .val (.int .u8 0), .val (.int .u8 0), .val (.int .u8 0), .val (.int .u8 0), .val (.int .u8 0), .val (.int .u8 0), .val (.int .u8 0), .val (.int .u8 0), .val (.int .u8 0), .val (.int .u8 0), .val (.int .u8 0), .val (.int .u8 0), .val (.int .u8 0), .val (.int .u8 0), .val (.int .u8 0), .val (.int .u8 0), .val (.int .u8 0), .val (.int .u8 0), .val (.int .u8 0), .val (.int .u8 0), .val (.int .u8 0), .val (.int .u8 0), .val (.int .u8 0), .val (.int .u8 0), .val (.int .u8 0), .val (.int .u8 0), .val (.int .u8 0), .val (.int .u8 0), .val (.int .u8 0), .val (.int .u8 0), .val (.int .u8 0), .val (.int .u8 0), .val (.int .u8 0), .val (.int .u8 0), .val (.int .u8 0), .val (.int .u8 0), .val (.int .u8 0), .val (.int .u8 0), .val (.int .u8 0), .val (.int .u8 0), .val (.int .u8 0), .val (.int .u8 0), .val (.int .u8 0), .val (.int .u8 0), .val (.int .u8 0), .val (.int .u8 0)] := by kernel_rfl
@[simp] theorem tb254 : tbytes Tryz.prog 254 = 64 := by kernel_rfl
end Go.Proofs.YtgcdpfpffalalaaGreatDoor

set_option linter.unusedSimpArgs false
set_option linter.unusedVariables false
namespace Go.Proofs.YtgcdpfpffalalaaGreatDoor
open Go Go.Abs Go.Cw

theorem mixed : Tryz.prog.follows .mixedOrders = true := by kernel_rfl

theorem c_value_plain (s : Bytes) : APure Tryz.prog 123 [S s] (Bo (plainS s)) := by
  refine apure_introB Tryz.func123 rfl (by kernel_rfl) (by simp [Tryz.ntmps123]) rfl ?_
  intro E h hN hh hu hb
  rw [Tryz.ntmps123] at hN
  refine awp_of_wpC _ _ _ ?_
  simp [go_sem] at hb
  simp -dsimp [go_sem, hN]
  refine awp_loopN s.size (fun n => allL okB ((bl s).drop n) = allL okB (bl s)) (fun n => ⟨[(0, S s), (3, I n)], h⟩) (by simp) (Wk.mk (by simp [hh]) (by simp [go_sem]) (by simp [hu, hUnder_ext hu, go_sem]) (by simp [go_sem])) ?_
  intro n hn hI
  have hw := wrapS hn hb
  simp -dsimp [go_sem, hN]
  refine cnd (fun hc => ?_) (fun hc => ?_) <;> try simp at hc
  · rw [bdrop hc, allL] at hI
    simp -dsimp [go_sem, hN, hc]
    refine cnd (fun hg => ?_) (fun hg => ?_)
    · simp -dsimp [go_sem, hN]
      simp [plainS, ← hI, okB, hg]
    · simp -dsimp [go_sem, hN, hw]
      exact ⟨hc, by simpa [okB, hg] using hI, (Wk.mk (by simp [hh]) (by simp [go_sem]) (by simp [hu, hUnder_ext hu, go_sem]) (by simp [go_sem]))⟩
  · rw [bend (by omega), allL] at hI
    simp -dsimp [go_sem, hN, plainS, ← hI]

theorem c_value_Valid (k n : Int) (s : Bytes) : APure Tryz.prog 88 [.agg [I k, I n, S s]] (Bo (valOk k n s)) := by
  refine apure_introB Tryz.func88 rfl (by kernel_rfl) (by simp [Tryz.ntmps88]) rfl ?_
  intro E h hN hh hu hb
  rw [Tryz.ntmps88] at hN
  refine awp_of_wpC _ _ _ ?_
  simp -dsimp [go_sem, hN]
  refine cnd (fun h0 => ?_) (fun h0 => ?_) <;> try simp at h0
  all_goals simp -dsimp [go_sem, hN, valOk, h0]
  refine cnd (fun h1 => ?_) (fun h1 => ?_) <;> try simp at h1
  all_goals simp -dsimp [go_sem, hN, valOk, h0, h1]
  refine cnd (fun h2 => ?_) (fun h2 => ?_) <;> try simp at h2
  all_goals simp -dsimp [go_sem, hN, valOk, h0, h1, h2]
  refine tgcall_pure (c_value_plain s) (by simp) ?_
  simp -dsimp [go_sem, hN, valOk, h0, h1, h2]

theorem c_interp_variable (k n : Int) (s : Bytes) : APure Tryz.prog 61 [.agg [I k, I n, S s]] (Bo (varOk k n s)) := by
  refine apure_introB Tryz.func61 rfl (by kernel_rfl) (by simp [Tryz.ntmps61]) rfl ?_
  intro E h hN hh hu hb
  rw [Tryz.ntmps61] at hN
  refine awp_of_wpC _ _ _ ?_
  simp -dsimp [go_sem, hN]
  refine cnd (fun h0 => ?_) (fun h0 => ?_) <;> try simp at h0
  all_goals simp -dsimp [go_sem, hN, varOk, h0]
  refine tgcall_pure (c_value_Valid k n s) (by simp) ?_
  simp -dsimp [go_sem, hN, varOk, h0]

theorem c_keys_Valid1 (b : UInt8) : APure Tryz.prog 139 [U8 b.toNat] (Bo (keyB b)) := by
  refine apure_introB Tryz.func139 rfl (by kernel_rfl) (by simp [Tryz.ntmps139]) rfl ?_
  intro E h hN hh hu hb
  rw [Tryz.ntmps139] at hN
  refine awp_of_wpC _ _ _ ?_
  simp -dsimp [go_sem, hN, keyB]
  omega

theorem c_keys_consists (s : Bytes) (f : FuncId) (p : UInt8 → Bool) (hp : ∀ b : UInt8, APure Tryz.prog f [U8 b.toNat] (Bo (p b))) : APure Tryz.prog 138 [S s, .fn (.func f) [] []] (Bo (decide ((s.size : Int) ≤ 24) && allL p (bl s))) := by
  refine apure_introB Tryz.func138 rfl (by kernel_rfl) (by simp [Tryz.ntmps138]) rfl ?_
  intro E h hN hh hu hb
  rw [Tryz.ntmps138] at hN
  refine awp_of_wpC _ _ _ ?_
  simp [go_sem] at hb
  simp -dsimp [go_sem, hN]
  refine cnd (fun h0 => ?_) (fun h0 => ?_) <;> try simp at h0
  all_goals simp -dsimp [go_sem, hN, h0]
  · simp [Int.not_le.2 h0]
  refine awp_loopN s.size (fun n => allL p ((bl s).drop n) = allL p (bl s)) (fun n => ⟨[(0, S s), (1, .fn (.func f) [] []), (10, I s.size), (11, I n)], h⟩) (by simp) (Wk.mk (by simp [hh]) (by simp [go_sem]) (by simp [hu, hUnder_ext hu, go_sem]) (by simp [go_sem])) ?_
  intro n hn hI
  have hw := wrapS hn hb
  simp -dsimp [go_sem, hN]
  refine cnd (fun hc => ?_) (fun hc => ?_) <;> try simp at hc
  · rw [bdrop hc, allL] at hI
    simp -dsimp [go_sem, hN, hc]
    refine tcall_pure (hp _) ?_
    simp -dsimp [go_sem, hN]
    refine cnd (fun hg => ?_) (fun hg => ?_) <;> try simp at hg
    · simp -dsimp [go_sem, hN]
      simp [h0, ← hI, hg]
    · simp -dsimp [go_sem, hN, hw]
      exact ⟨hc, by simpa [hg] using hI, (Wk.mk (by simp [hh]) (by simp [go_sem]) (by simp [hu, hUnder_ext hu, go_sem]) (by simp [go_sem]))⟩
  · rw [bend (by omega), allL] at hI
    simp -dsimp [go_sem, hN, h0, ← hI]

theorem c_keys_Valid (s : Bytes) : APure Tryz.prog 99 [S s] (Bo (keyOk s)) := by
  refine apure_introB Tryz.func99 rfl (by kernel_rfl) (by simp [Tryz.ntmps99]) rfl ?_
  intro E h hN hh hu hb
  rw [Tryz.ntmps99] at hN
  refine awp_of_wpC _ _ _ ?_
  simp -dsimp [go_sem, hN]
  refine tgcall_pure (c_keys_consists s _ keyB c_keys_Valid1) (by simp) ?_
  simp -dsimp [go_sem, hN, keyOk, Bool.and_assoc]

theorem c_interp_ascending (l : List Bytes) : APure Tryz.prog 72 [.slice (l.map sRow)] (Bo (ascK none l && decide ((l.length : Int) ≤ 64))) := by
  refine apure_introB Tryz.func72 rfl (by kernel_rfl) (by simp [Tryz.ntmps72]) rfl ?_
  intro E h hN hh hu hb
  rw [Tryz.ntmps72] at hN
  refine awp_of_wpC _ _ _ ?_
  simp [go_sem] at hb
  simp -dsimp [go_sem, hN]
  refine awp_loopN l.length (fun n => ascK (prevOf l n) (l.drop n) = ascK none l) (fun n => ⟨[(0, .slice (l.map sRow)), (5, .slice (l.map sRow)), (6, I l.length), (7, I n)], h⟩) (by simp [prevOf]) (Wk.mk (by simp [hh]) (by simp [go_sem]) (by simp [hu, hUnder_ext hu, go_sem]) (by simp [go_sem])) ?_
  intro n hn hI
  have hw := wrapS hn hb.1
  simp -dsimp [go_sem, hN]
  refine cnd (fun hc => ?_) (fun hc => ?_) <;> try simp at hc
  · rw [drop_next hc, ascK] at hI
    simp -dsimp [go_sem, hN, hc]
    refine tcall_pure (c_keys_Valid _) ?_
    cases n with
    | zero =>
      simp -dsimp [go_sem, hN]
      refine cnd (fun hg => ?_) (fun hg => ?_) <;> try simp at hg
      · simp -dsimp [go_sem, hN]
        simp [← hI, hg, prevOf, after]
      · simp -dsimp [go_sem, hN, hw]
        exact ⟨hc, by simpa [hg, prevOf, hc, after] using hI, (Wk.mk (by simp [hh]) (by simp [go_sem]) (by simp [hu, hUnder_ext hu, go_sem]) (by simp [go_sem]))⟩
    | succ m =>
      have hm : m < l.length := by omega
      have hw2 := wrapN (Nat.le_of_lt hm) hb.1
      simp at hw
      simp -dsimp [go_sem, hN, hw2, hm]
      refine cnd (fun hg => ?_) (fun hg => ?_) <;> try simp at hg
      · simp -dsimp [go_sem, hN]
        rw [← hI]
        rcases hg with h1 | h1 <;> simp [prevOf, hm, after, h1]
      · simp -dsimp [go_sem, hN, hw]
        simp [hg, prevOf, hm, after] at hI
        exact ⟨hc, by simpa [prevOf, hc] using hI, (Wk.mk (by simp [hh]) (by simp [go_sem]) (by simp [hu, hUnder_ext hu, go_sem]) (by simp [go_sem]))⟩
  · rw [List.drop_eq_nil_of_le (by omega), ascK] at hI
    simp -dsimp [go_sem, hN, ← hI]

theorem c_interp_valid (a : Bool) (r w : List Bytes) : APure Tryz.prog 31 [.agg [Bo a, .slice (r.map sRow), .slice (w.map sRow)]] (Bo (footOk a r w)) := by
  refine apure_introB Tryz.func31 rfl (by kernel_rfl) (by simp [Tryz.ntmps31]) rfl ?_
  intro E h hN hh hu hb
  rw [Tryz.ntmps31] at hN
  refine awp_of_wpC _ _ _ ?_
  simp -dsimp [go_sem, hN]
  refine cnd (fun h0 => ?_) (fun h0 => ?_) <;> try simp at h0
  all_goals simp -dsimp [go_sem, hN, footOk, h0]
  refine tcall_pure (c_interp_ascending r) ?_
  simp -dsimp [go_sem, hN]
  refine tgcall_pure (c_interp_ascending w) (by simp) ?_
  simp -dsimp [go_sem, hN, footOk, h0]

theorem c_state_absent (p : Pr) : APure Tryz.prog 71 [.agg p.c] (Bo (decide (p.v.k = 0))) := by
  refine apure_introB Tryz.func71 rfl (by kernel_rfl) (by simp [Tryz.ntmps71]) rfl ?_
  intro E h hN hh hu hb
  rw [Tryz.ntmps71] at hN
  refine awp_of_wpC _ _ _ ?_
  simp -dsimp [go_sem, hN]

theorem c_IndexFunc_Pair (l : List Pr) (f : FuncId) (p : Pr → Bool) (hp : ∀ x : Pr, APure Tryz.prog f [.agg x.c] (Bo (p x))) : APure Tryz.prog 100 [.slice (l.map Pr.c), .fn (.func f) [] []] (I (idxOf p l)) := by
  refine apure_introB Tryz.func100 rfl (by kernel_rfl) (by simp [Tryz.ntmps100]) rfl ?_
  intro E h hN hh hu hb
  rw [Tryz.ntmps100] at hN
  refine awp_of_wpC _ _ _ ?_
  simp [go_sem] at hb
  simp -dsimp [go_sem, hN]
  refine awp_loopN l.length (fun n => idxFrom p n (l.drop n) = idxOf p l) (fun n => ⟨[(0, .slice (l.map Pr.c)), (1, .fn (.func f) [] []), (7, I l.length), (8, I n)], h⟩) (by simp [idxOf]) (Wk.mk (by simp [hh]) (by simp [go_sem]) (by simp [hu, hUnder_ext hu, go_sem]) (by simp [go_sem])) ?_
  intro n hn hI
  have hw := wrapS hn hb.1
  simp -dsimp [go_sem, hN]
  refine cnd (fun hc => ?_) (fun hc => ?_) <;> try simp at hc
  · rw [drop_next hc, idxFrom] at hI
    simp -dsimp [go_sem, hN, hc]
    refine tcall_pure (hp l[n]) ?_
    simp -dsimp [go_sem, hN]
    refine cnd (fun hg => ?_) (fun hg => ?_) <;> try simp at hg
    · simp -dsimp [go_sem, hN]
      simpa [hg] using hI
    · simp -dsimp [go_sem, hN, hw]
      exact ⟨hc, by simpa [hg] using hI, (Wk.mk (by simp [hh]) (by simp [go_sem]) (by simp [hu, hUnder_ext hu, go_sem]) (by simp [go_sem]))⟩
  · rw [List.drop_eq_nil_of_le (by omega), idxFrom] at hI
    simp -dsimp [go_sem, hN, ← hI]

theorem c_ContainsFunc_Pair (l : List Pr) (f : FuncId) (p : Pr → Bool) (hp : ∀ x : Pr, APure Tryz.prog f [.agg x.c] (Bo (p x))) : APure Tryz.prog 70 [.slice (l.map Pr.c), .fn (.func f) [] []] (Bo (anyL p l)) := by
  refine apure_introB Tryz.func70 rfl (by kernel_rfl) (by simp [Tryz.ntmps70]) rfl ?_
  intro E h hN hh hu hb
  rw [Tryz.ntmps70] at hN
  refine awp_of_wpC _ _ _ ?_
  simp -dsimp [go_sem, hN]
  refine tcall_pure (c_IndexFunc_Pair l f p hp) ?_
  simp -dsimp [go_sem, hN, idxOf_nonneg]

theorem c_state_sorted (l : List Pr) : APure Tryz.prog 69 [.slice (l.map Pr.c)] (Bo (sortedP none l)) := by
  refine apure_introB Tryz.func69 rfl (by kernel_rfl) (by simp [Tryz.ntmps69]) rfl ?_
  intro E h hN hh hu hb
  rw [Tryz.ntmps69] at hN
  refine awp_of_wpC _ _ _ ?_
  simp [go_sem] at hb
  simp -dsimp [go_sem, hN]
  refine awp_loopN l.length (fun n => sortedP ((prevOf l n).map Pr.key) (l.drop n) = sortedP none l) (fun n => ⟨[(0, .slice (l.map Pr.c)), (5, .slice (l.map Pr.c)), (6, I l.length), (7, I n)], h⟩) (by simp [prevOf]) (Wk.mk (by simp [hh]) (by simp [go_sem]) (by simp [hu, hUnder_ext hu, go_sem]) (by simp [go_sem])) ?_
  intro n hn hI
  have hw := wrapS hn hb.1
  simp -dsimp [go_sem, hN]
  refine cnd (fun hc => ?_) (fun hc => ?_) <;> try simp at hc
  · rw [drop_next hc, sortedP] at hI
    simp -dsimp [go_sem, hN, hc]
    refine awp_drawQ 22 mixed (by kernel_rfl) (by kernel_rfl) ?_
    simp -dsimp [go_sem, hN]
    refine tdcall (c_keys_Valid _) (by simp) ?_
    simp -dsimp [go_sem, hN]
    refine tdcall (c_value_Valid _ _ _) (by simp) ?_
    cases n with
    | zero =>
      simp -dsimp [go_sem, hN]
      refine cnd (fun hg => ?_) (fun hg => ?_) <;> try simp at hg
      · simp -dsimp [go_sem, hN]
        rw [← hI]
        rcases hg with h1 | h1 <;> simp [prevOf, after, h1]
      · simp -dsimp [go_sem, hN, hw]
        exact ⟨hc, by simpa [hg, prevOf, hc, after] using hI, (Wk.mk (by simp [hh]) (by simp [go_sem]) (by simp [hu, hUnder_ext hu, go_sem]) (by simp [go_sem]))⟩
    | succ m =>
      have hm : m < l.length := by omega
      have hw2 := wrapN (Nat.le_of_lt hm) hb.1
      simp at hw
      simp -dsimp [go_sem, hN, hw2, hm]
      refine cnd (fun hg => ?_) (fun hg => ?_) <;> try simp at hg
      · simp -dsimp [go_sem, hN]
        rw [← hI]
        grind [prevOf, after]
      · simp -dsimp [go_sem, hN, hw]
        simp [hg, prevOf, hm, after] at hI
        exact ⟨hc, by simpa [prevOf, hc] using hI, (Wk.mk (by simp [hh]) (by simp [go_sem]) (by simp [hu, hUnder_ext hu, go_sem]) (by simp [go_sem]))⟩
  · rw [List.drop_eq_nil_of_le (by omega), sortedP] at hI
    simp -dsimp [go_sem, hN, ← hI]

theorem c_state_Valid (l : List Pr) : APure Tryz.prog 30 [.slice (l.map Pr.c)] (Bo (stateOk l)) := by
  refine apure_introB Tryz.func30 rfl (by kernel_rfl) (by simp [Tryz.ntmps30]) rfl ?_
  intro E h hN hh hu hb
  rw [Tryz.ntmps30] at hN
  refine awp_of_wpC _ _ _ ?_
  simp -dsimp [go_sem, hN]
  refine tcall_pure (c_state_sorted l) ?_
  simp -dsimp [go_sem, hN]
  refine tgcall_pure (c_ContainsFunc_Pair l _ _ c_state_absent) (by simp) ?_
  simp -dsimp [go_sem, hN, stateOk]

theorem c_state_Get (l : List Pr) (k : Bytes) : APure Tryz.prog 174 [.slice (l.map Pr.c), S k] (.agg (getP l k).c) := by
  refine apure_introB Tryz.func174 rfl (by kernel_rfl) (by simp [Tryz.ntmps174]) rfl ?_
  intro E h hN hh hu hb
  rw [Tryz.ntmps174] at hN
  refine awp_of_wpC _ _ _ ?_
  simp [go_sem] at hb
  simp -dsimp [go_sem, hN]
  refine awp_loopN l.length (fun n => getP (l.drop n) k = getP l k) (fun n => ⟨[(0, .slice (l.map Pr.c)), (1, S k), (4, P0 h.length), (7, .slice (l.map Pr.c)), (8, I l.length), (9, I n)], h ++ [.cells [I 0, I 0, S em]]⟩) (by simp) (Wk.mk (by simp [hh]) (by simp [go_sem]) (by simp [hu, hUnder_ext hu, go_sem]) (by simp [go_sem])) ?_
  intro n hn hI
  have hw := wrapS hn hb.1.1
  simp -dsimp [go_sem, hN]
  refine cnd (fun hc => ?_) (fun hc => ?_) <;> try simp at hc
  · rw [drop_next hc, getP] at hI
    simp -dsimp [go_sem, hN, hc]
    refine cnd (fun hg => ?_) (fun hg => ?_) <;> try simp at hg
    · simp -dsimp [go_sem, hN]
      simp [← hI, hg]
    · simp -dsimp [go_sem, hN, hw]
      exact ⟨hc, by simpa [hg] using hI, (Wk.mk (by simp [hh]) (by simp [go_sem]) (by simp [hu, hUnder_ext hu, go_sem]) (by simp [go_sem]))⟩
  · rw [List.drop_eq_nil_of_le (by omega), getP] at hI
    simp -dsimp [go_sem, hN, ← hI]
end Go.Proofs.YtgcdpfpffalalaaGreatDoor

set_option linter.unusedSimpArgs false
set_option linter.unusedVariables false
set_option maxRecDepth 4000
namespace Go.Proofs.YtgcdpfpffalalaaGreatDoor
open Go Go.Abs Go.Cw

theorem c_lexer_letter (c : Int) : APure Tryz.prog 204 [.val (.int .i32 c)] (Bo (ltr c)) := by
  refine apure_introB Tryz.func204 rfl (by kernel_rfl) (by simp [Tryz.ntmps204]) rfl ?_
  intro E h hN hh hu hb
  rw [Tryz.ntmps204] at hN
  refine awp_of_wpC _ _ _ ?_
  simp -dsimp [go_sem, hN, ltr]

theorem c_lexer_word (s : Bytes) : APure Tryz.prog 205 [S s] (I (wordLen (bl s))) := by
  refine apure_introB Tryz.func205 rfl (by kernel_rfl) (by simp [Tryz.ntmps205]) rfl ?_
  intro E h hN hh hu hb
  rw [Tryz.ntmps205] at hN
  refine awp_of_wpC _ _ _ ?_
  simp [go_sem] at hb
  simp -dsimp [go_sem, hN]
  refine awp_loopN s.size (fun n => n + wordLen ((bl s).drop n) = wordLen (bl s)) (fun n => ⟨[(0, S s), (6, P0 h.length)], h ++ [.iter s n]⟩) (by simp) (Wk.mk (by simp [hh]) (by simp [go_sem]) (by simp [hu, hUnder_ext hu, go_sem]) (by simp [go_sem])) ?_
  intro n hn hI
  have hw := wrapS hn hb
  simp -dsimp [go_sem, hN]
  by_cases hc : n < s.size
  · rw [bdrop hc, wordLen] at hI
    simp -dsimp [go_sem, hN, hc]
    refine tcall_pure (c_lexer_letter _) ?_
    simp -dsimp [go_sem, hN]
    by_cases h8 : (bAt s n).toNat < 128
    · simp only [dec_lo hc h8]
      refine ⟨by grind, cnd (fun hg => ?_) (fun hg => ?_)⟩
      · have hg' : wordI ((bAt s n).toNat : Int) = false := by simp [wordI] at hg ⊢; grind
        simp -dsimp [go_sem, hN]
        rw [← hI]
        simp [hg']
      · have hg' : wordI ((bAt s n).toNat : Int) = true := by simp [wordI] at hg ⊢; grind
        simp -dsimp [go_sem, hN, hw]
        exact ⟨hc, by rw [if_pos hg'] at hI; omega, (Wk.mk (by simp [hh]) (by simp [go_sem]) (by simp [hu, hUnder_ext hu, go_sem]) (by simp [go_sem]))⟩
    · have h9 := dec_hi hc h8
      have hg' : wordI ((bAt s n).toNat : Int) = false := by simp [wordI, ltr]; omega
      have hl : ltr ((Utf8.decode s n).1 : Int) = false := by simp [ltr]; omega
      refine ⟨by grind, cnd (fun hg => ?_) (fun hg => ?_)⟩
      · simp -dsimp [go_sem, hN]
        rw [← hI]
        simp [hg']
      · simp [hl] at hg
        omega
  · rw [bend hc, wordLen] at hI
    simp -dsimp [go_sem, hN, hc]
    have : wordLen (bl s) = s.size := by omega
    simp [this]

theorem c_lexer_IsKeyword (s : Bytes) : APure Tryz.prog 206 [S s] (Bo (kw s)) := by
  refine apure_introB Tryz.func206 rfl (by kernel_rfl) (by simp [Tryz.ntmps206]) rfl ?_
  intro E h hN hh hu hb
  rw [Tryz.ntmps206] at hN
  refine awp_of_wpC _ _ _ ?_
  simp -dsimp [go_sem, hN]
  iterate 25
    refine cnd (fun hg => ?_) (fun hg => ?_)
    · simp at hg
      subst hg
      simp -dsimp [go_sem, hN]
      rfl
    simp -dsimp [go_sem, hN]
    try simp at hg
  simp [kw, *]

theorem c_ast_plain (s : Bytes) : APure Tryz.prog 172 [S s] (Bo (plainS s)) := by
  refine apure_introB Tryz.func172 rfl (by kernel_rfl) (by simp [Tryz.ntmps172]) rfl ?_
  intro E h hN hh hu hb
  rw [Tryz.ntmps172] at hN
  refine awp_of_wpC _ _ _ ?_
  simp [go_sem] at hb
  simp -dsimp [go_sem, hN]
  refine awp_loopN s.size (fun n => allL okB ((bl s).drop n) = allL okB (bl s)) (fun n => ⟨[(0, S s), (3, I n)], h⟩) (by simp) (Wk.mk (by simp [hh]) (by simp [go_sem]) (by simp [hu, hUnder_ext hu, go_sem]) (by simp [go_sem])) ?_
  intro n hn hI
  have hw := wrapS hn hb
  simp -dsimp [go_sem, hN]
  refine cnd (fun hc => ?_) (fun hc => ?_) <;> simp at hc
  · rw [bdrop hc, allL] at hI
    simp -dsimp [go_sem, hN, hc]
    refine cnd (fun hg => ?_) (fun hg => ?_)
    · simp -dsimp [go_sem, hN]
      simp [plainS, ← hI, okB, hg]
    · simp -dsimp [go_sem, hN, hw]
      exact ⟨hc, by simpa [okB, hg] using hI, (Wk.mk (by simp [hh]) (by simp [go_sem]) (by simp [hu, hUnder_ext hu, go_sem]) (by simp [go_sem]))⟩
  · rw [bend (by omega), allL] at hI
    simp -dsimp [go_sem, hN, plainS, ← hI]

theorem c_ast_Arity (op : Int) : APure Tryz.prog 171 [I op] (I (arity op)) := by
  refine apure_introB Tryz.func171 rfl (by kernel_rfl) (by simp [Tryz.ntmps171]) rfl ?_
  intro E h hN hh hu hb
  rw [Tryz.ntmps171] at hN
  refine awp_of_wpC _ _ _ ?_
  simp -dsimp [go_sem, hN]
  refine cnd (fun h0 => ?_) (fun h0 => ?_) <;> simp at h0 <;> simp -dsimp [go_sem, hN, arity, h0]
  refine cnd (fun h1 => ?_) (fun h1 => ?_) <;> simp at h1 <;> simp -dsimp [go_sem, hN, arity, h0, h1]
  refine cnd (fun h2 => ?_) (fun h2 => ?_) <;> simp at h2 <;> simp -dsimp [go_sem, hN, arity]
  · rw [if_neg (by omega), if_neg (by omega), if_pos (by omega)]
  · rw [if_neg (by omega), if_neg (by omega), if_neg (by omega)]

theorem c_lexer_IsName (s : Bytes) : APure Tryz.prog 160 [S s] (Bo (nameOk s)) := by
  refine apure_introB Tryz.func160 rfl (by kernel_rfl) (by simp [Tryz.ntmps160]) rfl ?_
  intro E h hN hh hu hb
  rw [Tryz.ntmps160] at hN
  refine awp_of_wpC _ _ _ ?_
  rcases sz_em s with rfl | h1
  · simp -dsimp [go_sem, hN, nameOk]
    refine tgcall_if .top (by simp) (by simp) ?_
    simp -dsimp [go_sem, hN]
    refine tgcall_if .top (by simp) (by simp) ?_
    simp -dsimp [go_sem, hN]
    refine tgcall_if .top (by simp) (by simp) ?_
    simp -dsimp [go_sem, hN, nameOk]
  · have h1' : 0 < s.size := by omega
    have he : ¬ s = em := by rintro rfl; simp at h1
    simp -dsimp [go_sem, hN, h1', he]
    refine tgcall_pure (c_lexer_letter _) (by simp) ?_
    simp -dsimp [go_sem, hN]
    refine tgcall_pure (c_lexer_word s) (by simp) ?_
    simp -dsimp [go_sem, hN]
    refine tgcall_pure (c_lexer_IsKeyword s) (by simp) ?_
    simp -dsimp [go_sem, hN, nameOk, he]

theorem c_ast_node (op n : Int) (s : Bytes) (args : List Ex) (d : Nat) : APure Tryz.prog 122 [.agg [I op, I n, S s, .slice (args.map Ex.c)], I d] (I (nodeErr op n s args.length d)) := by
  refine apure_introB Tryz.func122 rfl (by kernel_rfl) (by simp [Tryz.ntmps122]) rfl ?_
  intro E h hN hh hu hb
  rw [Tryz.ntmps122] at hN
  refine awp_of_wpC _ _ _ ?_
  simp -dsimp [go_sem, hN]
  refine tcall_pure (c_ast_Arity _) ?_
  simp -dsimp [go_sem, hN]
  repeat refine ⟨by grind, ?_⟩
  refine cnd (fun h0 => ?_) (fun h0 => ?_)
  · simp -dsimp [go_sem, hN]
    simp at h0
    rw [nodeErr, if_pos (by grind)]
  have h0' : ¬ (arity op < 0 ∨ (op ≠ 1 ∧ n ≠ 0) ∨ (op ≠ 2 ∧ op ≠ 3 ∧ s ≠ em)) := by simp at h0; grind
  simp -dsimp [go_sem, hN]
  refine tgcall_pure (c_lexer_IsName s) (by simp) ?_
  simp -dsimp [go_sem, hN]
  refine cnd (fun h1 => ?_) (fun h1 => ?_)
  · simp -dsimp [go_sem, hN]
    simp at h1
    rw [nodeErr, if_neg h0', if_pos (by grind)]
  have h1' : ¬ (op = 3 ∧ nameOk s = false) := by simp at h1; grind
  simp -dsimp [go_sem, hN]
  repeat refine ⟨by grind, ?_⟩
  refine tgcall_pure (c_ast_plain s) (by simp) ?_
  simp -dsimp [go_sem, hN]
  repeat refine ⟨by grind, ?_⟩
  refine cnd (fun h2 => ?_) (fun h2 => ?_)
  · simp -dsimp [go_sem, hN]
    simp at h2
    rw [nodeErr, if_neg h0', if_neg h1', if_pos (by grind)]
  have h2' : ¬ ((op = 1 ∧ n < 0) ∨ (op = 2 ∧ plainS s = false) ∨ (args.length : Int) ≠ arity op) := by simp at h2; grind
  simp -dsimp [go_sem, hN]
  refine cnd (fun h3 => ?_) (fun h3 => ?_) <;> simp at h3
  · simp -dsimp [go_sem, hN]
    rw [nodeErr, if_neg h0', if_neg h1', if_neg h2', if_pos (by omega)]
  · simp -dsimp [go_sem, hN]
    rw [nodeErr, if_neg h0', if_neg h1', if_neg h2', if_neg (by omega)]

theorem c_ast_check (e : Ex) (d : Nat) : APure Tryz.prog 87 [.agg [I e.op, I e.n, S e.s, .slice (e.args.map Ex.c)], I d] (I (chkE e d)) := by
  refine apure_introB Tryz.func87 rfl (by kernel_rfl) (by simp [Tryz.ntmps87]) rfl ?_
  intro E h hN hh hu hb
  rw [Tryz.ntmps87] at hN
  refine awp_of_wpC _ _ _ ?_
  simp [go_sem] at hb
  simp -dsimp [go_sem, hN]
  refine tcall_pure (c_ast_node _ _ _ _ _) ?_
  simp -dsimp [go_sem, hN]
  refine cnd (fun h0 => ?_) (fun h0 => ?_) <;> simp at h0
  · simp -dsimp [go_sem, hN]
    rw [chkE_eq, if_neg h0]
  have hd : d ≤ 12 := by
    unfold nodeErr at h0
    grind
  simp -dsimp [go_sem, hN]
  refine awp_loopN e.args.length (fun n => chkL (e.args.drop n) (d + 1) = chkL e.args (d + 1)) (fun n => ⟨[(1, I d), (16, .slice (e.args.map Ex.c)), (17, I e.args.length), (18, I n)], h⟩) (by simp) (Wk.mk (by simp [hh]) (by simp [go_sem]) (by simp [hu, hUnder_ext hu, go_sem]) (by simp [go_sem])) ?_
  intro n hn hI
  have hw := wrapS hn hb.2.1
  have hw2 : IntKind.i64.wrap ((d : Int) + 1) = ((d + 1 : Nat) : Int) := by rw [wrapI (by omega) (by omega)]; rfl
  simp -dsimp [go_sem, hN]
  refine cnd (fun hc => ?_) (fun hc => ?_) <;> simp at hc
  · rw [drop_next hc, chkL] at hI
    simp -dsimp [go_sem, hN, hc, hw2]
    have hlt : SizeOf.sizeOf e.args[n] < SizeOf.sizeOf e := Ex.arg_lt (List.getElem_mem hc)
    refine tcall_pure (c_ast_check e.args[n] (d + 1)) ?_
    simp -dsimp [go_sem, hN]
    refine cnd (fun hg => ?_) (fun hg => ?_) <;> simp at hg
    · simp -dsimp [go_sem, hN]
      rw [chkE_eq e, if_pos h0, ← hI, if_neg hg]
    · simp -dsimp [go_sem, hN, hw]
      exact ⟨hc, by simpa [hg] using hI, (Wk.mk (by simp [hh]) (by simp [go_sem]) (by simp [hu, hUnder_ext hu, go_sem]) (by simp [go_sem]))⟩
  · rw [List.drop_eq_nil_of_le (by omega), chkL] at hI
    simp -dsimp [go_sem, hN]
    rw [chkE_eq e, if_pos h0, ← hI]
termination_by SizeOf.sizeOf e

theorem c_ast_ValidExpr (e : Ex) : APure Tryz.prog 60 [.agg [I e.op, I e.n, S e.s, .slice (e.args.map Ex.c)]] (I (chkE e 1)) := by
  refine apure_introB Tryz.func60 rfl (by kernel_rfl) (by simp [Tryz.ntmps60]) rfl ?_
  intro E h hN hh hu hb
  rw [Tryz.ntmps60] at hN
  refine awp_of_wpC _ _ _ ?_
  simp -dsimp [go_sem, hN]
  refine tcall_pure (c_ast_check e 1) ?_
  simp -dsimp [go_sem, hN]
end Go.Proofs.YtgcdpfpffalalaaGreatDoor

set_option linter.unusedSimpArgs false
set_option linter.unusedVariables false
set_option maxRecDepth 4000
namespace Go.Proofs.YtgcdpfpffalalaaGreatDoor
open Go Go.Abs Go.Cw

theorem c_ast_usesOf (op : Int) : APure Tryz.prog 210 [I op] (.tuple [.agg (usesOf op).1.c, Bo (usesOf op).2]) := by
  refine apure_introB Tryz.func210 rfl (by kernel_rfl) (by simp [Tryz.ntmps210]) rfl ?_
  intro E h hN hh hu hb
  rw [Tryz.ntmps210] at hN
  refine awp_of_wpC _ _ _ ?_
  by_cases h1 : op = 1
  · subst h1; simp -dsimp [go_sem, hN, usesOf]
  by_cases h2 : op = 2
  · subst h2; simp -dsimp [go_sem, hN, usesOf]
  by_cases h3 : op = 3
  · subst h3; simp -dsimp [go_sem, hN, usesOf]
  by_cases h4 : op = 4
  · subst h4; simp -dsimp [go_sem, hN, usesOf]
  by_cases h7 : op = 7
  · subst h7; simp -dsimp [go_sem, hN, usesOf]
  by_cases h5 : op = 5
  · subst h5; simp -dsimp [go_sem, hN, usesOf]
  by_cases h6 : op = 6
  · subst h6; simp -dsimp [go_sem, hN, usesOf]
  by_cases h8 : op = 8
  · subst h8; simp -dsimp [go_sem, hN, usesOf]
  simp -dsimp [go_sem, hN, usesOf, h1, h2, h3, h4, h5, h6, h7, h8]

theorem c_ast_absent (e : Ex) : APure Tryz.prog 233 [.agg e.x] (Bo (absE e)) := by
  refine apure_introB Tryz.func233 rfl (by kernel_rfl) (by simp [Tryz.ntmps233]) rfl ?_
  intro E h hN hh hu hb
  rw [Tryz.ntmps233] at hN
  refine awp_of_wpC _ _ _ ?_
  simp -dsimp [go_sem, hN, absE]
  try grind

theorem c_ast_shape (s : St) (u : Uses) : APure Tryz.prog 211 [.agg s.x, .agg u.c] (Bo (shapeOk s u)) := by
  refine apure_introB Tryz.func211 rfl (by kernel_rfl) (by simp [Tryz.ntmps211]) rfl ?_
  intro E h hN hh hu hb
  rw [Tryz.ntmps211] at hN
  refine awp_of_wpC _ _ _ ?_
  simp -dsimp [go_sem, hN]
  repeat refine ⟨by grind, ?_⟩
  refine tgcall_pure (c_ast_absent s.a) (by simp) ?_
  simp -dsimp [go_sem, hN]
  repeat refine ⟨by grind, ?_⟩
  refine tgcall_pure (c_ast_absent s.b) (by simp) ?_
  simp -dsimp [go_sem, hN]
  repeat refine ⟨by grind, ?_⟩
  refine cnd (fun h0 => ?_) (fun h0 => ?_)
  · simp -dsimp [go_sem, hN]
    simp [shapeOk] at h0 ⊢
    grind
  · simp -dsimp [go_sem, hN]
    refine cnd (fun h1 => ?_) (fun h1 => ?_) <;> simp at h1 <;> simp -dsimp [go_sem, hN, h1]
    · simp [shapeOk, h1] at h0 ⊢
      grind
    · refine cnd (fun h2 => ?_) (fun h2 => ?_) <;> simp at h2 <;> simp -dsimp [go_sem, hN, h2]
      · simp [shapeOk, h1, h2] at h0 ⊢
        grind
      · simp [shapeOk, h1, h2] at h0 ⊢
        grind
end Go.Proofs.YtgcdpfpffalalaaGreatDoor

set_option linter.unusedSimpArgs false
set_option linter.unusedVariables false
set_option maxRecDepth 4000
namespace Go.Proofs.YtgcdpfpffalalaaGreatDoor
open Go Go.Abs Go.Cw

theorem c_ast_statement (s : St) (d : Int) : APure Tryz.prog 164 [.agg s.x, I d] (I (stmtErr s d)) := by
  refine apure_introB Tryz.func164 rfl (by kernel_rfl) (by simp [Tryz.ntmps164]) rfl ?_
  intro E h hN hh hu hb
  rw [Tryz.ntmps164] at hN
  refine awp_of_wpC _ _ _ ?_
  simp -dsimp [go_sem, hN]
  refine tcall_pure (c_ast_usesOf _) ?_
  simp -dsimp [go_sem, hN]
  refine tgcall_pure (c_ast_shape s (usesOf s.op).1) (by simp) ?_
  simp -dsimp [go_sem, hN]
  refine cnd (fun h0 => ?_) (fun h0 => ?_)
  · simp -dsimp [go_sem, hN]
    simp at h0
    rw [stmtErr, if_pos (by grind)]
  have h0' : ¬ ((usesOf s.op).2 = false ∨ shapeOk s (usesOf s.op).1 = false) := by simp at h0; grind
  simp -dsimp [go_sem, hN]
  refine tgcall_pure (c_lexer_IsName _) (by simp) ?_
  simp -dsimp [go_sem, hN]
  refine cnd (fun h1 => ?_) (fun h1 => ?_)
  · simp -dsimp [go_sem, hN]
    simp at h1
    rw [stmtErr, if_neg h0', if_pos (by grind)]
  have h1' : ¬ ((usesOf s.op).1.name = true ∧ nameOk s.name = false) := by simp at h1; grind
  simp -dsimp [go_sem, hN]
  have tail : ¬ ((usesOf s.op).1.a = true ∧ chkE s.a 1 ≠ 0) → ¬ ((usesOf s.op).1.b = true ∧ chkE s.b 1 ≠ 0) → ∀ x : Int, x = (if 12 < d then 2 else 0) → x = stmtErr s d := by
    intro g1 g2 x hx
    rw [stmtErr, if_neg h0', if_neg h1', if_neg g1, if_neg g2, hx]
  have tailb : ¬ ((usesOf s.op).1.a = true ∧ chkE s.a 1 ≠ 0) → ((usesOf s.op).1.b = true ∧ chkE s.b 1 ≠ 0) → chkE s.b 1 = stmtErr s d := by
    intro g1 g2
    rw [stmtErr, if_neg h0', if_neg h1', if_neg g1, if_pos g2]
  refine cnd (fun h2 => ?_) (fun h2 => ?_)
  · simp -dsimp [go_sem, hN]
    refine tcall_pure (c_ast_ValidExpr s.a) ?_
    simp -dsimp [go_sem, hN]
    refine cnd (fun h3 => ?_) (fun h3 => ?_) <;> simp at h3
    · simp -dsimp [go_sem, hN]
      rw [stmtErr, if_neg h0', if_neg h1', if_pos ⟨h2, h3⟩]
    simp -dsimp [go_sem, hN]
    refine cnd (fun h4 => ?_) (fun h4 => ?_)
    · simp -dsimp [go_sem, hN]
      refine tcall_pure (c_ast_ValidExpr s.b) ?_
      simp -dsimp [go_sem, hN]
      refine cnd (fun h5 => ?_) (fun h5 => ?_) <;> simp at h5
      · simp -dsimp [go_sem, hN]
        exact tailb (by grind) ⟨h4, h5⟩
      simp -dsimp [go_sem, hN]
      refine cnd (fun h6 => ?_) (fun h6 => ?_) <;> simp at h6 <;> simp -dsimp [go_sem, hN] <;> refine tail (by grind) (by grind) _ (by rw [eq_comm]; first | exact if_pos h6 | exact if_neg (by omega))
    · simp -dsimp [go_sem, hN]
      refine cnd (fun h6 => ?_) (fun h6 => ?_) <;> simp at h6 <;> simp -dsimp [go_sem, hN] <;> refine tail (by grind) (by grind) _ (by rw [eq_comm]; first | exact if_pos h6 | exact if_neg (by omega))
  · simp -dsimp [go_sem, hN]
    refine cnd (fun h4 => ?_) (fun h4 => ?_)
    · simp -dsimp [go_sem, hN]
      refine tcall_pure (c_ast_ValidExpr s.b) ?_
      simp -dsimp [go_sem, hN]
      refine cnd (fun h5 => ?_) (fun h5 => ?_) <;> simp at h5
      · simp -dsimp [go_sem, hN]
        exact tailb (by grind) ⟨h4, h5⟩
      simp -dsimp [go_sem, hN]
      refine cnd (fun h6 => ?_) (fun h6 => ?_) <;> simp at h6 <;> simp -dsimp [go_sem, hN] <;> refine tail (by grind) (by grind) _ (by rw [eq_comm]; first | exact if_pos h6 | exact if_neg (by omega))
    · simp -dsimp [go_sem, hN]
      refine cnd (fun h6 => ?_) (fun h6 => ?_) <;> simp at h6 <;> simp -dsimp [go_sem, hN] <;> refine tail (by grind) (by grind) _ (by rw [eq_comm]; first | exact if_pos h6 | exact if_neg (by omega))

/-- The test that asks for a name, whose closure holds a parameter's cell. -/
theorem c_ast_params1 (x : Param) (h : AHeap) (i : Nat) (p : Param) (hi : h[i]? = some (.cells p.c)) : ACalls Tryz.prog 208 [.agg x.c, .ptr i 0] h fun r h' => r = .ret (Bo (decide (x.name = p.name))) ∧ h' = h := by
  refine acalls_introB Tryz.func208 rfl (by kernel_rfl) (by simp [Tryz.ntmps208]) ?_
  intro E hN hh hu hb hb' hua
  rw [Tryz.ntmps208] at hN
  refine awp_of_wpC _ _ _ ?_
  have hi' : i < h.length := (List.getElem?_eq_some_iff.1 hi).1
  have a1 : ∀ l, (h ++ l)[i]? = some (.cells p.c) := fun l => by rw [List.getElem?_append_left hi']; exact hi
  simp -dsimp [go_sem, hN, a1, hu]
  exact ⟨_, .refl _, h, by simp [go_sem], by simp [go_sem], by simp, by simp [hu, go_sem], rfl, rfl⟩

theorem c_IndexFunc_Param (l : List Param) (f : FuncId) (caps : List AV) (q : Param → Bool) (h : AHeap) (hcn : normL h caps = caps) (hp : ∀ x : Param, ACalls Tryz.prog f ([.agg x.c] ++ caps) h fun r h' => r = .ret (Bo (q x)) ∧ h' = h) :
    ACalls Tryz.prog 231 [.slice (l.map Param.c), .fn (.func f) [] caps] h fun r h' => r = .ret (I (idxOf q l)) ∧ h' = h := by
  refine acalls_introB Tryz.func231 rfl (by kernel_rfl) (by simp [Tryz.ntmps231]) ?_
  intro E hN hh hu hb hb' hua
  rw [Tryz.ntmps231] at hN
  refine awp_of_wpC _ _ _ ?_
  simp [go_sem] at hb
  simp -dsimp [go_sem, hN]
  refine awp_loopN l.length (fun n => idxFrom q n (l.drop n) = idxOf q l) (fun n => ⟨[(0, .slice (l.map Param.c)), (1, .fn (.func f) [] caps), (7, I l.length), (8, I n)], h⟩) (by simp [idxOf]) (Wk.mk (by simp [hh]) (by simp) (by simp [hu]) (by simp [go_sem]; simpa [go_sem] using hua)) ?_
  intro n hn hI
  have hw := wrapS hn hb.1
  simp -dsimp [go_sem, hN]
  refine cnd (fun hc => ?_) (fun hc => ?_) <;> simp at hc
  · rw [drop_next hc, idxFrom] at hI
    simp -dsimp [go_sem, hN, hc, hcn]
    refine tcall (hp l[n]) ?_
    rintro r h' ⟨rfl, rfl⟩
    simp -dsimp [go_sem, hN]
    refine cnd (fun hg => ?_) (fun hg => ?_) <;> try simp at hg
    · simp -dsimp [go_sem, hN]
      rw [if_pos hg] at hI
      rw [hI]
      exact ⟨_, .refl _, h', by simp [go_sem], by simp [go_sem], by simp, by simp [hu, go_sem], rfl, rfl⟩
    · simp -dsimp [go_sem, hN, hw]
      exact ⟨hc, by simpa [hg] using hI, Wk.mk (by simp [hh]) (by simp) (by simp [hu]) (by simp [go_sem]; simpa [go_sem] using hua)⟩
  · rw [List.drop_eq_nil_of_le (by omega), idxFrom] at hI
    simp -dsimp [go_sem, hN, ← hI]
    exact ⟨_, .refl _, h, by simp [go_sem], by simp [go_sem], by simp, by simp [hu, go_sem], rfl, rfl⟩

theorem c_ContainsFunc_Param (l : List Param) (f : FuncId) (caps : List AV) (q : Param → Bool) (h : AHeap) (hcn : normL h caps = caps) (hp : ∀ x : Param, ACalls Tryz.prog f ([.agg x.c] ++ caps) h fun r h' => r = .ret (Bo (q x)) ∧ h' = h) :
    ACalls Tryz.prog 207 [.slice (l.map Param.c), .fn (.func f) [] caps] h fun r h' => r = .ret (Bo (anyL q l)) ∧ h' = h := by
  refine acalls_introB Tryz.func207 rfl (by kernel_rfl) (by simp [Tryz.ntmps207]) ?_
  intro E hN hh hu hb hb' hua
  rw [Tryz.ntmps207] at hN
  refine awp_of_wpC _ _ _ ?_
  simp -dsimp [go_sem, hN]
  refine tcall (c_IndexFunc_Param l f caps q h hcn hp) ?_
  rintro r h' ⟨rfl, rfl⟩
  simp -dsimp [go_sem, hN, idxOf_nonneg]
  exact ⟨_, .refl _, h', by simp [go_sem], by simp [go_sem], by simp, by simp [hu, go_sem], rfl, rfl⟩

theorem c_ast_params (l : List Param) : APure Tryz.prog 161 [.slice (l.map Param.c)] (I (paramsE l)) := by
  refine apure_introB Tryz.func161 rfl (by kernel_rfl) (by simp [Tryz.ntmps161]) rfl ?_
  intro E h hN hh hu hb
  rw [Tryz.ntmps161] at hN
  refine awp_of_wpC _ _ _ ?_
  unfold paramsE
  simp [go_sem] at hb
  simp -dsimp [go_sem, hN]
  refine cnd (fun h0 => ?_) (fun h0 => ?_) <;> simp at h0
  · simp -dsimp [go_sem, hN]
    omega
  simp -dsimp [go_sem, hN]
  rw [if_neg (by omega)]
  refine awp_loopN l.length (fun n => paramsErr (l.take n) (l.drop n) = paramsErr [] l) (fun n => ⟨[(0, .slice (l.map Param.c)), (8, .slice (l.map Param.c)), (9, I l.length), (10, I n)], h⟩) (by simp) (Wk.mk (by simp [hh]) (by simp [go_sem]) (by simp [hu, hUnder_ext hu, go_sem]) (by simp [go_sem])) ?_
  intro n hn hI
  have hw := wrapS hn hb.1
  simp -dsimp [go_sem, hN]
  refine cnd (fun hc => ?_) (fun hc => ?_) <;> simp at hc
  · rw [drop_next hc, paramsErr] at hI
    simp -dsimp [go_sem, hN, hc]
    refine tcall_pure (c_lexer_IsName _) ?_
    simp -dsimp [go_sem, hN]
    refine cnd (fun h1 => ?_) (fun h1 => ?_) <;> simp at h1
    · simp -dsimp [go_sem, hN]
      simpa [h1] using hI
    simp -dsimp [go_sem, hN]
    refine cnd (fun h2 => ?_) (fun h2 => ?_) <;> simp at h2
    · simp -dsimp [go_sem, hN]
      simpa [h1, h2] using hI
    have h2' : ¬ (l[n].ty < 1 ∨ 3 < l[n].ty) := by omega
    simp -dsimp [go_sem, hN, hn]
    have ecl : (List.map Param.c l).take n = (l.take n).map Param.c := by simp
    rw [ecl]
    refine tcall (c_ContainsFunc_Param (l.take n) _ _ (fun x => decide (x.name = l[n].name)) _ (by simp [normL, AV.norm]) (fun x => c_ast_params1 x _ _ l[n] (by simp [Param.c]))) ?_
    rintro r h' ⟨rfl, rfl⟩
    simp -dsimp [go_sem, hN]
    refine cnd (fun h3 => ?_) (fun h3 => ?_) <;> try simp at h3
    · simp -dsimp [go_sem, hN]
      simpa [h1, h2', h3] using hI
    · simp -dsimp [go_sem, hN, hw]
      refine ⟨hc, ?_, (Wk.mk (by simp [hh]) (by simp [go_sem]) (by simp [hu, hUnder_ext hu, go_sem]) (by simp [go_sem]))⟩
      rw [List.take_succ_eq_append_getElem hc]
      simpa [h1, h2', h3] using hI
  · rw [List.drop_eq_nil_of_le (by omega), paramsErr] at hI
    simp -dsimp [go_sem, hN, ← hI]
end Go.Proofs.YtgcdpfpffalalaaGreatDoor
