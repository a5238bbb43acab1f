/- Part 18 of a proof: Ty, W1, W2, W4, W5 -/
import Derived.Test.YtcmbmfmpelnimaaGreatDoorProg
import Derived.KernelRfl
import Derived.Test.YtcmbmfmpelnimaaGreatDoorQ06
import Derived.Test.YtcmbmfmpelnimaaGreatDoorQ13
import Derived.Test.YtcmbmfmpelnimaaGreatDoorQ17
set_option linter.all false

namespace Go.Proofs.YtcmbmfmpelnimaaGreatDoor
open Go Go.Abs
@[simp] theorem tk1 : tkind Tryz.prog 1 = .func := by kernel_rfl
@[simp] theorem ts1 : tsize Tryz.prog 1 = 1 := by kernel_rfl
@[simp] theorem tz1 : tzero Tryz.prog 1 = [.val .nilFunc] := by kernel_rfl
@[simp] theorem tb1 : tbytes Tryz.prog 1 = 8 := by kernel_rfl
@[simp] theorem tk2 : tkind Tryz.prog 2 = .int .i64 := by kernel_rfl
@[simp] theorem ts2 : tsize Tryz.prog 2 = 1 := by kernel_rfl
@[simp] theorem tz2 : tzero Tryz.prog 2 = [.val (.int .i64 0)] := by kernel_rfl
@[simp] theorem tb2 : tbytes Tryz.prog 2 = 8 := by kernel_rfl
@[simp] theorem tk3 : tkind Tryz.prog 3 = .int .i64 := by kernel_rfl
@[simp] theorem ts3 : tsize Tryz.prog 3 = 1 := by kernel_rfl
@[simp] theorem tz3 : tzero Tryz.prog 3 = [.val (.int .i64 0)] := by kernel_rfl
@[simp] theorem tb3 : tbytes Tryz.prog 3 = 8 := by kernel_rfl
@[simp] theorem tk4 : tkind Tryz.prog 4 = .bool := by kernel_rfl
@[simp] theorem ts4 : tsize Tryz.prog 4 = 1 := by kernel_rfl
@[simp] theorem tz4 : tzero Tryz.prog 4 = [.val (.bool false)] := by kernel_rfl
@[simp] theorem tb4 : tbytes Tryz.prog 4 = 1 := by kernel_rfl
@[simp] theorem tk5 : tkind Tryz.prog 5 = .int .u8 := by kernel_rfl
@[simp] theorem ts5 : tsize Tryz.prog 5 = 1 := by kernel_rfl
@[simp] theorem tz5 : tzero Tryz.prog 5 = [.val (.int .u8 0)] := by kernel_rfl
@[simp] theorem tb5 : tbytes Tryz.prog 5 = 1 := by kernel_rfl
@[simp] theorem tk9 : tkind Tryz.prog 9 = .string := by kernel_rfl
@[simp] theorem ts9 : tsize Tryz.prog 9 = 1 := by kernel_rfl
@[simp] theorem tz9 : tzero Tryz.prog 9 = [.val (.string ⟨#[]⟩)] := by kernel_rfl
@[simp] theorem tb9 : tbytes Tryz.prog 9 = 16 := by kernel_rfl
@[simp] theorem tk20 : tkind Tryz.prog 20 = .iface := by kernel_rfl
@[simp] theorem ts20 : tsize Tryz.prog 20 = 1 := by kernel_rfl
@[simp] theorem tz20 : tzero Tryz.prog 20 = [.val .nilIface] := by kernel_rfl
@[simp] theorem tb20 : tbytes Tryz.prog 20 = 16 := by kernel_rfl
@[simp] theorem tk21 : tkind Tryz.prog 21 = .int .i32 := by kernel_rfl
@[simp] theorem ts21 : tsize Tryz.prog 21 = 1 := by kernel_rfl
@[simp] theorem tz21 : tzero Tryz.prog 21 = [.val (.int .i32 0)] := by kernel_rfl
@[simp] theorem tb21 : tbytes Tryz.prog 21 = 4 := by kernel_rfl
@[simp] theorem tk22 : tkind Tryz.prog 22 = .slice 80 2 := by kernel_rfl
@[simp] theorem ts22 : tsize Tryz.prog 22 = 1 := by kernel_rfl
@[simp] theorem tz22 : tzero Tryz.prog 22 = [.nils] := by kernel_rfl
@[simp] theorem tb22 : tbytes Tryz.prog 22 = 24 := by kernel_rfl
@[simp] theorem tk23 : tkind Tryz.prog 23 = .slice 125 13 := by kernel_rfl
@[simp] theorem ts23 : tsize Tryz.prog 23 = 1 := by kernel_rfl
@[simp] theorem tz23 : tzero Tryz.prog 23 = [.nils] := by kernel_rfl
@[simp] theorem tb23 : tbytes Tryz.prog 23 = 24 := by kernel_rfl
@[simp] theorem tk25 : tkind Tryz.prog 25 = .struct [(0, 1), (1, 1), (2, 1)] := by kernel_rfl
@[simp] theorem ts25 : tsize Tryz.prog 25 = 3 := by kernel_rfl
@[simp] theorem tz25 : tzero Tryz.prog 25 = [.val (.string ⟨#[]⟩), .nils, .nils] := by kernel_rfl
@[simp] theorem tb25 : tbytes Tryz.prog 25 = 64 := by kernel_rfl
@[simp] theorem tk26 : tkind Tryz.prog 26 = .slice 47 3 := by kernel_rfl
@[simp] theorem ts26 : tsize Tryz.prog 26 = 1 := by kernel_rfl
@[simp] theorem tz26 : tzero Tryz.prog 26 = [.nils] := by kernel_rfl
@[simp] theorem tb26 : tbytes Tryz.prog 26 = 24 := by kernel_rfl
@[simp] theorem tk27 : tkind Tryz.prog 27 = .slice 9 1 := by kernel_rfl
@[simp] theorem ts27 : tsize Tryz.prog 27 = 1 := by kernel_rfl
@[simp] theorem tz27 : tzero Tryz.prog 27 = [.nils] := by kernel_rfl
@[simp] theorem tb27 : tbytes Tryz.prog 27 = 24 := by kernel_rfl
@[simp] theorem tk29 : tkind Tryz.prog 29 = .struct [(0, 1), (1, 1), (2, 1)] := by kernel_rfl
@[simp] theorem ts29 : tsize Tryz.prog 29 = 3 := by kernel_rfl
@[simp] theorem tz29 : tzero Tryz.prog 29 = [.val (.bool false), .nils, .nils] := by kernel_rfl
@[simp] theorem tb29 : tbytes Tryz.prog 29 = 56 := by kernel_rfl
@[simp] theorem tk31 : tkind Tryz.prog 31 = .struct [(0, 3), (3, 1), (4, 3)] := by kernel_rfl
@[simp] theorem ts31 : tsize Tryz.prog 31 = 7 := by kernel_rfl
@[simp] theorem tz31 : tzero Tryz.prog 31 = [.val (.string ⟨#[]⟩), .nils, .nils, .nils, .val (.bool false), .nils, .nils] := by kernel_rfl
@[simp] theorem tb31 : tbytes Tryz.prog 31 = 144 := by kernel_rfl
@[simp] theorem tk32 : tkind Tryz.prog 32 = .slice 94 4 := by kernel_rfl
@[simp] theorem ts32 : tsize Tryz.prog 32 = 1 := by kernel_rfl
@[simp] theorem tz32 : tzero Tryz.prog 32 = [.nils] := by kernel_rfl
@[simp] theorem tb32 : tbytes Tryz.prog 32 = 24 := by kernel_rfl
@[simp] theorem tk35 : tkind Tryz.prog 35 = .struct [(0, 1), (1, 1), (2, 1)] := by kernel_rfl
@[simp] theorem ts35 : tsize Tryz.prog 35 = 3 := by kernel_rfl
@[simp] theorem tz35 : tzero Tryz.prog 35 = [.val (.int .i64 0), .val (.int .i64 0), .nils] := by kernel_rfl
@[simp] theorem tb35 : tbytes Tryz.prog 35 = 40 := by kernel_rfl
@[simp] theorem tk37 : tkind Tryz.prog 37 = .struct [(0, 3), (3, 1), (4, 1), (5, 1), (6, 1), (7, 1)] := by kernel_rfl
@[simp] theorem ts37 : tsize Tryz.prog 37 = 8 := by kernel_rfl
@[simp] theorem tz37 : tzero Tryz.prog 37 = [.val (.int .i64 0), .val (.int .i64 0), .nils, .nils, .nils, .nils, .val (.string ⟨#[]⟩), .val (.int .i64 0)] := by kernel_rfl
@[simp] theorem tb37 : tbytes Tryz.prog 37 = 136 := by kernel_rfl
@[simp] theorem tk42 : tkind Tryz.prog 42 = .slice 44 4 := by kernel_rfl
@[simp] theorem ts42 : tsize Tryz.prog 42 = 1 := by kernel_rfl
@[simp] theorem tz42 : tzero Tryz.prog 42 = [.nils] := by kernel_rfl
@[simp] theorem tb42 : tbytes Tryz.prog 42 = 24 := by kernel_rfl
@[simp] theorem tk44 : tkind Tryz.prog 44 = .struct [(0, 1), (1, 1), (2, 1), (3, 1)] := by kernel_rfl
@[simp] theorem ts44 : tsize Tryz.prog 44 = 4 := by kernel_rfl
@[simp] theorem tz44 : tzero Tryz.prog 44 = [.val (.int .i64 0), .val (.int .i64 0), .val (.string ⟨#[]⟩), .nils] := by kernel_rfl
@[simp] theorem tb44 : tbytes Tryz.prog 44 = 56 := by kernel_rfl
@[simp] theorem tk45 : tkind Tryz.prog 45 = .array 2 32 1 := by kernel_rfl
@[simp] theorem ts45 : tsize Tryz.prog 45 = 2 := by kernel_rfl
@[simp] theorem tz45 : tzero Tryz.prog 45 = [.nils, .nils] := by kernel_rfl
@[simp] theorem tb45 : tbytes Tryz.prog 45 = 48 := by kernel_rfl
@[simp] theorem tk47 : tkind Tryz.prog 47 = .struct [(0, 1), (1, 1), (2, 1)] := by kernel_rfl
@[simp] theorem ts47 : tsize Tryz.prog 47 = 3 := by kernel_rfl
@[simp] theorem tz47 : tzero Tryz.prog 47 = [.val (.int .i64 0), .val (.int .i64 0), .val (.string ⟨#[]⟩)] := by kernel_rfl
@[simp] theorem fl47 : flatOf Tryz.prog 47 = [.int .i64, .int .i64, .string] := by kernel_rfl
@[simp] theorem tb47 : tbytes Tryz.prog 47 = 32 := by kernel_rfl
@[simp] theorem tk51 : tkind Tryz.prog 51 = .slice 25 3 := by kernel_rfl
@[simp] theorem ts51 : tsize Tryz.prog 51 = 1 := by kernel_rfl
@[simp] theorem tz51 : tzero Tryz.prog 51 = [.nils] := by kernel_rfl
@[simp] theorem tb51 : tbytes Tryz.prog 51 = 24 := by kernel_rfl
@[simp] theorem tk52 : tkind Tryz.prog 52 = .slice 69 7 := by kernel_rfl
@[simp] theorem ts52 : tsize Tryz.prog 52 = 1 := by kernel_rfl
@[simp] theorem tz52 : tzero Tryz.prog 52 = [.nils] := by kernel_rfl
@[simp] theorem tb52 : tbytes Tryz.prog 52 = 24 := by kernel_rfl
@[simp] theorem tk54 : tkind Tryz.prog 54 = .struct [(0, 1), (1, 1), (2, 1)] := by kernel_rfl
@[simp] theorem ts54 : tsize Tryz.prog 54 = 3 := by kernel_rfl
@[simp] theorem tz54 : tzero Tryz.prog 54 = [.nils, .nils, .nils] := by kernel_rfl
@[simp] theorem tb54 : tbytes Tryz.prog 54 = 72 := by kernel_rfl
@[simp] theorem tk55 : tkind Tryz.prog 55 = .slice 37 8 := by kernel_rfl
@[simp] theorem ts55 : tsize Tryz.prog 55 = 1 := by kernel_rfl
@[simp] theorem tz55 : tzero Tryz.prog 55 = [.nils] := by kernel_rfl
@[simp] theorem tb55 : tbytes Tryz.prog 55 = 24 := by kernel_rfl
@[simp] theorem tk56 : tkind Tryz.prog 56 = .slice 4 1 := by kernel_rfl
@[simp] theorem ts56 : tsize Tryz.prog 56 = 1 := by kernel_rfl
@[simp] theorem tz56 : tzero Tryz.prog 56 = [.nils] := by kernel_rfl
@[simp] theorem tb56 : tbytes Tryz.prog 56 = 24 := by kernel_rfl
@[simp] theorem tk69 : tkind Tryz.prog 69 = .struct [(0, 1), (1, 1), (2, 1), (3, 3), (6, 1)] := by kernel_rfl
@[simp] theorem ts69 : tsize Tryz.prog 69 = 7 := by kernel_rfl
@[simp] theorem tz69 : tzero Tryz.prog 69 = [.val (.int .i64 0), .val (.string ⟨#[]⟩), .nils, .val (.bool false), .nils, .nils, .val (.int .i64 0)] := by kernel_rfl
@[simp] theorem tb69 : tbytes Tryz.prog 69 = 112 := by kernel_rfl
@[simp] theorem tk71 : tkind Tryz.prog 71 = .int .i64 := by kernel_rfl
@[simp] theorem ts71 : tsize Tryz.prog 71 = 1 := by kernel_rfl
@[simp] theorem tz71 : tzero Tryz.prog 71 = [.val (.int .i64 0)] := by kernel_rfl
@[simp] theorem tb71 : tbytes Tryz.prog 71 = 8 := by kernel_rfl
@[simp] theorem tk77 : tkind Tryz.prog 77 = .ptr := by kernel_rfl
@[simp] theorem ts77 : tsize Tryz.prog 77 = 1 := by kernel_rfl
@[simp] theorem tz77 : tzero Tryz.prog 77 = [.val (.pointer none)] := by kernel_rfl
@[simp] theorem tb77 : tbytes Tryz.prog 77 = 8 := by kernel_rfl
@[simp] theorem tk80 : tkind Tryz.prog 80 = .struct [(0, 1), (1, 1)] := by kernel_rfl
@[simp] theorem ts80 : tsize Tryz.prog 80 = 2 := by kernel_rfl
@[simp] theorem tz80 : tzero Tryz.prog 80 = [.val (.string ⟨#[]⟩), .val (.int .i64 0)] := by kernel_rfl
@[simp] theorem fl80 : flatOf Tryz.prog 80 = [.string, .int .i64] := by kernel_rfl
@[simp] theorem tb80 : tbytes Tryz.prog 80 = 24 := by kernel_rfl
@[simp] theorem tk81 : tkind Tryz.prog 81 = .map 9 47 := by kernel_rfl
@[simp] theorem ts81 : tsize Tryz.prog 81 = 1 := by kernel_rfl
@[simp] theorem tz81 : tzero Tryz.prog 81 = [.val (.map none)] := by kernel_rfl
@[simp] theorem tb81 : tbytes Tryz.prog 81 = 8 := by kernel_rfl
@[simp] theorem tk83 : tkind Tryz.prog 83 = .struct [(0, 1), (1, 3), (4, 1), (5, 1), (6, 8)] := by kernel_rfl
@[simp] theorem ts83 : tsize Tryz.prog 83 = 14 := by kernel_rfl
@[simp] theorem tz83 : tzero Tryz.prog 83 = [.nils, .val (.bool false), .nils, .nils, .val (.map none), .val (.map none), .val (.int .i64 0), .val (.int .i64 0), .nils, .nils, .nils, .nils, .val (.string ⟨#[]⟩), .val (.int .i64 0)] := by kernel_rfl
@[simp] theorem tb83 : tbytes Tryz.prog 83 = 232 := by kernel_rfl
@[simp] theorem tk86 : tkind Tryz.prog 86 = .struct [(0, 3), (3, 1)] := by kernel_rfl
@[simp] theorem ts86 : tsize Tryz.prog 86 = 4 := by kernel_rfl
@[simp] theorem tz86 : tzero Tryz.prog 86 = [.val (.int .i64 0), .val (.int .i64 0), .nils, .val (.string ⟨#[]⟩)] := by kernel_rfl
@[simp] theorem tb86 : tbytes Tryz.prog 86 = 56 := by kernel_rfl
@[simp] theorem tk91 : tkind Tryz.prog 91 = .struct [(0, 1), (1, 3), (4, 1), (5, 1), (6, 8)] := by kernel_rfl
@[simp] theorem ts91 : tsize Tryz.prog 91 = 14 := by kernel_rfl
@[simp] theorem tz91 : tzero Tryz.prog 91 = [.nils, .val (.bool false), .nils, .nils, .nils, .nils, .val (.int .i64 0), .val (.int .i64 0), .nils, .nils, .nils, .nils, .val (.string ⟨#[]⟩), .val (.int .i64 0)] := by kernel_rfl
@[simp] theorem tb91 : tbytes Tryz.prog 91 = 264 := by kernel_rfl
@[simp] theorem tk94 : tkind Tryz.prog 94 = .struct [(0, 1), (1, 3)] := by kernel_rfl
@[simp] theorem ts94 : tsize Tryz.prog 94 = 4 := by kernel_rfl
@[simp] theorem tz94 : tzero Tryz.prog 94 = [.val (.string ⟨#[]⟩), .val (.int .i64 0), .val (.int .i64 0), .val (.string ⟨#[]⟩)] := by kernel_rfl
@[simp] theorem fl94 : flatOf Tryz.prog 94 = [.string, .int .i64, .int .i64, .string] := by kernel_rfl
@[simp] theorem tb94 : tbytes Tryz.prog 94 = 48 := by kernel_rfl
@[simp] theorem tk111 : tkind Tryz.prog 111 = .func := by kernel_rfl
@[simp] theorem ts111 : tsize Tryz.prog 111 = 1 := by kernel_rfl
@[simp] theorem tz111 : tzero Tryz.prog 111 = [.val .nilFunc] := by kernel_rfl
@[simp] theorem tb111 : tbytes Tryz.prog 111 = 8 := by kernel_rfl
@[simp] theorem tk113 : tkind Tryz.prog 113 = .struct [(0, 1)] := by kernel_rfl
@[simp] theorem ts113 : tsize Tryz.prog 113 = 1 := by kernel_rfl
@[simp] theorem tz113 : tzero Tryz.prog 113 = [.val .nilFunc] := by kernel_rfl
@[simp] theorem tb113 : tbytes Tryz.prog 113 = 8 := by kernel_rfl
@[simp] theorem tk118 : tkind Tryz.prog 118 = .array 4 3 1 := by kernel_rfl
@[simp] theorem ts118 : tsize Tryz.prog 118 = 4 := by kernel_rfl
@[simp] theorem tz118 : tzero Tryz.prog 118 = [.val (.int .i64 0), .val (.int .i64 0), .val (.int .i64 0), .val (.int .i64 0)] := by kernel_rfl
@[simp] theorem tb118 : tbytes Tryz.prog 118 = 32 := by kernel_rfl
@[simp] theorem tk122 : tkind Tryz.prog 122 = .func := by kernel_rfl
@[simp] theorem ts122 : tsize Tryz.prog 122 = 1 := by kernel_rfl
@[simp] theorem tz122 : tzero Tryz.prog 122 = [.val .nilFunc] := by kernel_rfl
@[simp] theorem tb122 : tbytes Tryz.prog 122 = 8 := by kernel_rfl
@[simp] theorem tk125 : tkind Tryz.prog 125 = .struct [(0, 1), (1, 1), (2, 1), (3, 4), (7, 4), (11, 1), (12, 1)] := by kernel_rfl
@[simp] theorem ts125 : tsize Tryz.prog 125 = 13 := by kernel_rfl
@[simp] theorem tz125 : tzero Tryz.prog 125 = [.val (.int .i64 0), .val (.string ⟨#[]⟩), .val (.int .i64 0), .val (.int .i64 0), .val (.int .i64 0), .val (.string ⟨#[]⟩), .nils, .val (.int .i64 0), .val (.int .i64 0), .val (.string ⟨#[]⟩), .nils, .nils, .nils] := by kernel_rfl
@[simp] theorem tb125 : tbytes Tryz.prog 125 = 192 := by kernel_rfl
@[simp] theorem tk128 : tkind Tryz.prog 128 = .struct [(0, 1), (1, 1), (2, 1), (3, 1)] := by kernel_rfl
@[simp] theorem ts128 : tsize Tryz.prog 128 = 4 := by kernel_rfl
@[simp] theorem tz128 : tzero Tryz.prog 128 = [.val (.int .i64 0), .val (.int .i64 0), .val (.int .i64 0), .val (.int .i64 0)] := by kernel_rfl
@[simp] theorem fl128 : flatOf Tryz.prog 128 = [.int .i64, .int .i64, .int .i64, .int .i64] := by kernel_rfl
@[simp] theorem tb128 : tbytes Tryz.prog 128 = 32 := by kernel_rfl
@[simp] theorem tk146 : tkind Tryz.prog 146 = .func := by kernel_rfl
@[simp] theorem ts146 : tsize Tryz.prog 146 = 1 := by kernel_rfl
@[simp] theorem tz146 : tzero Tryz.prog 146 = [.val .nilFunc] := by kernel_rfl
@[simp] theorem tb146 : tbytes Tryz.prog 146 = 8 := by kernel_rfl
@[simp] theorem tk148 : tkind Tryz.prog 148 = .func := by kernel_rfl
@[simp] theorem ts148 : tsize Tryz.prog 148 = 1 := by kernel_rfl
@[simp] theorem tz148 : tzero Tryz.prog 148 = [.val .nilFunc] := by kernel_rfl
@[simp] theorem tb148 : tbytes Tryz.prog 148 = 8 := by kernel_rfl
@[simp] theorem tk149 : tkind Tryz.prog 149 = .func := by kernel_rfl
@[simp] theorem ts149 : tsize Tryz.prog 149 = 1 := by kernel_rfl
@[simp] theorem tz149 : tzero Tryz.prog 149 = [.val .nilFunc] := by kernel_rfl
@[simp] theorem tb149 : tbytes Tryz.prog 149 = 8 := by kernel_rfl
@[simp] theorem tk157 : tkind Tryz.prog 157 = .map 9 3 := by kernel_rfl
@[simp] theorem ts157 : tsize Tryz.prog 157 = 1 := by kernel_rfl
@[simp] theorem tz157 : tzero Tryz.prog 157 = [.val (.map none)] := by kernel_rfl
@[simp] theorem tb157 : tbytes Tryz.prog 157 = 8 := by kernel_rfl
@[simp] theorem tk165 : tkind Tryz.prog 165 = .struct [(0, 1), (1, 1)] := by kernel_rfl
@[simp] theorem ts165 : tsize Tryz.prog 165 = 2 := by kernel_rfl
@[simp] theorem tz165 : tzero Tryz.prog 165 = [.nils, .nils] := by kernel_rfl
@[simp] theorem tb165 : tbytes Tryz.prog 165 = 48 := by kernel_rfl
@[simp] theorem tk183 : tkind Tryz.prog 183 = .func := by kernel_rfl
@[simp] theorem ts183 : tsize Tryz.prog 183 = 1 := by kernel_rfl
@[simp] theorem tz183 : tzero Tryz.prog 183 = [.val .nilFunc] := by kernel_rfl
@[simp] theorem tb183 : tbytes Tryz.prog 183 = 8 := by kernel_rfl
@[simp] theorem tk185 : tkind Tryz.prog 185 = .int .u64 := by kernel_rfl
@[simp] theorem ts185 : tsize Tryz.prog 185 = 1 := by kernel_rfl
@[simp] theorem tz185 : tzero Tryz.prog 185 = [.val (.int .u64 0)] := by kernel_rfl
@[simp] theorem tb185 : tbytes Tryz.prog 185 = 8 := by kernel_rfl
@[simp] theorem tk194 : tkind Tryz.prog 194 = .ptr := by kernel_rfl
@[simp] theorem ts194 : tsize Tryz.prog 194 = 1 := by kernel_rfl
@[simp] theorem tz194 : tzero Tryz.prog 194 = [.val (.pointer none)] := by kernel_rfl
@[simp] theorem tb194 : tbytes Tryz.prog 194 = 8 := by kernel_rfl
@[simp] theorem tk195 : tkind Tryz.prog 195 = .map 9 4 := by kernel_rfl
@[simp] theorem ts195 : tsize Tryz.prog 195 = 1 := by kernel_rfl
@[simp] theorem tz195 : tzero Tryz.prog 195 = [.val (.map none)] := by kernel_rfl
@[simp] theorem tb195 : tbytes Tryz.prog 195 = 8 := by kernel_rfl
@[simp] theorem tk197 : tkind Tryz.prog 197 = .struct [(0, 1), (1, 1), (2, 1)] := by kernel_rfl
@[simp] theorem ts197 : tsize Tryz.prog 197 = 3 := by kernel_rfl
@[simp] theorem tz197 : tzero Tryz.prog 197 = [.val (.map none), .val (.map none), .val (.map none)] := by kernel_rfl
@[simp] theorem tb197 : tbytes Tryz.prog 197 = 24 := by kernel_rfl
@[simp] theorem tk200 : tkind Tryz.prog 200 = .func := by kernel_rfl
@[simp] theorem ts200 : tsize Tryz.prog 200 = 1 := by kernel_rfl
@[simp] theorem tz200 : tzero Tryz.prog 200 = [.val .nilFunc] := by kernel_rfl
@[simp] theorem tb200 : tbytes Tryz.prog 200 = 8 := by kernel_rfl
@[simp] theorem tk204 : tkind Tryz.prog 204 = .int .u64 := by kernel_rfl
@[simp] theorem ts204 : tsize Tryz.prog 204 = 1 := by kernel_rfl
@[simp] theorem tz204 : tzero Tryz.prog 204 = [.val (.int .u64 0)] := by kernel_rfl
@[simp] theorem tb204 : tbytes Tryz.prog 204 = 8 := by kernel_rfl
@[simp] theorem tk205 : tkind Tryz.prog 205 = .slice 3 1 := by kernel_rfl
@[simp] theorem ts205 : tsize Tryz.prog 205 = 1 := by kernel_rfl
@[simp] theorem tz205 : tzero Tryz.prog 205 = [.nils] := by kernel_rfl
@[simp] theorem tb205 : tbytes Tryz.prog 205 = 24 := by kernel_rfl
@[simp] theorem tk211 : tkind Tryz.prog 211 = .slice 214 20 := by kernel_rfl
@[simp] theorem ts211 : tsize Tryz.prog 211 = 1 := by kernel_rfl
@[simp] theorem tz211 : tzero Tryz.prog 211 = [.nils] := by kernel_rfl
@[simp] theorem tb211 : tbytes Tryz.prog 211 = 24 := by kernel_rfl
@[simp] theorem tk214 : tkind Tryz.prog 214 = .struct [(0, 1), (1, 13), (14, 1), (15, 4), (19, 1)] := by kernel_rfl
@[simp] theorem ts214 : tsize Tryz.prog 214 = 20 := by kernel_rfl
@[simp] theorem tz214 : tzero Tryz.prog 214 = [.val (.bool false), .val (.int .i64 0), .val (.string ⟨#[]⟩), .val (.int .i64 0), .val (.int .i64 0), .val (.int .i64 0), .val (.string ⟨#[]⟩), .nils, .val (.int .i64 0), .val (.int .i64 0), .val (.string ⟨#[]⟩), .nils, .nils, .nils, .val (.int .i64 0), .val (.int .i64 0), .val (.int .i64 0), .val (.string ⟨#[]⟩), .nils, .val (.bool false)] := by kernel_rfl
@[simp] theorem tb214 : tbytes Tryz.prog 214 = 272 := by kernel_rfl
@[simp] theorem tk230 : tkind Tryz.prog 230 = .func := by kernel_rfl
@[simp] theorem ts230 : tsize Tryz.prog 230 = 1 := by kernel_rfl
@[simp] theorem tz230 : tzero Tryz.prog 230 = [.val .nilFunc] := by kernel_rfl
@[simp] theorem tb230 : tbytes Tryz.prog 230 = 8 := by kernel_rfl
@[simp] theorem tk231 : tkind Tryz.prog 231 = .func := by kernel_rfl
@[simp] theorem ts231 : tsize Tryz.prog 231 = 1 := by kernel_rfl
@[simp] theorem tz231 : tzero Tryz.prog 231 = [.val .nilFunc] := by kernel_rfl
@[simp] theorem tb231 : tbytes Tryz.prog 231 = 8 := by kernel_rfl
@[simp] theorem tk233 : tkind Tryz.prog 233 = .func := by kernel_rfl
@[simp] theorem ts233 : tsize Tryz.prog 233 = 1 := by kernel_rfl
@[simp] theorem tz233 : tzero Tryz.prog 233 = [.val .nilFunc] := by kernel_rfl
@[simp] theorem tb233 : tbytes Tryz.prog 233 = 8 := by kernel_rfl
@[simp] theorem tk249 : tkind Tryz.prog 249 = .struct [(0, 3), (3, 3)] := by kernel_rfl
@[simp] theorem ts249 : tsize Tryz.prog 249 = 6 := by kernel_rfl
@[simp] theorem tz249 : tzero Tryz.prog 249 = [.val (.int .i64 0), .val (.int .i64 0), .val (.string ⟨#[]⟩), .val (.int .i64 0), .val (.int .i64 0), .val (.string ⟨#[]⟩)] := by kernel_rfl
@[simp] theorem fl249 : flatOf Tryz.prog 249 = [.int .i64, .int .i64, .string, .int .i64, .int .i64, .string] := by kernel_rfl
@[simp] theorem tb249 : tbytes Tryz.prog 249 = 64 := by kernel_rfl
@[simp] theorem tk252 : tkind Tryz.prog 252 = .slice 5 1 := by kernel_rfl
@[simp] theorem ts252 : tsize Tryz.prog 252 = 1 := by kernel_rfl
@[simp] theorem tz252 : tzero Tryz.prog 252 = [.nils] := by kernel_rfl
@[simp] theorem tb252 : tbytes Tryz.prog 252 = 24 := by kernel_rfl
@[simp] theorem tk254 : tkind Tryz.prog 254 = .func := by kernel_rfl
@[simp] theorem ts254 : tsize Tryz.prog 254 = 1 := by kernel_rfl
@[simp] theorem tz254 : tzero Tryz.prog 254 = [.val .nilFunc] := by kernel_rfl
@[simp] theorem tb254 : tbytes Tryz.prog 254 = 8 := by kernel_rfl
@[simp] theorem tk255 : tkind Tryz.prog 255 = .ptr := by kernel_rfl
@[simp] theorem ts255 : tsize Tryz.prog 255 = 1 := by kernel_rfl
@[simp] theorem tz255 : tzero Tryz.prog 255 = [.val (.pointer none)] := by kernel_rfl
@[simp] theorem tb255 : tbytes Tryz.prog 255 = 8 := by kernel_rfl
@[simp] theorem tk257 : tkind Tryz.prog 257 = .struct [(0, 1), (1, 1), (2, 1)] := by kernel_rfl
@[simp] theorem ts257 : tsize Tryz.prog 257 = 3 := by kernel_rfl
@[simp] theorem tz257 : tzero Tryz.prog 257 = [.val (.int .i64 0), .val .nilFunc, .val .nilFunc] := by kernel_rfl
@[simp] theorem tb257 : tbytes Tryz.prog 257 = 24 := by kernel_rfl
@[simp] theorem tk260 : tkind Tryz.prog 260 = .struct [(0, 1), (1, 1), (2, 1), (3, 1), (4, 1), (5, 1)] := by kernel_rfl
@[simp] theorem ts260 : tsize Tryz.prog 260 = 6 := by kernel_rfl
@[simp] theorem tz260 : tzero Tryz.prog 260 = [.val (.bool false), .val (.bool false), .val (.bool false), .val (.bool false), .val (.bool false), .val (.bool false)] := by kernel_rfl
@[simp] theorem fl260 : flatOf Tryz.prog 260 = [.bool, .bool, .bool, .bool, .bool, .bool] := by kernel_rfl
@[simp] theorem tb260 : tbytes Tryz.prog 260 = 6 := by kernel_rfl
@[simp] theorem tk268 : tkind Tryz.prog 268 = .array 24 5 1 := by kernel_rfl
@[simp] theorem ts268 : tsize Tryz.prog 268 = 24 := by kernel_rfl
@[simp] theorem tz268 : tzero Tryz.prog 268 = [.val (.int .u8 0), .val (.int .u8 0), .val (.int .u8 0), .val (.int .u8 0), .val (.int .u8 0), .val (.int .u8 0), .val (.int .u8 0), .val (.int .u8 0), .val (.int .u8 0), .val (.int .u8 0), .val (.int .u8 0), .val (.int .u8 0), .val (.int .u8 0), .val (.int .u8 0), .val (.int .u8 0), .val (.int .u8 0), .val (.int .u8 0), .val (.int .u8 0), .val (.int .u8 0), .val (.int .u8 0), .val (.int .u8 0), .val (.int .u8 0), .val (.int .u8 0), .val (.int .u8 0)] := by kernel_rfl
@[simp] theorem tb268 : tbytes Tryz.prog 268 = 24 := by kernel_rfl
@[simp] theorem tk280 : tkind Tryz.prog 280 = .array 20 204 1 := by kernel_rfl
@[simp] theorem ts280 : tsize Tryz.prog 280 = 20 := by kernel_rfl
@[simp] theorem tz280 : tzero Tryz.prog 280 = [.val (.int .u64 0), .val (.int .u64 0), .val (.int .u64 0), .val (.int .u64 0), .val (.int .u64 0), .val (.int .u64 0), .val (.int .u64 0), .val (.int .u64 0), .val (.int .u64 0), .val (.int .u64 0), .val (.int .u64 0), .val (.int .u64 0), .val (.int .u64 0), .val (.int .u64 0), .val (.int .u64 0), .val (.int .u64 0), .val (.int .u64 0), .val (.int .u64 0), .val (.int .u64 0), .val (.int .u64 0)] := by kernel_rfl
@[simp] theorem tb280 : tbytes Tryz.prog 280 = 160 := by kernel_rfl
@[simp] theorem tk281 : tkind Tryz.prog 281 = .int .u32 := by kernel_rfl
@[simp] theorem ts281 : tsize Tryz.prog 281 = 1 := by kernel_rfl
@[simp] theorem tz281 : tzero Tryz.prog 281 = [.val (.int .u32 0)] := by kernel_rfl
@[simp] theorem tb281 : tbytes Tryz.prog 281 = 4 := by kernel_rfl
@[simp] theorem tk287 : tkind Tryz.prog 287 = .array 32 5 1 := by kernel_rfl
@[simp] theorem ts287 : tsize Tryz.prog 287 = 32 := by kernel_rfl
@[simp] theorem tz287 : tzero Tryz.prog 287 = [.val (.int .u8 0), .val (.int .u8 0), .val (.int .u8 0), .val (.int .u8 0), .val (.int .u8 0), .val (.int .u8 0), .val (.int .u8 0), .val (.int .u8 0), .val (.int .u8 0), .val (.int .u8 0), .val (.int .u8 0), .val (.int .u8 0), .val (.int .u8 0), .val (.int .u8 0), .val (.int .u8 0), .val (.int .u8 0), .val (.int .u8 0), .val (.int .u8 0), .val (.int .u8 0), .val (.int .u8 0), .val (.int .u8 0), .val (.int .u8 0), .val (.int .u8 0), .val (.int .u8 0), .val (.int .u8 0), .val (.int .u8 0), .val (.int .u8 0), .val (.int .u8 0), .val (.int .u8 0), .val (.int .u8 0), .val (.int .u8 0), .val (.int .u8 0)] := by kernel_rfl
@[simp] theorem tb287 : tbytes Tryz.prog 287 = 32 := by kernel_rfl
@[simp] theorem tk288 : tkind Tryz.prog 288 = .array 64 5 1 := by kernel_rfl
@[simp] theorem ts288 : tsize Tryz.prog 288 = 64 := by kernel_rfl
@[simp] theorem tz288 : tzero Tryz.prog 288 = [.val (.int .u8 0), .val (.int .u8 0), .val (.int .u8 0), .val (.int .u8 0), .val (.int .u8 0), .val (.int .u8 0), .val (.int .u8 0), .val (.int .u8 0), .val (.int .u8 0), .val (.int .u8 0), .val (.int .u8 0), .val (.int .u8 0), .val (.int .u8 0), .val (.int .u8 0), .val (.int .u8 0), .val (.int .u8 0), .val (.int .u8 0), .val (.int .u8 0), .val (.int .u8 0), .val (.int .u8 0), .val (.int .u8 0), .val (.int .u8 0), .val (.int .u8 0), .val (.int .u8 0), .val (.int .u8 0), .val (.int .u8 0), .val (.int .u8 0), .val (.int .u8 0), .val (.int .u8 0), .val (.int .u8 0), .val (.int .u8 0), .val (.int .u8 0), .val (.int .u8 0), .val (.int .u8 0), .val (.int .u8 0), .val (.int .u8 0), .val (.int .u8 0), .val (.int .u8 0), .val (.int .u8 0), .val (.int .u8 0), .val (.int .u8 0), .val (.int .u8 0), .val (.int .u8 0), .val (.int .u8 0), .val (.int .u8 0), .val (.int .u8 0), .val (.int .u8 0), .val (.int .u8 0), .val (.int .u8 0), .val (.int .u8 0), .val (.int .u8 0), .val (.int .u8 0), .val (.int .u8 0), .val (.int .u8 0), .val (.int .u8 0), .val (.int .u8 0), .val (.int .u8 0), .val (.int .u8 0), .val (.int .u8 0), .val (.int .u8 0), .val (.int .u8 0), .val (.int .u8 0), .val (.int .u8 0), .val (.int .u8 0)] := by kernel_rfl
@[simp] theorem tb288 : tbytes Tryz.prog 288 = 64 := by kernel_rfl
end Go.Proofs.YtcmbmfmpelnimaaGreatDoor

namespace Go.Proofs.YtcmbmfmpelnimaaGreatDoor
open Go Go.Abs Go.Cw
theorem mixed : Tryz.prog.follows .mixedOrders = true := by kernel_rfl
theorem c_value_plain (s : Bytes) : APure Tryz.prog 137 [S s] (Bo (plainS s)) := by
  refine apure_introB Tryz.func137 rfl (by kernel_rfl) (by simp [Tryz.ntmps137]) rfl ?_
  intro E h hN hh hu hb
  rw [Tryz.ntmps137] at hN
  refine awp_of_wpC _ _ _ ?_
  simp [go_sem] at hb
  simp -dsimp [go_sem, hN]
  refine awp_loopN s.size (fun n => allL okB ((bl s).drop n) = allL okB (bl s)) (fun n => ⟨[(0, S s), (3, I n)], h⟩) (by simp) (Wk.mk (by simp [hh]) (by simp [go_sem]) (by simp [hu, hUnder_ext hu, go_sem]) (by simp [go_sem])) ?_
  intro n hn hI
  have hw := wrapS hn hb
  simp -dsimp [go_sem, hN]
  refine cnd (fun hc => ?_) (fun hc => ?_) <;> try simp at hc
  · rw [bdrop hc, allL] at hI
    simp -dsimp [go_sem, hN, hc]
    refine cnd (fun hg => ?_) (fun hg => ?_)
    · simp -dsimp [go_sem, hN]
      simp [plainS, ← hI, okB, hg]
    · simp -dsimp [go_sem, hN, hw]
      exact ⟨hc, by simpa [okB, hg] using hI, (Wk.mk (by simp [hh]) (by simp [go_sem]) (by simp [hu, hUnder_ext hu, go_sem]) (by simp [go_sem]))⟩
  · rw [bend (by omega), allL] at hI
    simp -dsimp [go_sem, hN, plainS, ← hI]
theorem c_value_Valid (k n : Int) (s : Bytes) : APure Tryz.prog 90 [.agg [I k, I n, S s]] (Bo (valOk k n s)) := by
  refine apure_introB Tryz.func90 rfl (by kernel_rfl) (by simp [Tryz.ntmps90]) rfl ?_
  intro E h hN hh hu hb
  rw [Tryz.ntmps90] at hN
  refine awp_of_wpC _ _ _ ?_
  simp -dsimp [go_sem, hN]
  refine cnd (fun h0 => ?_) (fun h0 => ?_) <;> try simp at h0
  all_goals simp -dsimp [go_sem, hN, valOk, h0]
  refine cnd (fun h1 => ?_) (fun h1 => ?_) <;> try simp at h1
  all_goals simp -dsimp [go_sem, hN, valOk, h0, h1]
  refine cnd (fun h2 => ?_) (fun h2 => ?_) <;> try simp at h2
  all_goals simp -dsimp [go_sem, hN, valOk, h0, h1, h2]
  refine tgcall_pure (c_value_plain s) (by simp) ?_
  simp -dsimp [go_sem, hN, valOk, h0, h1, h2]
theorem c_keys_Valid1 (b : UInt8) : APure Tryz.prog 166 [U8 b.toNat] (Bo (keyB b)) := by
  refine apure_introB Tryz.func166 rfl (by kernel_rfl) (by simp [Tryz.ntmps166]) rfl ?_
  intro E h hN hh hu hb
  rw [Tryz.ntmps166] at hN
  refine awp_of_wpC _ _ _ ?_
  simp -dsimp [go_sem, hN, keyB]
  omega
theorem c_keys_consists (s : Bytes) (f : FuncId) (p : UInt8 → Bool) (hp : ∀ b : UInt8, APure Tryz.prog f [U8 b.toNat] (Bo (p b))) : APure Tryz.prog 165 [S s, .fn (.func f) [] []] (Bo (decide ((s.size : Int) ≤ 24) && allL p (bl s))) := by
  refine apure_introB Tryz.func165 rfl (by kernel_rfl) (by simp [Tryz.ntmps165]) rfl ?_
  intro E h hN hh hu hb
  rw [Tryz.ntmps165] at hN
  refine awp_of_wpC _ _ _ ?_
  simp [go_sem] at hb
  simp -dsimp [go_sem, hN]
  refine cnd (fun h0 => ?_) (fun h0 => ?_) <;> try simp at h0
  all_goals simp -dsimp [go_sem, hN, h0]
  · simp [Int.not_le.2 h0]
  refine awp_loopN s.size (fun n => allL p ((bl s).drop n) = allL p (bl s)) (fun n => ⟨[(0, S s), (1, .fn (.func f) [] []), (10, I s.size), (11, I n)], h⟩) (by simp) (Wk.mk (by simp [hh]) (by simp [go_sem]) (by simp [hu, hUnder_ext hu, go_sem]) (by simp [go_sem])) ?_
  intro n hn hI
  have hw := wrapS hn hb
  simp -dsimp [go_sem, hN]
  refine cnd (fun hc => ?_) (fun hc => ?_) <;> try simp at hc
  · rw [bdrop hc, allL] at hI
    simp -dsimp [go_sem, hN, hc]
    refine tcall_pure (hp _) ?_
    simp -dsimp [go_sem, hN]
    refine cnd (fun hg => ?_) (fun hg => ?_) <;> try simp at hg
    · simp -dsimp [go_sem, hN]
      simp [h0, ← hI, hg]
    · simp -dsimp [go_sem, hN, hw]
      exact ⟨hc, by simpa [hg] using hI, (Wk.mk (by simp [hh]) (by simp [go_sem]) (by simp [hu, hUnder_ext hu, go_sem]) (by simp [go_sem]))⟩
  · rw [bend (by omega), allL] at hI
    simp -dsimp [go_sem, hN, h0, ← hI]
theorem c_keys_Valid (s : Bytes) : APure Tryz.prog 118 [S s] (Bo (keyOk s)) := by
  refine apure_introB Tryz.func118 rfl (by kernel_rfl) (by simp [Tryz.ntmps118]) rfl ?_
  intro E h hN hh hu hb
  rw [Tryz.ntmps118] at hN
  refine awp_of_wpC _ _ _ ?_
  simp -dsimp [go_sem, hN]
  refine tgcall_pure (c_keys_consists s _ keyB c_keys_Valid1) (by simp) ?_
  simp -dsimp [go_sem, hN, keyOk, Bool.and_assoc]
theorem c_interp_ascending (l : List Bytes) : APure Tryz.prog 77 [.slice (l.map sRow)] (Bo (ascK none l && decide ((l.length : Int) ≤ 64))) := by
  refine apure_introB Tryz.func77 rfl (by kernel_rfl) (by simp [Tryz.ntmps77]) rfl ?_
  intro E h hN hh hu hb
  rw [Tryz.ntmps77] at hN
  refine awp_of_wpC _ _ _ ?_
  simp [go_sem] at hb
  simp -dsimp [go_sem, hN]
  refine awp_loopN l.length (fun n => ascK (prevOf l n) (l.drop n) = ascK none l) (fun n => ⟨[(0, .slice (l.map sRow)), (5, .slice (l.map sRow)), (6, I l.length), (7, I n)], h⟩) (by simp [prevOf]) (Wk.mk (by simp [hh]) (by simp [go_sem]) (by simp [hu, hUnder_ext hu, go_sem]) (by simp [go_sem])) ?_
  intro n hn hI
  have hw := wrapS hn hb.1
  simp -dsimp [go_sem, hN]
  refine cnd (fun hc => ?_) (fun hc => ?_) <;> try simp at hc
  · rw [drop_next hc, ascK] at hI
    simp -dsimp [go_sem, hN, hc]
    refine tcall_pure (c_keys_Valid _) ?_
    cases n with
    | zero =>
      simp -dsimp [go_sem, hN]
      refine cnd (fun hg => ?_) (fun hg => ?_) <;> try simp at hg
      · simp -dsimp [go_sem, hN]
        simp [← hI, hg, prevOf, after]
      · simp -dsimp [go_sem, hN, hw]
        exact ⟨hc, by simpa [hg, prevOf, hc, after] using hI, (Wk.mk (by simp [hh]) (by simp [go_sem]) (by simp [hu, hUnder_ext hu, go_sem]) (by simp [go_sem]))⟩
    | succ m =>
      have hm : m < l.length := by omega
      have hw2 := wrapN (Nat.le_of_lt hm) hb.1
      simp at hw
      simp -dsimp [go_sem, hN, hw2, hm]
      refine cnd (fun hg => ?_) (fun hg => ?_) <;> try simp at hg
      · simp -dsimp [go_sem, hN]
        rw [← hI]
        rcases hg with h1 | h1 <;> simp [prevOf, hm, after, h1]
      · simp -dsimp [go_sem, hN, hw]
        simp [hg, prevOf, hm, after] at hI
        exact ⟨hc, by simpa [prevOf, hc] using hI, (Wk.mk (by simp [hh]) (by simp [go_sem]) (by simp [hu, hUnder_ext hu, go_sem]) (by simp [go_sem]))⟩
  · rw [List.drop_eq_nil_of_le (by omega), ascK] at hI
    simp -dsimp [go_sem, hN, ← hI]
theorem c_interp_valid (a : Bool) (r w : List Bytes) : APure Tryz.prog 32 [.agg [Bo a, .slice (r.map sRow), .slice (w.map sRow)]] (Bo (footOk a r w)) := by
  refine apure_introB Tryz.func32 rfl (by kernel_rfl) (by simp [Tryz.ntmps32]) rfl ?_
  intro E h hN hh hu hb
  rw [Tryz.ntmps32] at hN
  refine awp_of_wpC _ _ _ ?_
  simp -dsimp [go_sem, hN]
  refine cnd (fun h0 => ?_) (fun h0 => ?_) <;> try simp at h0
  all_goals simp -dsimp [go_sem, hN, footOk, h0]
  refine tcall_pure (c_interp_ascending r) ?_
  simp -dsimp [go_sem, hN]
  refine tgcall_pure (c_interp_ascending w) (by simp) ?_
  simp -dsimp [go_sem, hN, footOk, h0]
theorem c_state_absent (p : Pr) : APure Tryz.prog 76 [.agg p.c] (Bo (decide (p.v.k = 0))) := by
  refine apure_introB Tryz.func76 rfl (by kernel_rfl) (by simp [Tryz.ntmps76]) rfl ?_
  intro E h hN hh hu hb
  rw [Tryz.ntmps76] at hN
  refine awp_of_wpC _ _ _ ?_
  simp -dsimp [go_sem, hN]
theorem c_IndexFunc_Pair (l : List Pr) (f : FuncId) (p : Pr → Bool) (hp : ∀ x : Pr, APure Tryz.prog f [.agg x.c] (Bo (p x))) : APure Tryz.prog 119 [.slice (l.map Pr.c), .fn (.func f) [] []] (I (idxOf p l)) := by
  refine apure_introB Tryz.func119 rfl (by kernel_rfl) (by simp [Tryz.ntmps119]) rfl ?_
  intro E h hN hh hu hb
  rw [Tryz.ntmps119] at hN
  refine awp_of_wpC _ _ _ ?_
  simp [go_sem] at hb
  simp -dsimp [go_sem, hN]
  refine awp_loopN l.length (fun n => idxFrom p n (l.drop n) = idxOf p l) (fun n => ⟨[(0, .slice (l.map Pr.c)), (1, .fn (.func f) [] []), (7, I l.length), (8, I n)], h⟩) (by simp [idxOf]) (Wk.mk (by simp [hh]) (by simp [go_sem]) (by simp [hu, hUnder_ext hu, go_sem]) (by simp [go_sem])) ?_
  intro n hn hI
  have hw := wrapS hn hb.1
  simp -dsimp [go_sem, hN]
  refine cnd (fun hc => ?_) (fun hc => ?_) <;> try simp at hc
  · rw [drop_next hc, idxFrom] at hI
    simp -dsimp [go_sem, hN, hc]
    refine tcall_pure (hp l[n]) ?_
    simp -dsimp [go_sem, hN]
    refine cnd (fun hg => ?_) (fun hg => ?_) <;> try simp at hg
    · simp -dsimp [go_sem, hN]
      simpa [hg] using hI
    · simp -dsimp [go_sem, hN, hw]
      exact ⟨hc, by simpa [hg] using hI, (Wk.mk (by simp [hh]) (by simp [go_sem]) (by simp [hu, hUnder_ext hu, go_sem]) (by simp [go_sem]))⟩
  · rw [List.drop_eq_nil_of_le (by omega), idxFrom] at hI
    simp -dsimp [go_sem, hN, ← hI]
theorem c_ContainsFunc_Pair (l : List Pr) (f : FuncId) (p : Pr → Bool) (hp : ∀ x : Pr, APure Tryz.prog f [.agg x.c] (Bo (p x))) : APure Tryz.prog 75 [.slice (l.map Pr.c), .fn (.func f) [] []] (Bo (anyL p l)) := by
  refine apure_introB Tryz.func75 rfl (by kernel_rfl) (by simp [Tryz.ntmps75]) rfl ?_
  intro E h hN hh hu hb
  rw [Tryz.ntmps75] at hN
  refine awp_of_wpC _ _ _ ?_
  simp -dsimp [go_sem, hN]
  refine tcall_pure (c_IndexFunc_Pair l f p hp) ?_
  simp -dsimp [go_sem, hN, idxOf_nonneg]
theorem c_state_sorted (l : List Pr) : APure Tryz.prog 74 [.slice (l.map Pr.c)] (Bo (sortedP none l)) := by
  refine apure_introB Tryz.func74 rfl (by kernel_rfl) (by simp [Tryz.ntmps74]) rfl ?_
  intro E h hN hh hu hb
  rw [Tryz.ntmps74] at hN
  refine awp_of_wpC _ _ _ ?_
  simp [go_sem] at hb
  simp -dsimp [go_sem, hN]
  refine awp_loopN l.length (fun n => sortedP ((prevOf l n).map Pr.key) (l.drop n) = sortedP none l) (fun n => ⟨[(0, .slice (l.map Pr.c)), (5, .slice (l.map Pr.c)), (6, I l.length), (7, I n)], h⟩) (by simp [prevOf]) (Wk.mk (by simp [hh]) (by simp [go_sem]) (by simp [hu, hUnder_ext hu, go_sem]) (by simp [go_sem])) ?_
  intro n hn hI
  have hw := wrapS hn hb.1
  simp -dsimp [go_sem, hN]
  refine cnd (fun hc => ?_) (fun hc => ?_) <;> try simp at hc
  · rw [drop_next hc, sortedP] at hI
    simp -dsimp [go_sem, hN, hc]
    refine awp_drawQ 22 mixed (by kernel_rfl) (by kernel_rfl) ?_
    simp -dsimp [go_sem, hN]
    refine tdcall (c_keys_Valid _) (by simp) ?_
    simp -dsimp [go_sem, hN]
    refine tdcall (c_value_Valid _ _ _) (by simp) ?_
    cases n with
    | zero =>
      simp -dsimp [go_sem, hN]
      refine cnd (fun hg => ?_) (fun hg => ?_) <;> try simp at hg
      · simp -dsimp [go_sem, hN]
        rw [← hI]
        rcases hg with h1 | h1 <;> simp [prevOf, after, h1]
      · simp -dsimp [go_sem, hN, hw]
        exact ⟨hc, by simpa [hg, prevOf, hc, after] using hI, (Wk.mk (by simp [hh]) (by simp [go_sem]) (by simp [hu, hUnder_ext hu, go_sem]) (by simp [go_sem]))⟩
    | succ m =>
      have hm : m < l.length := by omega
      have hw2 := wrapN (Nat.le_of_lt hm) hb.1
      simp at hw
      simp -dsimp [go_sem, hN, hw2, hm]
      refine cnd (fun hg => ?_) (fun hg => ?_) <;> try simp at hg
      · simp -dsimp [go_sem, hN]
        rw [← hI]
        grind [prevOf, after]
      · simp -dsimp [go_sem, hN, hw]
        simp [hg, prevOf, hm, after] at hI
        exact ⟨hc, by simpa [prevOf, hc] using hI, (Wk.mk (by simp [hh]) (by simp [go_sem]) (by simp [hu, hUnder_ext hu, go_sem]) (by simp [go_sem]))⟩
  · rw [List.drop_eq_nil_of_le (by omega), sortedP] at hI
    simp -dsimp [go_sem, hN, ← hI]
theorem c_state_Valid (l : List Pr) : APure Tryz.prog 31 [.slice (l.map Pr.c)] (Bo (stateOk l)) := by
  refine apure_introB Tryz.func31 rfl (by kernel_rfl) (by simp [Tryz.ntmps31]) rfl ?_
  intro E h hN hh hu hb
  rw [Tryz.ntmps31] at hN
  refine awp_of_wpC _ _ _ ?_
  simp -dsimp [go_sem, hN]
  refine tcall_pure (c_state_sorted l) ?_
  simp -dsimp [go_sem, hN]
  refine tgcall_pure (c_ContainsFunc_Pair l _ _ c_state_absent) (by simp) ?_
  simp -dsimp [go_sem, hN, stateOk]
theorem c_state_Get (l : List Pr) (k : Bytes) : APure Tryz.prog 192 [.slice (l.map Pr.c), S k] (.agg (getP l k).c) := by
  refine apure_introB Tryz.func192 rfl (by kernel_rfl) (by simp [Tryz.ntmps192]) rfl ?_
  intro E h hN hh hu hb
  rw [Tryz.ntmps192] at hN
  refine awp_of_wpC _ _ _ ?_
  simp [go_sem] at hb
  simp -dsimp [go_sem, hN]
  refine awp_loopN l.length (fun n => getP (l.drop n) k = getP l k) (fun n => ⟨[(0, .slice (l.map Pr.c)), (1, S k), (4, P0 h.length), (7, .slice (l.map Pr.c)), (8, I l.length), (9, I n)], h ++ [.cells [I 0, I 0, S em]]⟩) (by simp) (Wk.mk (by simp [hh]) (by simp [go_sem]) (by simp [hu, hUnder_ext hu, go_sem]) (by simp [go_sem])) ?_
  intro n hn hI
  have hw := wrapS hn hb.1.1
  simp -dsimp [go_sem, hN]
  refine cnd (fun hc => ?_) (fun hc => ?_) <;> try simp at hc
  · rw [drop_next hc, getP] at hI
    simp -dsimp [go_sem, hN, hc]
    refine cnd (fun hg => ?_) (fun hg => ?_) <;> try simp at hg
    · simp -dsimp [go_sem, hN]
      simp [← hI, hg]
    · simp -dsimp [go_sem, hN, hw]
      exact ⟨hc, by simpa [hg] using hI, (Wk.mk (by simp [hh]) (by simp [go_sem]) (by simp [hu, hUnder_ext hu, go_sem]) (by simp [go_sem]))⟩
  · rw [List.drop_eq_nil_of_le (by omega), getP] at hI
    simp -dsimp [go_sem, hN, ← hI]
end Go.Proofs.YtcmbmfmpelnimaaGreatDoor

set_option maxRecDepth 4000
namespace Go.Proofs.YtcmbmfmpelnimaaGreatDoor
open Go Go.Abs Go.Cw
theorem c_ref06_Has (l : List Pr) (k : Bytes) : APure Tryz.prog 99 [.slice (l.map Pr.c), S k] (Bo (hasP l k)) := by
  refine apure_introB Tryz.func99 rfl (by kernel_rfl) (by simp [Tryz.ntmps99]) rfl ?_
  intro E h hN hh hu hb
  rw [Tryz.ntmps99] at hN
  refine awp_of_wpC _ _ _ ?_
  simp [go_sem] at hb
  simp -dsimp [go_sem, hN]
  refine awp_loopN l.length (fun n => hasP (l.drop n) k = hasP l k) (fun n => ⟨[(0, .slice (l.map Pr.c)), (1, S k), (5, I n)], h⟩) (by simp) (Wk.mk (by simp [hh]) (by simp [go_sem]) (by simp [hu, hUnder_ext hu, go_sem]) (by simp [go_sem])) ?_
  intro n hn hI
  have hw := wrapS hn hb.1.1
  simp -dsimp [go_sem, hN]
  refine cnd (fun hc => ?_) (fun hc => ?_) <;> simp at hc
  · rw [drop_next hc, hasP, anyL] at hI
    simp -dsimp [go_sem, hN, hc]
    refine cnd (fun hg => ?_) (fun hg => ?_) <;> simp at hg
    · simp -dsimp [go_sem, hN]
      simp [← hI, hg]
    · simp -dsimp [go_sem, hN, hw]
      exact ⟨hc, by simpa [hg, hasP] using hI, (Wk.mk (by simp [hh]) (by simp [go_sem]) (by simp [hu, hUnder_ext hu, go_sem]) (by simp [go_sem]))⟩
  · rw [List.drop_eq_nil_of_le (by omega), hasP, anyL] at hI
    simp -dsimp [go_sem, hN, ← hI]
end Go.Proofs.YtcmbmfmpelnimaaGreatDoor

set_option maxRecDepth 4000
namespace Go.Proofs.YtcmbmfmpelnimaaGreatDoor
open Go Go.Abs Go.Cw
theorem c_lexer_letter (c : Int) : APure Tryz.prog 233 [.val (.int .i32 c)] (Bo (ltr c)) := by
  refine apure_introB Tryz.func233 rfl (by kernel_rfl) (by simp [Tryz.ntmps233]) rfl ?_
  intro E h hN hh hu hb
  rw [Tryz.ntmps233] at hN
  refine awp_of_wpC _ _ _ ?_
  simp -dsimp [go_sem, hN, ltr]
theorem c_lexer_word (s : Bytes) : APure Tryz.prog 234 [S s] (I (wordLen (bl s))) := by
  refine apure_introB Tryz.func234 rfl (by kernel_rfl) (by simp [Tryz.ntmps234]) rfl ?_
  intro E h hN hh hu hb
  rw [Tryz.ntmps234] at hN
  refine awp_of_wpC _ _ _ ?_
  simp [go_sem] at hb
  simp -dsimp [go_sem, hN]
  refine awp_loopN s.size (fun n => n + wordLen ((bl s).drop n) = wordLen (bl s)) (fun n => ⟨[(0, S s), (6, P0 h.length)], h ++ [.iter s n]⟩) (by simp) (Wk.mk (by simp [hh]) (by simp [go_sem]) (by simp [hu, hUnder_ext hu, go_sem]) (by simp [go_sem])) ?_
  intro n hn hI
  have hw := wrapS hn hb
  simp -dsimp [go_sem, hN]
  by_cases hc : n < s.size
  · rw [bdrop hc, wordLen] at hI
    simp -dsimp [go_sem, hN, hc]
    refine tcall_pure (c_lexer_letter _) ?_
    simp -dsimp [go_sem, hN]
    by_cases h8 : (bAt s n).toNat < 128
    · simp only [dec_lo hc h8]
      refine ⟨by grind, cnd (fun hg => ?_) (fun hg => ?_)⟩
      · have hg' : wordI ((bAt s n).toNat : Int) = false := by simp [wordI] at hg ⊢; grind
        simp -dsimp [go_sem, hN]
        rw [← hI]
        simp [hg']
      · have hg' : wordI ((bAt s n).toNat : Int) = true := by simp [wordI] at hg ⊢; grind
        simp -dsimp [go_sem, hN, hw]
        exact ⟨hc, by rw [if_pos hg'] at hI; omega, (Wk.mk (by simp [hh]) (by simp [go_sem]) (by simp [hu, hUnder_ext hu, go_sem]) (by simp [go_sem]))⟩
    · have h9 := dec_hi hc h8
      have hg' : wordI ((bAt s n).toNat : Int) = false := by simp [wordI, ltr]; omega
      have hl : ltr ((Utf8.decode s n).1 : Int) = false := by simp [ltr]; omega
      refine ⟨by grind, cnd (fun hg => ?_) (fun hg => ?_)⟩
      · simp -dsimp [go_sem, hN]
        rw [← hI]
        simp [hg']
      · simp [hl] at hg
        omega
  · rw [bend hc, wordLen] at hI
    simp -dsimp [go_sem, hN, hc]
    have : wordLen (bl s) = s.size := by omega
    simp [this]
theorem c_lexer_IsKeyword (s : Bytes) : APure Tryz.prog 235 [S s] (Bo (kw s)) := by
  refine apure_introB Tryz.func235 rfl (by kernel_rfl) (by simp [Tryz.ntmps235]) rfl ?_
  intro E h hN hh hu hb
  rw [Tryz.ntmps235] at hN
  refine awp_of_wpC _ _ _ ?_
  simp -dsimp [go_sem, hN]
  iterate 25
    refine cnd (fun hg => ?_) (fun hg => ?_)
    · simp at hg
      subst hg
      simp -dsimp [go_sem, hN]
      rfl
    simp -dsimp [go_sem, hN]
    try simp at hg
  simp [kw, *]
theorem c_ast_plain (s : Bytes) : APure Tryz.prog 190 [S s] (Bo (plainS s)) := by
  refine apure_introB Tryz.func190 rfl (by kernel_rfl) (by simp [Tryz.ntmps190]) rfl ?_
  intro E h hN hh hu hb
  rw [Tryz.ntmps190] at hN
  refine awp_of_wpC _ _ _ ?_
  simp [go_sem] at hb
  simp -dsimp [go_sem, hN]
  refine awp_loopN s.size (fun n => allL okB ((bl s).drop n) = allL okB (bl s)) (fun n => ⟨[(0, S s), (3, I n)], h⟩) (by simp) (Wk.mk (by simp [hh]) (by simp [go_sem]) (by simp [hu, hUnder_ext hu, go_sem]) (by simp [go_sem])) ?_
  intro n hn hI
  have hw := wrapS hn hb
  simp -dsimp [go_sem, hN]
  refine cnd (fun hc => ?_) (fun hc => ?_) <;> simp at hc
  · rw [bdrop hc, allL] at hI
    simp -dsimp [go_sem, hN, hc]
    refine cnd (fun hg => ?_) (fun hg => ?_)
    · simp -dsimp [go_sem, hN]
      simp [plainS, ← hI, okB, hg]
    · simp -dsimp [go_sem, hN, hw]
      exact ⟨hc, by simpa [okB, hg] using hI, (Wk.mk (by simp [hh]) (by simp [go_sem]) (by simp [hu, hUnder_ext hu, go_sem]) (by simp [go_sem]))⟩
  · rw [bend (by omega), allL] at hI
    simp -dsimp [go_sem, hN, plainS, ← hI]
theorem c_ast_Arity (op : Int) : APure Tryz.prog 188 [I op] (I (arity op)) := by
  refine apure_introB Tryz.func188 rfl (by kernel_rfl) (by simp [Tryz.ntmps188]) rfl ?_
  intro E h hN hh hu hb
  rw [Tryz.ntmps188] at hN
  refine awp_of_wpC _ _ _ ?_
  simp -dsimp [go_sem, hN]
  refine cnd (fun h0 => ?_) (fun h0 => ?_) <;> simp at h0 <;> simp -dsimp [go_sem, hN, arity, h0]
  refine cnd (fun h1 => ?_) (fun h1 => ?_) <;> simp at h1 <;> simp -dsimp [go_sem, hN, arity, h0, h1]
  refine cnd (fun h2 => ?_) (fun h2 => ?_) <;> simp at h2 <;> simp -dsimp [go_sem, hN, arity]
  · rw [if_neg (by omega), if_neg (by omega), if_pos (by omega)]
  · rw [if_neg (by omega), if_neg (by omega), if_neg (by omega)]
theorem c_lexer_IsName (s : Bytes) : APure Tryz.prog 189 [S s] (Bo (nameOk s)) := by
  refine apure_introB Tryz.func189 rfl (by kernel_rfl) (by simp [Tryz.ntmps189]) rfl ?_
  intro E h hN hh hu hb
  rw [Tryz.ntmps189] at hN
  refine awp_of_wpC _ _ _ ?_
  rcases sz_em s with rfl | h1
  · simp -dsimp [go_sem, hN, nameOk]
    refine tgcall_if .top (by simp) (by simp) ?_
    simp -dsimp [go_sem, hN]
    refine tgcall_if .top (by simp) (by simp) ?_
    simp -dsimp [go_sem, hN]
    refine tgcall_if .top (by simp) (by simp) ?_
    simp -dsimp [go_sem, hN, nameOk]
  · have h1' : 0 < s.size := by omega
    have he : ¬ s = em := by rintro rfl; simp at h1
    simp -dsimp [go_sem, hN, h1', he]
    refine tgcall_pure (c_lexer_letter _) (by simp) ?_
    simp -dsimp [go_sem, hN]
    refine tgcall_pure (c_lexer_word s) (by simp) ?_
    simp -dsimp [go_sem, hN]
    refine tgcall_pure (c_lexer_IsKeyword s) (by simp) ?_
    simp -dsimp [go_sem, hN, nameOk, he]
theorem c_ast_node (op n : Int) (s : Bytes) (args : List Ex) (d : Nat) : APure Tryz.prog 136 [.agg [I op, I n, S s, .slice (args.map Ex.c)], I d] (I (nodeErr op n s args.length d)) := by
  refine apure_introB Tryz.func136 rfl (by kernel_rfl) (by simp [Tryz.ntmps136]) rfl ?_
  intro E h hN hh hu hb
  rw [Tryz.ntmps136] at hN
  refine awp_of_wpC _ _ _ ?_
  simp -dsimp [go_sem, hN]
  refine tcall_pure (c_ast_Arity _) ?_
  simp -dsimp [go_sem, hN]
  repeat refine ⟨by grind, ?_⟩
  refine cnd (fun h0 => ?_) (fun h0 => ?_)
  · simp -dsimp [go_sem, hN]
    simp at h0
    rw [nodeErr, if_pos (by grind)]
  have h0' : ¬ (arity op < 0 ∨ (op ≠ 1 ∧ n ≠ 0) ∨ (op ≠ 2 ∧ op ≠ 3 ∧ s ≠ em)) := by simp at h0; grind
  simp -dsimp [go_sem, hN]
  refine tgcall_pure (c_lexer_IsName s) (by simp) ?_
  simp -dsimp [go_sem, hN]
  refine cnd (fun h1 => ?_) (fun h1 => ?_)
  · simp -dsimp [go_sem, hN]
    simp at h1
    rw [nodeErr, if_neg h0', if_pos (by grind)]
  have h1' : ¬ (op = 3 ∧ nameOk s = false) := by simp at h1; grind
  simp -dsimp [go_sem, hN]
  repeat refine ⟨by grind, ?_⟩
  refine tgcall_pure (c_ast_plain s) (by simp) ?_
  simp -dsimp [go_sem, hN]
  repeat refine ⟨by grind, ?_⟩
  refine cnd (fun h2 => ?_) (fun h2 => ?_)
  · simp -dsimp [go_sem, hN]
    simp at h2
    rw [nodeErr, if_neg h0', if_neg h1', if_pos (by grind)]
  have h2' : ¬ ((op = 1 ∧ n < 0) ∨ (op = 2 ∧ plainS s = false) ∨ (args.length : Int) ≠ arity op) := by simp at h2; grind
  simp -dsimp [go_sem, hN]
  refine cnd (fun h3 => ?_) (fun h3 => ?_) <;> simp at h3
  · simp -dsimp [go_sem, hN]
    rw [nodeErr, if_neg h0', if_neg h1', if_neg h2', if_pos (by omega)]
  · simp -dsimp [go_sem, hN]
    rw [nodeErr, if_neg h0', if_neg h1', if_neg h2', if_neg (by omega)]
theorem c_ast_check (e : Ex) (d : Nat) : APure Tryz.prog 89 [.agg [I e.op, I e.n, S e.s, .slice (e.args.map Ex.c)], I d] (I (chkE e d)) := by
  refine apure_introB Tryz.func89 rfl (by kernel_rfl) (by simp [Tryz.ntmps89]) rfl ?_
  intro E h hN hh hu hb
  rw [Tryz.ntmps89] at hN
  refine awp_of_wpC _ _ _ ?_
  simp [go_sem] at hb
  simp -dsimp [go_sem, hN]
  refine tcall_pure (c_ast_node _ _ _ _ _) ?_
  simp -dsimp [go_sem, hN]
  refine cnd (fun h0 => ?_) (fun h0 => ?_) <;> simp at h0
  · simp -dsimp [go_sem, hN]
    rw [chkE_eq, if_neg h0]
  have hd : d ≤ 12 := by
    unfold nodeErr at h0
    grind
  simp -dsimp [go_sem, hN]
  refine awp_loopN e.args.length (fun n => chkL (e.args.drop n) (d + 1) = chkL e.args (d + 1)) (fun n => ⟨[(1, I d), (16, .slice (e.args.map Ex.c)), (17, I e.args.length), (18, I n)], h⟩) (by simp) (Wk.mk (by simp [hh]) (by simp [go_sem]) (by simp [hu, hUnder_ext hu, go_sem]) (by simp [go_sem])) ?_
  intro n hn hI
  have hw := wrapS hn hb.2.1
  have hw2 : IntKind.i64.wrap ((d : Int) + 1) = ((d + 1 : Nat) : Int) := by rw [wrapI (by omega) (by omega)]; rfl
  simp -dsimp [go_sem, hN]
  refine cnd (fun hc => ?_) (fun hc => ?_) <;> simp at hc
  · rw [drop_next hc, chkL] at hI
    simp -dsimp [go_sem, hN, hc, hw2]
    have hlt : SizeOf.sizeOf e.args[n] < SizeOf.sizeOf e := Ex.arg_lt (List.getElem_mem hc)
    refine tcall_pure (c_ast_check e.args[n] (d + 1)) ?_
    simp -dsimp [go_sem, hN]
    refine cnd (fun hg => ?_) (fun hg => ?_) <;> simp at hg
    · simp -dsimp [go_sem, hN]
      rw [chkE_eq e, if_pos h0, ← hI, if_neg hg]
    · simp -dsimp [go_sem, hN, hw]
      exact ⟨hc, by simpa [hg] using hI, (Wk.mk (by simp [hh]) (by simp [go_sem]) (by simp [hu, hUnder_ext hu, go_sem]) (by simp [go_sem]))⟩
  · rw [List.drop_eq_nil_of_le (by omega), chkL] at hI
    simp -dsimp [go_sem, hN]
    rw [chkE_eq e, if_pos h0, ← hI]
termination_by SizeOf.sizeOf e
theorem c_ast_ValidExpr (e : Ex) : APure Tryz.prog 50 [.agg [I e.op, I e.n, S e.s, .slice (e.args.map Ex.c)]] (I (chkE e 1)) := by
  refine apure_introB Tryz.func50 rfl (by kernel_rfl) (by simp [Tryz.ntmps50]) rfl ?_
  intro E h hN hh hu hb
  rw [Tryz.ntmps50] at hN
  refine awp_of_wpC _ _ _ ?_
  simp -dsimp [go_sem, hN]
  refine tcall_pure (c_ast_check e 1) ?_
  simp -dsimp [go_sem, hN]
end Go.Proofs.YtcmbmfmpelnimaaGreatDoor

set_option maxRecDepth 4000
namespace Go.Proofs.YtcmbmfmpelnimaaGreatDoor
open Go Go.Abs Go.Cw
theorem c_ast_usesOf (op : Int) : APure Tryz.prog 249 [I op] (.tuple [.agg (usesOf op).1.c, Bo (usesOf op).2]) := by
  refine apure_introB Tryz.func249 rfl (by kernel_rfl) (by simp [Tryz.ntmps249]) rfl ?_
  intro E h hN hh hu hb
  rw [Tryz.ntmps249] at hN
  refine awp_of_wpC _ _ _ ?_
  by_cases h1 : op = 1
  · subst h1; simp -dsimp [go_sem, hN, usesOf]
  by_cases h2 : op = 2
  · subst h2; simp -dsimp [go_sem, hN, usesOf]
  by_cases h3 : op = 3
  · subst h3; simp -dsimp [go_sem, hN, usesOf]
  by_cases h4 : op = 4
  · subst h4; simp -dsimp [go_sem, hN, usesOf]
  by_cases h7 : op = 7
  · subst h7; simp -dsimp [go_sem, hN, usesOf]
  by_cases h5 : op = 5
  · subst h5; simp -dsimp [go_sem, hN, usesOf]
  by_cases h6 : op = 6
  · subst h6; simp -dsimp [go_sem, hN, usesOf]
  by_cases h8 : op = 8
  · subst h8; simp -dsimp [go_sem, hN, usesOf]
  simp -dsimp [go_sem, hN, usesOf, h1, h2, h3, h4, h5, h6, h7, h8]
theorem c_ast_absent (e : Ex) : APure Tryz.prog 267 [.agg e.x] (Bo (absE e)) := by
  refine apure_introB Tryz.func267 rfl (by kernel_rfl) (by simp [Tryz.ntmps267]) rfl ?_
  intro E h hN hh hu hb
  rw [Tryz.ntmps267] at hN
  refine awp_of_wpC _ _ _ ?_
  simp -dsimp [go_sem, hN, absE]
  try grind
theorem c_ast_shape (s : St) (u : Uses) : APure Tryz.prog 250 [.agg s.x, .agg u.c] (Bo (shapeOk s u)) := by
  refine apure_introB Tryz.func250 rfl (by kernel_rfl) (by simp [Tryz.ntmps250]) rfl ?_
  intro E h hN hh hu hb
  rw [Tryz.ntmps250] at hN
  refine awp_of_wpC _ _ _ ?_
  simp -dsimp [go_sem, hN]
  repeat refine ⟨by grind, ?_⟩
  refine tgcall_pure (c_ast_absent s.a) (by simp) ?_
  simp -dsimp [go_sem, hN]
  repeat refine ⟨by grind, ?_⟩
  refine tgcall_pure (c_ast_absent s.b) (by simp) ?_
  simp -dsimp [go_sem, hN]
  repeat refine ⟨by grind, ?_⟩
  refine cnd (fun h0 => ?_) (fun h0 => ?_)
  · simp -dsimp [go_sem, hN]
    simp [shapeOk] at h0 ⊢
    grind
  · simp -dsimp [go_sem, hN]
    refine cnd (fun h1 => ?_) (fun h1 => ?_) <;> simp at h1 <;> simp -dsimp [go_sem, hN, h1]
    · simp [shapeOk, h1] at h0 ⊢
      grind
    · refine cnd (fun h2 => ?_) (fun h2 => ?_) <;> simp at h2 <;> simp -dsimp [go_sem, hN, h2]
      · simp [shapeOk, h1, h2] at h0 ⊢
        grind
      · simp [shapeOk, h1, h2] at h0 ⊢
        grind
end Go.Proofs.YtcmbmfmpelnimaaGreatDoor
