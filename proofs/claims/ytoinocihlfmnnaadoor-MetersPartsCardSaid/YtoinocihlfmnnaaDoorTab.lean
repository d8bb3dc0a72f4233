/- What is known of this program's types: sizes, zeros, the places of fields. Each entry is checked by the kernel. (Written by wip/tab.py.) -/
import Derived.Test.YtoinocihlfmnnaaDoorVgA
import Derived.Test.YtoinocihlfmnnaaDoorRows
import Derived.KernelRfl
namespace Go.Proofs.YtoinocihlfmnnaaDoor.T
open Go Go.Proofs.YtoinocihlfmnnaaDoor.Vg
def t3 : TI := { und := .int .i64, size := 1, bytes := 8, zero := .int .i64 0, zs := [.int .i64 0] }
theorem t3_ok : TIok Tryd.prog 3 t3 := ⟨by kernel_rfl, by kernel_rfl, rfl, rfl⟩
def t4 : TI := { und := .bool, size := 1, bytes := 1, zero := .bool false, zs := [.bool false] }
theorem t4_ok : TIok Tryd.prog 4 t4 := ⟨by kernel_rfl, by kernel_rfl, rfl, rfl⟩
def t2 : TI := { und := .int .i64, size := 1, bytes := 8, zero := .int .i64 0, zs := [.int .i64 0] }
theorem t2_ok : TIok Tryd.prog 2 t2 := ⟨by kernel_rfl, by kernel_rfl, rfl, rfl⟩
def t9 : TI := { und := .string, size := 1, bytes := 16, zero := .string ⟨#[]⟩, zs := [.string ⟨#[]⟩] }
theorem t9_ok : TIok Tryd.prog 9 t9 := ⟨by kernel_rfl, by kernel_rfl, rfl, rfl⟩
def t5 : TI := { und := .int .u8, size := 1, bytes := 1, zero := .int .u8 0, zs := [.int .u8 0] }
theorem t5_ok : TIok Tryd.prog 5 t5 := ⟨by kernel_rfl, by kernel_rfl, rfl, rfl⟩
def t25 : TI := { und := .ptr 55, size := 1, bytes := 8, zero := .pointer none, zs := [.pointer none] }
theorem t25_ok : TIok Tryd.prog 25 t25 := ⟨by kernel_rfl, by kernel_rfl, rfl, rfl⟩
def t26 : TI := { und := .int .i64, size := 1, bytes := 8, zero := .int .i64 0, zs := [.int .i64 0] }
theorem t26_ok : TIok Tryd.prog 26 t26 := ⟨by kernel_rfl, by kernel_rfl, rfl, rfl⟩
def t6 : TI := { und := .int .u8, size := 1, bytes := 1, zero := .int .u8 0, zs := [.int .u8 0] }
theorem t6_ok : TIok Tryd.prog 6 t6 := ⟨by kernel_rfl, by kernel_rfl, rfl, rfl⟩
def t30 : TI := { und := .struct [(0, 1), (1, 1), (2, 1), (3, 1)], size := 4, bytes := 48, zero := .agg ([.int .i64 0, .string ⟨#[]⟩, .string ⟨#[]⟩, .int .i64 0] : List Value).toArray, zs := [.int .i64 0, .string ⟨#[]⟩, .string ⟨#[]⟩, .int .i64 0] }
theorem t30_ok : TIok Tryd.prog 30 t30 := ⟨by kernel_rfl, by kernel_rfl, rfl, rfl⟩
def t122 : TI := { und := .slice 9, size := 1, bytes := 24, zero := .slice none 0 0, zs := [.slice none 0 0] }
theorem t122_ok : TIok Tryd.prog 122 t122 := ⟨by kernel_rfl, by kernel_rfl, rfl, rfl⟩
def t7 : TI := { und := .struct [(0, 1), (1, 1), (2, 1), (3, 1)], size := 4, bytes := 24, zero := .agg ([.int .i64 0, .int .i64 0, .bool false, .int .u8 0] : List Value).toArray, zs := [.int .i64 0, .int .i64 0, .bool false, .int .u8 0] }
theorem t7_ok : TIok Tryd.prog 7 t7 := ⟨by kernel_rfl, by kernel_rfl, rfl, rfl⟩
def t170 : TI := { und := .int .u32, size := 1, bytes := 4, zero := .int .u32 0, zs := [.int .u32 0] }
theorem t170_ok : TIok Tryd.prog 170 t170 := ⟨by kernel_rfl, by kernel_rfl, rfl, rfl⟩
def t64 : TI := { und := .struct [(0, 1), (1, 1), (2, 4), (6, 1), (7, 1), (8, 6)], size := 14, bytes := 136, zero := .agg ([.int .i64 0, .int .i64 0, .int .i64 0, .string ⟨#[]⟩, .string ⟨#[]⟩, .int .i64 0, .int .i64 0, .int .i64 0, .int .i64 0, .int .i64 0, .int .i64 0, .string ⟨#[]⟩, .int .i64 0, .int .i64 0] : List Value).toArray, zs := [.int .i64 0, .int .i64 0, .int .i64 0, .string ⟨#[]⟩, .string ⟨#[]⟩, .int .i64 0, .int .i64 0, .int .i64 0, .int .i64 0, .int .i64 0, .int .i64 0, .string ⟨#[]⟩, .int .i64 0, .int .i64 0] }
theorem t64_ok : TIok Tryd.prog 64 t64 := ⟨by kernel_rfl, by kernel_rfl, rfl, rfl⟩
def t32 : TI := { und := .struct [(0, 1), (1, 1), (2, 1), (3, 1)], size := 4, bytes := 40, zero := .agg ([.int .i64 0, .string ⟨#[]⟩, .int .i64 0, .int .i64 0] : List Value).toArray, zs := [.int .i64 0, .string ⟨#[]⟩, .int .i64 0, .int .i64 0] }
theorem t32_ok : TIok Tryd.prog 32 t32 := ⟨by kernel_rfl, by kernel_rfl, rfl, rfl⟩
def t8 : TI := { und := .struct [(0, 1), (1, 1), (2, 1), (3, 1)], size := 4, bytes := 24, zero := .agg ([.int .i64 0, .int .i64 0, .bool false, .int .u8 0] : List Value).toArray, zs := [.int .i64 0, .int .i64 0, .bool false, .int .u8 0] }
theorem t8_ok : TIok Tryd.prog 8 t8 := ⟨by kernel_rfl, by kernel_rfl, rfl, rfl⟩
def t160 : TI := { und := .int .u64, size := 1, bytes := 8, zero := .int .u64 0, zs := [.int .u64 0] }
theorem t160_ok : TIok Tryd.prog 160 t160 := ⟨by kernel_rfl, by kernel_rfl, rfl, rfl⟩
def t10 : TI := { und := .string, size := 1, bytes := 16, zero := .string ⟨#[]⟩, zs := [.string ⟨#[]⟩] }
theorem t10_ok : TIok Tryd.prog 10 t10 := ⟨by kernel_rfl, by kernel_rfl, rfl, rfl⟩
def t57 : TI := { und := .slice 64, size := 1, bytes := 24, zero := .slice none 0 0, zs := [.slice none 0 0] }
theorem t57_ok : TIok Tryd.prog 57 t57 := ⟨by kernel_rfl, by kernel_rfl, rfl, rfl⟩
def t39 : TI := { und := .struct [(0, 1), (1, 1), (2, 1), (3, 1), (4, 1), (5, 1), (6, 1), (7, 4), (11, 4), (15, 1), (16, 7), (23, 3), (26, 1), (27, 1), (28, 1)], size := 29, bytes := 288, zero := .agg ([.int .i64 0, .int .i64 0, .int .i64 0, .int .i64 0, .int .i64 0, .int .i64 0, .int .i64 0, .int .i64 0, .string ⟨#[]⟩, .string ⟨#[]⟩, .int .i64 0, .int .i64 0, .string ⟨#[]⟩, .int .i64 0, .int .i64 0, .int .i64 0, .int .i64 0, .int .i64 0, .int .i64 0, .int .i64 0, .string ⟨#[]⟩, .string ⟨#[]⟩, .int .i64 0, .int .i64 0, .slice none 0 0, .int .i64 0, .int .i64 0, .int .i64 0, .int .i64 0] : List Value).toArray, zs := [.int .i64 0, .int .i64 0, .int .i64 0, .int .i64 0, .int .i64 0, .int .i64 0, .int .i64 0, .int .i64 0, .string ⟨#[]⟩, .string ⟨#[]⟩, .int .i64 0, .int .i64 0, .string ⟨#[]⟩, .int .i64 0, .int .i64 0, .int .i64 0, .int .i64 0, .int .i64 0, .int .i64 0, .int .i64 0, .string ⟨#[]⟩, .string ⟨#[]⟩, .int .i64 0, .int .i64 0, .slice none 0 0, .int .i64 0, .int .i64 0, .int .i64 0, .int .i64 0] }
theorem t39_ok : TIok Tryd.prog 39 t39 := ⟨by kernel_rfl, by kernel_rfl, rfl, rfl⟩
def t68 : TI := { und := .slice 3, size := 1, bytes := 24, zero := .slice none 0 0, zs := [.slice none 0 0] }
theorem t68_ok : TIok Tryd.prog 68 t68 := ⟨by kernel_rfl, by kernel_rfl, rfl, rfl⟩
def t53 : TI := { und := .ptr 113, size := 1, bytes := 8, zero := .pointer none, zs := [.pointer none] }
theorem t53_ok : TIok Tryd.prog 53 t53 := ⟨by kernel_rfl, by kernel_rfl, rfl, rfl⟩
def t22 : TI := { und := .slice 39, size := 1, bytes := 24, zero := .slice none 0 0, zs := [.slice none 0 0] }
theorem t22_ok : TIok Tryd.prog 22 t22 := ⟨by kernel_rfl, by kernel_rfl, rfl, rfl⟩
def t12 : TI := { und := .int .u64, size := 1, bytes := 8, zero := .int .u64 0, zs := [.int .u64 0] }
theorem t12_ok : TIok Tryd.prog 12 t12 := ⟨by kernel_rfl, by kernel_rfl, rfl, rfl⟩
def t104 : TI := { und := .ptr 141, size := 1, bytes := 8, zero := .pointer none, zs := [.pointer none] }
theorem t104_ok : TIok Tryd.prog 104 t104 := ⟨by kernel_rfl, by kernel_rfl, rfl, rfl⟩
def t97 : TI := { und := .slice 136, size := 1, bytes := 24, zero := .slice none 0 0, zs := [.slice none 0 0] }
theorem t97_ok : TIok Tryd.prog 97 t97 := ⟨by kernel_rfl, by kernel_rfl, rfl, rfl⟩
def t84 : TI := { und := .slice 5, size := 1, bytes := 24, zero := .slice none 0 0, zs := [.slice none 0 0] }
theorem t84_ok : TIok Tryd.prog 84 t84 := ⟨by kernel_rfl, by kernel_rfl, rfl, rfl⟩
def t172 : TI := { und := .int .u64, size := 1, bytes := 8, zero := .int .u64 0, zs := [.int .u64 0] }
theorem t172_ok : TIok Tryd.prog 172 t172 := ⟨by kernel_rfl, by kernel_rfl, rfl, rfl⟩
def t11 : TI := { und := .string, size := 1, bytes := 16, zero := .string ⟨#[]⟩, zs := [.string ⟨#[]⟩] }
theorem t11_ok : TIok Tryd.prog 11 t11 := ⟨by kernel_rfl, by kernel_rfl, rfl, rfl⟩
def t61 : TI := { und := .struct [(0, 1), (1, 1), (2, 4)], size := 6, bytes := 56, zero := .agg ([.int .i64 0, .int .i64 0, .int .i64 0, .string ⟨#[]⟩, .int .i64 0, .int .i64 0] : List Value).toArray, zs := [.int .i64 0, .int .i64 0, .int .i64 0, .string ⟨#[]⟩, .int .i64 0, .int .i64 0] }
theorem t61_ok : TIok Tryd.prog 61 t61 := ⟨by kernel_rfl, by kernel_rfl, rfl, rfl⟩
def t86 : TI := { und := .struct [(0, 1), (1, 1)], size := 2, bytes := 32, zero := .agg ([.pointer none, .slice none 0 0] : List Value).toArray, zs := [.pointer none, .slice none 0 0] }
theorem t86_ok : TIok Tryd.prog 86 t86 := ⟨by kernel_rfl, by kernel_rfl, rfl, rfl⟩
def t14 : TI := { und := .struct [(0, 1), (1, 1)], size := 2, bytes := 24, zero := .agg ([.string ⟨#[]⟩, .int .u64 0] : List Value).toArray, zs := [.string ⟨#[]⟩, .int .u64 0] }
theorem t14_ok : TIok Tryd.prog 14 t14 := ⟨by kernel_rfl, by kernel_rfl, rfl, rfl⟩
def t16 : TI := { und := .ptr 207, size := 1, bytes := 8, zero := .pointer none, zs := [.pointer none] }
theorem t16_ok : TIok Tryd.prog 16 t16 := ⟨by kernel_rfl, by kernel_rfl, rfl, rfl⟩
def t63 : TI := { und := .struct [(0, 1), (1, 1), (2, 4), (6, 1), (7, 1), (8, 6)], size := 14, bytes := 136, zero := .agg ([.int .i64 0, .int .i64 0, .int .i64 0, .string ⟨#[]⟩, .string ⟨#[]⟩, .int .i64 0, .int .i64 0, .int .i64 0, .int .i64 0, .int .i64 0, .int .i64 0, .string ⟨#[]⟩, .int .i64 0, .int .i64 0] : List Value).toArray, zs := [.int .i64 0, .int .i64 0, .int .i64 0, .string ⟨#[]⟩, .string ⟨#[]⟩, .int .i64 0, .int .i64 0, .int .i64 0, .int .i64 0, .int .i64 0, .int .i64 0, .string ⟨#[]⟩, .int .i64 0, .int .i64 0] }
theorem t63_ok : TIok Tryd.prog 63 t63 := ⟨by kernel_rfl, by kernel_rfl, rfl, rfl⟩
def t59 : TI := { und := .slice 63, size := 1, bytes := 24, zero := .slice none 0 0, zs := [.slice none 0 0] }
theorem t59_ok : TIok Tryd.prog 59 t59 := ⟨by kernel_rfl, by kernel_rfl, rfl, rfl⟩
def t13 : TI := { und := .struct [(0, 1), (1, 1)], size := 2, bytes := 24, zero := .agg ([.string ⟨#[]⟩, .int .u64 0] : List Value).toArray, zs := [.string ⟨#[]⟩, .int .u64 0] }
theorem t13_ok : TIok Tryd.prog 13 t13 := ⟨by kernel_rfl, by kernel_rfl, rfl, rfl⟩
def t83 : TI := { und := .ptr 86, size := 1, bytes := 8, zero := .pointer none, zs := [.pointer none] }
theorem t83_ok : TIok Tryd.prog 83 t83 := ⟨by kernel_rfl, by kernel_rfl, rfl, rfl⟩
def t128 : TI := { und := .ptr 131, size := 1, bytes := 8, zero := .pointer none, zs := [.pointer none] }
theorem t128_ok : TIok Tryd.prog 128 t128 := ⟨by kernel_rfl, by kernel_rfl, rfl, rfl⟩
def t15 : TI := { und := .ptr 204, size := 1, bytes := 8, zero := .pointer none, zs := [.pointer none] }
theorem t15_ok : TIok Tryd.prog 15 t15 := ⟨by kernel_rfl, by kernel_rfl, rfl, rfl⟩
def t118 : TI := { und := .struct [(0, 0), (0, 0), (0, 1)], size := 1, bytes := 8, zero := .agg ([.int .i64 0] : List Value).toArray, zs := [.int .i64 0] }
theorem t118_ok : TIok Tryd.prog 118 t118 := ⟨by kernel_rfl, by kernel_rfl, rfl, rfl⟩
def t55 : TI := { und := .struct [(0, 1), (1, 1)], size := 2, bytes := 16, zero := .agg ([.int .i64 0, .pointer none] : List Value).toArray, zs := [.int .i64 0, .pointer none] }
theorem t55_ok : TIok Tryd.prog 55 t55 := ⟨by kernel_rfl, by kernel_rfl, rfl, rfl⟩
def t18 : TI := { und := .struct [(0, 1)], size := 1, bytes := 8, zero := .agg ([.pointer none] : List Value).toArray, zs := [.pointer none] }
theorem t18_ok : TIok Tryd.prog 18 t18 := ⟨by kernel_rfl, by kernel_rfl, rfl, rfl⟩
def t107 : TI := { und := .struct [(0, 1), (1, 1), (2, 1), (3, 1), (4, 1), (5, 1), (6, 1), (7, 1), (8, 1)], size := 9, bytes := 9, zero := .agg ([.int .u8 0, .int .u8 0, .int .u8 0, .int .u8 0, .int .u8 0, .int .u8 0, .int .u8 0, .int .u8 0, .int .u8 0] : List Value).toArray, zs := [.int .u8 0, .int .u8 0, .int .u8 0, .int .u8 0, .int .u8 0, .int .u8 0, .int .u8 0, .int .u8 0, .int .u8 0] }
theorem t107_ok : TIok Tryd.prog 107 t107 := ⟨by kernel_rfl, by kernel_rfl, rfl, rfl⟩
def t34 : TI := { und := .struct [(0, 1), (1, 1), (2, 1), (3, 4)], size := 7, bytes := 72, zero := .agg ([.int .i64 0, .int .i64 0, .int .i64 0, .int .i64 0, .string ⟨#[]⟩, .string ⟨#[]⟩, .int .i64 0] : List Value).toArray, zs := [.int .i64 0, .int .i64 0, .int .i64 0, .int .i64 0, .string ⟨#[]⟩, .string ⟨#[]⟩, .int .i64 0] }
theorem t34_ok : TIok Tryd.prog 34 t34 := ⟨by kernel_rfl, by kernel_rfl, rfl, rfl⟩
def t139 : TI := { und := .other, size := 1, bytes := 8, zero := .map none, zs := [.map none] }
theorem t139_ok : TIok Tryd.prog 139 t139 := ⟨by kernel_rfl, by kernel_rfl, rfl, rfl⟩
def t17 : TI := { und := .ptr 214, size := 1, bytes := 8, zero := .pointer none, zs := [.pointer none] }
theorem t17_ok : TIok Tryd.prog 17 t17 := ⟨by kernel_rfl, by kernel_rfl, rfl, rfl⟩
def t131 : TI := { und := .struct [(0, 1), (1, 1), (2, 1), (3, 1)], size := 4, bytes := 64, zero := .agg ([.slice none 0 0, .int .i64 0, .map none, .slice none 0 0] : List Value).toArray, zs := [.slice none 0 0, .int .i64 0, .map none, .slice none 0 0] }
theorem t131_ok : TIok Tryd.prog 131 t131 := ⟨by kernel_rfl, by kernel_rfl, rfl, rfl⟩
def t143 : TI := { und := .struct [(0, 1), (1, 1)], size := 2, bytes := 24, zero := .agg ([.string ⟨#[]⟩, .int .i64 0] : List Value).toArray, zs := [.string ⟨#[]⟩, .int .i64 0] }
theorem t143_ok : TIok Tryd.prog 143 t143 := ⟨by kernel_rfl, by kernel_rfl, rfl, rfl⟩
def t136 : TI := { und := .struct [(0, 1), (1, 1), (2, 1)], size := 3, bytes := 40, zero := .agg ([.string ⟨#[]⟩, .string ⟨#[]⟩, .int .i64 0] : List Value).toArray, zs := [.string ⟨#[]⟩, .string ⟨#[]⟩, .int .i64 0] }
theorem t136_ok : TIok Tryd.prog 136 t136 := ⟨by kernel_rfl, by kernel_rfl, rfl, rfl⟩
def t111 : TI := { und := .slice 118, size := 1, bytes := 24, zero := .slice none 0 0, zs := [.slice none 0 0] }
theorem t111_ok : TIok Tryd.prog 111 t111 := ⟨by kernel_rfl, by kernel_rfl, rfl, rfl⟩
def t125 : TI := { und := .slice 2, size := 1, bytes := 24, zero := .slice none 0 0, zs := [.slice none 0 0] }
theorem t125_ok : TIok Tryd.prog 125 t125 := ⟨by kernel_rfl, by kernel_rfl, rfl, rfl⟩
def t21 : TI := { und := .int .i32, size := 1, bytes := 4, zero := .int .i32 0, zs := [.int .i32 0] }
theorem t21_ok : TIok Tryd.prog 21 t21 := ⟨by kernel_rfl, by kernel_rfl, rfl, rfl⟩
def t195 : TI := { und := .int .u64, size := 1, bytes := 8, zero := .int .u64 0, zs := [.int .u64 0] }
theorem t195_ok : TIok Tryd.prog 195 t195 := ⟨by kernel_rfl, by kernel_rfl, rfl, rfl⟩
def t60 : TI := { und := .struct [(0, 1), (1, 1), (2, 4)], size := 6, bytes := 56, zero := .agg ([.int .i64 0, .int .i64 0, .int .i64 0, .string ⟨#[]⟩, .int .i64 0, .int .i64 0] : List Value).toArray, zs := [.int .i64 0, .int .i64 0, .int .i64 0, .string ⟨#[]⟩, .int .i64 0, .int .i64 0] }
theorem t60_ok : TIok Tryd.prog 60 t60 := ⟨by kernel_rfl, by kernel_rfl, rfl, rfl⟩
def t113 : TI := { und := .struct [(0, 1)], size := 1, bytes := 24, zero := .agg ([.slice none 0 0] : List Value).toArray, zs := [.slice none 0 0] }
theorem t113_ok : TIok Tryd.prog 113 t113 := ⟨by kernel_rfl, by kernel_rfl, rfl, rfl⟩
def t187 : TI := { und := .int .i64, size := 1, bytes := 8, zero := .int .i64 0, zs := [.int .i64 0] }
theorem t187_ok : TIok Tryd.prog 187 t187 := ⟨by kernel_rfl, by kernel_rfl, rfl, rfl⟩
def t199 : TI := { und := .ptr 3, size := 1, bytes := 8, zero := .pointer none, zs := [.pointer none] }
theorem t199_ok : TIok Tryd.prog 199 t199 := ⟨by kernel_rfl, by kernel_rfl, rfl, rfl⟩
def t19 : TI := { und := .struct [(0, 1)], size := 1, bytes := 8, zero := .agg ([.pointer none] : List Value).toArray, zs := [.pointer none] }
theorem t19_ok : TIok Tryd.prog 19 t19 := ⟨by kernel_rfl, by kernel_rfl, rfl, rfl⟩
def t36 : TI := { und := .struct [(0, 1), (1, 1), (2, 1)], size := 3, bytes := 40, zero := .agg ([.int .i64 0, .slice none 0 0, .int .i64 0] : List Value).toArray, zs := [.int .i64 0, .slice none 0 0, .int .i64 0] }
theorem t36_ok : TIok Tryd.prog 36 t36 := ⟨by kernel_rfl, by kernel_rfl, rfl, rfl⟩
def t29 : TI := { und := .struct [(0, 1), (1, 1), (2, 1), (3, 1)], size := 4, bytes := 48, zero := .agg ([.int .i64 0, .string ⟨#[]⟩, .string ⟨#[]⟩, .int .i64 0] : List Value).toArray, zs := [.int .i64 0, .string ⟨#[]⟩, .string ⟨#[]⟩, .int .i64 0] }
theorem t29_ok : TIok Tryd.prog 29 t29 := ⟨by kernel_rfl, by kernel_rfl, rfl, rfl⟩
def t37 : TI := { und := .struct [(0, 1), (1, 1), (2, 1)], size := 3, bytes := 40, zero := .agg ([.int .i64 0, .slice none 0 0, .int .i64 0] : List Value).toArray, zs := [.int .i64 0, .slice none 0 0, .int .i64 0] }
theorem t37_ok : TIok Tryd.prog 37 t37 := ⟨by kernel_rfl, by kernel_rfl, rfl, rfl⟩
def t73 : TI := { und := .slice 107, size := 1, bytes := 24, zero := .slice none 0 0, zs := [.slice none 0 0] }
theorem t73_ok : TIok Tryd.prog 73 t73 := ⟨by kernel_rfl, by kernel_rfl, rfl, rfl⟩
def t94 : TI := { und := .slice 34, size := 1, bytes := 24, zero := .slice none 0 0, zs := [.slice none 0 0] }
theorem t94_ok : TIok Tryd.prog 94 t94 := ⟨by kernel_rfl, by kernel_rfl, rfl, rfl⟩
def t38 : TI := { und := .struct [(0, 1), (1, 1), (2, 1), (3, 1), (4, 1), (5, 1), (6, 1), (7, 4), (11, 4), (15, 1), (16, 7), (23, 3), (26, 1), (27, 1), (28, 1)], size := 29, bytes := 288, zero := .agg ([.int .i64 0, .int .i64 0, .int .i64 0, .int .i64 0, .int .i64 0, .int .i64 0, .int .i64 0, .int .i64 0, .string ⟨#[]⟩, .string ⟨#[]⟩, .int .i64 0, .int .i64 0, .string ⟨#[]⟩, .int .i64 0, .int .i64 0, .int .i64 0, .int .i64 0, .int .i64 0, .int .i64 0, .int .i64 0, .string ⟨#[]⟩, .string ⟨#[]⟩, .int .i64 0, .int .i64 0, .slice none 0 0, .int .i64 0, .int .i64 0, .int .i64 0, .int .i64 0] : List Value).toArray, zs := [.int .i64 0, .int .i64 0, .int .i64 0, .int .i64 0, .int .i64 0, .int .i64 0, .int .i64 0, .int .i64 0, .string ⟨#[]⟩, .string ⟨#[]⟩, .int .i64 0, .int .i64 0, .string ⟨#[]⟩, .int .i64 0, .int .i64 0, .int .i64 0, .int .i64 0, .int .i64 0, .int .i64 0, .int .i64 0, .string ⟨#[]⟩, .string ⟨#[]⟩, .int .i64 0, .int .i64 0, .slice none 0 0, .int .i64 0, .int .i64 0, .int .i64 0, .int .i64 0] }
theorem t38_ok : TIok Tryd.prog 38 t38 := ⟨by kernel_rfl, by kernel_rfl, rfl, rfl⟩
def t141 : TI := { und := .struct [(0, 1)], size := 1, bytes := 8, zero := .agg ([.map none] : List Value).toArray, zs := [.map none] }
theorem t141_ok : TIok Tryd.prog 141 t141 := ⟨by kernel_rfl, by kernel_rfl, rfl, rfl⟩
def t171 : TI := { und := .array 65 5, size := 65, bytes := 65, zero := .agg ([.int .u8 0, .int .u8 0, .int .u8 0, .int .u8 0, .int .u8 0, .int .u8 0, .int .u8 0, .int .u8 0, .int .u8 0, .int .u8 0, .int .u8 0, .int .u8 0, .int .u8 0, .int .u8 0, .int .u8 0, .int .u8 0, .int .u8 0, .int .u8 0, .int .u8 0, .int .u8 0, .int .u8 0, .int .u8 0, .int .u8 0, .int .u8 0, .int .u8 0, .int .u8 0, .int .u8 0, .int .u8 0, .int .u8 0, .int .u8 0, .int .u8 0, .int .u8 0, .int .u8 0, .int .u8 0, .int .u8 0, .int .u8 0, .int .u8 0, .int .u8 0, .int .u8 0, .int .u8 0, .int .u8 0, .int .u8 0, .int .u8 0, .int .u8 0, .int .u8 0, .int .u8 0, .int .u8 0, .int .u8 0, .int .u8 0, .int .u8 0, .int .u8 0, .int .u8 0, .int .u8 0, .int .u8 0, .int .u8 0, .int .u8 0, .int .u8 0, .int .u8 0, .int .u8 0, .int .u8 0, .int .u8 0, .int .u8 0, .int .u8 0, .int .u8 0, .int .u8 0] : List Value).toArray, zs := [.int .u8 0, .int .u8 0, .int .u8 0, .int .u8 0, .int .u8 0, .int .u8 0, .int .u8 0, .int .u8 0, .int .u8 0, .int .u8 0, .int .u8 0, .int .u8 0, .int .u8 0, .int .u8 0, .int .u8 0, .int .u8 0, .int .u8 0, .int .u8 0, .int .u8 0, .int .u8 0, .int .u8 0, .int .u8 0, .int .u8 0, .int .u8 0, .int .u8 0, .int .u8 0, .int .u8 0, .int .u8 0, .int .u8 0, .int .u8 0, .int .u8 0, .int .u8 0, .int .u8 0, .int .u8 0, .int .u8 0, .int .u8 0, .int .u8 0, .int .u8 0, .int .u8 0, .int .u8 0, .int .u8 0, .int .u8 0, .int .u8 0, .int .u8 0, .int .u8 0, .int .u8 0, .int .u8 0, .int .u8 0, .int .u8 0, .int .u8 0, .int .u8 0, .int .u8 0, .int .u8 0, .int .u8 0, .int .u8 0, .int .u8 0, .int .u8 0, .int .u8 0, .int .u8 0, .int .u8 0, .int .u8 0, .int .u8 0, .int .u8 0, .int .u8 0, .int .u8 0] }
theorem t171_ok : TIok Tryd.prog 171 t171 := ⟨by kernel_rfl, by kernel_rfl, rfl, rfl⟩
def t201 : TI := { und := .ptr 195, size := 1, bytes := 8, zero := .pointer none, zs := [.pointer none] }
theorem t201_ok : TIok Tryd.prog 201 t201 := ⟨by kernel_rfl, by kernel_rfl, rfl, rfl⟩
def t33 : TI := { und := .struct [(0, 1), (1, 1), (2, 1), (3, 4)], size := 7, bytes := 72, zero := .agg ([.int .i64 0, .int .i64 0, .int .i64 0, .int .i64 0, .string ⟨#[]⟩, .string ⟨#[]⟩, .int .i64 0] : List Value).toArray, zs := [.int .i64 0, .int .i64 0, .int .i64 0, .int .i64 0, .string ⟨#[]⟩, .string ⟨#[]⟩, .int .i64 0] }
theorem t33_ok : TIok Tryd.prog 33 t33 := ⟨by kernel_rfl, by kernel_rfl, rfl, rfl⟩
def t31 : TI := { und := .struct [(0, 1), (1, 1), (2, 1), (3, 1)], size := 4, bytes := 40, zero := .agg ([.int .i64 0, .string ⟨#[]⟩, .int .i64 0, .int .i64 0] : List Value).toArray, zs := [.int .i64 0, .string ⟨#[]⟩, .int .i64 0, .int .i64 0] }
theorem t31_ok : TIok Tryd.prog 31 t31 := ⟨by kernel_rfl, by kernel_rfl, rfl, rfl⟩
def t35 : TI := { und := .slice 216, size := 1, bytes := 24, zero := .slice none 0 0, zs := [.slice none 0 0] }
theorem t35_ok : TIok Tryd.prog 35 t35 := ⟨by kernel_rfl, by kernel_rfl, rfl, rfl⟩
def t145 : TI := { und := .ptr 118, size := 1, bytes := 8, zero := .pointer none, zs := [.pointer none] }
theorem t145_ok : TIok Tryd.prog 145 t145 := ⟨by kernel_rfl, by kernel_rfl, rfl, rfl⟩
def t147 : TI := { und := .ptr 2, size := 1, bytes := 8, zero := .pointer none, zs := [.pointer none] }
theorem t147_ok : TIok Tryd.prog 147 t147 := ⟨by kernel_rfl, by kernel_rfl, rfl, rfl⟩
def t156 : TI := { und := .struct [(0, 1), (1, 1)], size := 2, bytes := 24, zero := .agg ([.int .i64 0, .string ⟨#[]⟩] : List Value).toArray, zs := [.int .i64 0, .string ⟨#[]⟩] }
theorem t156_ok : TIok Tryd.prog 156 t156 := ⟨by kernel_rfl, by kernel_rfl, rfl, rfl⟩
def t159 : TI := { und := .array 24 5, size := 24, bytes := 24, zero := .agg ([.int .u8 0, .int .u8 0, .int .u8 0, .int .u8 0, .int .u8 0, .int .u8 0, .int .u8 0, .int .u8 0, .int .u8 0, .int .u8 0, .int .u8 0, .int .u8 0, .int .u8 0, .int .u8 0, .int .u8 0, .int .u8 0, .int .u8 0, .int .u8 0, .int .u8 0, .int .u8 0, .int .u8 0, .int .u8 0, .int .u8 0, .int .u8 0] : List Value).toArray, zs := [.int .u8 0, .int .u8 0, .int .u8 0, .int .u8 0, .int .u8 0, .int .u8 0, .int .u8 0, .int .u8 0, .int .u8 0, .int .u8 0, .int .u8 0, .int .u8 0, .int .u8 0, .int .u8 0, .int .u8 0, .int .u8 0, .int .u8 0, .int .u8 0, .int .u8 0, .int .u8 0, .int .u8 0, .int .u8 0, .int .u8 0, .int .u8 0] }
theorem t159_ok : TIok Tryd.prog 159 t159 := ⟨by kernel_rfl, by kernel_rfl, rfl, rfl⟩
def t54 : TI := { und := .struct [(0, 1), (1, 1)], size := 2, bytes := 16, zero := .agg ([.int .i64 0, .pointer none] : List Value).toArray, zs := [.int .i64 0, .pointer none] }
theorem t54_ok : TIok Tryd.prog 54 t54 := ⟨by kernel_rfl, by kernel_rfl, rfl, rfl⟩
def t62 : TI := { und := .struct [(0, 1), (1, 1), (2, 4), (6, 1), (7, 1), (8, 6)], size := 14, bytes := 136, zero := .agg ([.int .i64 0, .int .i64 0, .int .i64 0, .string ⟨#[]⟩, .string ⟨#[]⟩, .int .i64 0, .int .i64 0, .int .i64 0, .int .i64 0, .int .i64 0, .int .i64 0, .string ⟨#[]⟩, .int .i64 0, .int .i64 0] : List Value).toArray, zs := [.int .i64 0, .int .i64 0, .int .i64 0, .string ⟨#[]⟩, .string ⟨#[]⟩, .int .i64 0, .int .i64 0, .int .i64 0, .int .i64 0, .int .i64 0, .int .i64 0, .string ⟨#[]⟩, .int .i64 0, .int .i64 0] }
theorem t62_ok : TIok Tryd.prog 62 t62 := ⟨by kernel_rfl, by kernel_rfl, rfl, rfl⟩
def t129 : TI := { und := .other, size := 1, bytes := 8, zero := .map none, zs := [.map none] }
theorem t129_ok : TIok Tryd.prog 129 t129 := ⟨by kernel_rfl, by kernel_rfl, rfl, rfl⟩
def t169 : TI := { und := .array 20 160, size := 20, bytes := 160, zero := .agg ([.int .u64 0, .int .u64 0, .int .u64 0, .int .u64 0, .int .u64 0, .int .u64 0, .int .u64 0, .int .u64 0, .int .u64 0, .int .u64 0, .int .u64 0, .int .u64 0, .int .u64 0, .int .u64 0, .int .u64 0, .int .u64 0, .int .u64 0, .int .u64 0, .int .u64 0, .int .u64 0] : List Value).toArray, zs := [.int .u64 0, .int .u64 0, .int .u64 0, .int .u64 0, .int .u64 0, .int .u64 0, .int .u64 0, .int .u64 0, .int .u64 0, .int .u64 0, .int .u64 0, .int .u64 0, .int .u64 0, .int .u64 0, .int .u64 0, .int .u64 0, .int .u64 0, .int .u64 0, .int .u64 0, .int .u64 0] }
theorem t169_ok : TIok Tryd.prog 169 t169 := ⟨by kernel_rfl, by kernel_rfl, rfl, rfl⟩
def t182 : TI := { und := .array 32 5, size := 32, bytes := 32, zero := .agg ([.int .u8 0, .int .u8 0, .int .u8 0, .int .u8 0, .int .u8 0, .int .u8 0, .int .u8 0, .int .u8 0, .int .u8 0, .int .u8 0, .int .u8 0, .int .u8 0, .int .u8 0, .int .u8 0, .int .u8 0, .int .u8 0, .int .u8 0, .int .u8 0, .int .u8 0, .int .u8 0, .int .u8 0, .int .u8 0, .int .u8 0, .int .u8 0, .int .u8 0, .int .u8 0, .int .u8 0, .int .u8 0, .int .u8 0, .int .u8 0, .int .u8 0, .int .u8 0] : List Value).toArray, zs := [.int .u8 0, .int .u8 0, .int .u8 0, .int .u8 0, .int .u8 0, .int .u8 0, .int .u8 0, .int .u8 0, .int .u8 0, .int .u8 0, .int .u8 0, .int .u8 0, .int .u8 0, .int .u8 0, .int .u8 0, .int .u8 0, .int .u8 0, .int .u8 0, .int .u8 0, .int .u8 0, .int .u8 0, .int .u8 0, .int .u8 0, .int .u8 0, .int .u8 0, .int .u8 0, .int .u8 0, .int .u8 0, .int .u8 0, .int .u8 0, .int .u8 0, .int .u8 0] }
theorem t182_ok : TIok Tryd.prog 182 t182 := ⟨by kernel_rfl, by kernel_rfl, rfl, rfl⟩
def t183 : TI := { und := .array 64 5, size := 64, bytes := 64, zero := .agg ([.int .u8 0, .int .u8 0, .int .u8 0, .int .u8 0, .int .u8 0, .int .u8 0, .int .u8 0, .int .u8 0, .int .u8 0, .int .u8 0, .int .u8 0, .int .u8 0, .int .u8 0, .int .u8 0, .int .u8 0, .int .u8 0, .int .u8 0, .int .u8 0, .int .u8 0, .int .u8 0, .int .u8 0, .int .u8 0, .int .u8 0, .int .u8 0, .int .u8 0, .int .u8 0, .int .u8 0, .int .u8 0, .int .u8 0, .int .u8 0, .int .u8 0, .int .u8 0, .int .u8 0, .int .u8 0, .int .u8 0, .int .u8 0, .int .u8 0, .int .u8 0, .int .u8 0, .int .u8 0, .int .u8 0, .int .u8 0, .int .u8 0, .int .u8 0, .int .u8 0, .int .u8 0, .int .u8 0, .int .u8 0, .int .u8 0, .int .u8 0, .int .u8 0, .int .u8 0, .int .u8 0, .int .u8 0, .int .u8 0, .int .u8 0, .int .u8 0, .int .u8 0, .int .u8 0, .int .u8 0, .int .u8 0, .int .u8 0, .int .u8 0, .int .u8 0] : List Value).toArray, zs := [.int .u8 0, .int .u8 0, .int .u8 0, .int .u8 0, .int .u8 0, .int .u8 0, .int .u8 0, .int .u8 0, .int .u8 0, .int .u8 0, .int .u8 0, .int .u8 0, .int .u8 0, .int .u8 0, .int .u8 0, .int .u8 0, .int .u8 0, .int .u8 0, .int .u8 0, .int .u8 0, .int .u8 0, .int .u8 0, .int .u8 0, .int .u8 0, .int .u8 0, .int .u8 0, .int .u8 0, .int .u8 0, .int .u8 0, .int .u8 0, .int .u8 0, .int .u8 0, .int .u8 0, .int .u8 0, .int .u8 0, .int .u8 0, .int .u8 0, .int .u8 0, .int .u8 0, .int .u8 0, .int .u8 0, .int .u8 0, .int .u8 0, .int .u8 0, .int .u8 0, .int .u8 0, .int .u8 0, .int .u8 0, .int .u8 0, .int .u8 0, .int .u8 0, .int .u8 0, .int .u8 0, .int .u8 0, .int .u8 0, .int .u8 0, .int .u8 0, .int .u8 0, .int .u8 0, .int .u8 0, .int .u8 0, .int .u8 0, .int .u8 0, .int .u8 0] }
theorem t183_ok : TIok Tryd.prog 183 t183 := ⟨by kernel_rfl, by kernel_rfl, rfl, rfl⟩
def t106 : TI := { und := .struct [(0, 1), (1, 1), (2, 1), (3, 1), (4, 1), (5, 1), (6, 1), (7, 1), (8, 1)], size := 9, bytes := 9, zero := .agg ([.int .u8 0, .int .u8 0, .int .u8 0, .int .u8 0, .int .u8 0, .int .u8 0, .int .u8 0, .int .u8 0, .int .u8 0] : List Value).toArray, zs := [.int .u8 0, .int .u8 0, .int .u8 0, .int .u8 0, .int .u8 0, .int .u8 0, .int .u8 0, .int .u8 0, .int .u8 0] }
theorem t106_ok : TIok Tryd.prog 106 t106 := ⟨by kernel_rfl, by kernel_rfl, rfl, rfl⟩
def t112 : TI := { und := .struct [(0, 1)], size := 1, bytes := 24, zero := .agg ([.slice none 0 0] : List Value).toArray, zs := [.slice none 0 0] }
theorem t112_ok : TIok Tryd.prog 112 t112 := ⟨by kernel_rfl, by kernel_rfl, rfl, rfl⟩
def t116 : TI := { und := .struct [], size := 0, bytes := 0, zero := .agg ([] : List Value).toArray, zs := [] }
theorem t116_ok : TIok Tryd.prog 116 t116 := ⟨by kernel_rfl, by kernel_rfl, rfl, rfl⟩
def t124 : TI := { und := .ptr 5, size := 1, bytes := 8, zero := .pointer none, zs := [.pointer none] }
theorem t124_ok : TIok Tryd.prog 124 t124 := ⟨by kernel_rfl, by kernel_rfl, rfl, rfl⟩
def t85 : TI := { und := .struct [(0, 1), (1, 1)], size := 2, bytes := 32, zero := .agg ([.pointer none, .slice none 0 0] : List Value).toArray, zs := [.pointer none, .slice none 0 0] }
theorem t85_ok : TIok Tryd.prog 85 t85 := ⟨by kernel_rfl, by kernel_rfl, rfl, rfl⟩
def t114 : TI := { und := .struct [], size := 0, bytes := 0, zero := .agg ([] : List Value).toArray, zs := [] }
theorem t114_ok : TIok Tryd.prog 114 t114 := ⟨by kernel_rfl, by kernel_rfl, rfl, rfl⟩
def t117 : TI := { und := .struct [(0, 0), (0, 0), (0, 1)], size := 1, bytes := 8, zero := .agg ([.int .i64 0] : List Value).toArray, zs := [.int .i64 0] }
theorem t117_ok : TIok Tryd.prog 117 t117 := ⟨by kernel_rfl, by kernel_rfl, rfl, rfl⟩
def t115 : TI := { und := .struct [], size := 0, bytes := 0, zero := .agg ([] : List Value).toArray, zs := [] }
theorem t115_ok : TIok Tryd.prog 115 t115 := ⟨by kernel_rfl, by kernel_rfl, rfl, rfl⟩
def t130 : TI := { und := .struct [(0, 1), (1, 1), (2, 1), (3, 1)], size := 4, bytes := 64, zero := .agg ([.slice none 0 0, .int .i64 0, .map none, .slice none 0 0] : List Value).toArray, zs := [.slice none 0 0, .int .i64 0, .map none, .slice none 0 0] }
theorem t130_ok : TIok Tryd.prog 130 t130 := ⟨by kernel_rfl, by kernel_rfl, rfl, rfl⟩
def t140 : TI := { und := .struct [(0, 1)], size := 1, bytes := 8, zero := .agg ([.map none] : List Value).toArray, zs := [.map none] }
theorem t140_ok : TIok Tryd.prog 140 t140 := ⟨by kernel_rfl, by kernel_rfl, rfl, rfl⟩
def t142 : TI := { und := .struct [(0, 1), (1, 1)], size := 2, bytes := 24, zero := .agg ([.string ⟨#[]⟩, .int .i64 0] : List Value).toArray, zs := [.string ⟨#[]⟩, .int .i64 0] }
theorem t142_ok : TIok Tryd.prog 142 t142 := ⟨by kernel_rfl, by kernel_rfl, rfl, rfl⟩
def t155 : TI := { und := .struct [(0, 1), (1, 1)], size := 2, bytes := 24, zero := .agg ([.int .i64 0, .string ⟨#[]⟩] : List Value).toArray, zs := [.int .i64 0, .string ⟨#[]⟩] }
theorem t155_ok : TIok Tryd.prog 155 t155 := ⟨by kernel_rfl, by kernel_rfl, rfl, rfl⟩
def t209 : TI := { und := .int .u8, size := 1, bytes := 1, zero := .int .u8 0, zs := [.int .u8 0] }
theorem t209_ok : TIok Tryd.prog 209 t209 := ⟨by kernel_rfl, by kernel_rfl, rfl, rfl⟩
def t215 : TI := { und := .struct [(0, 1), (1, 1)], size := 2, bytes := 16, zero := .agg ([.int .i64 0, .int .i64 0] : List Value).toArray, zs := [.int .i64 0, .int .i64 0] }
theorem t215_ok : TIok Tryd.prog 215 t215 := ⟨by kernel_rfl, by kernel_rfl, rfl, rfl⟩
def t135 : TI := { und := .struct [(0, 1), (1, 1), (2, 1)], size := 3, bytes := 40, zero := .agg ([.string ⟨#[]⟩, .string ⟨#[]⟩, .int .i64 0] : List Value).toArray, zs := [.string ⟨#[]⟩, .string ⟨#[]⟩, .int .i64 0] }
theorem t135_ok : TIok Tryd.prog 135 t135 := ⟨by kernel_rfl, by kernel_rfl, rfl, rfl⟩
def t203 : TI := { und := .struct [(0, 1), (1, 1), (2, 1), (3, 1)], size := 4, bytes := 40, zero := .agg ([.pointer none, .pointer none, .pointer none, .string ⟨#[]⟩] : List Value).toArray, zs := [.pointer none, .pointer none, .pointer none, .string ⟨#[]⟩] }
theorem t203_ok : TIok Tryd.prog 203 t203 := ⟨by kernel_rfl, by kernel_rfl, rfl, rfl⟩
def t204 : TI := { und := .struct [(0, 1), (1, 1), (2, 1), (3, 1)], size := 4, bytes := 40, zero := .agg ([.pointer none, .pointer none, .pointer none, .string ⟨#[]⟩] : List Value).toArray, zs := [.pointer none, .pointer none, .pointer none, .string ⟨#[]⟩] }
theorem t204_ok : TIok Tryd.prog 204 t204 := ⟨by kernel_rfl, by kernel_rfl, rfl, rfl⟩
def t205 : TI := { und := .array 0 16, size := 0, bytes := 0, zero := .agg ([] : List Value).toArray, zs := [] }
theorem t205_ok : TIok Tryd.prog 205 t205 := ⟨by kernel_rfl, by kernel_rfl, rfl, rfl⟩
def t206 : TI := { und := .struct [(0, 0)], size := 0, bytes := 0, zero := .agg ([] : List Value).toArray, zs := [] }
theorem t206_ok : TIok Tryd.prog 206 t206 := ⟨by kernel_rfl, by kernel_rfl, rfl, rfl⟩
def t207 : TI := { und := .struct [(0, 0)], size := 0, bytes := 0, zero := .agg ([] : List Value).toArray, zs := [] }
theorem t207_ok : TIok Tryd.prog 207 t207 := ⟨by kernel_rfl, by kernel_rfl, rfl, rfl⟩
def t208 : TI := { und := .int .u8, size := 1, bytes := 1, zero := .int .u8 0, zs := [.int .u8 0] }
theorem t208_ok : TIok Tryd.prog 208 t208 := ⟨by kernel_rfl, by kernel_rfl, rfl, rfl⟩
def t211 : TI := { und := .int .i32, size := 1, bytes := 4, zero := .int .i32 0, zs := [.int .i32 0] }
theorem t211_ok : TIok Tryd.prog 211 t211 := ⟨by kernel_rfl, by kernel_rfl, rfl, rfl⟩
def t212 : TI := { und := .int .i32, size := 1, bytes := 4, zero := .int .i32 0, zs := [.int .i32 0] }
theorem t212_ok : TIok Tryd.prog 212 t212 := ⟨by kernel_rfl, by kernel_rfl, rfl, rfl⟩
def t216 : TI := { und := .struct [(0, 1), (1, 1)], size := 2, bytes := 16, zero := .agg ([.int .i64 0, .int .i64 0] : List Value).toArray, zs := [.int .i64 0, .int .i64 0] }
theorem t216_ok : TIok Tryd.prog 216 t216 := ⟨by kernel_rfl, by kernel_rfl, rfl, rfl⟩
def tab : Tab := [(3, t3), (4, t4), (2, t2), (9, t9), (5, t5), (25, t25), (26, t26), (6, t6), (30, t30), (122, t122), (7, t7), (170, t170), (64, t64), (32, t32), (8, t8), (160, t160), (10, t10), (57, t57), (39, t39), (68, t68), (53, t53), (22, t22), (12, t12), (104, t104), (97, t97), (84, t84), (172, t172), (11, t11), (61, t61), (86, t86), (14, t14), (16, t16), (63, t63), (59, t59), (13, t13), (83, t83), (128, t128), (15, t15), (118, t118), (55, t55), (18, t18), (107, t107), (34, t34), (139, t139), (17, t17), (131, t131), (143, t143), (136, t136), (111, t111), (125, t125), (21, t21), (195, t195), (60, t60), (113, t113), (187, t187), (199, t199), (19, t19), (36, t36), (29, t29), (37, t37), (73, t73), (94, t94), (38, t38), (141, t141), (171, t171), (201, t201), (33, t33), (31, t31), (35, t35), (145, t145), (147, t147), (156, t156), (159, t159), (54, t54), (62, t62), (129, t129), (169, t169), (182, t182), (183, t183), (106, t106), (112, t112), (116, t116), (124, t124), (85, t85), (114, t114), (117, t117), (115, t115), (130, t130), (140, t140), (142, t142), (155, t155), (209, t209), (215, t215), (135, t135), (203, t203), (204, t204), (205, t205), (206, t206), (207, t207), (208, t208), (211, t211), (212, t212), (216, t216)]
theorem tabOk : TabOk Tryd.prog tab := by
  intro p hp
  have key : ∀ (l : Tab), (∀ p ∈ l, TIok Tryd.prog p.1 p.2) → ∀ k ti, TIok Tryd.prog k ti → ∀ p ∈ (k, ti) :: l, TIok Tryd.prog p.1 p.2 := fun l h k ti h1 p hp => by
    rcases List.mem_cons.1 hp with rfl | hp
    · exact h1
    · exact h p hp
  exact key _ (key _ (key _ (key _ (key _ (key _ (key _ (key _ (key _ (key _ (key _ (key _ (key _ (key _ (key _ (key _ (key _ (key _ (key _ (key _ (key _ (key _ (key _ (key _ (key _ (key _ (key _ (key _ (key _ (key _ (key _ (key _ (key _ (key _ (key _ (key _ (key _ (key _ (key _ (key _ (key _ (key _ (key _ (key _ (key _ (key _ (key _ (key _ (key _ (key _ (key _ (key _ (key _ (key _ (key _ (key _ (key _ (key _ (key _ (key _ (key _ (key _ (key _ (key _ (key _ (key _ (key _ (key _ (key _ (key _ (key _ (key _ (key _ (key _ (key _ (key _ (key _ (key _ (key _ (key _ (key _ (key _ (key _ (key _ (key _ (key _ (key _ (key _ (key _ (key _ (key _ (key _ (key _ (key _ (key _ (key _ (key _ (key _ (key _ (key _ (key _ (key _ (key _ (fun p h => by cases h) _ _ t216_ok) _ _ t212_ok) _ _ t211_ok) _ _ t208_ok) _ _ t207_ok) _ _ t206_ok) _ _ t205_ok) _ _ t204_ok) _ _ t203_ok) _ _ t135_ok) _ _ t215_ok) _ _ t209_ok) _ _ t155_ok) _ _ t142_ok) _ _ t140_ok) _ _ t130_ok) _ _ t115_ok) _ _ t117_ok) _ _ t114_ok) _ _ t85_ok) _ _ t124_ok) _ _ t116_ok) _ _ t112_ok) _ _ t106_ok) _ _ t183_ok) _ _ t182_ok) _ _ t169_ok) _ _ t129_ok) _ _ t62_ok) _ _ t54_ok) _ _ t159_ok) _ _ t156_ok) _ _ t147_ok) _ _ t145_ok) _ _ t35_ok) _ _ t31_ok) _ _ t33_ok) _ _ t201_ok) _ _ t171_ok) _ _ t141_ok) _ _ t38_ok) _ _ t94_ok) _ _ t73_ok) _ _ t37_ok) _ _ t29_ok) _ _ t36_ok) _ _ t19_ok) _ _ t199_ok) _ _ t187_ok) _ _ t113_ok) _ _ t60_ok) _ _ t195_ok) _ _ t21_ok) _ _ t125_ok) _ _ t111_ok) _ _ t136_ok) _ _ t143_ok) _ _ t131_ok) _ _ t17_ok) _ _ t139_ok) _ _ t34_ok) _ _ t107_ok) _ _ t18_ok) _ _ t55_ok) _ _ t118_ok) _ _ t15_ok) _ _ t128_ok) _ _ t83_ok) _ _ t13_ok) _ _ t59_ok) _ _ t63_ok) _ _ t16_ok) _ _ t14_ok) _ _ t86_ok) _ _ t61_ok) _ _ t11_ok) _ _ t172_ok) _ _ t84_ok) _ _ t97_ok) _ _ t104_ok) _ _ t12_ok) _ _ t22_ok) _ _ t53_ok) _ _ t68_ok) _ _ t39_ok) _ _ t57_ok) _ _ t10_ok) _ _ t160_ok) _ _ t8_ok) _ _ t32_ok) _ _ t64_ok) _ _ t170_ok) _ _ t7_ok) _ _ t122_ok) _ _ t30_ok) _ _ t6_ok) _ _ t26_ok) _ _ t25_ok) _ _ t5_ok) _ _ t9_ok) _ _ t2_ok) _ _ t4_ok) _ _ t3_ok p hp
end Go.Proofs.YtoinocihlfmnnaaDoor.T
