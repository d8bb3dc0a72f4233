/- What is known of this program's types: sizes, zeros, the places of fields. Each entry is checked by the kernel. (Written by wip/tab.py.) -/
import Derived.Test.YthabecjplpomhaaDoorVgA
import Derived.Test.YthabecjplpomhaaDoorRows
import Derived.KernelRfl
namespace Go.Proofs.YthabecjplpomhaaDoor.T
open Go Go.Proofs.YthabecjplpomhaaDoor.Vg
def t3 : TI := { und := .int .i64, size := 1, bytes := 8, zero := .int .i64 0, zs := [.int .i64 0] }
theorem t3_ok : TIok Tryd.prog 3 t3 := ⟨by kernel_rfl, by kernel_rfl, rfl, rfl⟩
def t4 : TI := { und := .bool, size := 1, bytes := 1, zero := .bool false, zs := [.bool false] }
theorem t4_ok : TIok Tryd.prog 4 t4 := ⟨by kernel_rfl, by kernel_rfl, rfl, rfl⟩
def t2 : TI := { und := .int .i64, size := 1, bytes := 8, zero := .int .i64 0, zs := [.int .i64 0] }
theorem t2_ok : TIok Tryd.prog 2 t2 := ⟨by kernel_rfl, by kernel_rfl, rfl, rfl⟩
def t5 : TI := { und := .int .u8, size := 1, bytes := 1, zero := .int .u8 0, zs := [.int .u8 0] }
theorem t5_ok : TIok Tryd.prog 5 t5 := ⟨by kernel_rfl, by kernel_rfl, rfl, rfl⟩
def t9 : TI := { und := .string, size := 1, bytes := 16, zero := .string ⟨#[]⟩, zs := [.string ⟨#[]⟩] }
theorem t9_ok : TIok Tryd.prog 9 t9 := ⟨by kernel_rfl, by kernel_rfl, rfl, rfl⟩
def t93 : TI := { und := .slice 9, size := 1, bytes := 24, zero := .slice none 0 0, zs := [.slice none 0 0] }
theorem t93_ok : TIok Tryd.prog 93 t93 := ⟨by kernel_rfl, by kernel_rfl, rfl, rfl⟩
def t27 : TI := { und := .struct [(0, 1), (1, 1), (2, 1), (3, 1)], size := 4, bytes := 48, zero := .agg ([.int .i64 0, .string ⟨#[]⟩, .string ⟨#[]⟩, .int .i64 0] : List Value).toArray, zs := [.int .i64 0, .string ⟨#[]⟩, .string ⟨#[]⟩, .int .i64 0] }
theorem t27_ok : TIok Tryd.prog 27 t27 := ⟨by kernel_rfl, by kernel_rfl, rfl, rfl⟩
def t7 : TI := { und := .struct [(0, 1), (1, 1), (2, 1), (3, 1)], size := 4, bytes := 24, zero := .agg ([.int .i64 0, .int .i64 0, .bool false, .int .u8 0] : List Value).toArray, zs := [.int .i64 0, .int .i64 0, .bool false, .int .u8 0] }
theorem t7_ok : TIok Tryd.prog 7 t7 := ⟨by kernel_rfl, by kernel_rfl, rfl, rfl⟩
def t6 : TI := { und := .int .u8, size := 1, bytes := 1, zero := .int .u8 0, zs := [.int .u8 0] }
theorem t6_ok : TIok Tryd.prog 6 t6 := ⟨by kernel_rfl, by kernel_rfl, rfl, rfl⟩
def t133 : TI := { und := .int .u32, size := 1, bytes := 4, zero := .int .u32 0, zs := [.int .u32 0] }
theorem t133_ok : TIok Tryd.prog 133 t133 := ⟨by kernel_rfl, by kernel_rfl, rfl, rfl⟩
def t34 : TI := { und := .struct [(0, 1), (1, 1), (2, 4), (6, 1), (7, 1), (8, 6)], size := 14, bytes := 136, zero := .agg ([.int .i64 0, .int .i64 0, .int .i64 0, .string ⟨#[]⟩, .string ⟨#[]⟩, .int .i64 0, .int .i64 0, .int .i64 0, .int .i64 0, .int .i64 0, .int .i64 0, .string ⟨#[]⟩, .int .i64 0, .int .i64 0] : List Value).toArray, zs := [.int .i64 0, .int .i64 0, .int .i64 0, .string ⟨#[]⟩, .string ⟨#[]⟩, .int .i64 0, .int .i64 0, .int .i64 0, .int .i64 0, .int .i64 0, .int .i64 0, .string ⟨#[]⟩, .int .i64 0, .int .i64 0] }
theorem t34_ok : TIok Tryd.prog 34 t34 := ⟨by kernel_rfl, by kernel_rfl, rfl, rfl⟩
def t29 : TI := { und := .struct [(0, 1), (1, 1), (2, 1), (3, 1)], size := 4, bytes := 40, zero := .agg ([.int .i64 0, .string ⟨#[]⟩, .int .i64 0, .int .i64 0] : List Value).toArray, zs := [.int .i64 0, .string ⟨#[]⟩, .int .i64 0, .int .i64 0] }
theorem t29_ok : TIok Tryd.prog 29 t29 := ⟨by kernel_rfl, by kernel_rfl, rfl, rfl⟩
def t118 : TI := { und := .int .u64, size := 1, bytes := 8, zero := .int .u64 0, zs := [.int .u64 0] }
theorem t118_ok : TIok Tryd.prog 118 t118 := ⟨by kernel_rfl, by kernel_rfl, rfl, rfl⟩
def t35 : TI := { und := .int .i64, size := 1, bytes := 8, zero := .int .i64 0, zs := [.int .i64 0] }
theorem t35_ok : TIok Tryd.prog 35 t35 := ⟨by kernel_rfl, by kernel_rfl, rfl, rfl⟩
def t8 : TI := { und := .struct [(0, 1), (1, 1), (2, 1), (3, 1)], size := 4, bytes := 24, zero := .agg ([.int .i64 0, .int .i64 0, .bool false, .int .u8 0] : List Value).toArray, zs := [.int .i64 0, .int .i64 0, .bool false, .int .u8 0] }
theorem t8_ok : TIok Tryd.prog 8 t8 := ⟨by kernel_rfl, by kernel_rfl, rfl, rfl⟩
def t22 : TI := { und := .slice 34, size := 1, bytes := 24, zero := .slice none 0 0, zs := [.slice none 0 0] }
theorem t22_ok : TIok Tryd.prog 22 t22 := ⟨by kernel_rfl, by kernel_rfl, rfl, rfl⟩
def t39 : TI := { und := .slice 3, size := 1, bytes := 24, zero := .slice none 0 0, zs := [.slice none 0 0] }
theorem t39_ok : TIok Tryd.prog 39 t39 := ⟨by kernel_rfl, by kernel_rfl, rfl, rfl⟩
def t59 : TI := { und := .ptr 79, size := 1, bytes := 8, zero := .pointer none, zs := [.pointer none] }
theorem t59_ok : TIok Tryd.prog 59 t59 := ⟨by kernel_rfl, by kernel_rfl, rfl, rfl⟩
def t52 : TI := { und := .slice 74, size := 1, bytes := 24, zero := .slice none 0 0, zs := [.slice none 0 0] }
theorem t52_ok : TIok Tryd.prog 52 t52 := ⟨by kernel_rfl, by kernel_rfl, rfl, rfl⟩
def t10 : TI := { und := .string, size := 1, bytes := 16, zero := .string ⟨#[]⟩, zs := [.string ⟨#[]⟩] }
theorem t10_ok : TIok Tryd.prog 10 t10 := ⟨by kernel_rfl, by kernel_rfl, rfl, rfl⟩
def t116 : TI := { und := .int .u64, size := 1, bytes := 8, zero := .int .u64 0, zs := [.int .u64 0] }
theorem t116_ok : TIok Tryd.prog 116 t116 := ⟨by kernel_rfl, by kernel_rfl, rfl, rfl⟩
def t31 : TI := { und := .struct [(0, 1), (1, 1), (2, 4)], size := 6, bytes := 56, zero := .agg ([.int .i64 0, .int .i64 0, .int .i64 0, .string ⟨#[]⟩, .int .i64 0, .int .i64 0] : List Value).toArray, zs := [.int .i64 0, .int .i64 0, .int .i64 0, .string ⟨#[]⟩, .int .i64 0, .int .i64 0] }
theorem t31_ok : TIok Tryd.prog 31 t31 := ⟨by kernel_rfl, by kernel_rfl, rfl, rfl⟩
def t80 : TI := { und := .slice 5, size := 1, bytes := 24, zero := .slice none 0 0, zs := [.slice none 0 0] }
theorem t80_ok : TIok Tryd.prog 80 t80 := ⟨by kernel_rfl, by kernel_rfl, rfl, rfl⟩
def t25 : TI := { und := .slice 33, size := 1, bytes := 24, zero := .slice none 0 0, zs := [.slice none 0 0] }
theorem t25_ok : TIok Tryd.prog 25 t25 := ⟨by kernel_rfl, by kernel_rfl, rfl, rfl⟩
def t11 : TI := { und := .string, size := 1, bytes := 16, zero := .string ⟨#[]⟩, zs := [.string ⟨#[]⟩] }
theorem t11_ok : TIok Tryd.prog 11 t11 := ⟨by kernel_rfl, by kernel_rfl, rfl, rfl⟩
def t33 : TI := { und := .struct [(0, 1), (1, 1), (2, 4), (6, 1), (7, 1), (8, 6)], size := 14, bytes := 136, zero := .agg ([.int .i64 0, .int .i64 0, .int .i64 0, .string ⟨#[]⟩, .string ⟨#[]⟩, .int .i64 0, .int .i64 0, .int .i64 0, .int .i64 0, .int .i64 0, .int .i64 0, .string ⟨#[]⟩, .int .i64 0, .int .i64 0] : List Value).toArray, zs := [.int .i64 0, .int .i64 0, .int .i64 0, .string ⟨#[]⟩, .string ⟨#[]⟩, .int .i64 0, .int .i64 0, .int .i64 0, .int .i64 0, .int .i64 0, .int .i64 0, .string ⟨#[]⟩, .int .i64 0, .int .i64 0] }
theorem t33_ok : TIok Tryd.prog 33 t33 := ⟨by kernel_rfl, by kernel_rfl, rfl, rfl⟩
def t12 : TI := { und := .int .u64, size := 1, bytes := 8, zero := .int .u64 0, zs := [.int .u64 0] }
theorem t12_ok : TIok Tryd.prog 12 t12 := ⟨by kernel_rfl, by kernel_rfl, rfl, rfl⟩
def t66 : TI := { und := .ptr 69, size := 1, bytes := 8, zero := .pointer none, zs := [.pointer none] }
theorem t66_ok : TIok Tryd.prog 66 t66 := ⟨by kernel_rfl, by kernel_rfl, rfl, rfl⟩
def t13 : TI := { und := .struct [(0, 1), (1, 1)], size := 2, bytes := 24, zero := .agg ([.string ⟨#[]⟩, .int .u64 0] : List Value).toArray, zs := [.string ⟨#[]⟩, .int .u64 0] }
theorem t13_ok : TIok Tryd.prog 13 t13 := ⟨by kernel_rfl, by kernel_rfl, rfl, rfl⟩
def t14 : TI := { und := .struct [(0, 1), (1, 1)], size := 2, bytes := 24, zero := .agg ([.string ⟨#[]⟩, .int .u64 0] : List Value).toArray, zs := [.string ⟨#[]⟩, .int .u64 0] }
theorem t14_ok : TIok Tryd.prog 14 t14 := ⟨by kernel_rfl, by kernel_rfl, rfl, rfl⟩
def t62 : TI := { und := .struct [(0, 1), (1, 1), (2, 1), (3, 1), (4, 1), (5, 1), (6, 1), (7, 1), (8, 1)], size := 9, bytes := 9, zero := .agg ([.int .u8 0, .int .u8 0, .int .u8 0, .int .u8 0, .int .u8 0, .int .u8 0, .int .u8 0, .int .u8 0, .int .u8 0] : List Value).toArray, zs := [.int .u8 0, .int .u8 0, .int .u8 0, .int .u8 0, .int .u8 0, .int .u8 0, .int .u8 0, .int .u8 0, .int .u8 0] }
theorem t62_ok : TIok Tryd.prog 62 t62 := ⟨by kernel_rfl, by kernel_rfl, rfl, rfl⟩
def t74 : TI := { und := .struct [(0, 1), (1, 1), (2, 1)], size := 3, bytes := 40, zero := .agg ([.string ⟨#[]⟩, .string ⟨#[]⟩, .int .i64 0] : List Value).toArray, zs := [.string ⟨#[]⟩, .string ⟨#[]⟩, .int .i64 0] }
theorem t74_ok : TIok Tryd.prog 74 t74 := ⟨by kernel_rfl, by kernel_rfl, rfl, rfl⟩
def t77 : TI := { und := .other, size := 1, bytes := 8, zero := .map none, zs := [.map none] }
theorem t77_ok : TIok Tryd.prog 77 t77 := ⟨by kernel_rfl, by kernel_rfl, rfl, rfl⟩
def t67 : TI := { und := .other, size := 1, bytes := 8, zero := .map none, zs := [.map none] }
theorem t67_ok : TIok Tryd.prog 67 t67 := ⟨by kernel_rfl, by kernel_rfl, rfl, rfl⟩
def t82 : TI := { und := .struct [(0, 1), (1, 1)], size := 2, bytes := 24, zero := .agg ([.string ⟨#[]⟩, .int .i64 0] : List Value).toArray, zs := [.string ⟨#[]⟩, .int .i64 0] }
theorem t82_ok : TIok Tryd.prog 82 t82 := ⟨by kernel_rfl, by kernel_rfl, rfl, rfl⟩
def t90 : TI := { und := .ptr 92, size := 1, bytes := 8, zero := .pointer none, zs := [.pointer none] }
theorem t90_ok : TIok Tryd.prog 90 t90 := ⟨by kernel_rfl, by kernel_rfl, rfl, rfl⟩
def t69 : TI := { und := .struct [(0, 1), (1, 1), (2, 1), (3, 1)], size := 4, bytes := 64, zero := .agg ([.slice none 0 0, .int .i64 0, .map none, .slice none 0 0] : List Value).toArray, zs := [.slice none 0 0, .int .i64 0, .map none, .slice none 0 0] }
theorem t69_ok : TIok Tryd.prog 69 t69 := ⟨by kernel_rfl, by kernel_rfl, rfl, rfl⟩
def t138 : TI := { und := .int .u64, size := 1, bytes := 8, zero := .int .u64 0, zs := [.int .u64 0] }
theorem t138_ok : TIok Tryd.prog 138 t138 := ⟨by kernel_rfl, by kernel_rfl, rfl, rfl⟩
def t15 : TI := { und := .ptr 150, size := 1, bytes := 8, zero := .pointer none, zs := [.pointer none] }
theorem t15_ok : TIok Tryd.prog 15 t15 := ⟨by kernel_rfl, by kernel_rfl, rfl, rfl⟩
def t16 : TI := { und := .ptr 153, size := 1, bytes := 8, zero := .pointer none, zs := [.pointer none] }
theorem t16_ok : TIok Tryd.prog 16 t16 := ⟨by kernel_rfl, by kernel_rfl, rfl, rfl⟩
def t79 : TI := { und := .struct [(0, 1)], size := 1, bytes := 8, zero := .agg ([.map none] : List Value).toArray, zs := [.map none] }
theorem t79_ok : TIok Tryd.prog 79 t79 := ⟨by kernel_rfl, by kernel_rfl, rfl, rfl⟩
def t92 : TI := { und := .struct [(0, 1), (1, 1)], size := 2, bytes := 32, zero := .agg ([.pointer none, .slice none 0 0] : List Value).toArray, zs := [.pointer none, .slice none 0 0] }
theorem t92_ok : TIok Tryd.prog 92 t92 := ⟨by kernel_rfl, by kernel_rfl, rfl, rfl⟩
def t124 : TI := { und := .int .i64, size := 1, bytes := 8, zero := .int .i64 0, zs := [.int .i64 0] }
theorem t124_ok : TIok Tryd.prog 124 t124 := ⟨by kernel_rfl, by kernel_rfl, rfl, rfl⟩
def t142 : TI := { und := .ptr 3, size := 1, bytes := 8, zero := .pointer none, zs := [.pointer none] }
theorem t142_ok : TIok Tryd.prog 142 t142 := ⟨by kernel_rfl, by kernel_rfl, rfl, rfl⟩
def t18 : TI := { und := .struct [(0, 1)], size := 1, bytes := 8, zero := .agg ([.pointer none] : List Value).toArray, zs := [.pointer none] }
theorem t18_ok : TIok Tryd.prog 18 t18 := ⟨by kernel_rfl, by kernel_rfl, rfl, rfl⟩
def t19 : TI := { und := .struct [(0, 1)], size := 1, bytes := 8, zero := .agg ([.pointer none] : List Value).toArray, zs := [.pointer none] }
theorem t19_ok : TIok Tryd.prog 19 t19 := ⟨by kernel_rfl, by kernel_rfl, rfl, rfl⟩
def t44 : TI := { und := .slice 62, size := 1, bytes := 24, zero := .slice none 0 0, zs := [.slice none 0 0] }
theorem t44_ok : TIok Tryd.prog 44 t44 := ⟨by kernel_rfl, by kernel_rfl, rfl, rfl⟩
def t47 : TI := { und := .slice 49, size := 1, bytes := 24, zero := .slice none 0 0, zs := [.slice none 0 0] }
theorem t47_ok : TIok Tryd.prog 47 t47 := ⟨by kernel_rfl, by kernel_rfl, rfl, rfl⟩
def t32 : TI := { und := .struct [(0, 1), (1, 1), (2, 4), (6, 1), (7, 1), (8, 6)], size := 14, bytes := 136, zero := .agg ([.int .i64 0, .int .i64 0, .int .i64 0, .string ⟨#[]⟩, .string ⟨#[]⟩, .int .i64 0, .int .i64 0, .int .i64 0, .int .i64 0, .int .i64 0, .int .i64 0, .string ⟨#[]⟩, .int .i64 0, .int .i64 0] : List Value).toArray, zs := [.int .i64 0, .int .i64 0, .int .i64 0, .string ⟨#[]⟩, .string ⟨#[]⟩, .int .i64 0, .int .i64 0, .int .i64 0, .int .i64 0, .int .i64 0, .int .i64 0, .string ⟨#[]⟩, .int .i64 0, .int .i64 0] }
theorem t32_ok : TIok Tryd.prog 32 t32 := ⟨by kernel_rfl, by kernel_rfl, rfl, rfl⟩
def t17 : TI := { und := .ptr 161, size := 1, bytes := 8, zero := .pointer none, zs := [.pointer none] }
theorem t17_ok : TIok Tryd.prog 17 t17 := ⟨by kernel_rfl, by kernel_rfl, rfl, rfl⟩
def t21 : TI := { und := .int .i32, size := 1, bytes := 4, zero := .int .i32 0, zs := [.int .i32 0] }
theorem t21_ok : TIok Tryd.prog 21 t21 := ⟨by kernel_rfl, by kernel_rfl, rfl, rfl⟩
def t26 : TI := { und := .struct [(0, 1), (1, 1), (2, 1), (3, 1)], size := 4, bytes := 48, zero := .agg ([.int .i64 0, .string ⟨#[]⟩, .string ⟨#[]⟩, .int .i64 0] : List Value).toArray, zs := [.int .i64 0, .string ⟨#[]⟩, .string ⟨#[]⟩, .int .i64 0] }
theorem t26_ok : TIok Tryd.prog 26 t26 := ⟨by kernel_rfl, by kernel_rfl, rfl, rfl⟩
def t28 : TI := { und := .struct [(0, 1), (1, 1), (2, 1), (3, 1)], size := 4, bytes := 40, zero := .agg ([.int .i64 0, .string ⟨#[]⟩, .int .i64 0, .int .i64 0] : List Value).toArray, zs := [.int .i64 0, .string ⟨#[]⟩, .int .i64 0, .int .i64 0] }
theorem t28_ok : TIok Tryd.prog 28 t28 := ⟨by kernel_rfl, by kernel_rfl, rfl, rfl⟩
def t137 : TI := { und := .array 65 5, size := 65, bytes := 65, zero := .agg ([.int .u8 0, .int .u8 0, .int .u8 0, .int .u8 0, .int .u8 0, .int .u8 0, .int .u8 0, .int .u8 0, .int .u8 0, .int .u8 0, .int .u8 0, .int .u8 0, .int .u8 0, .int .u8 0, .int .u8 0, .int .u8 0, .int .u8 0, .int .u8 0, .int .u8 0, .int .u8 0, .int .u8 0, .int .u8 0, .int .u8 0, .int .u8 0, .int .u8 0, .int .u8 0, .int .u8 0, .int .u8 0, .int .u8 0, .int .u8 0, .int .u8 0, .int .u8 0, .int .u8 0, .int .u8 0, .int .u8 0, .int .u8 0, .int .u8 0, .int .u8 0, .int .u8 0, .int .u8 0, .int .u8 0, .int .u8 0, .int .u8 0, .int .u8 0, .int .u8 0, .int .u8 0, .int .u8 0, .int .u8 0, .int .u8 0, .int .u8 0, .int .u8 0, .int .u8 0, .int .u8 0, .int .u8 0, .int .u8 0, .int .u8 0, .int .u8 0, .int .u8 0, .int .u8 0, .int .u8 0, .int .u8 0, .int .u8 0, .int .u8 0, .int .u8 0, .int .u8 0] : List Value).toArray, zs := [.int .u8 0, .int .u8 0, .int .u8 0, .int .u8 0, .int .u8 0, .int .u8 0, .int .u8 0, .int .u8 0, .int .u8 0, .int .u8 0, .int .u8 0, .int .u8 0, .int .u8 0, .int .u8 0, .int .u8 0, .int .u8 0, .int .u8 0, .int .u8 0, .int .u8 0, .int .u8 0, .int .u8 0, .int .u8 0, .int .u8 0, .int .u8 0, .int .u8 0, .int .u8 0, .int .u8 0, .int .u8 0, .int .u8 0, .int .u8 0, .int .u8 0, .int .u8 0, .int .u8 0, .int .u8 0, .int .u8 0, .int .u8 0, .int .u8 0, .int .u8 0, .int .u8 0, .int .u8 0, .int .u8 0, .int .u8 0, .int .u8 0, .int .u8 0, .int .u8 0, .int .u8 0, .int .u8 0, .int .u8 0, .int .u8 0, .int .u8 0, .int .u8 0, .int .u8 0, .int .u8 0, .int .u8 0, .int .u8 0, .int .u8 0, .int .u8 0, .int .u8 0, .int .u8 0, .int .u8 0, .int .u8 0, .int .u8 0, .int .u8 0, .int .u8 0, .int .u8 0] }
theorem t137_ok : TIok Tryd.prog 137 t137 := ⟨by kernel_rfl, by kernel_rfl, rfl, rfl⟩
def t144 : TI := { und := .ptr 138, size := 1, bytes := 8, zero := .pointer none, zs := [.pointer none] }
theorem t144_ok : TIok Tryd.prog 144 t144 := ⟨by kernel_rfl, by kernel_rfl, rfl, rfl⟩
def t49 : TI := { und := .struct [(0, 1), (1, 1), (2, 1), (3, 4)], size := 7, bytes := 72, zero := .agg ([.int .i64 0, .int .i64 0, .int .i64 0, .int .i64 0, .string ⟨#[]⟩, .string ⟨#[]⟩, .int .i64 0] : List Value).toArray, zs := [.int .i64 0, .int .i64 0, .int .i64 0, .int .i64 0, .string ⟨#[]⟩, .string ⟨#[]⟩, .int .i64 0] }
theorem t49_ok : TIok Tryd.prog 49 t49 := ⟨by kernel_rfl, by kernel_rfl, rfl, rfl⟩
def t30 : TI := { und := .struct [(0, 1), (1, 1), (2, 4)], size := 6, bytes := 56, zero := .agg ([.int .i64 0, .int .i64 0, .int .i64 0, .string ⟨#[]⟩, .int .i64 0, .int .i64 0] : List Value).toArray, zs := [.int .i64 0, .int .i64 0, .int .i64 0, .string ⟨#[]⟩, .int .i64 0, .int .i64 0] }
theorem t30_ok : TIok Tryd.prog 30 t30 := ⟨by kernel_rfl, by kernel_rfl, rfl, rfl⟩
def t48 : TI := { und := .struct [(0, 1), (1, 1), (2, 1), (3, 4)], size := 7, bytes := 72, zero := .agg ([.int .i64 0, .int .i64 0, .int .i64 0, .int .i64 0, .string ⟨#[]⟩, .string ⟨#[]⟩, .int .i64 0] : List Value).toArray, zs := [.int .i64 0, .int .i64 0, .int .i64 0, .int .i64 0, .string ⟨#[]⟩, .string ⟨#[]⟩, .int .i64 0] }
theorem t48_ok : TIok Tryd.prog 48 t48 := ⟨by kernel_rfl, by kernel_rfl, rfl, rfl⟩
def t87 : TI := { und := .struct [(0, 1), (1, 1)], size := 2, bytes := 24, zero := .agg ([.int .i64 0, .string ⟨#[]⟩] : List Value).toArray, zs := [.int .i64 0, .string ⟨#[]⟩] }
theorem t87_ok : TIok Tryd.prog 87 t87 := ⟨by kernel_rfl, by kernel_rfl, rfl, rfl⟩
def t117 : TI := { und := .array 24 5, size := 24, bytes := 24, zero := .agg ([.int .u8 0, .int .u8 0, .int .u8 0, .int .u8 0, .int .u8 0, .int .u8 0, .int .u8 0, .int .u8 0, .int .u8 0, .int .u8 0, .int .u8 0, .int .u8 0, .int .u8 0, .int .u8 0, .int .u8 0, .int .u8 0, .int .u8 0, .int .u8 0, .int .u8 0, .int .u8 0, .int .u8 0, .int .u8 0, .int .u8 0, .int .u8 0] : List Value).toArray, zs := [.int .u8 0, .int .u8 0, .int .u8 0, .int .u8 0, .int .u8 0, .int .u8 0, .int .u8 0, .int .u8 0, .int .u8 0, .int .u8 0, .int .u8 0, .int .u8 0, .int .u8 0, .int .u8 0, .int .u8 0, .int .u8 0, .int .u8 0, .int .u8 0, .int .u8 0, .int .u8 0, .int .u8 0, .int .u8 0, .int .u8 0, .int .u8 0] }
theorem t117_ok : TIok Tryd.prog 117 t117 := ⟨by kernel_rfl, by kernel_rfl, rfl, rfl⟩
def t148 : TI := { und := .array 64 5, size := 64, bytes := 64, zero := .agg ([.int .u8 0, .int .u8 0, .int .u8 0, .int .u8 0, .int .u8 0, .int .u8 0, .int .u8 0, .int .u8 0, .int .u8 0, .int .u8 0, .int .u8 0, .int .u8 0, .int .u8 0, .int .u8 0, .int .u8 0, .int .u8 0, .int .u8 0, .int .u8 0, .int .u8 0, .int .u8 0, .int .u8 0, .int .u8 0, .int .u8 0, .int .u8 0, .int .u8 0, .int .u8 0, .int .u8 0, .int .u8 0, .int .u8 0, .int .u8 0, .int .u8 0, .int .u8 0, .int .u8 0, .int .u8 0, .int .u8 0, .int .u8 0, .int .u8 0, .int .u8 0, .int .u8 0, .int .u8 0, .int .u8 0, .int .u8 0, .int .u8 0, .int .u8 0, .int .u8 0, .int .u8 0, .int .u8 0, .int .u8 0, .int .u8 0, .int .u8 0, .int .u8 0, .int .u8 0, .int .u8 0, .int .u8 0, .int .u8 0, .int .u8 0, .int .u8 0, .int .u8 0, .int .u8 0, .int .u8 0, .int .u8 0, .int .u8 0, .int .u8 0, .int .u8 0] : List Value).toArray, zs := [.int .u8 0, .int .u8 0, .int .u8 0, .int .u8 0, .int .u8 0, .int .u8 0, .int .u8 0, .int .u8 0, .int .u8 0, .int .u8 0, .int .u8 0, .int .u8 0, .int .u8 0, .int .u8 0, .int .u8 0, .int .u8 0, .int .u8 0, .int .u8 0, .int .u8 0, .int .u8 0, .int .u8 0, .int .u8 0, .int .u8 0, .int .u8 0, .int .u8 0, .int .u8 0, .int .u8 0, .int .u8 0, .int .u8 0, .int .u8 0, .int .u8 0, .int .u8 0, .int .u8 0, .int .u8 0, .int .u8 0, .int .u8 0, .int .u8 0, .int .u8 0, .int .u8 0, .int .u8 0, .int .u8 0, .int .u8 0, .int .u8 0, .int .u8 0, .int .u8 0, .int .u8 0, .int .u8 0, .int .u8 0, .int .u8 0, .int .u8 0, .int .u8 0, .int .u8 0, .int .u8 0, .int .u8 0, .int .u8 0, .int .u8 0, .int .u8 0, .int .u8 0, .int .u8 0, .int .u8 0, .int .u8 0, .int .u8 0, .int .u8 0, .int .u8 0] }
theorem t148_ok : TIok Tryd.prog 148 t148 := ⟨by kernel_rfl, by kernel_rfl, rfl, rfl⟩
def t61 : TI := { und := .struct [(0, 1), (1, 1), (2, 1), (3, 1), (4, 1), (5, 1), (6, 1), (7, 1), (8, 1)], size := 9, bytes := 9, zero := .agg ([.int .u8 0, .int .u8 0, .int .u8 0, .int .u8 0, .int .u8 0, .int .u8 0, .int .u8 0, .int .u8 0, .int .u8 0] : List Value).toArray, zs := [.int .u8 0, .int .u8 0, .int .u8 0, .int .u8 0, .int .u8 0, .int .u8 0, .int .u8 0, .int .u8 0, .int .u8 0] }
theorem t61_ok : TIok Tryd.prog 61 t61 := ⟨by kernel_rfl, by kernel_rfl, rfl, rfl⟩
def t136 : TI := { und := .array 20 118, size := 20, bytes := 160, zero := .agg ([.int .u64 0, .int .u64 0, .int .u64 0, .int .u64 0, .int .u64 0, .int .u64 0, .int .u64 0, .int .u64 0, .int .u64 0, .int .u64 0, .int .u64 0, .int .u64 0, .int .u64 0, .int .u64 0, .int .u64 0, .int .u64 0, .int .u64 0, .int .u64 0, .int .u64 0, .int .u64 0] : List Value).toArray, zs := [.int .u64 0, .int .u64 0, .int .u64 0, .int .u64 0, .int .u64 0, .int .u64 0, .int .u64 0, .int .u64 0, .int .u64 0, .int .u64 0, .int .u64 0, .int .u64 0, .int .u64 0, .int .u64 0, .int .u64 0, .int .u64 0, .int .u64 0, .int .u64 0, .int .u64 0, .int .u64 0] }
theorem t136_ok : TIok Tryd.prog 136 t136 := ⟨by kernel_rfl, by kernel_rfl, rfl, rfl⟩
def t147 : TI := { und := .array 32 5, size := 32, bytes := 32, zero := .agg ([.int .u8 0, .int .u8 0, .int .u8 0, .int .u8 0, .int .u8 0, .int .u8 0, .int .u8 0, .int .u8 0, .int .u8 0, .int .u8 0, .int .u8 0, .int .u8 0, .int .u8 0, .int .u8 0, .int .u8 0, .int .u8 0, .int .u8 0, .int .u8 0, .int .u8 0, .int .u8 0, .int .u8 0, .int .u8 0, .int .u8 0, .int .u8 0, .int .u8 0, .int .u8 0, .int .u8 0, .int .u8 0, .int .u8 0, .int .u8 0, .int .u8 0, .int .u8 0] : List Value).toArray, zs := [.int .u8 0, .int .u8 0, .int .u8 0, .int .u8 0, .int .u8 0, .int .u8 0, .int .u8 0, .int .u8 0, .int .u8 0, .int .u8 0, .int .u8 0, .int .u8 0, .int .u8 0, .int .u8 0, .int .u8 0, .int .u8 0, .int .u8 0, .int .u8 0, .int .u8 0, .int .u8 0, .int .u8 0, .int .u8 0, .int .u8 0, .int .u8 0, .int .u8 0, .int .u8 0, .int .u8 0, .int .u8 0, .int .u8 0, .int .u8 0, .int .u8 0, .int .u8 0] }
theorem t147_ok : TIok Tryd.prog 147 t147 := ⟨by kernel_rfl, by kernel_rfl, rfl, rfl⟩
def t91 : TI := { und := .struct [(0, 1), (1, 1)], size := 2, bytes := 32, zero := .agg ([.pointer none, .slice none 0 0] : List Value).toArray, zs := [.pointer none, .slice none 0 0] }
theorem t91_ok : TIok Tryd.prog 91 t91 := ⟨by kernel_rfl, by kernel_rfl, rfl, rfl⟩
def t106 : TI := { und := .ptr 5, size := 1, bytes := 8, zero := .pointer none, zs := [.pointer none] }
theorem t106_ok : TIok Tryd.prog 106 t106 := ⟨by kernel_rfl, by kernel_rfl, rfl, rfl⟩
def t68 : TI := { und := .struct [(0, 1), (1, 1), (2, 1), (3, 1)], size := 4, bytes := 64, zero := .agg ([.slice none 0 0, .int .i64 0, .map none, .slice none 0 0] : List Value).toArray, zs := [.slice none 0 0, .int .i64 0, .map none, .slice none 0 0] }
theorem t68_ok : TIok Tryd.prog 68 t68 := ⟨by kernel_rfl, by kernel_rfl, rfl, rfl⟩
def t73 : TI := { und := .struct [(0, 1), (1, 1), (2, 1)], size := 3, bytes := 40, zero := .agg ([.string ⟨#[]⟩, .string ⟨#[]⟩, .int .i64 0] : List Value).toArray, zs := [.string ⟨#[]⟩, .string ⟨#[]⟩, .int .i64 0] }
theorem t73_ok : TIok Tryd.prog 73 t73 := ⟨by kernel_rfl, by kernel_rfl, rfl, rfl⟩
def t78 : TI := { und := .struct [(0, 1)], size := 1, bytes := 8, zero := .agg ([.map none] : List Value).toArray, zs := [.map none] }
theorem t78_ok : TIok Tryd.prog 78 t78 := ⟨by kernel_rfl, by kernel_rfl, rfl, rfl⟩
def t81 : TI := { und := .struct [(0, 1), (1, 1)], size := 2, bytes := 24, zero := .agg ([.string ⟨#[]⟩, .int .i64 0] : List Value).toArray, zs := [.string ⟨#[]⟩, .int .i64 0] }
theorem t81_ok : TIok Tryd.prog 81 t81 := ⟨by kernel_rfl, by kernel_rfl, rfl, rfl⟩
def t86 : TI := { und := .struct [(0, 1), (1, 1)], size := 2, bytes := 24, zero := .agg ([.int .i64 0, .string ⟨#[]⟩] : List Value).toArray, zs := [.int .i64 0, .string ⟨#[]⟩] }
theorem t86_ok : TIok Tryd.prog 86 t86 := ⟨by kernel_rfl, by kernel_rfl, rfl, rfl⟩
def t151 : TI := { und := .array 0 16, size := 0, bytes := 0, zero := .agg ([] : List Value).toArray, zs := [] }
theorem t151_ok : TIok Tryd.prog 151 t151 := ⟨by kernel_rfl, by kernel_rfl, rfl, rfl⟩
def t152 : TI := { und := .struct [(0, 0)], size := 0, bytes := 0, zero := .agg ([] : List Value).toArray, zs := [] }
theorem t152_ok : TIok Tryd.prog 152 t152 := ⟨by kernel_rfl, by kernel_rfl, rfl, rfl⟩
def t155 : TI := { und := .int .u8, size := 1, bytes := 1, zero := .int .u8 0, zs := [.int .u8 0] }
theorem t155_ok : TIok Tryd.prog 155 t155 := ⟨by kernel_rfl, by kernel_rfl, rfl, rfl⟩
def t156 : TI := { und := .int .u8, size := 1, bytes := 1, zero := .int .u8 0, zs := [.int .u8 0] }
theorem t156_ok : TIok Tryd.prog 156 t156 := ⟨by kernel_rfl, by kernel_rfl, rfl, rfl⟩
def t149 : TI := { und := .struct [(0, 1), (1, 1), (2, 1), (3, 1)], size := 4, bytes := 40, zero := .agg ([.pointer none, .pointer none, .pointer none, .string ⟨#[]⟩] : List Value).toArray, zs := [.pointer none, .pointer none, .pointer none, .string ⟨#[]⟩] }
theorem t149_ok : TIok Tryd.prog 149 t149 := ⟨by kernel_rfl, by kernel_rfl, rfl, rfl⟩
def t150 : TI := { und := .struct [(0, 1), (1, 1), (2, 1), (3, 1)], size := 4, bytes := 40, zero := .agg ([.pointer none, .pointer none, .pointer none, .string ⟨#[]⟩] : List Value).toArray, zs := [.pointer none, .pointer none, .pointer none, .string ⟨#[]⟩] }
theorem t150_ok : TIok Tryd.prog 150 t150 := ⟨by kernel_rfl, by kernel_rfl, rfl, rfl⟩
def t153 : TI := { und := .struct [(0, 0)], size := 0, bytes := 0, zero := .agg ([] : List Value).toArray, zs := [] }
theorem t153_ok : TIok Tryd.prog 153 t153 := ⟨by kernel_rfl, by kernel_rfl, rfl, rfl⟩
def t158 : TI := { und := .int .i32, size := 1, bytes := 4, zero := .int .i32 0, zs := [.int .i32 0] }
theorem t158_ok : TIok Tryd.prog 158 t158 := ⟨by kernel_rfl, by kernel_rfl, rfl, rfl⟩
def t159 : TI := { und := .int .i32, size := 1, bytes := 4, zero := .int .i32 0, zs := [.int .i32 0] }
theorem t159_ok : TIok Tryd.prog 159 t159 := ⟨by kernel_rfl, by kernel_rfl, rfl, rfl⟩
def tab : Tab := [(3, t3), (4, t4), (2, t2), (5, t5), (9, t9), (93, t93), (27, t27), (7, t7), (6, t6), (133, t133), (34, t34), (29, t29), (118, t118), (35, t35), (8, t8), (22, t22), (39, t39), (59, t59), (52, t52), (10, t10), (116, t116), (31, t31), (80, t80), (25, t25), (11, t11), (33, t33), (12, t12), (66, t66), (13, t13), (14, t14), (62, t62), (74, t74), (77, t77), (67, t67), (82, t82), (90, t90), (69, t69), (138, t138), (15, t15), (16, t16), (79, t79), (92, t92), (124, t124), (142, t142), (18, t18), (19, t19), (44, t44), (47, t47), (32, t32), (17, t17), (21, t21), (26, t26), (28, t28), (137, t137), (144, t144), (49, t49), (30, t30), (48, t48), (87, t87), (117, t117), (148, t148), (61, t61), (136, t136), (147, t147), (91, t91), (106, t106), (68, t68), (73, t73), (78, t78), (81, t81), (86, t86), (151, t151), (152, t152), (155, t155), (156, t156), (149, t149), (150, t150), (153, t153), (158, t158), (159, t159)]
theorem tabOk : TabOk Tryd.prog tab := by
  intro p hp
  have key : ∀ (l : Tab), (∀ p ∈ l, TIok Tryd.prog p.1 p.2) → ∀ k ti, TIok Tryd.prog k ti → ∀ p ∈ (k, ti) :: l, TIok Tryd.prog p.1 p.2 := fun l h k ti h1 p hp => by
    rcases List.mem_cons.1 hp with rfl | hp
    · exact h1
    · exact h p hp
  exact key _ (key _ (key _ (key _ (key _ (key _ (key _ (key _ (key _ (key _ (key _ (key _ (key _ (key _ (key _ (key _ (key _ (key _ (key _ (key _ (key _ (key _ (key _ (key _ (key _ (key _ (key _ (key _ (key _ (key _ (key _ (key _ (key _ (key _ (key _ (key _ (key _ (key _ (key _ (key _ (key _ (key _ (key _ (key _ (key _ (key _ (key _ (key _ (key _ (key _ (key _ (key _ (key _ (key _ (key _ (key _ (key _ (key _ (key _ (key _ (key _ (key _ (key _ (key _ (key _ (key _ (key _ (key _ (key _ (key _ (key _ (key _ (key _ (key _ (key _ (key _ (key _ (key _ (key _ (key _ (fun p h => by cases h) _ _ t159_ok) _ _ t158_ok) _ _ t153_ok) _ _ t150_ok) _ _ t149_ok) _ _ t156_ok) _ _ t155_ok) _ _ t152_ok) _ _ t151_ok) _ _ t86_ok) _ _ t81_ok) _ _ t78_ok) _ _ t73_ok) _ _ t68_ok) _ _ t106_ok) _ _ t91_ok) _ _ t147_ok) _ _ t136_ok) _ _ t61_ok) _ _ t148_ok) _ _ t117_ok) _ _ t87_ok) _ _ t48_ok) _ _ t30_ok) _ _ t49_ok) _ _ t144_ok) _ _ t137_ok) _ _ t28_ok) _ _ t26_ok) _ _ t21_ok) _ _ t17_ok) _ _ t32_ok) _ _ t47_ok) _ _ t44_ok) _ _ t19_ok) _ _ t18_ok) _ _ t142_ok) _ _ t124_ok) _ _ t92_ok) _ _ t79_ok) _ _ t16_ok) _ _ t15_ok) _ _ t138_ok) _ _ t69_ok) _ _ t90_ok) _ _ t82_ok) _ _ t67_ok) _ _ t77_ok) _ _ t74_ok) _ _ t62_ok) _ _ t14_ok) _ _ t13_ok) _ _ t66_ok) _ _ t12_ok) _ _ t33_ok) _ _ t11_ok) _ _ t25_ok) _ _ t80_ok) _ _ t31_ok) _ _ t116_ok) _ _ t10_ok) _ _ t52_ok) _ _ t59_ok) _ _ t39_ok) _ _ t22_ok) _ _ t8_ok) _ _ t35_ok) _ _ t118_ok) _ _ t29_ok) _ _ t34_ok) _ _ t133_ok) _ _ t6_ok) _ _ t7_ok) _ _ t27_ok) _ _ t93_ok) _ _ t9_ok) _ _ t5_ok) _ _ t2_ok) _ _ t4_ok) _ _ t3_ok p hp
end Go.Proofs.YthabecjplpomhaaDoor.T
