/- What is known of this program's types: sizes, zeros, the places of fields. Each entry is checked by the kernel. (Written by wip/tab.py.) -/
import Derived.Test.YtceobomlmdmicaaDoorVgA
import Derived.Test.YtceobomlmdmicaaDoorRows
import Derived.KernelRfl
namespace Go.Proofs.YtceobomlmdmicaaDoor.T
open Go Go.Proofs.YtceobomlmdmicaaDoor.Vg
def t3 : TI := { und := .int .i64, size := 1, bytes := 8, zero := .int .i64 0, zs := [.int .i64 0] }
theorem t3_ok : TIok Tryd.prog 3 t3 := ⟨by kernel_rfl, by kernel_rfl, rfl, rfl⟩
def t4 : TI := { und := .bool, size := 1, bytes := 1, zero := .bool false, zs := [.bool false] }
theorem t4_ok : TIok Tryd.prog 4 t4 := ⟨by kernel_rfl, by kernel_rfl, rfl, rfl⟩
def t9 : TI := { und := .string, size := 1, bytes := 16, zero := .string ⟨#[]⟩, zs := [.string ⟨#[]⟩] }
theorem t9_ok : TIok Tryd.prog 9 t9 := ⟨by kernel_rfl, by kernel_rfl, rfl, rfl⟩
def t5 : TI := { und := .int .u8, size := 1, bytes := 1, zero := .int .u8 0, zs := [.int .u8 0] }
theorem t5_ok : TIok Tryd.prog 5 t5 := ⟨by kernel_rfl, by kernel_rfl, rfl, rfl⟩
def t2 : TI := { und := .int .i64, size := 1, bytes := 8, zero := .int .i64 0, zs := [.int .i64 0] }
theorem t2_ok : TIok Tryd.prog 2 t2 := ⟨by kernel_rfl, by kernel_rfl, rfl, rfl⟩
def t100 : TI := { und := .int .u32, size := 1, bytes := 4, zero := .int .u32 0, zs := [.int .u32 0] }
theorem t100_ok : TIok Tryd.prog 100 t100 := ⟨by kernel_rfl, by kernel_rfl, rfl, rfl⟩
def t95 : TI := { und := .int .u64, size := 1, bytes := 8, zero := .int .u64 0, zs := [.int .u64 0] }
theorem t95_ok : TIok Tryd.prog 95 t95 := ⟨by kernel_rfl, by kernel_rfl, rfl, rfl⟩
def t30 : TI := { und := .struct [(0, 1), (1, 1), (2, 1), (3, 1), (4, 4)], size := 8, bytes := 80, zero := .agg ([.int .i64 0, .int .i64 0, .int .i64 0, .int .i64 0, .int .i64 0, .string ⟨#[]⟩, .string ⟨#[]⟩, .int .i64 0] : List Value).toArray, zs := [.int .i64 0, .int .i64 0, .int .i64 0, .int .i64 0, .int .i64 0, .string ⟨#[]⟩, .string ⟨#[]⟩, .int .i64 0] }
theorem t30_ok : TIok Tryd.prog 30 t30 := ⟨by kernel_rfl, by kernel_rfl, rfl, rfl⟩
def t6 : TI := { und := .int .u8, size := 1, bytes := 1, zero := .int .u8 0, zs := [.int .u8 0] }
theorem t6_ok : TIok Tryd.prog 6 t6 := ⟨by kernel_rfl, by kernel_rfl, rfl, rfl⟩
def t22 : TI := { und := .slice 30, size := 1, bytes := 24, zero := .slice none 0 0, zs := [.slice none 0 0] }
theorem t22_ok : TIok Tryd.prog 22 t22 := ⟨by kernel_rfl, by kernel_rfl, rfl, rfl⟩
def t7 : TI := { und := .struct [(0, 1), (1, 1), (2, 1), (3, 1)], size := 4, bytes := 24, zero := .agg ([.int .i64 0, .int .i64 0, .bool false, .int .u8 0] : List Value).toArray, zs := [.int .i64 0, .int .i64 0, .bool false, .int .u8 0] }
theorem t7_ok : TIok Tryd.prog 7 t7 := ⟨by kernel_rfl, by kernel_rfl, rfl, rfl⟩
def t21 : TI := { und := .int .i32, size := 1, bytes := 4, zero := .int .i32 0, zs := [.int .i32 0] }
theorem t21_ok : TIok Tryd.prog 21 t21 := ⟨by kernel_rfl, by kernel_rfl, rfl, rfl⟩
def t8 : TI := { und := .struct [(0, 1), (1, 1), (2, 1), (3, 1)], size := 4, bytes := 24, zero := .agg ([.int .i64 0, .int .i64 0, .bool false, .int .u8 0] : List Value).toArray, zs := [.int .i64 0, .int .i64 0, .bool false, .int .u8 0] }
theorem t8_ok : TIok Tryd.prog 8 t8 := ⟨by kernel_rfl, by kernel_rfl, rfl, rfl⟩
def t10 : TI := { und := .string, size := 1, bytes := 16, zero := .string ⟨#[]⟩, zs := [.string ⟨#[]⟩] }
theorem t10_ok : TIok Tryd.prog 10 t10 := ⟨by kernel_rfl, by kernel_rfl, rfl, rfl⟩
def t33 : TI := { und := .int .i64, size := 1, bytes := 8, zero := .int .i64 0, zs := [.int .i64 0] }
theorem t33_ok : TIok Tryd.prog 33 t33 := ⟨by kernel_rfl, by kernel_rfl, rfl, rfl⟩
def t11 : TI := { und := .string, size := 1, bytes := 16, zero := .string ⟨#[]⟩, zs := [.string ⟨#[]⟩] }
theorem t11_ok : TIok Tryd.prog 11 t11 := ⟨by kernel_rfl, by kernel_rfl, rfl, rfl⟩
def t55 : TI := { und := .slice 5, size := 1, bytes := 24, zero := .slice none 0 0, zs := [.slice none 0 0] }
theorem t55_ok : TIok Tryd.prog 55 t55 := ⟨by kernel_rfl, by kernel_rfl, rfl, rfl⟩
def t29 : TI := { und := .struct [(0, 1), (1, 1), (2, 1), (3, 1), (4, 4)], size := 8, bytes := 80, zero := .agg ([.int .i64 0, .int .i64 0, .int .i64 0, .int .i64 0, .int .i64 0, .string ⟨#[]⟩, .string ⟨#[]⟩, .int .i64 0] : List Value).toArray, zs := [.int .i64 0, .int .i64 0, .int .i64 0, .int .i64 0, .int .i64 0, .string ⟨#[]⟩, .string ⟨#[]⟩, .int .i64 0] }
theorem t29_ok : TIok Tryd.prog 29 t29 := ⟨by kernel_rfl, by kernel_rfl, rfl, rfl⟩
def t70 : TI := { und := .slice 9, size := 1, bytes := 24, zero := .slice none 0 0, zs := [.slice none 0 0] }
theorem t70_ok : TIok Tryd.prog 70 t70 := ⟨by kernel_rfl, by kernel_rfl, rfl, rfl⟩
def t57 : TI := { und := .struct [(0, 1), (1, 1)], size := 2, bytes := 32, zero := .agg ([.pointer none, .slice none 0 0] : List Value).toArray, zs := [.pointer none, .slice none 0 0] }
theorem t57_ok : TIok Tryd.prog 57 t57 := ⟨by kernel_rfl, by kernel_rfl, rfl, rfl⟩
def t69 : TI := { und := .ptr 73, size := 1, bytes := 8, zero := .pointer none, zs := [.pointer none] }
theorem t69_ok : TIok Tryd.prog 69 t69 := ⟨by kernel_rfl, by kernel_rfl, rfl, rfl⟩
def t77 : TI := { und := .int .u64, size := 1, bytes := 8, zero := .int .u64 0, zs := [.int .u64 0] }
theorem t77_ok : TIok Tryd.prog 77 t77 := ⟨by kernel_rfl, by kernel_rfl, rfl, rfl⟩
def t27 : TI := { und := .struct [(0, 1), (1, 1), (2, 1), (3, 1)], size := 4, bytes := 48, zero := .agg ([.int .i64 0, .string ⟨#[]⟩, .string ⟨#[]⟩, .int .i64 0] : List Value).toArray, zs := [.int .i64 0, .string ⟨#[]⟩, .string ⟨#[]⟩, .int .i64 0] }
theorem t27_ok : TIok Tryd.prog 27 t27 := ⟨by kernel_rfl, by kernel_rfl, rfl, rfl⟩
def t45 : TI := { und := .struct [(0, 1), (1, 1)], size := 2, bytes := 32, zero := .agg ([.string ⟨#[]⟩, .string ⟨#[]⟩] : List Value).toArray, zs := [.string ⟨#[]⟩, .string ⟨#[]⟩] }
theorem t45_ok : TIok Tryd.prog 45 t45 := ⟨by kernel_rfl, by kernel_rfl, rfl, rfl⟩
def t12 : TI := { und := .int .u64, size := 1, bytes := 8, zero := .int .u64 0, zs := [.int .u64 0] }
theorem t12_ok : TIok Tryd.prog 12 t12 := ⟨by kernel_rfl, by kernel_rfl, rfl, rfl⟩
def t14 : TI := { und := .struct [(0, 1), (1, 1)], size := 2, bytes := 24, zero := .agg ([.string ⟨#[]⟩, .int .u64 0] : List Value).toArray, zs := [.string ⟨#[]⟩, .int .u64 0] }
theorem t14_ok : TIok Tryd.prog 14 t14 := ⟨by kernel_rfl, by kernel_rfl, rfl, rfl⟩
def t25 : TI := { und := .slice 29, size := 1, bytes := 24, zero := .slice none 0 0, zs := [.slice none 0 0] }
theorem t25_ok : TIok Tryd.prog 25 t25 := ⟨by kernel_rfl, by kernel_rfl, rfl, rfl⟩
def t13 : TI := { und := .struct [(0, 1), (1, 1)], size := 2, bytes := 24, zero := .agg ([.string ⟨#[]⟩, .int .u64 0] : List Value).toArray, zs := [.string ⟨#[]⟩, .int .u64 0] }
theorem t13_ok : TIok Tryd.prog 13 t13 := ⟨by kernel_rfl, by kernel_rfl, rfl, rfl⟩
def t54 : TI := { und := .ptr 57, size := 1, bytes := 8, zero := .pointer none, zs := [.pointer none] }
theorem t54_ok : TIok Tryd.prog 54 t54 := ⟨by kernel_rfl, by kernel_rfl, rfl, rfl⟩
def t16 : TI := { und := .ptr 136, size := 1, bytes := 8, zero := .pointer none, zs := [.pointer none] }
theorem t16_ok : TIok Tryd.prog 16 t16 := ⟨by kernel_rfl, by kernel_rfl, rfl, rfl⟩
def t15 : TI := { und := .ptr 133, size := 1, bytes := 8, zero := .pointer none, zs := [.pointer none] }
theorem t15_ok : TIok Tryd.prog 15 t15 := ⟨by kernel_rfl, by kernel_rfl, rfl, rfl⟩
def t73 : TI := { und := .struct [(0, 1), (1, 1)], size := 2, bytes := 32, zero := .agg ([.slice none 0 0, .bool false] : List Value).toArray, zs := [.slice none 0 0, .bool false] }
theorem t73_ok : TIok Tryd.prog 73 t73 := ⟨by kernel_rfl, by kernel_rfl, rfl, rfl⟩
def t110 : TI := { und := .int .i64, size := 1, bytes := 8, zero := .int .i64 0, zs := [.int .i64 0] }
theorem t110_ok : TIok Tryd.prog 110 t110 := ⟨by kernel_rfl, by kernel_rfl, rfl, rfl⟩
def t68 : TI := { und := .array 5 3, size := 5, bytes := 40, zero := .agg ([.int .i64 0, .int .i64 0, .int .i64 0, .int .i64 0, .int .i64 0] : List Value).toArray, zs := [.int .i64 0, .int .i64 0, .int .i64 0, .int .i64 0, .int .i64 0] }
theorem t68_ok : TIok Tryd.prog 68 t68 := ⟨by kernel_rfl, by kernel_rfl, rfl, rfl⟩
def t46 : TI := { und := .array 12 45, size := 24, bytes := 384, zero := .agg ([.string ⟨#[]⟩, .string ⟨#[]⟩, .string ⟨#[]⟩, .string ⟨#[]⟩, .string ⟨#[]⟩, .string ⟨#[]⟩, .string ⟨#[]⟩, .string ⟨#[]⟩, .string ⟨#[]⟩, .string ⟨#[]⟩, .string ⟨#[]⟩, .string ⟨#[]⟩, .string ⟨#[]⟩, .string ⟨#[]⟩, .string ⟨#[]⟩, .string ⟨#[]⟩, .string ⟨#[]⟩, .string ⟨#[]⟩, .string ⟨#[]⟩, .string ⟨#[]⟩, .string ⟨#[]⟩, .string ⟨#[]⟩, .string ⟨#[]⟩, .string ⟨#[]⟩] : List Value).toArray, zs := [.string ⟨#[]⟩, .string ⟨#[]⟩, .string ⟨#[]⟩, .string ⟨#[]⟩, .string ⟨#[]⟩, .string ⟨#[]⟩, .string ⟨#[]⟩, .string ⟨#[]⟩, .string ⟨#[]⟩, .string ⟨#[]⟩, .string ⟨#[]⟩, .string ⟨#[]⟩, .string ⟨#[]⟩, .string ⟨#[]⟩, .string ⟨#[]⟩, .string ⟨#[]⟩, .string ⟨#[]⟩, .string ⟨#[]⟩, .string ⟨#[]⟩, .string ⟨#[]⟩, .string ⟨#[]⟩, .string ⟨#[]⟩, .string ⟨#[]⟩, .string ⟨#[]⟩] }
theorem t46_ok : TIok Tryd.prog 46 t46 := ⟨by kernel_rfl, by kernel_rfl, rfl, rfl⟩
def t113 : TI := { und := .ptr 124, size := 1, bytes := 8, zero := .pointer none, zs := [.pointer none] }
theorem t113_ok : TIok Tryd.prog 113 t113 := ⟨by kernel_rfl, by kernel_rfl, rfl, rfl⟩
def t18 : TI := { und := .struct [(0, 1)], size := 1, bytes := 8, zero := .agg ([.pointer none] : List Value).toArray, zs := [.pointer none] }
theorem t18_ok : TIok Tryd.prog 18 t18 := ⟨by kernel_rfl, by kernel_rfl, rfl, rfl⟩
def t119 : TI := { und := .struct [(0, 1), (1, 1)], size := 2, bytes := 2, zero := .agg ([.int .u8 0, .int .u8 0] : List Value).toArray, zs := [.int .u8 0, .int .u8 0] }
theorem t119_ok : TIok Tryd.prog 119 t119 := ⟨by kernel_rfl, by kernel_rfl, rfl, rfl⟩
def t17 : TI := { und := .ptr 143, size := 1, bytes := 8, zero := .pointer none, zs := [.pointer none] }
theorem t17_ok : TIok Tryd.prog 17 t17 := ⟨by kernel_rfl, by kernel_rfl, rfl, rfl⟩
def t19 : TI := { und := .struct [(0, 1)], size := 1, bytes := 8, zero := .agg ([.pointer none] : List Value).toArray, zs := [.pointer none] }
theorem t19_ok : TIok Tryd.prog 19 t19 := ⟨by kernel_rfl, by kernel_rfl, rfl, rfl⟩
def t108 : TI := { und := .array 65 5, size := 65, bytes := 65, zero := .agg ([.int .u8 0, .int .u8 0, .int .u8 0, .int .u8 0, .int .u8 0, .int .u8 0, .int .u8 0, .int .u8 0, .int .u8 0, .int .u8 0, .int .u8 0, .int .u8 0, .int .u8 0, .int .u8 0, .int .u8 0, .int .u8 0, .int .u8 0, .int .u8 0, .int .u8 0, .int .u8 0, .int .u8 0, .int .u8 0, .int .u8 0, .int .u8 0, .int .u8 0, .int .u8 0, .int .u8 0, .int .u8 0, .int .u8 0, .int .u8 0, .int .u8 0, .int .u8 0, .int .u8 0, .int .u8 0, .int .u8 0, .int .u8 0, .int .u8 0, .int .u8 0, .int .u8 0, .int .u8 0, .int .u8 0, .int .u8 0, .int .u8 0, .int .u8 0, .int .u8 0, .int .u8 0, .int .u8 0, .int .u8 0, .int .u8 0, .int .u8 0, .int .u8 0, .int .u8 0, .int .u8 0, .int .u8 0, .int .u8 0, .int .u8 0, .int .u8 0, .int .u8 0, .int .u8 0, .int .u8 0, .int .u8 0, .int .u8 0, .int .u8 0, .int .u8 0, .int .u8 0] : List Value).toArray, zs := [.int .u8 0, .int .u8 0, .int .u8 0, .int .u8 0, .int .u8 0, .int .u8 0, .int .u8 0, .int .u8 0, .int .u8 0, .int .u8 0, .int .u8 0, .int .u8 0, .int .u8 0, .int .u8 0, .int .u8 0, .int .u8 0, .int .u8 0, .int .u8 0, .int .u8 0, .int .u8 0, .int .u8 0, .int .u8 0, .int .u8 0, .int .u8 0, .int .u8 0, .int .u8 0, .int .u8 0, .int .u8 0, .int .u8 0, .int .u8 0, .int .u8 0, .int .u8 0, .int .u8 0, .int .u8 0, .int .u8 0, .int .u8 0, .int .u8 0, .int .u8 0, .int .u8 0, .int .u8 0, .int .u8 0, .int .u8 0, .int .u8 0, .int .u8 0, .int .u8 0, .int .u8 0, .int .u8 0, .int .u8 0, .int .u8 0, .int .u8 0, .int .u8 0, .int .u8 0, .int .u8 0, .int .u8 0, .int .u8 0, .int .u8 0, .int .u8 0, .int .u8 0, .int .u8 0, .int .u8 0, .int .u8 0, .int .u8 0, .int .u8 0, .int .u8 0, .int .u8 0] }
theorem t108_ok : TIok Tryd.prog 108 t108 := ⟨by kernel_rfl, by kernel_rfl, rfl, rfl⟩
def t80 : TI := { und := .array 11 3, size := 11, bytes := 88, zero := .agg ([.int .i64 0, .int .i64 0, .int .i64 0, .int .i64 0, .int .i64 0, .int .i64 0, .int .i64 0, .int .i64 0, .int .i64 0, .int .i64 0, .int .i64 0] : List Value).toArray, zs := [.int .i64 0, .int .i64 0, .int .i64 0, .int .i64 0, .int .i64 0, .int .i64 0, .int .i64 0, .int .i64 0, .int .i64 0, .int .i64 0, .int .i64 0] }
theorem t80_ok : TIok Tryd.prog 80 t80 := ⟨by kernel_rfl, by kernel_rfl, rfl, rfl⟩
def t120 : TI := { und := .array 16 119, size := 32, bytes := 32, zero := .agg ([.int .u8 0, .int .u8 0, .int .u8 0, .int .u8 0, .int .u8 0, .int .u8 0, .int .u8 0, .int .u8 0, .int .u8 0, .int .u8 0, .int .u8 0, .int .u8 0, .int .u8 0, .int .u8 0, .int .u8 0, .int .u8 0, .int .u8 0, .int .u8 0, .int .u8 0, .int .u8 0, .int .u8 0, .int .u8 0, .int .u8 0, .int .u8 0, .int .u8 0, .int .u8 0, .int .u8 0, .int .u8 0, .int .u8 0, .int .u8 0, .int .u8 0, .int .u8 0] : List Value).toArray, zs := [.int .u8 0, .int .u8 0, .int .u8 0, .int .u8 0, .int .u8 0, .int .u8 0, .int .u8 0, .int .u8 0, .int .u8 0, .int .u8 0, .int .u8 0, .int .u8 0, .int .u8 0, .int .u8 0, .int .u8 0, .int .u8 0, .int .u8 0, .int .u8 0, .int .u8 0, .int .u8 0, .int .u8 0, .int .u8 0, .int .u8 0, .int .u8 0, .int .u8 0, .int .u8 0, .int .u8 0, .int .u8 0, .int .u8 0, .int .u8 0, .int .u8 0, .int .u8 0] }
theorem t120_ok : TIok Tryd.prog 120 t120 := ⟨by kernel_rfl, by kernel_rfl, rfl, rfl⟩
def t26 : TI := { und := .struct [(0, 1), (1, 1), (2, 1), (3, 1)], size := 4, bytes := 48, zero := .agg ([.int .i64 0, .string ⟨#[]⟩, .string ⟨#[]⟩, .int .i64 0] : List Value).toArray, zs := [.int .i64 0, .string ⟨#[]⟩, .string ⟨#[]⟩, .int .i64 0] }
theorem t26_ok : TIok Tryd.prog 26 t26 := ⟨by kernel_rfl, by kernel_rfl, rfl, rfl⟩
def t28 : TI := { und := .struct [(0, 1), (1, 1), (2, 1), (3, 1), (4, 4)], size := 8, bytes := 80, zero := .agg ([.int .i64 0, .int .i64 0, .int .i64 0, .int .i64 0, .int .i64 0, .string ⟨#[]⟩, .string ⟨#[]⟩, .int .i64 0] : List Value).toArray, zs := [.int .i64 0, .int .i64 0, .int .i64 0, .int .i64 0, .int .i64 0, .string ⟨#[]⟩, .string ⟨#[]⟩, .int .i64 0] }
theorem t28_ok : TIok Tryd.prog 28 t28 := ⟨by kernel_rfl, by kernel_rfl, rfl, rfl⟩
def t94 : TI := { und := .array 24 5, size := 24, bytes := 24, zero := .agg ([.int .u8 0, .int .u8 0, .int .u8 0, .int .u8 0, .int .u8 0, .int .u8 0, .int .u8 0, .int .u8 0, .int .u8 0, .int .u8 0, .int .u8 0, .int .u8 0, .int .u8 0, .int .u8 0, .int .u8 0, .int .u8 0, .int .u8 0, .int .u8 0, .int .u8 0, .int .u8 0, .int .u8 0, .int .u8 0, .int .u8 0, .int .u8 0] : List Value).toArray, zs := [.int .u8 0, .int .u8 0, .int .u8 0, .int .u8 0, .int .u8 0, .int .u8 0, .int .u8 0, .int .u8 0, .int .u8 0, .int .u8 0, .int .u8 0, .int .u8 0, .int .u8 0, .int .u8 0, .int .u8 0, .int .u8 0, .int .u8 0, .int .u8 0, .int .u8 0, .int .u8 0, .int .u8 0, .int .u8 0, .int .u8 0, .int .u8 0] }
theorem t94_ok : TIok Tryd.prog 94 t94 := ⟨by kernel_rfl, by kernel_rfl, rfl, rfl⟩
def t72 : TI := { und := .struct [(0, 1), (1, 1)], size := 2, bytes := 32, zero := .agg ([.slice none 0 0, .bool false] : List Value).toArray, zs := [.slice none 0 0, .bool false] }
theorem t72_ok : TIok Tryd.prog 72 t72 := ⟨by kernel_rfl, by kernel_rfl, rfl, rfl⟩
def t79 : TI := { und := .array 11 9, size := 11, bytes := 176, zero := .agg ([.string ⟨#[]⟩, .string ⟨#[]⟩, .string ⟨#[]⟩, .string ⟨#[]⟩, .string ⟨#[]⟩, .string ⟨#[]⟩, .string ⟨#[]⟩, .string ⟨#[]⟩, .string ⟨#[]⟩, .string ⟨#[]⟩, .string ⟨#[]⟩] : List Value).toArray, zs := [.string ⟨#[]⟩, .string ⟨#[]⟩, .string ⟨#[]⟩, .string ⟨#[]⟩, .string ⟨#[]⟩, .string ⟨#[]⟩, .string ⟨#[]⟩, .string ⟨#[]⟩, .string ⟨#[]⟩, .string ⟨#[]⟩, .string ⟨#[]⟩] }
theorem t79_ok : TIok Tryd.prog 79 t79 := ⟨by kernel_rfl, by kernel_rfl, rfl, rfl⟩
def t56 : TI := { und := .struct [(0, 1), (1, 1)], size := 2, bytes := 32, zero := .agg ([.pointer none, .slice none 0 0] : List Value).toArray, zs := [.pointer none, .slice none 0 0] }
theorem t56_ok : TIok Tryd.prog 56 t56 := ⟨by kernel_rfl, by kernel_rfl, rfl, rfl⟩
def t78 : TI := { und := .ptr 5, size := 1, bytes := 8, zero := .pointer none, zs := [.pointer none] }
theorem t78_ok : TIok Tryd.prog 78 t78 := ⟨by kernel_rfl, by kernel_rfl, rfl, rfl⟩
def t107 : TI := { und := .array 20 95, size := 20, bytes := 160, zero := .agg ([.int .u64 0, .int .u64 0, .int .u64 0, .int .u64 0, .int .u64 0, .int .u64 0, .int .u64 0, .int .u64 0, .int .u64 0, .int .u64 0, .int .u64 0, .int .u64 0, .int .u64 0, .int .u64 0, .int .u64 0, .int .u64 0, .int .u64 0, .int .u64 0, .int .u64 0, .int .u64 0] : List Value).toArray, zs := [.int .u64 0, .int .u64 0, .int .u64 0, .int .u64 0, .int .u64 0, .int .u64 0, .int .u64 0, .int .u64 0, .int .u64 0, .int .u64 0, .int .u64 0, .int .u64 0, .int .u64 0, .int .u64 0, .int .u64 0, .int .u64 0, .int .u64 0, .int .u64 0, .int .u64 0, .int .u64 0] }
theorem t107_ok : TIok Tryd.prog 107 t107 := ⟨by kernel_rfl, by kernel_rfl, rfl, rfl⟩
def t124 : TI := { und := .struct [(0, 1), (1, 1), (2, 1)], size := 3, bytes := 48, zero := .agg ([.string ⟨#[]⟩, .string ⟨#[]⟩, .nilIface] : List Value).toArray, zs := [.string ⟨#[]⟩, .string ⟨#[]⟩, .nilIface] }
theorem t124_ok : TIok Tryd.prog 124 t124 := ⟨by kernel_rfl, by kernel_rfl, rfl, rfl⟩
def t126 : TI := { und := .array 32 5, size := 32, bytes := 32, zero := .agg ([.int .u8 0, .int .u8 0, .int .u8 0, .int .u8 0, .int .u8 0, .int .u8 0, .int .u8 0, .int .u8 0, .int .u8 0, .int .u8 0, .int .u8 0, .int .u8 0, .int .u8 0, .int .u8 0, .int .u8 0, .int .u8 0, .int .u8 0, .int .u8 0, .int .u8 0, .int .u8 0, .int .u8 0, .int .u8 0, .int .u8 0, .int .u8 0, .int .u8 0, .int .u8 0, .int .u8 0, .int .u8 0, .int .u8 0, .int .u8 0, .int .u8 0, .int .u8 0] : List Value).toArray, zs := [.int .u8 0, .int .u8 0, .int .u8 0, .int .u8 0, .int .u8 0, .int .u8 0, .int .u8 0, .int .u8 0, .int .u8 0, .int .u8 0, .int .u8 0, .int .u8 0, .int .u8 0, .int .u8 0, .int .u8 0, .int .u8 0, .int .u8 0, .int .u8 0, .int .u8 0, .int .u8 0, .int .u8 0, .int .u8 0, .int .u8 0, .int .u8 0, .int .u8 0, .int .u8 0, .int .u8 0, .int .u8 0, .int .u8 0, .int .u8 0, .int .u8 0, .int .u8 0] }
theorem t126_ok : TIok Tryd.prog 126 t126 := ⟨by kernel_rfl, by kernel_rfl, rfl, rfl⟩
def t127 : TI := { und := .array 64 5, size := 64, bytes := 64, zero := .agg ([.int .u8 0, .int .u8 0, .int .u8 0, .int .u8 0, .int .u8 0, .int .u8 0, .int .u8 0, .int .u8 0, .int .u8 0, .int .u8 0, .int .u8 0, .int .u8 0, .int .u8 0, .int .u8 0, .int .u8 0, .int .u8 0, .int .u8 0, .int .u8 0, .int .u8 0, .int .u8 0, .int .u8 0, .int .u8 0, .int .u8 0, .int .u8 0, .int .u8 0, .int .u8 0, .int .u8 0, .int .u8 0, .int .u8 0, .int .u8 0, .int .u8 0, .int .u8 0, .int .u8 0, .int .u8 0, .int .u8 0, .int .u8 0, .int .u8 0, .int .u8 0, .int .u8 0, .int .u8 0, .int .u8 0, .int .u8 0, .int .u8 0, .int .u8 0, .int .u8 0, .int .u8 0, .int .u8 0, .int .u8 0, .int .u8 0, .int .u8 0, .int .u8 0, .int .u8 0, .int .u8 0, .int .u8 0, .int .u8 0, .int .u8 0, .int .u8 0, .int .u8 0, .int .u8 0, .int .u8 0, .int .u8 0, .int .u8 0, .int .u8 0, .int .u8 0] : List Value).toArray, zs := [.int .u8 0, .int .u8 0, .int .u8 0, .int .u8 0, .int .u8 0, .int .u8 0, .int .u8 0, .int .u8 0, .int .u8 0, .int .u8 0, .int .u8 0, .int .u8 0, .int .u8 0, .int .u8 0, .int .u8 0, .int .u8 0, .int .u8 0, .int .u8 0, .int .u8 0, .int .u8 0, .int .u8 0, .int .u8 0, .int .u8 0, .int .u8 0, .int .u8 0, .int .u8 0, .int .u8 0, .int .u8 0, .int .u8 0, .int .u8 0, .int .u8 0, .int .u8 0, .int .u8 0, .int .u8 0, .int .u8 0, .int .u8 0, .int .u8 0, .int .u8 0, .int .u8 0, .int .u8 0, .int .u8 0, .int .u8 0, .int .u8 0, .int .u8 0, .int .u8 0, .int .u8 0, .int .u8 0, .int .u8 0, .int .u8 0, .int .u8 0, .int .u8 0, .int .u8 0, .int .u8 0, .int .u8 0, .int .u8 0, .int .u8 0, .int .u8 0, .int .u8 0, .int .u8 0, .int .u8 0, .int .u8 0, .int .u8 0, .int .u8 0, .int .u8 0] }
theorem t127_ok : TIok Tryd.prog 127 t127 := ⟨by kernel_rfl, by kernel_rfl, rfl, rfl⟩
def t136 : TI := { und := .struct [(0, 0)], size := 0, bytes := 0, zero := .agg ([] : List Value).toArray, zs := [] }
theorem t136_ok : TIok Tryd.prog 136 t136 := ⟨by kernel_rfl, by kernel_rfl, rfl, rfl⟩
def t129 : TI := { und := .ptr 131, size := 1, bytes := 8, zero := .pointer none, zs := [.pointer none] }
theorem t129_ok : TIok Tryd.prog 129 t129 := ⟨by kernel_rfl, by kernel_rfl, rfl, rfl⟩
def t131 : TI := { und := .struct [(0, 1)], size := 1, bytes := 16, zero := .agg ([.string ⟨#[]⟩] : List Value).toArray, zs := [.string ⟨#[]⟩] }
theorem t131_ok : TIok Tryd.prog 131 t131 := ⟨by kernel_rfl, by kernel_rfl, rfl, rfl⟩
def t138 : TI := { und := .int .u8, size := 1, bytes := 1, zero := .int .u8 0, zs := [.int .u8 0] }
theorem t138_ok : TIok Tryd.prog 138 t138 := ⟨by kernel_rfl, by kernel_rfl, rfl, rfl⟩
def t140 : TI := { und := .int .i32, size := 1, bytes := 4, zero := .int .i32 0, zs := [.int .i32 0] }
theorem t140_ok : TIok Tryd.prog 140 t140 := ⟨by kernel_rfl, by kernel_rfl, rfl, rfl⟩
def t118 : TI := { und := .struct [(0, 1), (1, 1)], size := 2, bytes := 2, zero := .agg ([.int .u8 0, .int .u8 0] : List Value).toArray, zs := [.int .u8 0, .int .u8 0] }
theorem t118_ok : TIok Tryd.prog 118 t118 := ⟨by kernel_rfl, by kernel_rfl, rfl, rfl⟩
def t123 : TI := { und := .struct [(0, 1), (1, 1), (2, 1)], size := 3, bytes := 48, zero := .agg ([.string ⟨#[]⟩, .string ⟨#[]⟩, .nilIface] : List Value).toArray, zs := [.string ⟨#[]⟩, .string ⟨#[]⟩, .nilIface] }
theorem t123_ok : TIok Tryd.prog 123 t123 := ⟨by kernel_rfl, by kernel_rfl, rfl, rfl⟩
def t130 : TI := { und := .struct [(0, 1)], size := 1, bytes := 16, zero := .agg ([.string ⟨#[]⟩] : List Value).toArray, zs := [.string ⟨#[]⟩] }
theorem t130_ok : TIok Tryd.prog 130 t130 := ⟨by kernel_rfl, by kernel_rfl, rfl, rfl⟩
def t132 : TI := { und := .struct [(0, 1), (1, 1), (2, 1), (3, 1)], size := 4, bytes := 40, zero := .agg ([.pointer none, .pointer none, .pointer none, .string ⟨#[]⟩] : List Value).toArray, zs := [.pointer none, .pointer none, .pointer none, .string ⟨#[]⟩] }
theorem t132_ok : TIok Tryd.prog 132 t132 := ⟨by kernel_rfl, by kernel_rfl, rfl, rfl⟩
def t133 : TI := { und := .struct [(0, 1), (1, 1), (2, 1), (3, 1)], size := 4, bytes := 40, zero := .agg ([.pointer none, .pointer none, .pointer none, .string ⟨#[]⟩] : List Value).toArray, zs := [.pointer none, .pointer none, .pointer none, .string ⟨#[]⟩] }
theorem t133_ok : TIok Tryd.prog 133 t133 := ⟨by kernel_rfl, by kernel_rfl, rfl, rfl⟩
def t134 : TI := { und := .array 0 16, size := 0, bytes := 0, zero := .agg ([] : List Value).toArray, zs := [] }
theorem t134_ok : TIok Tryd.prog 134 t134 := ⟨by kernel_rfl, by kernel_rfl, rfl, rfl⟩
def t135 : TI := { und := .struct [(0, 0)], size := 0, bytes := 0, zero := .agg ([] : List Value).toArray, zs := [] }
theorem t135_ok : TIok Tryd.prog 135 t135 := ⟨by kernel_rfl, by kernel_rfl, rfl, rfl⟩
def t137 : TI := { und := .int .u8, size := 1, bytes := 1, zero := .int .u8 0, zs := [.int .u8 0] }
theorem t137_ok : TIok Tryd.prog 137 t137 := ⟨by kernel_rfl, by kernel_rfl, rfl, rfl⟩
def t141 : TI := { und := .int .i32, size := 1, bytes := 4, zero := .int .i32 0, zs := [.int .i32 0] }
theorem t141_ok : TIok Tryd.prog 141 t141 := ⟨by kernel_rfl, by kernel_rfl, rfl, rfl⟩
def tab : Tab := [(3, t3), (4, t4), (9, t9), (5, t5), (2, t2), (100, t100), (95, t95), (30, t30), (6, t6), (22, t22), (7, t7), (21, t21), (8, t8), (10, t10), (33, t33), (11, t11), (55, t55), (29, t29), (70, t70), (57, t57), (69, t69), (77, t77), (27, t27), (45, t45), (12, t12), (14, t14), (25, t25), (13, t13), (54, t54), (16, t16), (15, t15), (73, t73), (110, t110), (68, t68), (46, t46), (113, t113), (18, t18), (119, t119), (17, t17), (19, t19), (108, t108), (80, t80), (120, t120), (26, t26), (28, t28), (94, t94), (72, t72), (79, t79), (56, t56), (78, t78), (107, t107), (124, t124), (126, t126), (127, t127), (136, t136), (129, t129), (131, t131), (138, t138), (140, t140), (118, t118), (123, t123), (130, t130), (132, t132), (133, t133), (134, t134), (135, t135), (137, t137), (141, t141)]
theorem tabOk : TabOk Tryd.prog tab := by
  intro p hp
  have key : ∀ (l : Tab), (∀ p ∈ l, TIok Tryd.prog p.1 p.2) → ∀ k ti, TIok Tryd.prog k ti → ∀ p ∈ (k, ti) :: l, TIok Tryd.prog p.1 p.2 := fun l h k ti h1 p hp => by
    rcases List.mem_cons.1 hp with rfl | hp
    · exact h1
    · exact h p hp
  exact key _ (key _ (key _ (key _ (key _ (key _ (key _ (key _ (key _ (key _ (key _ (key _ (key _ (key _ (key _ (key _ (key _ (key _ (key _ (key _ (key _ (key _ (key _ (key _ (key _ (key _ (key _ (key _ (key _ (key _ (key _ (key _ (key _ (key _ (key _ (key _ (key _ (key _ (key _ (key _ (key _ (key _ (key _ (key _ (key _ (key _ (key _ (key _ (key _ (key _ (key _ (key _ (key _ (key _ (key _ (key _ (key _ (key _ (key _ (key _ (key _ (key _ (key _ (key _ (key _ (key _ (key _ (key _ (fun p h => by cases h) _ _ t141_ok) _ _ t137_ok) _ _ t135_ok) _ _ t134_ok) _ _ t133_ok) _ _ t132_ok) _ _ t130_ok) _ _ t123_ok) _ _ t118_ok) _ _ t140_ok) _ _ t138_ok) _ _ t131_ok) _ _ t129_ok) _ _ t136_ok) _ _ t127_ok) _ _ t126_ok) _ _ t124_ok) _ _ t107_ok) _ _ t78_ok) _ _ t56_ok) _ _ t79_ok) _ _ t72_ok) _ _ t94_ok) _ _ t28_ok) _ _ t26_ok) _ _ t120_ok) _ _ t80_ok) _ _ t108_ok) _ _ t19_ok) _ _ t17_ok) _ _ t119_ok) _ _ t18_ok) _ _ t113_ok) _ _ t46_ok) _ _ t68_ok) _ _ t110_ok) _ _ t73_ok) _ _ t15_ok) _ _ t16_ok) _ _ t54_ok) _ _ t13_ok) _ _ t25_ok) _ _ t14_ok) _ _ t12_ok) _ _ t45_ok) _ _ t27_ok) _ _ t77_ok) _ _ t69_ok) _ _ t57_ok) _ _ t70_ok) _ _ t29_ok) _ _ t55_ok) _ _ t11_ok) _ _ t33_ok) _ _ t10_ok) _ _ t8_ok) _ _ t21_ok) _ _ t7_ok) _ _ t22_ok) _ _ t6_ok) _ _ t30_ok) _ _ t95_ok) _ _ t100_ok) _ _ t2_ok) _ _ t5_ok) _ _ t9_ok) _ _ t4_ok) _ _ t3_ok p hp
end Go.Proofs.YtceobomlmdmicaaDoor.T
