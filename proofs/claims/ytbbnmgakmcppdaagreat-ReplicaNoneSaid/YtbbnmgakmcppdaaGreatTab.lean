/- What is known of this program's types: sizes, zeros, the places of fields. Each entry is checked by the kernel. (Written by wip/tab.py.) -/
import Derived.Test.YtbbnmgakmcppdaaGreatVgA
import Derived.Test.YtbbnmgakmcppdaaGreatRows
import Derived.KernelRfl
namespace Go.Proofs.YtbbnmgakmcppdaaGreat.T
open Go Go.Proofs.YtbbnmgakmcppdaaGreat.Vg
def t3 : TI := { und := .int .i64, size := 1, bytes := 8, zero := .int .i64 0, zs := [.int .i64 0] }
theorem t3_ok : TIok Tryz.prog 3 t3 := ⟨by kernel_rfl, by kernel_rfl, rfl, rfl⟩
def t4 : TI := { und := .bool, size := 1, bytes := 1, zero := .bool false, zs := [.bool false] }
theorem t4_ok : TIok Tryz.prog 4 t4 := ⟨by kernel_rfl, by kernel_rfl, rfl, rfl⟩
def t2 : TI := { und := .int .i64, size := 1, bytes := 8, zero := .int .i64 0, zs := [.int .i64 0] }
theorem t2_ok : TIok Tryz.prog 2 t2 := ⟨by kernel_rfl, by kernel_rfl, rfl, rfl⟩
def t46 : TI := { und := .struct [(0, 1), (1, 1), (2, 1), (3, 1), (4, 1), (5, 1), (6, 1), (7, 4), (11, 4), (15, 1), (16, 7), (23, 3), (26, 1), (27, 1), (28, 1)], size := 29, bytes := 288, zero := .agg ([.int .i64 0, .int .i64 0, .int .i64 0, .int .i64 0, .int .i64 0, .int .i64 0, .int .i64 0, .int .i64 0, .string ⟨#[]⟩, .string ⟨#[]⟩, .int .i64 0, .int .i64 0, .string ⟨#[]⟩, .int .i64 0, .int .i64 0, .int .i64 0, .int .i64 0, .int .i64 0, .int .i64 0, .int .i64 0, .string ⟨#[]⟩, .string ⟨#[]⟩, .int .i64 0, .int .i64 0, .slice none 0 0, .int .i64 0, .int .i64 0, .int .i64 0, .int .i64 0] : List Value).toArray, zs := [.int .i64 0, .int .i64 0, .int .i64 0, .int .i64 0, .int .i64 0, .int .i64 0, .int .i64 0, .int .i64 0, .string ⟨#[]⟩, .string ⟨#[]⟩, .int .i64 0, .int .i64 0, .string ⟨#[]⟩, .int .i64 0, .int .i64 0, .int .i64 0, .int .i64 0, .int .i64 0, .int .i64 0, .int .i64 0, .string ⟨#[]⟩, .string ⟨#[]⟩, .int .i64 0, .int .i64 0, .slice none 0 0, .int .i64 0, .int .i64 0, .int .i64 0, .int .i64 0] }
theorem t46_ok : TIok Tryz.prog 46 t46 := ⟨by kernel_rfl, by kernel_rfl, rfl, rfl⟩
def t27 : TI := { und := .ptr 102, size := 1, bytes := 8, zero := .pointer none, zs := [.pointer none] }
theorem t27_ok : TIok Tryz.prog 27 t27 := ⟨by kernel_rfl, by kernel_rfl, rfl, rfl⟩
def t5 : TI := { und := .int .u8, size := 1, bytes := 1, zero := .int .u8 0, zs := [.int .u8 0] }
theorem t5_ok : TIok Tryz.prog 5 t5 := ⟨by kernel_rfl, by kernel_rfl, rfl, rfl⟩
def t62 : TI := { und := .ptr 87, size := 1, bytes := 8, zero := .pointer none, zs := [.pointer none] }
theorem t62_ok : TIok Tryz.prog 62 t62 := ⟨by kernel_rfl, by kernel_rfl, rfl, rfl⟩
def t36 : TI := { und := .struct [(0, 1), (1, 1), (2, 1)], size := 3, bytes := 40, zero := .agg ([.int .i64 0, .slice none 0 0, .int .i64 0] : List Value).toArray, zs := [.int .i64 0, .slice none 0 0, .int .i64 0] }
theorem t36_ok : TIok Tryz.prog 36 t36 := ⟨by kernel_rfl, by kernel_rfl, rfl, rfl⟩
def t24 : TI := { und := .struct [(0, 1), (1, 1), (2, 1), (3, 1), (4, 1), (5, 1), (6, 1), (7, 1), (8, 1), (9, 1), (10, 1), (11, 1)], size := 12, bytes := 112, zero := .agg ([.int .i64 0, .int .i64 0, .int .i64 0, .slice none 0 0, .int .i64 0, .int .i64 0, .int .i64 0, .int .i64 0, .int .i64 0, .int .i64 0, .int .i64 0, .int .i64 0] : List Value).toArray, zs := [.int .i64 0, .int .i64 0, .int .i64 0, .slice none 0 0, .int .i64 0, .int .i64 0, .int .i64 0, .int .i64 0, .int .i64 0, .int .i64 0, .int .i64 0, .int .i64 0] }
theorem t24_ok : TIok Tryz.prog 24 t24 := ⟨by kernel_rfl, by kernel_rfl, rfl, rfl⟩
def t28 : TI := { und := .int .i64, size := 1, bytes := 8, zero := .int .i64 0, zs := [.int .i64 0] }
theorem t28_ok : TIok Tryz.prog 28 t28 := ⟨by kernel_rfl, by kernel_rfl, rfl, rfl⟩
def t6 : TI := { und := .int .u8, size := 1, bytes := 1, zero := .int .u8 0, zs := [.int .u8 0] }
theorem t6_ok : TIok Tryz.prog 6 t6 := ⟨by kernel_rfl, by kernel_rfl, rfl, rfl⟩
def t9 : TI := { und := .string, size := 1, bytes := 16, zero := .string ⟨#[]⟩, zs := [.string ⟨#[]⟩] }
theorem t9_ok : TIok Tryz.prog 9 t9 := ⟨by kernel_rfl, by kernel_rfl, rfl, rfl⟩
def t55 : TI := { und := .ptr 141, size := 1, bytes := 8, zero := .pointer none, zs := [.pointer none] }
theorem t55_ok : TIok Tryz.prog 55 t55 := ⟨by kernel_rfl, by kernel_rfl, rfl, rfl⟩
def t37 : TI := { und := .slice 50, size := 1, bytes := 24, zero := .slice none 0 0, zs := [.slice none 0 0] }
theorem t37_ok : TIok Tryz.prog 37 t37 := ⟨by kernel_rfl, by kernel_rfl, rfl, rfl⟩
def t7 : TI := { und := .struct [(0, 1), (1, 1), (2, 1), (3, 1)], size := 4, bytes := 24, zero := .agg ([.int .i64 0, .int .i64 0, .bool false, .int .u8 0] : List Value).toArray, zs := [.int .i64 0, .int .i64 0, .bool false, .int .u8 0] }
theorem t7_ok : TIok Tryz.prog 7 t7 := ⟨by kernel_rfl, by kernel_rfl, rfl, rfl⟩
def t40 : TI := { und := .struct [(0, 1), (1, 1), (2, 1), (3, 1)], size := 4, bytes := 48, zero := .agg ([.int .i64 0, .string ⟨#[]⟩, .string ⟨#[]⟩, .int .i64 0] : List Value).toArray, zs := [.int .i64 0, .string ⟨#[]⟩, .string ⟨#[]⟩, .int .i64 0] }
theorem t40_ok : TIok Tryz.prog 40 t40 := ⟨by kernel_rfl, by kernel_rfl, rfl, rfl⟩
def t8 : TI := { und := .struct [(0, 1), (1, 1), (2, 1), (3, 1)], size := 4, bytes := 24, zero := .agg ([.int .i64 0, .int .i64 0, .bool false, .int .u8 0] : List Value).toArray, zs := [.int .i64 0, .int .i64 0, .bool false, .int .u8 0] }
theorem t8_ok : TIok Tryz.prog 8 t8 := ⟨by kernel_rfl, by kernel_rfl, rfl, rfl⟩
def t47 : TI := { und := .ptr 139, size := 1, bytes := 8, zero := .pointer none, zs := [.pointer none] }
theorem t47_ok : TIok Tryz.prog 47 t47 := ⟨by kernel_rfl, by kernel_rfl, rfl, rfl⟩
def t44 : TI := { und := .struct [(0, 1), (1, 1), (2, 1), (3, 4)], size := 7, bytes := 72, zero := .agg ([.int .i64 0, .int .i64 0, .int .i64 0, .int .i64 0, .string ⟨#[]⟩, .string ⟨#[]⟩, .int .i64 0] : List Value).toArray, zs := [.int .i64 0, .int .i64 0, .int .i64 0, .int .i64 0, .string ⟨#[]⟩, .string ⟨#[]⟩, .int .i64 0] }
theorem t44_ok : TIok Tryz.prog 44 t44 := ⟨by kernel_rfl, by kernel_rfl, rfl, rfl⟩
def t87 : TI := { und := .struct [(0, 12), (12, 1), (13, 3), (16, 1), (17, 1), (18, 1), (19, 1), (20, 1), (21, 1), (22, 1), (23, 1), (24, 1), (25, 1), (26, 1), (27, 1), (28, 1)], size := 29, bytes := 280, zero := .agg ([.int .i64 0, .int .i64 0, .int .i64 0, .slice none 0 0, .int .i64 0, .int .i64 0, .int .i64 0, .int .i64 0, .int .i64 0, .int .i64 0, .int .i64 0, .int .i64 0, .int .i64 0, .int .i64 0, .slice none 0 0, .int .i64 0, .int .i64 0, .bool false, .int .i64 0, .int .i64 0, .pointer none, .int .i64 0, .int .i64 0, .int .i64 0, .int .i64 0, .pointer none, .pointer none, .bool false, .slice none 0 0] : List Value).toArray, zs := [.int .i64 0, .int .i64 0, .int .i64 0, .slice none 0 0, .int .i64 0, .int .i64 0, .int .i64 0, .int .i64 0, .int .i64 0, .int .i64 0, .int .i64 0, .int .i64 0, .int .i64 0, .int .i64 0, .slice none 0 0, .int .i64 0, .int .i64 0, .bool false, .int .i64 0, .int .i64 0, .pointer none, .int .i64 0, .int .i64 0, .int .i64 0, .int .i64 0, .pointer none, .pointer none, .bool false, .slice none 0 0] }
theorem t87_ok : TIok Tryz.prog 87 t87 := ⟨by kernel_rfl, by kernel_rfl, rfl, rfl⟩
def t42 : TI := { und := .struct [(0, 1), (1, 1), (2, 1), (3, 1)], size := 4, bytes := 40, zero := .agg ([.int .i64 0, .string ⟨#[]⟩, .int .i64 0, .int .i64 0] : List Value).toArray, zs := [.int .i64 0, .string ⟨#[]⟩, .int .i64 0, .int .i64 0] }
theorem t42_ok : TIok Tryz.prog 42 t42 := ⟨by kernel_rfl, by kernel_rfl, rfl, rfl⟩
def t102 : TI := { und := .struct [(0, 1), (1, 1), (2, 1), (3, 1), (4, 3), (7, 1), (8, 1), (9, 1), (10, 1), (11, 1), (12, 1), (13, 1), (14, 1), (15, 1), (16, 1)], size := 17, bytes := 152, zero := .agg ([.int .i64 0, .int .i64 0, .int .i64 0, .int .i64 0, .int .i64 0, .slice none 0 0, .int .i64 0, .int .i64 0, .bool false, .pointer none, .pointer none, .pointer none, .pointer none, .int .i64 0, .int .i64 0, .bool false, .int .i64 0] : List Value).toArray, zs := [.int .i64 0, .int .i64 0, .int .i64 0, .int .i64 0, .int .i64 0, .slice none 0 0, .int .i64 0, .int .i64 0, .bool false, .pointer none, .pointer none, .pointer none, .pointer none, .int .i64 0, .int .i64 0, .bool false, .int .i64 0] }
theorem t102_ok : TIok Tryz.prog 102 t102 := ⟨by kernel_rfl, by kernel_rfl, rfl, rfl⟩
def t10 : TI := { und := .string, size := 1, bytes := 16, zero := .string ⟨#[]⟩, zs := [.string ⟨#[]⟩] }
theorem t10_ok : TIok Tryz.prog 10 t10 := ⟨by kernel_rfl, by kernel_rfl, rfl, rfl⟩
def t65 : TI := { und := .slice 46, size := 1, bytes := 24, zero := .slice none 0 0, zs := [.slice none 0 0] }
theorem t65_ok : TIok Tryz.prog 65 t65 := ⟨by kernel_rfl, by kernel_rfl, rfl, rfl⟩
def t11 : TI := { und := .string, size := 1, bytes := 16, zero := .string ⟨#[]⟩, zs := [.string ⟨#[]⟩] }
theorem t11_ok : TIok Tryz.prog 11 t11 := ⟨by kernel_rfl, by kernel_rfl, rfl, rfl⟩
def t12 : TI := { und := .int .u64, size := 1, bytes := 8, zero := .int .u64 0, zs := [.int .u64 0] }
theorem t12_ok : TIok Tryz.prog 12 t12 := ⟨by kernel_rfl, by kernel_rfl, rfl, rfl⟩
def t22 : TI := { und := .slice 3, size := 1, bytes := 24, zero := .slice none 0 0, zs := [.slice none 0 0] }
theorem t22_ok : TIok Tryz.prog 22 t22 := ⟨by kernel_rfl, by kernel_rfl, rfl, rfl⟩
def t99 : TI := { und := .ptr 184, size := 1, bytes := 8, zero := .pointer none, zs := [.pointer none] }
theorem t99_ok : TIok Tryz.prog 99 t99 := ⟨by kernel_rfl, by kernel_rfl, rfl, rfl⟩
def t34 : TI := { und := .slice 33, size := 1, bytes := 24, zero := .slice none 0 0, zs := [.slice none 0 0] }
theorem t34_ok : TIok Tryz.prog 34 t34 := ⟨by kernel_rfl, by kernel_rfl, rfl, rfl⟩
def t16 : TI := { und := .ptr 267, size := 1, bytes := 8, zero := .pointer none, zs := [.pointer none] }
theorem t16_ok : TIok Tryz.prog 16 t16 := ⟨by kernel_rfl, by kernel_rfl, rfl, rfl⟩
def t14 : TI := { und := .struct [(0, 1), (1, 1)], size := 2, bytes := 24, zero := .agg ([.string ⟨#[]⟩, .int .u64 0] : List Value).toArray, zs := [.string ⟨#[]⟩, .int .u64 0] }
theorem t14_ok : TIok Tryz.prog 14 t14 := ⟨by kernel_rfl, by kernel_rfl, rfl, rfl⟩
def t50 : TI := { und := .struct [(0, 1), (1, 29)], size := 30, bytes := 296, zero := .agg ([.int .i64 0, .int .i64 0, .int .i64 0, .int .i64 0, .int .i64 0, .int .i64 0, .int .i64 0, .int .i64 0, .int .i64 0, .string ⟨#[]⟩, .string ⟨#[]⟩, .int .i64 0, .int .i64 0, .string ⟨#[]⟩, .int .i64 0, .int .i64 0, .int .i64 0, .int .i64 0, .int .i64 0, .int .i64 0, .int .i64 0, .string ⟨#[]⟩, .string ⟨#[]⟩, .int .i64 0, .int .i64 0, .slice none 0 0, .int .i64 0, .int .i64 0, .int .i64 0, .int .i64 0] : List Value).toArray, zs := [.int .i64 0, .int .i64 0, .int .i64 0, .int .i64 0, .int .i64 0, .int .i64 0, .int .i64 0, .int .i64 0, .int .i64 0, .string ⟨#[]⟩, .string ⟨#[]⟩, .int .i64 0, .int .i64 0, .string ⟨#[]⟩, .int .i64 0, .int .i64 0, .int .i64 0, .int .i64 0, .int .i64 0, .int .i64 0, .int .i64 0, .string ⟨#[]⟩, .string ⟨#[]⟩, .int .i64 0, .int .i64 0, .slice none 0 0, .int .i64 0, .int .i64 0, .int .i64 0, .int .i64 0] }
theorem t50_ok : TIok Tryz.prog 50 t50 := ⟨by kernel_rfl, by kernel_rfl, rfl, rfl⟩
def t67 : TI := { und := .struct [(0, 1), (1, 1), (2, 1), (3, 1), (4, 4), (8, 1), (9, 29)], size := 38, bytes := 352, zero := .agg ([.int .u8 0, .int .u8 0, .int .u8 0, .int .u8 0, .int .i64 0, .string ⟨#[]⟩, .string ⟨#[]⟩, .int .i64 0, .int .i64 0, .int .i64 0, .int .i64 0, .int .i64 0, .int .i64 0, .int .i64 0, .int .i64 0, .int .i64 0, .int .i64 0, .string ⟨#[]⟩, .string ⟨#[]⟩, .int .i64 0, .int .i64 0, .string ⟨#[]⟩, .int .i64 0, .int .i64 0, .int .i64 0, .int .i64 0, .int .i64 0, .int .i64 0, .int .i64 0, .string ⟨#[]⟩, .string ⟨#[]⟩, .int .i64 0, .int .i64 0, .slice none 0 0, .int .i64 0, .int .i64 0, .int .i64 0, .int .i64 0] : List Value).toArray, zs := [.int .u8 0, .int .u8 0, .int .u8 0, .int .u8 0, .int .i64 0, .string ⟨#[]⟩, .string ⟨#[]⟩, .int .i64 0, .int .i64 0, .int .i64 0, .int .i64 0, .int .i64 0, .int .i64 0, .int .i64 0, .int .i64 0, .int .i64 0, .int .i64 0, .string ⟨#[]⟩, .string ⟨#[]⟩, .int .i64 0, .int .i64 0, .string ⟨#[]⟩, .int .i64 0, .int .i64 0, .int .i64 0, .int .i64 0, .int .i64 0, .int .i64 0, .int .i64 0, .string ⟨#[]⟩, .string ⟨#[]⟩, .int .i64 0, .int .i64 0, .slice none 0 0, .int .i64 0, .int .i64 0, .int .i64 0, .int .i64 0] }
theorem t67_ok : TIok Tryz.prog 67 t67 := ⟨by kernel_rfl, by kernel_rfl, rfl, rfl⟩
def t168 : TI := { und := .ptr 174, size := 1, bytes := 8, zero := .pointer none, zs := [.pointer none] }
theorem t168_ok : TIok Tryz.prog 168 t168 := ⟨by kernel_rfl, by kernel_rfl, rfl, rfl⟩
def t13 : TI := { und := .struct [(0, 1), (1, 1)], size := 2, bytes := 24, zero := .agg ([.string ⟨#[]⟩, .int .u64 0] : List Value).toArray, zs := [.string ⟨#[]⟩, .int .u64 0] }
theorem t13_ok : TIok Tryz.prog 13 t13 := ⟨by kernel_rfl, by kernel_rfl, rfl, rfl⟩
def t177 : TI := { und := .ptr 228, size := 1, bytes := 8, zero := .pointer none, zs := [.pointer none] }
theorem t177_ok : TIok Tryz.prog 177 t177 := ⟨by kernel_rfl, by kernel_rfl, rfl, rfl⟩
def t15 : TI := { und := .ptr 264, size := 1, bytes := 8, zero := .pointer none, zs := [.pointer none] }
theorem t15_ok : TIok Tryz.prog 15 t15 := ⟨by kernel_rfl, by kernel_rfl, rfl, rfl⟩
def t229 : TI := { und := .ptr 250, size := 1, bytes := 8, zero := .pointer none, zs := [.pointer none] }
theorem t229_ok : TIok Tryz.prog 229 t229 := ⟨by kernel_rfl, by kernel_rfl, rfl, rfl⟩
def t84 : TI := { und := .ptr 171, size := 1, bytes := 8, zero := .pointer none, zs := [.pointer none] }
theorem t84_ok : TIok Tryz.prog 84 t84 := ⟨by kernel_rfl, by kernel_rfl, rfl, rfl⟩
def t33 : TI := { und := .struct [(0, 1), (1, 1)], size := 2, bytes := 16, zero := .agg ([.int .i64 0, .int .i64 0] : List Value).toArray, zs := [.int .i64 0, .int .i64 0] }
theorem t33_ok : TIok Tryz.prog 33 t33 := ⟨by kernel_rfl, by kernel_rfl, rfl, rfl⟩
def t148 : TI := { und := .slice 151, size := 1, bytes := 24, zero := .slice none 0 0, zs := [.slice none 0 0] }
theorem t148_ok : TIok Tryz.prog 148 t148 := ⟨by kernel_rfl, by kernel_rfl, rfl, rfl⟩
def t52 : TI := { und := .slice 44, size := 1, bytes := 24, zero := .slice none 0 0, zs := [.slice none 0 0] }
theorem t52_ok : TIok Tryz.prog 52 t52 := ⟨by kernel_rfl, by kernel_rfl, rfl, rfl⟩
def t83 : TI := { und := .ptr 205, size := 1, bytes := 8, zero := .pointer none, zs := [.pointer none] }
theorem t83_ok : TIok Tryz.prog 83 t83 := ⟨by kernel_rfl, by kernel_rfl, rfl, rfl⟩
def t100 : TI := { und := .ptr 186, size := 1, bytes := 8, zero := .pointer none, zs := [.pointer none] }
theorem t100_ok : TIok Tryz.prog 100 t100 := ⟨by kernel_rfl, by kernel_rfl, rfl, rfl⟩
def t212 : TI := { und := .slice 258, size := 1, bytes := 24, zero := .slice none 0 0, zs := [.slice none 0 0] }
theorem t212_ok : TIok Tryz.prog 212 t212 := ⟨by kernel_rfl, by kernel_rfl, rfl, rfl⟩
def t17 : TI := { und := .ptr 276, size := 1, bytes := 8, zero := .pointer none, zs := [.pointer none] }
theorem t17_ok : TIok Tryz.prog 17 t17 := ⟨by kernel_rfl, by kernel_rfl, rfl, rfl⟩
def t60 : TI := { und := .slice 67, size := 1, bytes := 24, zero := .slice none 0 0, zs := [.slice none 0 0] }
theorem t60_ok : TIok Tryz.prog 60 t60 := ⟨by kernel_rfl, by kernel_rfl, rfl, rfl⟩
def t85 : TI := { und := .ptr 167, size := 1, bytes := 8, zero := .pointer none, zs := [.pointer none] }
theorem t85_ok : TIok Tryz.prog 85 t85 := ⟨by kernel_rfl, by kernel_rfl, rfl, rfl⟩
def t131 : TI := { und := .struct [(0, 1), (1, 29), (30, 4)], size := 34, bytes := 336, zero := .agg ([.int .i64 0, .int .i64 0, .int .i64 0, .int .i64 0, .int .i64 0, .int .i64 0, .int .i64 0, .int .i64 0, .int .i64 0, .string ⟨#[]⟩, .string ⟨#[]⟩, .int .i64 0, .int .i64 0, .string ⟨#[]⟩, .int .i64 0, .int .i64 0, .int .i64 0, .int .i64 0, .int .i64 0, .int .i64 0, .int .i64 0, .string ⟨#[]⟩, .string ⟨#[]⟩, .int .i64 0, .int .i64 0, .slice none 0 0, .int .i64 0, .int .i64 0, .int .i64 0, .int .i64 0, .int .i64 0, .string ⟨#[]⟩, .int .i64 0, .int .i64 0] : List Value).toArray, zs := [.int .i64 0, .int .i64 0, .int .i64 0, .int .i64 0, .int .i64 0, .int .i64 0, .int .i64 0, .int .i64 0, .int .i64 0, .string ⟨#[]⟩, .string ⟨#[]⟩, .int .i64 0, .int .i64 0, .string ⟨#[]⟩, .int .i64 0, .int .i64 0, .int .i64 0, .int .i64 0, .int .i64 0, .int .i64 0, .int .i64 0, .string ⟨#[]⟩, .string ⟨#[]⟩, .int .i64 0, .int .i64 0, .slice none 0 0, .int .i64 0, .int .i64 0, .int .i64 0, .int .i64 0, .int .i64 0, .string ⟨#[]⟩, .int .i64 0, .int .i64 0] }
theorem t131_ok : TIok Tryz.prog 131 t131 := ⟨by kernel_rfl, by kernel_rfl, rfl, rfl⟩
def t174 : TI := { und := .struct [(0, 1), (1, 1), (2, 1), (3, 1), (4, 1), (5, 1), (6, 1)], size := 7, bytes := 120, zero := .agg ([.int .i64 0, .slice none 0 0, .slice none 0 0, .slice none 0 0, .slice none 0 0, .int .i64 0, .bool false] : List Value).toArray, zs := [.int .i64 0, .slice none 0 0, .slice none 0 0, .slice none 0 0, .slice none 0 0, .int .i64 0, .bool false] }
theorem t174_ok : TIok Tryz.prog 174 t174 := ⟨by kernel_rfl, by kernel_rfl, rfl, rfl⟩
def t133 : TI := { und := .ptr 225, size := 1, bytes := 8, zero := .pointer none, zs := [.pointer none] }
theorem t133_ok : TIok Tryz.prog 133 t133 := ⟨by kernel_rfl, by kernel_rfl, rfl, rfl⟩
def t69 : TI := { und := .slice 216, size := 1, bytes := 24, zero := .slice none 0 0, zs := [.slice none 0 0] }
theorem t69_ok : TIok Tryz.prog 69 t69 := ⟨by kernel_rfl, by kernel_rfl, rfl, rfl⟩
def t18 : TI := { und := .struct [(0, 1)], size := 1, bytes := 8, zero := .agg ([.pointer none] : List Value).toArray, zs := [.pointer none] }
theorem t18_ok : TIok Tryz.prog 18 t18 := ⟨by kernel_rfl, by kernel_rfl, rfl, rfl⟩
def t128 : TI := { und := .slice 131, size := 1, bytes := 24, zero := .slice none 0 0, zs := [.slice none 0 0] }
theorem t128_ok : TIok Tryz.prog 128 t128 := ⟨by kernel_rfl, by kernel_rfl, rfl, rfl⟩
def t19 : TI := { und := .struct [(0, 1)], size := 1, bytes := 8, zero := .agg ([.pointer none] : List Value).toArray, zs := [.pointer none] }
theorem t19_ok : TIok Tryz.prog 19 t19 := ⟨by kernel_rfl, by kernel_rfl, rfl, rfl⟩
def t141 : TI := { und := .struct [(0, 1), (1, 1), (2, 1), (3, 1), (4, 1)], size := 5, bytes := 40, zero := .agg ([.int .i64 0, .int .i64 0, .int .i64 0, .int .i64 0, .int .i64 0] : List Value).toArray, zs := [.int .i64 0, .int .i64 0, .int .i64 0, .int .i64 0, .int .i64 0] }
theorem t141_ok : TIok Tryz.prog 141 t141 := ⟨by kernel_rfl, by kernel_rfl, rfl, rfl⟩
def t134 : TI := { und := .slice 42, size := 1, bytes := 24, zero := .slice none 0 0, zs := [.slice none 0 0] }
theorem t134_ok : TIok Tryz.prog 134 t134 := ⟨by kernel_rfl, by kernel_rfl, rfl, rfl⟩
def t233 : TI := { und := .struct [(0, 1), (1, 1), (2, 1), (3, 1)], size := 4, bytes := 32, zero := .agg ([.pointer none, .int .i64 0, .int .i64 0, .int .i64 0] : List Value).toArray, zs := [.pointer none, .int .i64 0, .int .i64 0, .int .i64 0] }
theorem t233_ok : TIok Tryz.prog 233 t233 := ⟨by kernel_rfl, by kernel_rfl, rfl, rfl⟩
def t139 : TI := { und := .struct [(0, 1), (1, 1), (2, 1), (3, 12)], size := 15, bytes := 152, zero := .agg ([.pointer none, .slice none 0 0, .slice none 0 0, .int .i64 0, .int .i64 0, .int .i64 0, .int .i64 0, .int .i64 0, .int .i64 0, .int .i64 0, .int .i64 0, .int .i64 0, .int .i64 0, .int .i64 0, .int .i64 0] : List Value).toArray, zs := [.pointer none, .slice none 0 0, .slice none 0 0, .int .i64 0, .int .i64 0, .int .i64 0, .int .i64 0, .int .i64 0, .int .i64 0, .int .i64 0, .int .i64 0, .int .i64 0, .int .i64 0, .int .i64 0, .int .i64 0] }
theorem t139_ok : TIok Tryz.prog 139 t139 := ⟨by kernel_rfl, by kernel_rfl, rfl, rfl⟩
def t167 : TI := { und := .struct [(0, 1), (1, 1), (2, 1)], size := 3, bytes := 40, zero := .agg ([.int .i64 0, .slice none 0 0, .int .i64 0] : List Value).toArray, zs := [.int .i64 0, .slice none 0 0, .int .i64 0] }
theorem t167_ok : TIok Tryz.prog 167 t167 := ⟨by kernel_rfl, by kernel_rfl, rfl, rfl⟩
def t91 : TI := { und := .slice 92, size := 1, bytes := 24, zero := .slice none 0 0, zs := [.slice none 0 0] }
theorem t91_ok : TIok Tryz.prog 91 t91 := ⟨by kernel_rfl, by kernel_rfl, rfl, rfl⟩
def t181 : TI := { und := .struct [(0, 1), (1, 1)], size := 2, bytes := 16, zero := .agg ([.int .i64 0, .int .i64 0] : List Value).toArray, zs := [.int .i64 0, .int .i64 0] }
theorem t181_ok : TIok Tryz.prog 181 t181 := ⟨by kernel_rfl, by kernel_rfl, rfl, rfl⟩
def t32 : TI := { und := .struct [(0, 1), (1, 1)], size := 2, bytes := 16, zero := .agg ([.int .i64 0, .int .i64 0] : List Value).toArray, zs := [.int .i64 0, .int .i64 0] }
theorem t32_ok : TIok Tryz.prog 32 t32 := ⟨by kernel_rfl, by kernel_rfl, rfl, rfl⟩
def t151 : TI := { und := .struct [(0, 1), (1, 29), (30, 4)], size := 34, bytes := 336, zero := .agg ([.int .i64 0, .int .i64 0, .int .i64 0, .int .i64 0, .int .i64 0, .int .i64 0, .int .i64 0, .int .i64 0, .int .i64 0, .string ⟨#[]⟩, .string ⟨#[]⟩, .int .i64 0, .int .i64 0, .string ⟨#[]⟩, .int .i64 0, .int .i64 0, .int .i64 0, .int .i64 0, .int .i64 0, .int .i64 0, .int .i64 0, .string ⟨#[]⟩, .string ⟨#[]⟩, .int .i64 0, .int .i64 0, .slice none 0 0, .int .i64 0, .int .i64 0, .int .i64 0, .int .i64 0, .int .i64 0, .string ⟨#[]⟩, .int .i64 0, .int .i64 0] : List Value).toArray, zs := [.int .i64 0, .int .i64 0, .int .i64 0, .int .i64 0, .int .i64 0, .int .i64 0, .int .i64 0, .int .i64 0, .int .i64 0, .string ⟨#[]⟩, .string ⟨#[]⟩, .int .i64 0, .int .i64 0, .string ⟨#[]⟩, .int .i64 0, .int .i64 0, .int .i64 0, .int .i64 0, .int .i64 0, .int .i64 0, .int .i64 0, .string ⟨#[]⟩, .string ⟨#[]⟩, .int .i64 0, .int .i64 0, .slice none 0 0, .int .i64 0, .int .i64 0, .int .i64 0, .int .i64 0, .int .i64 0, .string ⟨#[]⟩, .int .i64 0, .int .i64 0] }
theorem t151_ok : TIok Tryz.prog 151 t151 := ⟨by kernel_rfl, by kernel_rfl, rfl, rfl⟩
def t172 : TI := { und := .slice 65, size := 1, bytes := 24, zero := .slice none 0 0, zs := [.slice none 0 0] }
theorem t172_ok : TIok Tryz.prog 172 t172 := ⟨by kernel_rfl, by kernel_rfl, rfl, rfl⟩
def t228 : TI := { und := .struct [(0, 1), (1, 1), (2, 1)], size := 3, bytes := 40, zero := .agg ([.slice none 0 0, .int .i64 0, .bool false] : List Value).toArray, zs := [.slice none 0 0, .int .i64 0, .bool false] }
theorem t228_ok : TIok Tryz.prog 228 t228 := ⟨by kernel_rfl, by kernel_rfl, rfl, rfl⟩
def t21 : TI := { und := .int .i32, size := 1, bytes := 4, zero := .int .i32 0, zs := [.int .i32 0] }
theorem t21_ok : TIok Tryz.prog 21 t21 := ⟨by kernel_rfl, by kernel_rfl, rfl, rfl⟩
def t117 : TI := { und := .struct [(0, 1)], size := 1, bytes := 24, zero := .agg ([.slice none 0 0] : List Value).toArray, zs := [.slice none 0 0] }
theorem t117_ok : TIok Tryz.prog 117 t117 := ⟨by kernel_rfl, by kernel_rfl, rfl, rfl⟩
def t254 : TI := { und := .ptr 233, size := 1, bytes := 8, zero := .pointer none, zs := [.pointer none] }
theorem t254_ok : TIok Tryz.prog 254 t254 := ⟨by kernel_rfl, by kernel_rfl, rfl, rfl⟩
def t35 : TI := { und := .struct [(0, 1), (1, 1), (2, 1)], size := 3, bytes := 40, zero := .agg ([.int .i64 0, .slice none 0 0, .int .i64 0] : List Value).toArray, zs := [.int .i64 0, .slice none 0 0, .int .i64 0] }
theorem t35_ok : TIok Tryz.prog 35 t35 := ⟨by kernel_rfl, by kernel_rfl, rfl, rfl⟩
def t171 : TI := { und := .struct [(0, 12), (12, 1), (13, 6), (19, 6)], size := 25, bytes := 216, zero := .agg ([.int .i64 0, .int .i64 0, .int .i64 0, .slice none 0 0, .int .i64 0, .int .i64 0, .int .i64 0, .int .i64 0, .int .i64 0, .int .i64 0, .int .i64 0, .int .i64 0, .pointer none, .int .i64 0, .int .i64 0, .int .i64 0, .int .i64 0, .int .i64 0, .int .i64 0, .int .i64 0, .int .i64 0, .int .i64 0, .int .i64 0, .int .i64 0, .int .i64 0] : List Value).toArray, zs := [.int .i64 0, .int .i64 0, .int .i64 0, .slice none 0 0, .int .i64 0, .int .i64 0, .int .i64 0, .int .i64 0, .int .i64 0, .int .i64 0, .int .i64 0, .int .i64 0, .pointer none, .int .i64 0, .int .i64 0, .int .i64 0, .int .i64 0, .int .i64 0, .int .i64 0, .int .i64 0, .int .i64 0, .int .i64 0, .int .i64 0, .int .i64 0, .int .i64 0] }
theorem t171_ok : TIok Tryz.prog 171 t171 := ⟨by kernel_rfl, by kernel_rfl, rfl, rfl⟩
def t240 : TI := { und := .struct [(0, 1), (1, 1)], size := 2, bytes := 24, zero := .agg ([.string ⟨#[]⟩, .int .i64 0] : List Value).toArray, zs := [.string ⟨#[]⟩, .int .i64 0] }
theorem t240_ok : TIok Tryz.prog 240 t240 := ⟨by kernel_rfl, by kernel_rfl, rfl, rfl⟩
def t250 : TI := { und := .struct [(0, 1), (1, 1), (2, 1)], size := 3, bytes := 40, zero := .agg ([.slice none 0 0, .int .i64 0, .int .i64 0] : List Value).toArray, zs := [.slice none 0 0, .int .i64 0, .int .i64 0] }
theorem t250_ok : TIok Tryz.prog 250 t250 := ⟨by kernel_rfl, by kernel_rfl, rfl, rfl⟩
def t184 : TI := { und := .struct [(0, 1), (1, 1), (2, 1), (3, 12), (15, 6)], size := 21, bytes := 168, zero := .agg ([.pointer none, .int .i64 0, .int .i64 0, .int .i64 0, .int .i64 0, .int .i64 0, .int .i64 0, .int .i64 0, .int .i64 0, .int .i64 0, .int .i64 0, .int .i64 0, .int .i64 0, .int .i64 0, .int .i64 0, .int .i64 0, .int .i64 0, .int .i64 0, .int .i64 0, .int .i64 0, .int .i64 0] : List Value).toArray, zs := [.pointer none, .int .i64 0, .int .i64 0, .int .i64 0, .int .i64 0, .int .i64 0, .int .i64 0, .int .i64 0, .int .i64 0, .int .i64 0, .int .i64 0, .int .i64 0, .int .i64 0, .int .i64 0, .int .i64 0, .int .i64 0, .int .i64 0, .int .i64 0, .int .i64 0, .int .i64 0, .int .i64 0] }
theorem t184_ok : TIok Tryz.prog 184 t184 := ⟨by kernel_rfl, by kernel_rfl, rfl, rfl⟩
def t226 : TI := { und := .slice 233, size := 1, bytes := 24, zero := .slice none 0 0, zs := [.slice none 0 0] }
theorem t226_ok : TIok Tryz.prog 226 t226 := ⟨by kernel_rfl, by kernel_rfl, rfl, rfl⟩
def t258 : TI := { und := .struct [(0, 1), (1, 1), (2, 1)], size := 3, bytes := 40, zero := .agg ([.string ⟨#[]⟩, .string ⟨#[]⟩, .int .i64 0] : List Value).toArray, zs := [.string ⟨#[]⟩, .string ⟨#[]⟩, .int .i64 0] }
theorem t258_ok : TIok Tryz.prog 258 t258 := ⟨by kernel_rfl, by kernel_rfl, rfl, rfl⟩
def t205 : TI := { und := .struct [(0, 1)], size := 1, bytes := 24, zero := .agg ([.slice none 0 0] : List Value).toArray, zs := [.slice none 0 0] }
theorem t205_ok : TIok Tryz.prog 205 t205 := ⟨by kernel_rfl, by kernel_rfl, rfl, rfl⟩
def t223 : TI := { und := .other, size := 1, bytes := 8, zero := .map none, zs := [.map none] }
theorem t223_ok : TIok Tryz.prog 223 t223 := ⟨by kernel_rfl, by kernel_rfl, rfl, rfl⟩
def t96 : TI := { und := .array 4 3, size := 4, bytes := 32, zero := .agg ([.int .i64 0, .int .i64 0, .int .i64 0, .int .i64 0] : List Value).toArray, zs := [.int .i64 0, .int .i64 0, .int .i64 0, .int .i64 0] }
theorem t96_ok : TIok Tryz.prog 96 t96 := ⟨by kernel_rfl, by kernel_rfl, rfl, rfl⟩
def t186 : TI := { und := .struct [(0, 1), (1, 1), (2, 1)], size := 3, bytes := 40, zero := .agg ([.int .i64 0, .int .i64 0, .slice none 0 0] : List Value).toArray, zs := [.int .i64 0, .int .i64 0, .slice none 0 0] }
theorem t186_ok : TIok Tryz.prog 186 t186 := ⟨by kernel_rfl, by kernel_rfl, rfl, rfl⟩
def t246 : TI := { und := .ptr 3, size := 1, bytes := 8, zero := .pointer none, zs := [.pointer none] }
theorem t246_ok : TIok Tryz.prog 246 t246 := ⟨by kernel_rfl, by kernel_rfl, rfl, rfl⟩
def t92 : TI := { und := .array 3 5, size := 3, bytes := 3, zero := .agg ([.int .u8 0, .int .u8 0, .int .u8 0] : List Value).toArray, zs := [.int .u8 0, .int .u8 0, .int .u8 0] }
theorem t92_ok : TIok Tryz.prog 92 t92 := ⟨by kernel_rfl, by kernel_rfl, rfl, rfl⟩
def t169 : TI := { und := .array 6 3, size := 6, bytes := 48, zero := .agg ([.int .i64 0, .int .i64 0, .int .i64 0, .int .i64 0, .int .i64 0, .int .i64 0] : List Value).toArray, zs := [.int .i64 0, .int .i64 0, .int .i64 0, .int .i64 0, .int .i64 0, .int .i64 0] }
theorem t169_ok : TIok Tryz.prog 169 t169 := ⟨by kernel_rfl, by kernel_rfl, rfl, rfl⟩
def t23 : TI := { und := .struct [(0, 1), (1, 1), (2, 1), (3, 1), (4, 1), (5, 1), (6, 1), (7, 1), (8, 1), (9, 1), (10, 1), (11, 1)], size := 12, bytes := 112, zero := .agg ([.int .i64 0, .int .i64 0, .int .i64 0, .slice none 0 0, .int .i64 0, .int .i64 0, .int .i64 0, .int .i64 0, .int .i64 0, .int .i64 0, .int .i64 0, .int .i64 0] : List Value).toArray, zs := [.int .i64 0, .int .i64 0, .int .i64 0, .slice none 0 0, .int .i64 0, .int .i64 0, .int .i64 0, .int .i64 0, .int .i64 0, .int .i64 0, .int .i64 0, .int .i64 0] }
theorem t23_ok : TIok Tryz.prog 23 t23 := ⟨by kernel_rfl, by kernel_rfl, rfl, rfl⟩
def t136 : TI := { und := .struct [(0, 1), (1, 1)], size := 2, bytes := 16, zero := .agg ([.int .i64 0, .int .i64 0] : List Value).toArray, zs := [.int .i64 0, .int .i64 0] }
theorem t136_ok : TIok Tryz.prog 136 t136 := ⟨by kernel_rfl, by kernel_rfl, rfl, rfl⟩
def t225 : TI := { und := .struct [(0, 1)], size := 1, bytes := 8, zero := .agg ([.map none] : List Value).toArray, zs := [.map none] }
theorem t225_ok : TIok Tryz.prog 225 t225 := ⟨by kernel_rfl, by kernel_rfl, rfl, rfl⟩
def t39 : TI := { und := .struct [(0, 1), (1, 1), (2, 1), (3, 1)], size := 4, bytes := 48, zero := .agg ([.int .i64 0, .string ⟨#[]⟩, .string ⟨#[]⟩, .int .i64 0] : List Value).toArray, zs := [.int .i64 0, .string ⟨#[]⟩, .string ⟨#[]⟩, .int .i64 0] }
theorem t39_ok : TIok Tryz.prog 39 t39 := ⟨by kernel_rfl, by kernel_rfl, rfl, rfl⟩
def t43 : TI := { und := .struct [(0, 1), (1, 1), (2, 1), (3, 4)], size := 7, bytes := 72, zero := .agg ([.int .i64 0, .int .i64 0, .int .i64 0, .int .i64 0, .string ⟨#[]⟩, .string ⟨#[]⟩, .int .i64 0] : List Value).toArray, zs := [.int .i64 0, .int .i64 0, .int .i64 0, .int .i64 0, .string ⟨#[]⟩, .string ⟨#[]⟩, .int .i64 0] }
theorem t43_ok : TIok Tryz.prog 43 t43 := ⟨by kernel_rfl, by kernel_rfl, rfl, rfl⟩
def t188 : TI := { und := .ptr 117, size := 1, bytes := 8, zero := .pointer none, zs := [.pointer none] }
theorem t188_ok : TIok Tryz.prog 188 t188 := ⟨by kernel_rfl, by kernel_rfl, rfl, rfl⟩
def t41 : TI := { und := .struct [(0, 1), (1, 1), (2, 1), (3, 1)], size := 4, bytes := 40, zero := .agg ([.int .i64 0, .string ⟨#[]⟩, .int .i64 0, .int .i64 0] : List Value).toArray, zs := [.int .i64 0, .string ⟨#[]⟩, .int .i64 0, .int .i64 0] }
theorem t41_ok : TIok Tryz.prog 41 t41 := ⟨by kernel_rfl, by kernel_rfl, rfl, rfl⟩
def t137 : TI := { und := .array 6 136, size := 12, bytes := 96, zero := .agg ([.int .i64 0, .int .i64 0, .int .i64 0, .int .i64 0, .int .i64 0, .int .i64 0, .int .i64 0, .int .i64 0, .int .i64 0, .int .i64 0, .int .i64 0, .int .i64 0] : List Value).toArray, zs := [.int .i64 0, .int .i64 0, .int .i64 0, .int .i64 0, .int .i64 0, .int .i64 0, .int .i64 0, .int .i64 0, .int .i64 0, .int .i64 0, .int .i64 0, .int .i64 0] }
theorem t137_ok : TIok Tryz.prog 137 t137 := ⟨by kernel_rfl, by kernel_rfl, rfl, rfl⟩
def t185 : TI := { und := .struct [(0, 1), (1, 1), (2, 1)], size := 3, bytes := 40, zero := .agg ([.int .i64 0, .int .i64 0, .slice none 0 0] : List Value).toArray, zs := [.int .i64 0, .int .i64 0, .slice none 0 0] }
theorem t185_ok : TIok Tryz.prog 185 t185 := ⟨by kernel_rfl, by kernel_rfl, rfl, rfl⟩
def t204 : TI := { und := .struct [(0, 1)], size := 1, bytes := 24, zero := .agg ([.slice none 0 0] : List Value).toArray, zs := [.slice none 0 0] }
theorem t204_ok : TIok Tryz.prog 204 t204 := ⟨by kernel_rfl, by kernel_rfl, rfl, rfl⟩
def t49 : TI := { und := .struct [(0, 1), (1, 29)], size := 30, bytes := 296, zero := .agg ([.int .i64 0, .int .i64 0, .int .i64 0, .int .i64 0, .int .i64 0, .int .i64 0, .int .i64 0, .int .i64 0, .int .i64 0, .string ⟨#[]⟩, .string ⟨#[]⟩, .int .i64 0, .int .i64 0, .string ⟨#[]⟩, .int .i64 0, .int .i64 0, .int .i64 0, .int .i64 0, .int .i64 0, .int .i64 0, .int .i64 0, .string ⟨#[]⟩, .string ⟨#[]⟩, .int .i64 0, .int .i64 0, .slice none 0 0, .int .i64 0, .int .i64 0, .int .i64 0, .int .i64 0] : List Value).toArray, zs := [.int .i64 0, .int .i64 0, .int .i64 0, .int .i64 0, .int .i64 0, .int .i64 0, .int .i64 0, .int .i64 0, .int .i64 0, .string ⟨#[]⟩, .string ⟨#[]⟩, .int .i64 0, .int .i64 0, .string ⟨#[]⟩, .int .i64 0, .int .i64 0, .int .i64 0, .int .i64 0, .int .i64 0, .int .i64 0, .int .i64 0, .string ⟨#[]⟩, .string ⟨#[]⟩, .int .i64 0, .int .i64 0, .slice none 0 0, .int .i64 0, .int .i64 0, .int .i64 0, .int .i64 0] }
theorem t49_ok : TIok Tryz.prog 49 t49 := ⟨by kernel_rfl, by kernel_rfl, rfl, rfl⟩
def t66 : TI := { und := .struct [(0, 1), (1, 1), (2, 1), (3, 1), (4, 4), (8, 1), (9, 29)], size := 38, bytes := 352, zero := .agg ([.int .u8 0, .int .u8 0, .int .u8 0, .int .u8 0, .int .i64 0, .string ⟨#[]⟩, .string ⟨#[]⟩, .int .i64 0, .int .i64 0, .int .i64 0, .int .i64 0, .int .i64 0, .int .i64 0, .int .i64 0, .int .i64 0, .int .i64 0, .int .i64 0, .string ⟨#[]⟩, .string ⟨#[]⟩, .int .i64 0, .int .i64 0, .string ⟨#[]⟩, .int .i64 0, .int .i64 0, .int .i64 0, .int .i64 0, .int .i64 0, .int .i64 0, .int .i64 0, .string ⟨#[]⟩, .string ⟨#[]⟩, .int .i64 0, .int .i64 0, .slice none 0 0, .int .i64 0, .int .i64 0, .int .i64 0, .int .i64 0] : List Value).toArray, zs := [.int .u8 0, .int .u8 0, .int .u8 0, .int .u8 0, .int .i64 0, .string ⟨#[]⟩, .string ⟨#[]⟩, .int .i64 0, .int .i64 0, .int .i64 0, .int .i64 0, .int .i64 0, .int .i64 0, .int .i64 0, .int .i64 0, .int .i64 0, .int .i64 0, .string ⟨#[]⟩, .string ⟨#[]⟩, .int .i64 0, .int .i64 0, .string ⟨#[]⟩, .int .i64 0, .int .i64 0, .int .i64 0, .int .i64 0, .int .i64 0, .int .i64 0, .int .i64 0, .string ⟨#[]⟩, .string ⟨#[]⟩, .int .i64 0, .int .i64 0, .slice none 0 0, .int .i64 0, .int .i64 0, .int .i64 0, .int .i64 0] }
theorem t66_ok : TIok Tryz.prog 66 t66 := ⟨by kernel_rfl, by kernel_rfl, rfl, rfl⟩
def t135 : TI := { und := .struct [(0, 1), (1, 1)], size := 2, bytes := 16, zero := .agg ([.int .i64 0, .int .i64 0] : List Value).toArray, zs := [.int .i64 0, .int .i64 0] }
theorem t135_ok : TIok Tryz.prog 135 t135 := ⟨by kernel_rfl, by kernel_rfl, rfl, rfl⟩
def t45 : TI := { und := .struct [(0, 1), (1, 1), (2, 1), (3, 1), (4, 1), (5, 1), (6, 1), (7, 4), (11, 4), (15, 1), (16, 7), (23, 3), (26, 1), (27, 1), (28, 1)], size := 29, bytes := 288, zero := .agg ([.int .i64 0, .int .i64 0, .int .i64 0, .int .i64 0, .int .i64 0, .int .i64 0, .int .i64 0, .int .i64 0, .string ⟨#[]⟩, .string ⟨#[]⟩, .int .i64 0, .int .i64 0, .string ⟨#[]⟩, .int .i64 0, .int .i64 0, .int .i64 0, .int .i64 0, .int .i64 0, .int .i64 0, .int .i64 0, .string ⟨#[]⟩, .string ⟨#[]⟩, .int .i64 0, .int .i64 0, .slice none 0 0, .int .i64 0, .int .i64 0, .int .i64 0, .int .i64 0] : List Value).toArray, zs := [.int .i64 0, .int .i64 0, .int .i64 0, .int .i64 0, .int .i64 0, .int .i64 0, .int .i64 0, .int .i64 0, .string ⟨#[]⟩, .string ⟨#[]⟩, .int .i64 0, .int .i64 0, .string ⟨#[]⟩, .int .i64 0, .int .i64 0, .int .i64 0, .int .i64 0, .int .i64 0, .int .i64 0, .int .i64 0, .string ⟨#[]⟩, .string ⟨#[]⟩, .int .i64 0, .int .i64 0, .slice none 0 0, .int .i64 0, .int .i64 0, .int .i64 0, .int .i64 0] }
theorem t45_ok : TIok Tryz.prog 45 t45 := ⟨by kernel_rfl, by kernel_rfl, rfl, rfl⟩
def t86 : TI := { und := .struct [(0, 12), (12, 1), (13, 3), (16, 1), (17, 1), (18, 1), (19, 1), (20, 1), (21, 1), (22, 1), (23, 1), (24, 1), (25, 1), (26, 1), (27, 1), (28, 1)], size := 29, bytes := 280, zero := .agg ([.int .i64 0, .int .i64 0, .int .i64 0, .slice none 0 0, .int .i64 0, .int .i64 0, .int .i64 0, .int .i64 0, .int .i64 0, .int .i64 0, .int .i64 0, .int .i64 0, .int .i64 0, .int .i64 0, .slice none 0 0, .int .i64 0, .int .i64 0, .bool false, .int .i64 0, .int .i64 0, .pointer none, .int .i64 0, .int .i64 0, .int .i64 0, .int .i64 0, .pointer none, .pointer none, .bool false, .slice none 0 0] : List Value).toArray, zs := [.int .i64 0, .int .i64 0, .int .i64 0, .slice none 0 0, .int .i64 0, .int .i64 0, .int .i64 0, .int .i64 0, .int .i64 0, .int .i64 0, .int .i64 0, .int .i64 0, .int .i64 0, .int .i64 0, .slice none 0 0, .int .i64 0, .int .i64 0, .bool false, .int .i64 0, .int .i64 0, .pointer none, .int .i64 0, .int .i64 0, .int .i64 0, .int .i64 0, .pointer none, .pointer none, .bool false, .slice none 0 0] }
theorem t86_ok : TIok Tryz.prog 86 t86 := ⟨by kernel_rfl, by kernel_rfl, rfl, rfl⟩
def t130 : TI := { und := .struct [(0, 1), (1, 29), (30, 4)], size := 34, bytes := 336, zero := .agg ([.int .i64 0, .int .i64 0, .int .i64 0, .int .i64 0, .int .i64 0, .int .i64 0, .int .i64 0, .int .i64 0, .int .i64 0, .string ⟨#[]⟩, .string ⟨#[]⟩, .int .i64 0, .int .i64 0, .string ⟨#[]⟩, .int .i64 0, .int .i64 0, .int .i64 0, .int .i64 0, .int .i64 0, .int .i64 0, .int .i64 0, .string ⟨#[]⟩, .string ⟨#[]⟩, .int .i64 0, .int .i64 0, .slice none 0 0, .int .i64 0, .int .i64 0, .int .i64 0, .int .i64 0, .int .i64 0, .string ⟨#[]⟩, .int .i64 0, .int .i64 0] : List Value).toArray, zs := [.int .i64 0, .int .i64 0, .int .i64 0, .int .i64 0, .int .i64 0, .int .i64 0, .int .i64 0, .int .i64 0, .int .i64 0, .string ⟨#[]⟩, .string ⟨#[]⟩, .int .i64 0, .int .i64 0, .string ⟨#[]⟩, .int .i64 0, .int .i64 0, .int .i64 0, .int .i64 0, .int .i64 0, .int .i64 0, .int .i64 0, .string ⟨#[]⟩, .string ⟨#[]⟩, .int .i64 0, .int .i64 0, .slice none 0 0, .int .i64 0, .int .i64 0, .int .i64 0, .int .i64 0, .int .i64 0, .string ⟨#[]⟩, .int .i64 0, .int .i64 0] }
theorem t130_ok : TIok Tryz.prog 130 t130 := ⟨by kernel_rfl, by kernel_rfl, rfl, rfl⟩
def t138 : TI := { und := .struct [(0, 1), (1, 1), (2, 1), (3, 12)], size := 15, bytes := 152, zero := .agg ([.pointer none, .slice none 0 0, .slice none 0 0, .int .i64 0, .int .i64 0, .int .i64 0, .int .i64 0, .int .i64 0, .int .i64 0, .int .i64 0, .int .i64 0, .int .i64 0, .int .i64 0, .int .i64 0, .int .i64 0] : List Value).toArray, zs := [.pointer none, .slice none 0 0, .slice none 0 0, .int .i64 0, .int .i64 0, .int .i64 0, .int .i64 0, .int .i64 0, .int .i64 0, .int .i64 0, .int .i64 0, .int .i64 0, .int .i64 0, .int .i64 0, .int .i64 0] }
theorem t138_ok : TIok Tryz.prog 138 t138 := ⟨by kernel_rfl, by kernel_rfl, rfl, rfl⟩
def t182 : TI := { und := .array 6 181, size := 12, bytes := 96, zero := .agg ([.int .i64 0, .int .i64 0, .int .i64 0, .int .i64 0, .int .i64 0, .int .i64 0, .int .i64 0, .int .i64 0, .int .i64 0, .int .i64 0, .int .i64 0, .int .i64 0] : List Value).toArray, zs := [.int .i64 0, .int .i64 0, .int .i64 0, .int .i64 0, .int .i64 0, .int .i64 0, .int .i64 0, .int .i64 0, .int .i64 0, .int .i64 0, .int .i64 0, .int .i64 0] }
theorem t182_ok : TIok Tryz.prog 182 t182 := ⟨by kernel_rfl, by kernel_rfl, rfl, rfl⟩
def t232 : TI := { und := .struct [(0, 1), (1, 1), (2, 1), (3, 1)], size := 4, bytes := 32, zero := .agg ([.pointer none, .int .i64 0, .int .i64 0, .int .i64 0] : List Value).toArray, zs := [.pointer none, .int .i64 0, .int .i64 0, .int .i64 0] }
theorem t232_ok : TIok Tryz.prog 232 t232 := ⟨by kernel_rfl, by kernel_rfl, rfl, rfl⟩
def t249 : TI := { und := .struct [(0, 1), (1, 1), (2, 1)], size := 3, bytes := 40, zero := .agg ([.slice none 0 0, .int .i64 0, .int .i64 0] : List Value).toArray, zs := [.slice none 0 0, .int .i64 0, .int .i64 0] }
theorem t249_ok : TIok Tryz.prog 249 t249 := ⟨by kernel_rfl, by kernel_rfl, rfl, rfl⟩
def t101 : TI := { und := .struct [(0, 1), (1, 1), (2, 1), (3, 1), (4, 3), (7, 1), (8, 1), (9, 1), (10, 1), (11, 1), (12, 1), (13, 1), (14, 1), (15, 1), (16, 1)], size := 17, bytes := 152, zero := .agg ([.int .i64 0, .int .i64 0, .int .i64 0, .int .i64 0, .int .i64 0, .slice none 0 0, .int .i64 0, .int .i64 0, .bool false, .pointer none, .pointer none, .pointer none, .pointer none, .int .i64 0, .int .i64 0, .bool false, .int .i64 0] : List Value).toArray, zs := [.int .i64 0, .int .i64 0, .int .i64 0, .int .i64 0, .int .i64 0, .slice none 0 0, .int .i64 0, .int .i64 0, .bool false, .pointer none, .pointer none, .pointer none, .pointer none, .int .i64 0, .int .i64 0, .bool false, .int .i64 0] }
theorem t101_ok : TIok Tryz.prog 101 t101 := ⟨by kernel_rfl, by kernel_rfl, rfl, rfl⟩
def t170 : TI := { und := .struct [(0, 12), (12, 1), (13, 6), (19, 6)], size := 25, bytes := 216, zero := .agg ([.int .i64 0, .int .i64 0, .int .i64 0, .slice none 0 0, .int .i64 0, .int .i64 0, .int .i64 0, .int .i64 0, .int .i64 0, .int .i64 0, .int .i64 0, .int .i64 0, .pointer none, .int .i64 0, .int .i64 0, .int .i64 0, .int .i64 0, .int .i64 0, .int .i64 0, .int .i64 0, .int .i64 0, .int .i64 0, .int .i64 0, .int .i64 0, .int .i64 0] : List Value).toArray, zs := [.int .i64 0, .int .i64 0, .int .i64 0, .slice none 0 0, .int .i64 0, .int .i64 0, .int .i64 0, .int .i64 0, .int .i64 0, .int .i64 0, .int .i64 0, .int .i64 0, .pointer none, .int .i64 0, .int .i64 0, .int .i64 0, .int .i64 0, .int .i64 0, .int .i64 0, .int .i64 0, .int .i64 0, .int .i64 0, .int .i64 0, .int .i64 0, .int .i64 0] }
theorem t170_ok : TIok Tryz.prog 170 t170 := ⟨by kernel_rfl, by kernel_rfl, rfl, rfl⟩
def t173 : TI := { und := .struct [(0, 1), (1, 1), (2, 1), (3, 1), (4, 1), (5, 1), (6, 1)], size := 7, bytes := 120, zero := .agg ([.int .i64 0, .slice none 0 0, .slice none 0 0, .slice none 0 0, .slice none 0 0, .int .i64 0, .bool false] : List Value).toArray, zs := [.int .i64 0, .slice none 0 0, .slice none 0 0, .slice none 0 0, .slice none 0 0, .int .i64 0, .bool false] }
theorem t173_ok : TIok Tryz.prog 173 t173 := ⟨by kernel_rfl, by kernel_rfl, rfl, rfl⟩
def t216 : TI := { und := .struct [(0, 1), (1, 29)], size := 30, bytes := 296, zero := .agg ([.int .i64 0, .int .i64 0, .int .i64 0, .int .i64 0, .int .i64 0, .int .i64 0, .int .i64 0, .int .i64 0, .int .i64 0, .string ⟨#[]⟩, .string ⟨#[]⟩, .int .i64 0, .int .i64 0, .string ⟨#[]⟩, .int .i64 0, .int .i64 0, .int .i64 0, .int .i64 0, .int .i64 0, .int .i64 0, .int .i64 0, .string ⟨#[]⟩, .string ⟨#[]⟩, .int .i64 0, .int .i64 0, .slice none 0 0, .int .i64 0, .int .i64 0, .int .i64 0, .int .i64 0] : List Value).toArray, zs := [.int .i64 0, .int .i64 0, .int .i64 0, .int .i64 0, .int .i64 0, .int .i64 0, .int .i64 0, .int .i64 0, .int .i64 0, .string ⟨#[]⟩, .string ⟨#[]⟩, .int .i64 0, .int .i64 0, .string ⟨#[]⟩, .int .i64 0, .int .i64 0, .int .i64 0, .int .i64 0, .int .i64 0, .int .i64 0, .int .i64 0, .string ⟨#[]⟩, .string ⟨#[]⟩, .int .i64 0, .int .i64 0, .slice none 0 0, .int .i64 0, .int .i64 0, .int .i64 0, .int .i64 0] }
theorem t216_ok : TIok Tryz.prog 216 t216 := ⟨by kernel_rfl, by kernel_rfl, rfl, rfl⟩
def t239 : TI := { und := .struct [(0, 1), (1, 1)], size := 2, bytes := 24, zero := .agg ([.string ⟨#[]⟩, .int .i64 0] : List Value).toArray, zs := [.string ⟨#[]⟩, .int .i64 0] }
theorem t239_ok : TIok Tryz.prog 239 t239 := ⟨by kernel_rfl, by kernel_rfl, rfl, rfl⟩
def t265 : TI := { und := .array 0 16, size := 0, bytes := 0, zero := .agg ([] : List Value).toArray, zs := [] }
theorem t265_ok : TIok Tryz.prog 265 t265 := ⟨by kernel_rfl, by kernel_rfl, rfl, rfl⟩
def t267 : TI := { und := .struct [(0, 0)], size := 0, bytes := 0, zero := .agg ([] : List Value).toArray, zs := [] }
theorem t267_ok : TIok Tryz.prog 267 t267 := ⟨by kernel_rfl, by kernel_rfl, rfl, rfl⟩
def t116 : TI := { und := .struct [(0, 1)], size := 1, bytes := 24, zero := .agg ([.slice none 0 0] : List Value).toArray, zs := [.slice none 0 0] }
theorem t116_ok : TIok Tryz.prog 116 t116 := ⟨by kernel_rfl, by kernel_rfl, rfl, rfl⟩
def t140 : TI := { und := .struct [(0, 1), (1, 1), (2, 1), (3, 1), (4, 1)], size := 5, bytes := 40, zero := .agg ([.int .i64 0, .int .i64 0, .int .i64 0, .int .i64 0, .int .i64 0] : List Value).toArray, zs := [.int .i64 0, .int .i64 0, .int .i64 0, .int .i64 0, .int .i64 0] }
theorem t140_ok : TIok Tryz.prog 140 t140 := ⟨by kernel_rfl, by kernel_rfl, rfl, rfl⟩
def t180 : TI := { und := .struct [(0, 1), (1, 1)], size := 2, bytes := 16, zero := .agg ([.int .i64 0, .int .i64 0] : List Value).toArray, zs := [.int .i64 0, .int .i64 0] }
theorem t180_ok : TIok Tryz.prog 180 t180 := ⟨by kernel_rfl, by kernel_rfl, rfl, rfl⟩
def t183 : TI := { und := .struct [(0, 1), (1, 1), (2, 1), (3, 12), (15, 6)], size := 21, bytes := 168, zero := .agg ([.pointer none, .int .i64 0, .int .i64 0, .int .i64 0, .int .i64 0, .int .i64 0, .int .i64 0, .int .i64 0, .int .i64 0, .int .i64 0, .int .i64 0, .int .i64 0, .int .i64 0, .int .i64 0, .int .i64 0, .int .i64 0, .int .i64 0, .int .i64 0, .int .i64 0, .int .i64 0, .int .i64 0] : List Value).toArray, zs := [.pointer none, .int .i64 0, .int .i64 0, .int .i64 0, .int .i64 0, .int .i64 0, .int .i64 0, .int .i64 0, .int .i64 0, .int .i64 0, .int .i64 0, .int .i64 0, .int .i64 0, .int .i64 0, .int .i64 0, .int .i64 0, .int .i64 0, .int .i64 0, .int .i64 0, .int .i64 0, .int .i64 0] }
theorem t183_ok : TIok Tryz.prog 183 t183 := ⟨by kernel_rfl, by kernel_rfl, rfl, rfl⟩
def t227 : TI := { und := .struct [(0, 1), (1, 1), (2, 1)], size := 3, bytes := 40, zero := .agg ([.slice none 0 0, .int .i64 0, .bool false] : List Value).toArray, zs := [.slice none 0 0, .int .i64 0, .bool false] }
theorem t227_ok : TIok Tryz.prog 227 t227 := ⟨by kernel_rfl, by kernel_rfl, rfl, rfl⟩
def t264 : TI := { und := .struct [(0, 1), (1, 1), (2, 1), (3, 1)], size := 4, bytes := 40, zero := .agg ([.pointer none, .pointer none, .pointer none, .string ⟨#[]⟩] : List Value).toArray, zs := [.pointer none, .pointer none, .pointer none, .string ⟨#[]⟩] }
theorem t264_ok : TIok Tryz.prog 264 t264 := ⟨by kernel_rfl, by kernel_rfl, rfl, rfl⟩
def t266 : TI := { und := .struct [(0, 0)], size := 0, bytes := 0, zero := .agg ([] : List Value).toArray, zs := [] }
theorem t266_ok : TIok Tryz.prog 266 t266 := ⟨by kernel_rfl, by kernel_rfl, rfl, rfl⟩
def t273 : TI := { und := .int .i32, size := 1, bytes := 4, zero := .int .i32 0, zs := [.int .i32 0] }
theorem t273_ok : TIok Tryz.prog 273 t273 := ⟨by kernel_rfl, by kernel_rfl, rfl, rfl⟩
def t166 : TI := { und := .struct [(0, 1), (1, 1), (2, 1)], size := 3, bytes := 40, zero := .agg ([.int .i64 0, .slice none 0 0, .int .i64 0] : List Value).toArray, zs := [.int .i64 0, .slice none 0 0, .int .i64 0] }
theorem t166_ok : TIok Tryz.prog 166 t166 := ⟨by kernel_rfl, by kernel_rfl, rfl, rfl⟩
def t224 : TI := { und := .struct [(0, 1)], size := 1, bytes := 8, zero := .agg ([.map none] : List Value).toArray, zs := [.map none] }
theorem t224_ok : TIok Tryz.prog 224 t224 := ⟨by kernel_rfl, by kernel_rfl, rfl, rfl⟩
def t268 : TI := { und := .int .u32, size := 1, bytes := 4, zero := .int .u32 0, zs := [.int .u32 0] }
theorem t268_ok : TIok Tryz.prog 268 t268 := ⟨by kernel_rfl, by kernel_rfl, rfl, rfl⟩
def t270 : TI := { und := .int .u8, size := 1, bytes := 1, zero := .int .u8 0, zs := [.int .u8 0] }
theorem t270_ok : TIok Tryz.prog 270 t270 := ⟨by kernel_rfl, by kernel_rfl, rfl, rfl⟩
def t272 : TI := { und := .ptr 5, size := 1, bytes := 8, zero := .pointer none, zs := [.pointer none] }
theorem t272_ok : TIok Tryz.prog 272 t272 := ⟨by kernel_rfl, by kernel_rfl, rfl, rfl⟩
def t274 : TI := { und := .int .i32, size := 1, bytes := 4, zero := .int .i32 0, zs := [.int .i32 0] }
theorem t274_ok : TIok Tryz.prog 274 t274 := ⟨by kernel_rfl, by kernel_rfl, rfl, rfl⟩
def t257 : TI := { und := .struct [(0, 1), (1, 1), (2, 1)], size := 3, bytes := 40, zero := .agg ([.string ⟨#[]⟩, .string ⟨#[]⟩, .int .i64 0] : List Value).toArray, zs := [.string ⟨#[]⟩, .string ⟨#[]⟩, .int .i64 0] }
theorem t257_ok : TIok Tryz.prog 257 t257 := ⟨by kernel_rfl, by kernel_rfl, rfl, rfl⟩
def t263 : TI := { und := .struct [(0, 1), (1, 1), (2, 1), (3, 1)], size := 4, bytes := 40, zero := .agg ([.pointer none, .pointer none, .pointer none, .string ⟨#[]⟩] : List Value).toArray, zs := [.pointer none, .pointer none, .pointer none, .string ⟨#[]⟩] }
theorem t263_ok : TIok Tryz.prog 263 t263 := ⟨by kernel_rfl, by kernel_rfl, rfl, rfl⟩
def t269 : TI := { und := .int .u8, size := 1, bytes := 1, zero := .int .u8 0, zs := [.int .u8 0] }
theorem t269_ok : TIok Tryz.prog 269 t269 := ⟨by kernel_rfl, by kernel_rfl, rfl, rfl⟩
def tab : Tab := [(3, t3), (4, t4), (2, t2), (46, t46), (27, t27), (5, t5), (62, t62), (36, t36), (24, t24), (28, t28), (6, t6), (9, t9), (55, t55), (37, t37), (7, t7), (40, t40), (8, t8), (47, t47), (44, t44), (87, t87), (42, t42), (102, t102), (10, t10), (65, t65), (11, t11), (12, t12), (22, t22), (99, t99), (34, t34), (16, t16), (14, t14), (50, t50), (67, t67), (168, t168), (13, t13), (177, t177), (15, t15), (229, t229), (84, t84), (33, t33), (148, t148), (52, t52), (83, t83), (100, t100), (212, t212), (17, t17), (60, t60), (85, t85), (131, t131), (174, t174), (133, t133), (69, t69), (18, t18), (128, t128), (19, t19), (141, t141), (134, t134), (233, t233), (139, t139), (167, t167), (91, t91), (181, t181), (32, t32), (151, t151), (172, t172), (228, t228), (21, t21), (117, t117), (254, t254), (35, t35), (171, t171), (240, t240), (250, t250), (184, t184), (226, t226), (258, t258), (205, t205), (223, t223), (96, t96), (186, t186), (246, t246), (92, t92), (169, t169), (23, t23), (136, t136), (225, t225), (39, t39), (43, t43), (188, t188), (41, t41), (137, t137), (185, t185), (204, t204), (49, t49), (66, t66), (135, t135), (45, t45), (86, t86), (130, t130), (138, t138), (182, t182), (232, t232), (249, t249), (101, t101), (170, t170), (173, t173), (216, t216), (239, t239), (265, t265), (267, t267), (116, t116), (140, t140), (180, t180), (183, t183), (227, t227), (264, t264), (266, t266), (273, t273), (166, t166), (224, t224), (268, t268), (270, t270), (272, t272), (274, t274), (257, t257), (263, t263), (269, t269)]
theorem tabOk : TabOk Tryz.prog tab := by
  intro p hp
  have key : ∀ (l : Tab), (∀ p ∈ l, TIok Tryz.prog p.1 p.2) → ∀ k ti, TIok Tryz.prog k ti → ∀ p ∈ (k, ti) :: l, TIok Tryz.prog p.1 p.2 := fun l h k ti h1 p hp => by
    rcases List.mem_cons.1 hp with rfl | hp
    · exact h1
    · exact h p hp
  exact key _ (key _ (key _ (key _ (key _ (key _ (key _ (key _ (key _ (key _ (key _ (key _ (key _ (key _ (key _ (key _ (key _ (key _ (key _ (key _ (key _ (key _ (key _ (key _ (key _ (key _ (key _ (key _ (key _ (key _ (key _ (key _ (key _ (key _ (key _ (key _ (key _ (key _ (key _ (key _ (key _ (key _ (key _ (key _ (key _ (key _ (key _ (key _ (key _ (key _ (key _ (key _ (key _ (key _ (key _ (key _ (key _ (key _ (key _ (key _ (key _ (key _ (key _ (key _ (key _ (key _ (key _ (key _ (key _ (key _ (key _ (key _ (key _ (key _ (key _ (key _ (key _ (key _ (key _ (key _ (key _ (key _ (key _ (key _ (key _ (key _ (key _ (key _ (key _ (key _ (key _ (key _ (key _ (key _ (key _ (key _ (key _ (key _ (key _ (key _ (key _ (key _ (key _ (key _ (key _ (key _ (key _ (key _ (key _ (key _ (key _ (key _ (key _ (key _ (key _ (key _ (key _ (key _ (key _ (key _ (key _ (key _ (key _ (key _ (key _ (key _ (key _ (fun p h => by cases h) _ _ t269_ok) _ _ t263_ok) _ _ t257_ok) _ _ t274_ok) _ _ t272_ok) _ _ t270_ok) _ _ t268_ok) _ _ t224_ok) _ _ t166_ok) _ _ t273_ok) _ _ t266_ok) _ _ t264_ok) _ _ t227_ok) _ _ t183_ok) _ _ t180_ok) _ _ t140_ok) _ _ t116_ok) _ _ t267_ok) _ _ t265_ok) _ _ t239_ok) _ _ t216_ok) _ _ t173_ok) _ _ t170_ok) _ _ t101_ok) _ _ t249_ok) _ _ t232_ok) _ _ t182_ok) _ _ t138_ok) _ _ t130_ok) _ _ t86_ok) _ _ t45_ok) _ _ t135_ok) _ _ t66_ok) _ _ t49_ok) _ _ t204_ok) _ _ t185_ok) _ _ t137_ok) _ _ t41_ok) _ _ t188_ok) _ _ t43_ok) _ _ t39_ok) _ _ t225_ok) _ _ t136_ok) _ _ t23_ok) _ _ t169_ok) _ _ t92_ok) _ _ t246_ok) _ _ t186_ok) _ _ t96_ok) _ _ t223_ok) _ _ t205_ok) _ _ t258_ok) _ _ t226_ok) _ _ t184_ok) _ _ t250_ok) _ _ t240_ok) _ _ t171_ok) _ _ t35_ok) _ _ t254_ok) _ _ t117_ok) _ _ t21_ok) _ _ t228_ok) _ _ t172_ok) _ _ t151_ok) _ _ t32_ok) _ _ t181_ok) _ _ t91_ok) _ _ t167_ok) _ _ t139_ok) _ _ t233_ok) _ _ t134_ok) _ _ t141_ok) _ _ t19_ok) _ _ t128_ok) _ _ t18_ok) _ _ t69_ok) _ _ t133_ok) _ _ t174_ok) _ _ t131_ok) _ _ t85_ok) _ _ t60_ok) _ _ t17_ok) _ _ t212_ok) _ _ t100_ok) _ _ t83_ok) _ _ t52_ok) _ _ t148_ok) _ _ t33_ok) _ _ t84_ok) _ _ t229_ok) _ _ t15_ok) _ _ t177_ok) _ _ t13_ok) _ _ t168_ok) _ _ t67_ok) _ _ t50_ok) _ _ t14_ok) _ _ t16_ok) _ _ t34_ok) _ _ t99_ok) _ _ t22_ok) _ _ t12_ok) _ _ t11_ok) _ _ t65_ok) _ _ t10_ok) _ _ t102_ok) _ _ t42_ok) _ _ t87_ok) _ _ t44_ok) _ _ t47_ok) _ _ t8_ok) _ _ t40_ok) _ _ t7_ok) _ _ t37_ok) _ _ t55_ok) _ _ t9_ok) _ _ t6_ok) _ _ t28_ok) _ _ t24_ok) _ _ t36_ok) _ _ t62_ok) _ _ t5_ok) _ _ t27_ok) _ _ t46_ok) _ _ t2_ok) _ _ t4_ok) _ _ t3_ok p hp
end Go.Proofs.YtbbnmgakmcppdaaGreat.T
