/- What is known of this program's types: sizes, zeros, the places of fields. Each entry is checked by the kernel. (Written by wip/tab.py.) -/
import Derived.Test.YtpgcjbddjghkdaaVgA
import Derived.Test.YtpgcjbddjghkdaaRows
import Derived.KernelRfl
namespace Go.Proofs.Ytpgcjbddjghkdaa.T
open Go Go.Proofs.Ytpgcjbddjghkdaa.Vg
def t3 : TI := { und := .int .i64, size := 1, bytes := 8, zero := .int .i64 0, zs := [.int .i64 0] }
theorem t3_ok : TIok Try.prog 3 t3 := ⟨by kernel_rfl, by kernel_rfl, rfl, rfl⟩
def t4 : TI := { und := .bool, size := 1, bytes := 1, zero := .bool false, zs := [.bool false] }
theorem t4_ok : TIok Try.prog 4 t4 := ⟨by kernel_rfl, by kernel_rfl, rfl, rfl⟩
def t2 : TI := { und := .int .i64, size := 1, bytes := 8, zero := .int .i64 0, zs := [.int .i64 0] }
theorem t2_ok : TIok Try.prog 2 t2 := ⟨by kernel_rfl, by kernel_rfl, rfl, rfl⟩
def t44 : TI := { und := .struct [(0, 1), (1, 1), (2, 1), (3, 1), (4, 1), (5, 1), (6, 1), (7, 4), (11, 4), (15, 1), (16, 7), (23, 3), (26, 1), (27, 1), (28, 1)], size := 29, bytes := 288, zero := .agg ([.int .i64 0, .int .i64 0, .int .i64 0, .int .i64 0, .int .i64 0, .int .i64 0, .int .i64 0, .int .i64 0, .string ⟨#[]⟩, .string ⟨#[]⟩, .int .i64 0, .int .i64 0, .string ⟨#[]⟩, .int .i64 0, .int .i64 0, .int .i64 0, .int .i64 0, .int .i64 0, .int .i64 0, .int .i64 0, .string ⟨#[]⟩, .string ⟨#[]⟩, .int .i64 0, .int .i64 0, .slice none 0 0, .int .i64 0, .int .i64 0, .int .i64 0, .int .i64 0] : List Value).toArray, zs := [.int .i64 0, .int .i64 0, .int .i64 0, .int .i64 0, .int .i64 0, .int .i64 0, .int .i64 0, .int .i64 0, .string ⟨#[]⟩, .string ⟨#[]⟩, .int .i64 0, .int .i64 0, .string ⟨#[]⟩, .int .i64 0, .int .i64 0, .int .i64 0, .int .i64 0, .int .i64 0, .int .i64 0, .int .i64 0, .string ⟨#[]⟩, .string ⟨#[]⟩, .int .i64 0, .int .i64 0, .slice none 0 0, .int .i64 0, .int .i64 0, .int .i64 0, .int .i64 0] }
theorem t44_ok : TIok Try.prog 44 t44 := ⟨by kernel_rfl, by kernel_rfl, rfl, rfl⟩
def t29 : TI := { und := .ptr 73, size := 1, bytes := 8, zero := .pointer none, zs := [.pointer none] }
theorem t29_ok : TIok Try.prog 29 t29 := ⟨by kernel_rfl, by kernel_rfl, rfl, rfl⟩
def t5 : TI := { und := .int .u8, size := 1, bytes := 1, zero := .int .u8 0, zs := [.int .u8 0] }
theorem t5_ok : TIok Try.prog 5 t5 := ⟨by kernel_rfl, by kernel_rfl, rfl, rfl⟩
def t30 : TI := { und := .int .i64, size := 1, bytes := 8, zero := .int .i64 0, zs := [.int .i64 0] }
theorem t30_ok : TIok Try.prog 30 t30 := ⟨by kernel_rfl, by kernel_rfl, rfl, rfl⟩
def t6 : TI := { und := .int .u8, size := 1, bytes := 1, zero := .int .u8 0, zs := [.int .u8 0] }
theorem t6_ok : TIok Try.prog 6 t6 := ⟨by kernel_rfl, by kernel_rfl, rfl, rfl⟩
def t56 : TI := { und := .slice 44, size := 1, bytes := 24, zero := .slice none 0 0, zs := [.slice none 0 0] }
theorem t56_ok : TIok Try.prog 56 t56 := ⟨by kernel_rfl, by kernel_rfl, rfl, rfl⟩
def t75 : TI := { und := .ptr 94, size := 1, bytes := 8, zero := .pointer none, zs := [.pointer none] }
theorem t75_ok : TIok Try.prog 75 t75 := ⟨by kernel_rfl, by kernel_rfl, rfl, rfl⟩
def t35 : TI := { und := .struct [(0, 1), (1, 1), (2, 1), (3, 1)], size := 4, bytes := 48, zero := .agg ([.int .i64 0, .string ⟨#[]⟩, .string ⟨#[]⟩, .int .i64 0] : List Value).toArray, zs := [.int .i64 0, .string ⟨#[]⟩, .string ⟨#[]⟩, .int .i64 0] }
theorem t35_ok : TIok Try.prog 35 t35 := ⟨by kernel_rfl, by kernel_rfl, rfl, rfl⟩
def t28 : TI := { und := .slice 3, size := 1, bytes := 24, zero := .slice none 0 0, zs := [.slice none 0 0] }
theorem t28_ok : TIok Try.prog 28 t28 := ⟨by kernel_rfl, by kernel_rfl, rfl, rfl⟩
def t62 : TI := { und := .ptr 91, size := 1, bytes := 8, zero := .pointer none, zs := [.pointer none] }
theorem t62_ok : TIok Try.prog 62 t62 := ⟨by kernel_rfl, by kernel_rfl, rfl, rfl⟩
def t9 : TI := { und := .string, size := 1, bytes := 16, zero := .string ⟨#[]⟩, zs := [.string ⟨#[]⟩] }
theorem t9_ok : TIok Try.prog 9 t9 := ⟨by kernel_rfl, by kernel_rfl, rfl, rfl⟩
def t7 : TI := { und := .struct [(0, 1), (1, 1), (2, 1), (3, 1)], size := 4, bytes := 24, zero := .agg ([.int .i64 0, .int .i64 0, .bool false, .int .u8 0] : List Value).toArray, zs := [.int .i64 0, .int .i64 0, .bool false, .int .u8 0] }
theorem t7_ok : TIok Try.prog 7 t7 := ⟨by kernel_rfl, by kernel_rfl, rfl, rfl⟩
def t16 : TI := { und := .ptr 104, size := 1, bytes := 8, zero := .pointer none, zs := [.pointer none] }
theorem t16_ok : TIok Try.prog 16 t16 := ⟨by kernel_rfl, by kernel_rfl, rfl, rfl⟩
def t79 : TI := { und := .struct [(0, 1), (1, 1), (2, 1), (3, 1)], size := 4, bytes := 32, zero := .agg ([.pointer none, .int .i64 0, .int .i64 0, .int .i64 0] : List Value).toArray, zs := [.pointer none, .int .i64 0, .int .i64 0, .int .i64 0] }
theorem t79_ok : TIok Try.prog 79 t79 := ⟨by kernel_rfl, by kernel_rfl, rfl, rfl⟩
def t91 : TI := { und := .struct [(0, 1), (1, 1), (2, 1), (3, 1), (4, 1), (5, 1), (6, 1)], size := 7, bytes := 120, zero := .agg ([.int .i64 0, .slice none 0 0, .slice none 0 0, .slice none 0 0, .slice none 0 0, .int .i64 0, .bool false] : List Value).toArray, zs := [.int .i64 0, .slice none 0 0, .slice none 0 0, .slice none 0 0, .slice none 0 0, .int .i64 0, .bool false] }
theorem t91_ok : TIok Try.prog 91 t91 := ⟨by kernel_rfl, by kernel_rfl, rfl, rfl⟩
def t8 : TI := { und := .struct [(0, 1), (1, 1), (2, 1), (3, 1)], size := 4, bytes := 24, zero := .agg ([.int .i64 0, .int .i64 0, .bool false, .int .u8 0] : List Value).toArray, zs := [.int .i64 0, .int .i64 0, .bool false, .int .u8 0] }
theorem t8_ok : TIok Try.prog 8 t8 := ⟨by kernel_rfl, by kernel_rfl, rfl, rfl⟩
def t10 : TI := { und := .string, size := 1, bytes := 16, zero := .string ⟨#[]⟩, zs := [.string ⟨#[]⟩] }
theorem t10_ok : TIok Try.prog 10 t10 := ⟨by kernel_rfl, by kernel_rfl, rfl, rfl⟩
def t12 : TI := { und := .int .u64, size := 1, bytes := 8, zero := .int .u64 0, zs := [.int .u64 0] }
theorem t12_ok : TIok Try.prog 12 t12 := ⟨by kernel_rfl, by kernel_rfl, rfl, rfl⟩
def t66 : TI := { und := .struct [(0, 1), (1, 29), (30, 1)], size := 31, bytes := 304, zero := .agg ([.int .u8 0, .int .i64 0, .int .i64 0, .int .i64 0, .int .i64 0, .int .i64 0, .int .i64 0, .int .i64 0, .int .i64 0, .string ⟨#[]⟩, .string ⟨#[]⟩, .int .i64 0, .int .i64 0, .string ⟨#[]⟩, .int .i64 0, .int .i64 0, .int .i64 0, .int .i64 0, .int .i64 0, .int .i64 0, .int .i64 0, .string ⟨#[]⟩, .string ⟨#[]⟩, .int .i64 0, .int .i64 0, .slice none 0 0, .int .i64 0, .int .i64 0, .int .i64 0, .int .i64 0, .int .i64 0] : List Value).toArray, zs := [.int .u8 0, .int .i64 0, .int .i64 0, .int .i64 0, .int .i64 0, .int .i64 0, .int .i64 0, .int .i64 0, .int .i64 0, .string ⟨#[]⟩, .string ⟨#[]⟩, .int .i64 0, .int .i64 0, .string ⟨#[]⟩, .int .i64 0, .int .i64 0, .int .i64 0, .int .i64 0, .int .i64 0, .int .i64 0, .int .i64 0, .string ⟨#[]⟩, .string ⟨#[]⟩, .int .i64 0, .int .i64 0, .slice none 0 0, .int .i64 0, .int .i64 0, .int .i64 0, .int .i64 0, .int .i64 0] }
theorem t66_ok : TIok Try.prog 66 t66 := ⟨by kernel_rfl, by kernel_rfl, rfl, rfl⟩
def t11 : TI := { und := .string, size := 1, bytes := 16, zero := .string ⟨#[]⟩, zs := [.string ⟨#[]⟩] }
theorem t11_ok : TIok Try.prog 11 t11 := ⟨by kernel_rfl, by kernel_rfl, rfl, rfl⟩
def t73 : TI := { und := .struct [(0, 1), (1, 1), (2, 1)], size := 3, bytes := 40, zero := .agg ([.slice none 0 0, .int .i64 0, .bool false] : List Value).toArray, zs := [.slice none 0 0, .int .i64 0, .bool false] }
theorem t73_ok : TIok Try.prog 73 t73 := ⟨by kernel_rfl, by kernel_rfl, rfl, rfl⟩
def t51 : TI := { und := .array 3 28, size := 3, bytes := 72, zero := .agg ([.slice none 0 0, .slice none 0 0, .slice none 0 0] : List Value).toArray, zs := [.slice none 0 0, .slice none 0 0, .slice none 0 0] }
theorem t51_ok : TIok Try.prog 51 t51 := ⟨by kernel_rfl, by kernel_rfl, rfl, rfl⟩
def t89 : TI := { und := .slice 56, size := 1, bytes := 24, zero := .slice none 0 0, zs := [.slice none 0 0] }
theorem t89_ok : TIok Try.prog 89 t89 := ⟨by kernel_rfl, by kernel_rfl, rfl, rfl⟩
def t94 : TI := { und := .struct [(0, 1), (1, 1), (2, 1)], size := 3, bytes := 40, zero := .agg ([.slice none 0 0, .int .i64 0, .int .i64 0] : List Value).toArray, zs := [.slice none 0 0, .int .i64 0, .int .i64 0] }
theorem t94_ok : TIok Try.prog 94 t94 := ⟨by kernel_rfl, by kernel_rfl, rfl, rfl⟩
def t14 : TI := { und := .struct [(0, 1), (1, 1)], size := 2, bytes := 24, zero := .agg ([.string ⟨#[]⟩, .int .u64 0] : List Value).toArray, zs := [.string ⟨#[]⟩, .int .u64 0] }
theorem t14_ok : TIok Try.prog 14 t14 := ⟨by kernel_rfl, by kernel_rfl, rfl, rfl⟩
def t83 : TI := { und := .ptr 79, size := 1, bytes := 8, zero := .pointer none, zs := [.pointer none] }
theorem t83_ok : TIok Try.prog 83 t83 := ⟨by kernel_rfl, by kernel_rfl, rfl, rfl⟩
def t15 : TI := { und := .ptr 101, size := 1, bytes := 8, zero := .pointer none, zs := [.pointer none] }
theorem t15_ok : TIok Try.prog 15 t15 := ⟨by kernel_rfl, by kernel_rfl, rfl, rfl⟩
def t71 : TI := { und := .slice 79, size := 1, bytes := 24, zero := .slice none 0 0, zs := [.slice none 0 0] }
theorem t71_ok : TIok Try.prog 71 t71 := ⟨by kernel_rfl, by kernel_rfl, rfl, rfl⟩
def t60 : TI := { und := .slice 66, size := 1, bytes := 24, zero := .slice none 0 0, zs := [.slice none 0 0] }
theorem t60_ok : TIok Try.prog 60 t60 := ⟨by kernel_rfl, by kernel_rfl, rfl, rfl⟩
def t50 : TI := { und := .slice 53, size := 1, bytes := 24, zero := .slice none 0 0, zs := [.slice none 0 0] }
theorem t50_ok : TIok Try.prog 50 t50 := ⟨by kernel_rfl, by kernel_rfl, rfl, rfl⟩
def t53 : TI := { und := .struct [(0, 1), (1, 1), (2, 1)], size := 3, bytes := 3, zero := .agg ([.int .u8 0, .int .u8 0, .bool false] : List Value).toArray, zs := [.int .u8 0, .int .u8 0, .bool false] }
theorem t53_ok : TIok Try.prog 53 t53 := ⟨by kernel_rfl, by kernel_rfl, rfl, rfl⟩
def t40 : TI := { und := .slice 98, size := 1, bytes := 24, zero := .slice none 0 0, zs := [.slice none 0 0] }
theorem t40_ok : TIok Try.prog 40 t40 := ⟨by kernel_rfl, by kernel_rfl, rfl, rfl⟩
def t25 : TI := { und := .int .u16, size := 1, bytes := 2, zero := .int .u16 0, zs := [.int .u16 0] }
theorem t25_ok : TIok Try.prog 25 t25 := ⟨by kernel_rfl, by kernel_rfl, rfl, rfl⟩
def t13 : TI := { und := .struct [(0, 1), (1, 1)], size := 2, bytes := 24, zero := .agg ([.string ⟨#[]⟩, .int .u64 0] : List Value).toArray, zs := [.string ⟨#[]⟩, .int .u64 0] }
theorem t13_ok : TIok Try.prog 13 t13 := ⟨by kernel_rfl, by kernel_rfl, rfl, rfl⟩
def t19 : TI := { und := .struct [(0, 1)], size := 1, bytes := 8, zero := .agg ([.pointer none] : List Value).toArray, zs := [.pointer none] }
theorem t19_ok : TIok Try.prog 19 t19 := ⟨by kernel_rfl, by kernel_rfl, rfl, rfl⟩
def t21 : TI := { und := .int .i32, size := 1, bytes := 4, zero := .int .i32 0, zs := [.int .i32 0] }
theorem t21_ok : TIok Try.prog 21 t21 := ⟨by kernel_rfl, by kernel_rfl, rfl, rfl⟩
def t27 : TI := { und := .array 3 25, size := 3, bytes := 6, zero := .agg ([.int .u16 0, .int .u16 0, .int .u16 0] : List Value).toArray, zs := [.int .u16 0, .int .u16 0, .int .u16 0] }
theorem t27_ok : TIok Try.prog 27 t27 := ⟨by kernel_rfl, by kernel_rfl, rfl, rfl⟩
def t17 : TI := { und := .ptr 113, size := 1, bytes := 8, zero := .pointer none, zs := [.pointer none] }
theorem t17_ok : TIok Try.prog 17 t17 := ⟨by kernel_rfl, by kernel_rfl, rfl, rfl⟩
def t18 : TI := { und := .struct [(0, 1)], size := 1, bytes := 8, zero := .agg ([.pointer none] : List Value).toArray, zs := [.pointer none] }
theorem t18_ok : TIok Try.prog 18 t18 := ⟨by kernel_rfl, by kernel_rfl, rfl, rfl⟩
def t42 : TI := { und := .struct [(0, 1), (1, 1), (2, 1)], size := 3, bytes := 40, zero := .agg ([.int .i64 0, .slice none 0 0, .int .i64 0] : List Value).toArray, zs := [.int .i64 0, .slice none 0 0, .int .i64 0] }
theorem t42_ok : TIok Try.prog 42 t42 := ⟨by kernel_rfl, by kernel_rfl, rfl, rfl⟩
def t34 : TI := { und := .struct [(0, 1), (1, 1), (2, 1), (3, 1)], size := 4, bytes := 48, zero := .agg ([.int .i64 0, .string ⟨#[]⟩, .string ⟨#[]⟩, .int .i64 0] : List Value).toArray, zs := [.int .i64 0, .string ⟨#[]⟩, .string ⟨#[]⟩, .int .i64 0] }
theorem t34_ok : TIok Try.prog 34 t34 := ⟨by kernel_rfl, by kernel_rfl, rfl, rfl⟩
def t43 : TI := { und := .struct [(0, 1), (1, 1), (2, 1), (3, 1), (4, 1), (5, 1), (6, 1), (7, 4), (11, 4), (15, 1), (16, 7), (23, 3), (26, 1), (27, 1), (28, 1)], size := 29, bytes := 288, zero := .agg ([.int .i64 0, .int .i64 0, .int .i64 0, .int .i64 0, .int .i64 0, .int .i64 0, .int .i64 0, .int .i64 0, .string ⟨#[]⟩, .string ⟨#[]⟩, .int .i64 0, .int .i64 0, .string ⟨#[]⟩, .int .i64 0, .int .i64 0, .int .i64 0, .int .i64 0, .int .i64 0, .int .i64 0, .int .i64 0, .string ⟨#[]⟩, .string ⟨#[]⟩, .int .i64 0, .int .i64 0, .slice none 0 0, .int .i64 0, .int .i64 0, .int .i64 0, .int .i64 0] : List Value).toArray, zs := [.int .i64 0, .int .i64 0, .int .i64 0, .int .i64 0, .int .i64 0, .int .i64 0, .int .i64 0, .int .i64 0, .string ⟨#[]⟩, .string ⟨#[]⟩, .int .i64 0, .int .i64 0, .string ⟨#[]⟩, .int .i64 0, .int .i64 0, .int .i64 0, .int .i64 0, .int .i64 0, .int .i64 0, .int .i64 0, .string ⟨#[]⟩, .string ⟨#[]⟩, .int .i64 0, .int .i64 0, .slice none 0 0, .int .i64 0, .int .i64 0, .int .i64 0, .int .i64 0] }
theorem t43_ok : TIok Try.prog 43 t43 := ⟨by kernel_rfl, by kernel_rfl, rfl, rfl⟩
def t86 : TI := { und := .array 9 3, size := 9, bytes := 72, zero := .agg ([.int .i64 0, .int .i64 0, .int .i64 0, .int .i64 0, .int .i64 0, .int .i64 0, .int .i64 0, .int .i64 0, .int .i64 0] : List Value).toArray, zs := [.int .i64 0, .int .i64 0, .int .i64 0, .int .i64 0, .int .i64 0, .int .i64 0, .int .i64 0, .int .i64 0, .int .i64 0] }
theorem t86_ok : TIok Try.prog 86 t86 := ⟨by kernel_rfl, by kernel_rfl, rfl, rfl⟩
def t52 : TI := { und := .struct [(0, 1), (1, 1), (2, 1)], size := 3, bytes := 3, zero := .agg ([.int .u8 0, .int .u8 0, .bool false] : List Value).toArray, zs := [.int .u8 0, .int .u8 0, .bool false] }
theorem t52_ok : TIok Try.prog 52 t52 := ⟨by kernel_rfl, by kernel_rfl, rfl, rfl⟩
def t55 : TI := { und := .array 3 3, size := 3, bytes := 24, zero := .agg ([.int .i64 0, .int .i64 0, .int .i64 0] : List Value).toArray, zs := [.int .i64 0, .int .i64 0, .int .i64 0] }
theorem t55_ok : TIok Try.prog 55 t55 := ⟨by kernel_rfl, by kernel_rfl, rfl, rfl⟩
def t103 : TI := { und := .struct [(0, 0)], size := 0, bytes := 0, zero := .agg ([] : List Value).toArray, zs := [] }
theorem t103_ok : TIok Try.prog 103 t103 := ⟨by kernel_rfl, by kernel_rfl, rfl, rfl⟩
def t36 : TI := { und := .struct [(0, 1), (1, 1), (2, 1), (3, 1)], size := 4, bytes := 40, zero := .agg ([.int .i64 0, .string ⟨#[]⟩, .int .i64 0, .int .i64 0] : List Value).toArray, zs := [.int .i64 0, .string ⟨#[]⟩, .int .i64 0, .int .i64 0] }
theorem t36_ok : TIok Try.prog 36 t36 := ⟨by kernel_rfl, by kernel_rfl, rfl, rfl⟩
def t38 : TI := { und := .struct [(0, 1), (1, 1), (2, 1), (3, 4)], size := 7, bytes := 72, zero := .agg ([.int .i64 0, .int .i64 0, .int .i64 0, .int .i64 0, .string ⟨#[]⟩, .string ⟨#[]⟩, .int .i64 0] : List Value).toArray, zs := [.int .i64 0, .int .i64 0, .int .i64 0, .int .i64 0, .string ⟨#[]⟩, .string ⟨#[]⟩, .int .i64 0] }
theorem t38_ok : TIok Try.prog 38 t38 := ⟨by kernel_rfl, by kernel_rfl, rfl, rfl⟩
def t87 : TI := { und := .slice 5, size := 1, bytes := 24, zero := .slice none 0 0, zs := [.slice none 0 0] }
theorem t87_ok : TIok Try.prog 87 t87 := ⟨by kernel_rfl, by kernel_rfl, rfl, rfl⟩
def t102 : TI := { und := .array 0 16, size := 0, bytes := 0, zero := .agg ([] : List Value).toArray, zs := [] }
theorem t102_ok : TIok Try.prog 102 t102 := ⟨by kernel_rfl, by kernel_rfl, rfl, rfl⟩
def t107 : TI := { und := .int .u8, size := 1, bytes := 1, zero := .int .u8 0, zs := [.int .u8 0] }
theorem t107_ok : TIok Try.prog 107 t107 := ⟨by kernel_rfl, by kernel_rfl, rfl, rfl⟩
def t37 : TI := { und := .struct [(0, 1), (1, 1), (2, 1), (3, 1)], size := 4, bytes := 40, zero := .agg ([.int .i64 0, .string ⟨#[]⟩, .int .i64 0, .int .i64 0] : List Value).toArray, zs := [.int .i64 0, .string ⟨#[]⟩, .int .i64 0, .int .i64 0] }
theorem t37_ok : TIok Try.prog 37 t37 := ⟨by kernel_rfl, by kernel_rfl, rfl, rfl⟩
def t39 : TI := { und := .struct [(0, 1), (1, 1), (2, 1), (3, 4)], size := 7, bytes := 72, zero := .agg ([.int .i64 0, .int .i64 0, .int .i64 0, .int .i64 0, .string ⟨#[]⟩, .string ⟨#[]⟩, .int .i64 0] : List Value).toArray, zs := [.int .i64 0, .int .i64 0, .int .i64 0, .int .i64 0, .string ⟨#[]⟩, .string ⟨#[]⟩, .int .i64 0] }
theorem t39_ok : TIok Try.prog 39 t39 := ⟨by kernel_rfl, by kernel_rfl, rfl, rfl⟩
def t72 : TI := { und := .struct [(0, 1), (1, 1), (2, 1)], size := 3, bytes := 40, zero := .agg ([.slice none 0 0, .int .i64 0, .bool false] : List Value).toArray, zs := [.slice none 0 0, .int .i64 0, .bool false] }
theorem t72_ok : TIok Try.prog 72 t72 := ⟨by kernel_rfl, by kernel_rfl, rfl, rfl⟩
def t98 : TI := { und := .struct [(0, 1), (1, 1)], size := 2, bytes := 16, zero := .agg ([.int .i64 0, .int .i64 0] : List Value).toArray, zs := [.int .i64 0, .int .i64 0] }
theorem t98_ok : TIok Try.prog 98 t98 := ⟨by kernel_rfl, by kernel_rfl, rfl, rfl⟩
def t100 : TI := { und := .struct [(0, 1), (1, 1), (2, 1), (3, 1)], size := 4, bytes := 40, zero := .agg ([.pointer none, .pointer none, .pointer none, .string ⟨#[]⟩] : List Value).toArray, zs := [.pointer none, .pointer none, .pointer none, .string ⟨#[]⟩] }
theorem t100_ok : TIok Try.prog 100 t100 := ⟨by kernel_rfl, by kernel_rfl, rfl, rfl⟩
def t106 : TI := { und := .int .u8, size := 1, bytes := 1, zero := .int .u8 0, zs := [.int .u8 0] }
theorem t106_ok : TIok Try.prog 106 t106 := ⟨by kernel_rfl, by kernel_rfl, rfl, rfl⟩
def t110 : TI := { und := .int .i32, size := 1, bytes := 4, zero := .int .i32 0, zs := [.int .i32 0] }
theorem t110_ok : TIok Try.prog 110 t110 := ⟨by kernel_rfl, by kernel_rfl, rfl, rfl⟩
def t41 : TI := { und := .struct [(0, 1), (1, 1), (2, 1)], size := 3, bytes := 40, zero := .agg ([.int .i64 0, .slice none 0 0, .int .i64 0] : List Value).toArray, zs := [.int .i64 0, .slice none 0 0, .int .i64 0] }
theorem t41_ok : TIok Try.prog 41 t41 := ⟨by kernel_rfl, by kernel_rfl, rfl, rfl⟩
def t97 : TI := { und := .struct [(0, 1), (1, 1)], size := 2, bytes := 16, zero := .agg ([.int .i64 0, .int .i64 0] : List Value).toArray, zs := [.int .i64 0, .int .i64 0] }
theorem t97_ok : TIok Try.prog 97 t97 := ⟨by kernel_rfl, by kernel_rfl, rfl, rfl⟩
def t111 : TI := { und := .int .i32, size := 1, bytes := 4, zero := .int .i32 0, zs := [.int .i32 0] }
theorem t111_ok : TIok Try.prog 111 t111 := ⟨by kernel_rfl, by kernel_rfl, rfl, rfl⟩
def t65 : TI := { und := .struct [(0, 1), (1, 29), (30, 1)], size := 31, bytes := 304, zero := .agg ([.int .u8 0, .int .i64 0, .int .i64 0, .int .i64 0, .int .i64 0, .int .i64 0, .int .i64 0, .int .i64 0, .int .i64 0, .string ⟨#[]⟩, .string ⟨#[]⟩, .int .i64 0, .int .i64 0, .string ⟨#[]⟩, .int .i64 0, .int .i64 0, .int .i64 0, .int .i64 0, .int .i64 0, .int .i64 0, .int .i64 0, .string ⟨#[]⟩, .string ⟨#[]⟩, .int .i64 0, .int .i64 0, .slice none 0 0, .int .i64 0, .int .i64 0, .int .i64 0, .int .i64 0, .int .i64 0] : List Value).toArray, zs := [.int .u8 0, .int .i64 0, .int .i64 0, .int .i64 0, .int .i64 0, .int .i64 0, .int .i64 0, .int .i64 0, .int .i64 0, .string ⟨#[]⟩, .string ⟨#[]⟩, .int .i64 0, .int .i64 0, .string ⟨#[]⟩, .int .i64 0, .int .i64 0, .int .i64 0, .int .i64 0, .int .i64 0, .int .i64 0, .int .i64 0, .string ⟨#[]⟩, .string ⟨#[]⟩, .int .i64 0, .int .i64 0, .slice none 0 0, .int .i64 0, .int .i64 0, .int .i64 0, .int .i64 0, .int .i64 0] }
theorem t65_ok : TIok Try.prog 65 t65 := ⟨by kernel_rfl, by kernel_rfl, rfl, rfl⟩
def t78 : TI := { und := .struct [(0, 1), (1, 1), (2, 1), (3, 1)], size := 4, bytes := 32, zero := .agg ([.pointer none, .int .i64 0, .int .i64 0, .int .i64 0] : List Value).toArray, zs := [.pointer none, .int .i64 0, .int .i64 0, .int .i64 0] }
theorem t78_ok : TIok Try.prog 78 t78 := ⟨by kernel_rfl, by kernel_rfl, rfl, rfl⟩
def t90 : TI := { und := .struct [(0, 1), (1, 1), (2, 1), (3, 1), (4, 1), (5, 1), (6, 1)], size := 7, bytes := 120, zero := .agg ([.int .i64 0, .slice none 0 0, .slice none 0 0, .slice none 0 0, .slice none 0 0, .int .i64 0, .bool false] : List Value).toArray, zs := [.int .i64 0, .slice none 0 0, .slice none 0 0, .slice none 0 0, .slice none 0 0, .int .i64 0, .bool false] }
theorem t90_ok : TIok Try.prog 90 t90 := ⟨by kernel_rfl, by kernel_rfl, rfl, rfl⟩
def t93 : TI := { und := .struct [(0, 1), (1, 1), (2, 1)], size := 3, bytes := 40, zero := .agg ([.slice none 0 0, .int .i64 0, .int .i64 0] : List Value).toArray, zs := [.slice none 0 0, .int .i64 0, .int .i64 0] }
theorem t93_ok : TIok Try.prog 93 t93 := ⟨by kernel_rfl, by kernel_rfl, rfl, rfl⟩
def t101 : TI := { und := .struct [(0, 1), (1, 1), (2, 1), (3, 1)], size := 4, bytes := 40, zero := .agg ([.pointer none, .pointer none, .pointer none, .string ⟨#[]⟩] : List Value).toArray, zs := [.pointer none, .pointer none, .pointer none, .string ⟨#[]⟩] }
theorem t101_ok : TIok Try.prog 101 t101 := ⟨by kernel_rfl, by kernel_rfl, rfl, rfl⟩
def t104 : TI := { und := .struct [(0, 0)], size := 0, bytes := 0, zero := .agg ([] : List Value).toArray, zs := [] }
theorem t104_ok : TIok Try.prog 104 t104 := ⟨by kernel_rfl, by kernel_rfl, rfl, rfl⟩
def t105 : TI := { und := .int .u32, size := 1, bytes := 4, zero := .int .u32 0, zs := [.int .u32 0] }
theorem t105_ok : TIok Try.prog 105 t105 := ⟨by kernel_rfl, by kernel_rfl, rfl, rfl⟩
def t109 : TI := { und := .ptr 5, size := 1, bytes := 8, zero := .pointer none, zs := [.pointer none] }
theorem t109_ok : TIok Try.prog 109 t109 := ⟨by kernel_rfl, by kernel_rfl, rfl, rfl⟩
def tab : Tab := [(3, t3), (4, t4), (2, t2), (44, t44), (29, t29), (5, t5), (30, t30), (6, t6), (56, t56), (75, t75), (35, t35), (28, t28), (62, t62), (9, t9), (7, t7), (16, t16), (79, t79), (91, t91), (8, t8), (10, t10), (12, t12), (66, t66), (11, t11), (73, t73), (51, t51), (89, t89), (94, t94), (14, t14), (83, t83), (15, t15), (71, t71), (60, t60), (50, t50), (53, t53), (40, t40), (25, t25), (13, t13), (19, t19), (21, t21), (27, t27), (17, t17), (18, t18), (42, t42), (34, t34), (43, t43), (86, t86), (52, t52), (55, t55), (103, t103), (36, t36), (38, t38), (87, t87), (102, t102), (107, t107), (37, t37), (39, t39), (72, t72), (98, t98), (100, t100), (106, t106), (110, t110), (41, t41), (97, t97), (111, t111), (65, t65), (78, t78), (90, t90), (93, t93), (101, t101), (104, t104), (105, t105), (109, t109)]
theorem tabOk : TabOk Try.prog tab := by
  intro p hp
  have key : ∀ (l : Tab), (∀ p ∈ l, TIok Try.prog p.1 p.2) → ∀ k ti, TIok Try.prog k ti → ∀ p ∈ (k, ti) :: l, TIok Try.prog p.1 p.2 := fun l h k ti h1 p hp => by
    rcases List.mem_cons.1 hp with rfl | hp
    · exact h1
    · exact h p hp
  exact key _ (key _ (key _ (key _ (key _ (key _ (key _ (key _ (key _ (key _ (key _ (key _ (key _ (key _ (key _ (key _ (key _ (key _ (key _ (key _ (key _ (key _ (key _ (key _ (key _ (key _ (key _ (key _ (key _ (key _ (key _ (key _ (key _ (key _ (key _ (key _ (key _ (key _ (key _ (key _ (key _ (key _ (key _ (key _ (key _ (key _ (key _ (key _ (key _ (key _ (key _ (key _ (key _ (key _ (key _ (key _ (key _ (key _ (key _ (key _ (key _ (key _ (key _ (key _ (key _ (key _ (key _ (key _ (key _ (key _ (key _ (key _ (fun p h => by cases h) _ _ t109_ok) _ _ t105_ok) _ _ t104_ok) _ _ t101_ok) _ _ t93_ok) _ _ t90_ok) _ _ t78_ok) _ _ t65_ok) _ _ t111_ok) _ _ t97_ok) _ _ t41_ok) _ _ t110_ok) _ _ t106_ok) _ _ t100_ok) _ _ t98_ok) _ _ t72_ok) _ _ t39_ok) _ _ t37_ok) _ _ t107_ok) _ _ t102_ok) _ _ t87_ok) _ _ t38_ok) _ _ t36_ok) _ _ t103_ok) _ _ t55_ok) _ _ t52_ok) _ _ t86_ok) _ _ t43_ok) _ _ t34_ok) _ _ t42_ok) _ _ t18_ok) _ _ t17_ok) _ _ t27_ok) _ _ t21_ok) _ _ t19_ok) _ _ t13_ok) _ _ t25_ok) _ _ t40_ok) _ _ t53_ok) _ _ t50_ok) _ _ t60_ok) _ _ t71_ok) _ _ t15_ok) _ _ t83_ok) _ _ t14_ok) _ _ t94_ok) _ _ t89_ok) _ _ t51_ok) _ _ t73_ok) _ _ t11_ok) _ _ t66_ok) _ _ t12_ok) _ _ t10_ok) _ _ t8_ok) _ _ t91_ok) _ _ t79_ok) _ _ t16_ok) _ _ t7_ok) _ _ t9_ok) _ _ t62_ok) _ _ t28_ok) _ _ t35_ok) _ _ t75_ok) _ _ t56_ok) _ _ t6_ok) _ _ t30_ok) _ _ t5_ok) _ _ t29_ok) _ _ t44_ok) _ _ t2_ok) _ _ t4_ok) _ _ t3_ok p hp
end Go.Proofs.Ytpgcjbddjghkdaa.T
