/- What is known of this program's types: sizes, zeros, the places of fields. Each entry is checked by the kernel. (Written by wip/tab.py.) -/
import Derived.Test.YtoinocihlfmnnaaVgA
import Derived.Test.YtoinocihlfmnnaaRows
import Derived.KernelRfl
namespace Go.Proofs.Ytoinocihlfmnnaa.T
open Go Go.Proofs.Ytoinocihlfmnnaa.Vg
def t3 : TI := { und := .int .i64, size := 1, bytes := 8, zero := .int .i64 0, zs := [.int .i64 0] }
theorem t3_ok : TIok Try.prog 3 t3 := ⟨by kernel_rfl, by kernel_rfl, rfl, rfl⟩
def t4 : TI := { und := .bool, size := 1, bytes := 1, zero := .bool false, zs := [.bool false] }
theorem t4_ok : TIok Try.prog 4 t4 := ⟨by kernel_rfl, by kernel_rfl, rfl, rfl⟩
def t2 : TI := { und := .int .i64, size := 1, bytes := 8, zero := .int .i64 0, zs := [.int .i64 0] }
theorem t2_ok : TIok Try.prog 2 t2 := ⟨by kernel_rfl, by kernel_rfl, rfl, rfl⟩
def t24 : TI := { und := .struct [(0, 1), (1, 1), (2, 1), (3, 1), (4, 1), (5, 1), (6, 1), (7, 1), (8, 1), (9, 1), (10, 1), (11, 1)], size := 12, bytes := 112, zero := .agg ([.int .i64 0, .int .i64 0, .int .i64 0, .slice none 0 0, .int .i64 0, .int .i64 0, .int .i64 0, .int .i64 0, .int .i64 0, .int .i64 0, .int .i64 0, .int .i64 0] : List Value).toArray, zs := [.int .i64 0, .int .i64 0, .int .i64 0, .slice none 0 0, .int .i64 0, .int .i64 0, .int .i64 0, .int .i64 0, .int .i64 0, .int .i64 0, .int .i64 0, .int .i64 0] }
theorem t24_ok : TIok Try.prog 24 t24 := ⟨by kernel_rfl, by kernel_rfl, rfl, rfl⟩
def t50 : TI := { und := .struct [(0, 1), (1, 1), (2, 1), (3, 1), (4, 1), (5, 1), (6, 1), (7, 4), (11, 4), (15, 1), (16, 7), (23, 3), (26, 1), (27, 1), (28, 1)], size := 29, bytes := 288, zero := .agg ([.int .i64 0, .int .i64 0, .int .i64 0, .int .i64 0, .int .i64 0, .int .i64 0, .int .i64 0, .int .i64 0, .string ⟨#[]⟩, .string ⟨#[]⟩, .int .i64 0, .int .i64 0, .string ⟨#[]⟩, .int .i64 0, .int .i64 0, .int .i64 0, .int .i64 0, .int .i64 0, .int .i64 0, .int .i64 0, .string ⟨#[]⟩, .string ⟨#[]⟩, .int .i64 0, .int .i64 0, .slice none 0 0, .int .i64 0, .int .i64 0, .int .i64 0, .int .i64 0] : List Value).toArray, zs := [.int .i64 0, .int .i64 0, .int .i64 0, .int .i64 0, .int .i64 0, .int .i64 0, .int .i64 0, .int .i64 0, .string ⟨#[]⟩, .string ⟨#[]⟩, .int .i64 0, .int .i64 0, .string ⟨#[]⟩, .int .i64 0, .int .i64 0, .int .i64 0, .int .i64 0, .int .i64 0, .int .i64 0, .int .i64 0, .string ⟨#[]⟩, .string ⟨#[]⟩, .int .i64 0, .int .i64 0, .slice none 0 0, .int .i64 0, .int .i64 0, .int .i64 0, .int .i64 0] }
theorem t50_ok : TIok Try.prog 50 t50 := ⟨by kernel_rfl, by kernel_rfl, rfl, rfl⟩
def t28 : TI := { und := .ptr 75, size := 1, bytes := 8, zero := .pointer none, zs := [.pointer none] }
theorem t28_ok : TIok Try.prog 28 t28 := ⟨by kernel_rfl, by kernel_rfl, rfl, rfl⟩
def t5 : TI := { und := .int .u8, size := 1, bytes := 1, zero := .int .u8 0, zs := [.int .u8 0] }
theorem t5_ok : TIok Try.prog 5 t5 := ⟨by kernel_rfl, by kernel_rfl, rfl, rfl⟩
def t29 : TI := { und := .int .i64, size := 1, bytes := 8, zero := .int .i64 0, zs := [.int .i64 0] }
theorem t29_ok : TIok Try.prog 29 t29 := ⟨by kernel_rfl, by kernel_rfl, rfl, rfl⟩
def t69 : TI := { und := .ptr 92, size := 1, bytes := 8, zero := .pointer none, zs := [.pointer none] }
theorem t69_ok : TIok Try.prog 69 t69 := ⟨by kernel_rfl, by kernel_rfl, rfl, rfl⟩
def t93 : TI := { und := .ptr 107, size := 1, bytes := 8, zero := .pointer none, zs := [.pointer none] }
theorem t93_ok : TIok Try.prog 93 t93 := ⟨by kernel_rfl, by kernel_rfl, rfl, rfl⟩
def t6 : TI := { und := .int .u8, size := 1, bytes := 1, zero := .int .u8 0, zs := [.int .u8 0] }
theorem t6_ok : TIok Try.prog 6 t6 := ⟨by kernel_rfl, by kernel_rfl, rfl, rfl⟩
def t54 : TI := { und := .slice 50, size := 1, bytes := 24, zero := .slice none 0 0, zs := [.slice none 0 0] }
theorem t54_ok : TIok Try.prog 54 t54 := ⟨by kernel_rfl, by kernel_rfl, rfl, rfl⟩
def t22 : TI := { und := .slice 3, size := 1, bytes := 24, zero := .slice none 0 0, zs := [.slice none 0 0] }
theorem t22_ok : TIok Try.prog 22 t22 := ⟨by kernel_rfl, by kernel_rfl, rfl, rfl⟩
def t9 : TI := { und := .string, size := 1, bytes := 16, zero := .string ⟨#[]⟩, zs := [.string ⟨#[]⟩] }
theorem t9_ok : TIok Try.prog 9 t9 := ⟨by kernel_rfl, by kernel_rfl, rfl, rfl⟩
def t7 : TI := { und := .struct [(0, 1), (1, 1), (2, 1), (3, 1)], size := 4, bytes := 24, zero := .agg ([.int .i64 0, .int .i64 0, .bool false, .int .u8 0] : List Value).toArray, zs := [.int .i64 0, .int .i64 0, .bool false, .int .u8 0] }
theorem t7_ok : TIok Try.prog 7 t7 := ⟨by kernel_rfl, by kernel_rfl, rfl, rfl⟩
def t35 : TI := { und := .struct [(0, 1), (1, 1), (2, 1), (3, 1), (4, 1), (5, 1), (6, 1)], size := 7, bytes := 7, zero := .agg ([.int .u8 0, .int .u8 0, .int .u8 0, .int .u8 0, .int .u8 0, .int .u8 0, .bool false] : List Value).toArray, zs := [.int .u8 0, .int .u8 0, .int .u8 0, .int .u8 0, .int .u8 0, .int .u8 0, .bool false] }
theorem t35_ok : TIok Try.prog 35 t35 := ⟨by kernel_rfl, by kernel_rfl, rfl, rfl⟩
def t39 : TI := { und := .slice 53, size := 1, bytes := 24, zero := .slice none 0 0, zs := [.slice none 0 0] }
theorem t39_ok : TIok Try.prog 39 t39 := ⟨by kernel_rfl, by kernel_rfl, rfl, rfl⟩
def t10 : TI := { und := .string, size := 1, bytes := 16, zero := .string ⟨#[]⟩, zs := [.string ⟨#[]⟩] }
theorem t10_ok : TIok Try.prog 10 t10 := ⟨by kernel_rfl, by kernel_rfl, rfl, rfl⟩
def t11 : TI := { und := .string, size := 1, bytes := 16, zero := .string ⟨#[]⟩, zs := [.string ⟨#[]⟩] }
theorem t11_ok : TIok Try.prog 11 t11 := ⟨by kernel_rfl, by kernel_rfl, rfl, rfl⟩
def t41 : TI := { und := .struct [(0, 1), (1, 1), (2, 1), (3, 1)], size := 4, bytes := 48, zero := .agg ([.int .i64 0, .string ⟨#[]⟩, .string ⟨#[]⟩, .int .i64 0] : List Value).toArray, zs := [.int .i64 0, .string ⟨#[]⟩, .string ⟨#[]⟩, .int .i64 0] }
theorem t41_ok : TIok Try.prog 41 t41 := ⟨by kernel_rfl, by kernel_rfl, rfl, rfl⟩
def t8 : TI := { und := .struct [(0, 1), (1, 1), (2, 1), (3, 1)], size := 4, bytes := 24, zero := .agg ([.int .i64 0, .int .i64 0, .bool false, .int .u8 0] : List Value).toArray, zs := [.int .i64 0, .int .i64 0, .bool false, .int .u8 0] }
theorem t8_ok : TIok Try.prog 8 t8 := ⟨by kernel_rfl, by kernel_rfl, rfl, rfl⟩
def t97 : TI := { und := .struct [(0, 1), (1, 1), (2, 1), (3, 1)], size := 4, bytes := 32, zero := .agg ([.pointer none, .int .i64 0, .int .i64 0, .int .i64 0] : List Value).toArray, zs := [.pointer none, .int .i64 0, .int .i64 0, .int .i64 0] }
theorem t97_ok : TIok Try.prog 97 t97 := ⟨by kernel_rfl, by kernel_rfl, rfl, rfl⟩
def t16 : TI := { und := .ptr 118, size := 1, bytes := 8, zero := .pointer none, zs := [.pointer none] }
theorem t16_ok : TIok Try.prog 16 t16 := ⟨by kernel_rfl, by kernel_rfl, rfl, rfl⟩
def t64 : TI := { und := .struct [(0, 1), (1, 29), (30, 1)], size := 31, bytes := 304, zero := .agg ([.int .u8 0, .int .i64 0, .int .i64 0, .int .i64 0, .int .i64 0, .int .i64 0, .int .i64 0, .int .i64 0, .int .i64 0, .string ⟨#[]⟩, .string ⟨#[]⟩, .int .i64 0, .int .i64 0, .string ⟨#[]⟩, .int .i64 0, .int .i64 0, .int .i64 0, .int .i64 0, .int .i64 0, .int .i64 0, .int .i64 0, .string ⟨#[]⟩, .string ⟨#[]⟩, .int .i64 0, .int .i64 0, .slice none 0 0, .int .i64 0, .int .i64 0, .int .i64 0, .int .i64 0, .int .i64 0] : List Value).toArray, zs := [.int .u8 0, .int .i64 0, .int .i64 0, .int .i64 0, .int .i64 0, .int .i64 0, .int .i64 0, .int .i64 0, .int .i64 0, .string ⟨#[]⟩, .string ⟨#[]⟩, .int .i64 0, .int .i64 0, .string ⟨#[]⟩, .int .i64 0, .int .i64 0, .int .i64 0, .int .i64 0, .int .i64 0, .int .i64 0, .int .i64 0, .string ⟨#[]⟩, .string ⟨#[]⟩, .int .i64 0, .int .i64 0, .slice none 0 0, .int .i64 0, .int .i64 0, .int .i64 0, .int .i64 0, .int .i64 0] }
theorem t64_ok : TIok Try.prog 64 t64 := ⟨by kernel_rfl, by kernel_rfl, rfl, rfl⟩
def t12 : TI := { und := .int .u64, size := 1, bytes := 8, zero := .int .u64 0, zs := [.int .u64 0] }
theorem t12_ok : TIok Try.prog 12 t12 := ⟨by kernel_rfl, by kernel_rfl, rfl, rfl⟩
def t71 : TI := { und := .struct [(0, 1), (1, 1)], size := 2, bytes := 16, zero := .agg ([.int .i64 0, .int .i64 0] : List Value).toArray, zs := [.int .i64 0, .int .i64 0] }
theorem t71_ok : TIok Try.prog 71 t71 := ⟨by kernel_rfl, by kernel_rfl, rfl, rfl⟩
def t75 : TI := { und := .struct [(0, 1), (1, 1), (2, 1), (3, 12), (15, 6)], size := 21, bytes := 168, zero := .agg ([.pointer none, .int .i64 0, .int .i64 0, .int .i64 0, .int .i64 0, .int .i64 0, .int .i64 0, .int .i64 0, .int .i64 0, .int .i64 0, .int .i64 0, .int .i64 0, .int .i64 0, .int .i64 0, .int .i64 0, .int .i64 0, .int .i64 0, .int .i64 0, .int .i64 0, .int .i64 0, .int .i64 0] : List Value).toArray, zs := [.pointer none, .int .i64 0, .int .i64 0, .int .i64 0, .int .i64 0, .int .i64 0, .int .i64 0, .int .i64 0, .int .i64 0, .int .i64 0, .int .i64 0, .int .i64 0, .int .i64 0, .int .i64 0, .int .i64 0, .int .i64 0, .int .i64 0, .int .i64 0, .int .i64 0, .int .i64 0, .int .i64 0] }
theorem t75_ok : TIok Try.prog 75 t75 := ⟨by kernel_rfl, by kernel_rfl, rfl, rfl⟩
def t92 : TI := { und := .struct [(0, 1), (1, 1), (2, 1)], size := 3, bytes := 40, zero := .agg ([.slice none 0 0, .int .i64 0, .bool false] : List Value).toArray, zs := [.slice none 0 0, .int .i64 0, .bool false] }
theorem t92_ok : TIok Try.prog 92 t92 := ⟨by kernel_rfl, by kernel_rfl, rfl, rfl⟩
def t107 : TI := { und := .struct [(0, 1), (1, 1), (2, 1)], size := 3, bytes := 40, zero := .agg ([.slice none 0 0, .int .i64 0, .int .i64 0] : List Value).toArray, zs := [.slice none 0 0, .int .i64 0, .int .i64 0] }
theorem t107_ok : TIok Try.prog 107 t107 := ⟨by kernel_rfl, by kernel_rfl, rfl, rfl⟩
def t13 : TI := { und := .struct [(0, 1), (1, 1)], size := 2, bytes := 24, zero := .agg ([.string ⟨#[]⟩, .int .u64 0] : List Value).toArray, zs := [.string ⟨#[]⟩, .int .u64 0] }
theorem t13_ok : TIok Try.prog 13 t13 := ⟨by kernel_rfl, by kernel_rfl, rfl, rfl⟩
def t15 : TI := { und := .ptr 115, size := 1, bytes := 8, zero := .pointer none, zs := [.pointer none] }
theorem t15_ok : TIok Try.prog 15 t15 := ⟨by kernel_rfl, by kernel_rfl, rfl, rfl⟩
def t99 : TI := { und := .ptr 97, size := 1, bytes := 8, zero := .pointer none, zs := [.pointer none] }
theorem t99_ok : TIok Try.prog 99 t99 := ⟨by kernel_rfl, by kernel_rfl, rfl, rfl⟩
def t90 : TI := { und := .slice 97, size := 1, bytes := 24, zero := .slice none 0 0, zs := [.slice none 0 0] }
theorem t90_ok : TIok Try.prog 90 t90 := ⟨by kernel_rfl, by kernel_rfl, rfl, rfl⟩
def t25 : TI := { und := .slice 35, size := 1, bytes := 24, zero := .slice none 0 0, zs := [.slice none 0 0] }
theorem t25_ok : TIok Try.prog 25 t25 := ⟨by kernel_rfl, by kernel_rfl, rfl, rfl⟩
def t103 : TI := { und := .ptr 3, size := 1, bytes := 8, zero := .pointer none, zs := [.pointer none] }
theorem t103_ok : TIok Try.prog 103 t103 := ⟨by kernel_rfl, by kernel_rfl, rfl, rfl⟩
def t46 : TI := { und := .slice 112, size := 1, bytes := 24, zero := .slice none 0 0, zs := [.slice none 0 0] }
theorem t46_ok : TIok Try.prog 46 t46 := ⟨by kernel_rfl, by kernel_rfl, rfl, rfl⟩
def t14 : TI := { und := .struct [(0, 1), (1, 1)], size := 2, bytes := 24, zero := .agg ([.string ⟨#[]⟩, .int .u64 0] : List Value).toArray, zs := [.string ⟨#[]⟩, .int .u64 0] }
theorem t14_ok : TIok Try.prog 14 t14 := ⟨by kernel_rfl, by kernel_rfl, rfl, rfl⟩
def t19 : TI := { und := .struct [(0, 1)], size := 1, bytes := 8, zero := .agg ([.pointer none] : List Value).toArray, zs := [.pointer none] }
theorem t19_ok : TIok Try.prog 19 t19 := ⟨by kernel_rfl, by kernel_rfl, rfl, rfl⟩
def t17 : TI := { und := .ptr 127, size := 1, bytes := 8, zero := .pointer none, zs := [.pointer none] }
theorem t17_ok : TIok Try.prog 17 t17 := ⟨by kernel_rfl, by kernel_rfl, rfl, rfl⟩
def t32 : TI := { und := .array 2 3, size := 2, bytes := 16, zero := .agg ([.int .i64 0, .int .i64 0] : List Value).toArray, zs := [.int .i64 0, .int .i64 0] }
theorem t32_ok : TIok Try.prog 32 t32 := ⟨by kernel_rfl, by kernel_rfl, rfl, rfl⟩
def t58 : TI := { und := .slice 4, size := 1, bytes := 24, zero := .slice none 0 0, zs := [.slice none 0 0] }
theorem t58_ok : TIok Try.prog 58 t58 := ⟨by kernel_rfl, by kernel_rfl, rfl, rfl⟩
def t48 : TI := { und := .struct [(0, 1), (1, 1), (2, 1)], size := 3, bytes := 40, zero := .agg ([.int .i64 0, .slice none 0 0, .int .i64 0] : List Value).toArray, zs := [.int .i64 0, .slice none 0 0, .int .i64 0] }
theorem t48_ok : TIok Try.prog 48 t48 := ⟨by kernel_rfl, by kernel_rfl, rfl, rfl⟩
def t33 : TI := { und := .array 6 32, size := 12, bytes := 96, zero := .agg ([.int .i64 0, .int .i64 0, .int .i64 0, .int .i64 0, .int .i64 0, .int .i64 0, .int .i64 0, .int .i64 0, .int .i64 0, .int .i64 0, .int .i64 0, .int .i64 0] : List Value).toArray, zs := [.int .i64 0, .int .i64 0, .int .i64 0, .int .i64 0, .int .i64 0, .int .i64 0, .int .i64 0, .int .i64 0, .int .i64 0, .int .i64 0, .int .i64 0, .int .i64 0] }
theorem t33_ok : TIok Try.prog 33 t33 := ⟨by kernel_rfl, by kernel_rfl, rfl, rfl⟩
def t53 : TI := { und := .array 3 3, size := 3, bytes := 24, zero := .agg ([.int .i64 0, .int .i64 0, .int .i64 0] : List Value).toArray, zs := [.int .i64 0, .int .i64 0, .int .i64 0] }
theorem t53_ok : TIok Try.prog 53 t53 := ⟨by kernel_rfl, by kernel_rfl, rfl, rfl⟩
def t66 : TI := { und := .slice 64, size := 1, bytes := 24, zero := .slice none 0 0, zs := [.slice none 0 0] }
theorem t66_ok : TIok Try.prog 66 t66 := ⟨by kernel_rfl, by kernel_rfl, rfl, rfl⟩
def t115 : TI := { und := .struct [(0, 1), (1, 1), (2, 1), (3, 1)], size := 4, bytes := 40, zero := .agg ([.pointer none, .pointer none, .pointer none, .string ⟨#[]⟩] : List Value).toArray, zs := [.pointer none, .pointer none, .pointer none, .string ⟨#[]⟩] }
theorem t115_ok : TIok Try.prog 115 t115 := ⟨by kernel_rfl, by kernel_rfl, rfl, rfl⟩
def t23 : TI := { und := .struct [(0, 1), (1, 1), (2, 1), (3, 1), (4, 1), (5, 1), (6, 1), (7, 1), (8, 1), (9, 1), (10, 1), (11, 1)], size := 12, bytes := 112, zero := .agg ([.int .i64 0, .int .i64 0, .int .i64 0, .slice none 0 0, .int .i64 0, .int .i64 0, .int .i64 0, .int .i64 0, .int .i64 0, .int .i64 0, .int .i64 0, .int .i64 0] : List Value).toArray, zs := [.int .i64 0, .int .i64 0, .int .i64 0, .slice none 0 0, .int .i64 0, .int .i64 0, .int .i64 0, .int .i64 0, .int .i64 0, .int .i64 0, .int .i64 0, .int .i64 0] }
theorem t23_ok : TIok Try.prog 23 t23 := ⟨by kernel_rfl, by kernel_rfl, rfl, rfl⟩
def t45 : TI := { und := .struct [(0, 1), (1, 1), (2, 1), (3, 4)], size := 7, bytes := 72, zero := .agg ([.int .i64 0, .int .i64 0, .int .i64 0, .int .i64 0, .string ⟨#[]⟩, .string ⟨#[]⟩, .int .i64 0] : List Value).toArray, zs := [.int .i64 0, .int .i64 0, .int .i64 0, .int .i64 0, .string ⟨#[]⟩, .string ⟨#[]⟩, .int .i64 0] }
theorem t45_ok : TIok Try.prog 45 t45 := ⟨by kernel_rfl, by kernel_rfl, rfl, rfl⟩
def t73 : TI := { und := .array 6 3, size := 6, bytes := 48, zero := .agg ([.int .i64 0, .int .i64 0, .int .i64 0, .int .i64 0, .int .i64 0, .int .i64 0] : List Value).toArray, zs := [.int .i64 0, .int .i64 0, .int .i64 0, .int .i64 0, .int .i64 0, .int .i64 0] }
theorem t73_ok : TIok Try.prog 73 t73 := ⟨by kernel_rfl, by kernel_rfl, rfl, rfl⟩
def t96 : TI := { und := .struct [(0, 1), (1, 1), (2, 1), (3, 1)], size := 4, bytes := 32, zero := .agg ([.pointer none, .int .i64 0, .int .i64 0, .int .i64 0] : List Value).toArray, zs := [.pointer none, .int .i64 0, .int .i64 0, .int .i64 0] }
theorem t96_ok : TIok Try.prog 96 t96 := ⟨by kernel_rfl, by kernel_rfl, rfl, rfl⟩
def t18 : TI := { und := .struct [(0, 1)], size := 1, bytes := 8, zero := .agg ([.pointer none] : List Value).toArray, zs := [.pointer none] }
theorem t18_ok : TIok Try.prog 18 t18 := ⟨by kernel_rfl, by kernel_rfl, rfl, rfl⟩
def t21 : TI := { und := .int .i32, size := 1, bytes := 4, zero := .int .i32 0, zs := [.int .i32 0] }
theorem t21_ok : TIok Try.prog 21 t21 := ⟨by kernel_rfl, by kernel_rfl, rfl, rfl⟩
def t106 : TI := { und := .struct [(0, 1), (1, 1), (2, 1)], size := 3, bytes := 40, zero := .agg ([.slice none 0 0, .int .i64 0, .int .i64 0] : List Value).toArray, zs := [.slice none 0 0, .int .i64 0, .int .i64 0] }
theorem t106_ok : TIok Try.prog 106 t106 := ⟨by kernel_rfl, by kernel_rfl, rfl, rfl⟩
def t121 : TI := { und := .int .u8, size := 1, bytes := 1, zero := .int .u8 0, zs := [.int .u8 0] }
theorem t121_ok : TIok Try.prog 121 t121 := ⟨by kernel_rfl, by kernel_rfl, rfl, rfl⟩
def t34 : TI := { und := .struct [(0, 1), (1, 1), (2, 1), (3, 1), (4, 1), (5, 1), (6, 1)], size := 7, bytes := 7, zero := .agg ([.int .u8 0, .int .u8 0, .int .u8 0, .int .u8 0, .int .u8 0, .int .u8 0, .bool false] : List Value).toArray, zs := [.int .u8 0, .int .u8 0, .int .u8 0, .int .u8 0, .int .u8 0, .int .u8 0, .bool false] }
theorem t34_ok : TIok Try.prog 34 t34 := ⟨by kernel_rfl, by kernel_rfl, rfl, rfl⟩
def t114 : TI := { und := .struct [(0, 1), (1, 1), (2, 1), (3, 1)], size := 4, bytes := 40, zero := .agg ([.pointer none, .pointer none, .pointer none, .string ⟨#[]⟩] : List Value).toArray, zs := [.pointer none, .pointer none, .pointer none, .string ⟨#[]⟩] }
theorem t114_ok : TIok Try.prog 114 t114 := ⟨by kernel_rfl, by kernel_rfl, rfl, rfl⟩
def t40 : TI := { und := .struct [(0, 1), (1, 1), (2, 1), (3, 1)], size := 4, bytes := 48, zero := .agg ([.int .i64 0, .string ⟨#[]⟩, .string ⟨#[]⟩, .int .i64 0] : List Value).toArray, zs := [.int .i64 0, .string ⟨#[]⟩, .string ⟨#[]⟩, .int .i64 0] }
theorem t40_ok : TIok Try.prog 40 t40 := ⟨by kernel_rfl, by kernel_rfl, rfl, rfl⟩
def t49 : TI := { und := .struct [(0, 1), (1, 1), (2, 1), (3, 1), (4, 1), (5, 1), (6, 1), (7, 4), (11, 4), (15, 1), (16, 7), (23, 3), (26, 1), (27, 1), (28, 1)], size := 29, bytes := 288, zero := .agg ([.int .i64 0, .int .i64 0, .int .i64 0, .int .i64 0, .int .i64 0, .int .i64 0, .int .i64 0, .int .i64 0, .string ⟨#[]⟩, .string ⟨#[]⟩, .int .i64 0, .int .i64 0, .string ⟨#[]⟩, .int .i64 0, .int .i64 0, .int .i64 0, .int .i64 0, .int .i64 0, .int .i64 0, .int .i64 0, .string ⟨#[]⟩, .string ⟨#[]⟩, .int .i64 0, .int .i64 0, .slice none 0 0, .int .i64 0, .int .i64 0, .int .i64 0, .int .i64 0] : List Value).toArray, zs := [.int .i64 0, .int .i64 0, .int .i64 0, .int .i64 0, .int .i64 0, .int .i64 0, .int .i64 0, .int .i64 0, .string ⟨#[]⟩, .string ⟨#[]⟩, .int .i64 0, .int .i64 0, .string ⟨#[]⟩, .int .i64 0, .int .i64 0, .int .i64 0, .int .i64 0, .int .i64 0, .int .i64 0, .int .i64 0, .string ⟨#[]⟩, .string ⟨#[]⟩, .int .i64 0, .int .i64 0, .slice none 0 0, .int .i64 0, .int .i64 0, .int .i64 0, .int .i64 0] }
theorem t49_ok : TIok Try.prog 49 t49 := ⟨by kernel_rfl, by kernel_rfl, rfl, rfl⟩
def t72 : TI := { und := .array 6 71, size := 12, bytes := 96, zero := .agg ([.int .i64 0, .int .i64 0, .int .i64 0, .int .i64 0, .int .i64 0, .int .i64 0, .int .i64 0, .int .i64 0, .int .i64 0, .int .i64 0, .int .i64 0, .int .i64 0] : List Value).toArray, zs := [.int .i64 0, .int .i64 0, .int .i64 0, .int .i64 0, .int .i64 0, .int .i64 0, .int .i64 0, .int .i64 0, .int .i64 0, .int .i64 0, .int .i64 0, .int .i64 0] }
theorem t72_ok : TIok Try.prog 72 t72 := ⟨by kernel_rfl, by kernel_rfl, rfl, rfl⟩
def t42 : TI := { und := .struct [(0, 1), (1, 1), (2, 1), (3, 1)], size := 4, bytes := 40, zero := .agg ([.int .i64 0, .string ⟨#[]⟩, .int .i64 0, .int .i64 0] : List Value).toArray, zs := [.int .i64 0, .string ⟨#[]⟩, .int .i64 0, .int .i64 0] }
theorem t42_ok : TIok Try.prog 42 t42 := ⟨by kernel_rfl, by kernel_rfl, rfl, rfl⟩
def t47 : TI := { und := .struct [(0, 1), (1, 1), (2, 1)], size := 3, bytes := 40, zero := .agg ([.int .i64 0, .slice none 0 0, .int .i64 0] : List Value).toArray, zs := [.int .i64 0, .slice none 0 0, .int .i64 0] }
theorem t47_ok : TIok Try.prog 47 t47 := ⟨by kernel_rfl, by kernel_rfl, rfl, rfl⟩
def t63 : TI := { und := .struct [(0, 1), (1, 29), (30, 1)], size := 31, bytes := 304, zero := .agg ([.int .u8 0, .int .i64 0, .int .i64 0, .int .i64 0, .int .i64 0, .int .i64 0, .int .i64 0, .int .i64 0, .int .i64 0, .string ⟨#[]⟩, .string ⟨#[]⟩, .int .i64 0, .int .i64 0, .string ⟨#[]⟩, .int .i64 0, .int .i64 0, .int .i64 0, .int .i64 0, .int .i64 0, .int .i64 0, .int .i64 0, .string ⟨#[]⟩, .string ⟨#[]⟩, .int .i64 0, .int .i64 0, .slice none 0 0, .int .i64 0, .int .i64 0, .int .i64 0, .int .i64 0, .int .i64 0] : List Value).toArray, zs := [.int .u8 0, .int .i64 0, .int .i64 0, .int .i64 0, .int .i64 0, .int .i64 0, .int .i64 0, .int .i64 0, .int .i64 0, .string ⟨#[]⟩, .string ⟨#[]⟩, .int .i64 0, .int .i64 0, .string ⟨#[]⟩, .int .i64 0, .int .i64 0, .int .i64 0, .int .i64 0, .int .i64 0, .int .i64 0, .int .i64 0, .string ⟨#[]⟩, .string ⟨#[]⟩, .int .i64 0, .int .i64 0, .slice none 0 0, .int .i64 0, .int .i64 0, .int .i64 0, .int .i64 0, .int .i64 0] }
theorem t63_ok : TIok Try.prog 63 t63 := ⟨by kernel_rfl, by kernel_rfl, rfl, rfl⟩
def t43 : TI := { und := .struct [(0, 1), (1, 1), (2, 1), (3, 1)], size := 4, bytes := 40, zero := .agg ([.int .i64 0, .string ⟨#[]⟩, .int .i64 0, .int .i64 0] : List Value).toArray, zs := [.int .i64 0, .string ⟨#[]⟩, .int .i64 0, .int .i64 0] }
theorem t43_ok : TIok Try.prog 43 t43 := ⟨by kernel_rfl, by kernel_rfl, rfl, rfl⟩
def t44 : TI := { und := .struct [(0, 1), (1, 1), (2, 1), (3, 4)], size := 7, bytes := 72, zero := .agg ([.int .i64 0, .int .i64 0, .int .i64 0, .int .i64 0, .string ⟨#[]⟩, .string ⟨#[]⟩, .int .i64 0] : List Value).toArray, zs := [.int .i64 0, .int .i64 0, .int .i64 0, .int .i64 0, .string ⟨#[]⟩, .string ⟨#[]⟩, .int .i64 0] }
theorem t44_ok : TIok Try.prog 44 t44 := ⟨by kernel_rfl, by kernel_rfl, rfl, rfl⟩
def t70 : TI := { und := .struct [(0, 1), (1, 1)], size := 2, bytes := 16, zero := .agg ([.int .i64 0, .int .i64 0] : List Value).toArray, zs := [.int .i64 0, .int .i64 0] }
theorem t70_ok : TIok Try.prog 70 t70 := ⟨by kernel_rfl, by kernel_rfl, rfl, rfl⟩
def t91 : TI := { und := .struct [(0, 1), (1, 1), (2, 1)], size := 3, bytes := 40, zero := .agg ([.slice none 0 0, .int .i64 0, .bool false] : List Value).toArray, zs := [.slice none 0 0, .int .i64 0, .bool false] }
theorem t91_ok : TIok Try.prog 91 t91 := ⟨by kernel_rfl, by kernel_rfl, rfl, rfl⟩
def t111 : TI := { und := .struct [(0, 1), (1, 1)], size := 2, bytes := 16, zero := .agg ([.int .i64 0, .int .i64 0] : List Value).toArray, zs := [.int .i64 0, .int .i64 0] }
theorem t111_ok : TIok Try.prog 111 t111 := ⟨by kernel_rfl, by kernel_rfl, rfl, rfl⟩
def t112 : TI := { und := .struct [(0, 1), (1, 1)], size := 2, bytes := 16, zero := .agg ([.int .i64 0, .int .i64 0] : List Value).toArray, zs := [.int .i64 0, .int .i64 0] }
theorem t112_ok : TIok Try.prog 112 t112 := ⟨by kernel_rfl, by kernel_rfl, rfl, rfl⟩
def t118 : TI := { und := .struct [(0, 0)], size := 0, bytes := 0, zero := .agg ([] : List Value).toArray, zs := [] }
theorem t118_ok : TIok Try.prog 118 t118 := ⟨by kernel_rfl, by kernel_rfl, rfl, rfl⟩
def t120 : TI := { und := .int .u8, size := 1, bytes := 1, zero := .int .u8 0, zs := [.int .u8 0] }
theorem t120_ok : TIok Try.prog 120 t120 := ⟨by kernel_rfl, by kernel_rfl, rfl, rfl⟩
def t123 : TI := { und := .ptr 5, size := 1, bytes := 8, zero := .pointer none, zs := [.pointer none] }
theorem t123_ok : TIok Try.prog 123 t123 := ⟨by kernel_rfl, by kernel_rfl, rfl, rfl⟩
def t74 : TI := { und := .struct [(0, 1), (1, 1), (2, 1), (3, 12), (15, 6)], size := 21, bytes := 168, zero := .agg ([.pointer none, .int .i64 0, .int .i64 0, .int .i64 0, .int .i64 0, .int .i64 0, .int .i64 0, .int .i64 0, .int .i64 0, .int .i64 0, .int .i64 0, .int .i64 0, .int .i64 0, .int .i64 0, .int .i64 0, .int .i64 0, .int .i64 0, .int .i64 0, .int .i64 0, .int .i64 0, .int .i64 0] : List Value).toArray, zs := [.pointer none, .int .i64 0, .int .i64 0, .int .i64 0, .int .i64 0, .int .i64 0, .int .i64 0, .int .i64 0, .int .i64 0, .int .i64 0, .int .i64 0, .int .i64 0, .int .i64 0, .int .i64 0, .int .i64 0, .int .i64 0, .int .i64 0, .int .i64 0, .int .i64 0, .int .i64 0, .int .i64 0] }
theorem t74_ok : TIok Try.prog 74 t74 := ⟨by kernel_rfl, by kernel_rfl, rfl, rfl⟩
def t116 : TI := { und := .array 0 16, size := 0, bytes := 0, zero := .agg ([] : List Value).toArray, zs := [] }
theorem t116_ok : TIok Try.prog 116 t116 := ⟨by kernel_rfl, by kernel_rfl, rfl, rfl⟩
def t117 : TI := { und := .struct [(0, 0)], size := 0, bytes := 0, zero := .agg ([] : List Value).toArray, zs := [] }
theorem t117_ok : TIok Try.prog 117 t117 := ⟨by kernel_rfl, by kernel_rfl, rfl, rfl⟩
def t119 : TI := { und := .int .u32, size := 1, bytes := 4, zero := .int .u32 0, zs := [.int .u32 0] }
theorem t119_ok : TIok Try.prog 119 t119 := ⟨by kernel_rfl, by kernel_rfl, rfl, rfl⟩
def t124 : TI := { und := .int .i32, size := 1, bytes := 4, zero := .int .i32 0, zs := [.int .i32 0] }
theorem t124_ok : TIok Try.prog 124 t124 := ⟨by kernel_rfl, by kernel_rfl, rfl, rfl⟩
def t125 : TI := { und := .int .i32, size := 1, bytes := 4, zero := .int .i32 0, zs := [.int .i32 0] }
theorem t125_ok : TIok Try.prog 125 t125 := ⟨by kernel_rfl, by kernel_rfl, rfl, rfl⟩
def tab : Tab := [(3, t3), (4, t4), (2, t2), (24, t24), (50, t50), (28, t28), (5, t5), (29, t29), (69, t69), (93, t93), (6, t6), (54, t54), (22, t22), (9, t9), (7, t7), (35, t35), (39, t39), (10, t10), (11, t11), (41, t41), (8, t8), (97, t97), (16, t16), (64, t64), (12, t12), (71, t71), (75, t75), (92, t92), (107, t107), (13, t13), (15, t15), (99, t99), (90, t90), (25, t25), (103, t103), (46, t46), (14, t14), (19, t19), (17, t17), (32, t32), (58, t58), (48, t48), (33, t33), (53, t53), (66, t66), (115, t115), (23, t23), (45, t45), (73, t73), (96, t96), (18, t18), (21, t21), (106, t106), (121, t121), (34, t34), (114, t114), (40, t40), (49, t49), (72, t72), (42, t42), (47, t47), (63, t63), (43, t43), (44, t44), (70, t70), (91, t91), (111, t111), (112, t112), (118, t118), (120, t120), (123, t123), (74, t74), (116, t116), (117, t117), (119, t119), (124, t124), (125, t125)]
theorem tabOk : TabOk Try.prog tab := by
  intro p hp
  have key : ∀ (l : Tab), (∀ p ∈ l, TIok Try.prog p.1 p.2) → ∀ k ti, TIok Try.prog k ti → ∀ p ∈ (k, ti) :: l, TIok Try.prog p.1 p.2 := fun l h k ti h1 p hp => by
    rcases List.mem_cons.1 hp with rfl | hp
    · exact h1
    · exact h p hp
  exact key _ (key _ (key _ (key _ (key _ (key _ (key _ (key _ (key _ (key _ (key _ (key _ (key _ (key _ (key _ (key _ (key _ (key _ (key _ (key _ (key _ (key _ (key _ (key _ (key _ (key _ (key _ (key _ (key _ (key _ (key _ (key _ (key _ (key _ (key _ (key _ (key _ (key _ (key _ (key _ (key _ (key _ (key _ (key _ (key _ (key _ (key _ (key _ (key _ (key _ (key _ (key _ (key _ (key _ (key _ (key _ (key _ (key _ (key _ (key _ (key _ (key _ (key _ (key _ (key _ (key _ (key _ (key _ (key _ (key _ (key _ (key _ (key _ (key _ (key _ (key _ (key _ (fun p h => by cases h) _ _ t125_ok) _ _ t124_ok) _ _ t119_ok) _ _ t117_ok) _ _ t116_ok) _ _ t74_ok) _ _ t123_ok) _ _ t120_ok) _ _ t118_ok) _ _ t112_ok) _ _ t111_ok) _ _ t91_ok) _ _ t70_ok) _ _ t44_ok) _ _ t43_ok) _ _ t63_ok) _ _ t47_ok) _ _ t42_ok) _ _ t72_ok) _ _ t49_ok) _ _ t40_ok) _ _ t114_ok) _ _ t34_ok) _ _ t121_ok) _ _ t106_ok) _ _ t21_ok) _ _ t18_ok) _ _ t96_ok) _ _ t73_ok) _ _ t45_ok) _ _ t23_ok) _ _ t115_ok) _ _ t66_ok) _ _ t53_ok) _ _ t33_ok) _ _ t48_ok) _ _ t58_ok) _ _ t32_ok) _ _ t17_ok) _ _ t19_ok) _ _ t14_ok) _ _ t46_ok) _ _ t103_ok) _ _ t25_ok) _ _ t90_ok) _ _ t99_ok) _ _ t15_ok) _ _ t13_ok) _ _ t107_ok) _ _ t92_ok) _ _ t75_ok) _ _ t71_ok) _ _ t12_ok) _ _ t64_ok) _ _ t16_ok) _ _ t97_ok) _ _ t8_ok) _ _ t41_ok) _ _ t11_ok) _ _ t10_ok) _ _ t39_ok) _ _ t35_ok) _ _ t7_ok) _ _ t9_ok) _ _ t22_ok) _ _ t54_ok) _ _ t6_ok) _ _ t93_ok) _ _ t69_ok) _ _ t29_ok) _ _ t5_ok) _ _ t28_ok) _ _ t50_ok) _ _ t24_ok) _ _ t2_ok) _ _ t4_ok) _ _ t3_ok p hp
end Go.Proofs.Ytoinocihlfmnnaa.T
