/- The seat's types as a table, held against the program. Written by a program of the session (mkbase.py). -/
import Derived.Test.YtgeeklnokblokaaProg
import Derived.Test.YtgeeklnokblokaaFw33
import Derived.KernelRfl
namespace Go.Proofs.Ytgeeklnokblokaa
open Go Go.Fw

/-- The types that the functions use. -/
def T : Nat → Option TD
  | 2 => some ⟨1, 8, [.int .i64 0], .int .i64⟩
  | 3 => some ⟨1, 8, [.int .i64 0], .int .i64⟩
  | 4 => some ⟨1, 1, [.bool false], .bool⟩
  | 5 => some ⟨1, 1, [.int .u8 0], .int .u8⟩
  | 6 => some ⟨1, 1, [.int .u8 0], .int .u8⟩
  | 7 => some ⟨4, 24, [.int .i64 0, .int .i64 0, .bool false, .int .u8 0], .struct [(0, 2), (1, 3), (2, 4), (3, 6)]⟩
  | 8 => some ⟨4, 24, [.int .i64 0, .int .i64 0, .bool false, .int .u8 0], .struct [(0, 2), (1, 3), (2, 4), (3, 6)]⟩
  | 9 => some ⟨1, 16, [.string ⟨#[]⟩], .str⟩
  | 10 => some ⟨1, 16, [.string ⟨#[]⟩], .str⟩
  | 11 => some ⟨1, 16, [.string ⟨#[]⟩], .str⟩
  | 12 => some ⟨1, 8, [.int .u64 0], .int .u64⟩
  | 13 => some ⟨2, 24, [.string ⟨#[]⟩, .int .u64 0], .struct [(0, 9), (1, 12)]⟩
  | 14 => some ⟨2, 24, [.string ⟨#[]⟩, .int .u64 0], .struct [(0, 9), (1, 12)]⟩
  | 15 => some ⟨1, 8, [.pointer none], .ptr⟩
  | 16 => some ⟨1, 8, [.pointer none], .ptr⟩
  | 17 => some ⟨1, 8, [.pointer none], .ptr⟩
  | 18 => some ⟨1, 8, [.pointer none], .struct [(0, 17)]⟩
  | 19 => some ⟨1, 8, [.pointer none], .struct [(0, 17)]⟩
  | 21 => some ⟨1, 4, [.int .i32 0], .int .i32⟩
  | 22 => some ⟨1, 24, [.slice none 0 0], .slice 9⟩
  | 23 => some ⟨1, 24, [.slice none 0 0], .slice 50⟩
  | 24 => some ⟨1, 24, [.slice none 0 0], .slice 29⟩
  | 25 => some ⟨3, 72, [.slice none 0 0, .slice none 0 0, .slice none 0 0], .struct [(0, 22), (1, 23), (2, 24)]⟩
  | 26 => some ⟨3, 72, [.slice none 0 0, .slice none 0 0, .slice none 0 0], .struct [(0, 22), (1, 23), (2, 24)]⟩
  | 29 => some ⟨1, 24, [.slice none 0 0], .slice 3⟩
  | 30 => some ⟨1, 8, [.int .i64 0], .int .i64⟩
  | 35 => some ⟨1, 24, [.slice none 0 0], .slice 55⟩
  | 40 => some ⟨2, 48, [.slice none 0 0, .slice none 0 0], .struct [(0, 22), (1, 23)]⟩
  | 41 => some ⟨2, 48, [.slice none 0 0, .slice none 0 0], .struct [(0, 22), (1, 23)]⟩
  | 49 => some ⟨3, 32, [.string ⟨#[]⟩, .int .i64 0, .bool false], .struct [(0, 9), (1, 3), (2, 4)]⟩
  | 50 => some ⟨3, 32, [.string ⟨#[]⟩, .int .i64 0, .bool false], .struct [(0, 9), (1, 3), (2, 4)]⟩
  | 54 => some ⟨1, 24, [.slice none 0 0], .slice 4⟩
  | 55 => some ⟨2, 16, [.int .i64 0, .int .i64 0], .array 2 3⟩
  | 63 => some ⟨1, 24, [.slice none 0 0], .slice 3⟩
  | 85 => some ⟨1, 8, [.pointer none], .ptr⟩
  | 86 => some ⟨7, 168, [.slice none 0 0, .slice none 0 0, .slice none 0 0, .slice none 0 0, .slice none 0 0, .slice none 0 0, .slice none 0 0], .struct [(0, 26), (3, 54), (4, 54), (5, 29), (6, 54)]⟩
  | 87 => some ⟨7, 168, [.slice none 0 0, .slice none 0 0, .slice none 0 0, .slice none 0 0, .slice none 0 0, .slice none 0 0, .slice none 0 0], .struct [(0, 26), (3, 54), (4, 54), (5, 29), (6, 54)]⟩
  | 92 => some ⟨1, 8, [.nilFunc], .func⟩
  | 99 => some ⟨1, 8, [.int .u64 0], .int .u64⟩
  | 103 => some ⟨1, 4, [.int .u32 0], .int .u32⟩
  | 106 => some ⟨1, 8, [.int .u64 0], .int .u64⟩
  | 113 => some ⟨4, 40, [.pointer none, .pointer none, .pointer none, .string ⟨#[]⟩], .struct [(0, 17), (1, 17), (2, 17), (3, 9)]⟩
  | 114 => some ⟨4, 40, [.pointer none, .pointer none, .pointer none, .string ⟨#[]⟩], .struct [(0, 17), (1, 17), (2, 17), (3, 9)]⟩
  | 119 => some ⟨1, 1, [.int .u8 0], .int .u8⟩
  | 120 => some ⟨1, 1, [.int .u8 0], .int .u8⟩
  | 122 => some ⟨1, 8, [.pointer none], .ptr⟩
  | 123 => some ⟨1, 4, [.int .i32 0], .int .i32⟩
  | 124 => some ⟨1, 4, [.int .i32 0], .int .i32⟩
  | 125 => some ⟨11, 48, [.int .u64 0, .int .u64 0, .int .u32 0, .int .u8 0, .int .u8 0, .int .u8 0, .int .u8 0, .nilFunc, .pointer none, .int .i32 0, .int .i32 0], .struct [(0, 12), (1, 12), (2, 103), (3, 119), (4, 5), (5, 5), (6, 120), (7, 121), (8, 122), (9, 123), (10, 124)]⟩
  | 126 => some ⟨11, 48, [.int .u64 0, .int .u64 0, .int .u32 0, .int .u8 0, .int .u8 0, .int .u8 0, .int .u8 0, .nilFunc, .pointer none, .int .i32 0, .int .i32 0], .struct [(0, 12), (1, 12), (2, 103), (3, 119), (4, 5), (5, 5), (6, 120), (7, 121), (8, 122), (9, 123), (10, 124)]⟩
  | _ => none

theorem T_2 : tdOf Try.prog 2 = some ⟨1, 8, [.int .i64 0], .int .i64⟩ := by kernel_rfl
theorem T_3 : tdOf Try.prog 3 = some ⟨1, 8, [.int .i64 0], .int .i64⟩ := by kernel_rfl
theorem T_4 : tdOf Try.prog 4 = some ⟨1, 1, [.bool false], .bool⟩ := by kernel_rfl
theorem T_5 : tdOf Try.prog 5 = some ⟨1, 1, [.int .u8 0], .int .u8⟩ := by kernel_rfl
theorem T_6 : tdOf Try.prog 6 = some ⟨1, 1, [.int .u8 0], .int .u8⟩ := by kernel_rfl
theorem T_7 : tdOf Try.prog 7 = some ⟨4, 24, [.int .i64 0, .int .i64 0, .bool false, .int .u8 0], .struct [(0, 2), (1, 3), (2, 4), (3, 6)]⟩ := by kernel_rfl
theorem T_8 : tdOf Try.prog 8 = some ⟨4, 24, [.int .i64 0, .int .i64 0, .bool false, .int .u8 0], .struct [(0, 2), (1, 3), (2, 4), (3, 6)]⟩ := by kernel_rfl
theorem T_9 : tdOf Try.prog 9 = some ⟨1, 16, [.string ⟨#[]⟩], .str⟩ := by kernel_rfl
theorem T_10 : tdOf Try.prog 10 = some ⟨1, 16, [.string ⟨#[]⟩], .str⟩ := by kernel_rfl
theorem T_11 : tdOf Try.prog 11 = some ⟨1, 16, [.string ⟨#[]⟩], .str⟩ := by kernel_rfl
theorem T_12 : tdOf Try.prog 12 = some ⟨1, 8, [.int .u64 0], .int .u64⟩ := by kernel_rfl
theorem T_13 : tdOf Try.prog 13 = some ⟨2, 24, [.string ⟨#[]⟩, .int .u64 0], .struct [(0, 9), (1, 12)]⟩ := by kernel_rfl
theorem T_14 : tdOf Try.prog 14 = some ⟨2, 24, [.string ⟨#[]⟩, .int .u64 0], .struct [(0, 9), (1, 12)]⟩ := by kernel_rfl
theorem T_15 : tdOf Try.prog 15 = some ⟨1, 8, [.pointer none], .ptr⟩ := by kernel_rfl
theorem T_16 : tdOf Try.prog 16 = some ⟨1, 8, [.pointer none], .ptr⟩ := by kernel_rfl
theorem T_17 : tdOf Try.prog 17 = some ⟨1, 8, [.pointer none], .ptr⟩ := by kernel_rfl
theorem T_18 : tdOf Try.prog 18 = some ⟨1, 8, [.pointer none], .struct [(0, 17)]⟩ := by kernel_rfl
theorem T_19 : tdOf Try.prog 19 = some ⟨1, 8, [.pointer none], .struct [(0, 17)]⟩ := by kernel_rfl
theorem T_21 : tdOf Try.prog 21 = some ⟨1, 4, [.int .i32 0], .int .i32⟩ := by kernel_rfl
theorem T_22 : tdOf Try.prog 22 = some ⟨1, 24, [.slice none 0 0], .slice 9⟩ := by kernel_rfl
theorem T_23 : tdOf Try.prog 23 = some ⟨1, 24, [.slice none 0 0], .slice 50⟩ := by kernel_rfl
theorem T_24 : tdOf Try.prog 24 = some ⟨1, 24, [.slice none 0 0], .slice 29⟩ := by kernel_rfl
theorem T_25 : tdOf Try.prog 25 = some ⟨3, 72, [.slice none 0 0, .slice none 0 0, .slice none 0 0], .struct [(0, 22), (1, 23), (2, 24)]⟩ := by kernel_rfl
theorem T_26 : tdOf Try.prog 26 = some ⟨3, 72, [.slice none 0 0, .slice none 0 0, .slice none 0 0], .struct [(0, 22), (1, 23), (2, 24)]⟩ := by kernel_rfl
theorem T_29 : tdOf Try.prog 29 = some ⟨1, 24, [.slice none 0 0], .slice 3⟩ := by kernel_rfl
theorem T_30 : tdOf Try.prog 30 = some ⟨1, 8, [.int .i64 0], .int .i64⟩ := by kernel_rfl
theorem T_35 : tdOf Try.prog 35 = some ⟨1, 24, [.slice none 0 0], .slice 55⟩ := by kernel_rfl
theorem T_40 : tdOf Try.prog 40 = some ⟨2, 48, [.slice none 0 0, .slice none 0 0], .struct [(0, 22), (1, 23)]⟩ := by kernel_rfl
theorem T_41 : tdOf Try.prog 41 = some ⟨2, 48, [.slice none 0 0, .slice none 0 0], .struct [(0, 22), (1, 23)]⟩ := by kernel_rfl
theorem T_49 : tdOf Try.prog 49 = some ⟨3, 32, [.string ⟨#[]⟩, .int .i64 0, .bool false], .struct [(0, 9), (1, 3), (2, 4)]⟩ := by kernel_rfl
theorem T_50 : tdOf Try.prog 50 = some ⟨3, 32, [.string ⟨#[]⟩, .int .i64 0, .bool false], .struct [(0, 9), (1, 3), (2, 4)]⟩ := by kernel_rfl
theorem T_54 : tdOf Try.prog 54 = some ⟨1, 24, [.slice none 0 0], .slice 4⟩ := by kernel_rfl
theorem T_55 : tdOf Try.prog 55 = some ⟨2, 16, [.int .i64 0, .int .i64 0], .array 2 3⟩ := by kernel_rfl
theorem T_63 : tdOf Try.prog 63 = some ⟨1, 24, [.slice none 0 0], .slice 3⟩ := by kernel_rfl
theorem T_85 : tdOf Try.prog 85 = some ⟨1, 8, [.pointer none], .ptr⟩ := by kernel_rfl
theorem T_86 : tdOf Try.prog 86 = some ⟨7, 168, [.slice none 0 0, .slice none 0 0, .slice none 0 0, .slice none 0 0, .slice none 0 0, .slice none 0 0, .slice none 0 0], .struct [(0, 26), (3, 54), (4, 54), (5, 29), (6, 54)]⟩ := by kernel_rfl
theorem T_87 : tdOf Try.prog 87 = some ⟨7, 168, [.slice none 0 0, .slice none 0 0, .slice none 0 0, .slice none 0 0, .slice none 0 0, .slice none 0 0, .slice none 0 0], .struct [(0, 26), (3, 54), (4, 54), (5, 29), (6, 54)]⟩ := by kernel_rfl
theorem T_92 : tdOf Try.prog 92 = some ⟨1, 8, [.nilFunc], .func⟩ := by kernel_rfl
theorem T_99 : tdOf Try.prog 99 = some ⟨1, 8, [.int .u64 0], .int .u64⟩ := by kernel_rfl
theorem T_103 : tdOf Try.prog 103 = some ⟨1, 4, [.int .u32 0], .int .u32⟩ := by kernel_rfl
theorem T_106 : tdOf Try.prog 106 = some ⟨1, 8, [.int .u64 0], .int .u64⟩ := by kernel_rfl
theorem T_113 : tdOf Try.prog 113 = some ⟨4, 40, [.pointer none, .pointer none, .pointer none, .string ⟨#[]⟩], .struct [(0, 17), (1, 17), (2, 17), (3, 9)]⟩ := by kernel_rfl
theorem T_114 : tdOf Try.prog 114 = some ⟨4, 40, [.pointer none, .pointer none, .pointer none, .string ⟨#[]⟩], .struct [(0, 17), (1, 17), (2, 17), (3, 9)]⟩ := by kernel_rfl
theorem T_119 : tdOf Try.prog 119 = some ⟨1, 1, [.int .u8 0], .int .u8⟩ := by kernel_rfl
theorem T_120 : tdOf Try.prog 120 = some ⟨1, 1, [.int .u8 0], .int .u8⟩ := by kernel_rfl
theorem T_122 : tdOf Try.prog 122 = some ⟨1, 8, [.pointer none], .ptr⟩ := by kernel_rfl
theorem T_123 : tdOf Try.prog 123 = some ⟨1, 4, [.int .i32 0], .int .i32⟩ := by kernel_rfl
theorem T_124 : tdOf Try.prog 124 = some ⟨1, 4, [.int .i32 0], .int .i32⟩ := by kernel_rfl
theorem T_125 : tdOf Try.prog 125 = some ⟨11, 48, [.int .u64 0, .int .u64 0, .int .u32 0, .int .u8 0, .int .u8 0, .int .u8 0, .int .u8 0, .nilFunc, .pointer none, .int .i32 0, .int .i32 0], .struct [(0, 12), (1, 12), (2, 103), (3, 119), (4, 5), (5, 5), (6, 120), (7, 121), (8, 122), (9, 123), (10, 124)]⟩ := by kernel_rfl
theorem T_126 : tdOf Try.prog 126 = some ⟨11, 48, [.int .u64 0, .int .u64 0, .int .u32 0, .int .u8 0, .int .u8 0, .int .u8 0, .int .u8 0, .nilFunc, .pointer none, .int .i32 0, .int .i32 0], .struct [(0, 12), (1, 12), (2, 103), (3, 119), (4, 5), (5, 5), (6, 120), (7, 121), (8, 122), (9, 123), (10, 124)]⟩ := by kernel_rfl
set_option maxRecDepth 100000 in
theorem T_ok : TOk Try.prog T := by
  intro t d h
  unfold T at h
  split at h <;> first | (cases h; done) | (cases h; first | exact T_2 | exact T_3 | exact T_4 | exact T_5 | exact T_6 | exact T_7 | exact T_8 | exact T_9 | exact T_10 | exact T_11 | exact T_12 | exact T_13 | exact T_14 | exact T_15 | exact T_16 | exact T_17 | exact T_18 | exact T_19 | exact T_21 | exact T_22 | exact T_23 | exact T_24 | exact T_25 | exact T_26 | exact T_29 | exact T_30 | exact T_35 | exact T_40 | exact T_41 | exact T_49 | exact T_50 | exact T_54 | exact T_55 | exact T_63 | exact T_85 | exact T_86 | exact T_87 | exact T_92 | exact T_99 | exact T_103 | exact T_106 | exact T_113 | exact T_114 | exact T_119 | exact T_120 | exact T_122 | exact T_123 | exact T_124 | exact T_125 | exact T_126)

noncomputable def E (base : Nat) : En := ⟨Try.prog, T, base⟩
theorem D_ok (b : Nat) : DOk (E b) (DH (E b)) := DH_ok T_ok (by rfl)
theorem c2 : Callable Try.prog 2 := ⟨_, Try.func2, by kernel_rfl, by kernel_rfl⟩
theorem c3 : Callable Try.prog 3 := ⟨_, Try.func3, by kernel_rfl, by kernel_rfl⟩
theorem c4 : Callable Try.prog 4 := ⟨_, Try.func4, by kernel_rfl, by kernel_rfl⟩
theorem c5 : Callable Try.prog 5 := ⟨_, Try.func5, by kernel_rfl, by kernel_rfl⟩
theorem c6 : Callable Try.prog 6 := ⟨_, Try.func6, by kernel_rfl, by kernel_rfl⟩
theorem c7 : Callable Try.prog 7 := ⟨_, Try.func7, by kernel_rfl, by kernel_rfl⟩
theorem c8 : Callable Try.prog 8 := ⟨_, Try.func8, by kernel_rfl, by kernel_rfl⟩
theorem c9 : Callable Try.prog 9 := ⟨_, Try.func9, by kernel_rfl, by kernel_rfl⟩
theorem c10 : Callable Try.prog 10 := ⟨_, Try.func10, by kernel_rfl, by kernel_rfl⟩
theorem c11 : Callable Try.prog 11 := ⟨_, Try.func11, by kernel_rfl, by kernel_rfl⟩
theorem c12 : Callable Try.prog 12 := ⟨_, Try.func12, by kernel_rfl, by kernel_rfl⟩
theorem c13 : Callable Try.prog 13 := ⟨_, Try.func13, by kernel_rfl, by kernel_rfl⟩
theorem c14 : Callable Try.prog 14 := ⟨_, Try.func14, by kernel_rfl, by kernel_rfl⟩
theorem c15 : Callable Try.prog 15 := ⟨_, Try.func15, by kernel_rfl, by kernel_rfl⟩
theorem c16 : Callable Try.prog 16 := ⟨_, Try.func16, by kernel_rfl, by kernel_rfl⟩
theorem c17 : Callable Try.prog 17 := ⟨_, Try.func17, by kernel_rfl, by kernel_rfl⟩
theorem c18 : Callable Try.prog 18 := ⟨_, Try.func18, by kernel_rfl, by kernel_rfl⟩
theorem c19 : Callable Try.prog 19 := ⟨_, Try.func19, by kernel_rfl, by kernel_rfl⟩
theorem c20 : Callable Try.prog 20 := ⟨_, Try.func20, by kernel_rfl, by kernel_rfl⟩
theorem c21 : Callable Try.prog 21 := ⟨_, Try.func21, by kernel_rfl, by kernel_rfl⟩
theorem c22 : Callable Try.prog 22 := ⟨_, Try.func22, by kernel_rfl, by kernel_rfl⟩
theorem c23 : Callable Try.prog 23 := ⟨_, Try.func23, by kernel_rfl, by kernel_rfl⟩
theorem c24 : Callable Try.prog 24 := ⟨_, Try.func24, by kernel_rfl, by kernel_rfl⟩
theorem c25 : Callable Try.prog 25 := ⟨_, Try.func25, by kernel_rfl, by kernel_rfl⟩
theorem c26 : Callable Try.prog 26 := ⟨_, Try.func26, by kernel_rfl, by kernel_rfl⟩
theorem c27 : Callable Try.prog 27 := ⟨_, Try.func27, by kernel_rfl, by kernel_rfl⟩
theorem c28 : Callable Try.prog 28 := ⟨_, Try.func28, by kernel_rfl, by kernel_rfl⟩
theorem c29 : Callable Try.prog 29 := ⟨_, Try.func29, by kernel_rfl, by kernel_rfl⟩
theorem c30 : Callable Try.prog 30 := ⟨_, Try.func30, by kernel_rfl, by kernel_rfl⟩
theorem c31 : Callable Try.prog 31 := ⟨_, Try.func31, by kernel_rfl, by kernel_rfl⟩
theorem c32 : Callable Try.prog 32 := ⟨_, Try.func32, by kernel_rfl, by kernel_rfl⟩
theorem c33 : Callable Try.prog 33 := ⟨_, Try.func33, by kernel_rfl, by kernel_rfl⟩
theorem c34 : Callable Try.prog 34 := ⟨_, Try.func34, by kernel_rfl, by kernel_rfl⟩
theorem c35 : Callable Try.prog 35 := ⟨_, Try.func35, by kernel_rfl, by kernel_rfl⟩
theorem c36 : Callable Try.prog 36 := ⟨_, Try.func36, by kernel_rfl, by kernel_rfl⟩
theorem c37 : Callable Try.prog 37 := ⟨_, Try.func37, by kernel_rfl, by kernel_rfl⟩
theorem c38 : Callable Try.prog 38 := ⟨_, Try.func38, by kernel_rfl, by kernel_rfl⟩
theorem c39 : Callable Try.prog 39 := ⟨_, Try.func39, by kernel_rfl, by kernel_rfl⟩
theorem c40 : Callable Try.prog 40 := ⟨_, Try.func40, by kernel_rfl, by kernel_rfl⟩
theorem c41 : Callable Try.prog 41 := ⟨_, Try.func41, by kernel_rfl, by kernel_rfl⟩
theorem c42 : Callable Try.prog 42 := ⟨_, Try.func42, by kernel_rfl, by kernel_rfl⟩
theorem c43 : Callable Try.prog 43 := ⟨_, Try.func43, by kernel_rfl, by kernel_rfl⟩
theorem c44 : Callable Try.prog 44 := ⟨_, Try.func44, by kernel_rfl, by kernel_rfl⟩
theorem c45 : Callable Try.prog 45 := ⟨_, Try.func45, by kernel_rfl, by kernel_rfl⟩
theorem c46 : Callable Try.prog 46 := ⟨_, Try.func46, by kernel_rfl, by kernel_rfl⟩
theorem c47 : Callable Try.prog 47 := ⟨_, Try.func47, by kernel_rfl, by kernel_rfl⟩
theorem c48 : Callable Try.prog 48 := ⟨_, Try.func48, by kernel_rfl, by kernel_rfl⟩
theorem c49 : Callable Try.prog 49 := ⟨_, Try.func49, by kernel_rfl, by kernel_rfl⟩
theorem c50 : Callable Try.prog 50 := ⟨_, Try.func50, by kernel_rfl, by kernel_rfl⟩
theorem c51 : Callable Try.prog 51 := ⟨_, Try.func51, by kernel_rfl, by kernel_rfl⟩
theorem c52 : Callable Try.prog 52 := ⟨_, Try.func52, by kernel_rfl, by kernel_rfl⟩
theorem c53 : Callable Try.prog 53 := ⟨_, Try.func53, by kernel_rfl, by kernel_rfl⟩
theorem c54 : Callable Try.prog 54 := ⟨_, Try.func54, by kernel_rfl, by kernel_rfl⟩
theorem c55 : Callable Try.prog 55 := ⟨_, Try.func55, by kernel_rfl, by kernel_rfl⟩
theorem c56 : Callable Try.prog 56 := ⟨_, Try.func56, by kernel_rfl, by kernel_rfl⟩
theorem c57 : Callable Try.prog 57 := ⟨_, Try.func57, by kernel_rfl, by kernel_rfl⟩
theorem c58 : Callable Try.prog 58 := ⟨_, Try.func58, by kernel_rfl, by kernel_rfl⟩
theorem c59 : Callable Try.prog 59 := ⟨_, Try.func59, by kernel_rfl, by kernel_rfl⟩
theorem c60 : Callable Try.prog 60 := ⟨_, Try.func60, by kernel_rfl, by kernel_rfl⟩
theorem c61 : Callable Try.prog 61 := ⟨_, Try.func61, by kernel_rfl, by kernel_rfl⟩
theorem c62 : Callable Try.prog 62 := ⟨_, Try.func62, by kernel_rfl, by kernel_rfl⟩
theorem c63 : Callable Try.prog 63 := ⟨_, Try.func63, by kernel_rfl, by kernel_rfl⟩
theorem c64 : Callable Try.prog 64 := ⟨_, Try.func64, by kernel_rfl, by kernel_rfl⟩
theorem c65 : Callable Try.prog 65 := ⟨_, Try.func65, by kernel_rfl, by kernel_rfl⟩
theorem c66 : Callable Try.prog 66 := ⟨_, Try.func66, by kernel_rfl, by kernel_rfl⟩
theorem c67 : Callable Try.prog 67 := ⟨_, Try.func67, by kernel_rfl, by kernel_rfl⟩
theorem c68 : Callable Try.prog 68 := ⟨_, Try.func68, by kernel_rfl, by kernel_rfl⟩
theorem c69 : Callable Try.prog 69 := ⟨_, Try.func69, by kernel_rfl, by kernel_rfl⟩
theorem c70 : Callable Try.prog 70 := ⟨_, Try.func70, by kernel_rfl, by kernel_rfl⟩
theorem c71 : Callable Try.prog 71 := ⟨_, Try.func71, by kernel_rfl, by kernel_rfl⟩
theorem c72 : Callable Try.prog 72 := ⟨_, Try.func72, by kernel_rfl, by kernel_rfl⟩
theorem c73 : Callable Try.prog 73 := ⟨_, Try.func73, by kernel_rfl, by kernel_rfl⟩
theorem c74 : Callable Try.prog 74 := ⟨_, Try.func74, by kernel_rfl, by kernel_rfl⟩
theorem c75 : Callable Try.prog 75 := ⟨_, Try.func75, by kernel_rfl, by kernel_rfl⟩
theorem c76 : Callable Try.prog 76 := ⟨_, Try.func76, by kernel_rfl, by kernel_rfl⟩
theorem c77 : Callable Try.prog 77 := ⟨_, Try.func77, by kernel_rfl, by kernel_rfl⟩
theorem c78 : Callable Try.prog 78 := ⟨_, Try.func78, by kernel_rfl, by kernel_rfl⟩
theorem c79 : Callable Try.prog 79 := ⟨_, Try.func79, by kernel_rfl, by kernel_rfl⟩
theorem c80 : Callable Try.prog 80 := ⟨_, Try.func80, by kernel_rfl, by kernel_rfl⟩
theorem c81 : Callable Try.prog 81 := ⟨_, Try.func81, by kernel_rfl, by kernel_rfl⟩
theorem c82 : Callable Try.prog 82 := ⟨_, Try.func82, by kernel_rfl, by kernel_rfl⟩
theorem c83 : Callable Try.prog 83 := ⟨_, Try.func83, by kernel_rfl, by kernel_rfl⟩
theorem c84 : Callable Try.prog 84 := ⟨_, Try.func84, by kernel_rfl, by kernel_rfl⟩
theorem c85 : Callable Try.prog 85 := ⟨_, Try.func85, by kernel_rfl, by kernel_rfl⟩
theorem c86 : Callable Try.prog 86 := ⟨_, Try.func86, by kernel_rfl, by kernel_rfl⟩
theorem c87 : Callable Try.prog 87 := ⟨_, Try.func87, by kernel_rfl, by kernel_rfl⟩
theorem c88 : Callable Try.prog 88 := ⟨_, Try.func88, by kernel_rfl, by kernel_rfl⟩
theorem c89 : Callable Try.prog 89 := ⟨_, Try.func89, by kernel_rfl, by kernel_rfl⟩
theorem c90 : Callable Try.prog 90 := ⟨_, Try.func90, by kernel_rfl, by kernel_rfl⟩
theorem c91 : Callable Try.prog 91 := ⟨_, Try.func91, by kernel_rfl, by kernel_rfl⟩
theorem c94 : Callable Try.prog 94 := ⟨_, Try.func94, by kernel_rfl, by kernel_rfl⟩
end Go.Proofs.Ytgeeklnokblokaa
