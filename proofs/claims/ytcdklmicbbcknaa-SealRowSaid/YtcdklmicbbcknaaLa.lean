/-
  lane.Quarter, lane.back, the reference's Quarter, math/bits.RotateLeft32 and the reference's left: what they come to, by walks of their text.
-/
import Derived.Test.YtcdklmicbbcknaaProg
import Derived.Test.YtcdklmicbbcknaaPa
import Derived.WalkKit
import Derived.WalkSpells
import Derived.WalkLawsBesides
namespace Go.Proofs.Ytcdklmicbbcknaa
open Go.RowKit
attribute [local go_sem] W_add W_sub bits_xor_W bits_or_W

theorem rot_16_and : bits BinOp.and IntKind.u64 16 31 = 16 := by decide +kernel
theorem rot_16 (x : BitVec 32) (w : World) : Calls Try.prog 65 #[.int .u32 (W x), .int .i64 16] w fun e w' => e = .returned (.int .u32 (W (rotl 16 x))) ∧ w = w' := by
  have h0 := W_lo x
  have h1 := W_hi x
  have h16 := rot_16_and
  go_enter Try.func65, Try.ntmps65
  go_wp2
  go_ret
  exact ⟨by rw [← rot_W x 16 65536 65536 rfl rfl]; rfl, rfl⟩

theorem rot_12_and : bits BinOp.and IntKind.u64 12 31 = 12 := by decide +kernel
theorem rot_12 (x : BitVec 32) (w : World) : Calls Try.prog 65 #[.int .u32 (W x), .int .i64 12] w fun e w' => e = .returned (.int .u32 (W (rotl 12 x))) ∧ w = w' := by
  have h0 := W_lo x
  have h1 := W_hi x
  have h16 := rot_12_and
  go_enter Try.func65, Try.ntmps65
  go_wp2
  go_ret
  exact ⟨by rw [← rot_W x 12 4096 1048576 rfl rfl]; rfl, rfl⟩

theorem rot_8_and : bits BinOp.and IntKind.u64 8 31 = 8 := by decide +kernel
theorem rot_8 (x : BitVec 32) (w : World) : Calls Try.prog 65 #[.int .u32 (W x), .int .i64 8] w fun e w' => e = .returned (.int .u32 (W (rotl 8 x))) ∧ w = w' := by
  have h0 := W_lo x
  have h1 := W_hi x
  have h16 := rot_8_and
  go_enter Try.func65, Try.ntmps65
  go_wp2
  go_ret
  exact ⟨by rw [← rot_W x 8 256 16777216 rfl rfl]; rfl, rfl⟩

theorem rot_7_and : bits BinOp.and IntKind.u64 7 31 = 7 := by decide +kernel
theorem rot_7 (x : BitVec 32) (w : World) : Calls Try.prog 65 #[.int .u32 (W x), .int .i64 7] w fun e w' => e = .returned (.int .u32 (W (rotl 7 x))) ∧ w = w' := by
  have h0 := W_lo x
  have h1 := W_hi x
  have h16 := rot_7_and
  go_enter Try.func65, Try.ntmps65
  go_wp2
  go_ret
  exact ⟨by rw [← rot_W x 7 128 33554432 rfl rfl]; rfl, rfl⟩

theorem rot_m7_and : bits BinOp.and IntKind.u64 (IntKind.u64.wrap (-7)) 31 = 25 := by decide +kernel
theorem rot_m7 (x : BitVec 32) (w : World) : Calls Try.prog 65 #[.int .u32 (W x), .int .i64 (-7)] w fun e w' => e = .returned (.int .u32 (W (rotl 25 x))) ∧ w = w' := by
  have h0 := W_lo x
  have h1 := W_hi x
  have h16 := rot_m7_and
  go_enter Try.func65, Try.ntmps65
  go_wp2
  go_ret
  exact ⟨by rw [← rot_W x 25 33554432 128 rfl rfl]; rfl, rfl⟩

theorem rot_m8_and : bits BinOp.and IntKind.u64 (IntKind.u64.wrap (-8)) 31 = 24 := by decide +kernel
theorem rot_m8 (x : BitVec 32) (w : World) : Calls Try.prog 65 #[.int .u32 (W x), .int .i64 (-8)] w fun e w' => e = .returned (.int .u32 (W (rotl 24 x))) ∧ w = w' := by
  have h0 := W_lo x
  have h1 := W_hi x
  have h16 := rot_m8_and
  go_enter Try.func65, Try.ntmps65
  go_wp2
  go_ret
  exact ⟨by rw [← rot_W x 24 16777216 256 rfl rfl]; rfl, rfl⟩

theorem rot_m12_and : bits BinOp.and IntKind.u64 (IntKind.u64.wrap (-12)) 31 = 20 := by decide +kernel
theorem rot_m12 (x : BitVec 32) (w : World) : Calls Try.prog 65 #[.int .u32 (W x), .int .i64 (-12)] w fun e w' => e = .returned (.int .u32 (W (rotl 20 x))) ∧ w = w' := by
  have h0 := W_lo x
  have h1 := W_hi x
  have h16 := rot_m12_and
  go_enter Try.func65, Try.ntmps65
  go_wp2
  go_ret
  exact ⟨by rw [← rot_W x 20 1048576 4096 rfl rfl]; rfl, rfl⟩

theorem rot_m16_and : bits BinOp.and IntKind.u64 (IntKind.u64.wrap (-16)) 31 = 16 := by decide +kernel
theorem rot_m16 (x : BitVec 32) (w : World) : Calls Try.prog 65 #[.int .u32 (W x), .int .i64 (-16)] w fun e w' => e = .returned (.int .u32 (W (rotl 16 x))) ∧ w = w' := by
  have h0 := W_lo x
  have h1 := W_hi x
  have h16 := rot_m16_and
  go_enter Try.func65, Try.ntmps65
  go_wp2
  go_ret
  exact ⟨by rw [← rot_W x 16 65536 65536 rfl rfl]; rfl, rfl⟩

theorem left_16 (x : BitVec 32) (w : World) : Calls Try.prog 66 #[.int .u32 (W x), .int .u64 16] w fun e w' => e = .returned (.int .u32 (W (rotl 16 x))) ∧ w = w' := by
  have h0 := W_lo x
  have h1 := W_hi x
  go_enter Try.func66, Try.ntmps66
  go_wp2
  go_ret
  exact ⟨by rw [← rot_W x 16 65536 65536 rfl rfl]; rfl, rfl⟩

theorem left_12 (x : BitVec 32) (w : World) : Calls Try.prog 66 #[.int .u32 (W x), .int .u64 12] w fun e w' => e = .returned (.int .u32 (W (rotl 12 x))) ∧ w = w' := by
  have h0 := W_lo x
  have h1 := W_hi x
  go_enter Try.func66, Try.ntmps66
  go_wp2
  go_ret
  exact ⟨by rw [← rot_W x 12 4096 1048576 rfl rfl]; rfl, rfl⟩

theorem left_8 (x : BitVec 32) (w : World) : Calls Try.prog 66 #[.int .u32 (W x), .int .u64 8] w fun e w' => e = .returned (.int .u32 (W (rotl 8 x))) ∧ w = w' := by
  have h0 := W_lo x
  have h1 := W_hi x
  go_enter Try.func66, Try.ntmps66
  go_wp2
  go_ret
  exact ⟨by rw [← rot_W x 8 256 16777216 rfl rfl]; rfl, rfl⟩

theorem left_7 (x : BitVec 32) (w : World) : Calls Try.prog 66 #[.int .u32 (W x), .int .u64 7] w fun e w' => e = .returned (.int .u32 (W (rotl 7 x))) ∧ w = w' := by
  have h0 := W_lo x
  have h1 := W_hi x
  go_enter Try.func66, Try.ntmps66
  go_wp2
  go_ret
  exact ⟨by rw [← rot_W x 7 128 33554432 rfl rfl]; rfl, rfl⟩

set_option maxHeartbeats 1000000 in
theorem quarter_any (a b c d : BitVec 32) (w : World) : Calls Try.prog 42 #[.int .u32 (W a), .int .u32 (W b), .int .u32 (W c), .int .u32 (W d)] w fun e w' =>
    e = .returned (.tuple #[.int .u32 (W (qtr a b c d).a), .int .u32 (W (qtr a b c d).b), .int .u32 (W (qtr a b c d).c), .int .u32 (W (qtr a b c d).d)]) ∧ w = w' := by
  go_enter Try.func42, Try.ntmps42
  go_wp2_with fail
  refine (rot_16 _ _).mono ?_
  rintro e w' ⟨rfl, rfl⟩
  go_wp2_with fail
  refine (rot_12 _ _).mono ?_
  rintro e w' ⟨rfl, rfl⟩
  go_wp2_with fail
  refine (rot_8 _ _).mono ?_
  rintro e w' ⟨rfl, rfl⟩
  go_wp2_with fail
  refine (rot_7 _ _).mono ?_
  rintro e w' ⟨rfl, rfl⟩
  go_wp2_with fail
  refine bodyPost_ret (v := .tuple #[.int .u32 (W (qtr a b c d).a), .int .u32 (W (qtr a b c d).b), .int .u32 (W (qtr a b c d).c), .int .u32 (W (qtr a b c d).d)]) (by simp [results, Try.results42, go_sem]; exact ⟨rfl, rfl, rfl, rfl⟩) rfl ⟨rfl, rfl⟩

set_option maxHeartbeats 1000000 in
theorem rquarter_any (a b c d : BitVec 32) (w : World) : Calls Try.prog 44 #[.int .u32 (W a), .int .u32 (W b), .int .u32 (W c), .int .u32 (W d)] w fun e w' =>
    e = .returned (.tuple #[.int .u32 (W (qtr a b c d).a), .int .u32 (W (qtr a b c d).b), .int .u32 (W (qtr a b c d).c), .int .u32 (W (qtr a b c d).d)]) ∧ w = w' := by
  go_enter Try.func44, Try.ntmps44
  go_wp2_with fail
  refine (left_16 _ _).mono ?_
  rintro e w' ⟨rfl, rfl⟩
  go_wp2_with fail
  refine (left_12 _ _).mono ?_
  rintro e w' ⟨rfl, rfl⟩
  go_wp2_with fail
  refine (left_8 _ _).mono ?_
  rintro e w' ⟨rfl, rfl⟩
  go_wp2_with fail
  refine (left_7 _ _).mono ?_
  rintro e w' ⟨rfl, rfl⟩
  go_wp2_with fail
  refine bodyPost_ret (v := .tuple #[.int .u32 (W (qtr a b c d).a), .int .u32 (W (qtr a b c d).b), .int .u32 (W (qtr a b c d).c), .int .u32 (W (qtr a b c d).d)]) (by simp [results, Try.results44, go_sem]; exact ⟨rfl, rfl, rfl, rfl⟩) rfl ⟨rfl, rfl⟩

set_option maxHeartbeats 1000000 in
theorem back_any (a b c d : BitVec 32) (w : World) : Calls Try.prog 68 #[.int .u32 (W a), .int .u32 (W b), .int .u32 (W c), .int .u32 (W d)] w fun e w' =>
    e = .returned (.tuple #[.int .u32 (W (qbk a b c d).a), .int .u32 (W (qbk a b c d).b), .int .u32 (W (qbk a b c d).c), .int .u32 (W (qbk a b c d).d)]) ∧ w = w' := by
  go_enter Try.func68, Try.ntmps68
  go_wp2_with fail
  refine (rot_m7 _ _).mono ?_
  rintro e w' ⟨rfl, rfl⟩
  go_wp2_with fail
  refine (rot_m8 _ _).mono ?_
  rintro e w' ⟨rfl, rfl⟩
  go_wp2_with fail
  refine (rot_m12 _ _).mono ?_
  rintro e w' ⟨rfl, rfl⟩
  go_wp2_with fail
  refine (rot_m16 _ _).mono ?_
  rintro e w' ⟨rfl, rfl⟩
  go_wp2_with fail
  refine bodyPost_ret (v := .tuple #[.int .u32 (W (qbk a b c d).a), .int .u32 (W (qbk a b c d).b), .int .u32 (W (qbk a b c d).c), .int .u32 (W (qbk a b c d).d)]) (by simp [results, Try.results68, go_sem]; exact ⟨rfl, rfl, rfl, rfl⟩) rfl ⟨rfl, rfl⟩

end Go.Proofs.Ytcdklmicbbcknaa
