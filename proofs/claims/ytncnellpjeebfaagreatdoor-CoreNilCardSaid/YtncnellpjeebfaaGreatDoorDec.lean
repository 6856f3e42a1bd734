/- What decoding three words comes to in the abstract machine. No condition. -/
import Derived.Test.YtncnellpjeebfaaGreatDoorEnv
namespace Go.Proofs.YtncnellpjeebfaaGreatDoor
open Go Go.AM
def spaceZ : List Int := [0, 0, 0, 0, 0, 0, 0, 0, 0, 1, 1, 1, 1, 1, 0, 0, 0, 0, 0, 0, 0, 0, 0, 0, 0, 0, 0, 0, 0, 0, 0, 0, 1, 0, 0, 0, 0, 0, 0, 0, 0, 0, 0, 0, 0, 0, 0, 0, 0, 0, 0, 0, 0, 0, 0, 0, 0, 0, 0, 0, 0, 0, 0, 0, 0, 0, 0, 0, 0, 0, 0, 0, 0, 0, 0, 0, 0, 0, 0, 0, 0, 0, 0, 0, 0, 0, 0, 0, 0, 0, 0, 0, 0, 0, 0, 0, 0, 0, 0, 0, 0, 0, 0, 0, 0, 0, 0, 0, 0, 0, 0, 0, 0, 0, 0, 0, 0, 0, 0, 0, 0, 0, 0, 0, 0, 0, 0, 0, 0, 0, 0, 0, 0, 0, 0, 0, 0, 0, 0, 0, 0, 0, 0, 0, 0, 0, 0, 0, 0, 0, 0, 0, 0, 0, 0, 0, 0, 0, 0, 0, 0, 0, 0, 0, 0, 0, 0, 0, 0, 0, 0, 0, 0, 0, 0, 0, 0, 0, 0, 0, 0, 0, 0, 0, 0, 0, 0, 0, 0, 0, 0, 0, 0, 0, 0, 0, 0, 0, 0, 0, 0, 0, 0, 0, 0, 0, 0, 0, 0, 0, 0, 0, 0, 0, 0, 0, 0, 0, 0, 0, 0, 0, 0, 0, 0, 0, 0, 0, 0, 0, 0, 0, 0, 0, 0, 0, 0, 0, 0, 0, 0, 0, 0, 0, 0, 0, 0, 0, 0, 0, 0, 0, 0, 0, 0, 0]
def spaceG : Option (Nat × List V) := some (0, spaceZ.map (V.int .u8))
def instV (op rd r1 r2 imm : Int) : V := .tuple [.agg [.int .i64 op, .int .i64 rd, .int .i64 r1, .int .i64 r2, .int .u32 imm, .bool false, .bool false], .bool true]
def kDec1 : Kn := ⟨59, [.int .u32 5243027], spaceG, instV 19 1 0 0 5⟩
def kDec2 : Kn := ⟨59, [.int .u32 1056803], spaceG, instV 18 0 0 1 0⟩
def kDec3 : Kn := ⟨59, [.int .u32 8451], spaceG, instV 13 2 0 0 0⟩
theorem dec1 : gives kDec1.v (run E 60 (.call kDec1.f kDec1.args none) ⟨laidH kDec1.g, E.ng, []⟩) = true := by kernel_rfl
theorem dec2 : gives kDec2.v (run E 60 (.call kDec2.f kDec2.args none) ⟨laidH kDec2.g, E.ng, []⟩) = true := by kernel_rfl
theorem dec3 : gives kDec3.v (run E 60 (.call kDec3.f kDec3.args none) ⟨laidH kDec3.g, E.ng, []⟩) = true := by kernel_rfl
theorem decs : ∀ k ∈ [kDec1, kDec2, kDec3], KnOk E Tryz.prog k :=
  kns_cons (kn_ok (run_ok E_ok 60) (by kernel_rfl) (by kernel_rfl) (show (0 : Nat) < 7 from Nat.zero_lt_succ 6) dec1) (kns_cons (kn_ok (run_ok E_ok 60) (by kernel_rfl) (by kernel_rfl) (show (0 : Nat) < 7 from Nat.zero_lt_succ 6) dec2) (kns_cons (kn_ok (run_ok E_ok 60) (by kernel_rfl) (by kernel_rfl) (show (0 : Nat) < 7 from Nat.zero_lt_succ 6) dec3) kns_nil))
end Go.Proofs.YtncnellpjeebfaaGreatDoor
