/- What the closed call known, and the law at any Did and any number, come to in the abstract machine. No condition. -/
import Derived.Test.YtihnbbdbhobpeaaGreatDoorEnv
import Derived.Test.YtihnbbdbhobpeaaGreatDoorAmF
import Derived.KernelRfl
namespace Go.Proofs.YtihnbbdbhobpeaaGreatDoor
open Go Go.AM

theorem known_fn : (E.fn 12).isSome = true := by kernel_rfl

def isT : TR → Bool
  | .ret (.bool true) false _ => true
  | _ => false

theorem isT_ret {t : TR} (h : isT t = true) : ∃ s, t = .ret (.bool true) false s := by
  cases t with
  | ret v rc s =>
    cases v with
    | bool b => cases b <;> cases rc <;> first | exact ⟨s, rfl⟩ | cases h
    | _ => cases h
  | _ => cases h

theorem known_run : isT (run E 60 (.call 12 [] none) ⟨.leaf, E.ng, []⟩) = true := by kernel_rfl

theorem known_ov : OvOk E Tryz.prog (ovL [(12, .bool true)]) :=
  ovL_ok (run_ok E_ok 60) _ (fun p hp => by
    obtain rfl : p = (12, .bool true) := List.mem_singleton.1 hp
    obtain ⟨s, h⟩ := isT_ret known_run
    have this := known_fn
    exact ⟨(fun h => by rw [h] at this; cases this), trivial, false, s, h⟩)

/-- a Did, as cells -/
def didV (a1 a2 a3 a4 a5 a6 a7 a8 a9 a12 a14 a15 a16 a17 a18 a19 a20 : Int) (b1 b2 b3 : Bool) : V :=
  .agg [.int .i64 a1, .int .i64 a2, .int .u32 a3, .int .u32 a4, .int .i64 a5, .int .u32 a6, .int .i64 a7, .int .u32 a8, .int .i64 a9, .bool b1, .bool b2, .int .u32 a12, .bool b3, .int .i64 a14, .int .u32 a15, .int .i64 a16, .int .u32 a17, .int .i64 a18, .int .u32 a19, .int .i64 a20]

section
variable (a1 a2 a3 a4 a5 a6 a7 a8 a9 a12 a14 a15 a16 a17 a18 a19 a20 : Int) (b1 b2 b3 : Bool)
theorem wn_neg (m : Nat) : isT (runO E (ovL [(12, .bool true)]) 60 (.call 3 [didV a1 a2 a3 a4 a5 a6 a7 a8 a9 a12 a14 a15 a16 a17 a18 a19 a20 b1 b2 b3, .int .i64 (.negSucc m)] none) ⟨.leaf, E.ng, []⟩) = true := by kernel_rfl
theorem wn_0 : isT (runO E (ovL [(12, .bool true)]) 60 (.call 3 [didV a1 a2 a3 a4 a5 a6 a7 a8 a9 a12 a14 a15 a16 a17 a18 a19 a20 b1 b2 b3, .int .i64 (.ofNat 0)] none) ⟨.leaf, E.ng, []⟩) = true := by kernel_rfl
theorem wn_1 : isT (runO E (ovL [(12, .bool true)]) 60 (.call 3 [didV a1 a2 a3 a4 a5 a6 a7 a8 a9 a12 a14 a15 a16 a17 a18 a19 a20 b1 b2 b3, .int .i64 (.ofNat 1)] none) ⟨.leaf, E.ng, []⟩) = true := by kernel_rfl
theorem wn_2 (m : Nat) : isT (runO E (ovL [(12, .bool true)]) 60 (.call 3 [didV a1 a2 a3 a4 a5 a6 a7 a8 a9 a12 a14 a15 a16 a17 a18 a19 a20 b1 b2 b3, .int .i64 (.ofNat (Nat.succ (Nat.succ m)))] none) ⟨.leaf, E.ng, []⟩) = true := by kernel_rfl

theorem wn_any : ∀ n : Int, isT (runO E (ovL [(12, .bool true)]) 60 (.call 3 [didV a1 a2 a3 a4 a5 a6 a7 a8 a9 a12 a14 a15 a16 a17 a18 a19 a20 b1 b2 b3, .int .i64 n] none) ⟨.leaf, E.ng, []⟩) = true
  | .negSucc m => wn_neg a1 a2 a3 a4 a5 a6 a7 a8 a9 a12 a14 a15 a16 a17 a18 a19 a20 b1 b2 b3 m
  | .ofNat 0 => wn_0 a1 a2 a3 a4 a5 a6 a7 a8 a9 a12 a14 a15 a16 a17 a18 a19 a20 b1 b2 b3
  | .ofNat 1 => wn_1 a1 a2 a3 a4 a5 a6 a7 a8 a9 a12 a14 a15 a16 a17 a18 a19 a20 b1 b2 b3
  | .ofNat (m + 2) => wn_2 a1 a2 a3 a4 a5 a6 a7 a8 a9 a12 a14 a15 a16 a17 a18 a19 a20 b1 b2 b3 m

theorem did_nums (n : Int) : NumsL (fun _ => False) [didV a1 a2 a3 a4 a5 a6 a7 a8 a9 a12 a14 a15 a16 a17 a18 a19 a20 b1 b2 b3, .int .i64 n] := by simp [NumsL, Nums, didV]
end
end Go.Proofs.YtihnbbdbhobpeaaGreatDoor
