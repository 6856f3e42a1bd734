/- What the closed call known, and the law at any number and any code of at most 60 words, or more, come to in the abstract machine. No condition. -/
import Derived.Test.YtncnellpjeebfaaGreatDoorDec
namespace Go.Proofs.YtncnellpjeebfaaGreatDoor
open Go Go.AM
def kKnown : Kn := ⟨4, [], spaceG, .bool true⟩
theorem known_run : gives kKnown.v (runO E [kDec1, kDec2, kDec3] 60 (.call kKnown.f kKnown.args none) ⟨laidH kKnown.g, E.ng, []⟩) = true := by kernel_rfl
theorem known_ok : ∀ k ∈ [kKnown], KnOk E Tryz.prog k := kns_cons (kn_ok (runO_ok E_ok decs 60) (by kernel_rfl) (by kernel_rfl) (show (0 : Nat) < 7 from Nat.zero_lt_succ 6) known_run) kns_nil

noncomputable def lawS (x : Nat → Int) (n : Nat) : S := (⟨laidH spaceG, E.ng, []⟩ : S).new (.cells (cellsFrom .u32 x 0 n) 0 true)
noncomputable def lawR (pick : Int) (x : Nat → Int) (cap n m : Nat) : TR := runO E [kKnown] 60 (.call 3 [.int .i64 pick, .slice (some (7, 0)) n (.exact cap)] none) (lawS x m)
def upTo (p : Nat → Bool) : Nat → Nat → Bool
  | _, 0 => true
  | i, n + 1 => and (p i) (upTo p (Nat.succ i) n)
theorem upTo_spec {p : Nat → Bool} : ∀ {n i : Nat}, upTo p i n = true → ∀ j, i ≤ j → j < i + n → p j = true
  | 0, i, _, j, h1, h2 => by omega
  | n + 1, i, h, j, h1, h2 => by
    simp only [upTo, Bool.and_eq_true] at h
    by_cases e : j = i
    · subst e; exact h.1
    · exact upTo_spec h.2 j (by omega) (by omega)
theorem law_nil (pick : Int) : gives (.bool true) (runO E [kKnown] 60 (.call 3 [.int .i64 pick, .slice none 0 (.exact 0)] none) ⟨laidH spaceG, E.ng, []⟩) = true := by kernel_rfl
theorem law_long (pick : Int) (x : Nat → Int) (cap m : Nat) : gives (.bool true) (lawR pick x cap (m + 61) 0) = true := by kernel_rfl
theorem law_0 (pick : Int) (x : Nat → Int) (cap : Nat) : upTo (fun n => gives (.bool true) (lawR pick x cap n n)) 0 10 = true := by kernel_rfl
theorem law_1 (pick : Int) (x : Nat → Int) (cap : Nat) : upTo (fun n => gives (.bool true) (lawR pick x cap n n)) 10 10 = true := by kernel_rfl
theorem law_2 (pick : Int) (x : Nat → Int) (cap : Nat) : upTo (fun n => gives (.bool true) (lawR pick x cap n n)) 20 10 = true := by kernel_rfl
theorem law_3 (pick : Int) (x : Nat → Int) (cap : Nat) : upTo (fun n => gives (.bool true) (lawR pick x cap n n)) 30 10 = true := by kernel_rfl
theorem law_4 (pick : Int) (x : Nat → Int) (cap : Nat) : upTo (fun n => gives (.bool true) (lawR pick x cap n n)) 40 10 = true := by kernel_rfl
theorem law_5 (pick : Int) (x : Nat → Int) (cap : Nat) : upTo (fun n => gives (.bool true) (lawR pick x cap n n)) 50 11 = true := by kernel_rfl
theorem law_short (pick : Int) (x : Nat → Int) (cap n : Nat) (h : n ≤ 60) : gives (.bool true) (lawR pick x cap n n) = true := by
  by_cases h0 : n < 10
  · exact upTo_spec (law_0 pick x cap) n (by omega) (by omega)
  by_cases h1 : n < 20
  · exact upTo_spec (law_1 pick x cap) n (by omega) (by omega)
  by_cases h2 : n < 30
  · exact upTo_spec (law_2 pick x cap) n (by omega) (by omega)
  by_cases h3 : n < 40
  · exact upTo_spec (law_3 pick x cap) n (by omega) (by omega)
  by_cases h4 : n < 50
  · exact upTo_spec (law_4 pick x cap) n (by omega) (by omega)
  by_cases h5 : n < 61
  · exact upTo_spec (law_5 pick x cap) n (by omega) (by omega)
  omega
end Go.Proofs.YtncnellpjeebfaaGreatDoor
