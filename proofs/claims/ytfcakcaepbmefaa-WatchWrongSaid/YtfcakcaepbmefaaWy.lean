/- How values of each type are compared. No condition. -/
import Derived.Test.YtfcakcaepbmefaaSx
namespace Go.Proofs.Ytfcakcaepbmefaa
open Go Go.AM
theorem eqv2 : eqV E 100 2 = eqInt := by kernel_rfl
theorem eqv3 : eqV E 100 3 = eqInt := by kernel_rfl
theorem eqv4 : eqV E 100 4 = eqBool := by kernel_rfl
theorem eqv5 : eqV E 100 5 = eqInt := by kernel_rfl
theorem eqv9 : eqV E 100 9 = eqStr := by kernel_rfl
theorem eqv22 : eqV E 100 22 = eqSlice := by kernel_rfl
theorem eqv23 : eqV E 100 23 = eqSlice := by kernel_rfl
theorem eqv26 : eqV E 100 26 = eqSlice := by kernel_rfl
theorem eqv27 : eqV E 100 27 = eqPtr := by kernel_rfl
theorem eqv28 : eqV E 100 28 = eqPtr := by kernel_rfl
theorem eqv33 : eqV E 100 33 = eqPtr := by kernel_rfl
theorem eqv34 : eqV E 100 34 = eqInt := by kernel_rfl
theorem eqv43 : eqV E 100 43 = eqSlice := by kernel_rfl
theorem eqv45 : eqV E 100 45 = eqInt := by kernel_rfl
theorem eqv46 : eqV E 100 46 = eqInt := by kernel_rfl
theorem eqv47 : eqV E 100 47 = eqInt := by kernel_rfl
theorem eqv52 : eqV E 100 52 = eqInt := by kernel_rfl
theorem eqv57 : eqV E 100 57 = eqInt := by kernel_rfl
theorem eqv67 : eqV E 100 67 = eqMap := by kernel_rfl
theorem eqv68 : eqV E 100 68 = eqSlice := by kernel_rfl
theorem eqv69 : eqV E 100 69 = eqSlice := by kernel_rfl
theorem eqv72 : eqV E 100 72 = eqPtr := by kernel_rfl
theorem eqv73 : eqV E 100 73 = eqSlice := by kernel_rfl
theorem eqv76 : eqV E 100 76 = eqSlice := by kernel_rfl
theorem eqv82 : eqV E 100 82 = eqSlice := by kernel_rfl
theorem eqv84 : eqV E 100 84 = eqPtr := by kernel_rfl
theorem eqv87 : eqV E 100 87 = eqPtr := by kernel_rfl
theorem eqv88 : eqV E 100 88 = eqSlice := by kernel_rfl
theorem eqv89 : eqV E 100 89 = eqSlice := by kernel_rfl
theorem eqv90 : eqV E 100 90 = eqPtr := by kernel_rfl
theorem eqv95 : eqV E 100 95 = eqPtr := by kernel_rfl
theorem eqv98 : eqV E 100 98 = eqPtr := by kernel_rfl
theorem eqv103 : eqV E 100 103 = eqSlice := by kernel_rfl
theorem eqv112 : eqV E 100 112 = eqInt := by kernel_rfl
theorem eqv121 : eqV E 100 121 = eqInt := by kernel_rfl
theorem eqv122 : eqV E 100 122 = eqSlice := by kernel_rfl
theorem eqv128 : eqV E 100 128 = eqSlice := by kernel_rfl
theorem eqv135 : eqV E 100 135 = eqMap := by kernel_rfl
theorem eqv143 : eqV E 100 143 = eqPtr := by kernel_rfl
theorem eqv145 : eqV E 100 145 = eqPtr := by kernel_rfl
theorem eqv148 : eqV E 100 148 = eqPtr := by kernel_rfl
theorem eqv151 : eqV E 100 151 = eqPtr := by kernel_rfl
theorem eqv152 : eqV E 100 152 = eqPtr := by kernel_rfl
theorem eqv158 : eqV E 100 158 = eqMap := by kernel_rfl
theorem eqv176 : eqV E 100 176 = eqSlice := by kernel_rfl
theorem eqv190 : eqV E 100 190 = eqPtr := by kernel_rfl
theorem eqv195 : eqV E 100 195 = eqInt := by kernel_rfl
theorem eqv196 : eqV E 100 196 = eqInt := by kernel_rfl
theorem eqv213 : eqV E 100 213 = eqInt := by kernel_rfl
end Go.Proofs.Ytfcakcaepbmefaa
