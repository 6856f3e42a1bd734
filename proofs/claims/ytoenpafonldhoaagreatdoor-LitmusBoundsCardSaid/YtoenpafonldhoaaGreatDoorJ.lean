/- An abstract machine for the model's programs, its runs, and what they say of the model (part J). No condition. -/
import Derived.Test.YtoenpafonldhoaaGreatDoorRkc0
import Derived.Test.YtoenpafonldhoaaGreatDoorRka0
import Derived.Test.YtoenpafonldhoaaGreatDoorRkc1
import Derived.Test.YtoenpafonldhoaaGreatDoorRka1
import Derived.Test.YtoenpafonldhoaaGreatDoorRkc2
import Derived.Test.YtoenpafonldhoaaGreatDoorRka2
import Derived.Test.YtoenpafonldhoaaGreatDoorRkc3
import Derived.Test.YtoenpafonldhoaaGreatDoorRka3
import Derived.Test.YtoenpafonldhoaaGreatDoorRkl0
import Derived.Test.YtoenpafonldhoaaGreatDoorRkc4
import Derived.Test.YtoenpafonldhoaaGreatDoorRka4
import Derived.Test.YtoenpafonldhoaaGreatDoorRkc5
import Derived.Test.YtoenpafonldhoaaGreatDoorRka5
import Derived.Test.YtoenpafonldhoaaGreatDoorRkc6
import Derived.Test.YtoenpafonldhoaaGreatDoorRka6
import Derived.Test.YtoenpafonldhoaaGreatDoorRkc7
import Derived.Test.YtoenpafonldhoaaGreatDoorRka7
import Derived.Test.YtoenpafonldhoaaGreatDoorRkl1
import Derived.Test.YtoenpafonldhoaaGreatDoorRp
import Derived.Test.YtoenpafonldhoaaGreatDoorRw
import Derived.Test.YtoenpafonldhoaaGreatDoorRb1
import Derived.Test.YtoenpafonldhoaaGreatDoorRb2
import Derived.Test.YtoenpafonldhoaaGreatDoorRl
import Derived.Test.YtoenpafonldhoaaGreatDoorWb
set_option linter.all false
namespace Go.Proofs.YtoenpafonldhoaaGreatDoor
open Go Go.AM
theorem hng2 : 2 ≤ E.ng := by rw [ng8]; omega
theorem ov_nil : OvOk E Tryz.prog (ovO []) := fun _ _ _ h => by cases h
theorem q_one {k : KnO} (h : QOk E Tryz.prog k.f k.args k.q) : ∀ k' ∈ [k], QOk E Tryz.prog k'.f k'.args k'.q := fun k' h' => by
  obtain rfl := List.mem_singleton.1 h'; exact h
theorem q_cons {k : KnO} {l : List KnO} (h : QOk E Tryz.prog k.f k.args k.q) (hl : ∀ k ∈ l, QOk E Tryz.prog k.f k.args k.q) : ∀ k' ∈ k :: l, QOk E Tryz.prog k'.f k'.args k'.q := fun k' h' => by
  rcases List.mem_cons.1 h' with rfl | h'
  · exact h
  · exact hl k' h'
theorem q_nil : ∀ k' ∈ ([] : List KnO), QOk E Tryz.prog k'.f k'.args k'.q := fun _ h => by cases h
theorem ks0_ok : QOk E Tryz.prog ks0.f ks0.args ks0.q := knO_ok E_ok rfl hng2 (by kernel_rfl) (Nat.le_of_ble_eq_true (show Nat.ble E.ng ks0.n = true by kernel_rfl)) (by kernel_rfl) (.self _ (runQ_ok E_ok rfl ov_nil 1000) ks0_run)
theorem ks1_ok : QOk E Tryz.prog ks1.f ks1.args ks1.q := knO_ok E_ok rfl hng2 (by kernel_rfl) (Nat.le_of_ble_eq_true (show Nat.ble E.ng ks1.n = true by kernel_rfl)) (by kernel_rfl) (.self _ (runQ_ok E_ok rfl ov_nil 1000) ks1_run)
theorem ks2_ok : QOk E Tryz.prog ks2.f ks2.args ks2.q := knO_ok E_ok rfl hng2 (by kernel_rfl) (Nat.le_of_ble_eq_true (show Nat.ble E.ng ks2.n = true by kernel_rfl)) (by kernel_rfl) (.self _ (runQ_ok E_ok rfl ov_nil 1000) ks2_run)
theorem ks3_ok : QOk E Tryz.prog ks3.f ks3.args ks3.q := knO_ok E_ok rfl hng2 (by kernel_rfl) (Nat.le_of_ble_eq_true (show Nat.ble E.ng ks3.n = true by kernel_rfl)) (by kernel_rfl) (.self _ (runQ_ok E_ok rfl ov_nil 1000) ks3_run)
theorem kt0_ok : QOk E Tryz.prog kt0.f kt0.args kt0.q := knO_ok E_ok rfl hng2 (by kernel_rfl) (Nat.le_of_ble_eq_true (show Nat.ble E.ng kt0.n = true by kernel_rfl)) (by kernel_rfl) (.self _ (runQ_ok E_ok rfl ov_nil 1000) kt0_run)
theorem kc0_ok : QOk E Tryz.prog kc0.f kc0.args kc0.q := knO_ok E_ok rfl hng2 (by kernel_rfl) (Nat.le_of_ble_eq_true (show Nat.ble E.ng kc0.n = true by kernel_rfl)) (by kernel_rfl) (.any 1000 kc0_run)
theorem ka0_ok : QOk E Tryz.prog ka0.f ka0.args ka0.q := knO_ok E_ok rfl hng2 (by kernel_rfl) (Nat.le_of_ble_eq_true (show Nat.ble E.ng ka0.n = true by kernel_rfl)) (by kernel_rfl) (.self _ (runQ_ok E_ok rfl (ovElse_ok (ovO_ok E_ok rfl hng2 (q_cons kc0_ok (q_nil))) ovS_ok) 1000) ka0_run)
theorem kc1_ok : QOk E Tryz.prog kc1.f kc1.args kc1.q := knO_ok E_ok rfl hng2 (by kernel_rfl) (Nat.le_of_ble_eq_true (show Nat.ble E.ng kc1.n = true by kernel_rfl)) (by kernel_rfl) (.any 1000 kc1_run)
theorem ka1_ok : QOk E Tryz.prog ka1.f ka1.args ka1.q := knO_ok E_ok rfl hng2 (by kernel_rfl) (Nat.le_of_ble_eq_true (show Nat.ble E.ng ka1.n = true by kernel_rfl)) (by kernel_rfl) (.self _ (runQ_ok E_ok rfl (ovElse_ok (ovO_ok E_ok rfl hng2 (q_cons kc1_ok (q_nil))) ovS_ok) 1000) ka1_run)
theorem kc2_ok : QOk E Tryz.prog kc2.f kc2.args kc2.q := knO_ok E_ok rfl hng2 (by kernel_rfl) (Nat.le_of_ble_eq_true (show Nat.ble E.ng kc2.n = true by kernel_rfl)) (by kernel_rfl) (.any 1000 kc2_run)
theorem ka2_ok : QOk E Tryz.prog ka2.f ka2.args ka2.q := knO_ok E_ok rfl hng2 (by kernel_rfl) (Nat.le_of_ble_eq_true (show Nat.ble E.ng ka2.n = true by kernel_rfl)) (by kernel_rfl) (.self _ (runQ_ok E_ok rfl (ovElse_ok (ovO_ok E_ok rfl hng2 (q_cons kc2_ok (q_nil))) ovS_ok) 1000) ka2_run)
theorem kc3_ok : QOk E Tryz.prog kc3.f kc3.args kc3.q := knO_ok E_ok rfl hng2 (by kernel_rfl) (Nat.le_of_ble_eq_true (show Nat.ble E.ng kc3.n = true by kernel_rfl)) (by kernel_rfl) (.any 1000 kc3_run)
theorem ka3_ok : QOk E Tryz.prog ka3.f ka3.args ka3.q := knO_ok E_ok rfl hng2 (by kernel_rfl) (Nat.le_of_ble_eq_true (show Nat.ble E.ng ka3.n = true by kernel_rfl)) (by kernel_rfl) (.self _ (runQ_ok E_ok rfl (ovElse_ok (ovO_ok E_ok rfl hng2 (q_cons kc3_ok (q_nil))) ovS_ok) 1000) ka3_run)
theorem ks4_ok : QOk E Tryz.prog ks4.f ks4.args ks4.q := knO_ok E_ok rfl hng2 (by kernel_rfl) (Nat.le_of_ble_eq_true (show Nat.ble E.ng ks4.n = true by kernel_rfl)) (by kernel_rfl) (.self _ (runQ_ok E_ok rfl ov_nil 1000) ks4_run)
theorem kt1_ok : QOk E Tryz.prog kt1.f kt1.args kt1.q := knO_ok E_ok rfl hng2 (by kernel_rfl) (Nat.le_of_ble_eq_true (show Nat.ble E.ng kt1.n = true by kernel_rfl)) (by kernel_rfl) (.self _ (runQ_ok E_ok rfl ov_nil 1000) kt1_run)
theorem kc4_ok : QOk E Tryz.prog kc4.f kc4.args kc4.q := knO_ok E_ok rfl hng2 (by kernel_rfl) (Nat.le_of_ble_eq_true (show Nat.ble E.ng kc4.n = true by kernel_rfl)) (by kernel_rfl) (.any 1000 kc4_run)
theorem ka4_ok : QOk E Tryz.prog ka4.f ka4.args ka4.q := knO_ok E_ok rfl hng2 (by kernel_rfl) (Nat.le_of_ble_eq_true (show Nat.ble E.ng ka4.n = true by kernel_rfl)) (by kernel_rfl) (.self _ (runQ_ok E_ok rfl (ovElse_ok (ovO_ok E_ok rfl hng2 (q_cons kc4_ok (q_nil))) ovS_ok) 1000) ka4_run)
theorem kc5_ok : QOk E Tryz.prog kc5.f kc5.args kc5.q := knO_ok E_ok rfl hng2 (by kernel_rfl) (Nat.le_of_ble_eq_true (show Nat.ble E.ng kc5.n = true by kernel_rfl)) (by kernel_rfl) (.any 1000 kc5_run)
theorem ka5_ok : QOk E Tryz.prog ka5.f ka5.args ka5.q := knO_ok E_ok rfl hng2 (by kernel_rfl) (Nat.le_of_ble_eq_true (show Nat.ble E.ng ka5.n = true by kernel_rfl)) (by kernel_rfl) (.self _ (runQ_ok E_ok rfl (ovElse_ok (ovO_ok E_ok rfl hng2 (q_cons kc5_ok (q_nil))) ovS_ok) 1000) ka5_run)
theorem kc6_ok : QOk E Tryz.prog kc6.f kc6.args kc6.q := knO_ok E_ok rfl hng2 (by kernel_rfl) (Nat.le_of_ble_eq_true (show Nat.ble E.ng kc6.n = true by kernel_rfl)) (by kernel_rfl) (.any 1000 kc6_run)
theorem ka6_ok : QOk E Tryz.prog ka6.f ka6.args ka6.q := knO_ok E_ok rfl hng2 (by kernel_rfl) (Nat.le_of_ble_eq_true (show Nat.ble E.ng ka6.n = true by kernel_rfl)) (by kernel_rfl) (.self _ (runQ_ok E_ok rfl (ovElse_ok (ovO_ok E_ok rfl hng2 (q_cons kc6_ok (q_nil))) ovS_ok) 1000) ka6_run)
theorem kc7_ok : QOk E Tryz.prog kc7.f kc7.args kc7.q := knO_ok E_ok rfl hng2 (by kernel_rfl) (Nat.le_of_ble_eq_true (show Nat.ble E.ng kc7.n = true by kernel_rfl)) (by kernel_rfl) (.any 1000 kc7_run)
theorem ka7_ok : QOk E Tryz.prog ka7.f ka7.args ka7.q := knO_ok E_ok rfl hng2 (by kernel_rfl) (Nat.le_of_ble_eq_true (show Nat.ble E.ng ka7.n = true by kernel_rfl)) (by kernel_rfl) (.self _ (runQ_ok E_ok rfl (ovElse_ok (ovO_ok E_ok rfl hng2 (q_cons kc7_ok (q_nil))) ovS_ok) 1000) ka7_run)
theorem kl0_ok : QOk E Tryz.prog kl0.f kl0.args kl0.q := knO_ok E_ok rfl hng2 (by kernel_rfl) (Nat.le_of_ble_eq_true (show Nat.ble E.ng kl0.n = true by kernel_rfl)) (by kernel_rfl) (.self _ (runQ_ok E_ok rfl (ovO_ok E_ok rfl hng2 (q_cons ka0_ok (q_cons ka1_ok (q_cons ka2_ok (q_cons ka3_ok (q_cons ks0_ok (q_cons ks1_ok (q_cons ks2_ok (q_cons ks3_ok (q_cons kt0_ok (q_nil))))))))))) 1000) kl0_run)
theorem kl1_ok : QOk E Tryz.prog kl1.f kl1.args kl1.q := knO_ok E_ok rfl hng2 (by kernel_rfl) (Nat.le_of_ble_eq_true (show Nat.ble E.ng kl1.n = true by kernel_rfl)) (by kernel_rfl) (.self _ (runQ_ok E_ok rfl (ovO_ok E_ok rfl hng2 (q_cons ka4_ok (q_cons ka5_ok (q_cons ka6_ok (q_cons ka7_ok (q_cons ks0_ok (q_cons ks1_ok (q_cons ks2_ok (q_cons ks3_ok (q_cons ks4_ok (q_cons kt1_ok (q_nil)))))))))))) 1000) kl1_run)
theorem kw_ok : QOk E Tryz.prog kw.f kw.args kw.q := knO_ok E_ok rfl hng2 (by kernel_rfl) (Nat.le_of_ble_eq_true (show Nat.ble E.ng kw.n = true by kernel_rfl)) (by kernel_rfl) (.self _ (runQ_ok E_ok rfl (ovO_ok E_ok rfl hng2 (q_cons kl0_ok (q_cons kl1_ok (q_nil)))) 1000) kw_run)
theorem kb0_ok : QOk E Tryz.prog kb0.f kb0.args kb0.q := knO_ok E_ok rfl hng2 (by kernel_rfl) (Nat.le_of_ble_eq_true (show Nat.ble E.ng kb0.n = true by kernel_rfl)) (by kernel_rfl) (.self _ (runQ_ok E_ok rfl ov_nil 1000) kb0_run)
theorem kb1_ok : QOk E Tryz.prog kb1.f kb1.args kb1.q := knO_ok E_ok rfl hng2 (by kernel_rfl) (Nat.le_of_ble_eq_true (show Nat.ble E.ng kb1.n = true by kernel_rfl)) (by kernel_rfl) (.self _ (runQ_ok E_ok rfl ov_nil 1000) kb1_run)
theorem kb2_ok : QOk E Tryz.prog kb2.f kb2.args kb2.q := knO_ok E_ok rfl hng2 (by kernel_rfl) (Nat.le_of_ble_eq_true (show Nat.ble E.ng kb2.n = true by kernel_rfl)) (by kernel_rfl) (.self _ (runQ_ok E_ok rfl ov_nil 1000) kb2_run)
theorem kb3_ok : QOk E Tryz.prog kb3.f kb3.args kb3.q := knO_ok E_ok rfl hng2 (by kernel_rfl) (Nat.le_of_ble_eq_true (show Nat.ble E.ng kb3.n = true by kernel_rfl)) (by kernel_rfl) (.self _ (runQ_ok E_ok rfl ov_nil 1000) kb3_run)
theorem kb4_ok : QOk E Tryz.prog kb4.f kb4.args kb4.q := knO_ok E_ok rfl hng2 (by kernel_rfl) (Nat.le_of_ble_eq_true (show Nat.ble E.ng kb4.n = true by kernel_rfl)) (by kernel_rfl) (.self _ (runQ_ok E_ok rfl ov_nil 1000) kb4_run)
theorem kb5_ok : QOk E Tryz.prog kb5.f kb5.args kb5.q := knO_ok E_ok rfl hng2 (by kernel_rfl) (Nat.le_of_ble_eq_true (show Nat.ble E.ng kb5.n = true by kernel_rfl)) (by kernel_rfl) (.self _ (runQ_ok E_ok rfl ov_nil 1000) kb5_run)
theorem kb6_ok : QOk E Tryz.prog kb6.f kb6.args kb6.q := knO_ok E_ok rfl hng2 (by kernel_rfl) (Nat.le_of_ble_eq_true (show Nat.ble E.ng kb6.n = true by kernel_rfl)) (by kernel_rfl) (.self _ (runQ_ok E_ok rfl ov_nil 1000) kb6_run)
theorem kb7_ok : QOk E Tryz.prog kb7.f kb7.args kb7.q := knO_ok E_ok rfl hng2 (by kernel_rfl) (Nat.le_of_ble_eq_true (show Nat.ble E.ng kb7.n = true by kernel_rfl)) (by kernel_rfl) (.self _ (runQ_ok E_ok rfl ov_nil 1000) kb7_run)
theorem kb8_ok : QOk E Tryz.prog kb8.f kb8.args kb8.q := knO_ok E_ok rfl hng2 (by kernel_rfl) (Nat.le_of_ble_eq_true (show Nat.ble E.ng kb8.n = true by kernel_rfl)) (by kernel_rfl) (.self _ (runQ_ok E_ok rfl ov_nil 1000) kb8_run)
theorem kb9_ok : QOk E Tryz.prog kb9.f kb9.args kb9.q := knO_ok E_ok rfl hng2 (by kernel_rfl) (Nat.le_of_ble_eq_true (show Nat.ble E.ng kb9.n = true by kernel_rfl)) (by kernel_rfl) (.self _ (runQ_ok E_ok rfl ov_nil 1000) kb9_run)
theorem bounds_self : SelfOk E Tryz.prog (G0 Tryz.prog) (runQ E (ovO [kb0, kb1, kb2, kb3, kb4, kb5, kb6, kb7, kb8, kb9, kw]) 1000) := runQ_ok E_ok rfl (ovO_ok E_ok rfl hng2 (q_cons kb0_ok (q_cons kb1_ok (q_cons kb2_ok (q_cons kb3_ok (q_cons kb4_ok (q_cons kb5_ok (q_cons kb6_ok (q_cons kb7_ok (q_cons kb8_ok (q_cons kb9_ok (q_cons kw_ok (q_nil))))))))))))) 1000
end Go.Proofs.YtoenpafonldhoaaGreatDoor

