/- How many digits are 1: the library's count of a number below 65536, and the program's. -/
import Derived.Test.YtdhfbgbclibagaaROx0
import Derived.Test.YtdhfbgbclibagaaROx1
import Derived.Test.YtdhfbgbclibagaaROx6
import Derived.Test.YtdhfbgbclibagaaROnes
import Derived.Test.YtdhfbgbclibagaaRMBase
namespace Go.Proofs.Ytdhfbgbclibagaa.Pure
open Go.RowKit Go.Proofs.Ytdhfbgbclibagaa.P Go.Proofs.YtdhfbgbclibagaaW.PrintWords Go.Proofs.YtdhfbgbclibagaaW.PrintLast Go.Proofs.YtdhfbgbclibagaaW.PrintMore
set_option linter.unusedVariables false
set_option linter.unusedSimpArgs false
theorem and_u64 (x y : Nat) (hx : x < 2 ^ 62) (hy : y < 2 ^ 63) : Go.bits .and .u64 (x : Int) (y : Int) = ((x &&& y : Nat) : Int) :=
  (bits_nat .u64 63 (by decide) (fun n h0 h1 => M.u64_in n h0 (by omega)) x y (by omega) hy).1
theorem step1 (x : Nat) (hx : x < 65536) : IntKind.u64.wrap ((Go.bits .and .u64 ((x : Int) / 2) 6148914691236517205) + (Go.bits .and .u64 (x : Int) 6148914691236517205)) = ((M.oc1 x : Nat) : Int) := by
  have h := M.oc1_lt x hx
  rw [show ((x : Int) / 2) = ((x / 2 : Nat) : Int) from rfl, show (6148914691236517205 : Int) = ((6148914691236517205 : Nat) : Int) from rfl, and_u64 _ _ (by omega) (by decide), and_u64 _ _ (by omega) (by decide), ← Int.natCast_add]
  exact M.u64_in _ (by omega) (by unfold M.oc1 at h; omega)
theorem step2 (x : Nat) (hx : x < 2 ^ 17) : IntKind.u64.wrap ((Go.bits .and .u64 ((x : Int) / 4) 3689348814741910323) + (Go.bits .and .u64 (x : Int) 3689348814741910323)) = ((M.oc2 x : Nat) : Int) := by
  have h := M.oc2_lt x hx
  rw [show ((x : Int) / 4) = ((x / 4 : Nat) : Int) from rfl, show (3689348814741910323 : Int) = ((3689348814741910323 : Nat) : Int) from rfl, and_u64 _ _ (by omega) (by decide), and_u64 _ _ (by omega) (by decide), ← Int.natCast_add]
  exact M.u64_in _ (by omega) (by unfold M.oc2 at h; omega)
theorem step3 (x : Nat) (hx : x < 2 ^ 18) : Go.bits .and .u64 (IntKind.u64.wrap (((x : Int) / 16) + (x : Int))) 1085102592571150095 = ((M.oc3 x : Nat) : Int) := by
  rw [show ((x : Int) / 16) = ((x / 16 : Nat) : Int) from rfl, ← Int.natCast_add, M.u64_in _ (by omega) (by omega), show (1085102592571150095 : Int) = ((1085102592571150095 : Nat) : Int) from rfl, and_u64 _ _ (by omega) (by decide)]
  rfl
theorem step4 (x : Nat) (hx : x < 2 ^ 19) : IntKind.u64.wrap ((x : Int) + ((x : Int) / 256)) = ((M.oc4 x : Nat) : Int) := by
  unfold M.oc4
  rw [M.u64_in _ (by omega) (by omega)]; omega
theorem step5 (x : Nat) (hx : x < 2 ^ 20) : IntKind.u64.wrap ((x : Int) + ((x : Int) / 65536)) = ((M.oc5 x : Nat) : Int) := by
  unfold M.oc5
  rw [M.u64_in _ (by omega) (by omega)]; omega
theorem step6 (x : Nat) (hx : x < 2 ^ 21) : IntKind.u64.wrap ((x : Int) + ((x : Int) / 4294967296)) = ((M.oc6 x : Nat) : Int) := by
  unfold M.oc6
  rw [M.u64_in _ (by omega) (by omega)]; omega
theorem count_eq (x : Nat) (hx : x < 65536) : bits_OnesCount64.f (x : Int) = some ((M.pop 16 x : Nat) : Int) := by
  unfold bits_OnesCount64.f
  rw [step1 x hx]
  have h1 := M.oc1_lt x hx
  have hp := M.oc_popf x hx
  unfold M.oc at hp
  generalize M.oc1 x = a at *
  rw [step2 a h1]
  have h2 := M.oc2_lt a h1
  generalize M.oc2 a = b at *
  rw [step3 b h2]
  have h3 := M.oc3_lt b h2
  generalize M.oc3 b = c at *
  have h4 : M.oc4 c < 2 ^ 20 := by unfold M.oc4; omega
  rw [step4 c h3]
  generalize M.oc4 c = d at *
  have h5 : M.oc5 d < 2 ^ 21 := by unfold M.oc5; omega
  rw [step5 d h4]
  generalize M.oc5 d = e at *
  have h6 : M.oc6 e < 2 ^ 22 := by unfold M.oc6; omega
  rw [step6 e h5]
  generalize M.oc6 e = f at *
  rw [M.w64_in _ (by omega) (by omega), show (127 : Int) = ((127 : Nat) : Int) from rfl, M.and_nat f 127 (by omega) (by decide), hp, M.popf_pop]
theorem ones_eq (x : Nat) (hx : x < 65536) : impl_ones.f (x : Int) = some ((M.pop 16 x : Nat) : Int) := by
  unfold impl_ones.f
  rw [M.u64_in _ (by omega) (by omega), count_eq x hx]
  rfl
end Go.Proofs.Ytdhfbgbclibagaa.Pure
