import Derived.Test.YtgipepjpkmlmaaaE4
import Derived.Test.YtgipepjpkmlmaaaF25
import Derived.Test.YtgipepjpkmlmaaaF16
namespace Go.Proofs.Ytgipepjpkmlmaaa.P
open Go.RowKit Go.Proofs.YtgipepjpkmlmaaaW.PrintWords Go.Proofs.YtgipepjpkmlmaaaW.PrintLast Go.Proofs.YtgipepjpkmlmaaaW.PrintMore
set_option linter.unusedVariables false
set_option linter.unusedSimpArgs false

def awG : S23 := ⟨10, 10, 0⟩
def awL : List S50 := [⟨1, 3, ⟨#[10]⟩⟩, ⟨1, 12, ⟨#[14]⟩⟩, ⟨1, 4, ⟨#[18]⟩⟩]
def awZ : S28 := ⟨-1, 0, 0, 0, []⟩
theorem aw5 : headgateref01_Put.f 5 5 = some ⟨#[10]⟩ := by kernel_rfl
theorem aw7 : headgateref01_Put.f 5 7 = some ⟨#[14]⟩ := by kernel_rfl
theorem aw9 : headgateref01_Put.f 5 9 = some ⟨#[18]⟩ := by kernel_rfl
theorem awC : checkP awG awZ = true := by kernel_rfl
theorem awV : valP ⟨#[10]⟩ = (5, true) := by kernel_rfl
theorem awR : (runP awG awZ awL).2.2 = 0 := by kernel_rfl
theorem awR0 : (runP awG awZ awL).1.f0 = 12 := by kernel_rfl
theorem awR1 : (runP awG awZ awL).1.f1 = 1 := by kernel_rfl
theorem awR2 : (runP awG awZ awL).1.f2 = 0 := by kernel_rfl
theorem awR3 : (runP awG awZ awL).1.f3 = 3 := by kernel_rfl
theorem awR4 : (runP awG awZ awL).1.f4.length = 1 := by kernel_rfl
theorem awO : (runP awG awZ awL).2.1.length = 1 := by kernel_rfl
theorem awO0 : (rd_T46 (runP awG awZ awL).2.1 0).f0 = 1 := by kernel_rfl
theorem awO1 : (rd_T46 (runP awG awZ awL).2.1 0).f1 = 0 := by kernel_rfl
theorem awO2 : (rd_T46 (runP awG awZ awL).2.1 0).f2.f1 = 5 := by kernel_rfl
end Go.Proofs.Ytgipepjpkmlmaaa.P
