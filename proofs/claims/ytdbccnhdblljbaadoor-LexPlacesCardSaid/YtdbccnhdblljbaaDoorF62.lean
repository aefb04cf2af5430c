-- Written by this session's program drv.py, by means of the kit's printer; not a text of print.sh.
import Derived.Test.YtdbccnhdblljbaaDoorF0
import Derived.Test.YtdbccnhdblljbaaDoorShelf
namespace Go.Proofs.YtdbccnhdblljbaaDoor.P
open Go.RowKit Go.Proofs.YtdbccnhdblljbaaDoorW.PrintWords Go.Proofs.YtdbccnhdblljbaaDoorW.PrintLast Go.Proofs.YtdbccnhdblljbaaDoorW.PrintMore
attribute [local go_sem] max2_int min2_int max_two min_two max_three min_three max_four min_four   -- for this text's walks alone
set_option linter.unusedVariables false
set_option linter.unusedSimpArgs false

def strings_Count.f (a0 a1 : ByteArray) : Option Int := if a1.size = 1 then some (Lib.countByte a0.data.toList (a1.data.toList.getD 0 0)) else none
theorem strings_Count.calls (a0 a1 : ByteArray) (r : Int) (w : World) (h : strings_Count.f a0 a1 = some r) :
    Calls Tryd.prog 62 #[.string a0, .string a1] w fun e w' => e = .returned (.int .i64 r) ∧ Drawn0 w w' := by
  unfold strings_Count.f at h
  split at h
  case isFalse => cases h
  case isTrue hs =>
  obtain rfl := Option.some.inj h
  have e : a1 = ⟨#[a1.data.toList.getD 0 0]⟩ := by
    have hl : a1.data.toList.length = 1 := by rw [← hs]; simp
    obtain ⟨x, hx⟩ := List.length_eq_one_iff.1 hl
    apply ByteArray.ext
    apply Array.toList_inj.1
    rw [hx]
    rfl
  generalize a1.data.toList.getD 0 0 = c at *
  subst e
  exact (Tryd.strings_Count_one a0 c w).mono fun e w' ⟨h1, h2⟩ => ⟨h1, h2 ▸ Drawn0.refl _⟩

end Go.Proofs.YtdbccnhdblljbaaDoor.P
