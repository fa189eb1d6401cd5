-- MADE BY wip/xprint.py (this session's own program, over the kit's print): not typed by hand; Lean checks it.
import Derived.Test.YtfkcdhcmbdmcdaaDoorXSw0
import Derived.Test.YtfkcdhcmbdmcdaaDoorShelf
namespace Go.Proofs.YtfkcdhcmbdmcdaaDoor.XSw
open Go.RowKit Go.Proofs.YtfkcdhcmbdmcdaaDoorW.PrintWords Go.Proofs.YtfkcdhcmbdmcdaaDoorW.PrintLast Go.Proofs.YtfkcdhcmbdmcdaaDoorW.PrintMore
attribute [local go_sem] extract_sub max2_int min2_int max_two min_two max_three min_three max_four min_four   -- for this text's walks alone
set_option linter.unusedVariables false
set_option linter.unusedSimpArgs false

noncomputable section
/-! ### EXT strings_Trim: function 75 -/
def strings_Trim.f (a0 a1 : ByteArray) : Option ByteArray :=
  match a1.data.toList with
  | [c] => if c.toNat < 128 ∧ a0.size ≤ 9223372036854775807 then some ⟨(Lib.trimB a0.data.toList c).toArray⟩ else none
  | _ => none
theorem strings_Trim.calls (a0 a1 : ByteArray) (r : ByteArray) (w : World) (h : strings_Trim.f a0 a1 = some r) :
    Calls Tryd.prog 75 #[.string a0, .string a1] w fun e w' => e = .returned (.string r) ∧ Drawn0 w w' := by
  unfold strings_Trim.f at h
  split at h
  · rename_i c hc
    split at h
    · rename_i hh
      injection h with h
      subst h
      have e1 : a1 = ⟨#[c]⟩ := by
        cases a1
        rename_i d
        congr 1
        exact Array.toList_inj.1 hc
      subst e1
      refine (Tryd.strings_Trim_one a0 c hh.1 w hh.2).mono ?_
      rintro e w' ⟨he, hw | hw⟩
      · exact ⟨he, by rw [hw]; exact Drawn0.refl _⟩
      · exact ⟨he, by rw [hw]; exact ⟨⟨1, rfl⟩⟩⟩
    · cases h
  · cases h

end
end Go.Proofs.YtfkcdhcmbdmcdaaDoor.XSw
