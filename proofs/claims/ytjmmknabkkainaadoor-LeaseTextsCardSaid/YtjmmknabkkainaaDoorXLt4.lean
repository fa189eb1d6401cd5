-- MADE BY wip/xprint.py (this session's own program, over the kit's print): not typed by hand; Lean checks it.
import Derived.Test.YtjmmknabkkainaaDoorXLt0
import Derived.Test.YtjmmknabkkainaaDoorShelfB
import Derived.Lib.ItoaMem
namespace Go.Proofs.YtjmmknabkkainaaDoor.XLt
open Go.RowKit Go.Proofs.YtjmmknabkkainaaDoorW.PrintWords Go.Proofs.YtjmmknabkkainaaDoorW.PrintLast Go.Proofs.YtjmmknabkkainaaDoorW.PrintMore
attribute [local go_sem] max2_int min2_int max_two min_two max_three min_three max_four min_four   -- for this text's walks alone
set_option linter.unusedVariables false
set_option linter.unusedSimpArgs false

noncomputable section
/-! ### EXT strings_Join: function 14 -/
def strings_Join.f (a0 : List ByteArray) (a1 : ByteArray) : Option ByteArray :=
  if a0.length ≤ 140737488355328 ∧ (Lib.join (a0.map (·.data.toList)) a1.data.toList).length ≤ 140737488355328 then some ⟨(Lib.join (a0.map (·.data.toList)) a1.data.toList).toArray⟩ else none
theorem strings_Join.spot (w : World) (ad : Addr) (v : Value) (h : w.cell? ad = some v) : ad.spot = none ∧ ad.block < w.heap.size := by
  refine ⟨?_, cell_lt h⟩
  unfold World.cell? at h
  split at h
  · split at h
    · cases h
    · rename_i hs; simpa using hs
  · cases h
theorem strings_Join.calls (A0 : Option Addr) (c0 : Nat) (l0 : List ByteArray) (a1 : ByteArray) (r : ByteArray) (w : World) (hr0 : Kd.C Kd.string w A0 l0.length l0) (hc0 : l0.length ≤ c0) (h : strings_Join.f l0 a1 = some r) :
    Calls Tryd.prog 14 #[.slice A0 l0.length c0, .string a1] w fun e w' => e = .returned (.string r) ∧ Below w.heap.size w w' := by
  unfold strings_Join.f at h
  split at h
  · rename_i hh
    injection h with h
    subst h
    cases l0 with
    | nil => exact (Tryd.strings_Join_none A0 c0 a1 w).mono fun e w' ⟨he, hw⟩ => ⟨he, hw ▸ Below.refl _ _⟩
    | cons x rest =>
      obtain ⟨_, _, hA⟩ := hr0
      obtain ⟨ad, rfl, hcell⟩ := hA (by simp)
      have one : ∀ (j : Nat) y, (x :: rest)[j]? = some y → w.cell? (ad.add j) = some (.string y) := by
        intro j y hy
        obtain ⟨c, _, hK, hu⟩ := hcell j y hy
        have hK' : c = [.string y] := hK
        subst hK'
        have e := hu 0 (.string y) rfl
        have es : Kd.string.sz = 1 := rfl
        rw [es, Nat.mul_one, Nat.add_zero] at e
        exact e
      have h0 := one 0 x rfl
      rw [show ad.add 0 = ad from by unfold Addr.add; rw [if_pos rfl]] at h0
      obtain ⟨hs, hb⟩ := strings_Join.spot w ad _ h0
      obtain ⟨b, o, s⟩ := ad
      obtain rfl : s = none := hs
      exact Tryd.strings_Join b o c0 (x :: rest) a1 w (fun j y hy => by rw [← Lib.add_plain]; exact one j y hy) hb hh.1 hc0 hh.2
  · cases h

end
end Go.Proofs.YtjmmknabkkainaaDoor.XLt
