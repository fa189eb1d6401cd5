-- MADE BY wip/xprint.py (this session's own program, over the kit's print): not typed by hand; Lean checks it.
import Derived.Test.YtjmmknabkkainaaDoorXLt0
namespace Go.Proofs.YtjmmknabkkainaaDoor.XLt
open Go.RowKit Go.Proofs.YtjmmknabkkainaaDoorW.PrintWords Go.Proofs.YtjmmknabkkainaaDoorW.PrintLast Go.Proofs.YtjmmknabkkainaaDoorW.PrintMore
attribute [local go_sem] max2_int min2_int max_two min_two max_three min_three max_four min_four   -- for this text's walks alone
set_option linter.unusedVariables false
set_option linter.unusedSimpArgs false

noncomputable section
/-! ### EXT lease_names: function 12 -/
def lease_names.arr : Array Value := #[.string ⟨#[]⟩, .string ⟨#[72, 68]⟩, .string ⟨#[86, 65]⟩, .string ⟨#[69, 78]⟩, .string ⟨#[78, 70]⟩, .string ⟨#[78, 83]⟩, .string ⟨#[69, 88]⟩, .string ⟨#[67, 76, 73, 69, 78, 84, 95, 69, 82, 82, 79, 82, 32, 99, 97, 110, 110, 111, 116, 32, 105, 110, 99, 114, 101, 109, 101, 110, 116, 32, 111, 114, 32, 100, 101, 99, 114, 101, 109, 101, 110, 116, 32, 110, 111, 110, 45, 110, 117, 109, 101, 114, 105, 99, 32, 118, 97, 108, 117, 101]⟩, .string ⟨#[83, 69, 82, 86, 69, 82, 95, 69, 82, 82, 79, 82, 32, 111, 98, 106, 101, 99, 116, 32, 116, 111, 111, 32, 108, 97, 114, 103, 101, 32, 102, 111, 114, 32, 99, 97, 99, 104, 101]⟩, .string ⟨#[77, 78]⟩, .string ⟨#[77, 69]⟩]
/-- The word at a place. -/
def lease_names.word (j : Int) : ByteArray := match lease_names.arr[j.toNat]? with
  | some (.string s) => s
  | _ => ⟨#[]⟩
def lease_names.f : Option Unit := some ()
theorem lease_names.index (j : Int) (W : World) (h0 : 0 ≤ j) (h1 : j < 11) : (Instr.index 39 (.agg lease_names.arr) (.int .i64 j)).run Tryd.prog W = .ok (.string (lease_names.word j)) W := by
  have hj : j = 0 ∨ j = 1 ∨ j = 2 ∨ j = 3 ∨ j = 4 ∨ j = 5 ∨ j = 6 ∨ j = 7 ∨ j = 8 ∨ j = 9 ∨ j = 10 := by omega
  rcases hj with rfl | rfl | rfl | rfl | rfl | rfl | rfl | rfl | rfl | rfl | rfl <;> rfl
set_option maxHeartbeats 4000000 in
set_option maxRecDepth 100000 in
theorem lease_names.calls (w : World) (h : lease_names.f = some ()) :
    Calls Tryd.prog 12 #[] w fun e w' => e = .returned (.agg lease_names.arr) ∧ Below w.heap.size w w' := by
  go_enter Tryd.func12, Tryd.ntmps12
  go_wp2
  exact bodyPost_ret (results_cell_row rfl _ _ w.heap.size 39 lease_names.arr (0, 0) _ rfl (Go.heap_alloc_new w _) Tryd.underlying39 rfl (by kernel_rfl)) rfl ⟨rfl, (Below.refl _ _).alloc (Nat.le_refl _) _⟩

end
end Go.Proofs.YtjmmknabkkainaaDoor.XLt
