-- MADE BY wip/xprint.py (this session's own program, over the kit's print): not typed by hand; Lean checks it.
import Derived.Test.YtjmmknabkkainaaDoorXMl0
namespace Go.Proofs.YtjmmknabkkainaaDoor.XMl
open Go.RowKit Go.Proofs.YtjmmknabkkainaaDoorW.PrintWords Go.Proofs.YtjmmknabkkainaaDoorW.PrintLast Go.Proofs.YtjmmknabkkainaaDoorW.PrintMore
attribute [local go_sem] max2_int min2_int max_two min_two max_three min_three max_four min_four   -- for this text's walks alone
set_option linter.unusedVariables false
set_option linter.unusedSimpArgs false

noncomputable section
/-! ### meta_letter: function 20 -/
def meta_letter.f (a0 : Int) : Option (Int) := if (Go.bits .and .u32 a0 63) < 26 then (some (((65 + (Go.bits .and .u32 a0 63)) % 4294967296) % 256)) else (if (Go.bits .and .u32 a0 63) < 52 then (some (((((97 + (Go.bits .and .u32 a0 63)) % 4294967296) - 26) % 4294967296) % 256)) else (if (Go.bits .and .u32 a0 63) < 62 then (some (((((48 + (Go.bits .and .u32 a0 63)) % 4294967296) - 52) % 4294967296) % 256)) else (if (Go.bits .and .u32 a0 63) = 62 then (some 43) else (some 47))))
set_option maxHeartbeats 8000000 in
set_option maxRecDepth 100000 in
theorem meta_letter.calls (a0 : Int) (r : Int) (w : World) (h : meta_letter.f a0 = some r) :
    Calls Tryd.prog 20 #[.int .u32 a0] w fun e w' => e = .returned (.int .u8 r) ∧ Drawn0 w w' := by
  have H : (if (Go.bits .and .u32 a0 63) < 26 then (some (((65 + (Go.bits .and .u32 a0 63)) % 4294967296) % 256)) else (if (Go.bits .and .u32 a0 63) < 52 then (some (((((97 + (Go.bits .and .u32 a0 63)) % 4294967296) - 26) % 4294967296) % 256)) else (if (Go.bits .and .u32 a0 63) < 62 then (some (((((48 + (Go.bits .and .u32 a0 63)) % 4294967296) - 52) % 4294967296) % 256)) else (if (Go.bits .and .u32 a0 63) = 62 then (some 43) else (some 47))))) = some r := h
  clear h
  by_cases c2 : (Go.bits .and .u32 a0 63) < 26
  · rw [if_pos c2] at H
    have c2b0 : decide ((Go.bits .and .u32 a0 63) < 26) = true := decide_eq_true c2
    clear c2
    obtain rfl := Option.some.inj H
    go_enter Tryd.func20, Tryd.ntmps20
    go_wp2
    go_ret
    exact ⟨by first | rfl | (simp; done) | (simp [*]; done), by repeat (first | exact Drawn0.refl _ | apply Drawn0.step)⟩
  · rw [if_neg c2] at H
    have c2b0 : decide ((Go.bits .and .u32 a0 63) < 26) = false := decide_eq_false c2
    clear c2
    by_cases c3 : (Go.bits .and .u32 a0 63) < 52
    · rw [if_pos c3] at H
      have c3b0 : decide ((Go.bits .and .u32 a0 63) < 52) = true := decide_eq_true c3
      clear c3
      obtain rfl := Option.some.inj H
      go_enter Tryd.func20, Tryd.ntmps20
      go_wp2
      go_ret
      exact ⟨by first | rfl | (simp; done) | (simp [*]; done), by repeat (first | exact Drawn0.refl _ | apply Drawn0.step)⟩
    · rw [if_neg c3] at H
      have c3b0 : decide ((Go.bits .and .u32 a0 63) < 52) = false := decide_eq_false c3
      clear c3
      by_cases c4 : (Go.bits .and .u32 a0 63) < 62
      · rw [if_pos c4] at H
        have c4b0 : decide ((Go.bits .and .u32 a0 63) < 62) = true := decide_eq_true c4
        clear c4
        obtain rfl := Option.some.inj H
        go_enter Tryd.func20, Tryd.ntmps20
        go_wp2
        go_ret
        exact ⟨by first | rfl | (simp; done) | (simp [*]; done), by repeat (first | exact Drawn0.refl _ | apply Drawn0.step)⟩
      · rw [if_neg c4] at H
        have c4b0 : decide ((Go.bits .and .u32 a0 63) < 62) = false := decide_eq_false c4
        clear c4
        by_cases c5 : (Go.bits .and .u32 a0 63) = 62
        · rw [if_pos c5] at H
          have c5b0 : ((Go.bits .and .u32 a0 63) == 62) = true := beq_iff_eq.mpr c5
          have c5b1 : ((Go.bits .and .u32 a0 63) != 62) = false := bne_eq_false_iff_eq.mpr c5
          clear c5
          obtain rfl := Option.some.inj H
          go_enter Tryd.func20, Tryd.ntmps20
          go_wp2
          go_ret
          exact ⟨by first | rfl | (simp; done) | (simp [*]; done), by repeat (first | exact Drawn0.refl _ | apply Drawn0.step)⟩
        · rw [if_neg c5] at H
          have c5b0 : ((Go.bits .and .u32 a0 63) == 62) = false := beq_eq_false_iff_ne.mpr c5
          have c5b1 : ((Go.bits .and .u32 a0 63) != 62) = true := bne_iff_ne.mpr c5
          obtain rfl := Option.some.inj H
          go_enter Tryd.func20, Tryd.ntmps20
          go_wp2
          go_ret
          exact ⟨by first | rfl | (simp; done) | (simp [*]; done), by repeat (first | exact Drawn0.refl _ | apply Drawn0.step)⟩

end
end Go.Proofs.YtjmmknabkkainaaDoor.XMl
