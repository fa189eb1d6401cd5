/- Put together by wip/pack.py (this session's own program) out of this session's texts; a kit's tool laid the words and the shelf, of which only what is used stands here. Lean checks it. -/
import Derived.Test.YteddljbdjgdlnaaDoorPSn1
import Derived.Lib.ItoaMem
import Derived.Lib.AppendIntMem
import Derived.Lib.Hide
section
namespace Go.Proofs.YteddljbdjgdlnaaDoor.XSb
open Go.RowKit Go.Proofs.YteddljbdjgdlnaaDoorW.PrintWords Go.Proofs.YteddljbdjgdlnaaDoorW.PrintLast Go.Proofs.YteddljbdjgdlnaaDoorW.PrintMore
attribute [local go_sem] extract_sub max2_int min2_int max_two min_two max_three min_three max_four min_four   -- for this text's walks alone
set_option linter.unusedVariables false
set_option linter.unusedSimpArgs false

noncomputable section
attribute [local go_sem high] eqA52
def stringslite_HasPrefix.f (a0 : ByteArray) (a1 : ByteArray) : Option (Bool) := if (a0.size : Int) ≥ (a1.size : Int) then (if 0 ≤ (a1.size : Int) then (if (a1.size : Int) ≤ (a0.size : Int) then (some ((sub a0 0 ((a1.size : Int) : Int).toNat).toList == a1.toList)) else (none)) else (none)) else (some false)
set_option maxHeartbeats 8000000 in
set_option maxRecDepth 100000 in
theorem stringslite_HasPrefix.calls (a0 : ByteArray) (a1 : ByteArray) (r : Bool) (w : World) (h : stringslite_HasPrefix.f a0 a1 = some r) :
 Calls Tryd.prog 101 #[.string a0, .string a1] w fun e w' => e = .returned (.bool r) ∧ Drawn0 w w' := by
 have H : (if (a0.size : Int) ≥ (a1.size : Int) then (if 0 ≤ (a1.size : Int) then (if (a1.size : Int) ≤ (a0.size : Int) then (some ((sub a0 0 ((a1.size : Int) : Int).toNat).toList == a1.toList)) else (none)) else (none)) else (some false)) = some r := h
 clear h
 by_cases c3 : (a0.size : Int) ≥ (a1.size : Int)
 · rw [if_pos c3] at H
   have c3b0 : decide ((a1.size : Int) ≤ (a0.size : Int)) = true := decide_eq_true c3
   have c3b1 : decide (a1.size ≤ a0.size) = true := decide_eq_true (Int.ofNat_le.mp c3)
   clear c3
   by_cases c4 : 0 ≤ (a1.size : Int)
   · rw [if_pos c4] at H
     have c4b0 := eq_true c4
     have c4b1 : decide (0 ≤ (a1.size : Int)) = true := decide_eq_true c4
     clear c4
     by_cases c5 : (a1.size : Int) ≤ (a0.size : Int)
     · rw [if_pos c5] at H
       have c5b0 := eq_true c5
       have c5b1 : decide ((a1.size : Int) ≤ (a0.size : Int)) = true := decide_eq_true c5
       clear c5
       obtain rfl := Option.some.inj H
       go_enter Tryd.func101, Tryd.ntmps101
       go_wp2
       go_ret
       exact ⟨rsA, drA⟩
     rw [if_neg c5] at H
     exact absurd H (by simp)
   rw [if_neg c4] at H
   exact absurd H (by simp)
 rw [if_neg c3] at H
 have c3b0 : decide ((a1.size : Int) ≤ (a0.size : Int)) = false := decide_eq_false c3
 have c3b1 : decide (a1.size ≤ a0.size) = false := decide_eq_false (fun h => c3 (Int.ofNat_le.mpr h))
 clear c3
 obtain rfl := Option.some.inj H
 go_enter Tryd.func101, Tryd.ntmps101
 go_wp2
 go_ret
 exact ⟨rsA, drA⟩

def stringslite_CutPrefix.f (a0 : ByteArray) (a1 : ByteArray) : Option (ByteArray × Bool) := (stringslite_HasPrefix.f a0 a1).bind fun t117 => (if t117 = true then (if 0 ≤ (a1.size : Int) then (if (a1.size : Int) ≤ (a0.size : Int) then (some (sub a0 ((a1.size : Int) : Int).toNat a0.size, true)) else (none)) else (none)) else (some (a0, false)))
set_option maxHeartbeats 8000000 in
set_option maxRecDepth 100000 in
theorem stringslite_CutPrefix.calls (a0 : ByteArray) (a1 : ByteArray) (r1 : ByteArray) (r2 : Bool) (w : World) (h : stringslite_CutPrefix.f a0 a1 = some (r1, r2)) :
 Calls Tryd.prog 83 #[.string a0, .string a1] w fun e w' => e = .returned (.tuple #[.string r1, .bool r2]) ∧ Drawn0 w w' := by
 have H : ((stringslite_HasPrefix.f a0 a1).bind fun t117 => (if t117 = true then (if 0 ≤ (a1.size : Int) then (if (a1.size : Int) ≤ (a0.size : Int) then (some (sub a0 ((a1.size : Int) : Int).toNat a0.size, true)) else (none)) else (none)) else (some (a0, false)))) = some (r1, r2) := h
 clear h
 replace H := Option.bind_eq_some_iff.mp H
 obtain ⟨t117, A30, H⟩ := H
 replace H : (if t117 = true then (if 0 ≤ (a1.size : Int) then (if (a1.size : Int) ≤ (a0.size : Int) then (some (sub a0 ((a1.size : Int) : Int).toNat a0.size, true)) else (none)) else (none)) else (some (a0, false))) = some (r1, r2) := H
 have A3 := Aside0.mk A30
 clear A30
 by_cases c4 : t117 = true
 · subst c4
   have H1 : (if 0 ≤ (a1.size : Int) then (if (a1.size : Int) ≤ (a0.size : Int) then (some (sub a0 ((a1.size : Int) : Int).toNat a0.size, true)) else (none)) else (none)) = some (r1, r2) := by rw [if_pos rfl] at H; exact H
   clear H
   have H := H1
   clear H1
   by_cases c5 : 0 ≤ (a1.size : Int)
   · rw [if_pos c5] at H
     have c5b0 := eq_true c5
     have c5b1 : decide (0 ≤ (a1.size : Int)) = true := decide_eq_true c5
     clear c5
     by_cases c6 : (a1.size : Int) ≤ (a0.size : Int)
     · rw [if_pos c6] at H
       have c6b0 := eq_true c6
       have c6b1 : decide ((a1.size : Int) ≤ (a0.size : Int)) = true := decide_eq_true c6
       clear c6
       simp only [Option.some.injEq, Prod.mk.injEq] at H
       obtain ⟨rfl, rfl⟩ := H
       go_enter Tryd.func83, Tryd.ntmps83
       go_wp2_with (first | ((with_reducible refine gate_callee (f := 101) rfl ?_); refine goesL_ (some 8) rfl rfl Tryd.func101 (by kernel_rfl) rfl #[.string a0, .string a1] rfl argA ?_; (with_reducible refine (stringslite_HasPrefix.calls a0 a1 true _ A3.out).mono ?_); rintro e w' ⟨rfl, ⟨nd, rfl⟩⟩; refine ⟨_, rfl, ?_⟩))
       go_ret2
       exact ⟨rsA, drA⟩
     rw [if_neg c6] at H
     exact absurd H (by simp)
   rw [if_neg c5] at H
   exact absurd H (by simp)
 replace c4 := Bool.eq_false_iff.mpr c4
 subst c4
 have H1 : (some (a0, false)) = some (r1, r2) := by rw [if_neg (show ¬ (false = true) by decide)] at H; exact H
 clear H
 have H := H1
 clear H1
 simp only [Option.some.injEq, Prod.mk.injEq] at H
 obtain ⟨rfl, rfl⟩ := H
 go_enter Tryd.func83, Tryd.ntmps83
 go_wp2_with (first | ((with_reducible refine gate_callee (f := 101) rfl ?_); refine goesL_ (some 8) rfl rfl Tryd.func101 (by kernel_rfl) rfl #[.string a0, .string a1] rfl argA ?_; (with_reducible refine (stringslite_HasPrefix.calls a0 a1 false _ A3.out).mono ?_); rintro e w' ⟨rfl, ⟨nd, rfl⟩⟩; refine ⟨_, rfl, ?_⟩))
 go_ret2
 exact ⟨rsA, drA⟩

def strings_CutPrefix.f (a0 : ByteArray) (a1 : ByteArray) : Option (ByteArray × Bool) := (stringslite_CutPrefix.f a0 a1).bind fun bt118 => (some (bt118.1, bt118.2))
set_option maxHeartbeats 8000000 in
set_option maxRecDepth 100000 in
theorem strings_CutPrefix.calls (a0 : ByteArray) (a1 : ByteArray) (r1 : ByteArray) (r2 : Bool) (w : World) (h : strings_CutPrefix.f a0 a1 = some (r1, r2)) :
 Calls Tryd.prog 62 #[.string a0, .string a1] w fun e w' => e = .returned (.tuple #[.string r1, .bool r2]) ∧ Drawn0 w w' := by
 have H : ((stringslite_CutPrefix.f a0 a1).bind fun bt118 => (some (bt118.1, bt118.2))) = some (r1, r2) := h
 clear h
 replace H := Option.bind_eq_some_iff.mp H
 obtain ⟨⟨t118, t119⟩, A30, H⟩ := H
 replace H : (some (t118, t119)) = some (r1, r2) := H
 have A3 := Aside0.mk A30
 clear A30
 simp only [Option.some.injEq, Prod.mk.injEq] at H
 obtain ⟨rfl, rfl⟩ := H
 go_enter Tryd.func62, Tryd.ntmps62
 go_wp2_with (first | ((with_reducible refine gate_callee (f := 83) rfl ?_); refine goesL_ (some 8) rfl rfl Tryd.func83 (by kernel_rfl) rfl #[.string a0, .string a1] rfl argA ?_; (with_reducible refine (stringslite_CutPrefix.calls a0 a1 t118 t119 _ A3.out).mono ?_); rintro e w' ⟨rfl, ⟨nd, rfl⟩⟩; refine ⟨_, rfl, ?_⟩))
 go_ret2
 exact ⟨rsA, drA⟩

def stat_Read.l0 : Nat → ByteArray → List (S83) → ByteArray → Option ((List (S83)) × Int × Int)
 | 0, _, _, _ => none
 | k + 1, x0, x5, x6 => (strings_Cut.f x6 (⟨#[13, 10]⟩ : ByteArray)).bind fun bt120 => (if bt120.2.2 = true then (if bt120.1.toList = ([69, 78, 68] : List UInt8) then (if (x5.length : Int) > 1000 then (some (([] : List (S83)), 0, 7)) else (some (x5, wrap64 ((x0.size : Int) - (bt120.2.1.size : Int)), 0))) else ((strings_CutPrefix.f bt120.1 (⟨#[83, 84, 65, 84, 32]⟩ : ByteArray)).bind fun bt123 => ((strings_Cut.f bt123.1 (⟨#[32]⟩ : ByteArray)).bind fun bt125 => (if bt123.2 = true then (if bt125.2.2 = true then ((stat_may.f k bt125.1 bt125.2.1).bind fun t129 => (if t129 = true then (if x5.length < 4398046511104 then (stat_Read.l0 k x0 (x5 ++ [(⟨bt125.1, bt125.2.1⟩ : S83)]) bt120.2.1) else (none)) else (some (([] : List (S83)), 0, 6)))) else (some (([] : List (S83)), 0, 6))) else (some (([] : List (S83)), 0, 6)))))) else (some (([] : List (S83)), 0, 6)))
def stat_Read.f (k : Nat) (a0 : ByteArray) : Option ((List (S83)) × Int × Int) := stat_Read.l0 k a0 ([] : List (S83)) a0
theorem stat_Read.mono_l : ∀ k, (∀ y0 y1 y2, LeO (stat_Read.l0 k y0 y1 y2) (stat_Read.l0 (k + 1) y0 y1 y2))
 | 0 => fun _ _ _ r h => by simp [stat_Read.l0] at h
 | k + 1 => by
  have ih0 := stat_Read.mono_l k
  · intro y0 y1 y2
    unfold stat_Read.l0
    repeat' first
    | (with_reducible exact ih0 _ _ _)
    | (with_reducible exact stat_may.mono _ _ _)
    | (with_reducible exact LeO.refl _)
    | (with_reducible exact LeO.none _)
    | (with_reducible refine LeO.ite ?_ ?_)
    | (with_reducible refine LeO.bind ?_ (fun _ => ?_))
    | exact ih0 _ _ _
    | exact stat_may.mono _ _ _
    | exact LeO.none _
    | refine LeO.ite ?_ ?_
    | refine LeO.bind ?_ (fun _ => ?_)
theorem stat_Read.mono : ∀ a0 k, LeO (stat_Read.f k a0) (stat_Read.f (k + 1) a0) := by
 intro a0 k
 have ih0 := stat_Read.mono_l k
 unfold stat_Read.f
 repeat' first
  | (with_reducible exact ih0 _ _ _)
  | (with_reducible exact stat_may.mono _ _ _)
  | (with_reducible exact LeO.refl _)
  | (with_reducible exact LeO.none _)
  | (with_reducible refine LeO.ite ?_ ?_)
  | (with_reducible refine LeO.bind ?_ (fun _ => ?_))
  | exact ih0 _ _ _
  | exact stat_may.mono _ _ _
  | exact LeO.none _
  | refine LeO.ite ?_ ?_
  | refine LeO.bind ?_ (fun _ => ?_)
set_option maxHeartbeats 8000000 in
set_option maxRecDepth 100000 in
theorem stat_Read.calls (k : Nat) (a0 : ByteArray) (r1 : List (S83)) (r2 : Int) (r3 : Int) (w : World) (hv : Vars w) (h : stat_Read.f k a0 = some (r1, r2, r3)) :
 Calls Tryd.prog 29 #[.string a0] w fun e w' => ∃ v0_ : Value, e = .returned (.tuple #[v0_, .int .i64 r2, .int .i64 r3]) ∧ Kd.R k83 83 w' w.heap.size (fun _ => True) v0_ r1 ∧ Below w.heap.size w w' := by
 have hu83 := Tryd.underlying83
 have HV := Aside0.mk hv
 clear hv
 have HB := Aside0.mk (Below.refl w.heap.size w)
 have H : (stat_Read.l0 k a0 ([] : List (S83)) a0) = some (r1, r2, r3) := h
 clear h
 have H' := Aside0.mk H
 clear H
 go_enter Tryd.func29, Tryd.ntmps29
 go_wp2
 go_loopg [5, 6] k (fun kq v5 v6 w' => ∃ (x5_1 : List (S83)) (x6_1 : ByteArray), v6 = .string x6_1 ∧ Aside0 (stat_Read.l0 kq a0 x5_1 x6_1 = some (r1, r2, r3)) ∧ Aside0 (kq ≤ k) ∧ Aside0 (Kd.R k83 83 w' w.heap.size (fun _ => True) v5 x5_1) ∧ Aside0 (Below w.heap.size w w'))
 case atStart => exact ⟨(([] : List (S83))), (a0), rsA, H', ⟨Nat.le_refl _⟩, ⟨knA⟩, ⟨hbA HB.out⟩⟩
 case round =>
  clear H'
  obtain ⟨x5_1, x6_1, rfl, HA, HK1, HO_5, HB⟩ := hrel
  cases gk with
  | zero => exact absurd HA.out (by simp [stat_Read.l0])
  | succ k1 =>
   have H := HA.out
   clear HA
   simp only [stat_Read.l0] at H
   replace H := Option.bind_eq_some_iff.mp H
   obtain ⟨⟨t120, t121, t122⟩, A20, H⟩ := H
   replace H : (if t122 = true then (if t120.toList = ([69, 78, 68] : List UInt8) then (if (x5_1.length : Int) > 1000 then (some (([] : List (S83)), 0, 7)) else (some (x5_1, wrap64 ((a0.size : Int) - (t121.size : Int)), 0))) else ((strings_CutPrefix.f t120 (⟨#[83, 84, 65, 84, 32]⟩ : ByteArray)).bind fun bt123 => ((strings_Cut.f bt123.1 (⟨#[32]⟩ : ByteArray)).bind fun bt125 => (if bt123.2 = true then (if bt125.2.2 = true then ((stat_may.f k1 bt125.1 bt125.2.1).bind fun t129 => (if t129 = true then (if x5_1.length < 4398046511104 then (stat_Read.l0 k1 a0 (x5_1 ++ [(⟨bt125.1, bt125.2.1⟩ : S83)]) t121) else (none)) else (some (([] : List (S83)), 0, 6)))) else (some (([] : List (S83)), 0, 6))) else (some (([] : List (S83)), 0, 6)))))) else (some (([] : List (S83)), 0, 6))) = some (r1, r2, r3) := H
   have A2 := Aside0.mk A20
   clear A20
   by_cases c3 : t122 = true
   · subst c3
     have H1 : (if t120.toList = ([69, 78, 68] : List UInt8) then (if (x5_1.length : Int) > 1000 then (some (([] : List (S83)), 0, 7)) else (some (x5_1, wrap64 ((a0.size : Int) - (t121.size : Int)), 0))) else ((strings_CutPrefix.f t120 (⟨#[83, 84, 65, 84, 32]⟩ : ByteArray)).bind fun bt123 => ((strings_Cut.f bt123.1 (⟨#[32]⟩ : ByteArray)).bind fun bt125 => (if bt123.2 = true then (if bt125.2.2 = true then ((stat_may.f k1 bt125.1 bt125.2.1).bind fun t129 => (if t129 = true then (if x5_1.length < 4398046511104 then (stat_Read.l0 k1 a0 (x5_1 ++ [(⟨bt125.1, bt125.2.1⟩ : S83)]) t121) else (none)) else (some (([] : List (S83)), 0, 6)))) else (some (([] : List (S83)), 0, 6))) else (some (([] : List (S83)), 0, 6)))))) = some (r1, r2, r3) := by rw [if_pos rfl] at H; exact H
     clear H
     have H := H1
     clear H1
     by_cases c4 : t120.toList = ([69, 78, 68] : List UInt8)
     · rw [if_pos c4] at H
       have c4b0 : (t120.toList == ([69, 78, 68] : List UInt8)) = true := beq_iff_eq.mpr c4
       have c4b1 : (t120.toList != ([69, 78, 68] : List UInt8)) = false := bne_eq_false_iff_eq.mpr c4
       clear c4
       by_cases c5 : (x5_1.length : Int) > 1000
       · rw [if_pos c5] at H
         have c5b0 : decide (1000 < (x5_1.length : Int)) = true := decide_eq_true c5
         have c5b1 : decide (1000 < x5_1.length) = true := decide_eq_true (by omega)
         clear c5
         simp only [Option.some.injEq, Prod.mk.injEq] at H
         obtain ⟨rfl, rfl, rfl⟩ := H
         go_wp2_with (first | ((with_reducible refine gate_callee (f := 61) rfl ?_); refine goesL_ (some 17) rfl rfl Tryd.func61 (by kernel_rfl) rfl #[.string x6_1, .string (⟨#[13, 10]⟩ : ByteArray)] rfl argA ?_; (with_reducible refine (strings_Cut.calls x6_1 (⟨#[13, 10]⟩ : ByteArray) t120 t121 true _ ?side1 A2.out).mono ?_); (case side1 => exact Vars.below HV.out (hbA HB.out)); rintro e w' ⟨rfl, ⟨nd, rfl⟩⟩; refine ⟨_, rfl, ?_⟩; obtain ⟨Ao6, co6, eo6⟩ := Kd.R_slice HO_5.out; subst eo6))
         go_ret3
         exact ⟨_, reA, knA, hbA HB.out⟩
       rw [if_neg c5] at H
       have c5b0 : decide (1000 < (x5_1.length : Int)) = false := decide_eq_false c5
       have c5b1 : decide (1000 < x5_1.length) = false := decide_eq_false (by omega)
       clear c5
       simp only [Option.some.injEq, Prod.mk.injEq] at H
       obtain ⟨rfl, rfl, rfl⟩ := H
       go_wp2_with (first | ((with_reducible refine gate_callee (f := 61) rfl ?_); refine goesL_ (some 17) rfl rfl Tryd.func61 (by kernel_rfl) rfl #[.string x6_1, .string (⟨#[13, 10]⟩ : ByteArray)] rfl argA ?_; (with_reducible refine (strings_Cut.calls x6_1 (⟨#[13, 10]⟩ : ByteArray) t120 t121 true _ ?side1 A2.out).mono ?_); (case side1 => exact Vars.below HV.out (hbA HB.out)); rintro e w' ⟨rfl, ⟨nd, rfl⟩⟩; refine ⟨_, rfl, ?_⟩; obtain ⟨Ao7, co7, eo7⟩ := Kd.R_slice HO_5.out; subst eo7))
       go_ret3
       exact ⟨_, reA, by (with_reducible repeat (first | apply Kd.R_alloc | apply Kd.R_drewN | apply Kd.R_drew)); exact HO_5.out, hbA HB.out⟩
     rw [if_neg c4] at H
     have c4b0 : (t120.toList == ([69, 78, 68] : List UInt8)) = false := beq_eq_false_iff_ne.mpr c4
     have c4b1 : (t120.toList != ([69, 78, 68] : List UInt8)) = true := bne_iff_ne.mpr c4
     replace H := Option.bind_eq_some_iff.mp H
     obtain ⟨⟨t123, t124⟩, A80, H⟩ := H
     replace H : ((strings_Cut.f t123 (⟨#[32]⟩ : ByteArray)).bind fun bt125 => (if t124 = true then (if bt125.2.2 = true then ((stat_may.f k1 bt125.1 bt125.2.1).bind fun t129 => (if t129 = true then (if x5_1.length < 4398046511104 then (stat_Read.l0 k1 a0 (x5_1 ++ [(⟨bt125.1, bt125.2.1⟩ : S83)]) t121) else (none)) else (some (([] : List (S83)), 0, 6)))) else (some (([] : List (S83)), 0, 6))) else (some (([] : List (S83)), 0, 6)))) = some (r1, r2, r3) := H
     have A8 := Aside0.mk A80
     clear A80
     replace H := Option.bind_eq_some_iff.mp H
     obtain ⟨⟨t125, t126, t127⟩, A90, H⟩ := H
     replace H : (if t124 = true then (if t127 = true then ((stat_may.f k1 t125 t126).bind fun t129 => (if t129 = true then (if x5_1.length < 4398046511104 then (stat_Read.l0 k1 a0 (x5_1 ++ [(⟨t125, t126⟩ : S83)]) t121) else (none)) else (some (([] : List (S83)), 0, 6)))) else (some (([] : List (S83)), 0, 6))) else (some (([] : List (S83)), 0, 6))) = some (r1, r2, r3) := H
     have A9 := Aside0.mk A90
     clear A90
     by_cases c10 : t124 = true
     · subst c10
       have H1 : (if t127 = true then ((stat_may.f k1 t125 t126).bind fun t129 => (if t129 = true then (if x5_1.length < 4398046511104 then (stat_Read.l0 k1 a0 (x5_1 ++ [(⟨t125, t126⟩ : S83)]) t121) else (none)) else (some (([] : List (S83)), 0, 6)))) else (some (([] : List (S83)), 0, 6))) = some (r1, r2, r3) := by rw [if_pos rfl] at H; exact H
       clear H
       have H := H1
       clear H1
       by_cases c11 : t127 = true
       · subst c11
         have H1 : ((stat_may.f k1 t125 t126).bind fun t129 => (if t129 = true then (if x5_1.length < 4398046511104 then (stat_Read.l0 k1 a0 (x5_1 ++ [(⟨t125, t126⟩ : S83)]) t121) else (none)) else (some (([] : List (S83)), 0, 6)))) = some (r1, r2, r3) := by rw [if_pos rfl] at H; exact H
         clear H
         have H := H1
         clear H1
         replace H := Option.bind_eq_some_iff.mp H
         obtain ⟨t129, A120, H⟩ := H
         replace H : (if t129 = true then (if x5_1.length < 4398046511104 then (stat_Read.l0 k1 a0 (x5_1 ++ [(⟨t125, t126⟩ : S83)]) t121) else (none)) else (some (([] : List (S83)), 0, 6))) = some (r1, r2, r3) := H
         have A12 := Aside0.mk A120
         clear A120
         by_cases c13 : t129 = true
         · subst c13
           have H1 : (if x5_1.length < 4398046511104 then (stat_Read.l0 k1 a0 (x5_1 ++ [(⟨t125, t126⟩ : S83)]) t121) else (none)) = some (r1, r2, r3) := by rw [if_pos rfl] at H; exact H
           clear H
           have H := H1
           clear H1
           by_cases c14 : x5_1.length < 4398046511104
           · rw [if_pos c14] at H
             have LMc14 := Aside0.mk c14
             clear c14
             obtain ⟨y130, hy130⟩ : ∃ y_ : List (S83), y_ = (x5_1 ++ [(⟨t125, t126⟩ : S83)]) := ⟨_, rfl⟩
             replace H : (stat_Read.l0 k1 a0 y130 t121) = some (r1, r2, r3) := by first | (rw [hy130]; with_reducible exact H) | (have H2_ := (Option.bind_some _ _).symm.trans H; rw [hy130]; with_reducible exact H2_) | (have H2_ := (Option.bind_some _ _).symm.trans H; with_reducible exact H2_) | with_reducible exact H | (rw [hy130]; exact H) | exact H
             have Ny130 := Aside0.mk hy130
             clear hy130
             have H' := Aside0.mk H
             clear H
             go_wp2_with (first | ((with_reducible refine gate_callee (f := 61) rfl ?_); refine goesL_ (some 17) rfl rfl Tryd.func61 (by kernel_rfl) rfl #[.string x6_1, .string (⟨#[13, 10]⟩ : ByteArray)] rfl argA ?_; (with_reducible refine (strings_Cut.calls x6_1 (⟨#[13, 10]⟩ : ByteArray) t120 t121 true _ ?side1 A2.out).mono ?_); (case side1 => exact Vars.below HV.out (hbA HB.out)); rintro e w' ⟨rfl, ⟨nd, rfl⟩⟩; refine ⟨_, rfl, ?_⟩; (try (rw [drewN_self wr]; generalize hq_ : World.drewN wr _ = wr; have n0_ : Aside0 (Kd.R k83 83 wr w.heap.size (fun _ => True) u5 x5_1) := ⟨by rw [← hq_]; exact (rdA HO_5.out)⟩; have n1_ : Aside0 (Below w.heap.size w wr) := ⟨by rw [← hq_]; exact (hbA HB.out)⟩; clear HO_5 HB hq_; have HO_5 := n0_; have HB := n1_; clear n0_ n1_))) | ((with_reducible refine gate_callee (f := 62) rfl ?_); refine goesL_ (some 28) rfl rfl Tryd.func62 (by kernel_rfl) rfl #[.string t120, .string (⟨#[83, 84, 65, 84, 32]⟩ : ByteArray)] rfl argA ?_; (with_reducible refine (strings_CutPrefix.calls t120 (⟨#[83, 84, 65, 84, 32]⟩ : ByteArray) t123 true _ A8.out).mono ?_); rintro e w' ⟨rfl, ⟨nd, rfl⟩⟩; refine ⟨_, rfl, ?_⟩; (try (rw [drewN_self wr]; generalize hq_ : World.drewN wr _ = wr; have n0_ : Aside0 (Kd.R k83 83 wr w.heap.size (fun _ => True) u5 x5_1) := ⟨by rw [← hq_]; exact (rdA HO_5.out)⟩; have n1_ : Aside0 (Below w.heap.size w wr) := ⟨by rw [← hq_]; exact (hbA HB.out)⟩; clear HO_5 HB hq_; have HO_5 := n0_; have HB := n1_; clear n0_ n1_))) | ((with_reducible refine gate_callee (f := 61) rfl ?_); refine goesL_ (some 33) rfl rfl Tryd.func61 (by kernel_rfl) rfl #[.string t123, .string (⟨#[32]⟩ : ByteArray)] rfl argA ?_; (with_reducible refine (strings_Cut.calls t123 (⟨#[32]⟩ : ByteArray) t125 t126 true _ ?side1 A9.out).mono ?_); (case side1 => exact Vars.below HV.out (hbA HB.out)); rintro e w' ⟨rfl, ⟨nd, rfl⟩⟩; refine ⟨_, rfl, ?_⟩; (try (rw [drewN_self wr]; generalize hq_ : World.drewN wr _ = wr; have n0_ : Aside0 (Kd.R k83 83 wr w.heap.size (fun _ => True) u5 x5_1) := ⟨by rw [← hq_]; exact (rdA HO_5.out)⟩; have n1_ : Aside0 (Below w.heap.size w wr) := ⟨by rw [← hq_]; exact (hbA HB.out)⟩; clear HO_5 HB hq_; have HO_5 := n0_; have HB := n1_; clear n0_ n1_))) | ((with_reducible refine gate_dst (N := 13) rfl ?_); refine box_event ?hg (N := 13) ?hd (cs := #[.string (⟨#[]⟩ : ByteArray), .string (⟨#[]⟩ : ByteArray)]) (t := 83) ?hr ?_; (case hd => rfl); (case hg => rfl); (case hr => first | (go_simp; done) | (go_simp; rfl)); intro gb128 hg w15 hbox hb; have n0_ := Aside0.mk (Kd.R_below (Kd.R_elderB (rdA HO_5.out) gb128 (Nat.le_of_eq hg.symm)) hb); have n1_ := Aside0.mk (below_step (hbA HB.out) hb); have n2_ := Aside0.mk (hbox); have n3_ := Aside0.mk ((by rw [hg]; exact (below_size (hbA HB.out)) : w.heap.size ≤ gb128)); have n4_ := Aside0.mk ((by rw [hg]; exact (below_size (hbA HB.out)) : w.heap.size ≤ gb128)); clear HO_5; clear HB; have HO_5 := n0_; have HB := n1_; have BK128 := n2_; have GW128 := n3_; have GE128 := n4_; clear n0_ n1_ n2_ n3_ n4_; clear hb hbox hg; obtain ⟨hcz16_0, hcz16_1, hfz16_0, hfz16_1⟩ := blkA2 BK128.out) | (go_at_call 60; (with_reducible refine (stat_may.calls k1 t125 t126 true _ A12.out).mono ?_); rintro e w17 ⟨rfl, hb⟩; have n0_ := Aside0.mk (Kd.R_below (by (with_reducible repeat (first | apply Kd.R_alloc | apply Kd.R_drewN | apply Kd.R_drew)); exact (Kd.R_mono (Kd.R_far (p := ⟨gb128, 1, none⟩) (Kd.R_far (p := ⟨gb128, 0, none⟩) (Kd.R_mono HO_5.out (fun k_ hk => (⟨hk, hk.2⟩ : _ ∧ k_ ≠ gb128))) (fun _ hk => hk.2) (.string t125)) (fun _ hk => hk.2) (.string t126)) (fun _ h_ => h_.1))) hb); have n1_ := Aside0.mk (blk_below (g := gb128) (o := .cells #[.string t125, .string t126] 83 (0, 0)) (by (with_reducible repeat (first | refine blk_drewN ?_ _ | refine blk_drew ?_ | refine blk_alloc ?_ _)); refine blk_put (cs := #[.string t125, .string (⟨#[]⟩ : ByteArray)]) ?_ 1 _ rfl; (with_reducible repeat (first | refine blk_drewN ?_ _ | refine blk_drew ?_ | refine blk_alloc ?_ _)); refine blk_put (cs := #[.string (⟨#[]⟩ : ByteArray), .string (⟨#[]⟩ : ByteArray)]) ?_ 0 _ rfl; exact rbA BK128.out) hb); have n2_ := Aside0.mk (below_step (hbA HB.out) hb); clear HO_5; clear BK128; clear HB; have HO_5 := n0_; have BK128 := n1_; have HB := n2_; clear n0_ n1_ n2_; (try clear hb); (try clear hb2); (try clear hk); (try clear hi); obtain ⟨hcz18_0, hcz18_1, hfz18_0, hfz18_1⟩ := blkA2 BK128.out) | ((with_reducible refine gate_builtin (b := .append) (xs := #[.tmp 51, .tmp 53]) rfl ?_); at_builtin; refine Kd.R_append k83 (w0 := w) w.heap.size rfl (.tmp 51) (.tmp 53) 47 83 (.agg #[(.string ⟨#[]⟩), (.string ⟨#[]⟩)]) 32 rfl Tryd.underlying47 info83 rfl (by decide) (by omega) u5 x5_1 (⟨t125, t126⟩ : S83) [.string t125, .string t126] (fun k_ => k_ ≠ gb128) (fun _ => False) rfl rfl ?aP (fun _ hk => hk.elim) ?aF ?aO ?aB ?aS ?aL ?_; (case aP => exact k83_mkM _ _ _ (⟨t125, t126⟩ : S83)); (case aB => exact (hbA HB.out)); (case aF => exact (fun k_ hk => Kd.freshB (g := gb128) (o := .cells #[.string t125, .string t126] 83 (0, 0)) (rbA BK128.out) k_ hk)); (case aO => exact (by (with_reducible repeat (first | apply Kd.R_alloc | apply Kd.R_drewN | apply Kd.R_drew)); exact Kd.R_mono HO_5.out (fun _ hk => hk.2))); (case aS => exact (below_size (hbA HB.out))); (case aL => have := LMc14.out; omega); intro v131 w19 ho hb hg hat; rw [← Ny130.out] at ho; have n0_ := Aside0.mk (blk_grown (g := gb128) (o := .cells #[.string t125, .string t126] 83 (0, 0)) (rbA BK128.out) hg (Kd.R_away HO_5.out (fun _ hk => hk.2))); have n1_ := Aside0.mk (hb); have n2_ := Aside0.mk (ho); clear BK128; clear HB; clear HO_5; have BK128 := n0_; have HB := n1_; have HO132 := n2_; clear n0_ n1_ n2_; clear ho hb hg hat))
             go_roundg k1
             case measure => have := HK1.out; omega
             case rel => exact ⟨(y130), (t121), rsA, H', ⟨by have := HK1.out; omega⟩, ⟨by (with_reducible repeat (first | apply Kd.R_alloc | apply Kd.R_drewN | apply Kd.R_drew)); exact Kd.R_mono HO132.out (fun _ hk => trivial)⟩, ⟨hbA HB.out⟩⟩
           rw [if_neg c14] at H
           exact absurd H (by simp)
         replace c13 := Bool.eq_false_iff.mpr c13
         subst c13
         have H1 : (some (([] : List (S83)), 0, 6)) = some (r1, r2, r3) := by rw [if_neg (show ¬ (false = true) by decide)] at H; exact H
         clear H
         have H := H1
         clear H1
         simp only [Option.some.injEq, Prod.mk.injEq] at H
         obtain ⟨rfl, rfl, rfl⟩ := H
         go_wp2_with (first | ((with_reducible refine gate_callee (f := 61) rfl ?_); refine goesL_ (some 17) rfl rfl Tryd.func61 (by kernel_rfl) rfl #[.string x6_1, .string (⟨#[13, 10]⟩ : ByteArray)] rfl argA ?_; (with_reducible refine (strings_Cut.calls x6_1 (⟨#[13, 10]⟩ : ByteArray) t120 t121 true _ ?side1 A2.out).mono ?_); (case side1 => exact Vars.below HV.out (hbA HB.out)); rintro e w' ⟨rfl, ⟨nd, rfl⟩⟩; refine ⟨_, rfl, ?_⟩; (try (rw [drewN_self wr]; generalize hq_ : World.drewN wr _ = wr; have n0_ : Aside0 (Kd.R k83 83 wr w.heap.size (fun _ => True) u5 x5_1) := ⟨by rw [← hq_]; exact (rdA HO_5.out)⟩; have n1_ : Aside0 (Below w.heap.size w wr) := ⟨by rw [← hq_]; exact (hbA HB.out)⟩; clear HO_5 HB hq_; have HO_5 := n0_; have HB := n1_; clear n0_ n1_))) | ((with_reducible refine gate_callee (f := 62) rfl ?_); refine goesL_ (some 28) rfl rfl Tryd.func62 (by kernel_rfl) rfl #[.string t120, .string (⟨#[83, 84, 65, 84, 32]⟩ : ByteArray)] rfl argA ?_; (with_reducible refine (strings_CutPrefix.calls t120 (⟨#[83, 84, 65, 84, 32]⟩ : ByteArray) t123 true _ A8.out).mono ?_); rintro e w' ⟨rfl, ⟨nd, rfl⟩⟩; refine ⟨_, rfl, ?_⟩; (try (rw [drewN_self wr]; generalize hq_ : World.drewN wr _ = wr; have n0_ : Aside0 (Kd.R k83 83 wr w.heap.size (fun _ => True) u5 x5_1) := ⟨by rw [← hq_]; exact (rdA HO_5.out)⟩; have n1_ : Aside0 (Below w.heap.size w wr) := ⟨by rw [← hq_]; exact (hbA HB.out)⟩; clear HO_5 HB hq_; have HO_5 := n0_; have HB := n1_; clear n0_ n1_))) | ((with_reducible refine gate_callee (f := 61) rfl ?_); refine goesL_ (some 33) rfl rfl Tryd.func61 (by kernel_rfl) rfl #[.string t123, .string (⟨#[32]⟩ : ByteArray)] rfl argA ?_; (with_reducible refine (strings_Cut.calls t123 (⟨#[32]⟩ : ByteArray) t125 t126 true _ ?side1 A9.out).mono ?_); (case side1 => exact Vars.below HV.out (hbA HB.out)); rintro e w' ⟨rfl, ⟨nd, rfl⟩⟩; refine ⟨_, rfl, ?_⟩; (try (rw [drewN_self wr]; generalize hq_ : World.drewN wr _ = wr; have n0_ : Aside0 (Kd.R k83 83 wr w.heap.size (fun _ => True) u5 x5_1) := ⟨by rw [← hq_]; exact (rdA HO_5.out)⟩; have n1_ : Aside0 (Below w.heap.size w wr) := ⟨by rw [← hq_]; exact (hbA HB.out)⟩; clear HO_5 HB hq_; have HO_5 := n0_; have HB := n1_; clear n0_ n1_))) | ((with_reducible refine gate_dst (N := 13) rfl ?_); refine box_event ?hg (N := 13) ?hd (cs := #[.string (⟨#[]⟩ : ByteArray), .string (⟨#[]⟩ : ByteArray)]) (t := 83) ?hr ?_; (case hd => rfl); (case hg => rfl); (case hr => first | (go_simp; done) | (go_simp; rfl)); intro gb128 hg w20 hbox hb; have n0_ := Aside0.mk (Kd.R_below (Kd.R_elderB (rdA HO_5.out) gb128 (Nat.le_of_eq hg.symm)) hb); have n1_ := Aside0.mk (below_step (hbA HB.out) hb); have n2_ := Aside0.mk (hbox); have n3_ := Aside0.mk ((by rw [hg]; exact (below_size (hbA HB.out)) : w.heap.size ≤ gb128)); have n4_ := Aside0.mk ((by rw [hg]; exact (below_size (hbA HB.out)) : w.heap.size ≤ gb128)); clear HO_5; clear HB; have HO_5 := n0_; have HB := n1_; have BK128 := n2_; have GW128 := n3_; have GE128 := n4_; clear n0_ n1_ n2_ n3_ n4_; clear hb hbox hg; obtain ⟨hcz21_0, hcz21_1, hfz21_0, hfz21_1⟩ := blkA2 BK128.out) | (go_at_call 60; (with_reducible refine (stat_may.calls k1 t125 t126 false _ A12.out).mono ?_); rintro e w22 ⟨rfl, hb⟩; have n0_ := Aside0.mk (Kd.R_below (by (with_reducible repeat (first | apply Kd.R_alloc | apply Kd.R_drewN | apply Kd.R_drew)); exact (Kd.R_mono (Kd.R_far (p := ⟨gb128, 1, none⟩) (Kd.R_far (p := ⟨gb128, 0, none⟩) (Kd.R_mono HO_5.out (fun k_ hk => (⟨hk, hk.2⟩ : _ ∧ k_ ≠ gb128))) (fun _ hk => hk.2) (.string t125)) (fun _ hk => hk.2) (.string t126)) (fun _ h_ => h_.1))) hb); have n1_ := Aside0.mk (blk_below (g := gb128) (o := .cells #[.string t125, .string t126] 83 (0, 0)) (by (with_reducible repeat (first | refine blk_drewN ?_ _ | refine blk_drew ?_ | refine blk_alloc ?_ _)); refine blk_put (cs := #[.string t125, .string (⟨#[]⟩ : ByteArray)]) ?_ 1 _ rfl; (with_reducible repeat (first | refine blk_drewN ?_ _ | refine blk_drew ?_ | refine blk_alloc ?_ _)); refine blk_put (cs := #[.string (⟨#[]⟩ : ByteArray), .string (⟨#[]⟩ : ByteArray)]) ?_ 0 _ rfl; exact rbA BK128.out) hb); have n2_ := Aside0.mk (below_step (hbA HB.out) hb); clear HO_5; clear BK128; clear HB; have HO_5 := n0_; have BK128 := n1_; have HB := n2_; clear n0_ n1_ n2_; (try clear hb); (try clear hb2); (try clear hk); (try clear hi)))
         go_ret3
         exact ⟨_, reA, knA, hbA HB.out⟩
       replace c11 := Bool.eq_false_iff.mpr c11
       subst c11
       have H1 : (some (([] : List (S83)), 0, 6)) = some (r1, r2, r3) := by rw [if_neg (show ¬ (false = true) by decide)] at H; exact H
       clear H
       have H := H1
       clear H1
       simp only [Option.some.injEq, Prod.mk.injEq] at H
       obtain ⟨rfl, rfl, rfl⟩ := H
       go_wp2_with (first | ((with_reducible refine gate_callee (f := 61) rfl ?_); refine goesL_ (some 17) rfl rfl Tryd.func61 (by kernel_rfl) rfl #[.string x6_1, .string (⟨#[13, 10]⟩ : ByteArray)] rfl argA ?_; (with_reducible refine (strings_Cut.calls x6_1 (⟨#[13, 10]⟩ : ByteArray) t120 t121 true _ ?side1 A2.out).mono ?_); (case side1 => exact Vars.below HV.out (hbA HB.out)); rintro e w' ⟨rfl, ⟨nd, rfl⟩⟩; refine ⟨_, rfl, ?_⟩; (try (rw [drewN_self wr]; generalize hq_ : World.drewN wr _ = wr; have n0_ : Aside0 (Kd.R k83 83 wr w.heap.size (fun _ => True) u5 x5_1) := ⟨by rw [← hq_]; exact (rdA HO_5.out)⟩; have n1_ : Aside0 (Below w.heap.size w wr) := ⟨by rw [← hq_]; exact (hbA HB.out)⟩; clear HO_5 HB hq_; have HO_5 := n0_; have HB := n1_; clear n0_ n1_))) | ((with_reducible refine gate_callee (f := 62) rfl ?_); refine goesL_ (some 28) rfl rfl Tryd.func62 (by kernel_rfl) rfl #[.string t120, .string (⟨#[83, 84, 65, 84, 32]⟩ : ByteArray)] rfl argA ?_; (with_reducible refine (strings_CutPrefix.calls t120 (⟨#[83, 84, 65, 84, 32]⟩ : ByteArray) t123 true _ A8.out).mono ?_); rintro e w' ⟨rfl, ⟨nd, rfl⟩⟩; refine ⟨_, rfl, ?_⟩; (try (rw [drewN_self wr]; generalize hq_ : World.drewN wr _ = wr; have n0_ : Aside0 (Kd.R k83 83 wr w.heap.size (fun _ => True) u5 x5_1) := ⟨by rw [← hq_]; exact (rdA HO_5.out)⟩; have n1_ : Aside0 (Below w.heap.size w wr) := ⟨by rw [← hq_]; exact (hbA HB.out)⟩; clear HO_5 HB hq_; have HO_5 := n0_; have HB := n1_; clear n0_ n1_))) | ((with_reducible refine gate_callee (f := 61) rfl ?_); refine goesL_ (some 33) rfl rfl Tryd.func61 (by kernel_rfl) rfl #[.string t123, .string (⟨#[32]⟩ : ByteArray)] rfl argA ?_; (with_reducible refine (strings_Cut.calls t123 (⟨#[32]⟩ : ByteArray) t125 t126 false _ ?side1 A9.out).mono ?_); (case side1 => exact Vars.below HV.out (hbA HB.out)); rintro e w' ⟨rfl, ⟨nd, rfl⟩⟩; refine ⟨_, rfl, ?_⟩; (try (rw [drewN_self wr]; generalize hq_ : World.drewN wr _ = wr; have n0_ : Aside0 (Kd.R k83 83 wr w.heap.size (fun _ => True) u5 x5_1) := ⟨by rw [← hq_]; exact (rdA HO_5.out)⟩; have n1_ : Aside0 (Below w.heap.size w wr) := ⟨by rw [← hq_]; exact (hbA HB.out)⟩; clear HO_5 HB hq_; have HO_5 := n0_; have HB := n1_; clear n0_ n1_))) | ((with_reducible refine gate_dst (N := 13) rfl ?_); refine box_event ?hg (N := 13) ?hd (cs := #[.string (⟨#[]⟩ : ByteArray), .string (⟨#[]⟩ : ByteArray)]) (t := 83) ?hr ?_; (case hd => rfl); (case hg => rfl); (case hr => first | (go_simp; done) | (go_simp; rfl)); intro gb128 hg w23 hbox hb; have n0_ := Aside0.mk (Kd.R_below (Kd.R_elderB (rdA HO_5.out) gb128 (Nat.le_of_eq hg.symm)) hb); have n1_ := Aside0.mk (below_step (hbA HB.out) hb); have n2_ := Aside0.mk (hbox); have n3_ := Aside0.mk ((by rw [hg]; exact (below_size (hbA HB.out)) : w.heap.size ≤ gb128)); have n4_ := Aside0.mk ((by rw [hg]; exact (below_size (hbA HB.out)) : w.heap.size ≤ gb128)); clear HO_5; clear HB; have HO_5 := n0_; have HB := n1_; have BK128 := n2_; have GW128 := n3_; have GE128 := n4_; clear n0_ n1_ n2_ n3_ n4_; clear hb hbox hg; obtain ⟨hcz24_0, hcz24_1, hfz24_0, hfz24_1⟩ := blkA2 BK128.out))
       go_ret3
       exact ⟨_, reA, knA, hbA HB.out⟩
     replace c10 := Bool.eq_false_iff.mpr c10
     subst c10
     have H1 : (some (([] : List (S83)), 0, 6)) = some (r1, r2, r3) := by rw [if_neg (show ¬ (false = true) by decide)] at H; exact H
     clear H
     have H := H1
     clear H1
     simp only [Option.some.injEq, Prod.mk.injEq] at H
     obtain ⟨rfl, rfl, rfl⟩ := H
     go_wp2_with (first | ((with_reducible refine gate_callee (f := 61) rfl ?_); refine goesL_ (some 17) rfl rfl Tryd.func61 (by kernel_rfl) rfl #[.string x6_1, .string (⟨#[13, 10]⟩ : ByteArray)] rfl argA ?_; (with_reducible refine (strings_Cut.calls x6_1 (⟨#[13, 10]⟩ : ByteArray) t120 t121 true _ ?side1 A2.out).mono ?_); (case side1 => exact Vars.below HV.out (hbA HB.out)); rintro e w' ⟨rfl, ⟨nd, rfl⟩⟩; refine ⟨_, rfl, ?_⟩; (try (rw [drewN_self wr]; generalize hq_ : World.drewN wr _ = wr; have n0_ : Aside0 (Kd.R k83 83 wr w.heap.size (fun _ => True) u5 x5_1) := ⟨by rw [← hq_]; exact (rdA HO_5.out)⟩; have n1_ : Aside0 (Below w.heap.size w wr) := ⟨by rw [← hq_]; exact (hbA HB.out)⟩; clear HO_5 HB hq_; have HO_5 := n0_; have HB := n1_; clear n0_ n1_))) | ((with_reducible refine gate_callee (f := 62) rfl ?_); refine goesL_ (some 28) rfl rfl Tryd.func62 (by kernel_rfl) rfl #[.string t120, .string (⟨#[83, 84, 65, 84, 32]⟩ : ByteArray)] rfl argA ?_; (with_reducible refine (strings_CutPrefix.calls t120 (⟨#[83, 84, 65, 84, 32]⟩ : ByteArray) t123 false _ A8.out).mono ?_); rintro e w' ⟨rfl, ⟨nd, rfl⟩⟩; refine ⟨_, rfl, ?_⟩; (try (rw [drewN_self wr]; generalize hq_ : World.drewN wr _ = wr; have n0_ : Aside0 (Kd.R k83 83 wr w.heap.size (fun _ => True) u5 x5_1) := ⟨by rw [← hq_]; exact (rdA HO_5.out)⟩; have n1_ : Aside0 (Below w.heap.size w wr) := ⟨by rw [← hq_]; exact (hbA HB.out)⟩; clear HO_5 HB hq_; have HO_5 := n0_; have HB := n1_; clear n0_ n1_))) | ((with_reducible refine gate_callee (f := 61) rfl ?_); refine goesL_ (some 33) rfl rfl Tryd.func61 (by kernel_rfl) rfl #[.string t123, .string (⟨#[32]⟩ : ByteArray)] rfl argA ?_; (with_reducible refine (strings_Cut.calls t123 (⟨#[32]⟩ : ByteArray) t125 t126 t127 _ ?side1 A9.out).mono ?_); (case side1 => exact Vars.below HV.out (hbA HB.out)); rintro e w' ⟨rfl, ⟨nd, rfl⟩⟩; refine ⟨_, rfl, ?_⟩; (try (rw [drewN_self wr]; generalize hq_ : World.drewN wr _ = wr; have n0_ : Aside0 (Kd.R k83 83 wr w.heap.size (fun _ => True) u5 x5_1) := ⟨by rw [← hq_]; exact (rdA HO_5.out)⟩; have n1_ : Aside0 (Below w.heap.size w wr) := ⟨by rw [← hq_]; exact (hbA HB.out)⟩; clear HO_5 HB hq_; have HO_5 := n0_; have HB := n1_; clear n0_ n1_))) | ((with_reducible refine gate_dst (N := 13) rfl ?_); refine box_event ?hg (N := 13) ?hd (cs := #[.string (⟨#[]⟩ : ByteArray), .string (⟨#[]⟩ : ByteArray)]) (t := 83) ?hr ?_; (case hd => rfl); (case hg => rfl); (case hr => first | (go_simp; done) | (go_simp; rfl)); intro gb128 hg w25 hbox hb; have n0_ := Aside0.mk (Kd.R_below (Kd.R_elderB (rdA HO_5.out) gb128 (Nat.le_of_eq hg.symm)) hb); have n1_ := Aside0.mk (below_step (hbA HB.out) hb); have n2_ := Aside0.mk (hbox); have n3_ := Aside0.mk ((by rw [hg]; exact (below_size (hbA HB.out)) : w.heap.size ≤ gb128)); have n4_ := Aside0.mk ((by rw [hg]; exact (below_size (hbA HB.out)) : w.heap.size ≤ gb128)); clear HO_5; clear HB; have HO_5 := n0_; have HB := n1_; have BK128 := n2_; have GW128 := n3_; have GE128 := n4_; clear n0_ n1_ n2_ n3_ n4_; clear hb hbox hg; obtain ⟨hcz26_0, hcz26_1, hfz26_0, hfz26_1⟩ := blkA2 BK128.out))
     go_ret3
     exact ⟨_, reA, knA, hbA HB.out⟩
   replace c3 := Bool.eq_false_iff.mpr c3
   subst c3
   have H1 : (some (([] : List (S83)), 0, 6)) = some (r1, r2, r3) := by rw [if_neg (show ¬ (false = true) by decide)] at H; exact H
   clear H
   have H := H1
   clear H1
   simp only [Option.some.injEq, Prod.mk.injEq] at H
   obtain ⟨rfl, rfl, rfl⟩ := H
   go_wp2_with (first | ((with_reducible refine gate_callee (f := 61) rfl ?_); refine goesL_ (some 17) rfl rfl Tryd.func61 (by kernel_rfl) rfl #[.string x6_1, .string (⟨#[13, 10]⟩ : ByteArray)] rfl argA ?_; (with_reducible refine (strings_Cut.calls x6_1 (⟨#[13, 10]⟩ : ByteArray) t120 t121 false _ ?side1 A2.out).mono ?_); (case side1 => exact Vars.below HV.out (hbA HB.out)); rintro e w' ⟨rfl, ⟨nd, rfl⟩⟩; refine ⟨_, rfl, ?_⟩))
   go_ret3
   exact ⟨_, reA, knA, hbA HB.out⟩

def tallboyref32_Same.l0 : Nat → List (S52) → List (S52) → Int → Option (Bool)
 | 0, _, _, _ => none
 | k + 1, x0, x1, x5 => if x5 < (x0.length : Int) then (if 0 ≤ x5 then (if x5 < (x1.length : Int) then (if (!((((rd_T52 x0 x5).f0).toList) == (((rd_T52 x1 x5).f0).toList)) || (!((((rd_T52 x0 x5).f1).toList) == (((rd_T52 x1 x5).f1).toList)))) = true then (some false) else (tallboyref32_Same.l0 k x0 x1 (wrap64 (x5 + 1)))) else (none)) else (none)) else (some true)
def tallboyref32_Same.f (k : Nat) (l0 : List (S52)) (l1 : List (S52)) : Option (Bool) := if (l0.length : Int) = (l1.length : Int) then (tallboyref32_Same.l0 k l0 l1 0) else (some false)
theorem tallboyref32_Same.mono_l : ∀ k, (∀ y0 y1 y2, LeO (tallboyref32_Same.l0 k y0 y1 y2) (tallboyref32_Same.l0 (k + 1) y0 y1 y2))
 | 0 => fun _ _ _ r h => by simp [tallboyref32_Same.l0] at h
 | k + 1 => by
  have ih0 := tallboyref32_Same.mono_l k
  · intro y0 y1 y2
    unfold tallboyref32_Same.l0
    repeat' first
    | (with_reducible exact ih0 _ _ _)
    | (with_reducible exact LeO.refl _)
    | (with_reducible exact LeO.none _)
    | (with_reducible refine LeO.ite ?_ ?_)
    | (with_reducible refine LeO.bind ?_ (fun _ => ?_))
    | exact ih0 _ _ _
    | exact LeO.none _
    | refine LeO.ite ?_ ?_
    | refine LeO.bind ?_ (fun _ => ?_)
theorem tallboyref32_Same.mono : ∀ a0 a1 k, LeO (tallboyref32_Same.f k a0 a1) (tallboyref32_Same.f (k + 1) a0 a1) := by
 intro a0 a1 k
 have ih0 := tallboyref32_Same.mono_l k
 unfold tallboyref32_Same.f
 repeat' first
  | (with_reducible exact ih0 _ _ _)
  | (with_reducible exact LeO.refl _)
  | (with_reducible exact LeO.none _)
  | (with_reducible refine LeO.ite ?_ ?_)
  | (with_reducible refine LeO.bind ?_ (fun _ => ?_))
  | exact ih0 _ _ _
  | exact LeO.none _
  | refine LeO.ite ?_ ?_
  | refine LeO.bind ?_ (fun _ => ?_)
set_option maxHeartbeats 8000000 in
set_option maxRecDepth 100000 in
theorem tallboyref32_Same.calls (k : Nat) (A0 : Option Addr) (c0 : Nat) (l0 : List (S52)) (A1 : Option Addr) (c1 : Nat) (l1 : List (S52)) (r : Bool) (w : World) (hr0 : Kd.C k52 w A0 l0.length l0) (hc0 : l0.length ≤ c0) (hr1 : Kd.C k52 w A1 l1.length l1) (hc1 : l1.length ≤ c1) (h : tallboyref32_Same.f k l0 l1 = some r) :
 Calls Tryd.prog 12 #[.slice A0 l0.length c0, .slice A1 l1.length c1] w fun e w' => e = .returned (.bool r) ∧ Drawn0 w w' := by
 have hu52 := Tryd.underlying52
 have HR0 := Aside0.mk hr0
 have HC0 := Aside0.mk hc0
 clear hr0 hc0
 have HR1 := Aside0.mk hr1
 have HC1 := Aside0.mk hc1
 clear hr1 hc1
 have H : (if (l0.length : Int) = (l1.length : Int) then (tallboyref32_Same.l0 k l0 l1 0) else (some false)) = some r := h
 clear h
 by_cases c3 : (l0.length : Int) = (l1.length : Int)
 · rw [if_pos c3] at H
   have c3b0 : ((l0.length : Int) == (l1.length : Int)) = true := beq_iff_eq.mpr c3
   have c3b1 : ((l0.length : Int) != (l1.length : Int)) = false := bne_eq_false_iff_eq.mpr c3
   have c3b2 : (l0.length == l1.length) = true := by first | simpa using c3 | (simp at c3 ⊢; omega)
   clear c3
   have H' := Aside0.mk H
   clear H
   go_enter Tryd.func12, Tryd.ntmps12
   go_wp2
   repeat (go_quiet (fail); try go_wp2)
   go_loopg [5] k (fun kq v5 w' => ∃ (x5_1 : Int), v5 = .int .i64 x5_1 ∧ Aside0 (tallboyref32_Same.l0 kq l0 l1 x5_1 = some r) ∧ Aside0 (kq ≤ k) ∧ Drawn0 w w')
   case atStart => exact ⟨(0), rsA, H', ⟨Nat.le_refl _⟩, drA⟩
   case round =>
    clear H'
    (try clear c1); (try clear p2); (try clear c3); (try clear c3b0); (try clear c3b1); (try clear c3b2); (try clear c3b3)
    obtain ⟨x5_1, rfl, HA, HK1, ⟨m1, rfl⟩⟩ := hrel
    cases gk with
    | zero => exact absurd HA.out (by simp [tallboyref32_Same.l0])
    | succ k1 =>
     have H := HA.out
     clear HA
     simp only [tallboyref32_Same.l0] at H
     by_cases c4 : x5_1 < (l0.length : Int)
     · rw [if_pos c4] at H
       have c4b0 : decide (x5_1 < (l0.length : Int)) = true := decide_eq_true c4
       clear c4
       by_cases c5 : 0 ≤ x5_1
       · rw [if_pos c5] at H
         have c5b0 : decide (0 ≤ x5_1) = true := decide_eq_true c5
         clear c5
         by_cases c6 : x5_1 < (l1.length : Int)
         · rw [if_pos c6] at H
           have c6b0 : decide (x5_1 < (l1.length : Int)) = true := decide_eq_true c6
           clear c6
           by_cases c7 : (!((((rd_T52 l0 x5_1).f0).toList) == (((rd_T52 l1 x5_1).f0).toList)) || (!((((rd_T52 l0 x5_1).f1).toList) == (((rd_T52 l1 x5_1).f1).toList)))) = true
           · rw [if_pos c7] at H
             have c7b0 : (!((((rd_T52 l0 x5_1).f0).toList) == (((rd_T52 l1 x5_1).f0).toList)) || (!((((rd_T52 l0 x5_1).f1).toList) == (((rd_T52 l1 x5_1).f1).toList)))) = true := c7
             clear c7
             obtain rfl := Option.some.inj H
             have p133 : 0 ≤ (x5_1 : Int) := of_decide_eq_true asA
             have q133 : x5_1 < (l0.length : Int) := of_decide_eq_true asA
             obtain ⟨ad133, e133, hx133_0, hx133_1⟩ := at_T52 HR0.out x5_1 p133 q133
             cases e133
             replace p133 := eq_true p133
             replace q133 := eq_true q133
             have p134 : 0 ≤ (x5_1 : Int) := of_decide_eq_true asA
             have q134 : x5_1 < (l1.length : Int) := of_decide_eq_true asA
             obtain ⟨ad134, e134, hx134_0, hx134_1⟩ := at_T52 HR1.out x5_1 p134 q134
             cases e134
             replace p134 := eq_true p134
             replace q134 := eq_true q134
             go_wp2
             repeat (go_quiet (fail); try go_wp2)
             go_ret
             exact ⟨rsA, drA⟩
           rw [if_neg c7] at H
           have c7b0 : (!((((rd_T52 l0 x5_1).f0).toList) == (((rd_T52 l1 x5_1).f0).toList)) || (!((((rd_T52 l0 x5_1).f1).toList) == (((rd_T52 l1 x5_1).f1).toList)))) = false := by simpa using c7
           clear c7
           have H' := Aside0.mk H
           clear H
           have p133 : 0 ≤ (x5_1 : Int) := of_decide_eq_true asA
           have q133 : x5_1 < (l0.length : Int) := of_decide_eq_true asA
           obtain ⟨ad133, e133, hx133_0, hx133_1⟩ := at_T52 HR0.out x5_1 p133 q133
           cases e133
           replace p133 := eq_true p133
           replace q133 := eq_true q133
           have p134 : 0 ≤ (x5_1 : Int) := of_decide_eq_true asA
           have q134 : x5_1 < (l1.length : Int) := of_decide_eq_true asA
           obtain ⟨ad134, e134, hx134_0, hx134_1⟩ := at_T52 HR1.out x5_1 p134 q134
           cases e134
           replace p134 := eq_true p134
           replace q134 := eq_true q134
           go_wp2
           repeat (go_quiet (fail); try go_wp2)
           go_roundg k1
           case measure => have := HK1.out; omega
           case rel => exact ⟨(wrap64 (x5_1 + 1)), rsA, H', ⟨by have := HK1.out; omega⟩, drA⟩
         rw [if_neg c6] at H
         exact absurd H (by simp)
       rw [if_neg c5] at H
       exact absurd H (by simp)
     rw [if_neg c4] at H
     have c4b0 : decide (x5_1 < (l0.length : Int)) = false := decide_eq_false c4
     clear c4
     obtain rfl := Option.some.inj H
     go_wp2
     repeat (go_quiet (fail); try go_wp2)
     go_ret
     exact ⟨rsA, drA⟩
 rw [if_neg c3] at H
 have c3b0 : ((l0.length : Int) == (l1.length : Int)) = false := beq_eq_false_iff_ne.mpr c3
 have c3b1 : ((l0.length : Int) != (l1.length : Int)) = true := bne_iff_ne.mpr c3
 have c3b2 : (l0.length == l1.length) = false := by first | simpa using c3 | (simp at c3 ⊢; omega)
 obtain rfl := Option.some.inj H
 go_enter Tryd.func12, Tryd.ntmps12
 go_wp2
 repeat (go_quiet (fail); try go_wp2)
 go_ret
 exact ⟨rsA, drA⟩

def stat_names.f  : Option (List ByteArray) := some (([(⟨#[99, 109, 100, 95, 103, 101, 116]⟩ : ByteArray), (⟨#[99, 109, 100, 95, 115, 101, 116]⟩ : ByteArray), (⟨#[99, 109, 100, 95, 102, 108, 117, 115, 104]⟩ : ByteArray), (⟨#[99, 109, 100, 95, 116, 111, 117, 99, 104]⟩ : ByteArray), (⟨#[103, 101, 116, 95, 104, 105, 116, 115]⟩ : ByteArray), (⟨#[103, 101, 116, 95, 109, 105, 115, 115, 101, 115]⟩ : ByteArray), (⟨#[100, 101, 108, 101, 116, 101, 95, 104, 105, 116, 115]⟩ : ByteArray), (⟨#[100, 101, 108, 101, 116, 101, 95, 109, 105, 115, 115, 101, 115]⟩ : ByteArray), (⟨#[105, 110, 99, 114, 95, 104, 105, 116, 115]⟩ : ByteArray), (⟨#[105, 110, 99, 114, 95, 109, 105, 115, 115, 101, 115]⟩ : ByteArray), (⟨#[100, 101, 99, 114, 95, 104, 105, 116, 115]⟩ : ByteArray), (⟨#[100, 101, 99, 114, 95, 109, 105, 115, 115, 101, 115]⟩ : ByteArray), (⟨#[99, 97, 115, 95, 104, 105, 116, 115]⟩ : ByteArray), (⟨#[99, 97, 115, 95, 98, 97, 100, 118, 97, 108]⟩ : ByteArray), (⟨#[99, 97, 115, 95, 109, 105, 115, 115, 101, 115]⟩ : ByteArray), (⟨#[116, 111, 117, 99, 104, 95, 104, 105, 116, 115]⟩ : ByteArray), (⟨#[116, 111, 117, 99, 104, 95, 109, 105, 115, 115, 101, 115]⟩ : ByteArray), (⟨#[110, 111, 116, 95, 115, 116, 111, 114, 101, 100]⟩ : ByteArray), (⟨#[116, 111, 111, 95, 108, 97, 114, 103, 101]⟩ : ByteArray), (⟨#[110, 111, 95, 109, 101, 109, 111, 114, 121]⟩ : ByteArray), (⟨#[110, 111, 95, 110, 117, 109, 98, 101, 114]⟩ : ByteArray), (⟨#[101, 118, 105, 99, 116, 105, 111, 110, 115]⟩ : ByteArray), (⟨#[109, 111, 118, 101, 100]⟩ : ByteArray), (⟨#[102, 97, 105, 108, 101, 100]⟩ : ByteArray)] : List ByteArray))
set_option maxHeartbeats 8000000 in
set_option maxRecDepth 100000 in
theorem stat_names.calls  (r : List ByteArray) (w : World) (h : stat_names.f  = some r) :
 Calls Tryd.prog 33 #[] w fun e w' => ∃ v0_ : Value, e = .returned (v0_) ∧ Kd.R Kd.string 9 w' w.heap.size (fun _ => True) v0_ r ∧ Below w.heap.size w w' := by
 have HB := Aside0.mk (Below.refl w.heap.size w)
 have H : (some (([(⟨#[99, 109, 100, 95, 103, 101, 116]⟩ : ByteArray), (⟨#[99, 109, 100, 95, 115, 101, 116]⟩ : ByteArray), (⟨#[99, 109, 100, 95, 102, 108, 117, 115, 104]⟩ : ByteArray), (⟨#[99, 109, 100, 95, 116, 111, 117, 99, 104]⟩ : ByteArray), (⟨#[103, 101, 116, 95, 104, 105, 116, 115]⟩ : ByteArray), (⟨#[103, 101, 116, 95, 109, 105, 115, 115, 101, 115]⟩ : ByteArray), (⟨#[100, 101, 108, 101, 116, 101, 95, 104, 105, 116, 115]⟩ : ByteArray), (⟨#[100, 101, 108, 101, 116, 101, 95, 109, 105, 115, 115, 101, 115]⟩ : ByteArray), (⟨#[105, 110, 99, 114, 95, 104, 105, 116, 115]⟩ : ByteArray), (⟨#[105, 110, 99, 114, 95, 109, 105, 115, 115, 101, 115]⟩ : ByteArray), (⟨#[100, 101, 99, 114, 95, 104, 105, 116, 115]⟩ : ByteArray), (⟨#[100, 101, 99, 114, 95, 109, 105, 115, 115, 101, 115]⟩ : ByteArray), (⟨#[99, 97, 115, 95, 104, 105, 116, 115]⟩ : ByteArray), (⟨#[99, 97, 115, 95, 98, 97, 100, 118, 97, 108]⟩ : ByteArray), (⟨#[99, 97, 115, 95, 109, 105, 115, 115, 101, 115]⟩ : ByteArray), (⟨#[116, 111, 117, 99, 104, 95, 104, 105, 116, 115]⟩ : ByteArray), (⟨#[116, 111, 117, 99, 104, 95, 109, 105, 115, 115, 101, 115]⟩ : ByteArray), (⟨#[110, 111, 116, 95, 115, 116, 111, 114, 101, 100]⟩ : ByteArray), (⟨#[116, 111, 111, 95, 108, 97, 114, 103, 101]⟩ : ByteArray), (⟨#[110, 111, 95, 109, 101, 109, 111, 114, 121]⟩ : ByteArray), (⟨#[110, 111, 95, 110, 117, 109, 98, 101, 114]⟩ : ByteArray), (⟨#[101, 118, 105, 99, 116, 105, 111, 110, 115]⟩ : ByteArray), (⟨#[109, 111, 118, 101, 100]⟩ : ByteArray), (⟨#[102, 97, 105, 108, 101, 100]⟩ : ByteArray)] : List ByteArray))) = some r := h
 clear h
 obtain ⟨y135, hy135⟩ : ∃ y_ : List ByteArray, y_ = (([(⟨#[99, 109, 100, 95, 103, 101, 116]⟩ : ByteArray), (⟨#[99, 109, 100, 95, 115, 101, 116]⟩ : ByteArray), (⟨#[99, 109, 100, 95, 102, 108, 117, 115, 104]⟩ : ByteArray), (⟨#[99, 109, 100, 95, 116, 111, 117, 99, 104]⟩ : ByteArray), (⟨#[103, 101, 116, 95, 104, 105, 116, 115]⟩ : ByteArray), (⟨#[103, 101, 116, 95, 109, 105, 115, 115, 101, 115]⟩ : ByteArray), (⟨#[100, 101, 108, 101, 116, 101, 95, 104, 105, 116, 115]⟩ : ByteArray), (⟨#[100, 101, 108, 101, 116, 101, 95, 109, 105, 115, 115, 101, 115]⟩ : ByteArray), (⟨#[105, 110, 99, 114, 95, 104, 105, 116, 115]⟩ : ByteArray), (⟨#[105, 110, 99, 114, 95, 109, 105, 115, 115, 101, 115]⟩ : ByteArray), (⟨#[100, 101, 99, 114, 95, 104, 105, 116, 115]⟩ : ByteArray), (⟨#[100, 101, 99, 114, 95, 109, 105, 115, 115, 101, 115]⟩ : ByteArray), (⟨#[99, 97, 115, 95, 104, 105, 116, 115]⟩ : ByteArray), (⟨#[99, 97, 115, 95, 98, 97, 100, 118, 97, 108]⟩ : ByteArray), (⟨#[99, 97, 115, 95, 109, 105, 115, 115, 101, 115]⟩ : ByteArray), (⟨#[116, 111, 117, 99, 104, 95, 104, 105, 116, 115]⟩ : ByteArray), (⟨#[116, 111, 117, 99, 104, 95, 109, 105, 115, 115, 101, 115]⟩ : ByteArray), (⟨#[110, 111, 116, 95, 115, 116, 111, 114, 101, 100]⟩ : ByteArray), (⟨#[116, 111, 111, 95, 108, 97, 114, 103, 101]⟩ : ByteArray), (⟨#[110, 111, 95, 109, 101, 109, 111, 114, 121]⟩ : ByteArray), (⟨#[110, 111, 95, 110, 117, 109, 98, 101, 114]⟩ : ByteArray), (⟨#[101, 118, 105, 99, 116, 105, 111, 110, 115]⟩ : ByteArray), (⟨#[109, 111, 118, 101, 100]⟩ : ByteArray), (⟨#[102, 97, 105, 108, 101, 100]⟩ : ByteArray)] : List ByteArray)) := ⟨_, rfl⟩
 replace H : (some y135) = some r := by first | (rw [hy135]; with_reducible exact H) | (have H2_ := (Option.bind_some _ _).symm.trans H; rw [hy135]; with_reducible exact H2_) | (have H2_ := (Option.bind_some _ _).symm.trans H; with_reducible exact H2_) | with_reducible exact H | (rw [hy135]; exact H) | exact H
 have Ny135 := Aside0.mk hy135
 clear hy135
 obtain rfl := Option.some.inj H
 go_enter Tryd.func33, Tryd.ntmps33
 go_wp2_with (first | ((with_reducible refine gate_dst (N := 1) rfl ?_); refine Kd.R_lit Kd.string _ 9 ?hg (N := 1) ?hd (xs := ([(⟨#[99, 109, 100, 95, 103, 101, 116]⟩ : ByteArray), (⟨#[99, 109, 100, 95, 115, 101, 116]⟩ : ByteArray), (⟨#[99, 109, 100, 95, 102, 108, 117, 115, 104]⟩ : ByteArray), (⟨#[99, 109, 100, 95, 116, 111, 117, 99, 104]⟩ : ByteArray), (⟨#[103, 101, 116, 95, 104, 105, 116, 115]⟩ : ByteArray), (⟨#[103, 101, 116, 95, 109, 105, 115, 115, 101, 115]⟩ : ByteArray), (⟨#[100, 101, 108, 101, 116, 101, 95, 104, 105, 116, 115]⟩ : ByteArray), (⟨#[100, 101, 108, 101, 116, 101, 95, 109, 105, 115, 115, 101, 115]⟩ : ByteArray), (⟨#[105, 110, 99, 114, 95, 104, 105, 116, 115]⟩ : ByteArray), (⟨#[105, 110, 99, 114, 95, 109, 105, 115, 115, 101, 115]⟩ : ByteArray), (⟨#[100, 101, 99, 114, 95, 104, 105, 116, 115]⟩ : ByteArray), (⟨#[100, 101, 99, 114, 95, 109, 105, 115, 115, 101, 115]⟩ : ByteArray), (⟨#[99, 97, 115, 95, 104, 105, 116, 115]⟩ : ByteArray), (⟨#[99, 97, 115, 95, 98, 97, 100, 118, 97, 108]⟩ : ByteArray), (⟨#[99, 97, 115, 95, 109, 105, 115, 115, 101, 115]⟩ : ByteArray), (⟨#[116, 111, 117, 99, 104, 95, 104, 105, 116, 115]⟩ : ByteArray), (⟨#[116, 111, 117, 99, 104, 95, 109, 105, 115, 115, 101, 115]⟩ : ByteArray), (⟨#[110, 111, 116, 95, 115, 116, 111, 114, 101, 100]⟩ : ByteArray), (⟨#[116, 111, 111, 95, 108, 97, 114, 103, 101]⟩ : ByteArray), (⟨#[110, 111, 95, 109, 101, 109, 111, 114, 121]⟩ : ByteArray), (⟨#[110, 111, 95, 110, 117, 109, 98, 101, 114]⟩ : ByteArray), (⟨#[101, 118, 105, 99, 116, 105, 111, 110, 115]⟩ : ByteArray), (⟨#[109, 111, 118, 101, 100]⟩ : ByteArray), (⟨#[102, 97, 105, 108, 101, 100]⟩ : ByteArray)] : List ByteArray)) (inner := [.string (⟨#[99, 109, 100, 95, 103, 101, 116]⟩ : ByteArray), .string (⟨#[99, 109, 100, 95, 115, 101, 116]⟩ : ByteArray), .string (⟨#[99, 109, 100, 95, 102, 108, 117, 115, 104]⟩ : ByteArray), .string (⟨#[99, 109, 100, 95, 116, 111, 117, 99, 104]⟩ : ByteArray), .string (⟨#[103, 101, 116, 95, 104, 105, 116, 115]⟩ : ByteArray), .string (⟨#[103, 101, 116, 95, 109, 105, 115, 115, 101, 115]⟩ : ByteArray), .string (⟨#[100, 101, 108, 101, 116, 101, 95, 104, 105, 116, 115]⟩ : ByteArray), .string (⟨#[100, 101, 108, 101, 116, 101, 95, 109, 105, 115, 115, 101, 115]⟩ : ByteArray), .string (⟨#[105, 110, 99, 114, 95, 104, 105, 116, 115]⟩ : ByteArray), .string (⟨#[105, 110, 99, 114, 95, 109, 105, 115, 115, 101, 115]⟩ : ByteArray), .string (⟨#[100, 101, 99, 114, 95, 104, 105, 116, 115]⟩ : ByteArray), .string (⟨#[100, 101, 99, 114, 95, 109, 105, 115, 115, 101, 115]⟩ : ByteArray), .string (⟨#[99, 97, 115, 95, 104, 105, 116, 115]⟩ : ByteArray), .string (⟨#[99, 97, 115, 95, 98, 97, 100, 118, 97, 108]⟩ : ByteArray), .string (⟨#[99, 97, 115, 95, 109, 105, 115, 115, 101, 115]⟩ : ByteArray), .string (⟨#[116, 111, 117, 99, 104, 95, 104, 105, 116, 115]⟩ : ByteArray), .string (⟨#[116, 111, 117, 99, 104, 95, 109, 105, 115, 115, 101, 115]⟩ : ByteArray), .string (⟨#[110, 111, 116, 95, 115, 116, 111, 114, 101, 100]⟩ : ByteArray), .string (⟨#[116, 111, 111, 95, 108, 97, 114, 103, 101]⟩ : ByteArray), .string (⟨#[110, 111, 95, 109, 101, 109, 111, 114, 121]⟩ : ByteArray), .string (⟨#[110, 111, 95, 110, 117, 109, 98, 101, 114]⟩ : ByteArray), .string (⟨#[101, 118, 105, 99, 116, 105, 111, 110, 115]⟩ : ByteArray), .string (⟨#[109, 111, 118, 101, 100]⟩ : ByteArray), .string (⟨#[102, 97, 105, 108, 101, 100]⟩ : ByteArray)]) (ok := fun _ => True) (okp := fun _ => True) ?hr ?hp (fun _ hk => hk) trivial (Below.refl _ _) (Nat.le_refl _) (by simp) ?_; (case hd => rfl); (case hg => rfl); (case hr => first | (go_simp; done) | (go_simp; rfl)); (case hp => exact (Reps.one (show Kd.M Kd.string _ _ _ (⟨#[99, 109, 100, 95, 103, 101, 116]⟩ : ByteArray) [.string (⟨#[99, 109, 100, 95, 103, 101, 116]⟩ : ByteArray)] from rfl) (Reps.one (show Kd.M Kd.string _ _ _ (⟨#[99, 109, 100, 95, 115, 101, 116]⟩ : ByteArray) [.string (⟨#[99, 109, 100, 95, 115, 101, 116]⟩ : ByteArray)] from rfl) (Reps.one (show Kd.M Kd.string _ _ _ (⟨#[99, 109, 100, 95, 102, 108, 117, 115, 104]⟩ : ByteArray) [.string (⟨#[99, 109, 100, 95, 102, 108, 117, 115, 104]⟩ : ByteArray)] from rfl) (Reps.one (show Kd.M Kd.string _ _ _ (⟨#[99, 109, 100, 95, 116, 111, 117, 99, 104]⟩ : ByteArray) [.string (⟨#[99, 109, 100, 95, 116, 111, 117, 99, 104]⟩ : ByteArray)] from rfl) (Reps.one (show Kd.M Kd.string _ _ _ (⟨#[103, 101, 116, 95, 104, 105, 116, 115]⟩ : ByteArray) [.string (⟨#[103, 101, 116, 95, 104, 105, 116, 115]⟩ : ByteArray)] from rfl) (Reps.one (show Kd.M Kd.string _ _ _ (⟨#[103, 101, 116, 95, 109, 105, 115, 115, 101, 115]⟩ : ByteArray) [.string (⟨#[103, 101, 116, 95, 109, 105, 115, 115, 101, 115]⟩ : ByteArray)] from rfl) (Reps.one (show Kd.M Kd.string _ _ _ (⟨#[100, 101, 108, 101, 116, 101, 95, 104, 105, 116, 115]⟩ : ByteArray) [.string (⟨#[100, 101, 108, 101, 116, 101, 95, 104, 105, 116, 115]⟩ : ByteArray)] from rfl) (Reps.one (show Kd.M Kd.string _ _ _ (⟨#[100, 101, 108, 101, 116, 101, 95, 109, 105, 115, 115, 101, 115]⟩ : ByteArray) [.string (⟨#[100, 101, 108, 101, 116, 101, 95, 109, 105, 115, 115, 101, 115]⟩ : ByteArray)] from rfl) (Reps.one (show Kd.M Kd.string _ _ _ (⟨#[105, 110, 99, 114, 95, 104, 105, 116, 115]⟩ : ByteArray) [.string (⟨#[105, 110, 99, 114, 95, 104, 105, 116, 115]⟩ : ByteArray)] from rfl) (Reps.one (show Kd.M Kd.string _ _ _ (⟨#[105, 110, 99, 114, 95, 109, 105, 115, 115, 101, 115]⟩ : ByteArray) [.string (⟨#[105, 110, 99, 114, 95, 109, 105, 115, 115, 101, 115]⟩ : ByteArray)] from rfl) (Reps.one (show Kd.M Kd.string _ _ _ (⟨#[100, 101, 99, 114, 95, 104, 105, 116, 115]⟩ : ByteArray) [.string (⟨#[100, 101, 99, 114, 95, 104, 105, 116, 115]⟩ : ByteArray)] from rfl) (Reps.one (show Kd.M Kd.string _ _ _ (⟨#[100, 101, 99, 114, 95, 109, 105, 115, 115, 101, 115]⟩ : ByteArray) [.string (⟨#[100, 101, 99, 114, 95, 109, 105, 115, 115, 101, 115]⟩ : ByteArray)] from rfl) (Reps.one (show Kd.M Kd.string _ _ _ (⟨#[99, 97, 115, 95, 104, 105, 116, 115]⟩ : ByteArray) [.string (⟨#[99, 97, 115, 95, 104, 105, 116, 115]⟩ : ByteArray)] from rfl) (Reps.one (show Kd.M Kd.string _ _ _ (⟨#[99, 97, 115, 95, 98, 97, 100, 118, 97, 108]⟩ : ByteArray) [.string (⟨#[99, 97, 115, 95, 98, 97, 100, 118, 97, 108]⟩ : ByteArray)] from rfl) (Reps.one (show Kd.M Kd.string _ _ _ (⟨#[99, 97, 115, 95, 109, 105, 115, 115, 101, 115]⟩ : ByteArray) [.string (⟨#[99, 97, 115, 95, 109, 105, 115, 115, 101, 115]⟩ : ByteArray)] from rfl) (Reps.one (show Kd.M Kd.string _ _ _ (⟨#[116, 111, 117, 99, 104, 95, 104, 105, 116, 115]⟩ : ByteArray) [.string (⟨#[116, 111, 117, 99, 104, 95, 104, 105, 116, 115]⟩ : ByteArray)] from rfl) (Reps.one (show Kd.M Kd.string _ _ _ (⟨#[116, 111, 117, 99, 104, 95, 109, 105, 115, 115, 101, 115]⟩ : ByteArray) [.string (⟨#[116, 111, 117, 99, 104, 95, 109, 105, 115, 115, 101, 115]⟩ : ByteArray)] from rfl) (Reps.one (show Kd.M Kd.string _ _ _ (⟨#[110, 111, 116, 95, 115, 116, 111, 114, 101, 100]⟩ : ByteArray) [.string (⟨#[110, 111, 116, 95, 115, 116, 111, 114, 101, 100]⟩ : ByteArray)] from rfl) (Reps.one (show Kd.M Kd.string _ _ _ (⟨#[116, 111, 111, 95, 108, 97, 114, 103, 101]⟩ : ByteArray) [.string (⟨#[116, 111, 111, 95, 108, 97, 114, 103, 101]⟩ : ByteArray)] from rfl) (Reps.one (show Kd.M Kd.string _ _ _ (⟨#[110, 111, 95, 109, 101, 109, 111, 114, 121]⟩ : ByteArray) [.string (⟨#[110, 111, 95, 109, 101, 109, 111, 114, 121]⟩ : ByteArray)] from rfl) (Reps.one (show Kd.M Kd.string _ _ _ (⟨#[110, 111, 95, 110, 117, 109, 98, 101, 114]⟩ : ByteArray) [.string (⟨#[110, 111, 95, 110, 117, 109, 98, 101, 114]⟩ : ByteArray)] from rfl) (Reps.one (show Kd.M Kd.string _ _ _ (⟨#[101, 118, 105, 99, 116, 105, 111, 110, 115]⟩ : ByteArray) [.string (⟨#[101, 118, 105, 99, 116, 105, 111, 110, 115]⟩ : ByteArray)] from rfl) (Reps.one (show Kd.M Kd.string _ _ _ (⟨#[109, 111, 118, 101, 100]⟩ : ByteArray) [.string (⟨#[109, 111, 118, 101, 100]⟩ : ByteArray)] from rfl) (Reps.one (show Kd.M Kd.string _ _ _ (⟨#[102, 97, 105, 108, 101, 100]⟩ : ByteArray) [.string (⟨#[102, 97, 105, 108, 101, 100]⟩ : ByteArray)] from rfl) (Reps.none _ _)))))))))))))))))))))))))); intro v136 w1 ho2 hb hg_ hnew_; clear hg_ hnew_; (first | rw [← Ny135.out] at ho2 | (simp only [Int.reduceToNat] at ho2; rw [← Ny135.out] at ho2)); have n0_ := Aside0.mk (Kd.R_lower ho2 (below_size (hbA HB.out))); have n1_ := Aside0.mk (below_step (hbA HB.out) hb); clear HB; have HO137 := n0_; have HB := n1_; clear n0_ n1_; clear hb ho2))
 go_ret
 exact ⟨_, reA, by (with_reducible repeat (first | apply Kd.R_alloc | apply Kd.R_drewN | apply Kd.R_drew)); exact HO137.out, hbA HB.out⟩

end
end Go.Proofs.YteddljbdjgdlnaaDoor.XSb
end
section
namespace Go.Proofs.YteddljbdjgdlnaaDoor.XSb
open Go.RowKit Go.Proofs.YteddljbdjgdlnaaDoorW.PrintWords Go.Proofs.YteddljbdjgdlnaaDoorW.PrintLast Go.Proofs.YteddljbdjgdlnaaDoorW.PrintMore
attribute [local go_sem] extract_sub max2_int min2_int max_two min_two max_three min_three max_four min_four   -- for this text's walks alone
set_option linter.unusedVariables false
set_option linter.unusedSimpArgs false

noncomputable section
noncomputable def strconv_FormatUint_86.f (a0 a1 : Int) : Option ByteArray := if 0 ≤ a0 ∧ a0 < 18446744073709551616 ∧ a1 = 10 then some ⟨(Lib.decDigits a0.toNat).toArray⟩ else none
theorem strconv_FormatUint_86.zeros (w : World) (T : TypeId) (nd : Nat) (hs : nd ≤ 24) : Sort.Holds (fun (b : UInt8) => Value.int .u8 (b.toNat : Int)) (w.alloc (.cells Lib.zeros24 T)) w.heap.size 0 (Array.replicate nd (0 : UInt8)) := fun j hj => by
 have hj' : j < nd := by simpa using hj
 refine ⟨?_, World.frozen?_alloc_new _ _ _ _⟩
 rw [World.cell?_alloc_new, Lib.zeros24_at _ (by omega), getElem!_pos _ j hj]
 simp
set_option maxRecDepth 1000000 in
theorem strconv_FormatUint_86.z24 : ∀ w, (zeroValue 176).run Tryd.prog w = .ok (Value.agg Lib.zeros24) w := fun _ => rfl
set_option maxRecDepth 1000000 in
theorem strconv_FormatUint_86.s24 : ∀ w, (Go.sizeOf 176).run Tryd.prog w = .ok 24 w := fun _ => rfl
set_option maxRecDepth 1000000 in
theorem strconv_FormatUint_86.a24 : ∀ w, (isAgg 176).run Tryd.prog w = .ok true w := fun _ => rfl
theorem strconv_FormatUint_86.len24 : Tryd.prog.arrayLen 176 = 24 := by kernel_rfl
set_option maxHeartbeats 4000000 in
set_option maxRecDepth 100000 in
theorem strconv_FormatUint_86.calls (a0 a1 : Int) (r : ByteArray) (w : World) (hv : Vars w) (h : strconv_FormatUint_86.f a0 a1 = some r) :
 Calls Tryd.prog 86 #[.int .u64 a0, .int .i64 a1] w fun e w' => e = .returned (.string r) ∧ Below w.heap.size w w' := by
 unfold strconv_FormatUint_86.f at h
 split at h
 · rename_i hh
   injection h with h
   subst h
   obtain ⟨h0, h1, rfl⟩ := hh
   obtain ⟨u, rfl⟩ : ∃ u : Nat, a0 = u := ⟨a0.toNat, by omega⟩
   rw [Int.toNat_natCast]
   have hu64 : u < 18446744073709551616 := by omega
   by_cases hs : u < 100
   · have hs' : (u : Int) < 100 := by omega
     go_enter Tryd.func86, Tryd.ntmps86
     go_wp2_with (go_at_call 102; refine (Tryd.internal_strconv_small u hs _).mono ?_; rintro e w' ⟨rfl, rfl⟩)
     go_ret
     exact ⟨rfl, Below.refl _ _⟩
   have hs' : ¬ (u : Int) < 100 := by omega
   have htab := hv.pow10
   have hnd20 : Lib.nDigits u ≤ 20 := by have := Lib.numDigits_eq u (by omega) hu64; split at this <;> omega
   have hnd24 : (Lib.nDigits u : Int) ≤ 24 := by omega
   have hsl1 : ∀ W, (Instr.sliceAt 176 (.pointer (some ⟨w.heap.size, 0, none⟩)) none (some (.int .i64 (Lib.nDigits u : Int))) none).run Tryd.prog W = .ok (.slice (some ⟨w.heap.size, 0, none⟩) (Lib.nDigits u) 24) W := fun W => by
    rw [run_sliceAt_array_h W 176 ⟨w.heap.size, 0, none⟩ (by simp [Program.arrayLen, Program.elem, Tryd.underlying176]) .i64 (Lib.nDigits u : Int) (by omega) (by rw [strconv_FormatUint_86.len24]; omega)]
    rw [strconv_FormatUint_86.len24]
    go_simp
   have hH0 := strconv_FormatUint_86.zeros w 176 (Lib.nDigits u) (by omega)
   have hfmt := Tryd.internal_strconv_formatBase10 w.heap.size 0 24 u (Array.replicate (Lib.nDigits u) 0) (w.alloc (.cells Lib.zeros24 176)) hH0 (by rw [Array.size_replicate]; exact Lib.lt_pow_nDigits u) hu64 (by rw [Array.size_replicate]; omega)
   rw [Array.size_replicate] at hfmt
   have HH0 := Lib.hid hH0
   have HF := Lib.hid hfmt
   have hz24 := strconv_FormatUint_86.z24
   have hs24 := strconv_FormatUint_86.s24
   have ha24 := strconv_FormatUint_86.a24
   clear hH0 hfmt
   go_enter Tryd.func86, Tryd.ntmps86
   go_wp2_with (go_at_call 103; refine (Tryd.internal_strconv_numDigits u (by omega) hu64 _ (Lib.tabIs_alloc htab _)).mono ?_; rintro e w' ⟨rfl, rfl⟩)
   go_at_call 104
   refine HF.out.mono ?_
   rintro e w' ⟨rfl, k, v', dk, rfl, hF⟩
   have hcv : (convert 105 9 (.slice (some ⟨w.heap.size, 0, none⟩) (Lib.nDigits u) 24)).run Tryd.prog ((Sort.putRow (fun (b : UInt8) => Value.int .u8 (b.toNat : Int)) (w.alloc (.cells Lib.zeros24 176)) w.heap.size 0 dk).drewN k) = .ok (.string ⟨(Lib.decDigits u).toArray⟩) ((Sort.putRow (fun (b : UInt8) => Value.int .u8 (b.toNat : Int)) (w.alloc (.cells Lib.zeros24 176)) w.heap.size 0 dk).drewN k) := by
    have h := run_convert_bytes_back (P := Tryd.prog) ((Sort.putRow (fun (b : UInt8) => Value.int .u8 (b.toNat : Int)) (w.alloc (.cells Lib.zeros24 176)) w.heap.size 0 dk).drewN k) 105 9 5 ⟨w.heap.size, 0, none⟩ 24 (Lib.decDigits u) Tryd.underlying105 Tryd.underlying5 Tryd.underlying9 (fun j hj => by
     rw [Lib.row_is_numeral hF j hj, Lib.add_plain, World.cell?_drewN]
     exact Sort.cell?_putRow (fun (b : UInt8) => Value.int .u8 (b.toNat : Int)) _ w.heap.size 0 _ dk HH0.out (by rw [hF.size, Array.size_replicate]) j (by rw [hF.size]; rw [Lib.decDigits_length] at hj; exact hj))
    rw [Lib.decDigits_length] at h
    exact h
   go_wp2
   go_ret
   obtain ⟨os, eo⟩ : ∃ os, (Sort.putRow (fun (b : UInt8) => Value.int .u8 (b.toNat : Int)) (w.alloc (.cells Lib.zeros24 176)) w.heap.size 0 dk).drewN k = Sort.grow (w.drewN k) os := by
    rw [Sort.alloc_eq_grow]
    obtain ⟨os', _, e⟩ := Sort.putRow_grow_new (fun (b : UInt8) => Value.int .u8 (b.toNat : Int)) w #[.cells Lib.zeros24 176] w.heap.size 0 dk (Nat.le_refl _)
    exact ⟨os', by rw [e]; rfl⟩
   refine ⟨rfl, ?_⟩
   rw [eo]
   exact Lib.below_grow _ _ (Nat.le_refl _) _ _
 cases h

end
end Go.Proofs.YteddljbdjgdlnaaDoor.XSb
end
section
namespace Go.Proofs.YteddljbdjgdlnaaDoor.XSb
open Go.RowKit Go.Proofs.YteddljbdjgdlnaaDoorW.PrintWords Go.Proofs.YteddljbdjgdlnaaDoorW.PrintLast Go.Proofs.YteddljbdjgdlnaaDoorW.PrintMore
attribute [local go_sem] extract_sub max2_int min2_int max_two min_two max_three min_three max_four min_four   -- for this text's walks alone
set_option linter.unusedVariables false
set_option linter.unusedSimpArgs false

noncomputable section
def strconv_FormatUint_68.f (a0 : Int) (a1 : Int) : Option (ByteArray) := (strconv_FormatUint_86.f a0 a1).bind fun t138 => (some t138)
set_option maxHeartbeats 8000000 in
set_option maxRecDepth 100000 in
theorem strconv_FormatUint_68.calls (a0 : Int) (a1 : Int) (r : ByteArray) (w : World) (hv : Vars w) (h : strconv_FormatUint_68.f a0 a1 = some r) :
 Calls Tryd.prog 68 #[.int .u64 a0, .int .i64 a1] w fun e w' => e = .returned (.string r) ∧ Below w.heap.size w w' := by
 have HV := Aside0.mk hv
 clear hv
 have HB := Aside0.mk (Below.refl w.heap.size w)
 have H : ((strconv_FormatUint_86.f a0 a1).bind fun t138 => (some t138)) = some r := h
 clear h
 replace H := Option.bind_eq_some_iff.mp H
 obtain ⟨t138, A30, H⟩ := H
 replace H : (some t138) = some r := H
 have A3 := Aside0.mk A30
 clear A30
 obtain rfl := Option.some.inj H
 go_enter Tryd.func68, Tryd.ntmps68
 go_wp2_with (first | ((with_reducible refine gate_callee (f := 86) rfl ?_); refine goesL_ (some 7) rfl rfl Tryd.func86 (by kernel_rfl) rfl #[.int .u64 a0, .int .i64 a1] rfl argA ?_; (with_reducible refine (strconv_FormatUint_86.calls a0 a1 t138 _ ?side1 A3.out).mono ?_); (case side1 => exact Vars.below HV.out (hbA HB.out)); rintro e w4 ⟨rfl, hb⟩; refine ⟨_, rfl, ?_⟩; replace HB := Aside0.mk (below_step (hbA HB.out) hb); (try clear hb); (try clear hb2); (try clear hk); (try clear hi)))
 go_ret
 exact ⟨reA, hbA HB.out⟩

def digits_Text.f (a0 : Int) : Option (ByteArray) := (strconv_FormatUint_68.f a0 10).bind fun t139 => (some t139)
set_option maxHeartbeats 8000000 in
set_option maxRecDepth 100000 in
theorem digits_Text.calls (a0 : Int) (r : ByteArray) (w : World) (hv : Vars w) (h : digits_Text.f a0 = some r) :
 Calls Tryd.prog 41 #[.int .u64 a0] w fun e w' => e = .returned (.string r) ∧ Below w.heap.size w w' := by
 have HV := Aside0.mk hv
 clear hv
 have HB := Aside0.mk (Below.refl w.heap.size w)
 have H : ((strconv_FormatUint_68.f a0 10).bind fun t139 => (some t139)) = some r := h
 clear h
 replace H := Option.bind_eq_some_iff.mp H
 obtain ⟨t139, A20, H⟩ := H
 replace H : (some t139) = some r := H
 have A2 := Aside0.mk A20
 clear A20
 obtain rfl := Option.some.inj H
 go_enter Tryd.func41, Tryd.ntmps41
 go_wp2_with (first | ((with_reducible refine gate_callee (f := 68) rfl ?_); refine goesL_ (some 4) rfl rfl Tryd.func68 (by kernel_rfl) rfl #[.int .u64 a0, .int .i64 10] rfl argA ?_; (with_reducible refine (strconv_FormatUint_68.calls a0 10 t139 _ ?side1 A2.out).mono ?_); (case side1 => exact Vars.below HV.out (hbA HB.out)); rintro e w3 ⟨rfl, hb⟩; refine ⟨_, rfl, ?_⟩; replace HB := Aside0.mk (below_step (hbA HB.out) hb); (try clear hb); (try clear hb2); (try clear hk); (try clear hi)))
 go_ret
 exact ⟨reA, hbA HB.out⟩

def tallboyref02_Text.l0 : Nat → Int → ByteArray → Option (ByteArray)
 | 0, _, _ => none
 | k + 1, x0, x3 => if x0 > 0 then ((some (([(IntKind.u64.wrap (48 + (Int.tmod x0 10))) % 256] : List Int) : List Int)).bind fun y143 => (if (strOfNums y143).size + x3.size ≤ 9223372036854775807 then (tallboyref02_Text.l0 k (IntKind.u64.wrap (Int.tdiv x0 10)) ((strOfNums y143) ++ x3)) else (none))) else (some x3)
def tallboyref02_Text.f (k : Nat) (a0 : Int) : Option (ByteArray) := tallboyref02_Text.l0 k (IntKind.u64.wrap (Int.tdiv a0 10)) (strOfNums (([(IntKind.u64.wrap (48 + (Int.tmod a0 10))) % 256] : List Int)))
theorem tallboyref02_Text.mono_l : ∀ k, (∀ y0 y1, LeO (tallboyref02_Text.l0 k y0 y1) (tallboyref02_Text.l0 (k + 1) y0 y1))
 | 0 => fun _ _ r h => by simp [tallboyref02_Text.l0] at h
 | k + 1 => by
  have ih0 := tallboyref02_Text.mono_l k
  · intro y0 y1
    unfold tallboyref02_Text.l0
    repeat' first
    | (with_reducible exact ih0 _ _)
    | (with_reducible exact LeO.refl _)
    | (with_reducible exact LeO.none _)
    | (with_reducible refine LeO.ite ?_ ?_)
    | (with_reducible refine LeO.bind ?_ (fun _ => ?_))
    | exact ih0 _ _
    | exact LeO.none _
    | refine LeO.ite ?_ ?_
    | refine LeO.bind ?_ (fun _ => ?_)
theorem tallboyref02_Text.mono : ∀ a0 k, LeO (tallboyref02_Text.f k a0) (tallboyref02_Text.f (k + 1) a0) := by
 intro a0 k
 have ih0 := tallboyref02_Text.mono_l k
 unfold tallboyref02_Text.f
 repeat' first
  | (with_reducible exact ih0 _ _)
  | (with_reducible exact LeO.refl _)
  | (with_reducible exact LeO.none _)
  | (with_reducible refine LeO.ite ?_ ?_)
  | (with_reducible refine LeO.bind ?_ (fun _ => ?_))
  | exact ih0 _ _
  | exact LeO.none _
  | refine LeO.ite ?_ ?_
  | refine LeO.bind ?_ (fun _ => ?_)
set_option maxHeartbeats 8000000 in
set_option maxRecDepth 100000 in
theorem tallboyref02_Text.calls (k : Nat) (a0 : Int) (r : ByteArray) (w : World) (h : tallboyref02_Text.f k a0 = some r) :
 Calls Tryd.prog 16 #[.int .u64 a0] w fun e w' => e = .returned (.string r) ∧ Below w.heap.size w w' := by
 have HB := Aside0.mk (Below.refl w.heap.size w)
 have H : (tallboyref02_Text.l0 k (IntKind.u64.wrap (Int.tdiv a0 10)) (strOfNums (([(IntKind.u64.wrap (48 + (Int.tmod a0 10))) % 256] : List Int)))) = some r := h
 clear h
 obtain ⟨y140, hy140⟩ : ∃ y_ : List Int, y_ = (([(IntKind.u64.wrap (48 + (Int.tmod a0 10))) % 256] : List Int)) := ⟨_, rfl⟩
 replace H : (tallboyref02_Text.l0 k (IntKind.u64.wrap (Int.tdiv a0 10)) (strOfNums y140)) = some r := by first | (rw [hy140]; with_reducible exact H) | (have H2_ := (Option.bind_some _ _).symm.trans H; rw [hy140]; with_reducible exact H2_) | (have H2_ := (Option.bind_some _ _).symm.trans H; with_reducible exact H2_) | with_reducible exact H | (rw [hy140]; exact H) | exact H
 have Ny140 := Aside0.mk hy140
 clear hy140
 have H' := Aside0.mk H
 clear H
 go_enter Tryd.func16, Tryd.ntmps16
 go_wp2_with (first | ((with_reducible refine gate_dst (N := 8) rfl ?_); refine Kd.R_lit (Kd.int .u8) _ 5 ?hg (N := 8) ?hd (xs := ([(IntKind.u64.wrap (48 + (Int.tmod a0 10))) % 256] : List Int)) (inner := [.int .u8 ((IntKind.u64.wrap (48 + (Int.tmod a0 10))) % 256)]) (ok := fun _ => True) (okp := fun _ => True) ?hr ?hp (fun _ hk => hk) trivial (Below.refl _ _) (Nat.le_refl _) (by simp) ?_; (case hd => rfl); (case hg => rfl); (case hr => first | (go_simp; done) | (go_simp; rfl)); (case hp => exact (Reps.one (show Kd.M (Kd.int .u8) _ _ _ ((IntKind.u64.wrap (48 + (Int.tmod a0 10))) % 256) [.int .u8 ((IntKind.u64.wrap (48 + (Int.tmod a0 10))) % 256)] from rfl) (Reps.none _ _))); intro v141 w2 ho3 hb hg_ hnew_; clear hg_ hnew_; (first | rw [← Ny140.out] at ho3 | (simp only [Int.reduceToNat] at ho3; rw [← Ny140.out] at ho3)); have n0_ := Aside0.mk (Kd.R_lower ho3 (below_size (hbA HB.out))); have n1_ := Aside0.mk (below_step (hbA HB.out) hb); clear HB; have HO142 := n0_; have HB := n1_; clear n0_ n1_; clear hb ho3; have hcv4 := own_string (P := Tryd.prog) Tryd.underlying105 Tryd.underlying5 Tryd.underlying9 (Kd.own_of_R HO142.out)))
 go_loopg [0, 3] k (fun kq v0 v3 w' => ∃ (x0_1 : Int) (x3_1 : ByteArray), v0 = .int .u64 x0_1 ∧ v3 = .string x3_1 ∧ Aside0 (tallboyref02_Text.l0 kq x0_1 x3_1 = some r) ∧ Aside0 (kq ≤ k) ∧ Aside0 (Below w.heap.size w w'))
 case atStart => exact ⟨(IntKind.u64.wrap (Int.tdiv a0 10)), (strOfNums y140), rsA, rsA, H', ⟨Nat.le_refl _⟩, ⟨hbA HB.out⟩⟩
 case round =>
  clear H'
  (try clear c1); (try clear p2); (try clear hcv4)
  obtain ⟨x0_1, x3_1, rfl, rfl, HA, HK1, HB⟩ := hrel
  cases gk with
  | zero => exact absurd HA.out (by simp [tallboyref02_Text.l0])
  | succ k1 =>
   have H := HA.out
   clear HA
   simp only [tallboyref02_Text.l0] at H
   by_cases c5 : x0_1 > 0
   · rw [if_pos c5] at H
     have c5b0 : decide (0 < x0_1) = true := decide_eq_true c5
     clear c5
     obtain ⟨y143, hy143⟩ : ∃ y_ : List Int, y_ = (([(IntKind.u64.wrap (48 + (Int.tmod x0_1 10))) % 256] : List Int)) := ⟨_, rfl⟩
     replace H : (if (strOfNums y143).size + x3_1.size ≤ 9223372036854775807 then (tallboyref02_Text.l0 k1 (IntKind.u64.wrap (Int.tdiv x0_1 10)) ((strOfNums y143) ++ x3_1)) else (none)) = some r := by first | (rw [hy143]; with_reducible exact H) | (have H2_ := (Option.bind_some _ _).symm.trans H; rw [hy143]; with_reducible exact H2_) | (have H2_ := (Option.bind_some _ _).symm.trans H; with_reducible exact H2_) | with_reducible exact H | (rw [hy143]; exact H) | exact H
     have Ny143 := Aside0.mk hy143
     clear hy143
     by_cases c6 : (strOfNums y143).size + x3_1.size ≤ 9223372036854775807
     · rw [if_pos c6] at H
       have c6b0 := eq_true c6
       have c6b1 : decide ((strOfNums y143).size + x3_1.size ≤ 9223372036854775807) = true := decide_eq_true c6
       try have c6b2 : (9223372036854775807 < (strOfNums y143).size + x3_1.size) = False := eq_false (Nat.not_lt.2 c6)
       have H' := Aside0.mk H
       clear H
       go_wp2_with (first | ((with_reducible refine gate_dst (N := 20) rfl ?_); refine Kd.R_lit (Kd.int .u8) _ 5 ?hg (N := 20) ?hd (xs := ([(IntKind.u64.wrap (48 + (Int.tmod x0_1 10))) % 256] : List Int)) (inner := [.int .u8 ((IntKind.u64.wrap (48 + (Int.tmod x0_1 10))) % 256)]) (ok := fun _ => True) (okp := fun _ => True) ?hr ?hp (fun _ hk => hk) trivial (Below.refl _ _) (Nat.le_refl _) (by simp) ?_; (case hd => rfl); (case hg => rfl); (case hr => first | (go_simp; done) | (go_simp; rfl)); (case hp => exact (Reps.one (show Kd.M (Kd.int .u8) _ _ _ ((IntKind.u64.wrap (48 + (Int.tmod x0_1 10))) % 256) [.int .u8 ((IntKind.u64.wrap (48 + (Int.tmod x0_1 10))) % 256)] from rfl) (Reps.none _ _))); intro v144 w7 ho8 hb hg_ hnew_; clear hg_ hnew_; (first | rw [← Ny143.out] at ho8 | (simp only [Int.reduceToNat] at ho8; rw [← Ny143.out] at ho8)); have n0_ := Aside0.mk (Kd.R_lower ho8 (below_size (hbA HB.out))); have n1_ := Aside0.mk (below_step (hbA HB.out) hb); clear HB; have HO145 := n0_; have HB := n1_; clear n0_ n1_; clear hb ho8; have hcv9 := own_string (P := Tryd.prog) Tryd.underlying105 Tryd.underlying5 Tryd.underlying9 (Kd.own_of_R HO145.out)))
       go_roundg k1
       case measure => have := HK1.out; omega
       case rel => exact ⟨(IntKind.u64.wrap (Int.tdiv x0_1 10)), ((strOfNums y143) ++ x3_1), rsA, rsA, H', ⟨by have := HK1.out; omega⟩, ⟨hbA HB.out⟩⟩
     rw [if_neg c6] at H
     exact absurd H (by simp)
   rw [if_neg c5] at H
   have c5b0 : decide (0 < x0_1) = false := decide_eq_false c5
   clear c5
   obtain rfl := Option.some.inj H
   go_wp2
   go_ret
   exact ⟨reA, hbA HB.out⟩

def tallboyref32_Names.f  : Option (List ByteArray) := some (([(⟨#[99, 109, 100, 95, 103, 101, 116]⟩ : ByteArray), (⟨#[99, 109, 100, 95, 115, 101, 116]⟩ : ByteArray), (⟨#[99, 109, 100, 95, 102, 108, 117, 115, 104]⟩ : ByteArray), (⟨#[99, 109, 100, 95, 116, 111, 117, 99, 104]⟩ : ByteArray), (⟨#[103, 101, 116, 95, 104, 105, 116, 115]⟩ : ByteArray), (⟨#[103, 101, 116, 95, 109, 105, 115, 115, 101, 115]⟩ : ByteArray), (⟨#[100, 101, 108, 101, 116, 101, 95, 104, 105, 116, 115]⟩ : ByteArray), (⟨#[100, 101, 108, 101, 116, 101, 95, 109, 105, 115, 115, 101, 115]⟩ : ByteArray), (⟨#[105, 110, 99, 114, 95, 104, 105, 116, 115]⟩ : ByteArray), (⟨#[105, 110, 99, 114, 95, 109, 105, 115, 115, 101, 115]⟩ : ByteArray), (⟨#[100, 101, 99, 114, 95, 104, 105, 116, 115]⟩ : ByteArray), (⟨#[100, 101, 99, 114, 95, 109, 105, 115, 115, 101, 115]⟩ : ByteArray), (⟨#[99, 97, 115, 95, 104, 105, 116, 115]⟩ : ByteArray), (⟨#[99, 97, 115, 95, 98, 97, 100, 118, 97, 108]⟩ : ByteArray), (⟨#[99, 97, 115, 95, 109, 105, 115, 115, 101, 115]⟩ : ByteArray), (⟨#[116, 111, 117, 99, 104, 95, 104, 105, 116, 115]⟩ : ByteArray), (⟨#[116, 111, 117, 99, 104, 95, 109, 105, 115, 115, 101, 115]⟩ : ByteArray), (⟨#[110, 111, 116, 95, 115, 116, 111, 114, 101, 100]⟩ : ByteArray), (⟨#[116, 111, 111, 95, 108, 97, 114, 103, 101]⟩ : ByteArray), (⟨#[110, 111, 95, 109, 101, 109, 111, 114, 121]⟩ : ByteArray), (⟨#[110, 111, 95, 110, 117, 109, 98, 101, 114]⟩ : ByteArray), (⟨#[101, 118, 105, 99, 116, 105, 111, 110, 115]⟩ : ByteArray), (⟨#[109, 111, 118, 101, 100]⟩ : ByteArray), (⟨#[102, 97, 105, 108, 101, 100]⟩ : ByteArray)] : List ByteArray))
set_option maxHeartbeats 8000000 in
set_option maxRecDepth 100000 in
theorem tallboyref32_Names.calls  (r : List ByteArray) (w : World) (h : tallboyref32_Names.f  = some r) :
 Calls Tryd.prog 40 #[] w fun e w' => ∃ v0_ : Value, e = .returned (v0_) ∧ Kd.R Kd.string 9 w' w.heap.size (fun _ => True) v0_ r ∧ Below w.heap.size w w' := by
 have HB := Aside0.mk (Below.refl w.heap.size w)
 have H : (some (([(⟨#[99, 109, 100, 95, 103, 101, 116]⟩ : ByteArray), (⟨#[99, 109, 100, 95, 115, 101, 116]⟩ : ByteArray), (⟨#[99, 109, 100, 95, 102, 108, 117, 115, 104]⟩ : ByteArray), (⟨#[99, 109, 100, 95, 116, 111, 117, 99, 104]⟩ : ByteArray), (⟨#[103, 101, 116, 95, 104, 105, 116, 115]⟩ : ByteArray), (⟨#[103, 101, 116, 95, 109, 105, 115, 115, 101, 115]⟩ : ByteArray), (⟨#[100, 101, 108, 101, 116, 101, 95, 104, 105, 116, 115]⟩ : ByteArray), (⟨#[100, 101, 108, 101, 116, 101, 95, 109, 105, 115, 115, 101, 115]⟩ : ByteArray), (⟨#[105, 110, 99, 114, 95, 104, 105, 116, 115]⟩ : ByteArray), (⟨#[105, 110, 99, 114, 95, 109, 105, 115, 115, 101, 115]⟩ : ByteArray), (⟨#[100, 101, 99, 114, 95, 104, 105, 116, 115]⟩ : ByteArray), (⟨#[100, 101, 99, 114, 95, 109, 105, 115, 115, 101, 115]⟩ : ByteArray), (⟨#[99, 97, 115, 95, 104, 105, 116, 115]⟩ : ByteArray), (⟨#[99, 97, 115, 95, 98, 97, 100, 118, 97, 108]⟩ : ByteArray), (⟨#[99, 97, 115, 95, 109, 105, 115, 115, 101, 115]⟩ : ByteArray), (⟨#[116, 111, 117, 99, 104, 95, 104, 105, 116, 115]⟩ : ByteArray), (⟨#[116, 111, 117, 99, 104, 95, 109, 105, 115, 115, 101, 115]⟩ : ByteArray), (⟨#[110, 111, 116, 95, 115, 116, 111, 114, 101, 100]⟩ : ByteArray), (⟨#[116, 111, 111, 95, 108, 97, 114, 103, 101]⟩ : ByteArray), (⟨#[110, 111, 95, 109, 101, 109, 111, 114, 121]⟩ : ByteArray), (⟨#[110, 111, 95, 110, 117, 109, 98, 101, 114]⟩ : ByteArray), (⟨#[101, 118, 105, 99, 116, 105, 111, 110, 115]⟩ : ByteArray), (⟨#[109, 111, 118, 101, 100]⟩ : ByteArray), (⟨#[102, 97, 105, 108, 101, 100]⟩ : ByteArray)] : List ByteArray))) = some r := h
 clear h
 obtain ⟨y146, hy146⟩ : ∃ y_ : List ByteArray, y_ = (([(⟨#[99, 109, 100, 95, 103, 101, 116]⟩ : ByteArray), (⟨#[99, 109, 100, 95, 115, 101, 116]⟩ : ByteArray), (⟨#[99, 109, 100, 95, 102, 108, 117, 115, 104]⟩ : ByteArray), (⟨#[99, 109, 100, 95, 116, 111, 117, 99, 104]⟩ : ByteArray), (⟨#[103, 101, 116, 95, 104, 105, 116, 115]⟩ : ByteArray), (⟨#[103, 101, 116, 95, 109, 105, 115, 115, 101, 115]⟩ : ByteArray), (⟨#[100, 101, 108, 101, 116, 101, 95, 104, 105, 116, 115]⟩ : ByteArray), (⟨#[100, 101, 108, 101, 116, 101, 95, 109, 105, 115, 115, 101, 115]⟩ : ByteArray), (⟨#[105, 110, 99, 114, 95, 104, 105, 116, 115]⟩ : ByteArray), (⟨#[105, 110, 99, 114, 95, 109, 105, 115, 115, 101, 115]⟩ : ByteArray), (⟨#[100, 101, 99, 114, 95, 104, 105, 116, 115]⟩ : ByteArray), (⟨#[100, 101, 99, 114, 95, 109, 105, 115, 115, 101, 115]⟩ : ByteArray), (⟨#[99, 97, 115, 95, 104, 105, 116, 115]⟩ : ByteArray), (⟨#[99, 97, 115, 95, 98, 97, 100, 118, 97, 108]⟩ : ByteArray), (⟨#[99, 97, 115, 95, 109, 105, 115, 115, 101, 115]⟩ : ByteArray), (⟨#[116, 111, 117, 99, 104, 95, 104, 105, 116, 115]⟩ : ByteArray), (⟨#[116, 111, 117, 99, 104, 95, 109, 105, 115, 115, 101, 115]⟩ : ByteArray), (⟨#[110, 111, 116, 95, 115, 116, 111, 114, 101, 100]⟩ : ByteArray), (⟨#[116, 111, 111, 95, 108, 97, 114, 103, 101]⟩ : ByteArray), (⟨#[110, 111, 95, 109, 101, 109, 111, 114, 121]⟩ : ByteArray), (⟨#[110, 111, 95, 110, 117, 109, 98, 101, 114]⟩ : ByteArray), (⟨#[101, 118, 105, 99, 116, 105, 111, 110, 115]⟩ : ByteArray), (⟨#[109, 111, 118, 101, 100]⟩ : ByteArray), (⟨#[102, 97, 105, 108, 101, 100]⟩ : ByteArray)] : List ByteArray)) := ⟨_, rfl⟩
 replace H : (some y146) = some r := by first | (rw [hy146]; with_reducible exact H) | (have H2_ := (Option.bind_some _ _).symm.trans H; rw [hy146]; with_reducible exact H2_) | (have H2_ := (Option.bind_some _ _).symm.trans H; with_reducible exact H2_) | with_reducible exact H | (rw [hy146]; exact H) | exact H
 have Ny146 := Aside0.mk hy146
 clear hy146
 obtain rfl := Option.some.inj H
 go_enter Tryd.func40, Tryd.ntmps40
 go_wp2_with (first | ((with_reducible refine gate_dst (N := 1) rfl ?_); refine Kd.R_lit Kd.string _ 9 ?hg (N := 1) ?hd (xs := ([(⟨#[99, 109, 100, 95, 103, 101, 116]⟩ : ByteArray), (⟨#[99, 109, 100, 95, 115, 101, 116]⟩ : ByteArray), (⟨#[99, 109, 100, 95, 102, 108, 117, 115, 104]⟩ : ByteArray), (⟨#[99, 109, 100, 95, 116, 111, 117, 99, 104]⟩ : ByteArray), (⟨#[103, 101, 116, 95, 104, 105, 116, 115]⟩ : ByteArray), (⟨#[103, 101, 116, 95, 109, 105, 115, 115, 101, 115]⟩ : ByteArray), (⟨#[100, 101, 108, 101, 116, 101, 95, 104, 105, 116, 115]⟩ : ByteArray), (⟨#[100, 101, 108, 101, 116, 101, 95, 109, 105, 115, 115, 101, 115]⟩ : ByteArray), (⟨#[105, 110, 99, 114, 95, 104, 105, 116, 115]⟩ : ByteArray), (⟨#[105, 110, 99, 114, 95, 109, 105, 115, 115, 101, 115]⟩ : ByteArray), (⟨#[100, 101, 99, 114, 95, 104, 105, 116, 115]⟩ : ByteArray), (⟨#[100, 101, 99, 114, 95, 109, 105, 115, 115, 101, 115]⟩ : ByteArray), (⟨#[99, 97, 115, 95, 104, 105, 116, 115]⟩ : ByteArray), (⟨#[99, 97, 115, 95, 98, 97, 100, 118, 97, 108]⟩ : ByteArray), (⟨#[99, 97, 115, 95, 109, 105, 115, 115, 101, 115]⟩ : ByteArray), (⟨#[116, 111, 117, 99, 104, 95, 104, 105, 116, 115]⟩ : ByteArray), (⟨#[116, 111, 117, 99, 104, 95, 109, 105, 115, 115, 101, 115]⟩ : ByteArray), (⟨#[110, 111, 116, 95, 115, 116, 111, 114, 101, 100]⟩ : ByteArray), (⟨#[116, 111, 111, 95, 108, 97, 114, 103, 101]⟩ : ByteArray), (⟨#[110, 111, 95, 109, 101, 109, 111, 114, 121]⟩ : ByteArray), (⟨#[110, 111, 95, 110, 117, 109, 98, 101, 114]⟩ : ByteArray), (⟨#[101, 118, 105, 99, 116, 105, 111, 110, 115]⟩ : ByteArray), (⟨#[109, 111, 118, 101, 100]⟩ : ByteArray), (⟨#[102, 97, 105, 108, 101, 100]⟩ : ByteArray)] : List ByteArray)) (inner := [.string (⟨#[99, 109, 100, 95, 103, 101, 116]⟩ : ByteArray), .string (⟨#[99, 109, 100, 95, 115, 101, 116]⟩ : ByteArray), .string (⟨#[99, 109, 100, 95, 102, 108, 117, 115, 104]⟩ : ByteArray), .string (⟨#[99, 109, 100, 95, 116, 111, 117, 99, 104]⟩ : ByteArray), .string (⟨#[103, 101, 116, 95, 104, 105, 116, 115]⟩ : ByteArray), .string (⟨#[103, 101, 116, 95, 109, 105, 115, 115, 101, 115]⟩ : ByteArray), .string (⟨#[100, 101, 108, 101, 116, 101, 95, 104, 105, 116, 115]⟩ : ByteArray), .string (⟨#[100, 101, 108, 101, 116, 101, 95, 109, 105, 115, 115, 101, 115]⟩ : ByteArray), .string (⟨#[105, 110, 99, 114, 95, 104, 105, 116, 115]⟩ : ByteArray), .string (⟨#[105, 110, 99, 114, 95, 109, 105, 115, 115, 101, 115]⟩ : ByteArray), .string (⟨#[100, 101, 99, 114, 95, 104, 105, 116, 115]⟩ : ByteArray), .string (⟨#[100, 101, 99, 114, 95, 109, 105, 115, 115, 101, 115]⟩ : ByteArray), .string (⟨#[99, 97, 115, 95, 104, 105, 116, 115]⟩ : ByteArray), .string (⟨#[99, 97, 115, 95, 98, 97, 100, 118, 97, 108]⟩ : ByteArray), .string (⟨#[99, 97, 115, 95, 109, 105, 115, 115, 101, 115]⟩ : ByteArray), .string (⟨#[116, 111, 117, 99, 104, 95, 104, 105, 116, 115]⟩ : ByteArray), .string (⟨#[116, 111, 117, 99, 104, 95, 109, 105, 115, 115, 101, 115]⟩ : ByteArray), .string (⟨#[110, 111, 116, 95, 115, 116, 111, 114, 101, 100]⟩ : ByteArray), .string (⟨#[116, 111, 111, 95, 108, 97, 114, 103, 101]⟩ : ByteArray), .string (⟨#[110, 111, 95, 109, 101, 109, 111, 114, 121]⟩ : ByteArray), .string (⟨#[110, 111, 95, 110, 117, 109, 98, 101, 114]⟩ : ByteArray), .string (⟨#[101, 118, 105, 99, 116, 105, 111, 110, 115]⟩ : ByteArray), .string (⟨#[109, 111, 118, 101, 100]⟩ : ByteArray), .string (⟨#[102, 97, 105, 108, 101, 100]⟩ : ByteArray)]) (ok := fun _ => True) (okp := fun _ => True) ?hr ?hp (fun _ hk => hk) trivial (Below.refl _ _) (Nat.le_refl _) (by simp) ?_; (case hd => rfl); (case hg => rfl); (case hr => first | (go_simp; done) | (go_simp; rfl)); (case hp => exact (Reps.one (show Kd.M Kd.string _ _ _ (⟨#[99, 109, 100, 95, 103, 101, 116]⟩ : ByteArray) [.string (⟨#[99, 109, 100, 95, 103, 101, 116]⟩ : ByteArray)] from rfl) (Reps.one (show Kd.M Kd.string _ _ _ (⟨#[99, 109, 100, 95, 115, 101, 116]⟩ : ByteArray) [.string (⟨#[99, 109, 100, 95, 115, 101, 116]⟩ : ByteArray)] from rfl) (Reps.one (show Kd.M Kd.string _ _ _ (⟨#[99, 109, 100, 95, 102, 108, 117, 115, 104]⟩ : ByteArray) [.string (⟨#[99, 109, 100, 95, 102, 108, 117, 115, 104]⟩ : ByteArray)] from rfl) (Reps.one (show Kd.M Kd.string _ _ _ (⟨#[99, 109, 100, 95, 116, 111, 117, 99, 104]⟩ : ByteArray) [.string (⟨#[99, 109, 100, 95, 116, 111, 117, 99, 104]⟩ : ByteArray)] from rfl) (Reps.one (show Kd.M Kd.string _ _ _ (⟨#[103, 101, 116, 95, 104, 105, 116, 115]⟩ : ByteArray) [.string (⟨#[103, 101, 116, 95, 104, 105, 116, 115]⟩ : ByteArray)] from rfl) (Reps.one (show Kd.M Kd.string _ _ _ (⟨#[103, 101, 116, 95, 109, 105, 115, 115, 101, 115]⟩ : ByteArray) [.string (⟨#[103, 101, 116, 95, 109, 105, 115, 115, 101, 115]⟩ : ByteArray)] from rfl) (Reps.one (show Kd.M Kd.string _ _ _ (⟨#[100, 101, 108, 101, 116, 101, 95, 104, 105, 116, 115]⟩ : ByteArray) [.string (⟨#[100, 101, 108, 101, 116, 101, 95, 104, 105, 116, 115]⟩ : ByteArray)] from rfl) (Reps.one (show Kd.M Kd.string _ _ _ (⟨#[100, 101, 108, 101, 116, 101, 95, 109, 105, 115, 115, 101, 115]⟩ : ByteArray) [.string (⟨#[100, 101, 108, 101, 116, 101, 95, 109, 105, 115, 115, 101, 115]⟩ : ByteArray)] from rfl) (Reps.one (show Kd.M Kd.string _ _ _ (⟨#[105, 110, 99, 114, 95, 104, 105, 116, 115]⟩ : ByteArray) [.string (⟨#[105, 110, 99, 114, 95, 104, 105, 116, 115]⟩ : ByteArray)] from rfl) (Reps.one (show Kd.M Kd.string _ _ _ (⟨#[105, 110, 99, 114, 95, 109, 105, 115, 115, 101, 115]⟩ : ByteArray) [.string (⟨#[105, 110, 99, 114, 95, 109, 105, 115, 115, 101, 115]⟩ : ByteArray)] from rfl) (Reps.one (show Kd.M Kd.string _ _ _ (⟨#[100, 101, 99, 114, 95, 104, 105, 116, 115]⟩ : ByteArray) [.string (⟨#[100, 101, 99, 114, 95, 104, 105, 116, 115]⟩ : ByteArray)] from rfl) (Reps.one (show Kd.M Kd.string _ _ _ (⟨#[100, 101, 99, 114, 95, 109, 105, 115, 115, 101, 115]⟩ : ByteArray) [.string (⟨#[100, 101, 99, 114, 95, 109, 105, 115, 115, 101, 115]⟩ : ByteArray)] from rfl) (Reps.one (show Kd.M Kd.string _ _ _ (⟨#[99, 97, 115, 95, 104, 105, 116, 115]⟩ : ByteArray) [.string (⟨#[99, 97, 115, 95, 104, 105, 116, 115]⟩ : ByteArray)] from rfl) (Reps.one (show Kd.M Kd.string _ _ _ (⟨#[99, 97, 115, 95, 98, 97, 100, 118, 97, 108]⟩ : ByteArray) [.string (⟨#[99, 97, 115, 95, 98, 97, 100, 118, 97, 108]⟩ : ByteArray)] from rfl) (Reps.one (show Kd.M Kd.string _ _ _ (⟨#[99, 97, 115, 95, 109, 105, 115, 115, 101, 115]⟩ : ByteArray) [.string (⟨#[99, 97, 115, 95, 109, 105, 115, 115, 101, 115]⟩ : ByteArray)] from rfl) (Reps.one (show Kd.M Kd.string _ _ _ (⟨#[116, 111, 117, 99, 104, 95, 104, 105, 116, 115]⟩ : ByteArray) [.string (⟨#[116, 111, 117, 99, 104, 95, 104, 105, 116, 115]⟩ : ByteArray)] from rfl) (Reps.one (show Kd.M Kd.string _ _ _ (⟨#[116, 111, 117, 99, 104, 95, 109, 105, 115, 115, 101, 115]⟩ : ByteArray) [.string (⟨#[116, 111, 117, 99, 104, 95, 109, 105, 115, 115, 101, 115]⟩ : ByteArray)] from rfl) (Reps.one (show Kd.M Kd.string _ _ _ (⟨#[110, 111, 116, 95, 115, 116, 111, 114, 101, 100]⟩ : ByteArray) [.string (⟨#[110, 111, 116, 95, 115, 116, 111, 114, 101, 100]⟩ : ByteArray)] from rfl) (Reps.one (show Kd.M Kd.string _ _ _ (⟨#[116, 111, 111, 95, 108, 97, 114, 103, 101]⟩ : ByteArray) [.string (⟨#[116, 111, 111, 95, 108, 97, 114, 103, 101]⟩ : ByteArray)] from rfl) (Reps.one (show Kd.M Kd.string _ _ _ (⟨#[110, 111, 95, 109, 101, 109, 111, 114, 121]⟩ : ByteArray) [.string (⟨#[110, 111, 95, 109, 101, 109, 111, 114, 121]⟩ : ByteArray)] from rfl) (Reps.one (show Kd.M Kd.string _ _ _ (⟨#[110, 111, 95, 110, 117, 109, 98, 101, 114]⟩ : ByteArray) [.string (⟨#[110, 111, 95, 110, 117, 109, 98, 101, 114]⟩ : ByteArray)] from rfl) (Reps.one (show Kd.M Kd.string _ _ _ (⟨#[101, 118, 105, 99, 116, 105, 111, 110, 115]⟩ : ByteArray) [.string (⟨#[101, 118, 105, 99, 116, 105, 111, 110, 115]⟩ : ByteArray)] from rfl) (Reps.one (show Kd.M Kd.string _ _ _ (⟨#[109, 111, 118, 101, 100]⟩ : ByteArray) [.string (⟨#[109, 111, 118, 101, 100]⟩ : ByteArray)] from rfl) (Reps.one (show Kd.M Kd.string _ _ _ (⟨#[102, 97, 105, 108, 101, 100]⟩ : ByteArray) [.string (⟨#[102, 97, 105, 108, 101, 100]⟩ : ByteArray)] from rfl) (Reps.none _ _)))))))))))))))))))))))))); intro v147 w1 ho2 hb hg_ hnew_; clear hg_ hnew_; (first | rw [← Ny146.out] at ho2 | (simp only [Int.reduceToNat] at ho2; rw [← Ny146.out] at ho2)); have n0_ := Aside0.mk (Kd.R_lower ho2 (below_size (hbA HB.out))); have n1_ := Aside0.mk (below_step (hbA HB.out) hb); clear HB; have HO148 := n0_; have HB := n1_; clear n0_ n1_; clear hb ho2))
 go_ret
 exact ⟨_, reA, by (with_reducible repeat (first | apply Kd.R_alloc | apply Kd.R_drewN | apply Kd.R_drew)); exact HO148.out, hbA HB.out⟩

def tallboylaw15_Own.f (a0_0 : Int) (l0_1 : List ByteArray) (a0_2 : Int) (a0_3 : Int) (a0_4 : ByteArray) (a0_5 : Int) (a0_6 : Int) (a0_7 : Bool) : Option (Int × List ByteArray × Int × Int × ByteArray × Int × Int × Bool) := (some (([] : List ByteArray) : List ByteArray)).bind fun y151 => (if y151.length + l0_1.length < 8796093022208 then (some (a0_0, (y151 ++ l0_1), a0_2, a0_3, a0_4, a0_5, a0_6, a0_7)) else (none))
set_option maxHeartbeats 8000000 in
set_option maxRecDepth 100000 in
theorem tallboylaw15_Own.calls (a0_0 : Int) (A0_1 : Option Addr) (c0_1 : Nat) (l0_1 : List ByteArray) (a0_2 : Int) (a0_3 : Int) (a0_4 : ByteArray) (a0_5 : Int) (a0_6 : Int) (a0_7 : Bool) (r1 : Int) (r2 : List ByteArray) (r3 : Int) (r4 : Int) (r5 : ByteArray) (r6 : Int) (r7 : Int) (r8 : Bool) (w : World) (hr0_1 : Kd.C Kd.string w A0_1 l0_1.length l0_1) (hc0_1 : l0_1.length ≤ c0_1) (h : tallboylaw15_Own.f a0_0 l0_1 a0_2 a0_3 a0_4 a0_5 a0_6 a0_7 = some (r1, r2, r3, r4, r5, r6, r7, r8)) :
 Calls Tryd.prog 63 #[.agg #[.int .i64 a0_0, .slice A0_1 l0_1.length c0_1, .int .u32 a0_2, .int .i64 a0_3, .string a0_4, .int .u64 a0_5, .int .u64 a0_6, .bool a0_7]] w fun e w' => ∃ v1_ : Value, e = .returned (.agg #[.int .i64 r1, v1_, .int .u32 r3, .int .i64 r4, .string r5, .int .u64 r6, .int .u64 r7, .bool r8]) ∧ Kd.R Kd.string 9 w' w.heap.size (fun _ => True) v1_ r2 ∧ Below w.heap.size w w' := by
 have hu36 := Tryd.underlying36
 have HR0_1 := Aside0.mk hr0_1
 have HC0_1 := Aside0.mk hc0_1
 clear hr0_1 hc0_1
 have HB := Aside0.mk (Below.refl w.heap.size w)
 have H : ((some (([] : List ByteArray) : List ByteArray)).bind fun y151 => (if y151.length + l0_1.length < 8796093022208 then (some (a0_0, (y151 ++ l0_1), a0_2, a0_3, a0_4, a0_5, a0_6, a0_7)) else (none))) = some (r1, r2, r3, r4, r5, r6, r7, r8) := h
 clear h
 obtain ⟨y151, hy151⟩ : ∃ y_ : List ByteArray, y_ = (([] : List ByteArray)) := ⟨_, rfl⟩
 replace H : (if y151.length + l0_1.length < 8796093022208 then (some (a0_0, (y151 ++ l0_1), a0_2, a0_3, a0_4, a0_5, a0_6, a0_7)) else (none)) = some (r1, r2, r3, r4, r5, r6, r7, r8) := by first | (rw [hy151]; with_reducible exact H) | (have H2_ := (Option.bind_some _ _).symm.trans H; rw [hy151]; with_reducible exact H2_) | (have H2_ := (Option.bind_some _ _).symm.trans H; with_reducible exact H2_) | with_reducible exact H | (rw [hy151]; exact H) | exact H
 have Ny151 := Aside0.mk hy151
 clear hy151
 by_cases c2 : y151.length + l0_1.length < 8796093022208
 · rw [if_pos c2] at H
   have LMc2 := Aside0.mk c2
   clear c2
   obtain ⟨y154, hy154⟩ : ∃ y_ : List ByteArray, y_ = (y151 ++ l0_1) := ⟨_, rfl⟩
   replace H : (some (a0_0, y154, a0_2, a0_3, a0_4, a0_5, a0_6, a0_7)) = some (r1, r2, r3, r4, r5, r6, r7, r8) := by first | (rw [hy154]; with_reducible exact H) | (have H2_ := (Option.bind_some _ _).symm.trans H; rw [hy154]; with_reducible exact H2_) | (have H2_ := (Option.bind_some _ _).symm.trans H; with_reducible exact H2_) | with_reducible exact H | (rw [hy154]; exact H) | exact H
   have Ny154 := Aside0.mk hy154
   clear hy154
   simp only [Option.some.injEq, Prod.mk.injEq] at H
   obtain ⟨rfl, rfl, rfl, rfl, rfl, rfl, rfl, rfl⟩ := H
   go_enter Tryd.func63, Tryd.ntmps63
   go_wp2_with (first | ((with_reducible refine gate_dst (N := 1) rfl ?_); refine box_event ?hg (N := 1) ?hd (cs := #[.int .i64 a0_0, .slice A0_1 l0_1.length c0_1, .int .u32 a0_2, .int .i64 a0_3, .string a0_4, .int .u64 a0_5, .int .u64 a0_6, .bool a0_7]) (t := 36) ?hr ?_; (case hd => rfl); (case hg => rfl); (case hr => first | (go_simp; done) | (go_simp; rfl)); intro gb149 hg w3 hbox hb; have n0_ := Aside0.mk (below_step (hbA HB.out) hb); have n1_ := Aside0.mk (hbox); have n2_ := Aside0.mk ((by rw [hg]; exact (below_size (hbA HB.out)) : w.heap.size ≤ gb149)); have n3_ := Aside0.mk ((by rw [hg]; exact (below_size (hbA HB.out)) : w.heap.size ≤ gb149)); clear HB; have HB := n0_; have BK149 := n1_; have GW149 := n2_; have GE149 := n3_; clear n0_ n1_ n2_ n3_; clear hb hbox hg) | ((with_reducible refine gate_dst (N := 2) rfl ?_); refine box_event ?hg (N := 2) ?hd (cs := #[.int .i64 0, .slice none 0 0, .int .u32 0, .int .i64 0, .string (⟨#[]⟩ : ByteArray), .int .u64 0, .int .u64 0, .bool false]) (t := 36) ?hr ?_; (case hd => rfl); (case hg => rfl); (case hr => first | (go_simp; done) | (go_simp; rfl)); intro gb150 hg w4 hbox hb; have n0_ := Aside0.mk (blk_below (g := gb149) (o := .cells #[.int .i64 a0_0, .slice A0_1 l0_1.length c0_1, .int .u32 a0_2, .int .i64 a0_3, .string a0_4, .int .u64 a0_5, .int .u64 a0_6, .bool a0_7] 36 (0, 0)) (rbA BK149.out) hb); have n1_ := Aside0.mk (below_step (hbA HB.out) hb); have n2_ := Aside0.mk (hbox); have n3_ := Aside0.mk ((by rw [hg]; exact (below_size (hbA HB.out)) : w.heap.size ≤ gb150)); have n4_ := Aside0.mk ((by rw [hg]; exact (below_size (hbA HB.out)) : w.heap.size ≤ gb150)); have n5_ := Aside0.mk ((by rw [hg]; exact Nat.ne_of_lt (blk_lt (g := gb149) (o := .cells #[.int .i64 a0_0, .slice A0_1 l0_1.length c0_1, .int .u32 a0_2, .int .i64 a0_3, .string a0_4, .int .u64 a0_5, .int .u64 a0_6, .bool a0_7] 36 (0, 0)) (rbA BK149.out)) : gb149 ≠ gb150)); have n6_ := Aside0.mk ((by rw [hg]; exact Nat.ne_of_gt (blk_lt (g := gb149) (o := .cells #[.int .i64 a0_0, .slice A0_1 l0_1.length c0_1, .int .u32 a0_2, .int .i64 a0_3, .string a0_4, .int .u64 a0_5, .int .u64 a0_6, .bool a0_7] 36 (0, 0)) (rbA BK149.out)) : gb150 ≠ gb149)); clear BK149; clear HB; have BK149 := n0_; have HB := n1_; have BK150 := n2_; have GW150 := n3_; have GE150 := n4_; have NB149_150 := n5_; have NB150_149 := n6_; clear n0_ n1_ n2_ n3_ n4_ n5_ n6_; clear hb hbox hg) | ((with_reducible refine gate_dst (N := 3) rfl ?_); refine Kd.R_lit Kd.string _ 9 ?hg (N := 3) ?hd (xs := ([] : List ByteArray)) (inner := []) (ok := fun _ => True) (okp := fun _ => True) ?hr ?hp (fun _ hk => hk) trivial (Below.refl _ _) (Nat.le_refl _) (by simp) ?_; (case hd => rfl); (case hg => rfl); (case hr => first | (go_simp; done) | (go_simp; rfl)); (case hp => exact (Reps.none _ _)); intro v152 w5 ho6 hb hg_ hnew_; clear hg_ hnew_; (first | rw [← Ny151.out] at ho6 | (simp only [Int.reduceToNat] at ho6; rw [← Ny151.out] at ho6)); have n0_ := Aside0.mk (Kd.R_lower ho6 (below_size (hbA HB.out))); have n1_ := Aside0.mk (blk_below (g := gb149) (o := .cells #[.int .i64 a0_0, .slice A0_1 l0_1.length c0_1, .int .u32 a0_2, .int .i64 a0_3, .string a0_4, .int .u64 a0_5, .int .u64 a0_6, .bool a0_7] 36 (0, 0)) (rbA BK149.out) hb); have n2_ := Aside0.mk (blk_below (g := gb150) (o := .cells #[.int .i64 0, .slice none 0 0, .int .u32 0, .int .i64 0, .string (⟨#[]⟩ : ByteArray), .int .u64 0, .int .u64 0, .bool false] 36 (0, 0)) (rbA BK150.out) hb); have n3_ := Aside0.mk (below_step (hbA HB.out) hb); clear BK149; clear BK150; clear HB; have HO153 := n0_; have BK149 := n1_; have BK150 := n2_; have HB := n3_; clear n0_ n1_ n2_ n3_; clear hb ho6; have hnb7 := NB149_150.out; have hnc7 := NB150_149.out; obtain ⟨hcz8_0, hcz8_1, hcz8_2, hcz8_3, hcz8_4, hcz8_5, hcz8_6, hcz8_7, hfz8_0, hfz8_1, hfz8_2, hfz8_3, hfz8_4, hfz8_5, hfz8_6, hfz8_7⟩ := blkA8 BK149.out) | ((with_reducible refine gate_builtin (b := .append) (xs := #[.tmp 3, .tmp 5]) rfl ?_); at_builtin; refine Kd.R_append_rows Kd.string (w0 := w) w.heap.size rfl (.tmp 3) (.tmp 5) 33 9 (.string ⟨#[]⟩) 16 rfl Tryd.underlying33 info9 rfl (by decide) (by omega) v152 y151 l0_1 _ _ _ (fun _ => True) (fun _ => False) rfl rfl ?aO ?aR (fun _ _ h => h) (fun _ h => h.elim) ?aF ?aB ?aS ?aL ?_; (case aR => repeat (first | exact (Kd.C_below HR0_1.out HB.out) | (with_reducible refine Kd.C_alloc ?_ _) | (with_reducible refine Kd.C_drewN ?_ _) | (with_reducible refine Kd.C_drew ?_))); (case aB => exact (hbA HB.out)); (case aF => exact (fun _ _ => trivial)); (case aO => exact (rdA HO153.out)); (case aS => exact (below_size (hbA HB.out))); (case aL => have := LMc2.out; omega); intro v155 w9 ho hb hg hat; rw [← Ny154.out] at ho; have n0_ := Aside0.mk (blk_grown (g := gb149) (o := .cells #[.int .i64 a0_0, .slice A0_1 l0_1.length c0_1, .int .u32 a0_2, .int .i64 a0_3, .string a0_4, .int .u64 a0_5, .int .u64 a0_6, .bool a0_7] 36 (0, 0)) (rbA BK149.out) hg (Kd.R_ne HO153.out BK149.out (by decide))); have n1_ := Aside0.mk (blk_grown (g := gb150) (o := .cells #[.int .i64 0, .slice none 0 0, .int .u32 0, .int .i64 0, .string (⟨#[]⟩ : ByteArray), .int .u64 0, .int .u64 0, .bool false] 36 (0, 0)) (rbA BK150.out) hg (Kd.R_ne HO153.out BK150.out (by decide))); have n2_ := Aside0.mk (hb); have n3_ := Aside0.mk (ho); clear BK149; clear BK150; clear HB; clear HO153; have BK149 := n0_; have BK150 := n1_; have HB := n2_; have HO156 := n3_; clear n0_ n1_ n2_ n3_; clear ho hb hg hat; obtain ⟨Ao10, co10, eo10⟩ := Kd.R_slice HO156.out; subst eo10; obtain ⟨hcz11_0, hcz11_1, hcz11_2, hcz11_3, hcz11_4, hcz11_5, hcz11_6, hcz11_7, hfz11_0, hfz11_1, hfz11_2, hfz11_3, hfz11_4, hfz11_5, hfz11_6, hfz11_7⟩ := blkA8 BK149.out; obtain ⟨hcz12_0, hcz12_1, hcz12_2, hcz12_3, hcz12_4, hcz12_5, hcz12_6, hcz12_7, hfz12_0, hfz12_1, hfz12_2, hfz12_3, hfz12_4, hfz12_5, hfz12_6, hfz12_7⟩ := blkA8 BK150.out))
   refine bodyPost_ret (results_cell_row rfl _ _ gb150 36 #[.int .i64 a0_0, .slice Ao10 y154.length co10, .int .u32 a0_2, .int .i64 a0_3, .string a0_4, .int .u64 a0_5, .int .u64 a0_6, .bool a0_7] (0, 0) _ rfl (by (with_reducible repeat (first | refine blk_drewN ?_ _ | refine blk_drew ?_ | refine blk_alloc ?_ _)); refine blk_put (cs := #[.int .i64 a0_0, .slice Ao10 y154.length co10, .int .u32 a0_2, .int .i64 a0_3, .string a0_4, .int .u64 a0_5, .int .u64 a0_6, .bool false]) ?_ 7 _ rfl; (with_reducible repeat (first | refine blk_drewN ?_ _ | refine blk_drew ?_ | refine blk_alloc ?_ _)); refine blk_put (cs := #[.int .i64 a0_0, .slice Ao10 y154.length co10, .int .u32 a0_2, .int .i64 a0_3, .string a0_4, .int .u64 a0_5, .int .u64 0, .bool false]) ?_ 6 _ rfl; (with_reducible repeat (first | refine blk_drewN ?_ _ | refine blk_drew ?_ | refine blk_alloc ?_ _)); refine blk_put (cs := #[.int .i64 a0_0, .slice Ao10 y154.length co10, .int .u32 a0_2, .int .i64 a0_3, .string a0_4, .int .u64 0, .int .u64 0, .bool false]) ?_ 5 _ rfl; (with_reducible repeat (first | refine blk_drewN ?_ _ | refine blk_drew ?_ | refine blk_alloc ?_ _)); refine blk_put (cs := #[.int .i64 a0_0, .slice Ao10 y154.length co10, .int .u32 a0_2, .int .i64 a0_3, .string (⟨#[]⟩ : ByteArray), .int .u64 0, .int .u64 0, .bool false]) ?_ 4 _ rfl; (with_reducible repeat (first | refine blk_drewN ?_ _ | refine blk_drew ?_ | refine blk_alloc ?_ _)); refine blk_put (cs := #[.int .i64 a0_0, .slice Ao10 y154.length co10, .int .u32 a0_2, .int .i64 0, .string (⟨#[]⟩ : ByteArray), .int .u64 0, .int .u64 0, .bool false]) ?_ 3 _ rfl; (with_reducible repeat (first | refine blk_drewN ?_ _ | refine blk_drew ?_ | refine blk_alloc ?_ _)); refine blk_put (cs := #[.int .i64 a0_0, .slice Ao10 y154.length co10, .int .u32 0, .int .i64 0, .string (⟨#[]⟩ : ByteArray), .int .u64 0, .int .u64 0, .bool false]) ?_ 2 _ rfl; (with_reducible repeat (first | refine blk_drewN ?_ _ | refine blk_drew ?_ | refine blk_alloc ?_ _)); refine blk_put (cs := #[.int .i64 a0_0, .slice none 0 0, .int .u32 0, .int .i64 0, .string (⟨#[]⟩ : ByteArray), .int .u64 0, .int .u64 0, .bool false]) ?_ 1 _ rfl; (with_reducible repeat (first | refine blk_drewN ?_ _ | refine blk_drew ?_ | refine blk_alloc ?_ _)); refine blk_put (cs := #[.int .i64 0, .slice none 0 0, .int .u32 0, .int .i64 0, .string (⟨#[]⟩ : ByteArray), .int .u64 0, .int .u64 0, .bool false]) ?_ 0 _ rfl; (with_reducible repeat (first | refine blk_drewN ?_ _ | refine blk_drew ?_ | refine blk_alloc ?_ _)); refine blk_far ?_ NB150_149.out _; exact rbA BK150.out) Tryd.underlying36 rfl (by kernel_rfl)) rfl ?_
   exact ⟨_, reA, by (with_reducible repeat (first | apply Kd.R_alloc | apply Kd.R_drewN | apply Kd.R_drew)); exact Kd.R_mono (Kd.R_far (p := ⟨gb150, 7, none⟩) (Kd.R_far (p := ⟨gb150, 6, none⟩) (Kd.R_far (p := ⟨gb150, 5, none⟩) (Kd.R_far (p := ⟨gb150, 4, none⟩) (Kd.R_far (p := ⟨gb150, 3, none⟩) (Kd.R_far (p := ⟨gb150, 2, none⟩) (Kd.R_far (p := ⟨gb150, 1, none⟩) (Kd.R_far (p := ⟨gb150, 0, none⟩) (Kd.R_far (p := ⟨gb149, 1, none⟩) (Kd.R_types (Kd.R_types HO156.out BK149.out (by decide)) BK150.out (by decide)) (fun _ hk => hk.1.2) (.slice Ao10 y154.length co10)) (fun _ hk => hk.2) (.int .i64 a0_0)) (fun _ hk => hk.2) (.slice Ao10 y154.length co10)) (fun _ hk => hk.2) (.int .u32 a0_2)) (fun _ hk => hk.2) (.int .i64 a0_3)) (fun _ hk => hk.2) (.string a0_4)) (fun _ hk => hk.2) (.int .u64 a0_5)) (fun _ hk => hk.2) (.int .u64 a0_6)) (fun _ hk => hk.2) (.bool a0_7)) (fun _ hk => trivial), hbA HB.out⟩
 rw [if_neg c2] at H
 exact absurd H (by simp)

def tallboylaw15_Great.l0 : Nat → Int → Int → Int → List ByteArray → Int → Int → ByteArray → Int → Int → Bool → Option (Bool)
 | 0, _, _, _, _, _, _, _, _, _, _ => none
 | k + 1, x3, x4, x158000, x158001, x158002, x158003, x158004, x158005, x158006, x158007 => if x4 < (x158001.length : Int) then (if x3 < 10000 then (if 0 ≤ x4 then (tallboylaw15_Great.l0 k (wrap64 (x3 + ((rdOf ByteArray.empty x158001 x4).size : Int))) (wrap64 (x4 + 1)) x158000 x158001 x158002 x158003 x158004 x158005 x158006 x158007) else (none)) else (if x3 ≥ 10000 then (some true) else (some (decide ((x158001.length : Int) > 100))))) else (if x3 ≥ 10000 then (some true) else (some (decide ((x158001.length : Int) > 100))))
def tallboylaw15_Great.f (k : Nat) (a0_0 : Int) (l0_1 : List ByteArray) (a0_2 : Int) (a0_3 : Int) (a0_4 : ByteArray) (a0_5 : Int) (a0_6 : Int) (a0_7 : Bool) : Option (Bool) := tallboylaw15_Great.l0 k (a0_4.size : Int) 0 a0_0 l0_1 a0_2 a0_3 a0_4 a0_5 a0_6 a0_7
theorem tallboylaw15_Great.mono_l : ∀ k, (∀ y0 y1 y2 y3 y4 y5 y6 y7 y8 y9, LeO (tallboylaw15_Great.l0 k y0 y1 y2 y3 y4 y5 y6 y7 y8 y9) (tallboylaw15_Great.l0 (k + 1) y0 y1 y2 y3 y4 y5 y6 y7 y8 y9))
 | 0 => fun _ _ _ _ _ _ _ _ _ _ r h => by simp [tallboylaw15_Great.l0] at h
 | k + 1 => by
  have ih0 := tallboylaw15_Great.mono_l k
  · intro y0 y1 y2 y3 y4 y5 y6 y7 y8 y9
    unfold tallboylaw15_Great.l0
    repeat' first
    | (with_reducible exact ih0 _ _ _ _ _ _ _ _ _ _)
    | (with_reducible exact LeO.refl _)
    | (with_reducible exact LeO.none _)
    | (with_reducible refine LeO.ite ?_ ?_)
    | (with_reducible refine LeO.bind ?_ (fun _ => ?_))
    | exact ih0 _ _ _ _ _ _ _ _ _ _
    | exact LeO.none _
    | refine LeO.ite ?_ ?_
    | refine LeO.bind ?_ (fun _ => ?_)
theorem tallboylaw15_Great.mono : ∀ a0 a1 a2 a3 a4 a5 a6 a7 k, LeO (tallboylaw15_Great.f k a0 a1 a2 a3 a4 a5 a6 a7) (tallboylaw15_Great.f (k + 1) a0 a1 a2 a3 a4 a5 a6 a7) := by
 intro a0 a1 a2 a3 a4 a5 a6 a7 k
 have ih0 := tallboylaw15_Great.mono_l k
 unfold tallboylaw15_Great.f
 repeat' first
  | (with_reducible exact ih0 _ _ _ _ _ _ _ _ _ _)
  | (with_reducible exact LeO.refl _)
  | (with_reducible exact LeO.none _)
  | (with_reducible refine LeO.ite ?_ ?_)
  | (with_reducible refine LeO.bind ?_ (fun _ => ?_))
  | exact ih0 _ _ _ _ _ _ _ _ _ _
  | exact LeO.none _
  | refine LeO.ite ?_ ?_
  | refine LeO.bind ?_ (fun _ => ?_)
set_option maxHeartbeats 8000000 in
set_option maxRecDepth 100000 in
theorem tallboylaw15_Great.calls (k : Nat) (a0_0 : Int) (A0_1 : Option Addr) (c0_1 : Nat) (l0_1 : List ByteArray) (a0_2 : Int) (a0_3 : Int) (a0_4 : ByteArray) (a0_5 : Int) (a0_6 : Int) (a0_7 : Bool) (r : Bool) (w : World) (hr0_1 : Kd.C Kd.string w A0_1 l0_1.length l0_1) (hc0_1 : l0_1.length ≤ c0_1) (h : tallboylaw15_Great.f k a0_0 l0_1 a0_2 a0_3 a0_4 a0_5 a0_6 a0_7 = some r) :
 Calls Tryd.prog 31 #[.agg #[.int .i64 a0_0, .slice A0_1 l0_1.length c0_1, .int .u32 a0_2, .int .i64 a0_3, .string a0_4, .int .u64 a0_5, .int .u64 a0_6, .bool a0_7]] w fun e w' => e = .returned (.bool r) ∧ Below w.heap.size w w' := by
 have hu36 := Tryd.underlying36
 have HR0_1 := Aside0.mk hr0_1
 have HC0_1 := Aside0.mk hc0_1
 clear hr0_1 hc0_1
 have HB := Aside0.mk (Below.refl w.heap.size w)
 have H : (tallboylaw15_Great.l0 k (a0_4.size : Int) 0 a0_0 l0_1 a0_2 a0_3 a0_4 a0_5 a0_6 a0_7) = some r := h
 clear h
 have H' := Aside0.mk H
 clear H
 go_enter Tryd.func31, Tryd.ntmps31
 go_wp2_with (first | ((with_reducible refine gate_dst (N := 1) rfl ?_); (try (refine gate_guard (by rfl) ?_; dsimp only)); refine box_event ?hg (N := 1) ?hd (cs := #[.int .i64 a0_0, .slice A0_1 l0_1.length c0_1, .int .u32 a0_2, .int .i64 a0_3, .string a0_4, .int .u64 a0_5, .int .u64 a0_6, .bool a0_7]) (t := 36) ?hr ?_; (case hd => rfl); (case hg => rfl); (case hr => first | (go_simp; done) | (go_simp; rfl)); intro gb157 hg w2 hbox hb; have n0_ := Aside0.mk (below_step (hbA HB.out) hb); have n1_ := Aside0.mk (hbox); have n2_ := Aside0.mk ((by rw [hg]; exact (below_size (hbA HB.out)) : w.heap.size ≤ gb157)); have n3_ := Aside0.mk ((by rw [hg]; exact (below_size (hbA HB.out)) : w.heap.size ≤ gb157)); clear HB; have HB := n0_; have BK157 := n1_; have GW157 := n2_; have GE157 := n3_; clear n0_ n1_ n2_ n3_; clear hb hbox hg; obtain ⟨hcz3_0, hcz3_1, hcz3_2, hcz3_3, hcz3_4, hcz3_5, hcz3_6, hcz3_7, hfz3_0, hfz3_1, hfz3_2, hfz3_3, hfz3_4, hfz3_5, hfz3_6, hfz3_7⟩ := blkA8 BK157.out))
 go_loopg [3, 4] k (fun kq v3 v4 w' => ∃ (x3_1 : Int) (x4_1 : Int), v3 = .int .i64 x3_1 ∧ v4 = .int .i64 x4_1 ∧ Aside0 (tallboylaw15_Great.l0 kq x3_1 x4_1 a0_0 l0_1 a0_2 a0_3 a0_4 a0_5 a0_6 a0_7 = some r) ∧ Aside0 (kq ≤ k) ∧ Aside0 (w'.heap[gb157]? = some (.cells #[.int .i64 a0_0, (.slice A0_1 l0_1.length c0_1), .int .u32 a0_2, .int .i64 a0_3, .string a0_4, .int .u64 a0_5, .int .u64 a0_6, .bool a0_7] 36 (0, 0))) ∧ Aside0 (Below w.heap.size w w'))
 case atStart => exact ⟨((a0_4.size : Int)), (0), rsA, rsA, H', ⟨Nat.le_refl _⟩, ⟨rbA BK157.out⟩, ⟨hbA HB.out⟩⟩
 case round =>
  clear H'
  (try clear p2); (try clear c3); (try clear hcz3_0); (try clear hcz3_1); (try clear hcz3_2); (try clear hcz3_3); (try clear hcz3_4); (try clear hcz3_5); (try clear hcz3_6); (try clear hcz3_7); (try clear hfz3_0); (try clear hfz3_1); (try clear hfz3_2); (try clear hfz3_3); (try clear hfz3_4); (try clear hfz3_5); (try clear hfz3_6); (try clear hfz3_7)
  obtain ⟨x3_1, x4_1, rfl, rfl, HA, HK1, BK157, HB⟩ := hrel
  cases gk with
  | zero => exact absurd HA.out (by simp [tallboylaw15_Great.l0])
  | succ k1 =>
   have H := HA.out
   clear HA
   simp only [tallboylaw15_Great.l0] at H
   by_cases c4 : x4_1 < (l0_1.length : Int)
   · rw [if_pos c4] at H
     have c4b0 : decide (x4_1 < (l0_1.length : Int)) = true := decide_eq_true c4
     clear c4
     by_cases c5 : x3_1 < 10000
     · rw [if_pos c5] at H
       have c5b0 : decide (x3_1 < 10000) = true := decide_eq_true c5
       clear c5
       by_cases c6 : 0 ≤ x4_1
       · rw [if_pos c6] at H
         have c6b0 : decide (0 ≤ x4_1) = true := decide_eq_true c6
         clear c6
         have H' := Aside0.mk H
         clear H
         obtain ⟨hcz7_0, hcz7_1, hcz7_2, hcz7_3, hcz7_4, hcz7_5, hcz7_6, hcz7_7, hfz7_0, hfz7_1, hfz7_2, hfz7_3, hfz7_4, hfz7_5, hfz7_6, hfz7_7⟩ := blkA8 BK157.out
         have p158 : 0 ≤ (x4_1 : Int) := of_decide_eq_true asA
         have q158 : x4_1 < (l0_1.length : Int) := of_decide_eq_true asA
         obtain ⟨ad158, e158, hx158_0⟩ := Kd.at_string HR0_1.out x4_1 p158 q158
         cases e158
         replace hx158_0 := (HB.out.cell (World.block_lt_of_cell? w _ hx158_0)).trans hx158_0
         replace p158 := eq_true p158
         replace q158 := eq_true q158
         go_wp2
         go_roundg k1
         case measure => have := HK1.out; omega
         case rel => exact ⟨(wrap64 (x3_1 + ((rdOf ByteArray.empty l0_1 x4_1).size : Int))), (wrap64 (x4_1 + 1)), rsA, rsA, H', ⟨by have := HK1.out; omega⟩, ⟨rbA BK157.out⟩, ⟨hbA HB.out⟩⟩
       rw [if_neg c6] at H
       exact absurd H (by simp)
     rw [if_neg c5] at H
     have c5b0 : decide (x3_1 < 10000) = false := decide_eq_false c5
     clear c5
     by_cases c8 : x3_1 ≥ 10000
     · rw [if_pos c8] at H
       have c8b0 : decide (10000 ≤ x3_1) = true := decide_eq_true c8
       clear c8
       obtain rfl := Option.some.inj H
       obtain ⟨hcz9_0, hcz9_1, hcz9_2, hcz9_3, hcz9_4, hcz9_5, hcz9_6, hcz9_7, hfz9_0, hfz9_1, hfz9_2, hfz9_3, hfz9_4, hfz9_5, hfz9_6, hfz9_7⟩ := blkA8 BK157.out
       go_wp2
       go_ret
       exact ⟨reA, hbA HB.out⟩
     rw [if_neg c8] at H
     have c8b0 : decide (10000 ≤ x3_1) = false := decide_eq_false c8
     clear c8
     obtain rfl := Option.some.inj H
     obtain ⟨hcz10_0, hcz10_1, hcz10_2, hcz10_3, hcz10_4, hcz10_5, hcz10_6, hcz10_7, hfz10_0, hfz10_1, hfz10_2, hfz10_3, hfz10_4, hfz10_5, hfz10_6, hfz10_7⟩ := blkA8 BK157.out
     go_wp2
     go_ret
     exact ⟨reA, hbA HB.out⟩
   rw [if_neg c4] at H
   have c4b0 : decide (x4_1 < (l0_1.length : Int)) = false := decide_eq_false c4
   clear c4
   by_cases c11 : x3_1 ≥ 10000
   · rw [if_pos c11] at H
     have c11b0 : decide (10000 ≤ x3_1) = true := decide_eq_true c11
     clear c11
     obtain rfl := Option.some.inj H
     obtain ⟨hcz12_0, hcz12_1, hcz12_2, hcz12_3, hcz12_4, hcz12_5, hcz12_6, hcz12_7, hfz12_0, hfz12_1, hfz12_2, hfz12_3, hfz12_4, hfz12_5, hfz12_6, hfz12_7⟩ := blkA8 BK157.out
     go_wp2
     go_ret
     exact ⟨reA, hbA HB.out⟩
   rw [if_neg c11] at H
   have c11b0 : decide (10000 ≤ x3_1) = false := decide_eq_false c11
   clear c11
   obtain rfl := Option.some.inj H
   obtain ⟨hcz13_0, hcz13_1, hcz13_2, hcz13_3, hcz13_4, hcz13_5, hcz13_6, hcz13_7, hfz13_0, hfz13_1, hfz13_2, hfz13_3, hfz13_4, hfz13_5, hfz13_6, hfz13_7⟩ := blkA8 BK157.out
   go_wp2
   go_ret
   exact ⟨reA, hbA HB.out⟩

def tallboylaw18_Great.l0 : Nat → Int → Int → Int → List (S141) → Int → Option (Bool)
 | 0, _, _, _, _, _ => none
 | k + 1, x3, x4, x160000, x160001, x160002 => if x4 < (x160001.length : Int) then (if x3 < 20000 then (if 0 ≤ x4 then (tallboylaw18_Great.l0 k (wrap64 ((wrap64 ((wrap64 (x3 + 1)) + (((rd_T141 x160001 x4).f0).size : Int))) + (((rd_T141 x160001 x4).f2).size : Int))) (wrap64 (x4 + 1)) x160000 x160001 x160002) else (none)) else (some (decide (x3 ≥ 20000)))) else (some (decide (x3 ≥ 20000)))
def tallboylaw18_Great.f (k : Nat) (a0_0 : Int) (l0_1 : List (S141)) (a0_2 : Int) : Option (Bool) := tallboylaw18_Great.l0 k 0 0 a0_0 l0_1 a0_2
theorem tallboylaw18_Great.mono_l : ∀ k, (∀ y0 y1 y2 y3 y4, LeO (tallboylaw18_Great.l0 k y0 y1 y2 y3 y4) (tallboylaw18_Great.l0 (k + 1) y0 y1 y2 y3 y4))
 | 0 => fun _ _ _ _ _ r h => by simp [tallboylaw18_Great.l0] at h
 | k + 1 => by
  have ih0 := tallboylaw18_Great.mono_l k
  · intro y0 y1 y2 y3 y4
    unfold tallboylaw18_Great.l0
    repeat' first
    | (with_reducible exact ih0 _ _ _ _ _)
    | (with_reducible exact LeO.refl _)
    | (with_reducible exact LeO.none _)
    | (with_reducible refine LeO.ite ?_ ?_)
    | (with_reducible refine LeO.bind ?_ (fun _ => ?_))
    | exact ih0 _ _ _ _ _
    | exact LeO.none _
    | refine LeO.ite ?_ ?_
    | refine LeO.bind ?_ (fun _ => ?_)
theorem tallboylaw18_Great.mono : ∀ a0 a1 a2 k, LeO (tallboylaw18_Great.f k a0 a1 a2) (tallboylaw18_Great.f (k + 1) a0 a1 a2) := by
 intro a0 a1 a2 k
 have ih0 := tallboylaw18_Great.mono_l k
 unfold tallboylaw18_Great.f
 repeat' first
  | (with_reducible exact ih0 _ _ _ _ _)
  | (with_reducible exact LeO.refl _)
  | (with_reducible exact LeO.none _)
  | (with_reducible refine LeO.ite ?_ ?_)
  | (with_reducible refine LeO.bind ?_ (fun _ => ?_))
  | exact ih0 _ _ _ _ _
  | exact LeO.none _
  | refine LeO.ite ?_ ?_
  | refine LeO.bind ?_ (fun _ => ?_)
set_option maxHeartbeats 8000000 in
set_option maxRecDepth 100000 in
theorem tallboylaw18_Great.calls (k : Nat) (a0_0 : Int) (A0_1 : Option Addr) (c0_1 : Nat) (l0_1 : List (S141)) (a0_2 : Int) (r : Bool) (w : World) (hr0_1 : Kd.C k141 w A0_1 l0_1.length l0_1) (hc0_1 : l0_1.length ≤ c0_1) (h : tallboylaw18_Great.f k a0_0 l0_1 a0_2 = some r) :
 Calls Tryd.prog 32 #[.agg #[.int .i64 a0_0, .slice A0_1 l0_1.length c0_1, .int .u64 a0_2]] w fun e w' => e = .returned (.bool r) ∧ Below w.heap.size w w' := by
 have hu39 := Tryd.underlying39
 have HR0_1 := Aside0.mk hr0_1
 have HC0_1 := Aside0.mk hc0_1
 clear hr0_1 hc0_1
 have HB := Aside0.mk (Below.refl w.heap.size w)
 have H : (tallboylaw18_Great.l0 k 0 0 a0_0 l0_1 a0_2) = some r := h
 clear h
 have H' := Aside0.mk H
 clear H
 go_enter Tryd.func32, Tryd.ntmps32
 go_wp2_with (first | ((with_reducible refine gate_dst (N := 1) rfl ?_); refine box_event ?hg (N := 1) ?hd (cs := #[.int .i64 a0_0, .slice A0_1 l0_1.length c0_1, .int .u64 a0_2]) (t := 39) ?hr ?_; (case hd => rfl); (case hg => rfl); (case hr => first | (go_simp; done) | (go_simp; rfl)); intro gb159 hg w2 hbox hb; have n0_ := Aside0.mk (below_step (hbA HB.out) hb); have n1_ := Aside0.mk (hbox); have n2_ := Aside0.mk ((by rw [hg]; exact (below_size (hbA HB.out)) : w.heap.size ≤ gb159)); have n3_ := Aside0.mk ((by rw [hg]; exact (below_size (hbA HB.out)) : w.heap.size ≤ gb159)); clear HB; have HB := n0_; have BK159 := n1_; have GW159 := n2_; have GE159 := n3_; clear n0_ n1_ n2_ n3_; clear hb hbox hg))
 repeat (go_quiet (first | ((with_reducible refine gate_dst (N := 1) rfl ?_); refine box_event ?hg (N := 1) ?hd (cs := #[.int .i64 a0_0, .slice A0_1 l0_1.length c0_1, .int .u64 a0_2]) (t := 39) ?hr ?_; (case hd => rfl); (case hg => rfl); (case hr => first | (go_simp; done) | (go_simp; rfl)); intro gb159 hg w2 hbox hb; have n0_ := Aside0.mk (below_step (hbA HB.out) hb); have n1_ := Aside0.mk (hbox); have n2_ := Aside0.mk ((by rw [hg]; exact (below_size (hbA HB.out)) : w.heap.size ≤ gb159)); have n3_ := Aside0.mk ((by rw [hg]; exact (below_size (hbA HB.out)) : w.heap.size ≤ gb159)); clear HB; have HB := n0_; have BK159 := n1_; have GW159 := n2_; have GE159 := n3_; clear n0_ n1_ n2_ n3_; clear hb hbox hg)); try go_wp2_with (first | ((with_reducible refine gate_dst (N := 1) rfl ?_); refine box_event ?hg (N := 1) ?hd (cs := #[.int .i64 a0_0, .slice A0_1 l0_1.length c0_1, .int .u64 a0_2]) (t := 39) ?hr ?_; (case hd => rfl); (case hg => rfl); (case hr => first | (go_simp; done) | (go_simp; rfl)); intro gb159 hg w2 hbox hb; have n0_ := Aside0.mk (below_step (hbA HB.out) hb); have n1_ := Aside0.mk (hbox); have n2_ := Aside0.mk ((by rw [hg]; exact (below_size (hbA HB.out)) : w.heap.size ≤ gb159)); have n3_ := Aside0.mk ((by rw [hg]; exact (below_size (hbA HB.out)) : w.heap.size ≤ gb159)); clear HB; have HB := n0_; have BK159 := n1_; have GW159 := n2_; have GE159 := n3_; clear n0_ n1_ n2_ n3_; clear hb hbox hg)))
 go_loopg [3, 4] k (fun kq v3 v4 w' => ∃ (x3_1 : Int) (x4_1 : Int), v3 = .int .i64 x3_1 ∧ v4 = .int .i64 x4_1 ∧ Aside0 (tallboylaw18_Great.l0 kq x3_1 x4_1 a0_0 l0_1 a0_2 = some r) ∧ Aside0 (kq ≤ k) ∧ Aside0 (w'.heap[gb159]? = some (.cells #[.int .i64 a0_0, (.slice A0_1 l0_1.length c0_1), .int .u64 a0_2] 39 (0, 0))) ∧ Aside0 (Below w.heap.size w w'))
 case atStart => exact ⟨(0), (0), rsA, rsA, H', ⟨Nat.le_refl _⟩, ⟨rbA BK159.out⟩, ⟨hbA HB.out⟩⟩
 case round =>
  clear H'
  try clear p2
  obtain ⟨x3_1, x4_1, rfl, rfl, HA, HK1, BK159, HB⟩ := hrel
  cases gk with
  | zero => exact absurd HA.out (by simp [tallboylaw18_Great.l0])
  | succ k1 =>
   have H := HA.out
   clear HA
   simp only [tallboylaw18_Great.l0] at H
   by_cases c3 : x4_1 < (l0_1.length : Int)
   · rw [if_pos c3] at H
     have c3b0 : decide (x4_1 < (l0_1.length : Int)) = true := decide_eq_true c3
     clear c3
     by_cases c4 : x3_1 < 20000
     · rw [if_pos c4] at H
       have c4b0 : decide (x3_1 < 20000) = true := decide_eq_true c4
       clear c4
       by_cases c5 : 0 ≤ x4_1
       · rw [if_pos c5] at H
         have c5b0 : decide (0 ≤ x4_1) = true := decide_eq_true c5
         clear c5
         have H' := Aside0.mk H
         clear H
         obtain ⟨hcz6_0, hcz6_1, hcz6_2, hfz6_0, hfz6_1, hfz6_2⟩ := blkA3 BK159.out
         have p160 : 0 ≤ (x4_1 : Int) := of_decide_eq_true asA
         have q160 : x4_1 < (l0_1.length : Int) := of_decide_eq_true asA
         obtain ⟨ad160, e160, hx160_0, hx160_1, hx160_2, hx160_3⟩ := at_T141 HR0_1.out x4_1 p160 q160
         cases e160
         replace hx160_0 := (HB.out.cell (World.block_lt_of_cell? w _ hx160_0)).trans hx160_0
         replace hx160_1 := (HB.out.cell (World.block_lt_of_cell? w _ hx160_1)).trans hx160_1
         replace hx160_2 := (HB.out.cell (World.block_lt_of_cell? w _ hx160_2)).trans hx160_2
         replace hx160_3 := (HB.out.cell (World.block_lt_of_cell? w _ hx160_3)).trans hx160_3
         replace p160 := eq_true p160
         replace q160 := eq_true q160
         have p161 : 0 ≤ (x4_1 : Int) := of_decide_eq_true asA
         have q161 : x4_1 < (l0_1.length : Int) := of_decide_eq_true asA
         obtain ⟨ad161, e161, hx161_0, hx161_1, hx161_2, hx161_3⟩ := at_T141 HR0_1.out x4_1 p161 q161
         obtain rfl : ad160 = ad161 := (by injection e161)
         replace hx161_0 := (HB.out.cell (World.block_lt_of_cell? w _ hx161_0)).trans hx161_0
         replace hx161_1 := (HB.out.cell (World.block_lt_of_cell? w _ hx161_1)).trans hx161_1
         replace hx161_2 := (HB.out.cell (World.block_lt_of_cell? w _ hx161_2)).trans hx161_2
         replace hx161_3 := (HB.out.cell (World.block_lt_of_cell? w _ hx161_3)).trans hx161_3
         replace p161 := eq_true p161
         replace q161 := eq_true q161
         go_wp2
         repeat (go_quiet (fail); try go_wp2)
         go_roundg k1
         case measure => have := HK1.out; omega
         case rel => exact ⟨(wrap64 ((wrap64 ((wrap64 (x3_1 + 1)) + (((rd_T141 l0_1 x4_1).f0).size : Int))) + (((rd_T141 l0_1 x4_1).f2).size : Int))), (wrap64 (x4_1 + 1)), rsA, rsA, H', ⟨by have := HK1.out; omega⟩, ⟨rbA BK159.out⟩, ⟨hbA HB.out⟩⟩
       rw [if_neg c5] at H
       exact absurd H (by simp)
     rw [if_neg c4] at H
     have c4b0 : decide (x3_1 < 20000) = false := decide_eq_false c4
     clear c4
     obtain rfl := Option.some.inj H
     obtain ⟨hcz7_0, hcz7_1, hcz7_2, hfz7_0, hfz7_1, hfz7_2⟩ := blkA3 BK159.out
     go_wp2
     repeat (go_quiet (fail); try go_wp2)
     go_ret
     exact ⟨reA, hbA HB.out⟩
   rw [if_neg c3] at H
   have c3b0 : decide (x4_1 < (l0_1.length : Int)) = false := decide_eq_false c3
   clear c3
   obtain rfl := Option.some.inj H
   obtain ⟨hcz8_0, hcz8_1, hcz8_2, hfz8_0, hfz8_1, hfz8_2⟩ := blkA3 BK159.out
   go_wp2
   repeat (go_quiet (fail); try go_wp2)
   go_ret
   exact ⟨reA, hbA HB.out⟩

def tallboylaw25_Great.l0 : Nat → List (S42) → Int → Option (Bool)
 | 0, _, _ => none
 | k + 1, x0, x3 => if x3 < (x0.length : Int) then (if 0 ≤ x3 then ((tallboylaw15_Great.f k ((rd_T42 x0 x3).f1.f0) ((rd_T42 x0 x3).f1.f1) ((rd_T42 x0 x3).f1.f2) ((rd_T42 x0 x3).f1.f3) ((rd_T42 x0 x3).f1.f4) ((rd_T42 x0 x3).f1.f5) ((rd_T42 x0 x3).f1.f6) ((rd_T42 x0 x3).f1.f7)).bind fun t163 => (if t163 = true then (some true) else ((tallboylaw18_Great.f k ((rd_T42 x0 x3).f3.f0) ((rd_T42 x0 x3).f3.f1) ((rd_T42 x0 x3).f3.f2)).bind fun t165 => (if t165 = true then (some true) else (if (((rd_T42 x0 x3).f4).length : Int) > 100 then (some true) else (tallboylaw25_Great.l0 k x0 (wrap64 (x3 + 1)))))))) else (none)) else (some false)
def tallboylaw25_Great.f (k : Nat) (l0 : List (S42)) : Option (Bool) := if (l0.length : Int) > 200 then (some true) else (tallboylaw25_Great.l0 k l0 0)
theorem tallboylaw25_Great.mono_l : ∀ k, (∀ y0 y1, LeO (tallboylaw25_Great.l0 k y0 y1) (tallboylaw25_Great.l0 (k + 1) y0 y1))
 | 0 => fun _ _ r h => by simp [tallboylaw25_Great.l0] at h
 | k + 1 => by
  have ih0 := tallboylaw25_Great.mono_l k
  · intro y0 y1
    unfold tallboylaw25_Great.l0
    repeat' first
    | (with_reducible exact ih0 _ _)
    | (with_reducible exact tallboylaw15_Great.mono _ _ _ _ _ _ _ _ _)
    | (with_reducible exact tallboylaw18_Great.mono _ _ _ _)
    | (with_reducible exact LeO.refl _)
    | (with_reducible exact LeO.none _)
    | (with_reducible refine LeO.ite ?_ ?_)
    | (with_reducible refine LeO.bind ?_ (fun _ => ?_))
    | exact ih0 _ _
    | exact tallboylaw15_Great.mono _ _ _ _ _ _ _ _ _
    | exact tallboylaw18_Great.mono _ _ _ _
    | exact LeO.none _
    | refine LeO.ite ?_ ?_
    | refine LeO.bind ?_ (fun _ => ?_)
theorem tallboylaw25_Great.mono : ∀ a0 k, LeO (tallboylaw25_Great.f k a0) (tallboylaw25_Great.f (k + 1) a0) := by
 intro a0 k
 have ih0 := tallboylaw25_Great.mono_l k
 unfold tallboylaw25_Great.f
 repeat' first
  | (with_reducible exact ih0 _ _)
  | (with_reducible exact tallboylaw15_Great.mono _ _ _ _ _ _ _ _ _)
  | (with_reducible exact tallboylaw18_Great.mono _ _ _ _)
  | (with_reducible exact LeO.refl _)
  | (with_reducible exact LeO.none _)
  | (with_reducible refine LeO.ite ?_ ?_)
  | (with_reducible refine LeO.bind ?_ (fun _ => ?_))
  | exact ih0 _ _
  | exact tallboylaw15_Great.mono _ _ _ _ _ _ _ _ _
  | exact tallboylaw18_Great.mono _ _ _ _
  | exact LeO.none _
  | refine LeO.ite ?_ ?_
  | refine LeO.bind ?_ (fun _ => ?_)
set_option maxHeartbeats 8000000 in
set_option maxRecDepth 100000 in
theorem tallboylaw25_Great.calls (k : Nat) (A0 : Option Addr) (c0 : Nat) (l0 : List (S42)) (r : Bool) (w : World) (hr0 : Kd.C k42 w A0 l0.length l0) (hc0 : l0.length ≤ c0) (h : tallboylaw25_Great.f k l0 = some r) :
 Calls Tryd.prog 7 #[.slice A0 l0.length c0] w fun e w' => e = .returned (.bool r) ∧ Below w.heap.size w w' := by
 have hu36 := Tryd.underlying36
 have hu39 := Tryd.underlying39
 have HR0 := Aside0.mk hr0
 have HC0 := Aside0.mk hc0
 clear hr0 hc0
 have HB := Aside0.mk (Below.refl w.heap.size w)
 have H : (if (l0.length : Int) > 200 then (some true) else (tallboylaw25_Great.l0 k l0 0)) = some r := h
 clear h
 by_cases c2 : (l0.length : Int) > 200
 · rw [if_pos c2] at H
   have c2b0 : decide (200 < (l0.length : Int)) = true := decide_eq_true c2
   have c2b1 : decide (200 < l0.length) = true := decide_eq_true (by omega)
   clear c2
   obtain rfl := Option.some.inj H
   go_enter Tryd.func7, Tryd.ntmps7
   go_wp2
   go_ret
   exact ⟨reA, hbA HB.out⟩
 rw [if_neg c2] at H
 have c2b0 : decide (200 < (l0.length : Int)) = false := decide_eq_false c2
 have c2b1 : decide (200 < l0.length) = false := decide_eq_false (by omega)
 clear c2
 have H' := Aside0.mk H
 clear H
 go_enter Tryd.func7, Tryd.ntmps7
 go_wp2
 go_loopg [3] k (fun kq v3 w' => ∃ (x3_1 : Int), v3 = .int .i64 x3_1 ∧ Aside0 (tallboylaw25_Great.l0 kq l0 x3_1 = some r) ∧ Aside0 (kq ≤ k) ∧ Aside0 (Below w.heap.size w w'))
 case atStart => exact ⟨(0), rsA, H', ⟨Nat.le_refl _⟩, ⟨hbA HB.out⟩⟩
 case round =>
  clear H'
  (try clear c2); (try clear c2b0); (try clear c2b1); (try clear p2)
  obtain ⟨x3_1, rfl, HA, HK1, HB⟩ := hrel
  cases gk with
  | zero => exact absurd HA.out (by simp [tallboylaw25_Great.l0])
  | succ k1 =>
   have H := HA.out
   clear HA
   simp only [tallboylaw25_Great.l0] at H
   by_cases c3 : x3_1 < (l0.length : Int)
   · rw [if_pos c3] at H
     have c3b0 : decide (x3_1 < (l0.length : Int)) = true := decide_eq_true c3
     clear c3
     by_cases c4 : 0 ≤ x3_1
     · rw [if_pos c4] at H
       have c4b0 : decide (0 ≤ x3_1) = true := decide_eq_true c4
       clear c4
       replace H := Option.bind_eq_some_iff.mp H
       obtain ⟨t163, A50, H⟩ := H
       replace H : (if t163 = true then (some true) else ((tallboylaw18_Great.f k1 ((rd_T42 l0 x3_1).f3.f0) ((rd_T42 l0 x3_1).f3.f1) ((rd_T42 l0 x3_1).f3.f2)).bind fun t165 => (if t165 = true then (some true) else (if (((rd_T42 l0 x3_1).f4).length : Int) > 100 then (some true) else (tallboylaw25_Great.l0 k1 l0 (wrap64 (x3_1 + 1))))))) = some r := H
       have A5 := Aside0.mk A50
       clear A50
       by_cases c6 : t163 = true
       · subst c6
         have H1 : (some true) = some r := by rw [if_pos rfl] at H; exact H
         clear H
         have H := H1
         clear H1
         obtain rfl := Option.some.inj H
         have p162 : 0 ≤ (x3_1 : Int) := of_decide_eq_true asA
         have q162 : x3_1 < (l0.length : Int) := of_decide_eq_true asA
         obtain ⟨ad162, A162_2, c162_2, A162_11, c162_11, A162_13, c162_13, e162, hx162_0, hx162_1, hx162_2, hx162_3, hx162_4, hx162_5, hx162_6, hx162_7, hx162_8, hx162_9, hx162_10, hx162_11, hx162_12, hx162_13, hl162_2, hi162_2, hl162_11, hi162_11, hl162_13, hi162_13⟩ := at_T42 HR0.out x3_1 p162 q162
         cases e162
         replace hx162_0 := (HB.out.cell (World.block_lt_of_cell? w _ hx162_0)).trans hx162_0
         replace hx162_1 := (HB.out.cell (World.block_lt_of_cell? w _ hx162_1)).trans hx162_1
         replace hx162_2 := (HB.out.cell (World.block_lt_of_cell? w _ hx162_2)).trans hx162_2
         replace hx162_3 := (HB.out.cell (World.block_lt_of_cell? w _ hx162_3)).trans hx162_3
         replace hx162_4 := (HB.out.cell (World.block_lt_of_cell? w _ hx162_4)).trans hx162_4
         replace hx162_5 := (HB.out.cell (World.block_lt_of_cell? w _ hx162_5)).trans hx162_5
         replace hx162_6 := (HB.out.cell (World.block_lt_of_cell? w _ hx162_6)).trans hx162_6
         replace hx162_7 := (HB.out.cell (World.block_lt_of_cell? w _ hx162_7)).trans hx162_7
         replace hx162_8 := (HB.out.cell (World.block_lt_of_cell? w _ hx162_8)).trans hx162_8
         replace hx162_9 := (HB.out.cell (World.block_lt_of_cell? w _ hx162_9)).trans hx162_9
         replace hx162_10 := (HB.out.cell (World.block_lt_of_cell? w _ hx162_10)).trans hx162_10
         replace hx162_11 := (HB.out.cell (World.block_lt_of_cell? w _ hx162_11)).trans hx162_11
         replace hx162_12 := (HB.out.cell (World.block_lt_of_cell? w _ hx162_12)).trans hx162_12
         replace hx162_13 := (HB.out.cell (World.block_lt_of_cell? w _ hx162_13)).trans hx162_13
         have HR162_2 := Aside0.mk hi162_2
         have HC162_2 := Aside0.mk hl162_2
         clear hi162_2 hl162_2
         have HR162_11 := Aside0.mk hi162_11
         have HC162_11 := Aside0.mk hl162_11
         clear hi162_11 hl162_11
         have HR162_13 := Aside0.mk hi162_13
         have HC162_13 := Aside0.mk hl162_13
         clear hi162_13 hl162_13
         replace p162 := eq_true p162
         replace q162 := eq_true q162
         go_wp2_with (first | ((with_reducible refine gate_callee (f := 31) rfl ?_); refine goesL_ (some 18) rfl rfl Tryd.func31 (by kernel_rfl) rfl #[.agg #[.int .i64 ((rd_T42 l0 x3_1).f1.f0), .slice A162_2 ((rd_T42 l0 x3_1).f1.f1).length c162_2, .int .u32 ((rd_T42 l0 x3_1).f1.f2), .int .i64 ((rd_T42 l0 x3_1).f1.f3), .string ((rd_T42 l0 x3_1).f1.f4), .int .u64 ((rd_T42 l0 x3_1).f1.f5), .int .u64 ((rd_T42 l0 x3_1).f1.f6), .bool ((rd_T42 l0 x3_1).f1.f7)]] rfl argA ?_; (with_reducible refine (tallboylaw15_Great.calls k1 ((rd_T42 l0 x3_1).f1.f0) _ _ ((rd_T42 l0 x3_1).f1.f1) ((rd_T42 l0 x3_1).f1.f2) ((rd_T42 l0 x3_1).f1.f3) ((rd_T42 l0 x3_1).f1.f4) ((rd_T42 l0 x3_1).f1.f5) ((rd_T42 l0 x3_1).f1.f6) ((rd_T42 l0 x3_1).f1.f7) true _ ?side1 ?side2 A5.out).mono ?_); (case side1 => repeat (first | exact (Kd.C_below HR162_2.out HB.out) | (with_reducible refine Kd.C_alloc ?_ _) | (with_reducible refine Kd.C_drewN ?_ _) | (with_reducible refine Kd.C_drew ?_))); (case side2 => exact HC162_2.out); rintro e w7 ⟨rfl, hb⟩; refine ⟨_, rfl, ?_⟩; replace HB := Aside0.mk (below_step (hbA HB.out) hb); (try clear hb); (try clear hb2); (try clear hk); (try clear hi)))
         go_ret
         exact ⟨reA, hbA HB.out⟩
       replace c6 := Bool.eq_false_iff.mpr c6
       subst c6
       have H1 : ((tallboylaw18_Great.f k1 ((rd_T42 l0 x3_1).f3.f0) ((rd_T42 l0 x3_1).f3.f1) ((rd_T42 l0 x3_1).f3.f2)).bind fun t165 => (if t165 = true then (some true) else (if (((rd_T42 l0 x3_1).f4).length : Int) > 100 then (some true) else (tallboylaw25_Great.l0 k1 l0 (wrap64 (x3_1 + 1)))))) = some r := by rw [if_neg (show ¬ (false = true) by decide)] at H; exact H
       clear H
       have H := H1
       clear H1
       replace H := Option.bind_eq_some_iff.mp H
       obtain ⟨t165, A80, H⟩ := H
       replace H : (if t165 = true then (some true) else (if (((rd_T42 l0 x3_1).f4).length : Int) > 100 then (some true) else (tallboylaw25_Great.l0 k1 l0 (wrap64 (x3_1 + 1))))) = some r := H
       have A8 := Aside0.mk A80
       clear A80
       by_cases c9 : t165 = true
       · subst c9
         have H1 : (some true) = some r := by rw [if_pos rfl] at H; exact H
         clear H
         have H := H1
         clear H1
         obtain rfl := Option.some.inj H
         have p162 : 0 ≤ (x3_1 : Int) := of_decide_eq_true asA
         have q162 : x3_1 < (l0.length : Int) := of_decide_eq_true asA
         obtain ⟨ad162, A162_2, c162_2, A162_11, c162_11, A162_13, c162_13, e162, hx162_0, hx162_1, hx162_2, hx162_3, hx162_4, hx162_5, hx162_6, hx162_7, hx162_8, hx162_9, hx162_10, hx162_11, hx162_12, hx162_13, hl162_2, hi162_2, hl162_11, hi162_11, hl162_13, hi162_13⟩ := at_T42 HR0.out x3_1 p162 q162
         cases e162
         replace hx162_0 := (HB.out.cell (World.block_lt_of_cell? w _ hx162_0)).trans hx162_0
         replace hx162_1 := (HB.out.cell (World.block_lt_of_cell? w _ hx162_1)).trans hx162_1
         replace hx162_2 := (HB.out.cell (World.block_lt_of_cell? w _ hx162_2)).trans hx162_2
         replace hx162_3 := (HB.out.cell (World.block_lt_of_cell? w _ hx162_3)).trans hx162_3
         replace hx162_4 := (HB.out.cell (World.block_lt_of_cell? w _ hx162_4)).trans hx162_4
         replace hx162_5 := (HB.out.cell (World.block_lt_of_cell? w _ hx162_5)).trans hx162_5
         replace hx162_6 := (HB.out.cell (World.block_lt_of_cell? w _ hx162_6)).trans hx162_6
         replace hx162_7 := (HB.out.cell (World.block_lt_of_cell? w _ hx162_7)).trans hx162_7
         replace hx162_8 := (HB.out.cell (World.block_lt_of_cell? w _ hx162_8)).trans hx162_8
         replace hx162_9 := (HB.out.cell (World.block_lt_of_cell? w _ hx162_9)).trans hx162_9
         replace hx162_10 := (HB.out.cell (World.block_lt_of_cell? w _ hx162_10)).trans hx162_10
         replace hx162_11 := (HB.out.cell (World.block_lt_of_cell? w _ hx162_11)).trans hx162_11
         replace hx162_12 := (HB.out.cell (World.block_lt_of_cell? w _ hx162_12)).trans hx162_12
         replace hx162_13 := (HB.out.cell (World.block_lt_of_cell? w _ hx162_13)).trans hx162_13
         have HR162_2 := Aside0.mk hi162_2
         have HC162_2 := Aside0.mk hl162_2
         clear hi162_2 hl162_2
         have HR162_11 := Aside0.mk hi162_11
         have HC162_11 := Aside0.mk hl162_11
         clear hi162_11 hl162_11
         have HR162_13 := Aside0.mk hi162_13
         have HC162_13 := Aside0.mk hl162_13
         clear hi162_13 hl162_13
         replace p162 := eq_true p162
         replace q162 := eq_true q162
         go_wp2_with (first | ((with_reducible refine gate_callee (f := 31) rfl ?_); refine goesL_ (some 18) rfl rfl Tryd.func31 (by kernel_rfl) rfl #[.agg #[.int .i64 ((rd_T42 l0 x3_1).f1.f0), .slice A162_2 ((rd_T42 l0 x3_1).f1.f1).length c162_2, .int .u32 ((rd_T42 l0 x3_1).f1.f2), .int .i64 ((rd_T42 l0 x3_1).f1.f3), .string ((rd_T42 l0 x3_1).f1.f4), .int .u64 ((rd_T42 l0 x3_1).f1.f5), .int .u64 ((rd_T42 l0 x3_1).f1.f6), .bool ((rd_T42 l0 x3_1).f1.f7)]] rfl argA ?_; (with_reducible refine (tallboylaw15_Great.calls k1 ((rd_T42 l0 x3_1).f1.f0) _ _ ((rd_T42 l0 x3_1).f1.f1) ((rd_T42 l0 x3_1).f1.f2) ((rd_T42 l0 x3_1).f1.f3) ((rd_T42 l0 x3_1).f1.f4) ((rd_T42 l0 x3_1).f1.f5) ((rd_T42 l0 x3_1).f1.f6) ((rd_T42 l0 x3_1).f1.f7) false _ ?side1 ?side2 A5.out).mono ?_); (case side1 => repeat (first | exact (Kd.C_below HR162_2.out HB.out) | (with_reducible refine Kd.C_alloc ?_ _) | (with_reducible refine Kd.C_drewN ?_ _) | (with_reducible refine Kd.C_drew ?_))); (case side2 => exact HC162_2.out); rintro e w10 ⟨rfl, hb⟩; refine ⟨_, rfl, ?_⟩; replace HB := Aside0.mk (below_step (hbA HB.out) hb); (try clear hb); (try clear hb2); (try clear hk); (try clear hi); have p164 : 0 ≤ (x3_1 : Int) := of_decide_eq_true asA; have q164 : x3_1 < (l0.length : Int) := of_decide_eq_true asA; obtain ⟨ad164, A164_2, c164_2, A164_11, c164_11, A164_13, c164_13, e164, hx164_0, hx164_1, hx164_2, hx164_3, hx164_4, hx164_5, hx164_6, hx164_7, hx164_8, hx164_9, hx164_10, hx164_11, hx164_12, hx164_13, hl164_2, hi164_2, hl164_11, hi164_11, hl164_13, hi164_13⟩ := at_T42 HR0.out x3_1 p164 q164; obtain rfl : ad162 = ad164 := (by injection e164); replace hx164_0 := (HB.out.cell (World.block_lt_of_cell? w _ hx164_0)).trans hx164_0; replace hx164_1 := (HB.out.cell (World.block_lt_of_cell? w _ hx164_1)).trans hx164_1; replace hx164_2 := (HB.out.cell (World.block_lt_of_cell? w _ hx164_2)).trans hx164_2; replace hx164_3 := (HB.out.cell (World.block_lt_of_cell? w _ hx164_3)).trans hx164_3; replace hx164_4 := (HB.out.cell (World.block_lt_of_cell? w _ hx164_4)).trans hx164_4; replace hx164_5 := (HB.out.cell (World.block_lt_of_cell? w _ hx164_5)).trans hx164_5; replace hx164_6 := (HB.out.cell (World.block_lt_of_cell? w _ hx164_6)).trans hx164_6; replace hx164_7 := (HB.out.cell (World.block_lt_of_cell? w _ hx164_7)).trans hx164_7; replace hx164_8 := (HB.out.cell (World.block_lt_of_cell? w _ hx164_8)).trans hx164_8; replace hx164_9 := (HB.out.cell (World.block_lt_of_cell? w _ hx164_9)).trans hx164_9; replace hx164_10 := (HB.out.cell (World.block_lt_of_cell? w _ hx164_10)).trans hx164_10; replace hx164_11 := (HB.out.cell (World.block_lt_of_cell? w _ hx164_11)).trans hx164_11; replace hx164_12 := (HB.out.cell (World.block_lt_of_cell? w _ hx164_12)).trans hx164_12; replace hx164_13 := (HB.out.cell (World.block_lt_of_cell? w _ hx164_13)).trans hx164_13; have HR164_2 := Aside0.mk hi164_2; have HC164_2 := Aside0.mk hl164_2; clear hi164_2 hl164_2; have HR164_11 := Aside0.mk hi164_11; have HC164_11 := Aside0.mk hl164_11; clear hi164_11 hl164_11; have HR164_13 := Aside0.mk hi164_13; have HC164_13 := Aside0.mk hl164_13; clear hi164_13 hl164_13; replace p164 := eq_true p164; replace q164 := eq_true q164) | (go_at_call 32; (with_reducible refine (tallboylaw18_Great.calls k1 ((rd_T42 l0 x3_1).f3.f0) _ _ ((rd_T42 l0 x3_1).f3.f1) ((rd_T42 l0 x3_1).f3.f2) true _ ?side1 ?side2 A8.out).mono ?_); (case side1 => repeat (first | exact (Kd.C_below HR164_11.out HB.out) | (with_reducible refine Kd.C_alloc ?_ _) | (with_reducible refine Kd.C_drewN ?_ _) | (with_reducible refine Kd.C_drew ?_))); (case side2 => exact HC164_11.out); rintro e w11 ⟨rfl, hb⟩; replace HB := Aside0.mk (below_step (hbA HB.out) hb); (try clear hb); (try clear hb2); (try clear hk); (try clear hi)))
         go_ret
         exact ⟨reA, hbA HB.out⟩
       replace c9 := Bool.eq_false_iff.mpr c9
       subst c9
       have H1 : (if (((rd_T42 l0 x3_1).f4).length : Int) > 100 then (some true) else (tallboylaw25_Great.l0 k1 l0 (wrap64 (x3_1 + 1)))) = some r := by rw [if_neg (show ¬ (false = true) by decide)] at H; exact H
       clear H
       have H := H1
       clear H1
       by_cases c12 : (((rd_T42 l0 x3_1).f4).length : Int) > 100
       · rw [if_pos c12] at H
         have c12b0 : decide (100 < (((rd_T42 l0 x3_1).f4).length : Int)) = true := decide_eq_true c12
         have c12b1 : decide (100 < ((rd_T42 l0 x3_1).f4).length) = true := decide_eq_true (by omega)
         clear c12
         obtain rfl := Option.some.inj H
         have p162 : 0 ≤ (x3_1 : Int) := of_decide_eq_true asA
         have q162 : x3_1 < (l0.length : Int) := of_decide_eq_true asA
         obtain ⟨ad162, A162_2, c162_2, A162_11, c162_11, A162_13, c162_13, e162, hx162_0, hx162_1, hx162_2, hx162_3, hx162_4, hx162_5, hx162_6, hx162_7, hx162_8, hx162_9, hx162_10, hx162_11, hx162_12, hx162_13, hl162_2, hi162_2, hl162_11, hi162_11, hl162_13, hi162_13⟩ := at_T42 HR0.out x3_1 p162 q162
         cases e162
         replace hx162_0 := (HB.out.cell (World.block_lt_of_cell? w _ hx162_0)).trans hx162_0
         replace hx162_1 := (HB.out.cell (World.block_lt_of_cell? w _ hx162_1)).trans hx162_1
         replace hx162_2 := (HB.out.cell (World.block_lt_of_cell? w _ hx162_2)).trans hx162_2
         replace hx162_3 := (HB.out.cell (World.block_lt_of_cell? w _ hx162_3)).trans hx162_3
         replace hx162_4 := (HB.out.cell (World.block_lt_of_cell? w _ hx162_4)).trans hx162_4
         replace hx162_5 := (HB.out.cell (World.block_lt_of_cell? w _ hx162_5)).trans hx162_5
         replace hx162_6 := (HB.out.cell (World.block_lt_of_cell? w _ hx162_6)).trans hx162_6
         replace hx162_7 := (HB.out.cell (World.block_lt_of_cell? w _ hx162_7)).trans hx162_7
         replace hx162_8 := (HB.out.cell (World.block_lt_of_cell? w _ hx162_8)).trans hx162_8
         replace hx162_9 := (HB.out.cell (World.block_lt_of_cell? w _ hx162_9)).trans hx162_9
         replace hx162_10 := (HB.out.cell (World.block_lt_of_cell? w _ hx162_10)).trans hx162_10
         replace hx162_11 := (HB.out.cell (World.block_lt_of_cell? w _ hx162_11)).trans hx162_11
         replace hx162_12 := (HB.out.cell (World.block_lt_of_cell? w _ hx162_12)).trans hx162_12
         replace hx162_13 := (HB.out.cell (World.block_lt_of_cell? w _ hx162_13)).trans hx162_13
         have HR162_2 := Aside0.mk hi162_2
         have HC162_2 := Aside0.mk hl162_2
         clear hi162_2 hl162_2
         have HR162_11 := Aside0.mk hi162_11
         have HC162_11 := Aside0.mk hl162_11
         clear hi162_11 hl162_11
         have HR162_13 := Aside0.mk hi162_13
         have HC162_13 := Aside0.mk hl162_13
         clear hi162_13 hl162_13
         replace p162 := eq_true p162
         replace q162 := eq_true q162
         go_wp2_with (first | ((with_reducible refine gate_callee (f := 31) rfl ?_); refine goesL_ (some 18) rfl rfl Tryd.func31 (by kernel_rfl) rfl #[.agg #[.int .i64 ((rd_T42 l0 x3_1).f1.f0), .slice A162_2 ((rd_T42 l0 x3_1).f1.f1).length c162_2, .int .u32 ((rd_T42 l0 x3_1).f1.f2), .int .i64 ((rd_T42 l0 x3_1).f1.f3), .string ((rd_T42 l0 x3_1).f1.f4), .int .u64 ((rd_T42 l0 x3_1).f1.f5), .int .u64 ((rd_T42 l0 x3_1).f1.f6), .bool ((rd_T42 l0 x3_1).f1.f7)]] rfl argA ?_; (with_reducible refine (tallboylaw15_Great.calls k1 ((rd_T42 l0 x3_1).f1.f0) _ _ ((rd_T42 l0 x3_1).f1.f1) ((rd_T42 l0 x3_1).f1.f2) ((rd_T42 l0 x3_1).f1.f3) ((rd_T42 l0 x3_1).f1.f4) ((rd_T42 l0 x3_1).f1.f5) ((rd_T42 l0 x3_1).f1.f6) ((rd_T42 l0 x3_1).f1.f7) false _ ?side1 ?side2 A5.out).mono ?_); (case side1 => repeat (first | exact (Kd.C_below HR162_2.out HB.out) | (with_reducible refine Kd.C_alloc ?_ _) | (with_reducible refine Kd.C_drewN ?_ _) | (with_reducible refine Kd.C_drew ?_))); (case side2 => exact HC162_2.out); rintro e w13 ⟨rfl, hb⟩; refine ⟨_, rfl, ?_⟩; replace HB := Aside0.mk (below_step (hbA HB.out) hb); (try clear hb); (try clear hb2); (try clear hk); (try clear hi); have p164 : 0 ≤ (x3_1 : Int) := of_decide_eq_true asA; have q164 : x3_1 < (l0.length : Int) := of_decide_eq_true asA; obtain ⟨ad164, A164_2, c164_2, A164_11, c164_11, A164_13, c164_13, e164, hx164_0, hx164_1, hx164_2, hx164_3, hx164_4, hx164_5, hx164_6, hx164_7, hx164_8, hx164_9, hx164_10, hx164_11, hx164_12, hx164_13, hl164_2, hi164_2, hl164_11, hi164_11, hl164_13, hi164_13⟩ := at_T42 HR0.out x3_1 p164 q164; obtain rfl : ad162 = ad164 := (by injection e164); replace hx164_0 := (HB.out.cell (World.block_lt_of_cell? w _ hx164_0)).trans hx164_0; replace hx164_1 := (HB.out.cell (World.block_lt_of_cell? w _ hx164_1)).trans hx164_1; replace hx164_2 := (HB.out.cell (World.block_lt_of_cell? w _ hx164_2)).trans hx164_2; replace hx164_3 := (HB.out.cell (World.block_lt_of_cell? w _ hx164_3)).trans hx164_3; replace hx164_4 := (HB.out.cell (World.block_lt_of_cell? w _ hx164_4)).trans hx164_4; replace hx164_5 := (HB.out.cell (World.block_lt_of_cell? w _ hx164_5)).trans hx164_5; replace hx164_6 := (HB.out.cell (World.block_lt_of_cell? w _ hx164_6)).trans hx164_6; replace hx164_7 := (HB.out.cell (World.block_lt_of_cell? w _ hx164_7)).trans hx164_7; replace hx164_8 := (HB.out.cell (World.block_lt_of_cell? w _ hx164_8)).trans hx164_8; replace hx164_9 := (HB.out.cell (World.block_lt_of_cell? w _ hx164_9)).trans hx164_9; replace hx164_10 := (HB.out.cell (World.block_lt_of_cell? w _ hx164_10)).trans hx164_10; replace hx164_11 := (HB.out.cell (World.block_lt_of_cell? w _ hx164_11)).trans hx164_11; replace hx164_12 := (HB.out.cell (World.block_lt_of_cell? w _ hx164_12)).trans hx164_12; replace hx164_13 := (HB.out.cell (World.block_lt_of_cell? w _ hx164_13)).trans hx164_13; have HR164_2 := Aside0.mk hi164_2; have HC164_2 := Aside0.mk hl164_2; clear hi164_2 hl164_2; have HR164_11 := Aside0.mk hi164_11; have HC164_11 := Aside0.mk hl164_11; clear hi164_11 hl164_11; have HR164_13 := Aside0.mk hi164_13; have HC164_13 := Aside0.mk hl164_13; clear hi164_13 hl164_13; replace p164 := eq_true p164; replace q164 := eq_true q164) | (go_at_call 32; (with_reducible refine (tallboylaw18_Great.calls k1 ((rd_T42 l0 x3_1).f3.f0) _ _ ((rd_T42 l0 x3_1).f3.f1) ((rd_T42 l0 x3_1).f3.f2) false _ ?side1 ?side2 A8.out).mono ?_); (case side1 => repeat (first | exact (Kd.C_below HR164_11.out HB.out) | (with_reducible refine Kd.C_alloc ?_ _) | (with_reducible refine Kd.C_drewN ?_ _) | (with_reducible refine Kd.C_drew ?_))); (case side2 => exact HC164_11.out); rintro e w14 ⟨rfl, hb⟩; replace HB := Aside0.mk (below_step (hbA HB.out) hb); (try clear hb); (try clear hb2); (try clear hk); (try clear hi); have p166 : 0 ≤ (x3_1 : Int) := of_decide_eq_true asA; have q166 : x3_1 < (l0.length : Int) := of_decide_eq_true asA; obtain ⟨ad166, A166_2, c166_2, A166_11, c166_11, A166_13, c166_13, e166, hx166_0, hx166_1, hx166_2, hx166_3, hx166_4, hx166_5, hx166_6, hx166_7, hx166_8, hx166_9, hx166_10, hx166_11, hx166_12, hx166_13, hl166_2, hi166_2, hl166_11, hi166_11, hl166_13, hi166_13⟩ := at_T42 HR0.out x3_1 p166 q166; obtain rfl : ad162 = ad166 := (by injection e166); replace hx166_0 := (HB.out.cell (World.block_lt_of_cell? w _ hx166_0)).trans hx166_0; replace hx166_1 := (HB.out.cell (World.block_lt_of_cell? w _ hx166_1)).trans hx166_1; replace hx166_2 := (HB.out.cell (World.block_lt_of_cell? w _ hx166_2)).trans hx166_2; replace hx166_3 := (HB.out.cell (World.block_lt_of_cell? w _ hx166_3)).trans hx166_3; replace hx166_4 := (HB.out.cell (World.block_lt_of_cell? w _ hx166_4)).trans hx166_4; replace hx166_5 := (HB.out.cell (World.block_lt_of_cell? w _ hx166_5)).trans hx166_5; replace hx166_6 := (HB.out.cell (World.block_lt_of_cell? w _ hx166_6)).trans hx166_6; replace hx166_7 := (HB.out.cell (World.block_lt_of_cell? w _ hx166_7)).trans hx166_7; replace hx166_8 := (HB.out.cell (World.block_lt_of_cell? w _ hx166_8)).trans hx166_8; replace hx166_9 := (HB.out.cell (World.block_lt_of_cell? w _ hx166_9)).trans hx166_9; replace hx166_10 := (HB.out.cell (World.block_lt_of_cell? w _ hx166_10)).trans hx166_10; replace hx166_11 := (HB.out.cell (World.block_lt_of_cell? w _ hx166_11)).trans hx166_11; replace hx166_12 := (HB.out.cell (World.block_lt_of_cell? w _ hx166_12)).trans hx166_12; replace hx166_13 := (HB.out.cell (World.block_lt_of_cell? w _ hx166_13)).trans hx166_13; have HR166_2 := Aside0.mk hi166_2; have HC166_2 := Aside0.mk hl166_2; clear hi166_2 hl166_2; have HR166_11 := Aside0.mk hi166_11; have HC166_11 := Aside0.mk hl166_11; clear hi166_11 hl166_11; have HR166_13 := Aside0.mk hi166_13; have HC166_13 := Aside0.mk hl166_13; clear hi166_13 hl166_13; replace p166 := eq_true p166; replace q166 := eq_true q166))
         go_ret
         exact ⟨reA, hbA HB.out⟩
       rw [if_neg c12] at H
       have c12b0 : decide (100 < (((rd_T42 l0 x3_1).f4).length : Int)) = false := decide_eq_false c12
       have c12b1 : decide (100 < ((rd_T42 l0 x3_1).f4).length) = false := decide_eq_false (by omega)
       clear c12
       have H' := Aside0.mk H
       clear H
       have p162 : 0 ≤ (x3_1 : Int) := of_decide_eq_true asA
       have q162 : x3_1 < (l0.length : Int) := of_decide_eq_true asA
       obtain ⟨ad162, A162_2, c162_2, A162_11, c162_11, A162_13, c162_13, e162, hx162_0, hx162_1, hx162_2, hx162_3, hx162_4, hx162_5, hx162_6, hx162_7, hx162_8, hx162_9, hx162_10, hx162_11, hx162_12, hx162_13, hl162_2, hi162_2, hl162_11, hi162_11, hl162_13, hi162_13⟩ := at_T42 HR0.out x3_1 p162 q162
       cases e162
       replace hx162_0 := (HB.out.cell (World.block_lt_of_cell? w _ hx162_0)).trans hx162_0
       replace hx162_1 := (HB.out.cell (World.block_lt_of_cell? w _ hx162_1)).trans hx162_1
       replace hx162_2 := (HB.out.cell (World.block_lt_of_cell? w _ hx162_2)).trans hx162_2
       replace hx162_3 := (HB.out.cell (World.block_lt_of_cell? w _ hx162_3)).trans hx162_3
       replace hx162_4 := (HB.out.cell (World.block_lt_of_cell? w _ hx162_4)).trans hx162_4
       replace hx162_5 := (HB.out.cell (World.block_lt_of_cell? w _ hx162_5)).trans hx162_5
       replace hx162_6 := (HB.out.cell (World.block_lt_of_cell? w _ hx162_6)).trans hx162_6
       replace hx162_7 := (HB.out.cell (World.block_lt_of_cell? w _ hx162_7)).trans hx162_7
       replace hx162_8 := (HB.out.cell (World.block_lt_of_cell? w _ hx162_8)).trans hx162_8
       replace hx162_9 := (HB.out.cell (World.block_lt_of_cell? w _ hx162_9)).trans hx162_9
       replace hx162_10 := (HB.out.cell (World.block_lt_of_cell? w _ hx162_10)).trans hx162_10
       replace hx162_11 := (HB.out.cell (World.block_lt_of_cell? w _ hx162_11)).trans hx162_11
       replace hx162_12 := (HB.out.cell (World.block_lt_of_cell? w _ hx162_12)).trans hx162_12
       replace hx162_13 := (HB.out.cell (World.block_lt_of_cell? w _ hx162_13)).trans hx162_13
       have HR162_2 := Aside0.mk hi162_2
       have HC162_2 := Aside0.mk hl162_2
       clear hi162_2 hl162_2
       have HR162_11 := Aside0.mk hi162_11
       have HC162_11 := Aside0.mk hl162_11
       clear hi162_11 hl162_11
       have HR162_13 := Aside0.mk hi162_13
       have HC162_13 := Aside0.mk hl162_13
       clear hi162_13 hl162_13
       replace p162 := eq_true p162
       replace q162 := eq_true q162
       go_wp2_with (first | ((with_reducible refine gate_callee (f := 31) rfl ?_); refine goesL_ (some 18) rfl rfl Tryd.func31 (by kernel_rfl) rfl #[.agg #[.int .i64 ((rd_T42 l0 x3_1).f1.f0), .slice A162_2 ((rd_T42 l0 x3_1).f1.f1).length c162_2, .int .u32 ((rd_T42 l0 x3_1).f1.f2), .int .i64 ((rd_T42 l0 x3_1).f1.f3), .string ((rd_T42 l0 x3_1).f1.f4), .int .u64 ((rd_T42 l0 x3_1).f1.f5), .int .u64 ((rd_T42 l0 x3_1).f1.f6), .bool ((rd_T42 l0 x3_1).f1.f7)]] rfl argA ?_; (with_reducible refine (tallboylaw15_Great.calls k1 ((rd_T42 l0 x3_1).f1.f0) _ _ ((rd_T42 l0 x3_1).f1.f1) ((rd_T42 l0 x3_1).f1.f2) ((rd_T42 l0 x3_1).f1.f3) ((rd_T42 l0 x3_1).f1.f4) ((rd_T42 l0 x3_1).f1.f5) ((rd_T42 l0 x3_1).f1.f6) ((rd_T42 l0 x3_1).f1.f7) false _ ?side1 ?side2 A5.out).mono ?_); (case side1 => repeat (first | exact (Kd.C_below HR162_2.out HB.out) | (with_reducible refine Kd.C_alloc ?_ _) | (with_reducible refine Kd.C_drewN ?_ _) | (with_reducible refine Kd.C_drew ?_))); (case side2 => exact HC162_2.out); rintro e w15 ⟨rfl, hb⟩; refine ⟨_, rfl, ?_⟩; replace HB := Aside0.mk (below_step (hbA HB.out) hb); (try clear hb); (try clear hb2); (try clear hk); (try clear hi); have p164 : 0 ≤ (x3_1 : Int) := of_decide_eq_true asA; have q164 : x3_1 < (l0.length : Int) := of_decide_eq_true asA; obtain ⟨ad164, A164_2, c164_2, A164_11, c164_11, A164_13, c164_13, e164, hx164_0, hx164_1, hx164_2, hx164_3, hx164_4, hx164_5, hx164_6, hx164_7, hx164_8, hx164_9, hx164_10, hx164_11, hx164_12, hx164_13, hl164_2, hi164_2, hl164_11, hi164_11, hl164_13, hi164_13⟩ := at_T42 HR0.out x3_1 p164 q164; obtain rfl : ad162 = ad164 := (by injection e164); replace hx164_0 := (HB.out.cell (World.block_lt_of_cell? w _ hx164_0)).trans hx164_0; replace hx164_1 := (HB.out.cell (World.block_lt_of_cell? w _ hx164_1)).trans hx164_1; replace hx164_2 := (HB.out.cell (World.block_lt_of_cell? w _ hx164_2)).trans hx164_2; replace hx164_3 := (HB.out.cell (World.block_lt_of_cell? w _ hx164_3)).trans hx164_3; replace hx164_4 := (HB.out.cell (World.block_lt_of_cell? w _ hx164_4)).trans hx164_4; replace hx164_5 := (HB.out.cell (World.block_lt_of_cell? w _ hx164_5)).trans hx164_5; replace hx164_6 := (HB.out.cell (World.block_lt_of_cell? w _ hx164_6)).trans hx164_6; replace hx164_7 := (HB.out.cell (World.block_lt_of_cell? w _ hx164_7)).trans hx164_7; replace hx164_8 := (HB.out.cell (World.block_lt_of_cell? w _ hx164_8)).trans hx164_8; replace hx164_9 := (HB.out.cell (World.block_lt_of_cell? w _ hx164_9)).trans hx164_9; replace hx164_10 := (HB.out.cell (World.block_lt_of_cell? w _ hx164_10)).trans hx164_10; replace hx164_11 := (HB.out.cell (World.block_lt_of_cell? w _ hx164_11)).trans hx164_11; replace hx164_12 := (HB.out.cell (World.block_lt_of_cell? w _ hx164_12)).trans hx164_12; replace hx164_13 := (HB.out.cell (World.block_lt_of_cell? w _ hx164_13)).trans hx164_13; have HR164_2 := Aside0.mk hi164_2; have HC164_2 := Aside0.mk hl164_2; clear hi164_2 hl164_2; have HR164_11 := Aside0.mk hi164_11; have HC164_11 := Aside0.mk hl164_11; clear hi164_11 hl164_11; have HR164_13 := Aside0.mk hi164_13; have HC164_13 := Aside0.mk hl164_13; clear hi164_13 hl164_13; replace p164 := eq_true p164; replace q164 := eq_true q164) | (go_at_call 32; (with_reducible refine (tallboylaw18_Great.calls k1 ((rd_T42 l0 x3_1).f3.f0) _ _ ((rd_T42 l0 x3_1).f3.f1) ((rd_T42 l0 x3_1).f3.f2) false _ ?side1 ?side2 A8.out).mono ?_); (case side1 => repeat (first | exact (Kd.C_below HR164_11.out HB.out) | (with_reducible refine Kd.C_alloc ?_ _) | (with_reducible refine Kd.C_drewN ?_ _) | (with_reducible refine Kd.C_drew ?_))); (case side2 => exact HC164_11.out); rintro e w16 ⟨rfl, hb⟩; replace HB := Aside0.mk (below_step (hbA HB.out) hb); (try clear hb); (try clear hb2); (try clear hk); (try clear hi); have p166 : 0 ≤ (x3_1 : Int) := of_decide_eq_true asA; have q166 : x3_1 < (l0.length : Int) := of_decide_eq_true asA; obtain ⟨ad166, A166_2, c166_2, A166_11, c166_11, A166_13, c166_13, e166, hx166_0, hx166_1, hx166_2, hx166_3, hx166_4, hx166_5, hx166_6, hx166_7, hx166_8, hx166_9, hx166_10, hx166_11, hx166_12, hx166_13, hl166_2, hi166_2, hl166_11, hi166_11, hl166_13, hi166_13⟩ := at_T42 HR0.out x3_1 p166 q166; obtain rfl : ad162 = ad166 := (by injection e166); replace hx166_0 := (HB.out.cell (World.block_lt_of_cell? w _ hx166_0)).trans hx166_0; replace hx166_1 := (HB.out.cell (World.block_lt_of_cell? w _ hx166_1)).trans hx166_1; replace hx166_2 := (HB.out.cell (World.block_lt_of_cell? w _ hx166_2)).trans hx166_2; replace hx166_3 := (HB.out.cell (World.block_lt_of_cell? w _ hx166_3)).trans hx166_3; replace hx166_4 := (HB.out.cell (World.block_lt_of_cell? w _ hx166_4)).trans hx166_4; replace hx166_5 := (HB.out.cell (World.block_lt_of_cell? w _ hx166_5)).trans hx166_5; replace hx166_6 := (HB.out.cell (World.block_lt_of_cell? w _ hx166_6)).trans hx166_6; replace hx166_7 := (HB.out.cell (World.block_lt_of_cell? w _ hx166_7)).trans hx166_7; replace hx166_8 := (HB.out.cell (World.block_lt_of_cell? w _ hx166_8)).trans hx166_8; replace hx166_9 := (HB.out.cell (World.block_lt_of_cell? w _ hx166_9)).trans hx166_9; replace hx166_10 := (HB.out.cell (World.block_lt_of_cell? w _ hx166_10)).trans hx166_10; replace hx166_11 := (HB.out.cell (World.block_lt_of_cell? w _ hx166_11)).trans hx166_11; replace hx166_12 := (HB.out.cell (World.block_lt_of_cell? w _ hx166_12)).trans hx166_12; replace hx166_13 := (HB.out.cell (World.block_lt_of_cell? w _ hx166_13)).trans hx166_13; have HR166_2 := Aside0.mk hi166_2; have HC166_2 := Aside0.mk hl166_2; clear hi166_2 hl166_2; have HR166_11 := Aside0.mk hi166_11; have HC166_11 := Aside0.mk hl166_11; clear hi166_11 hl166_11; have HR166_13 := Aside0.mk hi166_13; have HC166_13 := Aside0.mk hl166_13; clear hi166_13 hl166_13; replace p166 := eq_true p166; replace q166 := eq_true q166))
       go_roundg k1
       case measure => have := HK1.out; omega
       case rel => exact ⟨(wrap64 (x3_1 + 1)), rsA, H', ⟨by have := HK1.out; omega⟩, ⟨hbA HB.out⟩⟩
     rw [if_neg c4] at H
     exact absurd H (by simp)
   rw [if_neg c3] at H
   have c3b0 : decide (x3_1 < (l0.length : Int)) = false := decide_eq_false c3
   clear c3
   obtain rfl := Option.some.inj H
   go_wp2
   go_ret
   exact ⟨reA, hbA HB.out⟩

end
end Go.Proofs.YteddljbdjgdlnaaDoor.XSb
end
