/- Put together by wip/pack.py (this session's own program) out of this session's texts; a kit's tool laid the words and the shelf, of which only what is used stands here. Lean checks it. -/
import Derived.Test.YtfboejlemnfndaaGreatDoorPMk1
import Derived.Maps.OwnSet
import Derived.Maps.OwnOps
import Derived.Below
import Derived.Lib.Hide
import Derived.Lib.ItoaMem
import Derived.Lib.AppendIntMem
section
namespace Go.Proofs.YtfboejlemnfndaaGreatDoor.XMk
open Go.RowKit Go.Proofs.YtfboejlemnfndaaGreatDoorW.PrintWords Go.Proofs.YtfboejlemnfndaaGreatDoorW.PrintLast Go.Proofs.YtfboejlemnfndaaGreatDoorW.PrintMore
attribute [local go_sem] extract_sub max2_int min2_int max_two min_two max_three min_three max_four min_four   -- for this text's walks alone
set_option linter.unusedVariables false
set_option linter.unusedSimpArgs false

noncomputable section
def meta_modes.f (a0 : Int) : Option (ByteArray) := if a0 = 2 then (some (⟨#[65, 69, 80, 82, 83]⟩ : ByteArray)) else (some (⟨#[73, 68]⟩ : ByteArray))
set_option maxHeartbeats 8000000 in
set_option maxRecDepth 100000 in
theorem meta_modes.calls (a0 : Int) (r : ByteArray) (w : World) (h : meta_modes.f a0 = some r) :
 Calls Tryz.prog 79 #[.int .i64 a0] w fun e w' => e = .returned (.string r) ∧ Drawn0 w w' := by
 have H : (if a0 = 2 then (some (⟨#[65, 69, 80, 82, 83]⟩ : ByteArray)) else (some (⟨#[73, 68]⟩ : ByteArray))) = some r := h
 clear h
 by_cases c2 : a0 = 2
 · rw [if_pos c2] at H
   have c2b0 : (a0 == 2) = true := beq_iff_eq.mpr c2
   have c2b1 : (a0 != 2) = false := bne_eq_false_iff_eq.mpr c2
   clear c2
   obtain rfl := Option.some.inj H
   go_enter Tryz.func79, Tryz.ntmps79
   go_wp2
   go_ret
   exact ⟨rsA, drA⟩
 rw [if_neg c2] at H
 have c2b0 : (a0 == 2) = false := beq_eq_false_iff_ne.mpr c2
 have c2b1 : (a0 != 2) = true := bne_iff_ne.mpr c2
 obtain rfl := Option.some.inj H
 go_enter Tryz.func79, Tryz.ntmps79
 go_wp2
 go_ret
 exact ⟨rsA, drA⟩

def meta_right.f (k : Nat) (a0 : Int) (a1_0 : Int) (a1_1 : ByteArray) : Option (Bool) := (meta_sortOf.f k a1_0).bind fun t118 => (if t118 = 1 then ((digits_Parse.f a1_1).bind fun bt119 => (some (bt119.2 == 0))) else (if t118 = 2 then ((digits_Parse.f a1_1).bind fun bt121 => (if bt121.2 = 0 then (some (decide (bt121.1 ≤ 4294967295))) else (some false))) else (if t118 = 3 then ((digits_Signed.f k a1_1).bind fun bt123 => (some (bt123.2 == 0))) else (if t118 = 4 then ((fnv_Key.f k a1_1).bind fun t125 => (some t125)) else (if t118 = 5 then (if (a1_1.size : Int) = 1 then ((meta_modes.f a0).bind fun t126 => ((strings_Contains.f t126 a1_1).bind fun t127 => (some t127))) else (some false)) else (some (a1_1.toList == ([] : List UInt8))))))))
theorem meta_right.mono : ∀ a0 a1 a2 k, LeO (meta_right.f k a0 a1 a2) (meta_right.f (k + 1) a0 a1 a2) := by
 intro a0 a1 a2 k
 unfold meta_right.f
 repeat' first
  | (with_reducible exact digits_Signed.mono _ _)
  | (with_reducible exact fnv_Key.mono _ _)
  | (with_reducible exact meta_sortOf.mono _ _)
  | (with_reducible exact LeO.refl _)
  | (with_reducible exact LeO.none _)
  | (with_reducible refine LeO.ite ?_ ?_)
  | (with_reducible refine LeO.bind ?_ (fun _ => ?_))
  | exact digits_Signed.mono _ _
  | exact fnv_Key.mono _ _
  | exact meta_sortOf.mono _ _
  | exact LeO.none _
  | refine LeO.ite ?_ ?_
  | refine LeO.bind ?_ (fun _ => ?_)
def meta_right.T14 : Bool × List (List Nat × List Nat) := (true, [([], []), ([0], [0]), ([1], [1]), ([2], [2]), ([3], [3]), ([4], [4]), ([5, 4, 4], [4, 5]), ([4], [4]), ([7, 4], [4, 7]), ([6, 8, 6, 4], [4, 6, 8]), ([4, 9], [4, 9]), ([10, 9, 0, 1, 2, 3, 4, 5, 6, 7, 8, 9, 10], [10])])
def meta_right.B14 : List Nat := [0, 1, 3, 7, 15, 31, 63, 31, 159, 511, 1023, 2047]
theorem meta_right.tab14 : rtab .any (opsOf Tryz.f61 14) = meta_right.T14 := by kernel_rfl
theorem meta_right.bits14 : waitsOk meta_right.T14.2 meta_right.B14 = true := by kernel_rfl
set_option maxHeartbeats 8000000 in
set_option maxRecDepth 100000 in
theorem meta_right.calls (k : Nat) (a0 : Int) (a1_0 : Int) (a1_1 : ByteArray) (r : Bool) (w : World) (hv : Vars w) (h : meta_right.f k a0 a1_0 a1_1 = some r) :
 Calls Tryz.prog 61 #[.int .i64 a0, .agg #[.int .u8 a1_0, .string a1_1]] w fun e w' => e = .returned (.bool r) ∧ Below w.heap.size w w' := by
 have hu61 := Tryz.underlying61
 have HV := Aside0.mk hv
 clear hv
 have HB := Aside0.mk (Below.refl w.heap.size w)
 have H : ((meta_sortOf.f k a1_0).bind fun t118 => (if t118 = 1 then ((digits_Parse.f a1_1).bind fun bt119 => (some (bt119.2 == 0))) else (if t118 = 2 then ((digits_Parse.f a1_1).bind fun bt121 => (if bt121.2 = 0 then (some (decide (bt121.1 ≤ 4294967295))) else (some false))) else (if t118 = 3 then ((digits_Signed.f k a1_1).bind fun bt123 => (some (bt123.2 == 0))) else (if t118 = 4 then ((fnv_Key.f k a1_1).bind fun t125 => (some t125)) else (if t118 = 5 then (if (a1_1.size : Int) = 1 then ((meta_modes.f a0).bind fun t126 => ((strings_Contains.f t126 a1_1).bind fun t127 => (some t127))) else (some false)) else (some (a1_1.toList == ([] : List UInt8))))))))) = some r := h
 clear h
 replace H := Option.bind_eq_some_iff.mp H
 obtain ⟨t118, A30, H⟩ := H
 replace H : (if t118 = 1 then ((digits_Parse.f a1_1).bind fun bt119 => (some (bt119.2 == 0))) else (if t118 = 2 then ((digits_Parse.f a1_1).bind fun bt121 => (if bt121.2 = 0 then (some (decide (bt121.1 ≤ 4294967295))) else (some false))) else (if t118 = 3 then ((digits_Signed.f k a1_1).bind fun bt123 => (some (bt123.2 == 0))) else (if t118 = 4 then ((fnv_Key.f k a1_1).bind fun t125 => (some t125)) else (if t118 = 5 then (if (a1_1.size : Int) = 1 then ((meta_modes.f a0).bind fun t126 => ((strings_Contains.f t126 a1_1).bind fun t127 => (some t127))) else (some false)) else (some (a1_1.toList == ([] : List UInt8)))))))) = some r := H
 have A3 := Aside0.mk A30
 clear A30
 by_cases c4 : t118 = 1
 · rw [if_pos c4] at H
   have c4b0 : (t118 == 1) = true := beq_iff_eq.mpr c4
   have c4b1 : (t118 != 1) = false := bne_eq_false_iff_eq.mpr c4
   clear c4
   replace H := Option.bind_eq_some_iff.mp H
   obtain ⟨⟨t119, t120⟩, A50, H⟩ := H
   replace H : (some (t120 == 0)) = some r := H
   have A5 := Aside0.mk A50
   clear A50
   obtain rfl := Option.some.inj H
   go_enter Tryz.func61, Tryz.ntmps61
   go_wp2_with (first | ((with_reducible refine gate_dst (N := 3) rfl ?_); refine box_event ?hg (N := 3) ?hd (cs := #[.int .u8 a1_0, .string a1_1]) (t := 61) ?hr ?_; (case hd => rfl); (case hg => rfl); (case hr => first | (go_simp; done) | (go_simp; rfl)); intro gb117 hg w6 hbox hb; have n0_ := Aside0.mk (below_step (hbA HB.out) hb); have n1_ := Aside0.mk (hbox); have n2_ := Aside0.mk ((by rw [hg]; exact (below_size (hbA HB.out)) : w.heap.size ≤ gb117)); have n3_ := Aside0.mk ((by rw [hg]; exact (below_size (hbA HB.out)) : w.heap.size ≤ gb117)); clear HB; have HB := n0_; have BK117 := n1_; have GW117 := n2_; have GE117 := n3_; clear n0_ n1_ n2_ n3_; clear hb hbox hg; obtain ⟨hcz7_0, hcz7_1, hfz7_0, hfz7_1⟩ := blkA2 BK117.out) | ((with_reducible refine gate_callee (f := 36) rfl ?_); refine goesL_ (some 13) rfl rfl Tryz.func36 (by kernel_rfl) rfl #[.int .u8 a1_0] rfl argA ?_; (with_reducible refine (meta_sortOf.calls k a1_0 t118 _ A3.out).mono ?_); rintro e w' ⟨rfl, ⟨nd, rfl⟩⟩; refine ⟨_, rfl, ?_⟩) | ((with_reducible refine gate_callee (f := 38) rfl ?_); refine goesL_ (some 19) rfl rfl Tryz.func38 (by kernel_rfl) rfl #[.string a1_1] rfl argA ?_; (with_reducible refine (digits_Parse.calls a1_1 t119 t120 _ ?side1 A5.out).mono ?_); (case side1 => exact Vars.below HV.out (hbA HB.out)); rintro e w8 ⟨rfl, hb⟩; refine ⟨_, rfl, ?_⟩; replace BK117 := Aside0.mk (blk_below (g := gb117) (o := .cells #[.int .u8 a1_0, .string a1_1] 61 (0, 0)) (rbA BK117.out) hb); replace HB := Aside0.mk (below_step (hbA HB.out) hb); (try clear hb); (try clear hb2); (try clear hk); (try clear hi)))
   go_ret
   exact ⟨reA, hbA HB.out⟩
 rw [if_neg c4] at H
 have c4b0 : (t118 == 1) = false := beq_eq_false_iff_ne.mpr c4
 have c4b1 : (t118 != 1) = true := bne_iff_ne.mpr c4
 by_cases c9 : t118 = 2
 · rw [if_pos c9] at H
   have c9b0 : (t118 == 2) = true := beq_iff_eq.mpr c9
   have c9b1 : (t118 != 2) = false := bne_eq_false_iff_eq.mpr c9
   clear c9
   replace H := Option.bind_eq_some_iff.mp H
   obtain ⟨⟨t121, t122⟩, A100, H⟩ := H
   replace H : (if t122 = 0 then (some (decide (t121 ≤ 4294967295))) else (some false)) = some r := H
   have A10 := Aside0.mk A100
   clear A100
   by_cases c11 : t122 = 0
   · rw [if_pos c11] at H
     have c11b0 : (t122 == 0) = true := beq_iff_eq.mpr c11
     have c11b1 : (t122 != 0) = false := bne_eq_false_iff_eq.mpr c11
     clear c11
     obtain rfl := Option.some.inj H
     go_enter Tryz.func61, Tryz.ntmps61
     go_wp2_with (first | ((with_reducible refine gate_dst (N := 3) rfl ?_); refine box_event ?hg (N := 3) ?hd (cs := #[.int .u8 a1_0, .string a1_1]) (t := 61) ?hr ?_; (case hd => rfl); (case hg => rfl); (case hr => first | (go_simp; done) | (go_simp; rfl)); intro gb117 hg w12 hbox hb; have n0_ := Aside0.mk (below_step (hbA HB.out) hb); have n1_ := Aside0.mk (hbox); have n2_ := Aside0.mk ((by rw [hg]; exact (below_size (hbA HB.out)) : w.heap.size ≤ gb117)); have n3_ := Aside0.mk ((by rw [hg]; exact (below_size (hbA HB.out)) : w.heap.size ≤ gb117)); clear HB; have HB := n0_; have BK117 := n1_; have GW117 := n2_; have GE117 := n3_; clear n0_ n1_ n2_ n3_; clear hb hbox hg; obtain ⟨hcz13_0, hcz13_1, hfz13_0, hfz13_1⟩ := blkA2 BK117.out) | ((with_reducible refine gate_callee (f := 36) rfl ?_); refine goesL_ (some 13) rfl rfl Tryz.func36 (by kernel_rfl) rfl #[.int .u8 a1_0] rfl argA ?_; (with_reducible refine (meta_sortOf.calls k a1_0 t118 _ A3.out).mono ?_); rintro e w' ⟨rfl, ⟨nd, rfl⟩⟩; refine ⟨_, rfl, ?_⟩) | ((with_reducible refine gate_callee (f := 38) rfl ?_); refine goesL_ (some 29) rfl rfl Tryz.func38 (by kernel_rfl) rfl #[.string a1_1] rfl argA ?_; (with_reducible refine (digits_Parse.calls a1_1 t121 t122 _ ?side1 A10.out).mono ?_); (case side1 => exact Vars.below HV.out (hbA HB.out)); rintro e w14 ⟨rfl, hb⟩; refine ⟨_, rfl, ?_⟩; replace BK117 := Aside0.mk (blk_below (g := gb117) (o := .cells #[.int .u8 a1_0, .string a1_1] 61 (0, 0)) (rbA BK117.out) hb); replace HB := Aside0.mk (below_step (hbA HB.out) hb); (try clear hb); (try clear hb2); (try clear hk); (try clear hi)))
     go_ret
     exact ⟨reA, hbA HB.out⟩
   rw [if_neg c11] at H
   have c11b0 : (t122 == 0) = false := beq_eq_false_iff_ne.mpr c11
   have c11b1 : (t122 != 0) = true := bne_iff_ne.mpr c11
   obtain rfl := Option.some.inj H
   go_enter Tryz.func61, Tryz.ntmps61
   go_wp2_with (first | ((with_reducible refine gate_dst (N := 3) rfl ?_); refine box_event ?hg (N := 3) ?hd (cs := #[.int .u8 a1_0, .string a1_1]) (t := 61) ?hr ?_; (case hd => rfl); (case hg => rfl); (case hr => first | (go_simp; done) | (go_simp; rfl)); intro gb117 hg w15 hbox hb; have n0_ := Aside0.mk (below_step (hbA HB.out) hb); have n1_ := Aside0.mk (hbox); have n2_ := Aside0.mk ((by rw [hg]; exact (below_size (hbA HB.out)) : w.heap.size ≤ gb117)); have n3_ := Aside0.mk ((by rw [hg]; exact (below_size (hbA HB.out)) : w.heap.size ≤ gb117)); clear HB; have HB := n0_; have BK117 := n1_; have GW117 := n2_; have GE117 := n3_; clear n0_ n1_ n2_ n3_; clear hb hbox hg; obtain ⟨hcz16_0, hcz16_1, hfz16_0, hfz16_1⟩ := blkA2 BK117.out) | ((with_reducible refine gate_callee (f := 36) rfl ?_); refine goesL_ (some 13) rfl rfl Tryz.func36 (by kernel_rfl) rfl #[.int .u8 a1_0] rfl argA ?_; (with_reducible refine (meta_sortOf.calls k a1_0 t118 _ A3.out).mono ?_); rintro e w' ⟨rfl, ⟨nd, rfl⟩⟩; refine ⟨_, rfl, ?_⟩) | ((with_reducible refine gate_callee (f := 38) rfl ?_); refine goesL_ (some 29) rfl rfl Tryz.func38 (by kernel_rfl) rfl #[.string a1_1] rfl argA ?_; (with_reducible refine (digits_Parse.calls a1_1 t121 t122 _ ?side1 A10.out).mono ?_); (case side1 => exact Vars.below HV.out (hbA HB.out)); rintro e w17 ⟨rfl, hb⟩; refine ⟨_, rfl, ?_⟩; replace BK117 := Aside0.mk (blk_below (g := gb117) (o := .cells #[.int .u8 a1_0, .string a1_1] 61 (0, 0)) (rbA BK117.out) hb); replace HB := Aside0.mk (below_step (hbA HB.out) hb); (try clear hb); (try clear hb2); (try clear hk); (try clear hi)))
   go_ret
   exact ⟨reA, hbA HB.out⟩
 rw [if_neg c9] at H
 have c9b0 : (t118 == 2) = false := beq_eq_false_iff_ne.mpr c9
 have c9b1 : (t118 != 2) = true := bne_iff_ne.mpr c9
 by_cases c18 : t118 = 3
 · rw [if_pos c18] at H
   have c18b0 : (t118 == 3) = true := beq_iff_eq.mpr c18
   have c18b1 : (t118 != 3) = false := bne_eq_false_iff_eq.mpr c18
   clear c18
   replace H := Option.bind_eq_some_iff.mp H
   obtain ⟨⟨t123, t124⟩, A190, H⟩ := H
   replace H : (some (t124 == 0)) = some r := H
   have A19 := Aside0.mk A190
   clear A190
   obtain rfl := Option.some.inj H
   go_enter Tryz.func61, Tryz.ntmps61
   go_wp2_with (first | ((with_reducible refine gate_dst (N := 3) rfl ?_); refine box_event ?hg (N := 3) ?hd (cs := #[.int .u8 a1_0, .string a1_1]) (t := 61) ?hr ?_; (case hd => rfl); (case hg => rfl); (case hr => first | (go_simp; done) | (go_simp; rfl)); intro gb117 hg w20 hbox hb; have n0_ := Aside0.mk (below_step (hbA HB.out) hb); have n1_ := Aside0.mk (hbox); have n2_ := Aside0.mk ((by rw [hg]; exact (below_size (hbA HB.out)) : w.heap.size ≤ gb117)); have n3_ := Aside0.mk ((by rw [hg]; exact (below_size (hbA HB.out)) : w.heap.size ≤ gb117)); clear HB; have HB := n0_; have BK117 := n1_; have GW117 := n2_; have GE117 := n3_; clear n0_ n1_ n2_ n3_; clear hb hbox hg; obtain ⟨hcz21_0, hcz21_1, hfz21_0, hfz21_1⟩ := blkA2 BK117.out) | ((with_reducible refine gate_callee (f := 36) rfl ?_); refine goesL_ (some 13) rfl rfl Tryz.func36 (by kernel_rfl) rfl #[.int .u8 a1_0] rfl argA ?_; (with_reducible refine (meta_sortOf.calls k a1_0 t118 _ A3.out).mono ?_); rintro e w' ⟨rfl, ⟨nd, rfl⟩⟩; refine ⟨_, rfl, ?_⟩) | ((with_reducible refine gate_callee (f := 37) rfl ?_); refine goesL_ (some 43) rfl rfl Tryz.func37 (by kernel_rfl) rfl #[.string a1_1] rfl argA ?_; (with_reducible refine (digits_Signed.calls k a1_1 t123 t124 _ ?side1 A19.out).mono ?_); (case side1 => exact Vars.below HV.out (hbA HB.out)); rintro e w22 ⟨rfl, hb⟩; refine ⟨_, rfl, ?_⟩; replace BK117 := Aside0.mk (blk_below (g := gb117) (o := .cells #[.int .u8 a1_0, .string a1_1] 61 (0, 0)) (rbA BK117.out) hb); replace HB := Aside0.mk (below_step (hbA HB.out) hb); (try clear hb); (try clear hb2); (try clear hk); (try clear hi)))
   go_ret
   exact ⟨reA, hbA HB.out⟩
 rw [if_neg c18] at H
 have c18b0 : (t118 == 3) = false := beq_eq_false_iff_ne.mpr c18
 have c18b1 : (t118 != 3) = true := bne_iff_ne.mpr c18
 by_cases c23 : t118 = 4
 · rw [if_pos c23] at H
   have c23b0 : (t118 == 4) = true := beq_iff_eq.mpr c23
   have c23b1 : (t118 != 4) = false := bne_eq_false_iff_eq.mpr c23
   clear c23
   replace H := Option.bind_eq_some_iff.mp H
   obtain ⟨t125, A240, H⟩ := H
   replace H : (some t125) = some r := H
   have A24 := Aside0.mk A240
   clear A240
   obtain rfl := Option.some.inj H
   go_enter Tryz.func61, Tryz.ntmps61
   go_wp2_with (first | ((with_reducible refine gate_dst (N := 3) rfl ?_); refine box_event ?hg (N := 3) ?hd (cs := #[.int .u8 a1_0, .string a1_1]) (t := 61) ?hr ?_; (case hd => rfl); (case hg => rfl); (case hr => first | (go_simp; done) | (go_simp; rfl)); intro gb117 hg w25 hbox hb; have n0_ := Aside0.mk (below_step (hbA HB.out) hb); have n1_ := Aside0.mk (hbox); have n2_ := Aside0.mk ((by rw [hg]; exact (below_size (hbA HB.out)) : w.heap.size ≤ gb117)); have n3_ := Aside0.mk ((by rw [hg]; exact (below_size (hbA HB.out)) : w.heap.size ≤ gb117)); clear HB; have HB := n0_; have BK117 := n1_; have GW117 := n2_; have GE117 := n3_; clear n0_ n1_ n2_ n3_; clear hb hbox hg; obtain ⟨hcz26_0, hcz26_1, hfz26_0, hfz26_1⟩ := blkA2 BK117.out) | ((with_reducible refine gate_callee (f := 36) rfl ?_); refine goesL_ (some 13) rfl rfl Tryz.func36 (by kernel_rfl) rfl #[.int .u8 a1_0] rfl argA ?_; (with_reducible refine (meta_sortOf.calls k a1_0 t118 _ A3.out).mono ?_); rintro e w' ⟨rfl, ⟨nd, rfl⟩⟩; refine ⟨_, rfl, ?_⟩) | ((with_reducible refine gate_callee (f := 77) rfl ?_); refine goesL_ (some 52) rfl rfl Tryz.func77 (by kernel_rfl) rfl #[.string a1_1] rfl argA ?_; (with_reducible refine (fnv_Key.calls k a1_1 t125 _ A24.out).mono ?_); rintro e w' ⟨rfl, ⟨nd, rfl⟩⟩; refine ⟨_, rfl, ?_⟩))
   go_ret
   exact ⟨reA, hbA HB.out⟩
 rw [if_neg c23] at H
 have c23b0 : (t118 == 4) = false := beq_eq_false_iff_ne.mpr c23
 have c23b1 : (t118 != 4) = true := bne_iff_ne.mpr c23
 by_cases c27 : t118 = 5
 · rw [if_pos c27] at H
   have c27b0 : (t118 == 5) = true := beq_iff_eq.mpr c27
   have c27b1 : (t118 != 5) = false := bne_eq_false_iff_eq.mpr c27
   clear c27
   by_cases c28 : (a1_1.size : Int) = 1
   · rw [if_pos c28] at H
     have c28b0 : ((a1_1.size : Int) == 1) = true := beq_iff_eq.mpr c28
     have c28b1 : ((a1_1.size : Int) != 1) = false := bne_eq_false_iff_eq.mpr c28
     clear c28
     replace H := Option.bind_eq_some_iff.mp H
     obtain ⟨t126, A290, H⟩ := H
     replace H : ((strings_Contains.f t126 a1_1).bind fun t127 => (some t127)) = some r := H
     have A29 := Aside0.mk A290
     clear A290
     replace H := Option.bind_eq_some_iff.mp H
     obtain ⟨t127, A300, H⟩ := H
     replace H : (some t127) = some r := H
     have A30 := Aside0.mk A300
     clear A300
     obtain rfl := Option.some.inj H
     go_enter Tryz.func61, Tryz.ntmps61
     try go_wp2_with (first | ((with_reducible refine gate_dst (N := 3) rfl ?_); refine box_event ?hg (N := 3) ?hd (cs := #[.int .u8 a1_0, .string a1_1]) (t := 61) ?hr ?_; (case hd => rfl); (case hg => rfl); (case hr => first | (go_simp; done) | (go_simp; rfl)); intro gb117 hg w31 hbox hb; have n0_ := Aside0.mk (below_step (hbA HB.out) hb); have n1_ := Aside0.mk (hbox); have n2_ := Aside0.mk ((by rw [hg]; exact (below_size (hbA HB.out)) : w.heap.size ≤ gb117)); have n3_ := Aside0.mk ((by rw [hg]; exact (below_size (hbA HB.out)) : w.heap.size ≤ gb117)); clear HB; have HB := n0_; have BK117 := n1_; have GW117 := n2_; have GE117 := n3_; clear n0_ n1_ n2_ n3_; clear hb hbox hg; obtain ⟨hcz32_0, hcz32_1, hfz32_0, hfz32_1⟩ := blkA2 BK117.out) | ((with_reducible refine gate_callee (f := 36) rfl ?_); refine goesL_ (some 13) rfl rfl Tryz.func36 (by kernel_rfl) rfl #[.int .u8 a1_0] rfl argA ?_; (with_reducible refine (meta_sortOf.calls k a1_0 t118 _ A3.out).mono ?_); rintro e w' ⟨rfl, ⟨nd, rfl⟩⟩; refine ⟨_, rfl, ?_⟩))
     (try (rw [drewN_self w31]; generalize hq_ : World.drewN w31 _ = w31; have n0_ : Aside0 (w31.heap[gb117]? = some (.cells #[.int .u8 a1_0, .string a1_1] 61 (0, 0))) := ⟨by rw [← hq_]; exact (rbA BK117.out)⟩; have n1_ : Aside0 (Below w.heap.size w w31) := ⟨by rw [← hq_]; exact (hbA HB.out)⟩; clear BK117 HB hq_; have BK117 := n0_; have HB := n1_; clear n0_ n1_))
     replace BK117 := Aside0.mk (blk_drew BK117.out)
     replace HB := Aside0.mk (below_drew1 HB.out)
     refine start_ (n := 12) (S := fun w' => w'.cell? ⟨gb117, 0, none⟩ = some (.int .u8 a1_0) ∧ w'.cell? ⟨gb117, 1, none⟩ = some (.string a1_1)) (ds := []) #[false, false, false, false, false, false, false, false, false, false, false, false] (by kernel_rfl) rfl rfl ⟨(blk_cell BK117.out 0).trans rfl, (blk_cell BK117.out 1).trans rfl⟩ (fun hHeld => ?_); refine with_tabW meta_right.tab14 meta_right.bits14 (fun HT_ HW_ => ?_)
     generalize w31.drew = w33 at BK117 HB hHeld ⊢
     refine pureA_ (i := 0) (N := some 55) #[true, false, false, false, false, false, false, false, false, false, false, false] rfl rfl ?_ (hc := any_of HT_.out (by kernel_rfl))
     refine takeA_ (i := 1) (N := some 56) #[true, true, false, false, false, false, false, false, false, false, false, false] rfl rfl hHeld ?_ (hc := take_ofW HT_.out HW_.out (by kernel_rfl)) (hy := by rintro w' ⟨s0, s1⟩; go_simp; with_reducible rfl)
     refine pureA_ (i := 2) (N := some 57) #[true, true, true, false, false, false, false, false, false, false, false, false] rfl rfl ?_ (hc := any_of HT_.out (by kernel_rfl))
     refine pureA_ (i := 3) (N := some 58) #[true, true, true, true, false, false, false, false, false, false, false, false] rfl rfl ?_ (hc := any_of HT_.out (by kernel_rfl))
     refine pureA_ (i := 4) (N := some 59) #[true, true, true, true, true, false, false, false, false, false, false, false] rfl rfl ?_ (hc := any_of HT_.out (by kernel_rfl))
     refine pureA_ (i := 5) (N := some 60) #[true, true, true, true, true, true, false, false, false, false, false, false] rfl rfl ?_ (hc := any_of HT_.out (by kernel_rfl))
     refine pureA_ (i := 7) (N := some 62) #[true, true, true, true, true, true, false, true, false, false, false, false] rfl rfl ?_ (hc := any_of HT_.out (by kernel_rfl))
     refine takeA_ (i := 8) (N := some 63) #[true, true, true, true, true, true, false, true, true, false, false, false] rfl rfl hHeld ?_ (hc := take_ofW HT_.out HW_.out (by kernel_rfl)) (hy := by rintro w' ⟨s0, s1⟩; go_simp; with_reducible rfl)
     refine one_ (i := 6) (N := some 61) #[true, true, true, true, true, true, true, true, true, false, false, false] rfl rfl (one_of HT_.out (by kernel_rfl)) (by decide) (fun K hK => ?_)
     refine goes_ Tryz.func79 (by kernel_rfl) rfl #[.int .i64 a0] (by rfl) rfl rfl argA ?_
     with_reducible refine (meta_modes.calls a0 t126 _ A29.out).mono ?_
     rintro e w' ⟨rfl, ⟨nd, rfl⟩⟩
     refine ⟨_, rfl, ?_⟩
     refine hK.out _ _ ⟨(blk_cell BK117.out 0).trans rfl, (blk_cell BK117.out 1).trans rfl⟩ (fun hHeld => ?_)
     clear hK K
     refine normA_ ?_
     refine one_ (i := 9) (N := some 64) #[true, true, true, true, true, true, true, true, true, true, false, false] rfl rfl (one_of HT_.out (by kernel_rfl)) (by decide) (fun K hK => ?_)
     refine goes_ Tryz.func78 (by kernel_rfl) rfl #[.string t126, .string a1_1] (by rfl) rfl rfl argA ?_
     with_reducible refine (strings_Contains.calls t126 a1_1 t127 _ ?side1 A30.out).mono ?_
     (case side1 => exact Vars.below HV.out (hbA HB.out))
     rintro e w34 ⟨rfl, hb⟩
     refine ⟨_, rfl, ?_⟩
     replace BK117 := Aside0.mk (blk_below (g := gb117) (o := .cells #[.int .u8 a1_0, .string a1_1] 61 (0, 0)) (rbA BK117.out) hb)
     replace HB := Aside0.mk (below_step (hbA HB.out) hb)
     (try clear hb)
     (try clear hb2)
     (try clear hk)
     (try clear hi)
     refine hK.out _ _ ⟨(blk_cell BK117.out 0).trans rfl, (blk_cell BK117.out 1).trans rfl⟩ (fun hHeld => ?_)
     clear hK K
     refine normA_ ?_
     refine pureA_ (i := 10) (N := some 65) #[true, true, true, true, true, true, true, true, true, true, true, false] rfl rfl ?_ (hc := any_of HT_.out (by kernel_rfl))
     refine pureA_ (i := 11) (N := some 4) #[true, true, true, true, true, true, true, true, true, true, true, true] rfl rfl ?_ (hc := any_of HT_.out (by kernel_rfl))
     refine done_ (done_of HT_.out (by kernel_rfl)) ?_
     try go_wp2
     go_ret
     exact ⟨reA, hbA HB.out⟩
   rw [if_neg c28] at H
   have c28b0 : ((a1_1.size : Int) == 1) = false := beq_eq_false_iff_ne.mpr c28
   have c28b1 : ((a1_1.size : Int) != 1) = true := bne_iff_ne.mpr c28
   obtain rfl := Option.some.inj H
   go_enter Tryz.func61, Tryz.ntmps61
   try go_wp2_with (first | ((with_reducible refine gate_dst (N := 3) rfl ?_); refine box_event ?hg (N := 3) ?hd (cs := #[.int .u8 a1_0, .string a1_1]) (t := 61) ?hr ?_; (case hd => rfl); (case hg => rfl); (case hr => first | (go_simp; done) | (go_simp; rfl)); intro gb117 hg w35 hbox hb; have n0_ := Aside0.mk (below_step (hbA HB.out) hb); have n1_ := Aside0.mk (hbox); have n2_ := Aside0.mk ((by rw [hg]; exact (below_size (hbA HB.out)) : w.heap.size ≤ gb117)); have n3_ := Aside0.mk ((by rw [hg]; exact (below_size (hbA HB.out)) : w.heap.size ≤ gb117)); clear HB; have HB := n0_; have BK117 := n1_; have GW117 := n2_; have GE117 := n3_; clear n0_ n1_ n2_ n3_; clear hb hbox hg; obtain ⟨hcz36_0, hcz36_1, hfz36_0, hfz36_1⟩ := blkA2 BK117.out) | ((with_reducible refine gate_callee (f := 36) rfl ?_); refine goesL_ (some 13) rfl rfl Tryz.func36 (by kernel_rfl) rfl #[.int .u8 a1_0] rfl argA ?_; (with_reducible refine (meta_sortOf.calls k a1_0 t118 _ A3.out).mono ?_); rintro e w' ⟨rfl, ⟨nd, rfl⟩⟩; refine ⟨_, rfl, ?_⟩))
   (try (rw [drewN_self w35]; generalize hq_ : World.drewN w35 _ = w35; have n0_ : Aside0 (w35.heap[gb117]? = some (.cells #[.int .u8 a1_0, .string a1_1] 61 (0, 0))) := ⟨by rw [← hq_]; exact (rbA BK117.out)⟩; have n1_ : Aside0 (Below w.heap.size w w35) := ⟨by rw [← hq_]; exact (hbA HB.out)⟩; clear BK117 HB hq_; have BK117 := n0_; have HB := n1_; clear n0_ n1_))
   replace BK117 := Aside0.mk (blk_drew BK117.out)
   replace HB := Aside0.mk (below_drew1 HB.out)
   refine start_ (n := 12) (S := fun w' => w'.cell? ⟨gb117, 0, none⟩ = some (.int .u8 a1_0) ∧ w'.cell? ⟨gb117, 1, none⟩ = some (.string a1_1)) (ds := []) #[false, false, false, false, false, false, false, false, false, false, false, false] (by kernel_rfl) rfl rfl ⟨(blk_cell BK117.out 0).trans rfl, (blk_cell BK117.out 1).trans rfl⟩ (fun hHeld => ?_); refine with_tabW meta_right.tab14 meta_right.bits14 (fun HT_ HW_ => ?_)
   generalize w35.drew = w37 at BK117 HB hHeld ⊢
   refine pureA_ (i := 0) (N := some 55) #[true, false, false, false, false, false, false, false, false, false, false, false] rfl rfl ?_ (hc := any_of HT_.out (by kernel_rfl))
   refine takeA_ (i := 1) (N := some 56) #[true, true, false, false, false, false, false, false, false, false, false, false] rfl rfl hHeld ?_ (hc := take_ofW HT_.out HW_.out (by kernel_rfl)) (hy := by rintro w' ⟨s0, s1⟩; go_simp; with_reducible rfl)
   refine pureA_ (i := 2) (N := some 57) #[true, true, true, false, false, false, false, false, false, false, false, false] rfl rfl ?_ (hc := any_of HT_.out (by kernel_rfl))
   refine pureA_ (i := 3) (N := some 58) #[true, true, true, true, false, false, false, false, false, false, false, false] rfl rfl ?_ (hc := any_of HT_.out (by kernel_rfl))
   refine pureA_ (i := 4) (N := some 59) #[true, true, true, true, true, false, false, false, false, false, false, false] rfl rfl ?_ (hc := any_of HT_.out (by kernel_rfl))
   refine pure_ (i := 5) (N := some 60) (v := undef) (a' := ?_) #[true, true, true, true, true, true, false, false, false, false, false, false] rfl rfl (any_of HT_.out (by kernel_rfl)) (fun _ _ _ h => h) (Or.inr ⟨by rfl, rfl⟩) ?_ ?_
   rotate_left
   · simp only [Act.put, List.setIfInBounds_toArray, List.set_cons_zero, List.set_cons_succ, i64_w, i32_w]
     rfl
   refine pure_ (i := 6) (N := some 61) (v := undef) (a' := ?_) #[true, true, true, true, true, true, true, false, false, false, false, false] rfl rfl (any_of HT_.out (by kernel_rfl)) (fun _ _ _ h => h) (Or.inr ⟨by rfl, rfl⟩) ?_ ?_
   rotate_left
   · simp only [Act.put, List.setIfInBounds_toArray, List.set_cons_zero, List.set_cons_succ, i64_w, i32_w]
     rfl
   refine pure_ (i := 7) (N := some 62) (v := undef) (a' := ?_) #[true, true, true, true, true, true, true, true, false, false, false, false] rfl rfl (any_of HT_.out (by kernel_rfl)) (fun _ _ _ h => h) (Or.inr ⟨by rfl, rfl⟩) ?_ ?_
   rotate_left
   · simp only [Act.put, List.setIfInBounds_toArray, List.set_cons_zero, List.set_cons_succ, i64_w, i32_w]
     rfl
   refine pure_ (i := 8) (N := some 63) (v := undef) (a' := ?_) #[true, true, true, true, true, true, true, true, true, false, false, false] rfl rfl (any_of HT_.out (by kernel_rfl)) (fun _ _ _ h => h) (Or.inr ⟨by rfl, rfl⟩) ?_ ?_
   rotate_left
   · simp only [Act.put, List.setIfInBounds_toArray, List.set_cons_zero, List.set_cons_succ, i64_w, i32_w]
     rfl
   refine pure_ (i := 9) (N := some 64) (v := undef) (a' := ?_) #[true, true, true, true, true, true, true, true, true, true, false, false] rfl rfl (any_of HT_.out (by kernel_rfl)) (fun _ _ _ h => h) (Or.inr ⟨by rfl, rfl⟩) ?_ ?_
   rotate_left
   · simp only [Act.put, List.setIfInBounds_toArray, List.set_cons_zero, List.set_cons_succ, i64_w, i32_w]
     rfl
   refine pureA_ (i := 10) (N := some 65) #[true, true, true, true, true, true, true, true, true, true, true, false] rfl rfl ?_ (hc := any_of HT_.out (by kernel_rfl))
   refine pureA_ (i := 11) (N := some 4) #[true, true, true, true, true, true, true, true, true, true, true, true] rfl rfl ?_ (hc := any_of HT_.out (by kernel_rfl))
   refine done_ (done_of HT_.out (by kernel_rfl)) ?_
   try go_wp2
   go_ret
   exact ⟨reA, hbA HB.out⟩
 rw [if_neg c27] at H
 have c27b0 : (t118 == 5) = false := beq_eq_false_iff_ne.mpr c27
 have c27b1 : (t118 != 5) = true := bne_iff_ne.mpr c27
 obtain rfl := Option.some.inj H
 go_enter Tryz.func61, Tryz.ntmps61
 go_wp2_with (first | ((with_reducible refine gate_dst (N := 3) rfl ?_); refine box_event ?hg (N := 3) ?hd (cs := #[.int .u8 a1_0, .string a1_1]) (t := 61) ?hr ?_; (case hd => rfl); (case hg => rfl); (case hr => first | (go_simp; done) | (go_simp; rfl)); intro gb117 hg w38 hbox hb; have n0_ := Aside0.mk (below_step (hbA HB.out) hb); have n1_ := Aside0.mk (hbox); have n2_ := Aside0.mk ((by rw [hg]; exact (below_size (hbA HB.out)) : w.heap.size ≤ gb117)); have n3_ := Aside0.mk ((by rw [hg]; exact (below_size (hbA HB.out)) : w.heap.size ≤ gb117)); clear HB; have HB := n0_; have BK117 := n1_; have GW117 := n2_; have GE117 := n3_; clear n0_ n1_ n2_ n3_; clear hb hbox hg; obtain ⟨hcz39_0, hcz39_1, hfz39_0, hfz39_1⟩ := blkA2 BK117.out) | ((with_reducible refine gate_callee (f := 36) rfl ?_); refine goesL_ (some 13) rfl rfl Tryz.func36 (by kernel_rfl) rfl #[.int .u8 a1_0] rfl argA ?_; (with_reducible refine (meta_sortOf.calls k a1_0 t118 _ A3.out).mono ?_); rintro e w' ⟨rfl, ⟨nd, rfl⟩⟩; refine ⟨_, rfl, ?_⟩))
 go_ret
 exact ⟨reA, hbA HB.out⟩

end
end Go.Proofs.YtfboejlemnfndaaGreatDoor.XMk
end
section
namespace Go.Proofs.YtfboejlemnfndaaGreatDoor
open Go.Maps (Keyed)
open Go.RowKit
open Classical in
noncomputable def putF (F : Lit → Option Value) (kl : Lit) (v : Option Value) : Lit → Option Value := fun l => if l = kl then v else F l
theorem putF_same (F : Lit → Option Value) (kl : Lit) (v : Option Value) : putF F kl v kl = v := if_pos rfl
theorem putF_other (F : Lit → Option Value) {kl l : Lit} (v : Option Value) (h : l ≠ kl) : putF F kl v l = F l := if_neg h
def tokR (v : Value) : Option (DataW Value × List MemPlace) := some (.held v, [])
def mapF (w : World) (P : Program) (k : TypeId) (b n : Nat) (F : Lit → Option Value) : Prop :=
  ∃ D : DataW Value, w.ownsMap P k tokR b n D ∧ Maps.IsMap D ∧ ∀ kl, WideAt.IsKeyLit kl → (∀ z, D.atKey kl (.held z) = .held ((F kl).getD z)) ∧ Maps.has D kl = (F kl).isSome
section
variable {P : Program} {k : TypeId} {w w' : World} {b n : Nat} {F : Lit → Option Value}
theorem mapF_made (w : World) (P : Program) (k : TypeId) : mapF (w.alloc (.map #[] 0)) P k w.heap.size 0 (fun _ => none) :=
  ⟨.map [], World.ownsMap_made w P k tokR, ⟨[], rfl⟩, fun _ _ => ⟨fun _ => rfl, rfl⟩⟩
theorem mapF.mono (h : mapF w P k b n F) {n' : Nat} (hn : n ≤ n') : mapF w P k b n' F := by
  obtain ⟨D, ho, h1, h2⟩ := h
  exact ⟨D, ho.mono hn, h1, h2⟩
theorem mapF.lt (h : mapF w P k b n F) : b < w.heap.size := by
  obtain ⟨D, ho, h1, h2⟩ := h
  exact ho.lt
theorem mapF.same (h : mapF w P k b n F) (e : w'.heap[b]? = w.heap[b]?) : mapF w' P k b n F := by
  obtain ⟨D, ⟨es, clock, hb, ho⟩, h1, h2⟩ := h
  exact ⟨D, ⟨es, clock, e.trans hb, ho⟩, h1, h2⟩
theorem mapF.kept {row : Option Nat} (h : mapF w P k b n F) (hg : w.grownBy w' row) (hne : some b ≠ row) : mapF w' P k b n F := h.same (hg.block b h.lt hne)
theorem mapF.alloc (h : mapF w P k b n F) (o : Obj) : mapF (w.alloc o) P k b n F := h.kept (World.grownBy_alloc w o none) (by simp)
theorem mapF.below {B : Nat} (h : mapF w P k b n F) (hb : Below B w w') (hlt : b < B) : mapF w' P k b n F := h.same (hb.block b hlt)
theorem mapF.eq (h : mapF w P k b n F) {G : Lit → Option Value} (e : ∀ kl, WideAt.IsKeyLit kl → F kl = G kl) : mapF w P k b n G := by
  obtain ⟨D, ho, h1, h2⟩ := h
  exact ⟨D, ho, h1, fun kl hk => by rw [← e kl hk]; exact h2 kl hk⟩
theorem tokR_inj {v u : Value} {ps : List MemPlace} (h : tokR v = some (.held u, ps)) : v = u := by
  unfold tokR at h
  injection h with h
  injection h with h1 h2
  injection h1
theorem wpList_lookup_F {ops : Array Oper} {rest : List Oper} {o : Oper} {a : Act} {Q : Exit → Act → World → Prop}
    (hg : o.guard = none) (m x : Operand) (t : TypeId) (hop : o.op = Op.lookup t m x false)
    (k e : TypeId) (K : Keyed P k) (ht : P.underlying t = some (.map k e)) {z : Value} (hz : (zeroValue e).run P w = .ok z w) (b n : Nat) (F : Lit → Option Value)
    (hm : a.eval m = .map (some b)) (hown : mapF w P k b n F) (key : Value) (kl : Lit) (hx : a.eval x = key) (hkey : keyOf P k key = some kl) (v : Value) (hv : (F kl).getD z = v)
    (hK : wpList P ops Q rest (a.put o.dst v) w) : wpList P ops Q (o :: rest) a w := by
  refine wpList_plain hg fun K' hK' => ?_
  obtain ⟨D, ho, h1, h2⟩ := hown
  obtain ⟨u, ps, hrun, hu⟩ := ho.lookup K ht hz (zd := .held z) (zp := []) rfl hkey
  rw [(h2 kl (K.key hkey)).1 z, hv] at hu
  obtain rfl := tokR_inj hu
  unfold Oper.wp
  simp [execOp, hop, hm, hx, hrun, Result.andThen]
  exact hK' _ _ hK
theorem wpList_lookup_ok_F {ops : Array Oper} {rest : List Oper} {o : Oper} {a : Act} {Q : Exit → Act → World → Prop}
    (hg : o.guard = none) (m x : Operand) (t : TypeId) (hop : o.op = Op.lookup t m x true)
    (k e : TypeId) (K : Keyed P k) (ht : P.underlying t = some (.map k e)) {z : Value} (hz : (zeroValue e).run P w = .ok z w) (b n : Nat) (F : Lit → Option Value)
    (hm : a.eval m = .map (some b)) (hown : mapF w P k b n F) (key : Value) (kl : Lit) (hx : a.eval x = key) (hkey : keyOf P k key = some kl) (v : Value) (ok : Bool) (hv : (F kl).getD z = v) (hok : (F kl).isSome = ok)
    (hK : wpList P ops Q rest (a.put o.dst (.tuple #[v, .bool ok])) w) : wpList P ops Q (o :: rest) a w := by
  obtain ⟨D, ho, h1, h2⟩ := hown
  refine wpList_lookup_own_ok w hg m x t hop k e K ht tokR hz (.held z) [] rfl b n D hm ho key kl hx hkey (fun u ps hu => ?_)
  rw [(h2 kl (K.key hkey)).1 z, hv] at hu
  obtain rfl := tokR_inj hu
  rw [(h2 kl (K.key hkey)).2, hok]
  exact hK
theorem wpList_mapUpdate_F {ops : Array Oper} {rest : List Oper} {o : Oper} {a : Act} {Q : Exit → Act → World → Prop}
    (hg : o.guard = none) (m x v : Operand) (t : TypeId) (hop : o.op = Op.mapUpdate t m x v)
    (k e : TypeId) (K : Keyed P k) (ht : P.underlying t = some (.map k e)) (b n : Nat) (F : Lit → Option Value)
    (hm : a.eval m = .map (some b)) (hown : mapF w P k b n F) (hn : n < maxLen) (key val : Value) (kl : Lit) (hx : a.eval x = key) (hv : a.eval v = val) (hkey : keyOf P k key = some kl)
    (hK : ∀ w', mapF w' P k b (n + 1) (putF F kl (some val)) → w.grownBy w' (some b) → wpList P ops Q rest (a.put o.dst undef) w') : wpList P ops Q (o :: rest) a w := by
  obtain ⟨D, ho, h1, h2⟩ := hown
  refine wpList_mapUpdate_own w hg m x v t hop k e K ht tokR b n D hm ho hn key val kl hx hv hkey (.held val) [] rfl (fun w' ho' hg' => ?_)
  refine hK w' ⟨_, ho', h1.put _ _, fun l hl => ?_⟩ hg'
  by_cases e1 : l = kl
  · subst e1
    rw [putF_same]
    exact ⟨fun z => Maps.atKey_put_same h1 hl _ _, Maps.has_put_same h1 hl _⟩
  · rw [putF_other _ _ e1]
    refine ⟨fun z => ?_, ?_⟩
    · rw [Maps.atKey_put_other e1]; exact (h2 l hl).1 z
    · rw [Maps.has_put_other e1]; exact (h2 l hl).2
theorem wpList_delete_F {ops : Array Oper} {rest : List Oper} {o : Oper} {a : Act} {Q : Exit → Act → World → Prop}
    (hg : o.guard = none) (m x : Operand) (t k : TypeId) (hop : o.op = Op.call { callee := Callee.builtin Builtin.delete, args := #[m, x], argTypes := #[t, k] })
    (e : TypeId) (K : Keyed P k) (ht : P.underlying t = some (.map k e)) (b n : Nat) (F : Lit → Option Value)
    (hm : a.eval m = .map (some b)) (hown : mapF w P k b n F) (key : Value) (kl : Lit) (hx : a.eval x = key) (hkey : keyOf P k key = some kl)
    (hK : ∀ w', mapF w' P k b n (putF F kl none) → w.mapTurned w' b → wpList P ops Q rest (a.put o.dst (.tuple #[])) w') : wpList P ops Q (o :: rest) a w := by
  obtain ⟨D, ho, h1, h2⟩ := hown
  refine wpList_delete_own w hg m x t k hop e K ht tokR b n D hm ho key kl hx hkey (fun w' ho' hg' => ?_)
  refine hK w' ⟨_, ho', h1.del _, fun l hl => ?_⟩ hg'
  by_cases e1 : l = kl
  · subst e1
    rw [putF_same]
    exact ⟨fun z => Maps.atKey_del_same _, Maps.has_del_same⟩
  · rw [putF_other _ _ e1]
    refine ⟨fun z => ?_, ?_⟩
    · rw [Maps.atKey_del_other e1]; exact (h2 l hl).1 z
    · rw [Maps.has_del_other e1]; exact (h2 l hl).2
end
end Go.Proofs.YtfboejlemnfndaaGreatDoor
end
section
namespace Go.Proofs.YtfboejlemnfndaaGreatDoor.XMk
open Go.RowKit Go.Proofs.YtfboejlemnfndaaGreatDoorW.PrintWords Go.Proofs.YtfboejlemnfndaaGreatDoorW.PrintLast Go.Proofs.YtfboejlemnfndaaGreatDoorW.PrintMore
attribute [local go_sem] extract_sub max2_int min2_int max_two min_two max_three min_three max_four min_four   -- for this text's walks alone
set_option linter.unusedVariables false
set_option linter.unusedSimpArgs false

noncomputable section
def meta_shape.go (k : Nat) (op : Int) : List S61 → List Int → Option Int
 | [], _ => some 0
 | x :: l, seen => (meta_owns.f op x.f0).bind fun b => if b = true then (if seen.contains x.f0 = true then some 4 else (meta_right.f k op x.f0 x.f1).bind fun q => if q = true then meta_shape.go k op l (x.f0 :: seen) else some 6) else some 3
def meta_shape.f (k : Nat) (a0_0 : Int) (a0_1 : ByteArray) (a0_2 : Int) (l0_3 : List S61) : Option Int :=
 (meta_there.f a0_0).bind fun t => if t = true then (meta_key.f k a0_0 a0_1 a0_2 l0_3).bind fun y => if y = true then (if a0_2 < 0 ∨ a0_2 > 2147483647 ∨ (a0_0 ≠ 2 ∧ a0_2 ≠ 0) then some 6 else meta_shape.go k a0_0 l0_3 []) else some 6 else some 70
theorem meta_shape.go_mono (k : Nat) (op : Int) : ∀ l seen, LeO (meta_shape.go k op l seen) (meta_shape.go (k + 1) op l seen)
 | [], _ => LeO.refl _
 | x :: l, seen => by
  unfold meta_shape.go
  refine LeO.bind (LeO.refl _) (fun _ => LeO.ite (LeO.ite (LeO.refl _) (LeO.bind (meta_right.mono _ _ _ _) (fun _ => LeO.ite (meta_shape.go_mono k op l _) (LeO.refl _)))) (LeO.refl _))
theorem meta_shape.mono : ∀ a0 a1 a2 a3 k, LeO (meta_shape.f k a0 a1 a2 a3) (meta_shape.f (k + 1) a0 a1 a2 a3) := by
 intro a0 a1 a2 a3 k
 unfold meta_shape.f
 exact LeO.bind (LeO.refl _) (fun _ => LeO.ite (LeO.bind (meta_key.mono _ _ _ _ _) (fun _ => LeO.ite (LeO.ite (LeO.refl _) (meta_shape.go_mono k _ _ _)) (LeO.refl _))) (LeO.refl _))
noncomputable def meta_shape.seenF : List Int → Lit → Option Value
 | [] => fun _ => none
 | x :: s => putF (meta_shape.seenF s) (.int .u8 x) (some (.bool true))
theorem meta_shape.seen_at (x : Int) : ∀ s : List Int, (meta_shape.seenF s (.int .u8 x)).getD (.bool false) = .bool (s.contains x)
 | [] => rfl
 | y :: s => by
  unfold meta_shape.seenF
  by_cases h : x = y
  · subst h
    rw [putF_same]
    simp
  rw [putF_other _ _ (by intro e; injection e with _ e; exact h e), meta_shape.seen_at x s]
  have : (x == y) = false := by simpa using h
  rw [List.contains_cons, this, Bool.false_or]
theorem meta_shape.letter {op x : Int} (h : meta_owns.f op x = some true) : (Lit.int .u8 x).wf = true := by
 unfold meta_owns.f at h
 split at h
 · injection h with h
   obtain ⟨c, _, hc⟩ := List.any_eq_true.1 h
   have e : (c.toNat : Int) = x := by simpa using hc
   have := c.toNat_lt
   rw [← e]
   simp [Lit.wf, IntKind.min, IntKind.max, IntKind.signed, IntKind.bits]
   omega
 cases h
theorem meta_shape.law : Maps.Keyed Tryz.prog 5 := Maps.int_keyed Tryz.underlying5
theorem meta_shape.zeroE (w : World) : (zeroValue 4).run Tryz.prog w = .ok (.bool false) w := by kernel_rfl
def meta_shape.Rel (k : Nat) (op : Int) (key : ByteArray) (size : Int) (A : Option Addr) (c : Nat) (l : List S61) (r : Int) (w : World) (Bm j : Nat) (seen : List Int) (wr : World) : Prop :=
 mapF wr Tryz.prog 5 Bm j (meta_shape.seenF seen) ∧ Below w.heap.size w wr ∧ wr.heap[w.heap.size]? = some (.cells #[.int .i64 op, .string key, .int .i64 size, .slice A l.length c] 31) ∧ meta_shape.go k op (l.drop j) seen = some r ∧ w.heap.size < wr.heap.size
set_option maxHeartbeats 8000000 in
set_option maxRecDepth 100000 in
theorem meta_shape.calls (k : Nat) (a0_0 : Int) (a0_1 : ByteArray) (a0_2 : Int) (A0_3 : Option Addr) (c0_3 : Nat) (l0_3 : List S61) (r : Int) (w : World) (hr0_3 : Kd.C k61 w A0_3 l0_3.length l0_3) (hc0_3 : l0_3.length ≤ c0_3) (hv : Vars w) (h : meta_shape.f k a0_0 a0_1 a0_2 l0_3 = some r) :
 Calls Tryz.prog 28 #[.agg #[.int .i64 a0_0, .string a0_1, .int .i64 a0_2, .slice A0_3 l0_3.length c0_3]] w fun e w' => e = .returned (.int .i64 r) ∧ Below w.heap.size w w' := by
 have hlen := hr0_3.2.1
 have HR := Aside0.mk hr0_3
 have HV := Aside0.mk hv
 have hmm := @run_makeMap Tryz.prog
 clear hr0_3 hv
 unfold meta_shape.f at h
 obtain ⟨t, ht, h⟩ := Option.bind_eq_some_iff.1 h
 have HT := Lib.hid ht
 have HH := Lib.hid h
 clear ht h
 go_enter Tryz.func28, Tryz.ntmps28
 go_wp2_with fail
 refine (meta_there.calls a0_0 t _ HT.out).mono ?_
 rintro e w1 ⟨rfl, hd1⟩
 have hb0 : Below w.heap.size w (w.alloc (.cells #[.int .i64 a0_0, .string a0_1, .int .i64 a0_2, .slice A0_3 l0_3.length c0_3] 31)) := (Below.refl _ w).alloc (Nat.le_refl _) _
 have hb1 : Below w.heap.size w w1 := hb0.trans (hd1.below.mono (by simp))
 have hx1 : w1.heap[w.heap.size]? = some (.cells #[.int .i64 a0_0, .string a0_1, .int .i64 a0_2, .slice A0_3 l0_3.length c0_3] 31) := (hd1.below.block w.heap.size (by simp)).trans (Go.heap_alloc_new w _)
 have hs1 : w.heap.size < w1.heap.size := by have := hd1.below.size; simp at this; omega
 have q0 : w1.cell? ⟨w.heap.size, 0, none⟩ = some (.int .i64 a0_0) := by rw [Lib.cell_of_heap hx1]; rfl
 have q1 : w1.cell? ⟨w.heap.size, 1, none⟩ = some (.string a0_1) := by rw [Lib.cell_of_heap hx1]; rfl
 have q2 : w1.cell? ⟨w.heap.size, 2, none⟩ = some (.int .i64 a0_2) := by rw [Lib.cell_of_heap hx1]; rfl
 have q3 : w1.cell? ⟨w.heap.size, 3, none⟩ = some (.slice A0_3 l0_3.length c0_3) := by rw [Lib.cell_of_heap hx1]; rfl
 have HB1 := Aside0.mk hb1
 have HX1 := Lib.hid hx1
 clear hb0 hb1 hd1 hx1
 cases t with
 | false =>
  have e := HH.out
  rw [if_neg Bool.false_ne_true] at e
  obtain rfl := Option.some.inj e
  clear e
  go_wp2
  go_ret
  exact ⟨rfl, HB1.out⟩
 | true =>
  have h := HH.out
  rw [if_pos rfl] at h
  obtain ⟨y, hy, h⟩ := Option.bind_eq_some_iff.1 h
  have HY := Lib.hid hy
  have H2 := Lib.hid h
  clear hy h HH
  go_wp2_with fail
  refine (meta_key.calls k a0_0 a0_1 a0_2 A0_3 c0_3 l0_3 y _ (Kd.C_below HR.out HB1.out) hc0_3 HY.out).mono ?_
  rintro e w2 ⟨rfl, hd2⟩
  clear q0 q1 q2 q3
  have hb2 : Below w.heap.size w w2 := HB1.out.trans (hd2.mono HB1.out.size)
  have hx2 : w2.heap[w.heap.size]? = some (.cells #[.int .i64 a0_0, .string a0_1, .int .i64 a0_2, .slice A0_3 l0_3.length c0_3] 31) := (hd2.block _ hs1).trans HX1.out
  have hs2 : w.heap.size < w2.heap.size := by have := hd2.size; omega
  have q0 : w2.cell? ⟨w.heap.size, 0, none⟩ = some (.int .i64 a0_0) := by rw [Lib.cell_of_heap hx2]; rfl
  have q1 : w2.cell? ⟨w.heap.size, 1, none⟩ = some (.string a0_1) := by rw [Lib.cell_of_heap hx2]; rfl
  have q2 : w2.cell? ⟨w.heap.size, 2, none⟩ = some (.int .i64 a0_2) := by rw [Lib.cell_of_heap hx2]; rfl
  have q3 : w2.cell? ⟨w.heap.size, 3, none⟩ = some (.slice A0_3 l0_3.length c0_3) := by rw [Lib.cell_of_heap hx2]; rfl
  have HB2 := Aside0.mk hb2
  have HX2 := Lib.hid hx2
  clear hb2 hd2 hx2 hs1 HX1 HB1
  cases y with
  | false =>
   have e := H2.out
   rw [if_neg Bool.false_ne_true] at e
   obtain rfl := Option.some.inj e
   clear e
   go_wp2
   go_ret
   exact ⟨rfl, HB2.out⟩
  | true =>
   have h := H2.out
   rw [if_pos rfl] at h
   have HG := Lib.hid h
   clear h H2
   by_cases c1 : a0_2 < 0
   · have e := HG.out
     rw [if_pos (.inl c1)] at e
     obtain rfl := Option.some.inj e
     clear e
     go_wp2
     go_ret
     exact ⟨rfl, HB2.out⟩
   by_cases c2 : a0_2 > 2147483647
   · have e := HG.out
     rw [if_pos (.inr (.inl c2))] at e
     obtain rfl := Option.some.inj e
     clear e
     have c1' : (0 : Int) ≤ a0_2 := by omega
     go_wp2
     go_ret
     exact ⟨rfl, HB2.out⟩
   have c1' : (0 : Int) ≤ a0_2 := by omega
   have c2' : a0_2 ≤ 2147483647 := by omega
   by_cases c3 : a0_0 ≠ 2 ∧ a0_2 ≠ 0
   · have e := HG.out
     rw [if_pos (.inr (.inr c3))] at e
     obtain rfl := Option.some.inj e
     clear e
     have c4 : (a0_0 != 2) = true := bne_iff_ne.2 c3.1
     have c5 : (a0_2 != 0) = true := bne_iff_ne.2 c3.2
     have c6 : (a0_0 == 2) = false := beq_eq_false_iff_ne.2 c3.1
     have c7 : (a0_2 == 0) = false := beq_eq_false_iff_ne.2 c3.2
     clear c3
     go_wp2
     go_ret
     exact ⟨rfl, HB2.out⟩
   have e := HG.out
   rw [if_neg (by rintro (h | h | h); exact c1 h; exact c2 h; exact c3 h)] at e
   have HGO := Lib.hid e
   clear e HG
   have hcc : ((a0_0 != 2) = false ∧ (a0_0 == 2) = true) ∨ ((a0_0 != 2) = true ∧ (a0_0 == 2) = false ∧ (a0_2 != 0) = false ∧ (a0_2 == 0) = true) := by
    by_cases d1 : a0_0 = 2
    · exact .inl ⟨bne_eq_false_iff_eq.2 d1, beq_iff_eq.2 d1⟩
    have d2 : a0_2 = 0 := by
     by_cases d2 : a0_2 = 0
     · exact d2
     exact absurd ⟨d1, d2⟩ c3
    exact .inr ⟨bne_iff_ne.2 d1, beq_eq_false_iff_ne.2 d1, bne_eq_false_iff_eq.2 d2, beq_iff_eq.2 d2⟩
   have hstart : meta_shape.Rel k a0_0 a0_1 a0_2 A0_3 c0_3 l0_3 r w w2.heap.size 0 [] (w2.alloc (.map #[] 0)) :=
    ⟨mapF_made w2 _ _, HB2.out.alloc HB2.out.size _, (((Below.refl _ w2).alloc (Nat.le_refl _) _).block _ hs2).trans HX2.out, HGO.out, by simp; omega⟩
   have HST := Aside0.mk hstart
   clear c1 c2 c3 hstart HGO
   rcases hcc with ⟨c4, c6⟩ | ⟨c4, c6, c5, c7⟩
   all_goals
    go_wp2
    clear q0 q1 q2 q3 c4 c6
    go_loopg [33] l0_3.length (fun gg v33 wr => ∃ (j : Nat) (seen : List Int), j ≤ l0_3.length ∧ l0_3.length - j ≤ gg ∧ v33 = .int .i64 j ∧ Aside0 (meta_shape.Rel k a0_0 a0_1 a0_2 A0_3 c0_3 l0_3 r w w2.heap.size j seen wr))
    case atStart => exact ⟨0, [], Nat.zero_le _, by omega, rfl, HST⟩
    case round =>
     obtain ⟨j, seen, hj, hg, rfl, HRel⟩ := hrel
     clear HST
     by_cases hlt : j < l0_3.length
     · have hji : (j : Int) < (l0_3.length : Int) := by omega
       obtain ⟨hmap, hbw, hbx, hgo, hsz⟩ := HRel.out
       obtain ⟨ad, e, hx0, hx1⟩ := at_T61 HR.out (j : Int) (by omega) hji
       subst e
       have hxj : rd_T61 l0_3 (j : Int) = l0_3[j] := by
        unfold rd_T61
        rw [Int.toNat_natCast, List.getD_eq_getElem?_getD, List.getElem?_eq_getElem hlt]; rfl
       rw [hxj] at hx0 hx1
       clear hxj
       rw [Int.toNat_natCast] at hx0 hx1
       rw [List.drop_eq_getElem_cons hlt] at hgo
       generalize l0_3[j] = x at hx0 hx1 hgo
       replace hx0 := (hbw.cell (World.block_lt_of_cell? w _ hx0)).trans hx0
       replace hx1 := (hbw.cell (World.block_lt_of_cell? w _ hx1)).trans hx1
       have p0 : wr.cell? ⟨w.heap.size, 0, none⟩ = some (.int .i64 a0_0) := by rw [Lib.cell_of_heap hbx]; rfl
       unfold meta_shape.go at hgo
       obtain ⟨b, hb, hgo⟩ := Option.bind_eq_some_iff.1 hgo
       have HOB := Lib.hid hb
       have HG := Lib.hid hgo
       have HMAP := Aside0.mk hmap
       have HBW := Aside0.mk hbw
       have HBX := Lib.hid hbx
       clear hb hgo hmap hbw hbx HRel
       go_wp2_with fail
       refine (meta_owns.calls a0_0 x.f0 b _ HOB.out).mono ?_
       rintro e w3 ⟨rfl, hb3⟩
       have hf3 : w3.heap[wr.heap.size]? = some (.cells #[.int .u8 x.f0, .string x.f1] 61) := (hb3.block wr.heap.size (by simp)).trans (Go.heap_alloc_new wr _)
       have hb03 : Below wr.heap.size wr w3 := ((Below.refl _ wr).alloc (Nat.le_refl _) _).trans (hb3.mono (by simp))
       have hs3 : wr.heap.size < w3.heap.size := by have := hb3.size; simp at this; omega
       have r0 : w3.cell? ⟨wr.heap.size, 0, none⟩ = some (.int .u8 x.f0) := by rw [Lib.cell_of_heap hf3]; rfl
       have r1 : w3.cell? ⟨wr.heap.size, 1, none⟩ = some (.string x.f1) := by rw [Lib.cell_of_heap hf3]; rfl
       have hx3 : w3.heap[w.heap.size]? = _ := (hb03.block _ hsz).trans HBX.out
       have p3 : w3.cell? ⟨w.heap.size, 0, none⟩ = some (.int .i64 a0_0) := by rw [Lib.cell_of_heap hx3]; rfl
       have HM3 := Aside0.mk (HMAP.out.below hb03 HMAP.out.lt)
       have HB3 := Aside0.mk (HBW.out.trans (hb03.mono HBW.out.size))
       have HF3 := Lib.hid hf3
       have HX3 := Lib.hid hx3
       clear hb3 hb03 hf3 hx3 p0 hx0 hx1
       cases b with
       | false =>
        have e := HG.out
        rw [if_neg Bool.false_ne_true] at e
        obtain rfl := Option.some.inj e
        clear e
        go_wp2
        go_ret
        exact ⟨rfl, HB3.out⟩
       | true =>
        have e := HG.out
        rw [if_pos rfl] at e
        have HG2 := Lib.hid e
        have hwf := meta_shape.letter HOB.out
        have hkey := Maps.keyOf_int_mk Tryz.underlying5 hwf
        have HK := Lib.hid hkey
        have hsn := meta_shape.seen_at x.f0 seen
        clear e HG hwf hkey
        cases hc : seen.contains x.f0 with
        | true =>
         rw [hc] at hsn
         have HSN := Lib.hid hsn
         have e := HG2.out
         rw [if_pos hc] at e
         obtain rfl := Option.some.inj e
         clear e hsn hc
         go_wp2_with (at_lookup; refine wpList_lookup_F rfl _ _ 104 rfl 5 4 meta_shape.law Tryz.underlying104 (meta_shape.zeroE _) w2.heap.size j _ rfl HM3.out _ _ rfl HK.out _ HSN.out ?_)
         go_ret
         exact ⟨rfl, HB3.out⟩
        | false =>
         rw [hc] at hsn
         have HSN := Lib.hid hsn
         have e := HG2.out
         rw [if_neg (by rw [hc]; exact Bool.false_ne_true)] at e
         obtain ⟨q, hq, hgo⟩ := Option.bind_eq_some_iff.1 e
         have HQ := Lib.hid hq
         have HG3 := Lib.hid hgo
         clear e hsn hc hq hgo HG2
         go_wp2_with (at_lookup; refine wpList_lookup_F rfl _ _ 104 rfl 5 4 meta_shape.law Tryz.underlying104 (meta_shape.zeroE _) w2.heap.size j _ rfl HM3.out _ _ rfl HK.out _ HSN.out ?_)
         refine (meta_right.calls k a0_0 x.f0 x.f1 q _ (HV.out.below HB3.out) HQ.out).mono ?_
         rintro e w4 ⟨rfl, hb4⟩
         have hf4 : w4.heap[wr.heap.size]? = _ := (hb4.block _ hs3).trans HF3.out
         have r0 : w4.cell? ⟨wr.heap.size, 0, none⟩ = some (.int .u8 x.f0) := by rw [Lib.cell_of_heap hf4]; rfl
         have hx4 : w4.heap[w.heap.size]? = _ := (hb4.block _ (by omega)).trans HX3.out
         have HM4 := Aside0.mk (HM3.out.below hb4 HM3.out.lt)
         have HB4 := Aside0.mk (HB3.out.trans (hb4.mono HB3.out.size))
         have HX4 := Lib.hid hx4
         have hs4 : w.heap.size < w4.heap.size := by have := hb4.size; omega
         clear hb4 hf4 hx4 r1 p3
         cases q with
         | false =>
          have e := HG3.out
          rw [if_neg Bool.false_ne_true] at e
          obtain rfl := Option.some.inj e
          clear e
          go_wp2
          go_ret
          exact ⟨rfl, HB4.out⟩
         | true =>
          have e := HG3.out
          rw [if_pos rfl] at e
          have HG4 := Lib.hid e
          clear e HG3
          go_wp2_with (at_mapUpdate; refine wpList_mapUpdate_F rfl _ _ _ 104 rfl 5 4 meta_shape.law Tryz.underlying104 w2.heap.size j _ rfl HM4.out (by unfold maxLen; omega) _ _ _ rfl rfl HK.out ?_; intro w5 hm5 hg5; have HM5 := Aside0.mk hm5; have HG5 := Aside0.mk hg5; clear hm5 hg5)
          go_roundg (l0_3.length - (j + 1))
          case measure => omega
          case rel => exact ⟨j + 1, x.f0 :: seen, by omega, by omega, by go_num, ⟨HM5.out, pw_below_grown HB4.out _ HB4.out.size HG5.out (fun k e => by injection e with e; omega), (HG5.out.block _ hs4 (fun e => by injection e with e; omega)).trans HX4.out, HG4.out, by have := HG5.out.size; omega⟩⟩
     have hji : ¬ (j : Int) < (l0_3.length : Int) := by omega
     obtain ⟨-, hbw, -, hgo, -⟩ := HRel.out
     rw [List.drop_of_length_le (by omega)] at hgo
     obtain rfl := Option.some.inj hgo
     have HBW := Aside0.mk hbw
     clear hgo hbw HRel
     go_wp2
     go_ret
     exact ⟨rfl, HBW.out⟩

end
end Go.Proofs.YtfboejlemnfndaaGreatDoor.XMk
end
section
namespace Go.Proofs.YtfboejlemnfndaaGreatDoor.XMk
open Go.RowKit Go.Proofs.YtfboejlemnfndaaGreatDoorW.PrintWords Go.Proofs.YtfboejlemnfndaaGreatDoorW.PrintLast Go.Proofs.YtfboejlemnfndaaGreatDoorW.PrintMore
attribute [local go_sem] extract_sub max2_int min2_int max_two min_two max_three min_three max_four min_four   -- for this text's walks alone
set_option linter.unusedVariables false
set_option linter.unusedSimpArgs false

noncomputable section
noncomputable def strconv_FormatUint_80.f (a0 a1 : Int) : Option ByteArray := if 0 ≤ a0 ∧ a0 < 18446744073709551616 ∧ a1 = 10 then some ⟨(Lib.decDigits a0.toNat).toArray⟩ else none
theorem strconv_FormatUint_80.zeros (w : World) (T : TypeId) (nd : Nat) (hs : nd ≤ 24) : Sort.Holds (fun (b : UInt8) => Value.int .u8 (b.toNat : Int)) (w.alloc (.cells Lib.zeros24 T)) w.heap.size 0 (Array.replicate nd (0 : UInt8)) := fun j hj => by
 have hj' : j < nd := by simpa using hj
 refine ⟨?_, World.frozen?_alloc_new _ _ _ _⟩
 rw [World.cell?_alloc_new, Lib.zeros24_at _ (by omega), getElem!_pos _ j hj]
 simp
set_option maxRecDepth 1000000 in
theorem strconv_FormatUint_80.z24 : ∀ w, (zeroValue 137).run Tryz.prog w = .ok (Value.agg Lib.zeros24) w := fun _ => rfl
set_option maxRecDepth 1000000 in
theorem strconv_FormatUint_80.s24 : ∀ w, (Go.sizeOf 137).run Tryz.prog w = .ok 24 w := fun _ => rfl
set_option maxRecDepth 1000000 in
theorem strconv_FormatUint_80.a24 : ∀ w, (isAgg 137).run Tryz.prog w = .ok true w := fun _ => rfl
theorem strconv_FormatUint_80.len24 : Tryz.prog.arrayLen 137 = 24 := by kernel_rfl
set_option maxHeartbeats 4000000 in
set_option maxRecDepth 100000 in
theorem strconv_FormatUint_80.calls (a0 a1 : Int) (r : ByteArray) (w : World) (hv : Vars w) (h : strconv_FormatUint_80.f a0 a1 = some r) :
 Calls Tryz.prog 80 #[.int .u64 a0, .int .i64 a1] w fun e w' => e = .returned (.string r) ∧ Below w.heap.size w w' := by
 unfold strconv_FormatUint_80.f at h
 split at h
 · rename_i hh
   injection h with h
   subst h
   obtain ⟨h0, h1, rfl⟩ := hh
   obtain ⟨u, rfl⟩ : ∃ u : Nat, a0 = u := ⟨a0.toNat, by omega⟩
   rw [Int.toNat_natCast]
   have hu64 : u < 18446744073709551616 := by omega
   by_cases hs : u < 100
   · have hs' : (u : Int) < 100 := by omega
     go_enter Tryz.func80, Tryz.ntmps80
     go_wp2_with (go_at_call 97; refine (Tryz.internal_strconv_small u hs _).mono ?_; rintro e w' ⟨rfl, rfl⟩)
     go_ret
     exact ⟨rfl, Below.refl _ _⟩
   have hs' : ¬ (u : Int) < 100 := by omega
   have htab := hv.pow10
   have hnd20 : Lib.nDigits u ≤ 20 := by have := Lib.numDigits_eq u (by omega) hu64; split at this <;> omega
   have hnd24 : (Lib.nDigits u : Int) ≤ 24 := by omega
   have hsl1 : ∀ W, (Instr.sliceAt 137 (.pointer (some ⟨w.heap.size, 0, none⟩)) none (some (.int .i64 (Lib.nDigits u : Int))) none).run Tryz.prog W = .ok (.slice (some ⟨w.heap.size, 0, none⟩) (Lib.nDigits u) 24) W := fun W => by
    rw [run_sliceAt_array_h W 137 ⟨w.heap.size, 0, none⟩ (by simp [Program.arrayLen, Program.elem, Tryz.underlying137]) .i64 (Lib.nDigits u : Int) (by omega) (by rw [strconv_FormatUint_80.len24]; omega)]
    rw [strconv_FormatUint_80.len24]
    go_simp
   have hH0 := strconv_FormatUint_80.zeros w 137 (Lib.nDigits u) (by omega)
   have hfmt := Tryz.internal_strconv_formatBase10 w.heap.size 0 24 u (Array.replicate (Lib.nDigits u) 0) (w.alloc (.cells Lib.zeros24 137)) hH0 (by rw [Array.size_replicate]; exact Lib.lt_pow_nDigits u) hu64 (by rw [Array.size_replicate]; omega)
   rw [Array.size_replicate] at hfmt
   have HH0 := Lib.hid hH0
   have HF := Lib.hid hfmt
   have hz24 := strconv_FormatUint_80.z24
   have hs24 := strconv_FormatUint_80.s24
   have ha24 := strconv_FormatUint_80.a24
   clear hH0 hfmt
   go_enter Tryz.func80, Tryz.ntmps80
   go_wp2_with (go_at_call 98; refine (Tryz.internal_strconv_numDigits u (by omega) hu64 _ (Lib.tabIs_alloc htab _)).mono ?_; rintro e w' ⟨rfl, rfl⟩)
   go_at_call 99
   refine HF.out.mono ?_
   rintro e w' ⟨rfl, k, v', dk, rfl, hF⟩
   have hcv : (convert 70 9 (.slice (some ⟨w.heap.size, 0, none⟩) (Lib.nDigits u) 24)).run Tryz.prog ((Sort.putRow (fun (b : UInt8) => Value.int .u8 (b.toNat : Int)) (w.alloc (.cells Lib.zeros24 137)) w.heap.size 0 dk).drewN k) = .ok (.string ⟨(Lib.decDigits u).toArray⟩) ((Sort.putRow (fun (b : UInt8) => Value.int .u8 (b.toNat : Int)) (w.alloc (.cells Lib.zeros24 137)) w.heap.size 0 dk).drewN k) := by
    have h := run_convert_bytes_back (P := Tryz.prog) ((Sort.putRow (fun (b : UInt8) => Value.int .u8 (b.toNat : Int)) (w.alloc (.cells Lib.zeros24 137)) w.heap.size 0 dk).drewN k) 70 9 5 ⟨w.heap.size, 0, none⟩ 24 (Lib.decDigits u) Tryz.underlying70 Tryz.underlying5 Tryz.underlying9 (fun j hj => by
     rw [Lib.row_is_numeral hF j hj, Lib.add_plain, World.cell?_drewN]
     exact Sort.cell?_putRow (fun (b : UInt8) => Value.int .u8 (b.toNat : Int)) _ w.heap.size 0 _ dk HH0.out (by rw [hF.size, Array.size_replicate]) j (by rw [hF.size]; rw [Lib.decDigits_length] at hj; exact hj))
    rw [Lib.decDigits_length] at h
    exact h
   go_wp2
   go_ret
   obtain ⟨os, eo⟩ : ∃ os, (Sort.putRow (fun (b : UInt8) => Value.int .u8 (b.toNat : Int)) (w.alloc (.cells Lib.zeros24 137)) w.heap.size 0 dk).drewN k = Sort.grow (w.drewN k) os := by
    rw [Sort.alloc_eq_grow]
    obtain ⟨os', _, e⟩ := Sort.putRow_grow_new (fun (b : UInt8) => Value.int .u8 (b.toNat : Int)) w #[.cells Lib.zeros24 137] w.heap.size 0 dk (Nat.le_refl _)
    exact ⟨os', by rw [e]; rfl⟩
   refine ⟨rfl, ?_⟩
   rw [eo]
   exact Lib.below_grow _ _ (Nat.le_refl _) _ _
 cases h

end
end Go.Proofs.YtfboejlemnfndaaGreatDoor.XMk
end
section
namespace Go.Proofs.YtfboejlemnfndaaGreatDoor.XMk
open Go.RowKit Go.Proofs.YtfboejlemnfndaaGreatDoorW.PrintWords Go.Proofs.YtfboejlemnfndaaGreatDoorW.PrintLast Go.Proofs.YtfboejlemnfndaaGreatDoorW.PrintMore
attribute [local go_sem] extract_sub max2_int min2_int max_two min_two max_three min_three max_four min_four   -- for this text's walks alone
set_option linter.unusedVariables false
set_option linter.unusedSimpArgs false

noncomputable section
def strconv_FormatUint_62.f (a0 : Int) (a1 : Int) : Option (ByteArray) := (strconv_FormatUint_80.f a0 a1).bind fun t128 => (some t128)
set_option maxHeartbeats 8000000 in
set_option maxRecDepth 100000 in
theorem strconv_FormatUint_62.calls (a0 : Int) (a1 : Int) (r : ByteArray) (w : World) (hv : Vars w) (h : strconv_FormatUint_62.f a0 a1 = some r) :
 Calls Tryz.prog 62 #[.int .u64 a0, .int .i64 a1] w fun e w' => e = .returned (.string r) ∧ Below w.heap.size w w' := by
 have HV := Aside0.mk hv
 clear hv
 have HB := Aside0.mk (Below.refl w.heap.size w)
 have H : ((strconv_FormatUint_80.f a0 a1).bind fun t128 => (some t128)) = some r := h
 clear h
 replace H := Option.bind_eq_some_iff.mp H
 obtain ⟨t128, A30, H⟩ := H
 replace H : (some t128) = some r := H
 have A3 := Aside0.mk A30
 clear A30
 obtain rfl := Option.some.inj H
 go_enter Tryz.func62, Tryz.ntmps62
 go_wp2_with (first | ((with_reducible refine gate_callee (f := 80) rfl ?_); refine goesL_ (some 7) rfl rfl Tryz.func80 (by kernel_rfl) rfl #[.int .u64 a0, .int .i64 a1] rfl argA ?_; (with_reducible refine (strconv_FormatUint_80.calls a0 a1 t128 _ ?side1 A3.out).mono ?_); (case side1 => exact Vars.below HV.out (hbA HB.out)); rintro e w4 ⟨rfl, hb⟩; refine ⟨_, rfl, ?_⟩; replace HB := Aside0.mk (below_step (hbA HB.out) hb); (try clear hb); (try clear hb2); (try clear hk); (try clear hi)))
 go_ret
 exact ⟨reA, hbA HB.out⟩

def digits_Text.f (a0 : Int) : Option (ByteArray) := (strconv_FormatUint_62.f a0 10).bind fun t129 => (some t129)
set_option maxHeartbeats 8000000 in
set_option maxRecDepth 100000 in
theorem digits_Text.calls (a0 : Int) (r : ByteArray) (w : World) (hv : Vars w) (h : digits_Text.f a0 = some r) :
 Calls Tryz.prog 30 #[.int .u64 a0] w fun e w' => e = .returned (.string r) ∧ Below w.heap.size w w' := by
 have HV := Aside0.mk hv
 clear hv
 have HB := Aside0.mk (Below.refl w.heap.size w)
 have H : ((strconv_FormatUint_62.f a0 10).bind fun t129 => (some t129)) = some r := h
 clear h
 replace H := Option.bind_eq_some_iff.mp H
 obtain ⟨t129, A20, H⟩ := H
 replace H : (some t129) = some r := H
 have A2 := Aside0.mk A20
 clear A20
 obtain rfl := Option.some.inj H
 go_enter Tryz.func30, Tryz.ntmps30
 go_wp2_with (first | ((with_reducible refine gate_callee (f := 62) rfl ?_); refine goesL_ (some 4) rfl rfl Tryz.func62 (by kernel_rfl) rfl #[.int .u64 a0, .int .i64 10] rfl argA ?_; (with_reducible refine (strconv_FormatUint_62.calls a0 10 t129 _ ?side1 A2.out).mono ?_); (case side1 => exact Vars.below HV.out (hbA HB.out)); rintro e w3 ⟨rfl, hb⟩; refine ⟨_, rfl, ?_⟩; replace HB := Aside0.mk (below_step (hbA HB.out) hb); (try clear hb); (try clear hb2); (try clear hk); (try clear hi)))
 go_ret
 exact ⟨reA, hbA HB.out⟩

end
end Go.Proofs.YtfboejlemnfndaaGreatDoor.XMk
end
section
namespace Go.Proofs.YtfboejlemnfndaaGreatDoor.XMk
open Go.RowKit Go.Proofs.YtfboejlemnfndaaGreatDoorW.PrintWords Go.Proofs.YtfboejlemnfndaaGreatDoorW.PrintLast Go.Proofs.YtfboejlemnfndaaGreatDoorW.PrintMore
attribute [local go_sem] extract_sub max2_int min2_int max_two min_two max_three min_three max_four min_four   -- for this text's walks alone
set_option linter.unusedVariables false
set_option linter.unusedSimpArgs false

noncomputable section
def strings_Join.f (a0 : List ByteArray) (a1 : ByteArray) : Option ByteArray :=
 if a0.length ≤ 140737488355328 ∧ (Lib.join (a0.map (·.data.toList)) a1.data.toList).length ≤ 140737488355328 then some ⟨(Lib.join (a0.map (·.data.toList)) a1.data.toList).toArray⟩ else none
theorem strings_Join.spot (w : World) (ad : Addr) (v : Value) (h : w.cell? ad = some v) : ad.spot = none ∧ ad.block < w.heap.size := by
 refine ⟨?_, cell_lt h⟩
 unfold World.cell? at h
 split at h
 · split at h
   · cases h
   rename_i hs; simpa using hs
 cases h
theorem strings_Join.calls (A0 : Option Addr) (c0 : Nat) (l0 : List ByteArray) (a1 : ByteArray) (r : ByteArray) (w : World) (hr0 : Kd.C Kd.string w A0 l0.length l0) (hc0 : l0.length ≤ c0) (h : strings_Join.f l0 a1 = some r) :
 Calls Tryz.prog 31 #[.slice A0 l0.length c0, .string a1] w fun e w' => e = .returned (.string r) ∧ Below w.heap.size w w' := by
 unfold strings_Join.f at h
 split at h
 · rename_i hh
   injection h with h
   subst h
   cases l0 with
   | nil => exact (Tryz.strings_Join_none A0 c0 a1 w).mono fun e w' ⟨he, hw⟩ => ⟨he, hw ▸ Below.refl _ _⟩
   | cons x rest =>
    obtain ⟨_, _, hA⟩ := hr0
    obtain ⟨ad, rfl, hcell⟩ := hA (by simp)
    have one : ∀ (j : Nat) y, (x :: rest)[j]? = some y → w.cell? (ad.add j) = some (.string y) := by
     intro j y hy
     obtain ⟨c, _, hK, hu⟩ := hcell j y hy
     have hK' : c = [.string y] := hK
     subst hK'
     have e := hu 0 (.string y) rfl
     have es : Kd.string.sz = 1 := rfl
     rw [es, Nat.mul_one, Nat.add_zero] at e
     exact e
    have h0 := one 0 x rfl
    rw [show ad.add 0 = ad from by unfold Addr.add; rw [if_pos rfl]] at h0
    obtain ⟨hs, hb⟩ := strings_Join.spot w ad _ h0
    obtain ⟨b, o, s⟩ := ad
    obtain rfl : s = none := hs
    exact Tryz.strings_Join b o c0 (x :: rest) a1 w (fun j y hy => by rw [← Lib.add_plain]; exact one j y hy) hb hh.1 hc0 hh.2
 cases h

end
end Go.Proofs.YtfboejlemnfndaaGreatDoor.XMk
end
section
namespace Go.Proofs.YtfboejlemnfndaaGreatDoor.XMk
open Go.RowKit Go.Proofs.YtfboejlemnfndaaGreatDoorW.PrintWords Go.Proofs.YtfboejlemnfndaaGreatDoorW.PrintLast Go.Proofs.YtfboejlemnfndaaGreatDoorW.PrintMore
attribute [local go_sem] extract_sub max2_int min2_int max_two min_two max_three min_three max_four min_four   -- for this text's walks alone
set_option linter.unusedVariables false
set_option linter.unusedSimpArgs false

noncomputable section
mutual
def meta_Write.j0 : Nat → List ByteArray → Int → ByteArray → Int → List (S61) → Option (ByteArray × Int)
 | 0, _, _, _, _, _ => none
 | k + 1, x5, x131000, x131001, x131002, x131003 => if x131000 = 2 then ((digits_Text.f (IntKind.u64.wrap (x131002))).bind fun t148 => (if x5.length < 8796093022208 then (meta_Write.j1 k (x5 ++ [t148]) x131000 x131001 x131002 x131003) else (none))) else (meta_Write.j1 k x5 x131000 x131001 x131002 x131003)
def meta_Write.j1 : Nat → List ByteArray → Int → ByteArray → Int → List (S61) → Option (ByteArray × Int)
 | 0, _, _, _, _, _ => none
 | k + 1, x5, x131000, x131001, x131002, x131003 => meta_Write.l0 k x5 x131003 (x131003.length : Int) 0
def meta_Write.l0 : Nat → List ByteArray → List (S61) → Int → Int → Option (ByteArray × Int)
 | 0, _, _, _, _ => none
 | k + 1, x5, x52, x53, x54 => if x54 < x53 then (if 0 ≤ x54 then (if x54 < (x52.length : Int) then (if (Utf8.encode (wrap32 ((rd_T61 x52 x54).f0))).size + ((rd_T61 x52 x54).f1).size ≤ 9223372036854775807 then (if x5.length < 8796093022208 then (meta_Write.l0 k (x5 ++ [(Utf8.encode (wrap32 ((rd_T61 x52 x54).f0))) ++ ((rd_T61 x52 x54).f1)]) x52 x53 (wrap64 (x54 + 1))) else (none)) else (none)) else (none)) else (none)) else ((strings_Join.f x5 (⟨#[32]⟩ : ByteArray)).bind fun t157 => (if (t157.size : Int) > 160 then (some ((⟨#[]⟩ : ByteArray), 7)) else (some (t157, 0))))
end
def meta_Write.f (k : Nat) (a0_0 : Int) (a0_1 : ByteArray) (a0_2 : Int) (l0_3 : List (S61)) : Option (ByteArray × Int) := (meta_shape.f k a0_0 a0_1 a0_2 l0_3).bind fun t131 => (if t131 = 0 then ((meta_ops.f).bind fun t132 => (if 0 ≤ a0_0 then (if a0_0 < (t132.length : Int) then ((some (([(rd_T63 t132 a0_0).f0] : List ByteArray) : List ByteArray)).bind fun y136 => (if a0_0 = 5 then (meta_Write.j0 k y136 a0_0 a0_1 a0_2 l0_3) else ((meta_Find.f a0_0 a0_1 a0_2 l0_3 98).bind fun bt139 => (if bt139.2 = true then ((meta_Encode.f a0_1).bind fun t141 => (if y136.length < 8796093022208 then (meta_Write.j0 k (y136 ++ [t141]) a0_0 a0_1 a0_2 l0_3) else (none))) else (if y136.length < 8796093022208 then (meta_Write.j0 k (y136 ++ [a0_1]) a0_0 a0_1 a0_2 l0_3) else (none)))))) else (none)) else (none))) else (some ((⟨#[]⟩ : ByteArray), t131)))
theorem meta_Write.mono_l : ∀ k, (∀ y0 y1 y2 y3 y4, LeO (meta_Write.j0 k y0 y1 y2 y3 y4) (meta_Write.j0 (k + 1) y0 y1 y2 y3 y4)) ∧ (∀ y0 y1 y2 y3 y4, LeO (meta_Write.j1 k y0 y1 y2 y3 y4) (meta_Write.j1 (k + 1) y0 y1 y2 y3 y4)) ∧ (∀ y0 y1 y2 y3, LeO (meta_Write.l0 k y0 y1 y2 y3) (meta_Write.l0 (k + 1) y0 y1 y2 y3))
 | 0 => ⟨fun _ _ _ _ _ r h => by simp [meta_Write.j0] at h, fun _ _ _ _ _ r h => by simp [meta_Write.j1] at h, fun _ _ _ _ r h => by simp [meta_Write.l0] at h⟩
 | k + 1 => by
  obtain ⟨ih0, ih1, ih2⟩ := meta_Write.mono_l k
  refine ⟨?_, ?_, ?_⟩
  all_goals
   intros
   first | unfold meta_Write.j0 | unfold meta_Write.j1 | unfold meta_Write.l0
   repeat' first
   | (with_reducible exact ih0 _ _ _ _ _)
   | (with_reducible exact ih1 _ _ _ _ _)
   | (with_reducible exact ih2 _ _ _ _)
   | (with_reducible exact meta_shape.mono _ _ _ _ _)
   | (with_reducible exact LeO.refl _)
   | (with_reducible exact LeO.none _)
   | (with_reducible refine LeO.ite ?_ ?_)
   | (with_reducible refine LeO.bind ?_ (fun _ => ?_))
   | exact ih0 _ _ _ _ _
   | exact ih1 _ _ _ _ _
   | exact ih2 _ _ _ _
   | exact meta_shape.mono _ _ _ _ _
   | exact LeO.none _
   | refine LeO.ite ?_ ?_
   | refine LeO.bind ?_ (fun _ => ?_)
theorem meta_Write.mono : ∀ a0 a1 a2 a3 k, LeO (meta_Write.f k a0 a1 a2 a3) (meta_Write.f (k + 1) a0 a1 a2 a3) := by
 intro a0 a1 a2 a3 k
 obtain ⟨ih0, ih1, ih2⟩ := meta_Write.mono_l k
 unfold meta_Write.f
 repeat' first
  | (with_reducible exact ih0 _ _ _ _ _)
  | (with_reducible exact ih1 _ _ _ _ _)
  | (with_reducible exact ih2 _ _ _ _)
  | (with_reducible exact meta_shape.mono _ _ _ _ _)
  | (with_reducible exact LeO.refl _)
  | (with_reducible exact LeO.none _)
  | (with_reducible refine LeO.ite ?_ ?_)
  | (with_reducible refine LeO.bind ?_ (fun _ => ?_))
  | exact ih0 _ _ _ _ _
  | exact ih1 _ _ _ _ _
  | exact ih2 _ _ _ _
  | exact meta_shape.mono _ _ _ _ _
  | exact LeO.none _
  | refine LeO.ite ?_ ?_
  | refine LeO.bind ?_ (fun _ => ?_)
def meta_Write.T4 : Bool × List (List Nat × List Nat) := (true, [([], []), ([], []), ([1], [1]), ([0, 2], [0, 2]), ([3], [3]), ([4], [4]), ([5], [5]), ([6, 0, 0, 1, 2, 3, 4, 5, 6], [6])])
def meta_Write.B4 : List Nat := [0, 0, 2, 7, 15, 31, 63, 127]
theorem meta_Write.tab4 : rtab .any (opsOf Tryz.f10 4) = meta_Write.T4 := by kernel_rfl
theorem meta_Write.bits4 : waitsOk meta_Write.T4.2 meta_Write.B4 = true := by kernel_rfl
set_option maxHeartbeats 8000000 in
set_option maxRecDepth 100000 in
theorem meta_Write.calls (k : Nat) (a0_0 : Int) (a0_1 : ByteArray) (a0_2 : Int) (A0_3 : Option Addr) (c0_3 : Nat) (l0_3 : List (S61)) (r1 : ByteArray) (r2 : Int) (w : World) (hr0_3 : Kd.C k61 w A0_3 l0_3.length l0_3) (hc0_3 : l0_3.length ≤ c0_3) (hv : Vars w) (h : meta_Write.f k a0_0 a0_1 a0_2 l0_3 = some (r1, r2)) :
 Calls Tryz.prog 10 #[.agg #[.int .i64 a0_0, .string a0_1, .int .i64 a0_2, .slice A0_3 l0_3.length c0_3]] w fun e w' => e = .returned (.tuple #[.string r1, .int .i64 r2]) ∧ Below w.heap.size w w' := by
 have hu31 := Tryz.underlying31
 have hu61 := Tryz.underlying61
 have HV := Aside0.mk hv
 clear hv
 have HR0_3 := Aside0.mk hr0_3
 have HC0_3 := Aside0.mk hc0_3
 clear hr0_3 hc0_3
 have HB := Aside0.mk (Below.refl w.heap.size w)
 have H : ((meta_shape.f k a0_0 a0_1 a0_2 l0_3).bind fun t131 => (if t131 = 0 then ((meta_ops.f).bind fun t132 => (if 0 ≤ a0_0 then (if a0_0 < (t132.length : Int) then ((some (([(rd_T63 t132 a0_0).f0] : List ByteArray) : List ByteArray)).bind fun y136 => (if a0_0 = 5 then (meta_Write.j0 k y136 a0_0 a0_1 a0_2 l0_3) else ((meta_Find.f a0_0 a0_1 a0_2 l0_3 98).bind fun bt139 => (if bt139.2 = true then ((meta_Encode.f a0_1).bind fun t141 => (if y136.length < 8796093022208 then (meta_Write.j0 k (y136 ++ [t141]) a0_0 a0_1 a0_2 l0_3) else (none))) else (if y136.length < 8796093022208 then (meta_Write.j0 k (y136 ++ [a0_1]) a0_0 a0_1 a0_2 l0_3) else (none)))))) else (none)) else (none))) else (some ((⟨#[]⟩ : ByteArray), t131)))) = some (r1, r2) := h
 clear h
 replace H := Option.bind_eq_some_iff.mp H
 obtain ⟨t131, A20, H⟩ := H
 replace H : (if t131 = 0 then ((meta_ops.f).bind fun t132 => (if 0 ≤ a0_0 then (if a0_0 < (t132.length : Int) then ((some (([(rd_T63 t132 a0_0).f0] : List ByteArray) : List ByteArray)).bind fun y136 => (if a0_0 = 5 then (meta_Write.j0 k y136 a0_0 a0_1 a0_2 l0_3) else ((meta_Find.f a0_0 a0_1 a0_2 l0_3 98).bind fun bt139 => (if bt139.2 = true then ((meta_Encode.f a0_1).bind fun t141 => (if y136.length < 8796093022208 then (meta_Write.j0 k (y136 ++ [t141]) a0_0 a0_1 a0_2 l0_3) else (none))) else (if y136.length < 8796093022208 then (meta_Write.j0 k (y136 ++ [a0_1]) a0_0 a0_1 a0_2 l0_3) else (none)))))) else (none)) else (none))) else (some ((⟨#[]⟩ : ByteArray), t131))) = some (r1, r2) := H
 have A2 := Aside0.mk A20
 clear A20
 by_cases c3 : t131 = 0
 · rw [if_pos c3] at H
   have c3b0 : (t131 == 0) = true := beq_iff_eq.mpr c3
   have c3b1 : (t131 != 0) = false := bne_eq_false_iff_eq.mpr c3
   clear c3
   replace H := Option.bind_eq_some_iff.mp H
   obtain ⟨t132, A40, H⟩ := H
   replace H : (if 0 ≤ a0_0 then (if a0_0 < (t132.length : Int) then ((some (([(rd_T63 t132 a0_0).f0] : List ByteArray) : List ByteArray)).bind fun y136 => (if a0_0 = 5 then (meta_Write.j0 k y136 a0_0 a0_1 a0_2 l0_3) else ((meta_Find.f a0_0 a0_1 a0_2 l0_3 98).bind fun bt139 => (if bt139.2 = true then ((meta_Encode.f a0_1).bind fun t141 => (if y136.length < 8796093022208 then (meta_Write.j0 k (y136 ++ [t141]) a0_0 a0_1 a0_2 l0_3) else (none))) else (if y136.length < 8796093022208 then (meta_Write.j0 k (y136 ++ [a0_1]) a0_0 a0_1 a0_2 l0_3) else (none)))))) else (none)) else (none)) = some (r1, r2) := H
   have A4 := Aside0.mk A40
   clear A40
   by_cases c5 : 0 ≤ a0_0
   · rw [if_pos c5] at H
     have c5b0 : decide (0 ≤ a0_0) = true := decide_eq_true c5
     clear c5
     by_cases c6 : a0_0 < (t132.length : Int)
     · rw [if_pos c6] at H
       have c6b0 : decide (a0_0 < (t132.length : Int)) = true := decide_eq_true c6
       clear c6
       obtain ⟨y136, hy136⟩ : ∃ y_ : List ByteArray, y_ = (([(rd_T63 t132 a0_0).f0] : List ByteArray)) := ⟨_, rfl⟩
       replace H : (if a0_0 = 5 then (meta_Write.j0 k y136 a0_0 a0_1 a0_2 l0_3) else ((meta_Find.f a0_0 a0_1 a0_2 l0_3 98).bind fun bt139 => (if bt139.2 = true then ((meta_Encode.f a0_1).bind fun t141 => (if y136.length < 8796093022208 then (meta_Write.j0 k (y136 ++ [t141]) a0_0 a0_1 a0_2 l0_3) else (none))) else (if y136.length < 8796093022208 then (meta_Write.j0 k (y136 ++ [a0_1]) a0_0 a0_1 a0_2 l0_3) else (none))))) = some (r1, r2) := by first | (rw [hy136]; with_reducible exact H) | (have H2_ := (Option.bind_some _ _).symm.trans H; rw [hy136]; with_reducible exact H2_) | (have H2_ := (Option.bind_some _ _).symm.trans H; with_reducible exact H2_) | with_reducible exact H | (rw [hy136]; exact H) | exact H
       have Ny136 := Aside0.mk hy136
       clear hy136
       have HC7 := Aside0.mk H
       clear H
       go_enter Tryz.func10, Tryz.ntmps10
       try go_wp2_with (first | ((with_reducible refine gate_dst (N := 1) rfl ?_); refine box_event ?hg (N := 1) ?hd (cs := #[.int .i64 a0_0, .string a0_1, .int .i64 a0_2, .slice A0_3 l0_3.length c0_3]) (t := 31) ?hr ?_; (case hd => rfl); (case hg => rfl); (case hr => first | (go_simp; done) | (go_simp; rfl)); intro gb130 hg w8 hbox hb; have n0_ := Aside0.mk (below_step (hbA HB.out) hb); have n1_ := Aside0.mk (hbox); have n2_ := Aside0.mk ((by rw [hg]; exact (below_size (hbA HB.out)) : w.heap.size ≤ gb130)); have n3_ := Aside0.mk ((by rw [hg]; exact (below_size (hbA HB.out)) : w.heap.size ≤ gb130)); clear HB; have HB := n0_; have BK130 := n1_; have GW130 := n2_; have GE130 := n3_; clear n0_ n1_ n2_ n3_; clear hb hbox hg; obtain ⟨hcz9_0, hcz9_1, hcz9_2, hcz9_3, hfz9_0, hfz9_1, hfz9_2, hfz9_3⟩ := blkA4 BK130.out) | ((with_reducible refine gate_callee (f := 28) rfl ?_); refine goesL_ (some 13) rfl rfl Tryz.func28 (by kernel_rfl) rfl #[.agg #[.int .i64 a0_0, .string a0_1, .int .i64 a0_2, .slice A0_3 l0_3.length c0_3]] rfl argA ?_; (with_reducible refine (meta_shape.calls k a0_0 a0_1 a0_2 _ _ l0_3 t131 _ ?side1 ?side2 ?side3 A2.out).mono ?_); (case side1 => repeat (first | exact (Kd.C_below HR0_3.out HB.out) | (with_reducible refine Kd.C_alloc ?_ _) | (with_reducible refine Kd.C_drewN ?_ _) | (with_reducible refine Kd.C_drew ?_))); (case side2 => exact HC0_3.out); (case side3 => exact Vars.below HV.out (hbA HB.out)); rintro e w10 ⟨rfl, hb⟩; refine ⟨_, rfl, ?_⟩; replace BK130 := Aside0.mk (blk_below (g := gb130) (o := .cells #[.int .i64 a0_0, .string a0_1, .int .i64 a0_2, .slice A0_3 l0_3.length c0_3] 31 (0, 0)) (rbA BK130.out) hb); replace HB := Aside0.mk (below_step (hbA HB.out) hb); (try clear hb); (try clear hb2); (try clear hk); (try clear hi)))
       replace BK130 := Aside0.mk (blk_drew BK130.out)
       replace HB := Aside0.mk (below_drew1 HB.out)
       refine start_ (n := 8) (S := fun w' => w'.cell? ⟨gb130, 0, none⟩ = some (.int .i64 a0_0) ∧ w'.cell? ⟨gb130, 1, none⟩ = some (.string a0_1) ∧ w'.cell? ⟨gb130, 2, none⟩ = some (.int .i64 a0_2) ∧ w'.cell? ⟨gb130, 3, none⟩ = some (.slice A0_3 l0_3.length c0_3)) (ds := []) #[false, false, false, false, false, false, false, false] (by kernel_rfl) rfl rfl ⟨(blk_cell BK130.out 0).trans rfl, (blk_cell BK130.out 1).trans rfl, (blk_cell BK130.out 2).trans rfl, (blk_cell BK130.out 3).trans rfl⟩ (fun hHeld => ?_); refine with_tabW meta_Write.tab4 meta_Write.bits4 (fun HT_ HW_ => ?_)
       generalize w10.drew = w11 at BK130 HB hHeld ⊢
       refine pureA_ (i := 1) (N := some 18) #[false, true, false, false, false, false, false, false] rfl rfl ?_ (hc := any_of HT_.out (by kernel_rfl))
       refine takeA_ (i := 2) (N := some 19) #[false, true, true, false, false, false, false, false] rfl rfl hHeld ?_ (hc := take_ofW HT_.out HW_.out (by kernel_rfl)) (hy := by rintro w' ⟨s0, s1, s2, s3⟩; go_simp; with_reducible rfl)
       refine one_ (i := 0) (N := some 17) #[true, true, true, false, false, false, false, false] rfl rfl (one_of HT_.out (by kernel_rfl)) (by decide) (fun K hK => ?_)
       refine goes_ Tryz.func29 (by kernel_rfl) rfl #[] (by rfl) rfl rfl argA ?_
       with_reducible refine (meta_ops.calls  t132 _ A4.out).mono ?_
       rintro e w12 ⟨v133, rfl, ho0, hb⟩
       refine ⟨_, rfl, ?_⟩
       have n0_ := Aside0.mk (Kd.R_lower ho0 (below_size (hbA HB.out)))
       have n1_ := Aside0.mk (blk_below (g := gb130) (o := .cells #[.int .i64 a0_0, .string a0_1, .int .i64 a0_2, .slice A0_3 l0_3.length c0_3] 31 (0, 0)) (rbA BK130.out) hb)
       have n2_ := Aside0.mk (below_step (hbA HB.out) hb)
       clear BK130
       clear HB
       have HO134 := n0_
       have BK130 := n1_
       have HB := n2_
       clear n0_ n1_ n2_
       (try clear hb)
       (try clear hb2)
       (try clear hk)
       (try clear hi)
       (try clear ho0)
       obtain ⟨Ao13, co13, eo13⟩ := Kd.R_slice HO134.out
       (first | subst eo13 | (injection eo13 with f1_ f2_ f3_; have f4_ := f1_.symm; have f5_ := f3_.symm; clear f1_ f2_ f3_; subst f4_; subst f5_))
       have p135 : 0 ≤ (a0_0 : Int) := of_decide_eq_true asA
       have q135 : a0_0 < (t132.length : Int) := of_decide_eq_true asA
       obtain ⟨ad135, e135, hx135_0, hx135_1⟩ := at_T63 (Kd.R_reads' HO134.out).2.2 a0_0 p135 q135
       cases e135
       replace p135 := eq_true p135
       replace q135 := eq_true q135
       refine hK.out _ _ ⟨(blk_cell BK130.out 0).trans rfl, (blk_cell BK130.out 1).trans rfl, (blk_cell BK130.out 2).trans rfl, (blk_cell BK130.out 3).trans rfl⟩ (fun hHeld => ?_)
       clear hK K
       refine normA_ ?_
       refine pureA_ (i := 3) (N := some 20) #[true, true, true, true, false, false, false, false] rfl rfl ?_ (hc := any_of HT_.out (by kernel_rfl))
       refine pureA_ (i := 4) (N := some 21) #[true, true, true, true, true, false, false, false] rfl rfl ?_ (hc := any_of HT_.out (by kernel_rfl))
       refine one_ (i := 5) (N := some 22) #[true, true, true, true, true, true, false, false] rfl rfl (one_of HT_.out (by kernel_rfl)) (by decide) (fun K hK => ?_)
       refine read_step (v := ?_) rfl ?_ ?_
       rotate_left
       · go_simp
         with_reducible rfl
       refine hK.out _ _ ⟨(blk_cell BK130.out 0).trans rfl, (blk_cell BK130.out 1).trans rfl, (blk_cell BK130.out 2).trans rfl, (blk_cell BK130.out 3).trans rfl⟩ (fun hHeld => ?_)
       clear hK K
       refine normA_ ?_
       refine one_ (i := 6) (N := some 23) #[true, true, true, true, true, true, true, false] rfl rfl (one_of HT_.out (by kernel_rfl)) (by decide) (fun K hK => ?_)
       refine Kd.R_lit_step Kd.string _ 9 ?hg (N := 23) ?hd (xs := ([(rd_T63 t132 a0_0).f0] : List ByteArray)) (inner := [.string ((rd_T63 t132 a0_0).f0)]) (ok := fun _ => True) (okp := fun _ => True) ?hr ?hp (fun _ hk => hk) trivial (Below.refl _ _) (Nat.le_refl _) (by simp) ?_; (case hd => rfl); (case hg => rfl); (case hr => first | (go_simp; done) | (go_simp; rfl)); (case hp => exact (Reps.one (show Kd.M Kd.string _ _ _ ((rd_T63 t132 a0_0).f0) [.string ((rd_T63 t132 a0_0).f0)] from rfl) (Reps.none _ _)))
       intro v137 w14 ho15 hb hg_ hnew_
       clear hg_ hnew_
       (first | rw [← Ny136.out] at ho15 | (simp only [Int.reduceToNat] at ho15; rw [← Ny136.out] at ho15))
       have n0_ := Aside0.mk (Kd.R_below (rdA HO134.out) hb)
       have n1_ := Aside0.mk (Kd.R_lower ho15 (below_size (hbA HB.out)))
       have n2_ := Aside0.mk (blk_below (g := gb130) (o := .cells #[.int .i64 a0_0, .string a0_1, .int .i64 a0_2, .slice A0_3 l0_3.length c0_3] 31 (0, 0)) (rbA BK130.out) hb)
       have n3_ := Aside0.mk (below_step (hbA HB.out) hb)
       clear HO134
       clear BK130
       clear HB
       have HO134 := n0_
       have HO138 := n1_
       have BK130 := n2_
       have HB := n3_
       clear n0_ n1_ n2_ n3_
       clear hb ho15
       refine hK.out _ _ ⟨(blk_cell BK130.out 0).trans rfl, (blk_cell BK130.out 1).trans rfl, (blk_cell BK130.out 2).trans rfl, (blk_cell BK130.out 3).trans rfl⟩ (fun hHeld => ?_)
       clear hK K
       refine normA_ ?_
       refine pureA_ (i := 7) (N := some 5) #[true, true, true, true, true, true, true, true] rfl rfl ?_ (hc := any_of HT_.out (by kernel_rfl))
       refine done_ (done_of HT_.out (by kernel_rfl)) ?_
       obtain ⟨hcz16_0, hcz16_1, hcz16_2, hcz16_3, hfz16_0, hfz16_1, hfz16_2, hfz16_3⟩ := blkA4 BK130.out
       go_upto_if 26 with (fail)
       go_cut [5] (fun v5 wc => ∃ (kq : Nat) (x5_6 : List ByteArray), Aside0 (meta_Write.j0 kq x5_6 a0_0 a0_1 a0_2 l0_3 = some (r1, r2)) ∧ Aside0 (kq ≤ k) ∧ Aside0 (Kd.R Kd.string 9 wc w.heap.size (fun _ => True) v5 x5_6) ∧ Aside0 (wc.heap[gb130]? = some (.cells #[.int .i64 a0_0, .string a0_1, .int .i64 a0_2, (.slice A0_3 l0_3.length c0_3)] 31 (0, 0))) ∧ Aside0 (Below w.heap.size w wc))
       case first =>
        have H := HC7.out
        clear HC7
        by_cases c17 : a0_0 = 5
        · rw [if_pos c17] at H
          have c17b0 : (a0_0 == 5) = true := beq_iff_eq.mpr c17
          have c17b1 : (a0_0 != 5) = false := bne_eq_false_iff_eq.mpr c17
          clear c17
          (first | rw [c17b0] | (simp only [i64_w, i32_w]; rw [c17b0]) | skip)
          have H' := Aside0.mk H
          clear H
          go_wp2
          go_meet
          case rel => exact ⟨_, (y136), H', ⟨by first | omega | exact Nat.le_refl _⟩, ⟨rdA HO138.out⟩, ⟨rbA BK130.out⟩, ⟨hbA HB.out⟩⟩
        rw [if_neg c17] at H
        have c17b0 : (a0_0 == 5) = false := beq_eq_false_iff_ne.mpr c17
        have c17b1 : (a0_0 != 5) = true := bne_iff_ne.mpr c17
        (first | rw [c17b0] | (simp only [i64_w, i32_w]; rw [c17b0]) | skip)
        replace H := Option.bind_eq_some_iff.mp H
        obtain ⟨⟨t139, t140⟩, A180, H⟩ := H
        replace H : (if t140 = true then ((meta_Encode.f a0_1).bind fun t141 => (if y136.length < 8796093022208 then (meta_Write.j0 k (y136 ++ [t141]) a0_0 a0_1 a0_2 l0_3) else (none))) else (if y136.length < 8796093022208 then (meta_Write.j0 k (y136 ++ [a0_1]) a0_0 a0_1 a0_2 l0_3) else (none))) = some (r1, r2) := H
        have A18 := Aside0.mk A180
        clear A180
        by_cases c19 : t140 = true
        · subst c19
          have H1 : ((meta_Encode.f a0_1).bind fun t141 => (if y136.length < 8796093022208 then (meta_Write.j0 k (y136 ++ [t141]) a0_0 a0_1 a0_2 l0_3) else (none))) = some (r1, r2) := by rw [if_pos rfl] at H; exact H
          clear H
          have H := H1
          clear H1
          replace H := Option.bind_eq_some_iff.mp H
          obtain ⟨t141, A200, H⟩ := H
          replace H : (if y136.length < 8796093022208 then (meta_Write.j0 k (y136 ++ [t141]) a0_0 a0_1 a0_2 l0_3) else (none)) = some (r1, r2) := H
          have A20 := Aside0.mk A200
          clear A200
          by_cases c21 : y136.length < 8796093022208
          · rw [if_pos c21] at H
            have LMc21 := Aside0.mk c21
            clear c21
            obtain ⟨y142, hy142⟩ : ∃ y_ : List ByteArray, y_ = (y136 ++ [t141]) := ⟨_, rfl⟩
            replace H : (meta_Write.j0 k y142 a0_0 a0_1 a0_2 l0_3) = some (r1, r2) := by first | (rw [hy142]; with_reducible exact H) | (have H2_ := (Option.bind_some _ _).symm.trans H; rw [hy142]; with_reducible exact H2_) | (have H2_ := (Option.bind_some _ _).symm.trans H; with_reducible exact H2_) | with_reducible exact H | (rw [hy142]; exact H) | exact H
            have Ny142 := Aside0.mk hy142
            clear hy142
            have H' := Aside0.mk H
            clear H
            obtain ⟨hcz22_0, hcz22_1, hcz22_2, hcz22_3, hfz22_0, hfz22_1, hfz22_2, hfz22_3⟩ := blkA4 BK130.out
            go_wp2_with (first | ((with_reducible refine gate_callee (f := 15) rfl ?_); refine goesL_ (some 31) rfl rfl Tryz.func15 (by kernel_rfl) rfl #[.agg #[.int .i64 a0_0, .string a0_1, .int .i64 a0_2, .slice A0_3 l0_3.length c0_3], .int .u8 98] rfl argA ?_; (with_reducible refine (meta_Find.calls a0_0 a0_1 a0_2 _ _ l0_3 98 t139 true _ ?side1 ?side2 A18.out).mono ?_); (case side1 => repeat (first | exact (Kd.C_below HR0_3.out HB.out) | (with_reducible refine Kd.C_alloc ?_ _) | (with_reducible refine Kd.C_drewN ?_ _) | (with_reducible refine Kd.C_drew ?_))); (case side2 => exact HC0_3.out); rintro e w23 ⟨rfl, hb⟩; refine ⟨_, rfl, ?_⟩; replace HO134 := Aside0.mk (Kd.R_below (rdA HO134.out) hb); replace HO138 := Aside0.mk (Kd.R_below (rdA HO138.out) hb); replace BK130 := Aside0.mk (blk_below (g := gb130) (o := .cells #[.int .i64 a0_0, .string a0_1, .int .i64 a0_2, .slice A0_3 l0_3.length c0_3] 31 (0, 0)) (rbA BK130.out) hb); replace HB := Aside0.mk (below_step (hbA HB.out) hb); (try clear hb); (try clear hb2); (try clear hk); (try clear hi)) | ((with_reducible refine gate_callee (f := 26) rfl ?_); refine goesL_ (some 36) rfl rfl Tryz.func26 (by kernel_rfl) rfl #[.string a0_1] rfl argA ?_; (with_reducible refine (meta_Encode.calls a0_1 t141 _ A20.out).mono ?_); rintro e w24 ⟨rfl, hb⟩; refine ⟨_, rfl, ?_⟩; replace HO134 := Aside0.mk (Kd.R_below (rdA HO134.out) hb); replace HO138 := Aside0.mk (Kd.R_below (rdA HO138.out) hb); replace BK130 := Aside0.mk (blk_below (g := gb130) (o := .cells #[.int .i64 a0_0, .string a0_1, .int .i64 a0_2, .slice A0_3 l0_3.length c0_3] 31 (0, 0)) (rbA BK130.out) hb); replace HB := Aside0.mk (below_step (hbA HB.out) hb); (try clear hb); (try clear hb2); (try clear hk); (try clear hi)) | ((with_reducible refine gate_builtin (b := .append) (xs := #[.tmp 37, .tmp 39]) rfl ?_); at_builtin; refine Kd.R_append Kd.string (w0 := w) w.heap.size rfl (.tmp 37) (.tmp 39) 66 9 (.string ⟨#[]⟩) 16 rfl Tryz.underlying66 info9 rfl (by decide) (by omega) v137 y136 t141 [.string t141] (fun _ => True) (fun _ => False) rfl rfl ?aP (fun _ hk => hk.elim) ?aF ?aO ?aB ?aS ?aL ?_; (case aP => exact rfl); (case aB => exact (hbA HB.out)); (case aF => exact (fun _ _ => trivial)); (case aO => exact (rdA HO138.out)); (case aS => exact (below_size (hbA HB.out))); (case aL => have := LMc21.out; omega); intro v143 w25 ho hb hg hat; rw [← Ny142.out] at ho; have n0_ := Aside0.mk (blk_grown (g := gb130) (o := .cells #[.int .i64 a0_0, .string a0_1, .int .i64 a0_2, .slice A0_3 l0_3.length c0_3] 31 (0, 0)) (rbA BK130.out) hg (Kd.R_ne HO138.out BK130.out (by decide))); have n1_ := Aside0.mk (Kd.R_over' (rdA HO134.out) (Kd.R_typed (rdA HO138.out)) (by decide) hg); have n2_ := Aside0.mk (hb); have n3_ := Aside0.mk (ho); clear BK130; clear HO134; clear HB; clear HO138; have BK130 := n0_; have HO134 := n1_; have HB := n2_; have HO144 := n3_; clear n0_ n1_ n2_ n3_; clear ho hb hg hat))
            go_meet
            case rel => exact ⟨_, (y142), H', ⟨by first | omega | exact Nat.le_refl _⟩, ⟨rdA HO144.out⟩, ⟨rbA BK130.out⟩, ⟨hbA HB.out⟩⟩
          rw [if_neg c21] at H
          exact absurd H (by simp)
        replace c19 := Bool.eq_false_iff.mpr c19
        subst c19
        have H1 : (if y136.length < 8796093022208 then (meta_Write.j0 k (y136 ++ [a0_1]) a0_0 a0_1 a0_2 l0_3) else (none)) = some (r1, r2) := by rw [if_neg (show ¬ (false = true) by decide)] at H; exact H
        clear H
        have H := H1
        clear H1
        by_cases c26 : y136.length < 8796093022208
        · rw [if_pos c26] at H
          have LMc26 := Aside0.mk c26
          clear c26
          obtain ⟨y145, hy145⟩ : ∃ y_ : List ByteArray, y_ = (y136 ++ [a0_1]) := ⟨_, rfl⟩
          replace H : (meta_Write.j0 k y145 a0_0 a0_1 a0_2 l0_3) = some (r1, r2) := by first | (rw [hy145]; with_reducible exact H) | (have H2_ := (Option.bind_some _ _).symm.trans H; rw [hy145]; with_reducible exact H2_) | (have H2_ := (Option.bind_some _ _).symm.trans H; with_reducible exact H2_) | with_reducible exact H | (rw [hy145]; exact H) | exact H
          have Ny145 := Aside0.mk hy145
          clear hy145
          have H' := Aside0.mk H
          clear H
          obtain ⟨hcz27_0, hcz27_1, hcz27_2, hcz27_3, hfz27_0, hfz27_1, hfz27_2, hfz27_3⟩ := blkA4 BK130.out
          go_wp2_with (first | ((with_reducible refine gate_callee (f := 15) rfl ?_); refine goesL_ (some 31) rfl rfl Tryz.func15 (by kernel_rfl) rfl #[.agg #[.int .i64 a0_0, .string a0_1, .int .i64 a0_2, .slice A0_3 l0_3.length c0_3], .int .u8 98] rfl argA ?_; (with_reducible refine (meta_Find.calls a0_0 a0_1 a0_2 _ _ l0_3 98 t139 false _ ?side1 ?side2 A18.out).mono ?_); (case side1 => repeat (first | exact (Kd.C_below HR0_3.out HB.out) | (with_reducible refine Kd.C_alloc ?_ _) | (with_reducible refine Kd.C_drewN ?_ _) | (with_reducible refine Kd.C_drew ?_))); (case side2 => exact HC0_3.out); rintro e w28 ⟨rfl, hb⟩; refine ⟨_, rfl, ?_⟩; replace HO134 := Aside0.mk (Kd.R_below (rdA HO134.out) hb); replace HO138 := Aside0.mk (Kd.R_below (rdA HO138.out) hb); replace BK130 := Aside0.mk (blk_below (g := gb130) (o := .cells #[.int .i64 a0_0, .string a0_1, .int .i64 a0_2, .slice A0_3 l0_3.length c0_3] 31 (0, 0)) (rbA BK130.out) hb); replace HB := Aside0.mk (below_step (hbA HB.out) hb); (try clear hb); (try clear hb2); (try clear hk); (try clear hi)) | ((with_reducible refine gate_builtin (b := .append) (xs := #[.tmp 37, .tmp 39]) rfl ?_); at_builtin; refine Kd.R_append Kd.string (w0 := w) w.heap.size rfl (.tmp 37) (.tmp 39) 66 9 (.string ⟨#[]⟩) 16 rfl Tryz.underlying66 info9 rfl (by decide) (by omega) v137 y136 a0_1 [.string a0_1] (fun _ => True) (fun _ => False) rfl rfl ?aP (fun _ hk => hk.elim) ?aF ?aO ?aB ?aS ?aL ?_; (case aP => exact rfl); (case aB => exact (hbA HB.out)); (case aF => exact (fun _ _ => trivial)); (case aO => exact (rdA HO138.out)); (case aS => exact (below_size (hbA HB.out))); (case aL => have := LMc26.out; omega); intro v146 w29 ho hb hg hat; rw [← Ny145.out] at ho; have n0_ := Aside0.mk (blk_grown (g := gb130) (o := .cells #[.int .i64 a0_0, .string a0_1, .int .i64 a0_2, .slice A0_3 l0_3.length c0_3] 31 (0, 0)) (rbA BK130.out) hg (Kd.R_ne HO138.out BK130.out (by decide))); have n1_ := Aside0.mk (Kd.R_over' (rdA HO134.out) (Kd.R_typed (rdA HO138.out)) (by decide) hg); have n2_ := Aside0.mk (hb); have n3_ := Aside0.mk (ho); clear BK130; clear HO134; clear HB; clear HO138; have BK130 := n0_; have HO134 := n1_; have HB := n2_; have HO147 := n3_; clear n0_ n1_ n2_ n3_; clear ho hb hg hat))
          go_meet
          case rel => exact ⟨_, (y145), H', ⟨by first | omega | exact Nat.le_refl _⟩, ⟨rdA HO147.out⟩, ⟨rbA BK130.out⟩, ⟨hbA HB.out⟩⟩
        rw [if_neg c26] at H
        exact absurd H (by simp)
       clear HC7
       (try clear c1); (try clear p1); (try clear q1); (try clear hx1); (try clear c2); (try clear p2); (try clear c3); (try clear c3b0); (try clear c3b1); (try clear c5); (try clear c5b0); (try clear c6); (try clear c6b0); (try clear c10); (try clear p13); (try clear q13); (try clear hx13); (try clear c15); (try clear c17); (try clear c17b0); (try clear c17b1); (try clear c19); (try clear c21); (try clear c26); (try clear c28); (try clear c29); (try clear hcz16_0); (try clear hcz16_1); (try clear hcz16_2); (try clear hcz16_3); (try clear hcz22_0); (try clear hcz22_1); (try clear hcz22_2); (try clear hcz22_3); (try clear hcz27_0); (try clear hcz27_1); (try clear hcz27_2); (try clear hcz27_3); (try clear hcz9_0); (try clear hcz9_1); (try clear hcz9_2); (try clear hcz9_3); (try clear hfz16_0); (try clear hfz16_1); (try clear hfz16_2); (try clear hfz16_3); (try clear hfz22_0); (try clear hfz22_1); (try clear hfz22_2); (try clear hfz22_3); (try clear hfz27_0); (try clear hfz27_1); (try clear hfz27_2); (try clear hfz27_3); (try clear hfz9_0); (try clear hfz9_1); (try clear hfz9_2); (try clear hfz9_3); (try clear hx135_0); (try clear hx135_1); (try clear p135); (try clear q135)
       obtain ⟨kq, x5_6, HA, HJ6, HO_5, BK130, HB⟩ := hcut
       cases kq with
       | zero => exact absurd HA.out (by simp [meta_Write.j0])
       | succ kj6 =>
        have H := HA.out
        clear HA
        simp only [meta_Write.j0] at H
        have HC30 := Aside0.mk H
        clear H
        obtain ⟨hcz31_0, hcz31_1, hcz31_2, hcz31_3, hfz31_0, hfz31_1, hfz31_2, hfz31_3⟩ := blkA4 BK130.out
        go_upto_if 43 with (fail)
        go_cut [5] (fun v5 wc => ∃ (kq : Nat) (x5_29 : List ByteArray), Aside0 (meta_Write.j1 kq x5_29 a0_0 a0_1 a0_2 l0_3 = some (r1, r2)) ∧ Aside0 (kq ≤ kj6) ∧ Aside0 (Kd.R Kd.string 9 wc w.heap.size (fun _ => True) v5 x5_29) ∧ Aside0 (wc.heap[gb130]? = some (.cells #[.int .i64 a0_0, .string a0_1, .int .i64 a0_2, (.slice A0_3 l0_3.length c0_3)] 31 (0, 0))) ∧ Aside0 (Below w.heap.size w wc))
        case first =>
         have H := HC30.out
         clear HC30
         by_cases c32 : a0_0 = 2
         · rw [if_pos c32] at H
           have c32b0 : (a0_0 == 2) = true := beq_iff_eq.mpr c32
           have c32b1 : (a0_0 != 2) = false := bne_eq_false_iff_eq.mpr c32
           clear c32
           (first | rw [c32b0] | (simp only [i64_w, i32_w]; rw [c32b0]) | skip)
           replace H := Option.bind_eq_some_iff.mp H
           obtain ⟨t148, A330, H⟩ := H
           replace H : (if x5_6.length < 8796093022208 then (meta_Write.j1 kj6 (x5_6 ++ [t148]) a0_0 a0_1 a0_2 l0_3) else (none)) = some (r1, r2) := H
           have A33 := Aside0.mk A330
           clear A330
           by_cases c34 : x5_6.length < 8796093022208
           · rw [if_pos c34] at H
             have LMc34 := Aside0.mk c34
             clear c34
             obtain ⟨y149, hy149⟩ : ∃ y_ : List ByteArray, y_ = (x5_6 ++ [t148]) := ⟨_, rfl⟩
             replace H : (meta_Write.j1 kj6 y149 a0_0 a0_1 a0_2 l0_3) = some (r1, r2) := by first | (rw [hy149]; with_reducible exact H) | (have H2_ := (Option.bind_some _ _).symm.trans H; rw [hy149]; with_reducible exact H2_) | (have H2_ := (Option.bind_some _ _).symm.trans H; with_reducible exact H2_) | with_reducible exact H | (rw [hy149]; exact H) | exact H
             have Ny149 := Aside0.mk hy149
             clear hy149
             have H' := Aside0.mk H
             clear H
             obtain ⟨hcz35_0, hcz35_1, hcz35_2, hcz35_3, hfz35_0, hfz35_1, hfz35_2, hfz35_3⟩ := blkA4 BK130.out
             go_wp2_with (first | ((with_reducible refine gate_callee (f := 30) rfl ?_); refine goesL_ (some 48) rfl rfl Tryz.func30 (by kernel_rfl) rfl #[.int .u64 (IntKind.u64.wrap (a0_2))] rfl argA ?_; (with_reducible refine (digits_Text.calls (IntKind.u64.wrap (a0_2)) t148 _ ?side1 A33.out).mono ?_); (case side1 => exact Vars.below HV.out (hbA HB.out)); rintro e w36 ⟨rfl, hb⟩; refine ⟨_, rfl, ?_⟩; replace HO_5 := Aside0.mk (Kd.R_below (rdA HO_5.out) hb); replace BK130 := Aside0.mk (blk_below (g := gb130) (o := .cells #[.int .i64 a0_0, .string a0_1, .int .i64 a0_2, .slice A0_3 l0_3.length c0_3] 31 (0, 0)) (rbA BK130.out) hb); replace HB := Aside0.mk (below_step (hbA HB.out) hb); (try clear hb); (try clear hb2); (try clear hk); (try clear hi)) | ((with_reducible refine gate_builtin (b := .append) (xs := #[.tmp 44, .tmp 49]) rfl ?_); at_builtin; refine Kd.R_append Kd.string (w0 := w) w.heap.size rfl (.tmp 44) (.tmp 49) 66 9 (.string ⟨#[]⟩) 16 rfl Tryz.underlying66 info9 rfl (by decide) (by omega) u5 x5_6 t148 [.string t148] (fun _ => True) (fun _ => False) rfl rfl ?aP (fun _ hk => hk.elim) ?aF ?aO ?aB ?aS ?aL ?_; (case aP => exact rfl); (case aB => exact (hbA HB.out)); (case aF => exact (fun _ _ => trivial)); (case aO => exact (rdA HO_5.out)); (case aS => exact (below_size (hbA HB.out))); (case aL => have := LMc34.out; omega); intro v150 w37 ho hb hg hat; rw [← Ny149.out] at ho; have n0_ := Aside0.mk (blk_grown (g := gb130) (o := .cells #[.int .i64 a0_0, .string a0_1, .int .i64 a0_2, .slice A0_3 l0_3.length c0_3] 31 (0, 0)) (rbA BK130.out) hg (Kd.R_ne HO_5.out BK130.out (by decide))); have n1_ := Aside0.mk (hb); have n2_ := Aside0.mk (ho); clear BK130; clear HB; clear HO_5; have BK130 := n0_; have HB := n1_; have HO151 := n2_; clear n0_ n1_ n2_; clear ho hb hg hat))
             go_meet
             case rel => exact ⟨_, (y149), H', ⟨by have := HJ6.out; first | omega | exact Nat.le_refl _⟩, ⟨rdA HO151.out⟩, ⟨rbA BK130.out⟩, ⟨hbA HB.out⟩⟩
           rw [if_neg c34] at H
           exact absurd H (by simp)
         rw [if_neg c32] at H
         have c32b0 : (a0_0 == 2) = false := beq_eq_false_iff_ne.mpr c32
         have c32b1 : (a0_0 != 2) = true := bne_iff_ne.mpr c32
         (first | rw [c32b0] | (simp only [i64_w, i32_w]; rw [c32b0]) | skip)
         have H' := Aside0.mk H
         clear H
         go_wp2
         go_meet
         case rel => exact ⟨_, (x5_6), H', ⟨by have := HJ6.out; first | omega | exact Nat.le_refl _⟩, ⟨rdA HO_5.out⟩, ⟨rbA BK130.out⟩, ⟨hbA HB.out⟩⟩
        clear HC30
        (try clear c1); (try clear p1); (try clear q1); (try clear hx1); (try clear c2); (try clear p2); (try clear c3); (try clear c3b0); (try clear c3b1); (try clear c5); (try clear c5b0); (try clear c6); (try clear c6b0); (try clear c10); (try clear p13); (try clear q13); (try clear hx13); (try clear c15); (try clear c17); (try clear c17b0); (try clear c17b1); (try clear c19); (try clear c21); (try clear c26); (try clear c28); (try clear c29); (try clear c30); (try clear c32); (try clear c32b0); (try clear c32b1); (try clear c34); (try clear hcz16_0); (try clear hcz16_1); (try clear hcz16_2); (try clear hcz16_3); (try clear hcz22_0); (try clear hcz22_1); (try clear hcz22_2); (try clear hcz22_3); (try clear hcz27_0); (try clear hcz27_1); (try clear hcz27_2); (try clear hcz27_3); (try clear hcz31_0); (try clear hcz31_1); (try clear hcz31_2); (try clear hcz31_3); (try clear hcz35_0); (try clear hcz35_1); (try clear hcz35_2); (try clear hcz35_3); (try clear hcz9_0); (try clear hcz9_1); (try clear hcz9_2); (try clear hcz9_3); (try clear hfz16_0); (try clear hfz16_1); (try clear hfz16_2); (try clear hfz16_3); (try clear hfz22_0); (try clear hfz22_1); (try clear hfz22_2); (try clear hfz22_3); (try clear hfz27_0); (try clear hfz27_1); (try clear hfz27_2); (try clear hfz27_3); (try clear hfz31_0); (try clear hfz31_1); (try clear hfz31_2); (try clear hfz31_3); (try clear hfz35_0); (try clear hfz35_1); (try clear hfz35_2); (try clear hfz35_3); (try clear hfz9_0); (try clear hfz9_1); (try clear hfz9_2); (try clear hfz9_3); (try clear hx135_0); (try clear hx135_1); (try clear p1); (try clear p13); (try clear p135); (try clear p2); (try clear q1); (try clear q13); (try clear q135)
        obtain ⟨kq, x5_29, HA, HJ29, HO_5, BK130, HB⟩ := hcut
        cases kq with
        | zero => exact absurd HA.out (by simp [meta_Write.j1])
        | succ kj29 =>
         have H := HA.out
         clear HA
         simp only [meta_Write.j1] at H
         have H' := Aside0.mk H
         clear H
         obtain ⟨hcz38_0, hcz38_1, hcz38_2, hcz38_3, hfz38_0, hfz38_1, hfz38_2, hfz38_3⟩ := blkA4 BK130.out
         go_wp2
         go_loopg [5, 54] kj29 (fun kq v5 v54 w' => ∃ (x5_3 : List ByteArray) (x54_3 : Int), v54 = .int .i64 x54_3 ∧ Aside0 (meta_Write.l0 kq x5_3 l0_3 (l0_3.length : Int) x54_3 = some (r1, r2)) ∧ Aside0 (kq ≤ kj29) ∧ Aside0 (Kd.R Kd.string 9 w' w.heap.size (fun _ => True) v5 x5_3) ∧ Aside0 (w'.heap[gb130]? = some (.cells #[.int .i64 a0_0, .string a0_1, .int .i64 a0_2, (.slice A0_3 l0_3.length c0_3)] 31 (0, 0))) ∧ Aside0 (Below w.heap.size w w'))
         case atStart => exact ⟨(x5_29), (0), rsA, H', ⟨Nat.le_refl _⟩, ⟨rdA HO_5.out⟩, ⟨rbA BK130.out⟩, ⟨hbA HB.out⟩⟩
         case round =>
          clear H'
          (try clear c1); (try clear p1); (try clear q1); (try clear hx1); (try clear c2); (try clear p2); (try clear c3); (try clear c3b0); (try clear c3b1); (try clear c5); (try clear c5b0); (try clear c6); (try clear c6b0); (try clear c10); (try clear p13); (try clear q13); (try clear hx13); (try clear c15); (try clear c17); (try clear c17b0); (try clear c17b1); (try clear c19); (try clear c21); (try clear c26); (try clear c28); (try clear c29); (try clear c30); (try clear c32); (try clear c32b0); (try clear c32b1); (try clear c34); (try clear hcz16_0); (try clear hcz16_1); (try clear hcz16_2); (try clear hcz16_3); (try clear hcz22_0); (try clear hcz22_1); (try clear hcz22_2); (try clear hcz22_3); (try clear hcz27_0); (try clear hcz27_1); (try clear hcz27_2); (try clear hcz27_3); (try clear hcz31_0); (try clear hcz31_1); (try clear hcz31_2); (try clear hcz31_3); (try clear hcz35_0); (try clear hcz35_1); (try clear hcz35_2); (try clear hcz35_3); (try clear hcz38_0); (try clear hcz38_1); (try clear hcz38_2); (try clear hcz38_3); (try clear hcz9_0); (try clear hcz9_1); (try clear hcz9_2); (try clear hcz9_3); (try clear hfz16_0); (try clear hfz16_1); (try clear hfz16_2); (try clear hfz16_3); (try clear hfz22_0); (try clear hfz22_1); (try clear hfz22_2); (try clear hfz22_3); (try clear hfz27_0); (try clear hfz27_1); (try clear hfz27_2); (try clear hfz27_3); (try clear hfz31_0); (try clear hfz31_1); (try clear hfz31_2); (try clear hfz31_3); (try clear hfz35_0); (try clear hfz35_1); (try clear hfz35_2); (try clear hfz35_3); (try clear hfz38_0); (try clear hfz38_1); (try clear hfz38_2); (try clear hfz38_3); (try clear hfz9_0); (try clear hfz9_1); (try clear hfz9_2); (try clear hfz9_3); (try clear hx135_0); (try clear hx135_1); (try clear p1); (try clear p13); (try clear p135); (try clear p2); (try clear q1); (try clear q13); (try clear q135)
          obtain ⟨x5_3, x54_3, rfl, HA, HK3, HO_5, BK130, HB⟩ := hrel
          cases gk with
          | zero => exact absurd HA.out (by simp [meta_Write.l0])
          | succ k3 =>
           have H := HA.out
           clear HA
           simp only [meta_Write.l0] at H
           by_cases c39 : x54_3 < (l0_3.length : Int)
           · rw [if_pos c39] at H
             have c39b0 : decide (x54_3 < (l0_3.length : Int)) = true := decide_eq_true c39
             clear c39
             by_cases c40 : 0 ≤ x54_3
             · rw [if_pos c40] at H
               have c40b0 : decide (0 ≤ x54_3) = true := decide_eq_true c40
               clear c40
               by_cases c41 : x54_3 < (l0_3.length : Int)
               · rw [if_pos c41] at H
                 have c41b0 : decide (x54_3 < (l0_3.length : Int)) = true := decide_eq_true c41
                 clear c41
                 by_cases c42 : (Utf8.encode (wrap32 ((rd_T61 l0_3 x54_3).f0))).size + ((rd_T61 l0_3 x54_3).f1).size ≤ 9223372036854775807
                 · rw [if_pos c42] at H
                   have c42b0 := eq_true c42
                   have c42b1 : decide ((Utf8.encode (wrap32 ((rd_T61 l0_3 x54_3).f0))).size + ((rd_T61 l0_3 x54_3).f1).size ≤ 9223372036854775807) = true := decide_eq_true c42
                   try have c42b2 : (9223372036854775807 < (Utf8.encode (wrap32 ((rd_T61 l0_3 x54_3).f0))).size + ((rd_T61 l0_3 x54_3).f1).size) = False := eq_false (Nat.not_lt.2 c42)
                   by_cases c43 : x5_3.length < 8796093022208
                   · rw [if_pos c43] at H
                     have LMc43 := Aside0.mk c43
                     clear c43
                     obtain ⟨y154, hy154⟩ : ∃ y_ : List ByteArray, y_ = (x5_3 ++ [(Utf8.encode (wrap32 ((rd_T61 l0_3 x54_3).f0))) ++ ((rd_T61 l0_3 x54_3).f1)]) := ⟨_, rfl⟩
                     replace H : (meta_Write.l0 k3 y154 l0_3 (l0_3.length : Int) (wrap64 (x54_3 + 1))) = some (r1, r2) := by first | (rw [hy154]; with_reducible exact H) | (have H2_ := (Option.bind_some _ _).symm.trans H; rw [hy154]; with_reducible exact H2_) | (have H2_ := (Option.bind_some _ _).symm.trans H; with_reducible exact H2_) | with_reducible exact H | (rw [hy154]; exact H) | exact H
                     have Ny154 := Aside0.mk hy154
                     clear hy154
                     have H' := Aside0.mk H
                     clear H
                     have p152 : 0 ≤ (x54_3 : Int) := of_decide_eq_true asA
                     have q152 : x54_3 < (l0_3.length : Int) := of_decide_eq_true asA
                     obtain ⟨ad152, e152, hx152_0, hx152_1⟩ := at_T61 HR0_3.out x54_3 p152 q152
                     cases e152
                     replace hx152_0 := (HB.out.cell (World.block_lt_of_cell? w _ hx152_0)).trans hx152_0
                     replace hx152_1 := (HB.out.cell (World.block_lt_of_cell? w _ hx152_1)).trans hx152_1
                     replace p152 := eq_true p152
                     replace q152 := eq_true q152
                     go_wp2_with (first | ((with_reducible refine gate_dst (N := 10) rfl ?_); refine box_event ?hg (N := 10) ?hd (cs := #[.int .u8 0, .string (⟨#[]⟩ : ByteArray)]) (t := 61) ?hr ?_; (case hd => rfl); (case hg => rfl); (case hr => first | (go_simp; done) | (go_simp; rfl)); intro gb153 hg w44 hbox hb; have n0_ := Aside0.mk (Kd.R_below (rdA HO_5.out) hb); have n1_ := Aside0.mk (blk_below (g := gb130) (o := .cells #[.int .i64 a0_0, .string a0_1, .int .i64 a0_2, .slice (some ad152) l0_3.length c0_3] 31 (0, 0)) (rbA BK130.out) hb); have n2_ := Aside0.mk (below_step (hbA HB.out) hb); have n3_ := Aside0.mk (hbox); have n4_ := Aside0.mk ((by rw [hg]; exact (below_size (hbA HB.out)) : w.heap.size ≤ gb153)); have n5_ := Aside0.mk ((by rw [hg]; exact (below_size (hbA HB.out)) : w.heap.size ≤ gb153)); have n6_ := Aside0.mk ((by rw [hg]; exact Nat.ne_of_lt (blk_lt (g := gb130) (o := .cells #[.int .i64 a0_0, .string a0_1, .int .i64 a0_2, .slice (some ad152) l0_3.length c0_3] 31 (0, 0)) (rbA BK130.out)) : gb130 ≠ gb153)); have n7_ := Aside0.mk ((by rw [hg]; exact Nat.ne_of_gt (blk_lt (g := gb130) (o := .cells #[.int .i64 a0_0, .string a0_1, .int .i64 a0_2, .slice (some ad152) l0_3.length c0_3] 31 (0, 0)) (rbA BK130.out)) : gb153 ≠ gb130)); clear HO_5; clear BK130; clear HB; have HO_5 := n0_; have BK130 := n1_; have HB := n2_; have BK153 := n3_; have GW153 := n4_; have GE153 := n5_; have NB130_153 := n6_; have NB153_130 := n7_; clear n0_ n1_ n2_ n3_ n4_ n5_ n6_ n7_; clear hb hbox hg; have hnb45 := NB153_130.out; have hnc45 := NB130_153.out; obtain ⟨hcz46_0, hcz46_1, hfz46_0, hfz46_1⟩ := blkA2 BK153.out) | ((with_reducible refine gate_builtin (b := .append) (xs := #[.tmp 58, .tmp 66]) rfl ?_); at_builtin; refine Kd.R_append Kd.string (w0 := w) w.heap.size rfl (.tmp 58) (.tmp 66) 66 9 (.string ⟨#[]⟩) 16 rfl Tryz.underlying66 info9 rfl (by decide) (by omega) u5 x5_3 ((Utf8.encode (wrap32 ((rd_T61 l0_3 x54_3).f0))) ++ ((rd_T61 l0_3 x54_3).f1)) [.string ((Utf8.encode (wrap32 ((rd_T61 l0_3 x54_3).f0))) ++ ((rd_T61 l0_3 x54_3).f1))] (fun _ => True) (fun _ => False) rfl (by first | (go_simp; done) | (go_simp; rfl)) ?aP (fun _ hk => hk.elim) ?aF ?aO ?aB ?aS ?aL ?_; (case aP => exact rfl); (case aB => exact (hbA HB.out)); (case aF => exact (fun _ _ => trivial)); (case aO => exact (by (with_reducible repeat (first | apply Kd.R_alloc | apply Kd.R_drewN | apply Kd.R_drew)); exact Kd.R_mono (Kd.R_far (p := ⟨gb153, 1, none⟩) (Kd.R_far (p := ⟨gb153, 0, none⟩) (Kd.R_types HO_5.out BK153.out (by decide)) (fun _ hk => hk.2) (.int .u8 ((rd_T61 l0_3 x54_3).f0))) (fun _ hk => hk.2) (.string ((rd_T61 l0_3 x54_3).f1))) (fun _ hk => trivial))); (case aS => exact (below_size (hbA HB.out))); (case aL => have := LMc43.out; omega); intro v155 w47 ho hb hg hat; rw [← Ny154.out] at ho; have n0_ := Aside0.mk (blk_grown (g := gb130) (o := .cells #[.int .i64 a0_0, .string a0_1, .int .i64 a0_2, .slice (some ad152) l0_3.length c0_3] 31 (0, 0)) (by (with_reducible repeat (first | refine blk_drewN ?_ _ | refine blk_drew ?_ | refine blk_alloc ?_ _)); refine blk_far ?_ NB130_153.out _; (with_reducible repeat (first | refine blk_drewN ?_ _ | refine blk_drew ?_ | refine blk_alloc ?_ _)); refine blk_far ?_ NB130_153.out _; exact rbA BK130.out) hg (Kd.R_ne HO_5.out BK130.out (by decide))); have n1_ := Aside0.mk (blk_grown (g := gb153) (o := .cells #[.int .u8 ((rd_T61 l0_3 x54_3).f0), .string ((rd_T61 l0_3 x54_3).f1)] 61 (0, 0)) (by (with_reducible repeat (first | refine blk_drewN ?_ _ | refine blk_drew ?_ | refine blk_alloc ?_ _)); refine blk_put (cs := #[.int .u8 ((rd_T61 l0_3 x54_3).f0), .string (⟨#[]⟩ : ByteArray)]) ?_ 1 _ rfl; (with_reducible repeat (first | refine blk_drewN ?_ _ | refine blk_drew ?_ | refine blk_alloc ?_ _)); refine blk_put (cs := #[.int .u8 0, .string (⟨#[]⟩ : ByteArray)]) ?_ 0 _ rfl; exact rbA BK153.out) hg (Kd.R_ne HO_5.out BK153.out (by decide))); have n2_ := Aside0.mk (hb); have n3_ := Aside0.mk (ho); clear BK130; clear BK153; clear HB; clear HO_5; have BK130 := n0_; have BK153 := n1_; have HB := n2_; have HO156 := n3_; clear n0_ n1_ n2_ n3_; clear ho hb hg hat))
                     go_roundg k3
                     case measure => have := HJ6.out; have := HJ29.out; have := HK3.out; omega
                     case rel => exact ⟨(y154), (wrap64 (x54_3 + 1)), rsA, H', ⟨by have := HJ6.out; have := HJ29.out; have := HK3.out; omega⟩, ⟨rdA HO156.out⟩, ⟨rbA BK130.out⟩, ⟨hbA HB.out⟩⟩
                   rw [if_neg c43] at H
                   exact absurd H (by simp)
                 rw [if_neg c42] at H
                 exact absurd H (by simp)
               rw [if_neg c41] at H
               exact absurd H (by simp)
             rw [if_neg c40] at H
             exact absurd H (by simp)
           rw [if_neg c39] at H
           have c39b0 : decide (x54_3 < (l0_3.length : Int)) = false := decide_eq_false c39
           clear c39
           replace H := Option.bind_eq_some_iff.mp H
           obtain ⟨t157, A480, H⟩ := H
           replace H : (if (t157.size : Int) > 160 then (some ((⟨#[]⟩ : ByteArray), 7)) else (some (t157, 0))) = some (r1, r2) := H
           have A48 := Aside0.mk A480
           clear A480
           by_cases c49 : (t157.size : Int) > 160
           · rw [if_pos c49] at H
             have c49b0 : decide (160 < (t157.size : Int)) = true := decide_eq_true c49
             have c49b1 : decide (160 < t157.size) = true := decide_eq_true (by omega)
             clear c49
             simp only [Option.some.injEq, Prod.mk.injEq] at H
             obtain ⟨rfl, rfl⟩ := H
             obtain ⟨Ao50, co50, eo50⟩ := Kd.R_slice HO_5.out
             subst eo50
             go_wp2_with (first | ((with_reducible refine gate_callee (f := 31) rfl ?_); refine goesL_ (some 70) rfl rfl Tryz.func31 (by kernel_rfl) rfl #[.slice Ao50 x5_3.length co50, .string (⟨#[32]⟩ : ByteArray)] rfl argA ?_; (with_reducible refine (strings_Join.calls _ _ x5_3 (⟨#[32]⟩ : ByteArray) t157 _ ?side1 ?side2 A48.out).mono ?_); (case side1 => repeat (first | exact (Kd.R_reads' HO_5.out).2.2 | (with_reducible refine Kd.C_alloc ?_ _) | (with_reducible refine Kd.C_drewN ?_ _) | (with_reducible refine Kd.C_drew ?_))); (case side2 => exact (Kd.R_reads' HO_5.out).2.1); rintro e w51 ⟨rfl, hb⟩; refine ⟨_, rfl, ?_⟩; replace HO_5 := Aside0.mk (Kd.R_below (rdA HO_5.out) hb); replace BK130 := Aside0.mk (blk_below (g := gb130) (o := .cells #[.int .i64 a0_0, .string a0_1, .int .i64 a0_2, .slice A0_3 l0_3.length c0_3] 31 (0, 0)) (rbA BK130.out) hb); replace HB := Aside0.mk (below_step (hbA HB.out) hb); (try clear hb); (try clear hb2); (try clear hk); (try clear hi)))
             go_ret2
             exact ⟨reA, hbA HB.out⟩
           rw [if_neg c49] at H
           have c49b0 : decide (160 < (t157.size : Int)) = false := decide_eq_false c49
           have c49b1 : decide (160 < t157.size) = false := decide_eq_false (by omega)
           clear c49
           simp only [Option.some.injEq, Prod.mk.injEq] at H
           obtain ⟨rfl, rfl⟩ := H
           obtain ⟨Ao52, co52, eo52⟩ := Kd.R_slice HO_5.out
           subst eo52
           go_wp2_with (first | ((with_reducible refine gate_callee (f := 31) rfl ?_); refine goesL_ (some 70) rfl rfl Tryz.func31 (by kernel_rfl) rfl #[.slice Ao52 x5_3.length co52, .string (⟨#[32]⟩ : ByteArray)] rfl argA ?_; (with_reducible refine (strings_Join.calls _ _ x5_3 (⟨#[32]⟩ : ByteArray) t157 _ ?side1 ?side2 A48.out).mono ?_); (case side1 => repeat (first | exact (Kd.R_reads' HO_5.out).2.2 | (with_reducible refine Kd.C_alloc ?_ _) | (with_reducible refine Kd.C_drewN ?_ _) | (with_reducible refine Kd.C_drew ?_))); (case side2 => exact (Kd.R_reads' HO_5.out).2.1); rintro e w53 ⟨rfl, hb⟩; refine ⟨_, rfl, ?_⟩; replace HO_5 := Aside0.mk (Kd.R_below (rdA HO_5.out) hb); replace BK130 := Aside0.mk (blk_below (g := gb130) (o := .cells #[.int .i64 a0_0, .string a0_1, .int .i64 a0_2, .slice A0_3 l0_3.length c0_3] 31 (0, 0)) (rbA BK130.out) hb); replace HB := Aside0.mk (below_step (hbA HB.out) hb); (try clear hb); (try clear hb2); (try clear hk); (try clear hi)))
           go_ret2
           exact ⟨reA, hbA HB.out⟩
     rw [if_neg c6] at H
     exact absurd H (by simp)
   rw [if_neg c5] at H
   exact absurd H (by simp)
 rw [if_neg c3] at H
 have c3b0 : (t131 == 0) = false := beq_eq_false_iff_ne.mpr c3
 have c3b1 : (t131 != 0) = true := bne_iff_ne.mpr c3
 simp only [Option.some.injEq, Prod.mk.injEq] at H
 obtain ⟨rfl, rfl⟩ := H
 go_enter Tryz.func10, Tryz.ntmps10
 go_wp2_with (first | ((with_reducible refine gate_dst (N := 1) rfl ?_); refine box_event ?hg (N := 1) ?hd (cs := #[.int .i64 a0_0, .string a0_1, .int .i64 a0_2, .slice A0_3 l0_3.length c0_3]) (t := 31) ?hr ?_; (case hd => rfl); (case hg => rfl); (case hr => first | (go_simp; done) | (go_simp; rfl)); intro gb130 hg w54 hbox hb; have n0_ := Aside0.mk (below_step (hbA HB.out) hb); have n1_ := Aside0.mk (hbox); have n2_ := Aside0.mk ((by rw [hg]; exact (below_size (hbA HB.out)) : w.heap.size ≤ gb130)); have n3_ := Aside0.mk ((by rw [hg]; exact (below_size (hbA HB.out)) : w.heap.size ≤ gb130)); clear HB; have HB := n0_; have BK130 := n1_; have GW130 := n2_; have GE130 := n3_; clear n0_ n1_ n2_ n3_; clear hb hbox hg; obtain ⟨hcz55_0, hcz55_1, hcz55_2, hcz55_3, hfz55_0, hfz55_1, hfz55_2, hfz55_3⟩ := blkA4 BK130.out) | ((with_reducible refine gate_callee (f := 28) rfl ?_); refine goesL_ (some 13) rfl rfl Tryz.func28 (by kernel_rfl) rfl #[.agg #[.int .i64 a0_0, .string a0_1, .int .i64 a0_2, .slice A0_3 l0_3.length c0_3]] rfl argA ?_; (with_reducible refine (meta_shape.calls k a0_0 a0_1 a0_2 _ _ l0_3 t131 _ ?side1 ?side2 ?side3 A2.out).mono ?_); (case side1 => repeat (first | exact (Kd.C_below HR0_3.out HB.out) | (with_reducible refine Kd.C_alloc ?_ _) | (with_reducible refine Kd.C_drewN ?_ _) | (with_reducible refine Kd.C_drew ?_))); (case side2 => exact HC0_3.out); (case side3 => exact Vars.below HV.out (hbA HB.out)); rintro e w56 ⟨rfl, hb⟩; refine ⟨_, rfl, ?_⟩; replace BK130 := Aside0.mk (blk_below (g := gb130) (o := .cells #[.int .i64 a0_0, .string a0_1, .int .i64 a0_2, .slice A0_3 l0_3.length c0_3] 31 (0, 0)) (rbA BK130.out) hb); replace HB := Aside0.mk (below_step (hbA HB.out) hb); (try clear hb); (try clear hb2); (try clear hk); (try clear hi)))
 go_ret2
 exact ⟨reA, hbA HB.out⟩

end
end Go.Proofs.YtfboejlemnfndaaGreatDoor.XMk
end
