/- Put together by wip/pack.py (this session's own program) out of this session's texts; a kit's tool laid the words and the shelf, of which only what is used stands here. Lean checks it. -/
import Derived.Test.YtfboejlemnfndaaGreatDoorPMo1
import Derived.Maps.OwnSet
import Derived.Maps.OwnOps
import Derived.Below
import Derived.Lib.Hide
import Derived.Sort.WalkA
import Derived.Test.YtfboejlemnfndaaGreatDoorProg
import Derived.Shelf.SlSortCmp.KitK
import Derived.Sort.WalkB2
import Derived.Sort.WalkB12
import Derived.Deep.LoopGhost
import Derived.KernelRfl
section
namespace Go.Proofs.YtfboejlemnfndaaGreatDoor.XMo
open Go.RowKit Go.Proofs.YtfboejlemnfndaaGreatDoorW.PrintWords Go.Proofs.YtfboejlemnfndaaGreatDoorW.PrintLast Go.Proofs.YtfboejlemnfndaaGreatDoorW.PrintMore
attribute [local go_sem] extract_sub max2_int min2_int max_two min_two max_three min_three max_four min_four   -- for this text's walks alone
set_option linter.unusedVariables false
set_option linter.unusedSimpArgs false

noncomputable section
def meta_modes.f (a0 : Int) : Option (ByteArray) := if a0 = 2 then (some (⟨#[65, 69, 80, 82, 83]⟩ : ByteArray)) else (some (⟨#[73, 68]⟩ : ByteArray))
set_option maxHeartbeats 8000000 in
set_option maxRecDepth 100000 in
theorem meta_modes.calls (a0 : Int) (r : ByteArray) (w : World) (h : meta_modes.f a0 = some r) :
 Calls Tryz.prog 79 #[.int .i64 a0] w fun e w' => e = .returned (.string r) ∧ Drawn0 w w' := by
 have H : (if a0 = 2 then (some (⟨#[65, 69, 80, 82, 83]⟩ : ByteArray)) else (some (⟨#[73, 68]⟩ : ByteArray))) = some r := h
 clear h
 by_cases c2 : a0 = 2
 · rw [if_pos c2] at H
   have c2b0 : (a0 == 2) = true := beq_iff_eq.mpr c2
   have c2b1 : (a0 != 2) = false := bne_eq_false_iff_eq.mpr c2
   clear c2
   obtain rfl := Option.some.inj H
   go_enter Tryz.func79, Tryz.ntmps79
   go_wp2
   go_ret
   exact ⟨rsA, drA⟩
 rw [if_neg c2] at H
 have c2b0 : (a0 == 2) = false := beq_eq_false_iff_ne.mpr c2
 have c2b1 : (a0 != 2) = true := bne_iff_ne.mpr c2
 obtain rfl := Option.some.inj H
 go_enter Tryz.func79, Tryz.ntmps79
 go_wp2
 go_ret
 exact ⟨rsA, drA⟩

def meta_right.f (k : Nat) (a0 : Int) (a1_0 : Int) (a1_1 : ByteArray) : Option (Bool) := (meta_sortOf.f k a1_0).bind fun t126 => (if t126 = 1 then ((digits_Parse.f a1_1).bind fun bt127 => (some (bt127.2 == 0))) else (if t126 = 2 then ((digits_Parse.f a1_1).bind fun bt129 => (if bt129.2 = 0 then (some (decide (bt129.1 ≤ 4294967295))) else (some false))) else (if t126 = 3 then ((digits_Signed.f k a1_1).bind fun bt131 => (some (bt131.2 == 0))) else (if t126 = 4 then ((fnv_Key.f k a1_1).bind fun t133 => (some t133)) else (if t126 = 5 then (if (a1_1.size : Int) = 1 then ((meta_modes.f a0).bind fun t134 => ((strings_Contains.f t134 a1_1).bind fun t135 => (some t135))) else (some false)) else (some (a1_1.toList == ([] : List UInt8))))))))
theorem meta_right.mono : ∀ a0 a1 a2 k, LeO (meta_right.f k a0 a1 a2) (meta_right.f (k + 1) a0 a1 a2) := by
 intro a0 a1 a2 k
 unfold meta_right.f
 repeat' first
  | (with_reducible exact digits_Signed.mono _ _)
  | (with_reducible exact fnv_Key.mono _ _)
  | (with_reducible exact meta_sortOf.mono _ _)
  | (with_reducible exact LeO.refl _)
  | (with_reducible exact LeO.none _)
  | (with_reducible refine LeO.ite ?_ ?_)
  | (with_reducible refine LeO.bind ?_ (fun _ => ?_))
  | exact digits_Signed.mono _ _
  | exact fnv_Key.mono _ _
  | exact meta_sortOf.mono _ _
  | exact LeO.none _
  | refine LeO.ite ?_ ?_
  | refine LeO.bind ?_ (fun _ => ?_)
def meta_right.T14 : Bool × List (List Nat × List Nat) := (true, [([], []), ([0], [0]), ([1], [1]), ([2], [2]), ([3], [3]), ([4], [4]), ([5, 4, 4], [4, 5]), ([4], [4]), ([7, 4], [4, 7]), ([6, 8, 6, 4], [4, 6, 8]), ([4, 9], [4, 9]), ([10, 9, 0, 1, 2, 3, 4, 5, 6, 7, 8, 9, 10], [10])])
def meta_right.B14 : List Nat := [0, 1, 3, 7, 15, 31, 63, 31, 159, 511, 1023, 2047]
theorem meta_right.tab14 : rtab .any (opsOf Tryz.f61 14) = meta_right.T14 := by kernel_rfl
theorem meta_right.bits14 : waitsOk meta_right.T14.2 meta_right.B14 = true := by kernel_rfl
set_option maxHeartbeats 8000000 in
set_option maxRecDepth 100000 in
theorem meta_right.calls (k : Nat) (a0 : Int) (a1_0 : Int) (a1_1 : ByteArray) (r : Bool) (w : World) (hv : Vars w) (h : meta_right.f k a0 a1_0 a1_1 = some r) :
 Calls Tryz.prog 61 #[.int .i64 a0, .agg #[.int .u8 a1_0, .string a1_1]] w fun e w' => e = .returned (.bool r) ∧ Below w.heap.size w w' := by
 have hu61 := Tryz.underlying61
 have HV := Aside0.mk hv
 clear hv
 have HB := Aside0.mk (Below.refl w.heap.size w)
 have H : ((meta_sortOf.f k a1_0).bind fun t126 => (if t126 = 1 then ((digits_Parse.f a1_1).bind fun bt127 => (some (bt127.2 == 0))) else (if t126 = 2 then ((digits_Parse.f a1_1).bind fun bt129 => (if bt129.2 = 0 then (some (decide (bt129.1 ≤ 4294967295))) else (some false))) else (if t126 = 3 then ((digits_Signed.f k a1_1).bind fun bt131 => (some (bt131.2 == 0))) else (if t126 = 4 then ((fnv_Key.f k a1_1).bind fun t133 => (some t133)) else (if t126 = 5 then (if (a1_1.size : Int) = 1 then ((meta_modes.f a0).bind fun t134 => ((strings_Contains.f t134 a1_1).bind fun t135 => (some t135))) else (some false)) else (some (a1_1.toList == ([] : List UInt8))))))))) = some r := h
 clear h
 replace H := Option.bind_eq_some_iff.mp H
 obtain ⟨t126, A30, H⟩ := H
 replace H : (if t126 = 1 then ((digits_Parse.f a1_1).bind fun bt127 => (some (bt127.2 == 0))) else (if t126 = 2 then ((digits_Parse.f a1_1).bind fun bt129 => (if bt129.2 = 0 then (some (decide (bt129.1 ≤ 4294967295))) else (some false))) else (if t126 = 3 then ((digits_Signed.f k a1_1).bind fun bt131 => (some (bt131.2 == 0))) else (if t126 = 4 then ((fnv_Key.f k a1_1).bind fun t133 => (some t133)) else (if t126 = 5 then (if (a1_1.size : Int) = 1 then ((meta_modes.f a0).bind fun t134 => ((strings_Contains.f t134 a1_1).bind fun t135 => (some t135))) else (some false)) else (some (a1_1.toList == ([] : List UInt8)))))))) = some r := H
 have A3 := Aside0.mk A30
 clear A30
 by_cases c4 : t126 = 1
 · rw [if_pos c4] at H
   have c4b0 : (t126 == 1) = true := beq_iff_eq.mpr c4
   have c4b1 : (t126 != 1) = false := bne_eq_false_iff_eq.mpr c4
   clear c4
   replace H := Option.bind_eq_some_iff.mp H
   obtain ⟨⟨t127, t128⟩, A50, H⟩ := H
   replace H : (some (t128 == 0)) = some r := H
   have A5 := Aside0.mk A50
   clear A50
   obtain rfl := Option.some.inj H
   go_enter Tryz.func61, Tryz.ntmps61
   go_wp2_with (first | ((with_reducible refine gate_dst (N := 3) rfl ?_); refine box_event ?hg (N := 3) ?hd (cs := #[.int .u8 a1_0, .string a1_1]) (t := 61) ?hr ?_; (case hd => rfl); (case hg => rfl); (case hr => first | (go_simp; done) | (go_simp; rfl)); intro gb125 hg w6 hbox hb; have n0_ := Aside0.mk (below_step (hbA HB.out) hb); have n1_ := Aside0.mk (hbox); have n2_ := Aside0.mk ((by rw [hg]; exact (below_size (hbA HB.out)) : w.heap.size ≤ gb125)); have n3_ := Aside0.mk ((by rw [hg]; exact (below_size (hbA HB.out)) : w.heap.size ≤ gb125)); clear HB; have HB := n0_; have BK125 := n1_; have GW125 := n2_; have GE125 := n3_; clear n0_ n1_ n2_ n3_; clear hb hbox hg; obtain ⟨hcz7_0, hcz7_1, hfz7_0, hfz7_1⟩ := blkA2 BK125.out) | ((with_reducible refine gate_callee (f := 36) rfl ?_); refine goesL_ (some 13) rfl rfl Tryz.func36 (by kernel_rfl) rfl #[.int .u8 a1_0] rfl argA ?_; (with_reducible refine (meta_sortOf.calls k a1_0 t126 _ A3.out).mono ?_); rintro e w' ⟨rfl, ⟨nd, rfl⟩⟩; refine ⟨_, rfl, ?_⟩) | ((with_reducible refine gate_callee (f := 38) rfl ?_); refine goesL_ (some 19) rfl rfl Tryz.func38 (by kernel_rfl) rfl #[.string a1_1] rfl argA ?_; (with_reducible refine (digits_Parse.calls a1_1 t127 t128 _ ?side1 A5.out).mono ?_); (case side1 => exact Vars.below HV.out (hbA HB.out)); rintro e w8 ⟨rfl, hb⟩; refine ⟨_, rfl, ?_⟩; replace BK125 := Aside0.mk (blk_below (g := gb125) (o := .cells #[.int .u8 a1_0, .string a1_1] 61 (0, 0)) (rbA BK125.out) hb); replace HB := Aside0.mk (below_step (hbA HB.out) hb); (try clear hb); (try clear hb2); (try clear hk); (try clear hi)))
   go_ret
   exact ⟨reA, hbA HB.out⟩
 rw [if_neg c4] at H
 have c4b0 : (t126 == 1) = false := beq_eq_false_iff_ne.mpr c4
 have c4b1 : (t126 != 1) = true := bne_iff_ne.mpr c4
 by_cases c9 : t126 = 2
 · rw [if_pos c9] at H
   have c9b0 : (t126 == 2) = true := beq_iff_eq.mpr c9
   have c9b1 : (t126 != 2) = false := bne_eq_false_iff_eq.mpr c9
   clear c9
   replace H := Option.bind_eq_some_iff.mp H
   obtain ⟨⟨t129, t130⟩, A100, H⟩ := H
   replace H : (if t130 = 0 then (some (decide (t129 ≤ 4294967295))) else (some false)) = some r := H
   have A10 := Aside0.mk A100
   clear A100
   by_cases c11 : t130 = 0
   · rw [if_pos c11] at H
     have c11b0 : (t130 == 0) = true := beq_iff_eq.mpr c11
     have c11b1 : (t130 != 0) = false := bne_eq_false_iff_eq.mpr c11
     clear c11
     obtain rfl := Option.some.inj H
     go_enter Tryz.func61, Tryz.ntmps61
     go_wp2_with (first | ((with_reducible refine gate_dst (N := 3) rfl ?_); refine box_event ?hg (N := 3) ?hd (cs := #[.int .u8 a1_0, .string a1_1]) (t := 61) ?hr ?_; (case hd => rfl); (case hg => rfl); (case hr => first | (go_simp; done) | (go_simp; rfl)); intro gb125 hg w12 hbox hb; have n0_ := Aside0.mk (below_step (hbA HB.out) hb); have n1_ := Aside0.mk (hbox); have n2_ := Aside0.mk ((by rw [hg]; exact (below_size (hbA HB.out)) : w.heap.size ≤ gb125)); have n3_ := Aside0.mk ((by rw [hg]; exact (below_size (hbA HB.out)) : w.heap.size ≤ gb125)); clear HB; have HB := n0_; have BK125 := n1_; have GW125 := n2_; have GE125 := n3_; clear n0_ n1_ n2_ n3_; clear hb hbox hg; obtain ⟨hcz13_0, hcz13_1, hfz13_0, hfz13_1⟩ := blkA2 BK125.out) | ((with_reducible refine gate_callee (f := 36) rfl ?_); refine goesL_ (some 13) rfl rfl Tryz.func36 (by kernel_rfl) rfl #[.int .u8 a1_0] rfl argA ?_; (with_reducible refine (meta_sortOf.calls k a1_0 t126 _ A3.out).mono ?_); rintro e w' ⟨rfl, ⟨nd, rfl⟩⟩; refine ⟨_, rfl, ?_⟩) | ((with_reducible refine gate_callee (f := 38) rfl ?_); refine goesL_ (some 29) rfl rfl Tryz.func38 (by kernel_rfl) rfl #[.string a1_1] rfl argA ?_; (with_reducible refine (digits_Parse.calls a1_1 t129 t130 _ ?side1 A10.out).mono ?_); (case side1 => exact Vars.below HV.out (hbA HB.out)); rintro e w14 ⟨rfl, hb⟩; refine ⟨_, rfl, ?_⟩; replace BK125 := Aside0.mk (blk_below (g := gb125) (o := .cells #[.int .u8 a1_0, .string a1_1] 61 (0, 0)) (rbA BK125.out) hb); replace HB := Aside0.mk (below_step (hbA HB.out) hb); (try clear hb); (try clear hb2); (try clear hk); (try clear hi)))
     go_ret
     exact ⟨reA, hbA HB.out⟩
   rw [if_neg c11] at H
   have c11b0 : (t130 == 0) = false := beq_eq_false_iff_ne.mpr c11
   have c11b1 : (t130 != 0) = true := bne_iff_ne.mpr c11
   obtain rfl := Option.some.inj H
   go_enter Tryz.func61, Tryz.ntmps61
   go_wp2_with (first | ((with_reducible refine gate_dst (N := 3) rfl ?_); refine box_event ?hg (N := 3) ?hd (cs := #[.int .u8 a1_0, .string a1_1]) (t := 61) ?hr ?_; (case hd => rfl); (case hg => rfl); (case hr => first | (go_simp; done) | (go_simp; rfl)); intro gb125 hg w15 hbox hb; have n0_ := Aside0.mk (below_step (hbA HB.out) hb); have n1_ := Aside0.mk (hbox); have n2_ := Aside0.mk ((by rw [hg]; exact (below_size (hbA HB.out)) : w.heap.size ≤ gb125)); have n3_ := Aside0.mk ((by rw [hg]; exact (below_size (hbA HB.out)) : w.heap.size ≤ gb125)); clear HB; have HB := n0_; have BK125 := n1_; have GW125 := n2_; have GE125 := n3_; clear n0_ n1_ n2_ n3_; clear hb hbox hg; obtain ⟨hcz16_0, hcz16_1, hfz16_0, hfz16_1⟩ := blkA2 BK125.out) | ((with_reducible refine gate_callee (f := 36) rfl ?_); refine goesL_ (some 13) rfl rfl Tryz.func36 (by kernel_rfl) rfl #[.int .u8 a1_0] rfl argA ?_; (with_reducible refine (meta_sortOf.calls k a1_0 t126 _ A3.out).mono ?_); rintro e w' ⟨rfl, ⟨nd, rfl⟩⟩; refine ⟨_, rfl, ?_⟩) | ((with_reducible refine gate_callee (f := 38) rfl ?_); refine goesL_ (some 29) rfl rfl Tryz.func38 (by kernel_rfl) rfl #[.string a1_1] rfl argA ?_; (with_reducible refine (digits_Parse.calls a1_1 t129 t130 _ ?side1 A10.out).mono ?_); (case side1 => exact Vars.below HV.out (hbA HB.out)); rintro e w17 ⟨rfl, hb⟩; refine ⟨_, rfl, ?_⟩; replace BK125 := Aside0.mk (blk_below (g := gb125) (o := .cells #[.int .u8 a1_0, .string a1_1] 61 (0, 0)) (rbA BK125.out) hb); replace HB := Aside0.mk (below_step (hbA HB.out) hb); (try clear hb); (try clear hb2); (try clear hk); (try clear hi)))
   go_ret
   exact ⟨reA, hbA HB.out⟩
 rw [if_neg c9] at H
 have c9b0 : (t126 == 2) = false := beq_eq_false_iff_ne.mpr c9
 have c9b1 : (t126 != 2) = true := bne_iff_ne.mpr c9
 by_cases c18 : t126 = 3
 · rw [if_pos c18] at H
   have c18b0 : (t126 == 3) = true := beq_iff_eq.mpr c18
   have c18b1 : (t126 != 3) = false := bne_eq_false_iff_eq.mpr c18
   clear c18
   replace H := Option.bind_eq_some_iff.mp H
   obtain ⟨⟨t131, t132⟩, A190, H⟩ := H
   replace H : (some (t132 == 0)) = some r := H
   have A19 := Aside0.mk A190
   clear A190
   obtain rfl := Option.some.inj H
   go_enter Tryz.func61, Tryz.ntmps61
   go_wp2_with (first | ((with_reducible refine gate_dst (N := 3) rfl ?_); refine box_event ?hg (N := 3) ?hd (cs := #[.int .u8 a1_0, .string a1_1]) (t := 61) ?hr ?_; (case hd => rfl); (case hg => rfl); (case hr => first | (go_simp; done) | (go_simp; rfl)); intro gb125 hg w20 hbox hb; have n0_ := Aside0.mk (below_step (hbA HB.out) hb); have n1_ := Aside0.mk (hbox); have n2_ := Aside0.mk ((by rw [hg]; exact (below_size (hbA HB.out)) : w.heap.size ≤ gb125)); have n3_ := Aside0.mk ((by rw [hg]; exact (below_size (hbA HB.out)) : w.heap.size ≤ gb125)); clear HB; have HB := n0_; have BK125 := n1_; have GW125 := n2_; have GE125 := n3_; clear n0_ n1_ n2_ n3_; clear hb hbox hg; obtain ⟨hcz21_0, hcz21_1, hfz21_0, hfz21_1⟩ := blkA2 BK125.out) | ((with_reducible refine gate_callee (f := 36) rfl ?_); refine goesL_ (some 13) rfl rfl Tryz.func36 (by kernel_rfl) rfl #[.int .u8 a1_0] rfl argA ?_; (with_reducible refine (meta_sortOf.calls k a1_0 t126 _ A3.out).mono ?_); rintro e w' ⟨rfl, ⟨nd, rfl⟩⟩; refine ⟨_, rfl, ?_⟩) | ((with_reducible refine gate_callee (f := 37) rfl ?_); refine goesL_ (some 43) rfl rfl Tryz.func37 (by kernel_rfl) rfl #[.string a1_1] rfl argA ?_; (with_reducible refine (digits_Signed.calls k a1_1 t131 t132 _ ?side1 A19.out).mono ?_); (case side1 => exact Vars.below HV.out (hbA HB.out)); rintro e w22 ⟨rfl, hb⟩; refine ⟨_, rfl, ?_⟩; replace BK125 := Aside0.mk (blk_below (g := gb125) (o := .cells #[.int .u8 a1_0, .string a1_1] 61 (0, 0)) (rbA BK125.out) hb); replace HB := Aside0.mk (below_step (hbA HB.out) hb); (try clear hb); (try clear hb2); (try clear hk); (try clear hi)))
   go_ret
   exact ⟨reA, hbA HB.out⟩
 rw [if_neg c18] at H
 have c18b0 : (t126 == 3) = false := beq_eq_false_iff_ne.mpr c18
 have c18b1 : (t126 != 3) = true := bne_iff_ne.mpr c18
 by_cases c23 : t126 = 4
 · rw [if_pos c23] at H
   have c23b0 : (t126 == 4) = true := beq_iff_eq.mpr c23
   have c23b1 : (t126 != 4) = false := bne_eq_false_iff_eq.mpr c23
   clear c23
   replace H := Option.bind_eq_some_iff.mp H
   obtain ⟨t133, A240, H⟩ := H
   replace H : (some t133) = some r := H
   have A24 := Aside0.mk A240
   clear A240
   obtain rfl := Option.some.inj H
   go_enter Tryz.func61, Tryz.ntmps61
   go_wp2_with (first | ((with_reducible refine gate_dst (N := 3) rfl ?_); refine box_event ?hg (N := 3) ?hd (cs := #[.int .u8 a1_0, .string a1_1]) (t := 61) ?hr ?_; (case hd => rfl); (case hg => rfl); (case hr => first | (go_simp; done) | (go_simp; rfl)); intro gb125 hg w25 hbox hb; have n0_ := Aside0.mk (below_step (hbA HB.out) hb); have n1_ := Aside0.mk (hbox); have n2_ := Aside0.mk ((by rw [hg]; exact (below_size (hbA HB.out)) : w.heap.size ≤ gb125)); have n3_ := Aside0.mk ((by rw [hg]; exact (below_size (hbA HB.out)) : w.heap.size ≤ gb125)); clear HB; have HB := n0_; have BK125 := n1_; have GW125 := n2_; have GE125 := n3_; clear n0_ n1_ n2_ n3_; clear hb hbox hg; obtain ⟨hcz26_0, hcz26_1, hfz26_0, hfz26_1⟩ := blkA2 BK125.out) | ((with_reducible refine gate_callee (f := 36) rfl ?_); refine goesL_ (some 13) rfl rfl Tryz.func36 (by kernel_rfl) rfl #[.int .u8 a1_0] rfl argA ?_; (with_reducible refine (meta_sortOf.calls k a1_0 t126 _ A3.out).mono ?_); rintro e w' ⟨rfl, ⟨nd, rfl⟩⟩; refine ⟨_, rfl, ?_⟩) | ((with_reducible refine gate_callee (f := 77) rfl ?_); refine goesL_ (some 52) rfl rfl Tryz.func77 (by kernel_rfl) rfl #[.string a1_1] rfl argA ?_; (with_reducible refine (fnv_Key.calls k a1_1 t133 _ A24.out).mono ?_); rintro e w' ⟨rfl, ⟨nd, rfl⟩⟩; refine ⟨_, rfl, ?_⟩))
   go_ret
   exact ⟨reA, hbA HB.out⟩
 rw [if_neg c23] at H
 have c23b0 : (t126 == 4) = false := beq_eq_false_iff_ne.mpr c23
 have c23b1 : (t126 != 4) = true := bne_iff_ne.mpr c23
 by_cases c27 : t126 = 5
 · rw [if_pos c27] at H
   have c27b0 : (t126 == 5) = true := beq_iff_eq.mpr c27
   have c27b1 : (t126 != 5) = false := bne_eq_false_iff_eq.mpr c27
   clear c27
   by_cases c28 : (a1_1.size : Int) = 1
   · rw [if_pos c28] at H
     have c28b0 : ((a1_1.size : Int) == 1) = true := beq_iff_eq.mpr c28
     have c28b1 : ((a1_1.size : Int) != 1) = false := bne_eq_false_iff_eq.mpr c28
     clear c28
     replace H := Option.bind_eq_some_iff.mp H
     obtain ⟨t134, A290, H⟩ := H
     replace H : ((strings_Contains.f t134 a1_1).bind fun t135 => (some t135)) = some r := H
     have A29 := Aside0.mk A290
     clear A290
     replace H := Option.bind_eq_some_iff.mp H
     obtain ⟨t135, A300, H⟩ := H
     replace H : (some t135) = some r := H
     have A30 := Aside0.mk A300
     clear A300
     obtain rfl := Option.some.inj H
     go_enter Tryz.func61, Tryz.ntmps61
     try go_wp2_with (first | ((with_reducible refine gate_dst (N := 3) rfl ?_); refine box_event ?hg (N := 3) ?hd (cs := #[.int .u8 a1_0, .string a1_1]) (t := 61) ?hr ?_; (case hd => rfl); (case hg => rfl); (case hr => first | (go_simp; done) | (go_simp; rfl)); intro gb125 hg w31 hbox hb; have n0_ := Aside0.mk (below_step (hbA HB.out) hb); have n1_ := Aside0.mk (hbox); have n2_ := Aside0.mk ((by rw [hg]; exact (below_size (hbA HB.out)) : w.heap.size ≤ gb125)); have n3_ := Aside0.mk ((by rw [hg]; exact (below_size (hbA HB.out)) : w.heap.size ≤ gb125)); clear HB; have HB := n0_; have BK125 := n1_; have GW125 := n2_; have GE125 := n3_; clear n0_ n1_ n2_ n3_; clear hb hbox hg; obtain ⟨hcz32_0, hcz32_1, hfz32_0, hfz32_1⟩ := blkA2 BK125.out) | ((with_reducible refine gate_callee (f := 36) rfl ?_); refine goesL_ (some 13) rfl rfl Tryz.func36 (by kernel_rfl) rfl #[.int .u8 a1_0] rfl argA ?_; (with_reducible refine (meta_sortOf.calls k a1_0 t126 _ A3.out).mono ?_); rintro e w' ⟨rfl, ⟨nd, rfl⟩⟩; refine ⟨_, rfl, ?_⟩))
     (try (rw [drewN_self w31]; generalize hq_ : World.drewN w31 _ = w31; have n0_ : Aside0 (w31.heap[gb125]? = some (.cells #[.int .u8 a1_0, .string a1_1] 61 (0, 0))) := ⟨by rw [← hq_]; exact (rbA BK125.out)⟩; have n1_ : Aside0 (Below w.heap.size w w31) := ⟨by rw [← hq_]; exact (hbA HB.out)⟩; clear BK125 HB hq_; have BK125 := n0_; have HB := n1_; clear n0_ n1_))
     replace BK125 := Aside0.mk (blk_drew BK125.out)
     replace HB := Aside0.mk (below_drew1 HB.out)
     refine start_ (n := 12) (S := fun w' => w'.cell? ⟨gb125, 0, none⟩ = some (.int .u8 a1_0) ∧ w'.cell? ⟨gb125, 1, none⟩ = some (.string a1_1)) (ds := []) #[false, false, false, false, false, false, false, false, false, false, false, false] (by kernel_rfl) rfl rfl ⟨(blk_cell BK125.out 0).trans rfl, (blk_cell BK125.out 1).trans rfl⟩ (fun hHeld => ?_); refine with_tabW meta_right.tab14 meta_right.bits14 (fun HT_ HW_ => ?_)
     generalize w31.drew = w33 at BK125 HB hHeld ⊢
     refine pureA_ (i := 0) (N := some 55) #[true, false, false, false, false, false, false, false, false, false, false, false] rfl rfl ?_ (hc := any_of HT_.out (by kernel_rfl))
     refine takeA_ (i := 1) (N := some 56) #[true, true, false, false, false, false, false, false, false, false, false, false] rfl rfl hHeld ?_ (hc := take_ofW HT_.out HW_.out (by kernel_rfl)) (hy := by rintro w' ⟨s0, s1⟩; go_simp; with_reducible rfl)
     refine pureA_ (i := 2) (N := some 57) #[true, true, true, false, false, false, false, false, false, false, false, false] rfl rfl ?_ (hc := any_of HT_.out (by kernel_rfl))
     refine pureA_ (i := 3) (N := some 58) #[true, true, true, true, false, false, false, false, false, false, false, false] rfl rfl ?_ (hc := any_of HT_.out (by kernel_rfl))
     refine pureA_ (i := 4) (N := some 59) #[true, true, true, true, true, false, false, false, false, false, false, false] rfl rfl ?_ (hc := any_of HT_.out (by kernel_rfl))
     refine pureA_ (i := 5) (N := some 60) #[true, true, true, true, true, true, false, false, false, false, false, false] rfl rfl ?_ (hc := any_of HT_.out (by kernel_rfl))
     refine pureA_ (i := 7) (N := some 62) #[true, true, true, true, true, true, false, true, false, false, false, false] rfl rfl ?_ (hc := any_of HT_.out (by kernel_rfl))
     refine takeA_ (i := 8) (N := some 63) #[true, true, true, true, true, true, false, true, true, false, false, false] rfl rfl hHeld ?_ (hc := take_ofW HT_.out HW_.out (by kernel_rfl)) (hy := by rintro w' ⟨s0, s1⟩; go_simp; with_reducible rfl)
     refine one_ (i := 6) (N := some 61) #[true, true, true, true, true, true, true, true, true, false, false, false] rfl rfl (one_of HT_.out (by kernel_rfl)) (by decide) (fun K hK => ?_)
     refine goes_ Tryz.func79 (by kernel_rfl) rfl #[.int .i64 a0] (by rfl) rfl rfl argA ?_
     with_reducible refine (meta_modes.calls a0 t134 _ A29.out).mono ?_
     rintro e w' ⟨rfl, ⟨nd, rfl⟩⟩
     refine ⟨_, rfl, ?_⟩
     refine hK.out _ _ ⟨(blk_cell BK125.out 0).trans rfl, (blk_cell BK125.out 1).trans rfl⟩ (fun hHeld => ?_)
     clear hK K
     refine normA_ ?_
     refine one_ (i := 9) (N := some 64) #[true, true, true, true, true, true, true, true, true, true, false, false] rfl rfl (one_of HT_.out (by kernel_rfl)) (by decide) (fun K hK => ?_)
     refine goes_ Tryz.func78 (by kernel_rfl) rfl #[.string t134, .string a1_1] (by rfl) rfl rfl argA ?_
     with_reducible refine (strings_Contains.calls t134 a1_1 t135 _ ?side1 A30.out).mono ?_
     (case side1 => exact Vars.below HV.out (hbA HB.out))
     rintro e w34 ⟨rfl, hb⟩
     refine ⟨_, rfl, ?_⟩
     replace BK125 := Aside0.mk (blk_below (g := gb125) (o := .cells #[.int .u8 a1_0, .string a1_1] 61 (0, 0)) (rbA BK125.out) hb)
     replace HB := Aside0.mk (below_step (hbA HB.out) hb)
     (try clear hb)
     (try clear hb2)
     (try clear hk)
     (try clear hi)
     refine hK.out _ _ ⟨(blk_cell BK125.out 0).trans rfl, (blk_cell BK125.out 1).trans rfl⟩ (fun hHeld => ?_)
     clear hK K
     refine normA_ ?_
     refine pureA_ (i := 10) (N := some 65) #[true, true, true, true, true, true, true, true, true, true, true, false] rfl rfl ?_ (hc := any_of HT_.out (by kernel_rfl))
     refine pureA_ (i := 11) (N := some 4) #[true, true, true, true, true, true, true, true, true, true, true, true] rfl rfl ?_ (hc := any_of HT_.out (by kernel_rfl))
     refine done_ (done_of HT_.out (by kernel_rfl)) ?_
     try go_wp2
     go_ret
     exact ⟨reA, hbA HB.out⟩
   rw [if_neg c28] at H
   have c28b0 : ((a1_1.size : Int) == 1) = false := beq_eq_false_iff_ne.mpr c28
   have c28b1 : ((a1_1.size : Int) != 1) = true := bne_iff_ne.mpr c28
   obtain rfl := Option.some.inj H
   go_enter Tryz.func61, Tryz.ntmps61
   try go_wp2_with (first | ((with_reducible refine gate_dst (N := 3) rfl ?_); refine box_event ?hg (N := 3) ?hd (cs := #[.int .u8 a1_0, .string a1_1]) (t := 61) ?hr ?_; (case hd => rfl); (case hg => rfl); (case hr => first | (go_simp; done) | (go_simp; rfl)); intro gb125 hg w35 hbox hb; have n0_ := Aside0.mk (below_step (hbA HB.out) hb); have n1_ := Aside0.mk (hbox); have n2_ := Aside0.mk ((by rw [hg]; exact (below_size (hbA HB.out)) : w.heap.size ≤ gb125)); have n3_ := Aside0.mk ((by rw [hg]; exact (below_size (hbA HB.out)) : w.heap.size ≤ gb125)); clear HB; have HB := n0_; have BK125 := n1_; have GW125 := n2_; have GE125 := n3_; clear n0_ n1_ n2_ n3_; clear hb hbox hg; obtain ⟨hcz36_0, hcz36_1, hfz36_0, hfz36_1⟩ := blkA2 BK125.out) | ((with_reducible refine gate_callee (f := 36) rfl ?_); refine goesL_ (some 13) rfl rfl Tryz.func36 (by kernel_rfl) rfl #[.int .u8 a1_0] rfl argA ?_; (with_reducible refine (meta_sortOf.calls k a1_0 t126 _ A3.out).mono ?_); rintro e w' ⟨rfl, ⟨nd, rfl⟩⟩; refine ⟨_, rfl, ?_⟩))
   (try (rw [drewN_self w35]; generalize hq_ : World.drewN w35 _ = w35; have n0_ : Aside0 (w35.heap[gb125]? = some (.cells #[.int .u8 a1_0, .string a1_1] 61 (0, 0))) := ⟨by rw [← hq_]; exact (rbA BK125.out)⟩; have n1_ : Aside0 (Below w.heap.size w w35) := ⟨by rw [← hq_]; exact (hbA HB.out)⟩; clear BK125 HB hq_; have BK125 := n0_; have HB := n1_; clear n0_ n1_))
   replace BK125 := Aside0.mk (blk_drew BK125.out)
   replace HB := Aside0.mk (below_drew1 HB.out)
   refine start_ (n := 12) (S := fun w' => w'.cell? ⟨gb125, 0, none⟩ = some (.int .u8 a1_0) ∧ w'.cell? ⟨gb125, 1, none⟩ = some (.string a1_1)) (ds := []) #[false, false, false, false, false, false, false, false, false, false, false, false] (by kernel_rfl) rfl rfl ⟨(blk_cell BK125.out 0).trans rfl, (blk_cell BK125.out 1).trans rfl⟩ (fun hHeld => ?_); refine with_tabW meta_right.tab14 meta_right.bits14 (fun HT_ HW_ => ?_)
   generalize w35.drew = w37 at BK125 HB hHeld ⊢
   refine pureA_ (i := 0) (N := some 55) #[true, false, false, false, false, false, false, false, false, false, false, false] rfl rfl ?_ (hc := any_of HT_.out (by kernel_rfl))
   refine takeA_ (i := 1) (N := some 56) #[true, true, false, false, false, false, false, false, false, false, false, false] rfl rfl hHeld ?_ (hc := take_ofW HT_.out HW_.out (by kernel_rfl)) (hy := by rintro w' ⟨s0, s1⟩; go_simp; with_reducible rfl)
   refine pureA_ (i := 2) (N := some 57) #[true, true, true, false, false, false, false, false, false, false, false, false] rfl rfl ?_ (hc := any_of HT_.out (by kernel_rfl))
   refine pureA_ (i := 3) (N := some 58) #[true, true, true, true, false, false, false, false, false, false, false, false] rfl rfl ?_ (hc := any_of HT_.out (by kernel_rfl))
   refine pureA_ (i := 4) (N := some 59) #[true, true, true, true, true, false, false, false, false, false, false, false] rfl rfl ?_ (hc := any_of HT_.out (by kernel_rfl))
   refine pure_ (i := 5) (N := some 60) (v := undef) (a' := ?_) #[true, true, true, true, true, true, false, false, false, false, false, false] rfl rfl (any_of HT_.out (by kernel_rfl)) (fun _ _ _ h => h) (Or.inr ⟨by rfl, rfl⟩) ?_ ?_
   rotate_left
   · simp only [Act.put, List.setIfInBounds_toArray, List.set_cons_zero, List.set_cons_succ, i64_w, i32_w]
     rfl
   refine pure_ (i := 6) (N := some 61) (v := undef) (a' := ?_) #[true, true, true, true, true, true, true, false, false, false, false, false] rfl rfl (any_of HT_.out (by kernel_rfl)) (fun _ _ _ h => h) (Or.inr ⟨by rfl, rfl⟩) ?_ ?_
   rotate_left
   · simp only [Act.put, List.setIfInBounds_toArray, List.set_cons_zero, List.set_cons_succ, i64_w, i32_w]
     rfl
   refine pure_ (i := 7) (N := some 62) (v := undef) (a' := ?_) #[true, true, true, true, true, true, true, true, false, false, false, false] rfl rfl (any_of HT_.out (by kernel_rfl)) (fun _ _ _ h => h) (Or.inr ⟨by rfl, rfl⟩) ?_ ?_
   rotate_left
   · simp only [Act.put, List.setIfInBounds_toArray, List.set_cons_zero, List.set_cons_succ, i64_w, i32_w]
     rfl
   refine pure_ (i := 8) (N := some 63) (v := undef) (a' := ?_) #[true, true, true, true, true, true, true, true, true, false, false, false] rfl rfl (any_of HT_.out (by kernel_rfl)) (fun _ _ _ h => h) (Or.inr ⟨by rfl, rfl⟩) ?_ ?_
   rotate_left
   · simp only [Act.put, List.setIfInBounds_toArray, List.set_cons_zero, List.set_cons_succ, i64_w, i32_w]
     rfl
   refine pure_ (i := 9) (N := some 64) (v := undef) (a' := ?_) #[true, true, true, true, true, true, true, true, true, true, false, false] rfl rfl (any_of HT_.out (by kernel_rfl)) (fun _ _ _ h => h) (Or.inr ⟨by rfl, rfl⟩) ?_ ?_
   rotate_left
   · simp only [Act.put, List.setIfInBounds_toArray, List.set_cons_zero, List.set_cons_succ, i64_w, i32_w]
     rfl
   refine pureA_ (i := 10) (N := some 65) #[true, true, true, true, true, true, true, true, true, true, true, false] rfl rfl ?_ (hc := any_of HT_.out (by kernel_rfl))
   refine pureA_ (i := 11) (N := some 4) #[true, true, true, true, true, true, true, true, true, true, true, true] rfl rfl ?_ (hc := any_of HT_.out (by kernel_rfl))
   refine done_ (done_of HT_.out (by kernel_rfl)) ?_
   try go_wp2
   go_ret
   exact ⟨reA, hbA HB.out⟩
 rw [if_neg c27] at H
 have c27b0 : (t126 == 5) = false := beq_eq_false_iff_ne.mpr c27
 have c27b1 : (t126 != 5) = true := bne_iff_ne.mpr c27
 obtain rfl := Option.some.inj H
 go_enter Tryz.func61, Tryz.ntmps61
 go_wp2_with (first | ((with_reducible refine gate_dst (N := 3) rfl ?_); refine box_event ?hg (N := 3) ?hd (cs := #[.int .u8 a1_0, .string a1_1]) (t := 61) ?hr ?_; (case hd => rfl); (case hg => rfl); (case hr => first | (go_simp; done) | (go_simp; rfl)); intro gb125 hg w38 hbox hb; have n0_ := Aside0.mk (below_step (hbA HB.out) hb); have n1_ := Aside0.mk (hbox); have n2_ := Aside0.mk ((by rw [hg]; exact (below_size (hbA HB.out)) : w.heap.size ≤ gb125)); have n3_ := Aside0.mk ((by rw [hg]; exact (below_size (hbA HB.out)) : w.heap.size ≤ gb125)); clear HB; have HB := n0_; have BK125 := n1_; have GW125 := n2_; have GE125 := n3_; clear n0_ n1_ n2_ n3_; clear hb hbox hg; obtain ⟨hcz39_0, hcz39_1, hfz39_0, hfz39_1⟩ := blkA2 BK125.out) | ((with_reducible refine gate_callee (f := 36) rfl ?_); refine goesL_ (some 13) rfl rfl Tryz.func36 (by kernel_rfl) rfl #[.int .u8 a1_0] rfl argA ?_; (with_reducible refine (meta_sortOf.calls k a1_0 t126 _ A3.out).mono ?_); rintro e w' ⟨rfl, ⟨nd, rfl⟩⟩; refine ⟨_, rfl, ?_⟩))
 go_ret
 exact ⟨reA, hbA HB.out⟩

end
end Go.Proofs.YtfboejlemnfndaaGreatDoor.XMo
end
section
namespace Go.Proofs.YtfboejlemnfndaaGreatDoor
open Go.Maps (Keyed)
open Go.RowKit
open Classical in
noncomputable def putF (F : Lit → Option Value) (kl : Lit) (v : Option Value) : Lit → Option Value := fun l => if l = kl then v else F l
theorem putF_same (F : Lit → Option Value) (kl : Lit) (v : Option Value) : putF F kl v kl = v := if_pos rfl
theorem putF_other (F : Lit → Option Value) {kl l : Lit} (v : Option Value) (h : l ≠ kl) : putF F kl v l = F l := if_neg h
def tokR (v : Value) : Option (DataW Value × List MemPlace) := some (.held v, [])
def mapF (w : World) (P : Program) (k : TypeId) (b n : Nat) (F : Lit → Option Value) : Prop :=
  ∃ D : DataW Value, w.ownsMap P k tokR b n D ∧ Maps.IsMap D ∧ ∀ kl, WideAt.IsKeyLit kl → (∀ z, D.atKey kl (.held z) = .held ((F kl).getD z)) ∧ Maps.has D kl = (F kl).isSome
section
variable {P : Program} {k : TypeId} {w w' : World} {b n : Nat} {F : Lit → Option Value}
theorem mapF_made (w : World) (P : Program) (k : TypeId) : mapF (w.alloc (.map #[] 0)) P k w.heap.size 0 (fun _ => none) :=
  ⟨.map [], World.ownsMap_made w P k tokR, ⟨[], rfl⟩, fun _ _ => ⟨fun _ => rfl, rfl⟩⟩
theorem mapF.mono (h : mapF w P k b n F) {n' : Nat} (hn : n ≤ n') : mapF w P k b n' F := by
  obtain ⟨D, ho, h1, h2⟩ := h
  exact ⟨D, ho.mono hn, h1, h2⟩
theorem mapF.lt (h : mapF w P k b n F) : b < w.heap.size := by
  obtain ⟨D, ho, h1, h2⟩ := h
  exact ho.lt
theorem mapF.same (h : mapF w P k b n F) (e : w'.heap[b]? = w.heap[b]?) : mapF w' P k b n F := by
  obtain ⟨D, ⟨es, clock, hb, ho⟩, h1, h2⟩ := h
  exact ⟨D, ⟨es, clock, e.trans hb, ho⟩, h1, h2⟩
theorem mapF.kept {row : Option Nat} (h : mapF w P k b n F) (hg : w.grownBy w' row) (hne : some b ≠ row) : mapF w' P k b n F := h.same (hg.block b h.lt hne)
theorem mapF.alloc (h : mapF w P k b n F) (o : Obj) : mapF (w.alloc o) P k b n F := h.kept (World.grownBy_alloc w o none) (by simp)
theorem mapF.below {B : Nat} (h : mapF w P k b n F) (hb : Below B w w') (hlt : b < B) : mapF w' P k b n F := h.same (hb.block b hlt)
theorem mapF.eq (h : mapF w P k b n F) {G : Lit → Option Value} (e : ∀ kl, WideAt.IsKeyLit kl → F kl = G kl) : mapF w P k b n G := by
  obtain ⟨D, ho, h1, h2⟩ := h
  exact ⟨D, ho, h1, fun kl hk => by rw [← e kl hk]; exact h2 kl hk⟩
theorem tokR_inj {v u : Value} {ps : List MemPlace} (h : tokR v = some (.held u, ps)) : v = u := by
  unfold tokR at h
  injection h with h
  injection h with h1 h2
  injection h1
theorem wpList_lookup_F {ops : Array Oper} {rest : List Oper} {o : Oper} {a : Act} {Q : Exit → Act → World → Prop}
    (hg : o.guard = none) (m x : Operand) (t : TypeId) (hop : o.op = Op.lookup t m x false)
    (k e : TypeId) (K : Keyed P k) (ht : P.underlying t = some (.map k e)) {z : Value} (hz : (zeroValue e).run P w = .ok z w) (b n : Nat) (F : Lit → Option Value)
    (hm : a.eval m = .map (some b)) (hown : mapF w P k b n F) (key : Value) (kl : Lit) (hx : a.eval x = key) (hkey : keyOf P k key = some kl) (v : Value) (hv : (F kl).getD z = v)
    (hK : wpList P ops Q rest (a.put o.dst v) w) : wpList P ops Q (o :: rest) a w := by
  refine wpList_plain hg fun K' hK' => ?_
  obtain ⟨D, ho, h1, h2⟩ := hown
  obtain ⟨u, ps, hrun, hu⟩ := ho.lookup K ht hz (zd := .held z) (zp := []) rfl hkey
  rw [(h2 kl (K.key hkey)).1 z, hv] at hu
  obtain rfl := tokR_inj hu
  unfold Oper.wp
  simp [execOp, hop, hm, hx, hrun, Result.andThen]
  exact hK' _ _ hK
theorem wpList_lookup_ok_F {ops : Array Oper} {rest : List Oper} {o : Oper} {a : Act} {Q : Exit → Act → World → Prop}
    (hg : o.guard = none) (m x : Operand) (t : TypeId) (hop : o.op = Op.lookup t m x true)
    (k e : TypeId) (K : Keyed P k) (ht : P.underlying t = some (.map k e)) {z : Value} (hz : (zeroValue e).run P w = .ok z w) (b n : Nat) (F : Lit → Option Value)
    (hm : a.eval m = .map (some b)) (hown : mapF w P k b n F) (key : Value) (kl : Lit) (hx : a.eval x = key) (hkey : keyOf P k key = some kl) (v : Value) (ok : Bool) (hv : (F kl).getD z = v) (hok : (F kl).isSome = ok)
    (hK : wpList P ops Q rest (a.put o.dst (.tuple #[v, .bool ok])) w) : wpList P ops Q (o :: rest) a w := by
  obtain ⟨D, ho, h1, h2⟩ := hown
  refine wpList_lookup_own_ok w hg m x t hop k e K ht tokR hz (.held z) [] rfl b n D hm ho key kl hx hkey (fun u ps hu => ?_)
  rw [(h2 kl (K.key hkey)).1 z, hv] at hu
  obtain rfl := tokR_inj hu
  rw [(h2 kl (K.key hkey)).2, hok]
  exact hK
theorem wpList_mapUpdate_F {ops : Array Oper} {rest : List Oper} {o : Oper} {a : Act} {Q : Exit → Act → World → Prop}
    (hg : o.guard = none) (m x v : Operand) (t : TypeId) (hop : o.op = Op.mapUpdate t m x v)
    (k e : TypeId) (K : Keyed P k) (ht : P.underlying t = some (.map k e)) (b n : Nat) (F : Lit → Option Value)
    (hm : a.eval m = .map (some b)) (hown : mapF w P k b n F) (hn : n < maxLen) (key val : Value) (kl : Lit) (hx : a.eval x = key) (hv : a.eval v = val) (hkey : keyOf P k key = some kl)
    (hK : ∀ w', mapF w' P k b (n + 1) (putF F kl (some val)) → w.grownBy w' (some b) → wpList P ops Q rest (a.put o.dst undef) w') : wpList P ops Q (o :: rest) a w := by
  obtain ⟨D, ho, h1, h2⟩ := hown
  refine wpList_mapUpdate_own w hg m x v t hop k e K ht tokR b n D hm ho hn key val kl hx hv hkey (.held val) [] rfl (fun w' ho' hg' => ?_)
  refine hK w' ⟨_, ho', h1.put _ _, fun l hl => ?_⟩ hg'
  by_cases e1 : l = kl
  · subst e1
    rw [putF_same]
    exact ⟨fun z => Maps.atKey_put_same h1 hl _ _, Maps.has_put_same h1 hl _⟩
  · rw [putF_other _ _ e1]
    refine ⟨fun z => ?_, ?_⟩
    · rw [Maps.atKey_put_other e1]; exact (h2 l hl).1 z
    · rw [Maps.has_put_other e1]; exact (h2 l hl).2
theorem wpList_delete_F {ops : Array Oper} {rest : List Oper} {o : Oper} {a : Act} {Q : Exit → Act → World → Prop}
    (hg : o.guard = none) (m x : Operand) (t k : TypeId) (hop : o.op = Op.call { callee := Callee.builtin Builtin.delete, args := #[m, x], argTypes := #[t, k] })
    (e : TypeId) (K : Keyed P k) (ht : P.underlying t = some (.map k e)) (b n : Nat) (F : Lit → Option Value)
    (hm : a.eval m = .map (some b)) (hown : mapF w P k b n F) (key : Value) (kl : Lit) (hx : a.eval x = key) (hkey : keyOf P k key = some kl)
    (hK : ∀ w', mapF w' P k b n (putF F kl none) → w.mapTurned w' b → wpList P ops Q rest (a.put o.dst (.tuple #[])) w') : wpList P ops Q (o :: rest) a w := by
  obtain ⟨D, ho, h1, h2⟩ := hown
  refine wpList_delete_own w hg m x t k hop e K ht tokR b n D hm ho key kl hx hkey (fun w' ho' hg' => ?_)
  refine hK w' ⟨_, ho', h1.del _, fun l hl => ?_⟩ hg'
  by_cases e1 : l = kl
  · subst e1
    rw [putF_same]
    exact ⟨fun z => Maps.atKey_del_same _, Maps.has_del_same⟩
  · rw [putF_other _ _ e1]
    refine ⟨fun z => ?_, ?_⟩
    · rw [Maps.atKey_del_other e1]; exact (h2 l hl).1 z
    · rw [Maps.has_del_other e1]; exact (h2 l hl).2
end
end Go.Proofs.YtfboejlemnfndaaGreatDoor
end
section
namespace Go.Proofs.YtfboejlemnfndaaGreatDoor.XMo
open Go.RowKit Go.Proofs.YtfboejlemnfndaaGreatDoorW.PrintWords Go.Proofs.YtfboejlemnfndaaGreatDoorW.PrintLast Go.Proofs.YtfboejlemnfndaaGreatDoorW.PrintMore
attribute [local go_sem] extract_sub max2_int min2_int max_two min_two max_three min_three max_four min_four   -- for this text's walks alone
set_option linter.unusedVariables false
set_option linter.unusedSimpArgs false

noncomputable section
def meta_shape.go (k : Nat) (op : Int) : List S61 → List Int → Option Int
 | [], _ => some 0
 | x :: l, seen => (meta_owns.f op x.f0).bind fun b => if b = true then (if seen.contains x.f0 = true then some 4 else (meta_right.f k op x.f0 x.f1).bind fun q => if q = true then meta_shape.go k op l (x.f0 :: seen) else some 6) else some 3
def meta_shape.f (k : Nat) (a0_0 : Int) (a0_1 : ByteArray) (a0_2 : Int) (l0_3 : List S61) : Option Int :=
 (meta_there.f a0_0).bind fun t => if t = true then (meta_key.f k a0_0 a0_1 a0_2 l0_3).bind fun y => if y = true then (if a0_2 < 0 ∨ a0_2 > 2147483647 ∨ (a0_0 ≠ 2 ∧ a0_2 ≠ 0) then some 6 else meta_shape.go k a0_0 l0_3 []) else some 6 else some 70
theorem meta_shape.go_mono (k : Nat) (op : Int) : ∀ l seen, LeO (meta_shape.go k op l seen) (meta_shape.go (k + 1) op l seen)
 | [], _ => LeO.refl _
 | x :: l, seen => by
  unfold meta_shape.go
  refine LeO.bind (LeO.refl _) (fun _ => LeO.ite (LeO.ite (LeO.refl _) (LeO.bind (meta_right.mono _ _ _ _) (fun _ => LeO.ite (meta_shape.go_mono k op l _) (LeO.refl _)))) (LeO.refl _))
theorem meta_shape.mono : ∀ a0 a1 a2 a3 k, LeO (meta_shape.f k a0 a1 a2 a3) (meta_shape.f (k + 1) a0 a1 a2 a3) := by
 intro a0 a1 a2 a3 k
 unfold meta_shape.f
 exact LeO.bind (LeO.refl _) (fun _ => LeO.ite (LeO.bind (meta_key.mono _ _ _ _ _) (fun _ => LeO.ite (LeO.ite (LeO.refl _) (meta_shape.go_mono k _ _ _)) (LeO.refl _))) (LeO.refl _))
noncomputable def meta_shape.seenF : List Int → Lit → Option Value
 | [] => fun _ => none
 | x :: s => putF (meta_shape.seenF s) (.int .u8 x) (some (.bool true))
theorem meta_shape.seen_at (x : Int) : ∀ s : List Int, (meta_shape.seenF s (.int .u8 x)).getD (.bool false) = .bool (s.contains x)
 | [] => rfl
 | y :: s => by
  unfold meta_shape.seenF
  by_cases h : x = y
  · subst h
    rw [putF_same]
    simp
  rw [putF_other _ _ (by intro e; injection e with _ e; exact h e), meta_shape.seen_at x s]
  have : (x == y) = false := by simpa using h
  rw [List.contains_cons, this, Bool.false_or]
theorem meta_shape.letter {op x : Int} (h : meta_owns.f op x = some true) : (Lit.int .u8 x).wf = true := by
 unfold meta_owns.f at h
 split at h
 · injection h with h
   obtain ⟨c, _, hc⟩ := List.any_eq_true.1 h
   have e : (c.toNat : Int) = x := by simpa using hc
   have := c.toNat_lt
   rw [← e]
   simp [Lit.wf, IntKind.min, IntKind.max, IntKind.signed, IntKind.bits]
   omega
 cases h
theorem meta_shape.law : Maps.Keyed Tryz.prog 5 := Maps.int_keyed Tryz.underlying5
theorem meta_shape.zeroE (w : World) : (zeroValue 4).run Tryz.prog w = .ok (.bool false) w := by kernel_rfl
def meta_shape.Rel (k : Nat) (op : Int) (key : ByteArray) (size : Int) (A : Option Addr) (c : Nat) (l : List S61) (r : Int) (w : World) (Bm j : Nat) (seen : List Int) (wr : World) : Prop :=
 mapF wr Tryz.prog 5 Bm j (meta_shape.seenF seen) ∧ Below w.heap.size w wr ∧ wr.heap[w.heap.size]? = some (.cells #[.int .i64 op, .string key, .int .i64 size, .slice A l.length c] 31) ∧ meta_shape.go k op (l.drop j) seen = some r ∧ w.heap.size < wr.heap.size
set_option maxHeartbeats 8000000 in
set_option maxRecDepth 100000 in
theorem meta_shape.calls (k : Nat) (a0_0 : Int) (a0_1 : ByteArray) (a0_2 : Int) (A0_3 : Option Addr) (c0_3 : Nat) (l0_3 : List S61) (r : Int) (w : World) (hr0_3 : Kd.C k61 w A0_3 l0_3.length l0_3) (hc0_3 : l0_3.length ≤ c0_3) (hv : Vars w) (h : meta_shape.f k a0_0 a0_1 a0_2 l0_3 = some r) :
 Calls Tryz.prog 28 #[.agg #[.int .i64 a0_0, .string a0_1, .int .i64 a0_2, .slice A0_3 l0_3.length c0_3]] w fun e w' => e = .returned (.int .i64 r) ∧ Below w.heap.size w w' := by
 have hlen := hr0_3.2.1
 have HR := Aside0.mk hr0_3
 have HV := Aside0.mk hv
 have hmm := @run_makeMap Tryz.prog
 clear hr0_3 hv
 unfold meta_shape.f at h
 obtain ⟨t, ht, h⟩ := Option.bind_eq_some_iff.1 h
 have HT := Lib.hid ht
 have HH := Lib.hid h
 clear ht h
 go_enter Tryz.func28, Tryz.ntmps28
 go_wp2_with fail
 refine (meta_there.calls a0_0 t _ HT.out).mono ?_
 rintro e w1 ⟨rfl, hd1⟩
 have hb0 : Below w.heap.size w (w.alloc (.cells #[.int .i64 a0_0, .string a0_1, .int .i64 a0_2, .slice A0_3 l0_3.length c0_3] 31)) := (Below.refl _ w).alloc (Nat.le_refl _) _
 have hb1 : Below w.heap.size w w1 := hb0.trans (hd1.below.mono (by simp))
 have hx1 : w1.heap[w.heap.size]? = some (.cells #[.int .i64 a0_0, .string a0_1, .int .i64 a0_2, .slice A0_3 l0_3.length c0_3] 31) := (hd1.below.block w.heap.size (by simp)).trans (Go.heap_alloc_new w _)
 have hs1 : w.heap.size < w1.heap.size := by have := hd1.below.size; simp at this; omega
 have q0 : w1.cell? ⟨w.heap.size, 0, none⟩ = some (.int .i64 a0_0) := by rw [Lib.cell_of_heap hx1]; rfl
 have q1 : w1.cell? ⟨w.heap.size, 1, none⟩ = some (.string a0_1) := by rw [Lib.cell_of_heap hx1]; rfl
 have q2 : w1.cell? ⟨w.heap.size, 2, none⟩ = some (.int .i64 a0_2) := by rw [Lib.cell_of_heap hx1]; rfl
 have q3 : w1.cell? ⟨w.heap.size, 3, none⟩ = some (.slice A0_3 l0_3.length c0_3) := by rw [Lib.cell_of_heap hx1]; rfl
 have HB1 := Aside0.mk hb1
 have HX1 := Lib.hid hx1
 clear hb0 hb1 hd1 hx1
 cases t with
 | false =>
  have e := HH.out
  rw [if_neg Bool.false_ne_true] at e
  obtain rfl := Option.some.inj e
  clear e
  go_wp2
  go_ret
  exact ⟨rfl, HB1.out⟩
 | true =>
  have h := HH.out
  rw [if_pos rfl] at h
  obtain ⟨y, hy, h⟩ := Option.bind_eq_some_iff.1 h
  have HY := Lib.hid hy
  have H2 := Lib.hid h
  clear hy h HH
  go_wp2_with fail
  refine (meta_key.calls k a0_0 a0_1 a0_2 A0_3 c0_3 l0_3 y _ (Kd.C_below HR.out HB1.out) hc0_3 HY.out).mono ?_
  rintro e w2 ⟨rfl, hd2⟩
  clear q0 q1 q2 q3
  have hb2 : Below w.heap.size w w2 := HB1.out.trans (hd2.mono HB1.out.size)
  have hx2 : w2.heap[w.heap.size]? = some (.cells #[.int .i64 a0_0, .string a0_1, .int .i64 a0_2, .slice A0_3 l0_3.length c0_3] 31) := (hd2.block _ hs1).trans HX1.out
  have hs2 : w.heap.size < w2.heap.size := by have := hd2.size; omega
  have q0 : w2.cell? ⟨w.heap.size, 0, none⟩ = some (.int .i64 a0_0) := by rw [Lib.cell_of_heap hx2]; rfl
  have q1 : w2.cell? ⟨w.heap.size, 1, none⟩ = some (.string a0_1) := by rw [Lib.cell_of_heap hx2]; rfl
  have q2 : w2.cell? ⟨w.heap.size, 2, none⟩ = some (.int .i64 a0_2) := by rw [Lib.cell_of_heap hx2]; rfl
  have q3 : w2.cell? ⟨w.heap.size, 3, none⟩ = some (.slice A0_3 l0_3.length c0_3) := by rw [Lib.cell_of_heap hx2]; rfl
  have HB2 := Aside0.mk hb2
  have HX2 := Lib.hid hx2
  clear hb2 hd2 hx2 hs1 HX1 HB1
  cases y with
  | false =>
   have e := H2.out
   rw [if_neg Bool.false_ne_true] at e
   obtain rfl := Option.some.inj e
   clear e
   go_wp2
   go_ret
   exact ⟨rfl, HB2.out⟩
  | true =>
   have h := H2.out
   rw [if_pos rfl] at h
   have HG := Lib.hid h
   clear h H2
   by_cases c1 : a0_2 < 0
   · have e := HG.out
     rw [if_pos (.inl c1)] at e
     obtain rfl := Option.some.inj e
     clear e
     go_wp2
     go_ret
     exact ⟨rfl, HB2.out⟩
   by_cases c2 : a0_2 > 2147483647
   · have e := HG.out
     rw [if_pos (.inr (.inl c2))] at e
     obtain rfl := Option.some.inj e
     clear e
     have c1' : (0 : Int) ≤ a0_2 := by omega
     go_wp2
     go_ret
     exact ⟨rfl, HB2.out⟩
   have c1' : (0 : Int) ≤ a0_2 := by omega
   have c2' : a0_2 ≤ 2147483647 := by omega
   by_cases c3 : a0_0 ≠ 2 ∧ a0_2 ≠ 0
   · have e := HG.out
     rw [if_pos (.inr (.inr c3))] at e
     obtain rfl := Option.some.inj e
     clear e
     have c4 : (a0_0 != 2) = true := bne_iff_ne.2 c3.1
     have c5 : (a0_2 != 0) = true := bne_iff_ne.2 c3.2
     have c6 : (a0_0 == 2) = false := beq_eq_false_iff_ne.2 c3.1
     have c7 : (a0_2 == 0) = false := beq_eq_false_iff_ne.2 c3.2
     clear c3
     go_wp2
     go_ret
     exact ⟨rfl, HB2.out⟩
   have e := HG.out
   rw [if_neg (by rintro (h | h | h); exact c1 h; exact c2 h; exact c3 h)] at e
   have HGO := Lib.hid e
   clear e HG
   have hcc : ((a0_0 != 2) = false ∧ (a0_0 == 2) = true) ∨ ((a0_0 != 2) = true ∧ (a0_0 == 2) = false ∧ (a0_2 != 0) = false ∧ (a0_2 == 0) = true) := by
    by_cases d1 : a0_0 = 2
    · exact .inl ⟨bne_eq_false_iff_eq.2 d1, beq_iff_eq.2 d1⟩
    have d2 : a0_2 = 0 := by
     by_cases d2 : a0_2 = 0
     · exact d2
     exact absurd ⟨d1, d2⟩ c3
    exact .inr ⟨bne_iff_ne.2 d1, beq_eq_false_iff_ne.2 d1, bne_eq_false_iff_eq.2 d2, beq_iff_eq.2 d2⟩
   have hstart : meta_shape.Rel k a0_0 a0_1 a0_2 A0_3 c0_3 l0_3 r w w2.heap.size 0 [] (w2.alloc (.map #[] 0)) :=
    ⟨mapF_made w2 _ _, HB2.out.alloc HB2.out.size _, (((Below.refl _ w2).alloc (Nat.le_refl _) _).block _ hs2).trans HX2.out, HGO.out, by simp; omega⟩
   have HST := Aside0.mk hstart
   clear c1 c2 c3 hstart HGO
   rcases hcc with ⟨c4, c6⟩ | ⟨c4, c6, c5, c7⟩
   all_goals
    go_wp2
    clear q0 q1 q2 q3 c4 c6
    go_loopg [33] l0_3.length (fun gg v33 wr => ∃ (j : Nat) (seen : List Int), j ≤ l0_3.length ∧ l0_3.length - j ≤ gg ∧ v33 = .int .i64 j ∧ Aside0 (meta_shape.Rel k a0_0 a0_1 a0_2 A0_3 c0_3 l0_3 r w w2.heap.size j seen wr))
    case atStart => exact ⟨0, [], Nat.zero_le _, by omega, rfl, HST⟩
    case round =>
     obtain ⟨j, seen, hj, hg, rfl, HRel⟩ := hrel
     clear HST
     by_cases hlt : j < l0_3.length
     · have hji : (j : Int) < (l0_3.length : Int) := by omega
       obtain ⟨hmap, hbw, hbx, hgo, hsz⟩ := HRel.out
       obtain ⟨ad, e, hx0, hx1⟩ := at_T61 HR.out (j : Int) (by omega) hji
       subst e
       have hxj : rd_T61 l0_3 (j : Int) = l0_3[j] := by
        unfold rd_T61
        rw [Int.toNat_natCast, List.getD_eq_getElem?_getD, List.getElem?_eq_getElem hlt]; rfl
       rw [hxj] at hx0 hx1
       clear hxj
       rw [Int.toNat_natCast] at hx0 hx1
       rw [List.drop_eq_getElem_cons hlt] at hgo
       generalize l0_3[j] = x at hx0 hx1 hgo
       replace hx0 := (hbw.cell (World.block_lt_of_cell? w _ hx0)).trans hx0
       replace hx1 := (hbw.cell (World.block_lt_of_cell? w _ hx1)).trans hx1
       have p0 : wr.cell? ⟨w.heap.size, 0, none⟩ = some (.int .i64 a0_0) := by rw [Lib.cell_of_heap hbx]; rfl
       unfold meta_shape.go at hgo
       obtain ⟨b, hb, hgo⟩ := Option.bind_eq_some_iff.1 hgo
       have HOB := Lib.hid hb
       have HG := Lib.hid hgo
       have HMAP := Aside0.mk hmap
       have HBW := Aside0.mk hbw
       have HBX := Lib.hid hbx
       clear hb hgo hmap hbw hbx HRel
       go_wp2_with fail
       refine (meta_owns.calls a0_0 x.f0 b _ HOB.out).mono ?_
       rintro e w3 ⟨rfl, hb3⟩
       have hf3 : w3.heap[wr.heap.size]? = some (.cells #[.int .u8 x.f0, .string x.f1] 61) := (hb3.block wr.heap.size (by simp)).trans (Go.heap_alloc_new wr _)
       have hb03 : Below wr.heap.size wr w3 := ((Below.refl _ wr).alloc (Nat.le_refl _) _).trans (hb3.mono (by simp))
       have hs3 : wr.heap.size < w3.heap.size := by have := hb3.size; simp at this; omega
       have r0 : w3.cell? ⟨wr.heap.size, 0, none⟩ = some (.int .u8 x.f0) := by rw [Lib.cell_of_heap hf3]; rfl
       have r1 : w3.cell? ⟨wr.heap.size, 1, none⟩ = some (.string x.f1) := by rw [Lib.cell_of_heap hf3]; rfl
       have hx3 : w3.heap[w.heap.size]? = _ := (hb03.block _ hsz).trans HBX.out
       have p3 : w3.cell? ⟨w.heap.size, 0, none⟩ = some (.int .i64 a0_0) := by rw [Lib.cell_of_heap hx3]; rfl
       have HM3 := Aside0.mk (HMAP.out.below hb03 HMAP.out.lt)
       have HB3 := Aside0.mk (HBW.out.trans (hb03.mono HBW.out.size))
       have HF3 := Lib.hid hf3
       have HX3 := Lib.hid hx3
       clear hb3 hb03 hf3 hx3 p0 hx0 hx1
       cases b with
       | false =>
        have e := HG.out
        rw [if_neg Bool.false_ne_true] at e
        obtain rfl := Option.some.inj e
        clear e
        go_wp2
        go_ret
        exact ⟨rfl, HB3.out⟩
       | true =>
        have e := HG.out
        rw [if_pos rfl] at e
        have HG2 := Lib.hid e
        have hwf := meta_shape.letter HOB.out
        have hkey := Maps.keyOf_int_mk Tryz.underlying5 hwf
        have HK := Lib.hid hkey
        have hsn := meta_shape.seen_at x.f0 seen
        clear e HG hwf hkey
        cases hc : seen.contains x.f0 with
        | true =>
         rw [hc] at hsn
         have HSN := Lib.hid hsn
         have e := HG2.out
         rw [if_pos hc] at e
         obtain rfl := Option.some.inj e
         clear e hsn hc
         go_wp2_with (at_lookup; refine wpList_lookup_F rfl _ _ 104 rfl 5 4 meta_shape.law Tryz.underlying104 (meta_shape.zeroE _) w2.heap.size j _ rfl HM3.out _ _ rfl HK.out _ HSN.out ?_)
         go_ret
         exact ⟨rfl, HB3.out⟩
        | false =>
         rw [hc] at hsn
         have HSN := Lib.hid hsn
         have e := HG2.out
         rw [if_neg (by rw [hc]; exact Bool.false_ne_true)] at e
         obtain ⟨q, hq, hgo⟩ := Option.bind_eq_some_iff.1 e
         have HQ := Lib.hid hq
         have HG3 := Lib.hid hgo
         clear e hsn hc hq hgo HG2
         go_wp2_with (at_lookup; refine wpList_lookup_F rfl _ _ 104 rfl 5 4 meta_shape.law Tryz.underlying104 (meta_shape.zeroE _) w2.heap.size j _ rfl HM3.out _ _ rfl HK.out _ HSN.out ?_)
         refine (meta_right.calls k a0_0 x.f0 x.f1 q _ (HV.out.below HB3.out) HQ.out).mono ?_
         rintro e w4 ⟨rfl, hb4⟩
         have hf4 : w4.heap[wr.heap.size]? = _ := (hb4.block _ hs3).trans HF3.out
         have r0 : w4.cell? ⟨wr.heap.size, 0, none⟩ = some (.int .u8 x.f0) := by rw [Lib.cell_of_heap hf4]; rfl
         have hx4 : w4.heap[w.heap.size]? = _ := (hb4.block _ (by omega)).trans HX3.out
         have HM4 := Aside0.mk (HM3.out.below hb4 HM3.out.lt)
         have HB4 := Aside0.mk (HB3.out.trans (hb4.mono HB3.out.size))
         have HX4 := Lib.hid hx4
         have hs4 : w.heap.size < w4.heap.size := by have := hb4.size; omega
         clear hb4 hf4 hx4 r1 p3
         cases q with
         | false =>
          have e := HG3.out
          rw [if_neg Bool.false_ne_true] at e
          obtain rfl := Option.some.inj e
          clear e
          go_wp2
          go_ret
          exact ⟨rfl, HB4.out⟩
         | true =>
          have e := HG3.out
          rw [if_pos rfl] at e
          have HG4 := Lib.hid e
          clear e HG3
          go_wp2_with (at_mapUpdate; refine wpList_mapUpdate_F rfl _ _ _ 104 rfl 5 4 meta_shape.law Tryz.underlying104 w2.heap.size j _ rfl HM4.out (by unfold maxLen; omega) _ _ _ rfl rfl HK.out ?_; intro w5 hm5 hg5; have HM5 := Aside0.mk hm5; have HG5 := Aside0.mk hg5; clear hm5 hg5)
          go_roundg (l0_3.length - (j + 1))
          case measure => omega
          case rel => exact ⟨j + 1, x.f0 :: seen, by omega, by omega, by go_num, ⟨HM5.out, pw_below_grown HB4.out _ HB4.out.size HG5.out (fun k e => by injection e with e; omega), (HG5.out.block _ hs4 (fun e => by injection e with e; omega)).trans HX4.out, HG4.out, by have := HG5.out.size; omega⟩⟩
     have hji : ¬ (j : Int) < (l0_3.length : Int) := by omega
     obtain ⟨-, hbw, -, hgo, -⟩ := HRel.out
     rw [List.drop_of_length_le (by omega)] at hgo
     obtain rfl := Option.some.inj hgo
     have HBW := Aside0.mk hbw
     clear hgo hbw HRel
     go_wp2
     go_ret
     exact ⟨rfl, HBW.out⟩

end
end Go.Proofs.YtfboejlemnfndaaGreatDoor.XMo
end
section
namespace Go.Proofs.YtfboejlemnfndaaGreatDoor.XMo
open Go.RowKit Go.Proofs.YtfboejlemnfndaaGreatDoorW.PrintWords Go.Proofs.YtfboejlemnfndaaGreatDoorW.PrintLast Go.Proofs.YtfboejlemnfndaaGreatDoorW.PrintMore
attribute [local go_sem] extract_sub max2_int min2_int max_two min_two max_three min_three max_four min_four   -- for this text's walks alone
set_option linter.unusedVariables false
set_option linter.unusedSimpArgs false

noncomputable section
attribute [local go_sem high] eqA59
def meta_Check.f (k : Nat) (a0_0 : Int) (a0_1 : ByteArray) (a0_2 : Int) (l0_3 : List (S61)) : Option (Int) := (meta_shape.f k a0_0 a0_1 a0_2 l0_3).bind fun t137 => (if t137 = 0 then (if a0_2 > 2000 then (some 1) else (some 0)) else (some t137))
theorem meta_Check.mono : ∀ a0 a1 a2 a3 k, LeO (meta_Check.f k a0 a1 a2 a3) (meta_Check.f (k + 1) a0 a1 a2 a3) := by
 intro a0 a1 a2 a3 k
 unfold meta_Check.f
 repeat' first
  | (with_reducible exact meta_shape.mono _ _ _ _ _)
  | (with_reducible exact LeO.refl _)
  | (with_reducible exact LeO.none _)
  | (with_reducible refine LeO.ite ?_ ?_)
  | (with_reducible refine LeO.bind ?_ (fun _ => ?_))
  | exact meta_shape.mono _ _ _ _ _
  | exact LeO.none _
  | refine LeO.ite ?_ ?_
  | refine LeO.bind ?_ (fun _ => ?_)
set_option maxHeartbeats 8000000 in
set_option maxRecDepth 100000 in
theorem meta_Check.calls (k : Nat) (a0_0 : Int) (a0_1 : ByteArray) (a0_2 : Int) (A0_3 : Option Addr) (c0_3 : Nat) (l0_3 : List (S61)) (r : Int) (w : World) (hr0_3 : Kd.C k61 w A0_3 l0_3.length l0_3) (hc0_3 : l0_3.length ≤ c0_3) (hv : Vars w) (h : meta_Check.f k a0_0 a0_1 a0_2 l0_3 = some r) :
 Calls Tryz.prog 17 #[.agg #[.int .i64 a0_0, .string a0_1, .int .i64 a0_2, .slice A0_3 l0_3.length c0_3]] w fun e w' => e = .returned (.int .i64 r) ∧ Below w.heap.size w w' := by
 have hu31 := Tryz.underlying31
 have HV := Aside0.mk hv
 clear hv
 have HR0_3 := Aside0.mk hr0_3
 have HC0_3 := Aside0.mk hc0_3
 clear hr0_3 hc0_3
 have HB := Aside0.mk (Below.refl w.heap.size w)
 have H : ((meta_shape.f k a0_0 a0_1 a0_2 l0_3).bind fun t137 => (if t137 = 0 then (if a0_2 > 2000 then (some 1) else (some 0)) else (some t137))) = some r := h
 clear h
 replace H := Option.bind_eq_some_iff.mp H
 obtain ⟨t137, A20, H⟩ := H
 replace H : (if t137 = 0 then (if a0_2 > 2000 then (some 1) else (some 0)) else (some t137)) = some r := H
 have A2 := Aside0.mk A20
 clear A20
 by_cases c3 : t137 = 0
 · rw [if_pos c3] at H
   have c3b0 : (t137 == 0) = true := beq_iff_eq.mpr c3
   have c3b1 : (t137 != 0) = false := bne_eq_false_iff_eq.mpr c3
   clear c3
   by_cases c4 : a0_2 > 2000
   · rw [if_pos c4] at H
     have c4b0 : decide (2000 < a0_2) = true := decide_eq_true c4
     clear c4
     obtain rfl := Option.some.inj H
     go_enter Tryz.func17, Tryz.ntmps17
     go_wp2_with (first | ((with_reducible refine gate_dst (N := 1) rfl ?_); refine box_event ?hg (N := 1) ?hd (cs := #[.int .i64 a0_0, .string a0_1, .int .i64 a0_2, .slice A0_3 l0_3.length c0_3]) (t := 31) ?hr ?_; (case hd => rfl); (case hg => rfl); (case hr => first | (go_simp; done) | (go_simp; rfl)); intro gb136 hg w5 hbox hb; have n0_ := Aside0.mk (below_step (hbA HB.out) hb); have n1_ := Aside0.mk (hbox); have n2_ := Aside0.mk ((by rw [hg]; exact (below_size (hbA HB.out)) : w.heap.size ≤ gb136)); have n3_ := Aside0.mk ((by rw [hg]; exact (below_size (hbA HB.out)) : w.heap.size ≤ gb136)); clear HB; have HB := n0_; have BK136 := n1_; have GW136 := n2_; have GE136 := n3_; clear n0_ n1_ n2_ n3_; clear hb hbox hg; obtain ⟨hcz6_0, hcz6_1, hcz6_2, hcz6_3, hfz6_0, hfz6_1, hfz6_2, hfz6_3⟩ := blkA4 BK136.out) | ((with_reducible refine gate_callee (f := 28) rfl ?_); refine goesL_ (some 5) rfl rfl Tryz.func28 (by kernel_rfl) rfl #[.agg #[.int .i64 a0_0, .string a0_1, .int .i64 a0_2, .slice A0_3 l0_3.length c0_3]] rfl argA ?_; (with_reducible refine (meta_shape.calls k a0_0 a0_1 a0_2 _ _ l0_3 t137 _ ?side1 ?side2 ?side3 A2.out).mono ?_); (case side1 => repeat (first | exact (Kd.C_below HR0_3.out HB.out) | (with_reducible refine Kd.C_alloc ?_ _) | (with_reducible refine Kd.C_drewN ?_ _) | (with_reducible refine Kd.C_drew ?_))); (case side2 => exact HC0_3.out); (case side3 => exact Vars.below HV.out (hbA HB.out)); rintro e w7 ⟨rfl, hb⟩; refine ⟨_, rfl, ?_⟩; replace BK136 := Aside0.mk (blk_below (g := gb136) (o := .cells #[.int .i64 a0_0, .string a0_1, .int .i64 a0_2, .slice A0_3 l0_3.length c0_3] 31 (0, 0)) (rbA BK136.out) hb); replace HB := Aside0.mk (below_step (hbA HB.out) hb); (try clear hb); (try clear hb2); (try clear hk); (try clear hi); obtain ⟨hcz8_0, hcz8_1, hcz8_2, hcz8_3, hfz8_0, hfz8_1, hfz8_2, hfz8_3⟩ := blkA4 BK136.out))
     go_ret
     exact ⟨reA, hbA HB.out⟩
   rw [if_neg c4] at H
   have c4b0 : decide (2000 < a0_2) = false := decide_eq_false c4
   clear c4
   obtain rfl := Option.some.inj H
   go_enter Tryz.func17, Tryz.ntmps17
   go_wp2_with (first | ((with_reducible refine gate_dst (N := 1) rfl ?_); refine box_event ?hg (N := 1) ?hd (cs := #[.int .i64 a0_0, .string a0_1, .int .i64 a0_2, .slice A0_3 l0_3.length c0_3]) (t := 31) ?hr ?_; (case hd => rfl); (case hg => rfl); (case hr => first | (go_simp; done) | (go_simp; rfl)); intro gb136 hg w9 hbox hb; have n0_ := Aside0.mk (below_step (hbA HB.out) hb); have n1_ := Aside0.mk (hbox); have n2_ := Aside0.mk ((by rw [hg]; exact (below_size (hbA HB.out)) : w.heap.size ≤ gb136)); have n3_ := Aside0.mk ((by rw [hg]; exact (below_size (hbA HB.out)) : w.heap.size ≤ gb136)); clear HB; have HB := n0_; have BK136 := n1_; have GW136 := n2_; have GE136 := n3_; clear n0_ n1_ n2_ n3_; clear hb hbox hg; obtain ⟨hcz10_0, hcz10_1, hcz10_2, hcz10_3, hfz10_0, hfz10_1, hfz10_2, hfz10_3⟩ := blkA4 BK136.out) | ((with_reducible refine gate_callee (f := 28) rfl ?_); refine goesL_ (some 5) rfl rfl Tryz.func28 (by kernel_rfl) rfl #[.agg #[.int .i64 a0_0, .string a0_1, .int .i64 a0_2, .slice A0_3 l0_3.length c0_3]] rfl argA ?_; (with_reducible refine (meta_shape.calls k a0_0 a0_1 a0_2 _ _ l0_3 t137 _ ?side1 ?side2 ?side3 A2.out).mono ?_); (case side1 => repeat (first | exact (Kd.C_below HR0_3.out HB.out) | (with_reducible refine Kd.C_alloc ?_ _) | (with_reducible refine Kd.C_drewN ?_ _) | (with_reducible refine Kd.C_drew ?_))); (case side2 => exact HC0_3.out); (case side3 => exact Vars.below HV.out (hbA HB.out)); rintro e w11 ⟨rfl, hb⟩; refine ⟨_, rfl, ?_⟩; replace BK136 := Aside0.mk (blk_below (g := gb136) (o := .cells #[.int .i64 a0_0, .string a0_1, .int .i64 a0_2, .slice A0_3 l0_3.length c0_3] 31 (0, 0)) (rbA BK136.out) hb); replace HB := Aside0.mk (below_step (hbA HB.out) hb); (try clear hb); (try clear hb2); (try clear hk); (try clear hi); obtain ⟨hcz12_0, hcz12_1, hcz12_2, hcz12_3, hfz12_0, hfz12_1, hfz12_2, hfz12_3⟩ := blkA4 BK136.out))
   go_ret
   exact ⟨reA, hbA HB.out⟩
 rw [if_neg c3] at H
 have c3b0 : (t137 == 0) = false := beq_eq_false_iff_ne.mpr c3
 have c3b1 : (t137 != 0) = true := bne_iff_ne.mpr c3
 obtain rfl := Option.some.inj H
 go_enter Tryz.func17, Tryz.ntmps17
 go_wp2_with (first | ((with_reducible refine gate_dst (N := 1) rfl ?_); refine box_event ?hg (N := 1) ?hd (cs := #[.int .i64 a0_0, .string a0_1, .int .i64 a0_2, .slice A0_3 l0_3.length c0_3]) (t := 31) ?hr ?_; (case hd => rfl); (case hg => rfl); (case hr => first | (go_simp; done) | (go_simp; rfl)); intro gb136 hg w13 hbox hb; have n0_ := Aside0.mk (below_step (hbA HB.out) hb); have n1_ := Aside0.mk (hbox); have n2_ := Aside0.mk ((by rw [hg]; exact (below_size (hbA HB.out)) : w.heap.size ≤ gb136)); have n3_ := Aside0.mk ((by rw [hg]; exact (below_size (hbA HB.out)) : w.heap.size ≤ gb136)); clear HB; have HB := n0_; have BK136 := n1_; have GW136 := n2_; have GE136 := n3_; clear n0_ n1_ n2_ n3_; clear hb hbox hg; obtain ⟨hcz14_0, hcz14_1, hcz14_2, hcz14_3, hfz14_0, hfz14_1, hfz14_2, hfz14_3⟩ := blkA4 BK136.out) | ((with_reducible refine gate_callee (f := 28) rfl ?_); refine goesL_ (some 5) rfl rfl Tryz.func28 (by kernel_rfl) rfl #[.agg #[.int .i64 a0_0, .string a0_1, .int .i64 a0_2, .slice A0_3 l0_3.length c0_3]] rfl argA ?_; (with_reducible refine (meta_shape.calls k a0_0 a0_1 a0_2 _ _ l0_3 t137 _ ?side1 ?side2 ?side3 A2.out).mono ?_); (case side1 => repeat (first | exact (Kd.C_below HR0_3.out HB.out) | (with_reducible refine Kd.C_alloc ?_ _) | (with_reducible refine Kd.C_drewN ?_ _) | (with_reducible refine Kd.C_drew ?_))); (case side2 => exact HC0_3.out); (case side3 => exact Vars.below HV.out (hbA HB.out)); rintro e w15 ⟨rfl, hb⟩; refine ⟨_, rfl, ?_⟩; replace BK136 := Aside0.mk (blk_below (g := gb136) (o := .cells #[.int .i64 a0_0, .string a0_1, .int .i64 a0_2, .slice A0_3 l0_3.length c0_3] 31 (0, 0)) (rbA BK136.out) hb); replace HB := Aside0.mk (below_step (hbA HB.out) hb); (try clear hb); (try clear hb2); (try clear hk); (try clear hi)))
 go_ret
 exact ⟨reA, hbA HB.out⟩

mutual
def tallboyref27_Same.j0 : Nat → Bool → Int → ByteArray → Int → List (S59) → Int → ByteArray → Int → List (S59) → Option (Bool)
 | 0, _, _, _, _, _, _, _, _, _ => none
 | k + 1, x33, x139000, x139001, x139002, x139003, x140000, x140001, x140002, x140003 => if x33 = true then (some false) else (tallboyref27_Same.l0 k 0 x139000 x139001 x139002 x139003 x140000 x140001 x140002 x140003)
def tallboyref27_Same.l0 : Nat → Int → Int → ByteArray → Int → List (S59) → Int → ByteArray → Int → List (S59) → Option (Bool)
 | 0, _, _, _, _, _, _, _, _, _ => none
 | k + 1, x5, x139000, x139001, x139002, x139003, x140000, x140001, x140002, x140003 => if x5 < (x139003.length : Int) then (if 0 ≤ x5 then (if x5 < (x140003.length : Int) then (if (!(((rd_T59 x139003 x5).f0) == ((rd_T59 x140003 x5).f0)) || (!((((rd_T59 x139003 x5).f1).toList) == (((rd_T59 x140003 x5).f1).toList)))) = true then (some false) else (tallboyref27_Same.l0 k (wrap64 (x5 + 1)) x139000 x139001 x139002 x139003 x140000 x140001 x140002 x140003)) else (none)) else (none)) else (some true)
end
def tallboyref27_Same.f (k : Nat) (a0_0 : Int) (a0_1 : ByteArray) (a0_2 : Int) (l0_3 : List (S59)) (a1_0 : Int) (a1_1 : ByteArray) (a1_2 : Int) (l1_3 : List (S59)) : Option (Bool) := if a0_0 = a1_0 then (if a0_1.toList = a1_1.toList then (if a0_2 = a1_2 then (tallboyref27_Same.j0 k ((l0_3.length : Int) != (l1_3.length : Int)) a0_0 a0_1 a0_2 l0_3 a1_0 a1_1 a1_2 l1_3) else (tallboyref27_Same.j0 k true a0_0 a0_1 a0_2 l0_3 a1_0 a1_1 a1_2 l1_3)) else (tallboyref27_Same.j0 k true a0_0 a0_1 a0_2 l0_3 a1_0 a1_1 a1_2 l1_3)) else (tallboyref27_Same.j0 k true a0_0 a0_1 a0_2 l0_3 a1_0 a1_1 a1_2 l1_3)
theorem tallboyref27_Same.mono_l : ∀ k, (∀ y0 y1 y2 y3 y4 y5 y6 y7 y8, LeO (tallboyref27_Same.j0 k y0 y1 y2 y3 y4 y5 y6 y7 y8) (tallboyref27_Same.j0 (k + 1) y0 y1 y2 y3 y4 y5 y6 y7 y8)) ∧ (∀ y0 y1 y2 y3 y4 y5 y6 y7 y8, LeO (tallboyref27_Same.l0 k y0 y1 y2 y3 y4 y5 y6 y7 y8) (tallboyref27_Same.l0 (k + 1) y0 y1 y2 y3 y4 y5 y6 y7 y8))
 | 0 => ⟨fun _ _ _ _ _ _ _ _ _ r h => by simp [tallboyref27_Same.j0] at h, fun _ _ _ _ _ _ _ _ _ r h => by simp [tallboyref27_Same.l0] at h⟩
 | k + 1 => by
  obtain ⟨ih0, ih1⟩ := tallboyref27_Same.mono_l k
  refine ⟨?_, ?_⟩
  all_goals
   intros
   first | unfold tallboyref27_Same.j0 | unfold tallboyref27_Same.l0
   repeat' first
   | (with_reducible exact ih0 _ _ _ _ _ _ _ _ _)
   | (with_reducible exact ih1 _ _ _ _ _ _ _ _ _)
   | (with_reducible exact LeO.refl _)
   | (with_reducible exact LeO.none _)
   | (with_reducible refine LeO.ite ?_ ?_)
   | (with_reducible refine LeO.bind ?_ (fun _ => ?_))
   | exact ih0 _ _ _ _ _ _ _ _ _
   | exact ih1 _ _ _ _ _ _ _ _ _
   | exact LeO.none _
   | refine LeO.ite ?_ ?_
   | refine LeO.bind ?_ (fun _ => ?_)
theorem tallboyref27_Same.mono : ∀ a0 a1 a2 a3 a4 a5 a6 a7 k, LeO (tallboyref27_Same.f k a0 a1 a2 a3 a4 a5 a6 a7) (tallboyref27_Same.f (k + 1) a0 a1 a2 a3 a4 a5 a6 a7) := by
 intro a0 a1 a2 a3 a4 a5 a6 a7 k
 obtain ⟨ih0, ih1⟩ := tallboyref27_Same.mono_l k
 unfold tallboyref27_Same.f
 repeat' first
  | (with_reducible exact ih0 _ _ _ _ _ _ _ _ _)
  | (with_reducible exact ih1 _ _ _ _ _ _ _ _ _)
  | (with_reducible exact LeO.refl _)
  | (with_reducible exact LeO.none _)
  | (with_reducible refine LeO.ite ?_ ?_)
  | (with_reducible refine LeO.bind ?_ (fun _ => ?_))
  | exact ih0 _ _ _ _ _ _ _ _ _
  | exact ih1 _ _ _ _ _ _ _ _ _
  | exact LeO.none _
  | refine LeO.ite ?_ ?_
  | refine LeO.bind ?_ (fun _ => ?_)
set_option maxHeartbeats 8000000 in
set_option maxRecDepth 100000 in
theorem tallboyref27_Same.calls (k : Nat) (a0_0 : Int) (a0_1 : ByteArray) (a0_2 : Int) (A0_3 : Option Addr) (c0_3 : Nat) (l0_3 : List (S59)) (a1_0 : Int) (a1_1 : ByteArray) (a1_2 : Int) (A1_3 : Option Addr) (c1_3 : Nat) (l1_3 : List (S59)) (r : Bool) (w : World) (hr0_3 : Kd.C k59 w A0_3 l0_3.length l0_3) (hc0_3 : l0_3.length ≤ c0_3) (hr1_3 : Kd.C k59 w A1_3 l1_3.length l1_3) (hc1_3 : l1_3.length ≤ c1_3) (h : tallboyref27_Same.f k a0_0 a0_1 a0_2 l0_3 a1_0 a1_1 a1_2 l1_3 = some r) :
 Calls Tryz.prog 19 #[.agg #[.int .i64 a0_0, .string a0_1, .int .i64 a0_2, .slice A0_3 l0_3.length c0_3], .agg #[.int .i64 a1_0, .string a1_1, .int .i64 a1_2, .slice A1_3 l1_3.length c1_3]] w fun e w' => e = .returned (.bool r) ∧ Below w.heap.size w w' := by
 have hu24 := Tryz.underlying24
 have hu59 := Tryz.underlying59
 have HR0_3 := Aside0.mk hr0_3
 have HC0_3 := Aside0.mk hc0_3
 clear hr0_3 hc0_3
 have HR1_3 := Aside0.mk hr1_3
 have HC1_3 := Aside0.mk hc1_3
 clear hr1_3 hc1_3
 have HB := Aside0.mk (Below.refl w.heap.size w)
 have H : (if a0_0 = a1_0 then (if a0_1.toList = a1_1.toList then (if a0_2 = a1_2 then (tallboyref27_Same.j0 k ((l0_3.length : Int) != (l1_3.length : Int)) a0_0 a0_1 a0_2 l0_3 a1_0 a1_1 a1_2 l1_3) else (tallboyref27_Same.j0 k true a0_0 a0_1 a0_2 l0_3 a1_0 a1_1 a1_2 l1_3)) else (tallboyref27_Same.j0 k true a0_0 a0_1 a0_2 l0_3 a1_0 a1_1 a1_2 l1_3)) else (tallboyref27_Same.j0 k true a0_0 a0_1 a0_2 l0_3 a1_0 a1_1 a1_2 l1_3)) = some r := h
 clear h
 have HC3 := Aside0.mk H
 clear H
 go_enter Tryz.func19, Tryz.ntmps19
 go_upto_region 1 with (first | ((with_reducible refine gate_dst (N := 2) rfl ?_); (try (refine gate_guard (by rfl) ?_; dsimp only)); refine box_event ?hg (N := 2) ?hd (cs := #[.int .i64 a0_0, .string a0_1, .int .i64 a0_2, .slice A0_3 l0_3.length c0_3]) (t := 24) ?hr ?_; (case hd => rfl); (case hg => rfl); (case hr => first | (go_simp; done) | (go_simp; rfl)); intro gb138 hg w4 hbox hb; have n0_ := Aside0.mk (below_step (hbA HB.out) hb); have n1_ := Aside0.mk (hbox); have n2_ := Aside0.mk ((by rw [hg]; exact (below_size (hbA HB.out)) : w.heap.size ≤ gb138)); have n3_ := Aside0.mk ((by rw [hg]; exact (below_size (hbA HB.out)) : w.heap.size ≤ gb138)); clear HB; have HB := n0_; have BK138 := n1_; have GW138 := n2_; have GE138 := n3_; clear n0_ n1_ n2_ n3_; clear hb hbox hg) | ((with_reducible refine gate_dst (N := 3) rfl ?_); (try (refine gate_guard (by rfl) ?_; dsimp only)); refine box_event ?hg (N := 3) ?hd (cs := #[.int .i64 a1_0, .string a1_1, .int .i64 a1_2, .slice A1_3 l1_3.length c1_3]) (t := 24) ?hr ?_; (case hd => rfl); (case hg => rfl); (case hr => first | (go_simp; done) | (go_simp; rfl)); intro gb139 hg w5 hbox hb; have n0_ := Aside0.mk (blk_below (g := gb138) (o := .cells #[.int .i64 a0_0, .string a0_1, .int .i64 a0_2, .slice A0_3 l0_3.length c0_3] 24 (0, 0)) (rbA BK138.out) hb); have n1_ := Aside0.mk (below_step (hbA HB.out) hb); have n2_ := Aside0.mk (hbox); have n3_ := Aside0.mk ((by rw [hg]; exact (below_size (hbA HB.out)) : w.heap.size ≤ gb139)); have n4_ := Aside0.mk ((by rw [hg]; exact (below_size (hbA HB.out)) : w.heap.size ≤ gb139)); have n5_ := Aside0.mk ((by rw [hg]; exact Nat.ne_of_lt (blk_lt (g := gb138) (o := .cells #[.int .i64 a0_0, .string a0_1, .int .i64 a0_2, .slice A0_3 l0_3.length c0_3] 24 (0, 0)) (rbA BK138.out)) : gb138 ≠ gb139)); have n6_ := Aside0.mk ((by rw [hg]; exact Nat.ne_of_gt (blk_lt (g := gb138) (o := .cells #[.int .i64 a0_0, .string a0_1, .int .i64 a0_2, .slice A0_3 l0_3.length c0_3] 24 (0, 0)) (rbA BK138.out)) : gb139 ≠ gb138)); clear BK138; clear HB; have BK138 := n0_; have HB := n1_; have BK139 := n2_; have GW139 := n3_; have GE139 := n4_; have NB138_139 := n5_; have NB139_138 := n6_; clear n0_ n1_ n2_ n3_ n4_ n5_ n6_; clear hb hbox hg))
 repeat (go_quiet (first | ((with_reducible refine gate_dst (N := 2) rfl ?_); (try (refine gate_guard (by rfl) ?_; dsimp only)); refine box_event ?hg (N := 2) ?hd (cs := #[.int .i64 a0_0, .string a0_1, .int .i64 a0_2, .slice A0_3 l0_3.length c0_3]) (t := 24) ?hr ?_; (case hd => rfl); (case hg => rfl); (case hr => first | (go_simp; done) | (go_simp; rfl)); intro gb138 hg w4 hbox hb; have n0_ := Aside0.mk (below_step (hbA HB.out) hb); have n1_ := Aside0.mk (hbox); have n2_ := Aside0.mk ((by rw [hg]; exact (below_size (hbA HB.out)) : w.heap.size ≤ gb138)); have n3_ := Aside0.mk ((by rw [hg]; exact (below_size (hbA HB.out)) : w.heap.size ≤ gb138)); clear HB; have HB := n0_; have BK138 := n1_; have GW138 := n2_; have GE138 := n3_; clear n0_ n1_ n2_ n3_; clear hb hbox hg) | ((with_reducible refine gate_dst (N := 3) rfl ?_); (try (refine gate_guard (by rfl) ?_; dsimp only)); refine box_event ?hg (N := 3) ?hd (cs := #[.int .i64 a1_0, .string a1_1, .int .i64 a1_2, .slice A1_3 l1_3.length c1_3]) (t := 24) ?hr ?_; (case hd => rfl); (case hg => rfl); (case hr => first | (go_simp; done) | (go_simp; rfl)); intro gb139 hg w5 hbox hb; have n0_ := Aside0.mk (blk_below (g := gb138) (o := .cells #[.int .i64 a0_0, .string a0_1, .int .i64 a0_2, .slice A0_3 l0_3.length c0_3] 24 (0, 0)) (rbA BK138.out) hb); have n1_ := Aside0.mk (below_step (hbA HB.out) hb); have n2_ := Aside0.mk (hbox); have n3_ := Aside0.mk ((by rw [hg]; exact (below_size (hbA HB.out)) : w.heap.size ≤ gb139)); have n4_ := Aside0.mk ((by rw [hg]; exact (below_size (hbA HB.out)) : w.heap.size ≤ gb139)); have n5_ := Aside0.mk ((by rw [hg]; exact Nat.ne_of_lt (blk_lt (g := gb138) (o := .cells #[.int .i64 a0_0, .string a0_1, .int .i64 a0_2, .slice A0_3 l0_3.length c0_3] 24 (0, 0)) (rbA BK138.out)) : gb138 ≠ gb139)); have n6_ := Aside0.mk ((by rw [hg]; exact Nat.ne_of_gt (blk_lt (g := gb138) (o := .cells #[.int .i64 a0_0, .string a0_1, .int .i64 a0_2, .slice A0_3 l0_3.length c0_3] 24 (0, 0)) (rbA BK138.out)) : gb139 ≠ gb138)); clear BK138; clear HB; have BK138 := n0_; have HB := n1_; have BK139 := n2_; have GW139 := n3_; have GE139 := n4_; have NB138_139 := n5_; have NB139_138 := n6_; clear n0_ n1_ n2_ n3_ n4_ n5_ n6_; clear hb hbox hg)); go_upto_region 1 with (first | ((with_reducible refine gate_dst (N := 2) rfl ?_); (try (refine gate_guard (by rfl) ?_; dsimp only)); refine box_event ?hg (N := 2) ?hd (cs := #[.int .i64 a0_0, .string a0_1, .int .i64 a0_2, .slice A0_3 l0_3.length c0_3]) (t := 24) ?hr ?_; (case hd => rfl); (case hg => rfl); (case hr => first | (go_simp; done) | (go_simp; rfl)); intro gb138 hg w4 hbox hb; have n0_ := Aside0.mk (below_step (hbA HB.out) hb); have n1_ := Aside0.mk (hbox); have n2_ := Aside0.mk ((by rw [hg]; exact (below_size (hbA HB.out)) : w.heap.size ≤ gb138)); have n3_ := Aside0.mk ((by rw [hg]; exact (below_size (hbA HB.out)) : w.heap.size ≤ gb138)); clear HB; have HB := n0_; have BK138 := n1_; have GW138 := n2_; have GE138 := n3_; clear n0_ n1_ n2_ n3_; clear hb hbox hg) | ((with_reducible refine gate_dst (N := 3) rfl ?_); (try (refine gate_guard (by rfl) ?_; dsimp only)); refine box_event ?hg (N := 3) ?hd (cs := #[.int .i64 a1_0, .string a1_1, .int .i64 a1_2, .slice A1_3 l1_3.length c1_3]) (t := 24) ?hr ?_; (case hd => rfl); (case hg => rfl); (case hr => first | (go_simp; done) | (go_simp; rfl)); intro gb139 hg w5 hbox hb; have n0_ := Aside0.mk (blk_below (g := gb138) (o := .cells #[.int .i64 a0_0, .string a0_1, .int .i64 a0_2, .slice A0_3 l0_3.length c0_3] 24 (0, 0)) (rbA BK138.out) hb); have n1_ := Aside0.mk (below_step (hbA HB.out) hb); have n2_ := Aside0.mk (hbox); have n3_ := Aside0.mk ((by rw [hg]; exact (below_size (hbA HB.out)) : w.heap.size ≤ gb139)); have n4_ := Aside0.mk ((by rw [hg]; exact (below_size (hbA HB.out)) : w.heap.size ≤ gb139)); have n5_ := Aside0.mk ((by rw [hg]; exact Nat.ne_of_lt (blk_lt (g := gb138) (o := .cells #[.int .i64 a0_0, .string a0_1, .int .i64 a0_2, .slice A0_3 l0_3.length c0_3] 24 (0, 0)) (rbA BK138.out)) : gb138 ≠ gb139)); have n6_ := Aside0.mk ((by rw [hg]; exact Nat.ne_of_gt (blk_lt (g := gb138) (o := .cells #[.int .i64 a0_0, .string a0_1, .int .i64 a0_2, .slice A0_3 l0_3.length c0_3] 24 (0, 0)) (rbA BK138.out)) : gb139 ≠ gb138)); clear BK138; clear HB; have BK138 := n0_; have HB := n1_; have BK139 := n2_; have GW139 := n3_; have GE139 := n4_; have NB138_139 := n5_; have NB139_138 := n6_; clear n0_ n1_ n2_ n3_ n4_ n5_ n6_; clear hb hbox hg)))
 (try simp only [Act.put, List.setIfInBounds_toArray, List.set_cons_zero, List.set_cons_succ])
 go_cut [33] (fun v33 wc => ∃ (kq : Nat) (x33_2 : Bool), v33 = .bool x33_2 ∧ Aside0 (tallboyref27_Same.j0 kq x33_2 a0_0 a0_1 a0_2 l0_3 a1_0 a1_1 a1_2 l1_3 = some r) ∧ Aside0 (kq ≤ k) ∧ Aside0 (wc.heap[gb138]? = some (.cells #[.int .i64 a0_0, .string a0_1, .int .i64 a0_2, (.slice A0_3 l0_3.length c0_3)] 24 (0, 0))) ∧ Aside0 (wc.heap[gb139]? = some (.cells #[.int .i64 a1_0, .string a1_1, .int .i64 a1_2, (.slice A1_3 l1_3.length c1_3)] 24 (0, 0))) ∧ Aside0 (Below w.heap.size w wc))
 case first =>
  have H := HC3.out
  clear HC3
  by_cases c6 : a0_0 = a1_0
  · rw [if_pos c6] at H
    have c6b0 : (a0_0 == a1_0) = true := beq_iff_eq.mpr c6
    have c6b1 : (a0_0 != a1_0) = false := bne_eq_false_iff_eq.mpr c6
    clear c6
    (first | rw [c6b0] | (simp only [i64_w, i32_w]; rw [c6b0]) | skip)
    by_cases c7 : a0_1.toList = a1_1.toList
    · rw [if_pos c7] at H
      have c7b0 : (a0_1.toList == a1_1.toList) = true := beq_iff_eq.mpr c7
      have c7b1 : (a0_1.toList != a1_1.toList) = false := bne_eq_false_iff_eq.mpr c7
      clear c7
      by_cases c8 : a0_2 = a1_2
      · rw [if_pos c8] at H
        have c8b0 : (a0_2 == a1_2) = true := beq_iff_eq.mpr c8
        have c8b1 : (a0_2 != a1_2) = false := bne_eq_false_iff_eq.mpr c8
        clear c8
        have H' := Aside0.mk H
        clear H
        have hnb9 := NB138_139.out
        have hnc9 := NB139_138.out
        obtain ⟨hcz10_0, hcz10_1, hcz10_2, hcz10_3, hfz10_0, hfz10_1, hfz10_2, hfz10_3⟩ := blkA4 BK138.out
        obtain ⟨hcz11_0, hcz11_1, hcz11_2, hcz11_3, hfz11_0, hfz11_1, hfz11_2, hfz11_3⟩ := blkA4 BK139.out
        go_wp2
        repeat (go_quiet (fail); try go_wp2)
        go_meet
        case rel => exact ⟨_, (((l0_3.length : Int) != (l1_3.length : Int))), rsA, H', ⟨by first | omega | exact Nat.le_refl _⟩, ⟨rbA BK138.out⟩, ⟨rbA BK139.out⟩, ⟨hbA HB.out⟩⟩
      rw [if_neg c8] at H
      have c8b0 : (a0_2 == a1_2) = false := beq_eq_false_iff_ne.mpr c8
      have c8b1 : (a0_2 != a1_2) = true := bne_iff_ne.mpr c8
      have H' := Aside0.mk H
      clear H
      have hnb12 := NB138_139.out
      have hnc12 := NB139_138.out
      obtain ⟨hcz13_0, hcz13_1, hcz13_2, hcz13_3, hfz13_0, hfz13_1, hfz13_2, hfz13_3⟩ := blkA4 BK138.out
      obtain ⟨hcz14_0, hcz14_1, hcz14_2, hcz14_3, hfz14_0, hfz14_1, hfz14_2, hfz14_3⟩ := blkA4 BK139.out
      go_wp2
      repeat (go_quiet (fail); try go_wp2)
      go_meet
      case rel => exact ⟨_, (true), rsA, H', ⟨by first | omega | exact Nat.le_refl _⟩, ⟨rbA BK138.out⟩, ⟨rbA BK139.out⟩, ⟨hbA HB.out⟩⟩
    rw [if_neg c7] at H
    have c7b0 : (a0_1.toList == a1_1.toList) = false := beq_eq_false_iff_ne.mpr c7
    have c7b1 : (a0_1.toList != a1_1.toList) = true := bne_iff_ne.mpr c7
    have H' := Aside0.mk H
    clear H
    have hnb15 := NB138_139.out
    have hnc15 := NB139_138.out
    obtain ⟨hcz16_0, hcz16_1, hcz16_2, hcz16_3, hfz16_0, hfz16_1, hfz16_2, hfz16_3⟩ := blkA4 BK138.out
    obtain ⟨hcz17_0, hcz17_1, hcz17_2, hcz17_3, hfz17_0, hfz17_1, hfz17_2, hfz17_3⟩ := blkA4 BK139.out
    go_wp2
    repeat (go_quiet (fail); try go_wp2)
    go_meet
    case rel => exact ⟨_, (true), rsA, H', ⟨by first | omega | exact Nat.le_refl _⟩, ⟨rbA BK138.out⟩, ⟨rbA BK139.out⟩, ⟨hbA HB.out⟩⟩
  rw [if_neg c6] at H
  have c6b0 : (a0_0 == a1_0) = false := beq_eq_false_iff_ne.mpr c6
  have c6b1 : (a0_0 != a1_0) = true := bne_iff_ne.mpr c6
  (first | rw [c6b0] | (simp only [i64_w, i32_w]; rw [c6b0]) | skip)
  have H' := Aside0.mk H
  clear H
  have hnb18 := NB138_139.out
  have hnc18 := NB139_138.out
  obtain ⟨hcz19_0, hcz19_1, hcz19_2, hcz19_3, hfz19_0, hfz19_1, hfz19_2, hfz19_3⟩ := blkA4 BK138.out
  obtain ⟨hcz20_0, hcz20_1, hcz20_2, hcz20_3, hfz20_0, hfz20_1, hfz20_2, hfz20_3⟩ := blkA4 BK139.out
  go_wp2
  repeat (go_quiet (fail); try go_wp2)
  go_meet
  case rel => exact ⟨_, (true), rsA, H', ⟨by first | omega | exact Nat.le_refl _⟩, ⟨rbA BK138.out⟩, ⟨rbA BK139.out⟩, ⟨hbA HB.out⟩⟩
 clear HC3
 (try clear c1); (try clear p2); (try clear c6); (try clear c6b0); (try clear c6b1); (try clear c7); (try clear c7b0); (try clear c7b1); (try clear c8); (try clear c8b0); (try clear c8b1); (try clear c9); (try clear c12); (try clear c15); (try clear c18); (try clear c19); (try clear hcz10_0); (try clear hcz10_1); (try clear hcz10_2); (try clear hcz10_3); (try clear hcz11_0); (try clear hcz11_1); (try clear hcz11_2); (try clear hcz11_3); (try clear hcz13_0); (try clear hcz13_1); (try clear hcz13_2); (try clear hcz13_3); (try clear hcz14_0); (try clear hcz14_1); (try clear hcz14_2); (try clear hcz14_3); (try clear hcz16_0); (try clear hcz16_1); (try clear hcz16_2); (try clear hcz16_3); (try clear hcz17_0); (try clear hcz17_1); (try clear hcz17_2); (try clear hcz17_3); (try clear hcz19_0); (try clear hcz19_1); (try clear hcz19_2); (try clear hcz19_3); (try clear hcz20_0); (try clear hcz20_1); (try clear hcz20_2); (try clear hcz20_3); (try clear hfz10_0); (try clear hfz10_1); (try clear hfz10_2); (try clear hfz10_3); (try clear hfz11_0); (try clear hfz11_1); (try clear hfz11_2); (try clear hfz11_3); (try clear hfz13_0); (try clear hfz13_1); (try clear hfz13_2); (try clear hfz13_3); (try clear hfz14_0); (try clear hfz14_1); (try clear hfz14_2); (try clear hfz14_3); (try clear hfz16_0); (try clear hfz16_1); (try clear hfz16_2); (try clear hfz16_3); (try clear hfz17_0); (try clear hfz17_1); (try clear hfz17_2); (try clear hfz17_3); (try clear hfz19_0); (try clear hfz19_1); (try clear hfz19_2); (try clear hfz19_3); (try clear hfz20_0); (try clear hfz20_1); (try clear hfz20_2); (try clear hfz20_3)
 obtain ⟨kq, x33_2, rfl, HA, HJ2, BK138, BK139, HB⟩ := hcut
 cases kq with
 | zero => exact absurd HA.out (by simp [tallboyref27_Same.j0])
 | succ kj2 =>
  have H := HA.out
  clear HA
  simp only [tallboyref27_Same.j0] at H
  by_cases c21 : x33_2 = true
  · subst c21
    have H1 : (some false) = some r := by rw [if_pos rfl] at H; exact H
    clear H
    have H := H1
    clear H1
    obtain rfl := Option.some.inj H
    go_wp2
    repeat (go_quiet (fail); try go_wp2)
    go_ret
    exact ⟨reA, hbA HB.out⟩
  replace c21 := Bool.eq_false_iff.mpr c21
  subst c21
  have H1 : (tallboyref27_Same.l0 kj2 0 a0_0 a0_1 a0_2 l0_3 a1_0 a1_1 a1_2 l1_3) = some r := by rw [if_neg (show ¬ (false = true) by decide)] at H; exact H
  clear H
  have H := H1
  clear H1
  have H' := Aside0.mk H
  clear H
  go_wp2
  repeat (go_quiet (fail); try go_wp2)
  go_loopg [5] kj2 (fun kq v5 w' => ∃ (x5_2 : Int), v5 = .int .i64 x5_2 ∧ Aside0 (tallboyref27_Same.l0 kq x5_2 a0_0 a0_1 a0_2 l0_3 a1_0 a1_1 a1_2 l1_3 = some r) ∧ Aside0 (kq ≤ kj2) ∧ Aside0 (w'.heap[gb138]? = some (.cells #[.int .i64 a0_0, .string a0_1, .int .i64 a0_2, (.slice A0_3 l0_3.length c0_3)] 24 (0, 0))) ∧ Aside0 (w'.heap[gb139]? = some (.cells #[.int .i64 a1_0, .string a1_1, .int .i64 a1_2, (.slice A1_3 l1_3.length c1_3)] 24 (0, 0))) ∧ Aside0 (Below w.heap.size w w'))
  case atStart => exact ⟨(0), rsA, H', ⟨Nat.le_refl _⟩, ⟨rbA BK138.out⟩, ⟨rbA BK139.out⟩, ⟨hbA HB.out⟩⟩
  case round =>
   clear H'
   (try clear c1); (try clear c2); (try clear p2); (try clear c6); (try clear c6b0); (try clear c6b1); (try clear c7); (try clear c7b0); (try clear c7b1); (try clear c8); (try clear c8b0); (try clear c8b1); (try clear c9); (try clear c12); (try clear c15); (try clear c18); (try clear c19); (try clear c21); (try clear hcz10_0); (try clear hcz10_1); (try clear hcz10_2); (try clear hcz10_3); (try clear hcz11_0); (try clear hcz11_1); (try clear hcz11_2); (try clear hcz11_3); (try clear hcz13_0); (try clear hcz13_1); (try clear hcz13_2); (try clear hcz13_3); (try clear hcz14_0); (try clear hcz14_1); (try clear hcz14_2); (try clear hcz14_3); (try clear hcz16_0); (try clear hcz16_1); (try clear hcz16_2); (try clear hcz16_3); (try clear hcz17_0); (try clear hcz17_1); (try clear hcz17_2); (try clear hcz17_3); (try clear hcz19_0); (try clear hcz19_1); (try clear hcz19_2); (try clear hcz19_3); (try clear hcz20_0); (try clear hcz20_1); (try clear hcz20_2); (try clear hcz20_3); (try clear hfz10_0); (try clear hfz10_1); (try clear hfz10_2); (try clear hfz10_3); (try clear hfz11_0); (try clear hfz11_1); (try clear hfz11_2); (try clear hfz11_3); (try clear hfz13_0); (try clear hfz13_1); (try clear hfz13_2); (try clear hfz13_3); (try clear hfz14_0); (try clear hfz14_1); (try clear hfz14_2); (try clear hfz14_3); (try clear hfz16_0); (try clear hfz16_1); (try clear hfz16_2); (try clear hfz16_3); (try clear hfz17_0); (try clear hfz17_1); (try clear hfz17_2); (try clear hfz17_3); (try clear hfz19_0); (try clear hfz19_1); (try clear hfz19_2); (try clear hfz19_3); (try clear hfz20_0); (try clear hfz20_1); (try clear hfz20_2); (try clear hfz20_3); (try clear p2)
   obtain ⟨x5_2, rfl, HA, HK2, BK138, BK139, HB⟩ := hrel
   cases gk with
   | zero => exact absurd HA.out (by simp [tallboyref27_Same.l0])
   | succ k2 =>
    have H := HA.out
    clear HA
    simp only [tallboyref27_Same.l0] at H
    by_cases c22 : x5_2 < (l0_3.length : Int)
    · rw [if_pos c22] at H
      have c22b0 : decide (x5_2 < (l0_3.length : Int)) = true := decide_eq_true c22
      clear c22
      by_cases c23 : 0 ≤ x5_2
      · rw [if_pos c23] at H
        have c23b0 : decide (0 ≤ x5_2) = true := decide_eq_true c23
        clear c23
        by_cases c24 : x5_2 < (l1_3.length : Int)
        · rw [if_pos c24] at H
          have c24b0 : decide (x5_2 < (l1_3.length : Int)) = true := decide_eq_true c24
          clear c24
          by_cases c25 : (!(((rd_T59 l0_3 x5_2).f0) == ((rd_T59 l1_3 x5_2).f0)) || (!((((rd_T59 l0_3 x5_2).f1).toList) == (((rd_T59 l1_3 x5_2).f1).toList)))) = true
          · rw [if_pos c25] at H
            have c25b0 : (!(((rd_T59 l0_3 x5_2).f0) == ((rd_T59 l1_3 x5_2).f0)) || (!((((rd_T59 l0_3 x5_2).f1).toList) == (((rd_T59 l1_3 x5_2).f1).toList)))) = true := c25
            clear c25
            obtain rfl := Option.some.inj H
            have hnb26 := NB138_139.out
            have hnc26 := NB139_138.out
            obtain ⟨hcz27_0, hcz27_1, hcz27_2, hcz27_3, hfz27_0, hfz27_1, hfz27_2, hfz27_3⟩ := blkA4 BK138.out
            have p140 : 0 ≤ (x5_2 : Int) := of_decide_eq_true asA
            have q140 : x5_2 < (l0_3.length : Int) := of_decide_eq_true asA
            obtain ⟨ad140, e140, hx140_0, hx140_1⟩ := at_T59 HR0_3.out x5_2 p140 q140
            cases e140
            replace hx140_0 := (HB.out.cell (World.block_lt_of_cell? w _ hx140_0)).trans hx140_0
            replace hx140_1 := (HB.out.cell (World.block_lt_of_cell? w _ hx140_1)).trans hx140_1
            replace p140 := eq_true p140
            replace q140 := eq_true q140
            obtain ⟨hcz28_0, hcz28_1, hcz28_2, hcz28_3, hfz28_0, hfz28_1, hfz28_2, hfz28_3⟩ := blkA4 BK139.out
            have p141 : 0 ≤ (x5_2 : Int) := of_decide_eq_true asA
            have q141 : x5_2 < (l1_3.length : Int) := of_decide_eq_true asA
            obtain ⟨ad141, e141, hx141_0, hx141_1⟩ := at_T59 HR1_3.out x5_2 p141 q141
            cases e141
            replace hx141_0 := (HB.out.cell (World.block_lt_of_cell? w _ hx141_0)).trans hx141_0
            replace hx141_1 := (HB.out.cell (World.block_lt_of_cell? w _ hx141_1)).trans hx141_1
            replace p141 := eq_true p141
            replace q141 := eq_true q141
            go_wp2
            repeat (go_quiet (fail); try go_wp2)
            go_ret
            exact ⟨reA, hbA HB.out⟩
          rw [if_neg c25] at H
          have c25b0 : (!(((rd_T59 l0_3 x5_2).f0) == ((rd_T59 l1_3 x5_2).f0)) || (!((((rd_T59 l0_3 x5_2).f1).toList) == (((rd_T59 l1_3 x5_2).f1).toList)))) = false := by simpa using c25
          clear c25
          have H' := Aside0.mk H
          clear H
          have hnb29 := NB138_139.out
          have hnc29 := NB139_138.out
          obtain ⟨hcz30_0, hcz30_1, hcz30_2, hcz30_3, hfz30_0, hfz30_1, hfz30_2, hfz30_3⟩ := blkA4 BK138.out
          have p140 : 0 ≤ (x5_2 : Int) := of_decide_eq_true asA
          have q140 : x5_2 < (l0_3.length : Int) := of_decide_eq_true asA
          obtain ⟨ad140, e140, hx140_0, hx140_1⟩ := at_T59 HR0_3.out x5_2 p140 q140
          cases e140
          replace hx140_0 := (HB.out.cell (World.block_lt_of_cell? w _ hx140_0)).trans hx140_0
          replace hx140_1 := (HB.out.cell (World.block_lt_of_cell? w _ hx140_1)).trans hx140_1
          replace p140 := eq_true p140
          replace q140 := eq_true q140
          obtain ⟨hcz31_0, hcz31_1, hcz31_2, hcz31_3, hfz31_0, hfz31_1, hfz31_2, hfz31_3⟩ := blkA4 BK139.out
          have p141 : 0 ≤ (x5_2 : Int) := of_decide_eq_true asA
          have q141 : x5_2 < (l1_3.length : Int) := of_decide_eq_true asA
          obtain ⟨ad141, e141, hx141_0, hx141_1⟩ := at_T59 HR1_3.out x5_2 p141 q141
          cases e141
          replace hx141_0 := (HB.out.cell (World.block_lt_of_cell? w _ hx141_0)).trans hx141_0
          replace hx141_1 := (HB.out.cell (World.block_lt_of_cell? w _ hx141_1)).trans hx141_1
          replace p141 := eq_true p141
          replace q141 := eq_true q141
          go_wp2
          repeat (go_quiet (fail); try go_wp2)
          go_roundg k2
          case measure => have := HJ2.out; have := HK2.out; omega
          case rel => exact ⟨(wrap64 (x5_2 + 1)), rsA, H', ⟨by have := HJ2.out; have := HK2.out; omega⟩, ⟨rbA BK138.out⟩, ⟨rbA BK139.out⟩, ⟨hbA HB.out⟩⟩
        rw [if_neg c24] at H
        exact absurd H (by simp)
      rw [if_neg c23] at H
      exact absurd H (by simp)
    rw [if_neg c22] at H
    have c22b0 : decide (x5_2 < (l0_3.length : Int)) = false := decide_eq_false c22
    clear c22
    obtain rfl := Option.some.inj H
    have hnb32 := NB138_139.out
    have hnc32 := NB139_138.out
    obtain ⟨hcz33_0, hcz33_1, hcz33_2, hcz33_3, hfz33_0, hfz33_1, hfz33_2, hfz33_3⟩ := blkA4 BK138.out
    go_wp2
    repeat (go_quiet (fail); try go_wp2)
    go_ret
    exact ⟨reA, hbA HB.out⟩

end
end Go.Proofs.YtfboejlemnfndaaGreatDoor.XMo
end
section
namespace Go.Proofs.YtfboejlemnfndaaGreatDoor.XMo
open Go.RowKit Go.Proofs.YtfboejlemnfndaaGreatDoorW.PrintWords Go.Proofs.YtfboejlemnfndaaGreatDoorW.PrintLast Go.Proofs.YtfboejlemnfndaaGreatDoorW.PrintMore
attribute [local go_sem] extract_sub max2_int min2_int max_two min_two max_three min_three max_four min_four   -- for this text's walks alone
set_option linter.unusedVariables false
set_option linter.unusedSimpArgs false

noncomputable section
def tallboylaw27_From.l0 : Nat → Int → Int → ByteArray → Int → List (S61) → Int → ByteArray → Int → List (S59) → Option (Int × ByteArray × Int × (List (S59)))
 | 0, _, _, _, _, _, _, _, _, _ => none
 | k + 1, x4, x143000, x143001, x143002, x143003, x145000, x145001, x145002, x145003 => if x4 < (x143003.length : Int) then (if 0 ≤ x4 then (if x145003.length < 5864062014805 then (tallboylaw27_From.l0 k (wrap64 (x4 + 1)) x143000 x143001 x143002 x143003 x145000 x145001 x145002 (x145003 ++ [(⟨(rd_T61 x143003 x4).f0, (rd_T61 x143003 x4).f1⟩ : S59)])) else (none)) else (none)) else (some (x145000, x145001, x145002, x145003))
def tallboylaw27_From.f (k : Nat) (a0_0 : Int) (a0_1 : ByteArray) (a0_2 : Int) (l0_3 : List (S61)) : Option (Int × ByteArray × Int × (List (S59))) := tallboylaw27_From.l0 k 0 a0_0 a0_1 a0_2 l0_3 a0_0 a0_1 a0_2 ([] : List (S59))
theorem tallboylaw27_From.mono_l : ∀ k, (∀ y0 y1 y2 y3 y4 y5 y6 y7 y8, LeO (tallboylaw27_From.l0 k y0 y1 y2 y3 y4 y5 y6 y7 y8) (tallboylaw27_From.l0 (k + 1) y0 y1 y2 y3 y4 y5 y6 y7 y8))
 | 0 => fun _ _ _ _ _ _ _ _ _ r h => by simp [tallboylaw27_From.l0] at h
 | k + 1 => by
  have ih0 := tallboylaw27_From.mono_l k
  · intro y0 y1 y2 y3 y4 y5 y6 y7 y8
    unfold tallboylaw27_From.l0
    repeat' first
    | (with_reducible exact ih0 _ _ _ _ _ _ _ _ _)
    | (with_reducible exact LeO.refl _)
    | (with_reducible exact LeO.none _)
    | (with_reducible refine LeO.ite ?_ ?_)
    | (with_reducible refine LeO.bind ?_ (fun _ => ?_))
    | exact ih0 _ _ _ _ _ _ _ _ _
    | exact LeO.none _
    | refine LeO.ite ?_ ?_
    | refine LeO.bind ?_ (fun _ => ?_)
theorem tallboylaw27_From.mono : ∀ a0 a1 a2 a3 k, LeO (tallboylaw27_From.f k a0 a1 a2 a3) (tallboylaw27_From.f (k + 1) a0 a1 a2 a3) := by
 intro a0 a1 a2 a3 k
 have ih0 := tallboylaw27_From.mono_l k
 unfold tallboylaw27_From.f
 repeat' first
  | (with_reducible exact ih0 _ _ _ _ _ _ _ _ _)
  | (with_reducible exact LeO.refl _)
  | (with_reducible exact LeO.none _)
  | (with_reducible refine LeO.ite ?_ ?_)
  | (with_reducible refine LeO.bind ?_ (fun _ => ?_))
  | exact ih0 _ _ _ _ _ _ _ _ _
  | exact LeO.none _
  | refine LeO.ite ?_ ?_
  | refine LeO.bind ?_ (fun _ => ?_)
def tallboylaw27_From.T5 : Bool × List (List Nat × List Nat) := (true, [([], []), ([0], [0]), ([], []), ([2], [2]), ([], []), ([3, 4], [3, 4]), ([5], [5]), ([6], [6]), ([], []), ([8], [8]), ([], []), ([9, 10], [9, 10]), ([11], [11]), ([12], [12]), ([7, 13], [7, 13]), ([14], [14]), ([1, 15], [1, 15]), ([0, 1, 2, 3, 4, 5, 6, 7, 8, 9, 10, 11, 12, 13, 14, 15, 16], []), ([17, 16, 16, 0, 1, 2, 3, 4, 5, 6, 7, 8, 9, 10, 11, 12, 13, 14, 15, 16], [16, 17])])
def tallboylaw27_From.B5 : List Nat := [0, 1, 0, 4, 0, 28, 60, 124, 0, 256, 0, 1792, 3840, 7936, 16380, 32764, 65535, 131071, 262143]
theorem tallboylaw27_From.tab5 : rtab .any (opsOf Tryz.f20 5) = tallboylaw27_From.T5 := by kernel_rfl
theorem tallboylaw27_From.bits5 : waitsOk tallboylaw27_From.T5.2 tallboylaw27_From.B5 = true := by kernel_rfl
set_option maxHeartbeats 8000000 in
set_option maxRecDepth 100000 in
theorem tallboylaw27_From.calls (k : Nat) (a0_0 : Int) (a0_1 : ByteArray) (a0_2 : Int) (A0_3 : Option Addr) (c0_3 : Nat) (l0_3 : List (S61)) (r1 : Int) (r2 : ByteArray) (r3 : Int) (r4 : List (S59)) (w : World) (hr0_3 : Kd.C k61 w A0_3 l0_3.length l0_3) (hc0_3 : l0_3.length ≤ c0_3) (h : tallboylaw27_From.f k a0_0 a0_1 a0_2 l0_3 = some (r1, r2, r3, r4)) :
 Calls Tryz.prog 20 #[.agg #[.int .i64 a0_0, .string a0_1, .int .i64 a0_2, .slice A0_3 l0_3.length c0_3]] w fun e w' => ∃ v3_ : Value, e = .returned (.agg #[.int .i64 r1, .string r2, .int .i64 r3, v3_]) ∧ Kd.R k59 59 w' w.heap.size (fun _ => True) v3_ r4 ∧ Below w.heap.size w w' := by
 have hu31 := Tryz.underlying31
 have hu24 := Tryz.underlying24
 have hu59 := Tryz.underlying59
 have HR0_3 := Aside0.mk hr0_3
 have HC0_3 := Aside0.mk hc0_3
 clear hr0_3 hc0_3
 have HB := Aside0.mk (Below.refl w.heap.size w)
 have H : (tallboylaw27_From.l0 k 0 a0_0 a0_1 a0_2 l0_3 a0_0 a0_1 a0_2 ([] : List (S59))) = some (r1, r2, r3, r4) := h
 clear h
 have H' := Aside0.mk H
 clear H
 go_enter Tryz.func20, Tryz.ntmps20
 go_wp2_with (first | ((with_reducible refine gate_dst (N := 1) rfl ?_); refine box_event ?hg (N := 1) ?hd (cs := #[.int .i64 a0_0, .string a0_1, .int .i64 a0_2, .slice A0_3 l0_3.length c0_3]) (t := 31) ?hr ?_; (case hd => rfl); (case hg => rfl); (case hr => first | (go_simp; done) | (go_simp; rfl)); intro gb142 hg w2 hbox hb; have n0_ := Aside0.mk (below_step (hbA HB.out) hb); have n1_ := Aside0.mk (hbox); have n2_ := Aside0.mk ((by rw [hg]; exact (below_size (hbA HB.out)) : w.heap.size ≤ gb142)); have n3_ := Aside0.mk ((by rw [hg]; exact (below_size (hbA HB.out)) : w.heap.size ≤ gb142)); clear HB; have HB := n0_; have BK142 := n1_; have GW142 := n2_; have GE142 := n3_; clear n0_ n1_ n2_ n3_; clear hb hbox hg) | ((with_reducible refine gate_dst (N := 2) rfl ?_); refine box_event ?hg (N := 2) ?hd (cs := #[.int .i64 0, .string (⟨#[]⟩ : ByteArray), .int .i64 0, .slice none 0 0]) (t := 24) ?hr ?_; (case hd => rfl); (case hg => rfl); (case hr => first | (go_simp; done) | (go_simp; rfl)); intro gb143 hg w3 hbox hb; have n0_ := Aside0.mk (blk_below (g := gb142) (o := .cells #[.int .i64 a0_0, .string a0_1, .int .i64 a0_2, .slice A0_3 l0_3.length c0_3] 31 (0, 0)) (rbA BK142.out) hb); have n1_ := Aside0.mk (below_step (hbA HB.out) hb); have n2_ := Aside0.mk (hbox); have n3_ := Aside0.mk ((by rw [hg]; exact (below_size (hbA HB.out)) : w.heap.size ≤ gb143)); have n4_ := Aside0.mk ((by rw [hg]; exact (below_size (hbA HB.out)) : w.heap.size ≤ gb143)); have n5_ := Aside0.mk ((by rw [hg]; exact Nat.ne_of_lt (blk_lt (g := gb142) (o := .cells #[.int .i64 a0_0, .string a0_1, .int .i64 a0_2, .slice A0_3 l0_3.length c0_3] 31 (0, 0)) (rbA BK142.out)) : gb142 ≠ gb143)); have n6_ := Aside0.mk ((by rw [hg]; exact Nat.ne_of_gt (blk_lt (g := gb142) (o := .cells #[.int .i64 a0_0, .string a0_1, .int .i64 a0_2, .slice A0_3 l0_3.length c0_3] 31 (0, 0)) (rbA BK142.out)) : gb143 ≠ gb142)); clear BK142; clear HB; have BK142 := n0_; have HB := n1_; have BK143 := n2_; have GW143 := n3_; have GE143 := n4_; have NB142_143 := n5_; have NB143_142 := n6_; clear n0_ n1_ n2_ n3_ n4_ n5_ n6_; clear hb hbox hg; have hnb4 := NB142_143.out; have hnc4 := NB143_142.out; obtain ⟨hcz5_0, hcz5_1, hcz5_2, hcz5_3, hfz5_0, hfz5_1, hfz5_2, hfz5_3⟩ := blkA4 BK142.out) | ((with_reducible refine gate_dst (N := 3) rfl ?_); refine box_event ?hg (N := 3) ?hd (cs := #[.int .i64 0, .string (⟨#[]⟩ : ByteArray), .int .i64 0, .slice none 0 0]) (t := 24) ?hr ?_; (case hd => rfl); (case hg => rfl); (case hr => first | (go_simp; done) | (go_simp; rfl)); intro gb144 hg w6 hbox hb; have n0_ := Aside0.mk (blk_below (g := gb142) (o := .cells #[.int .i64 a0_0, .string a0_1, .int .i64 a0_2, .slice A0_3 l0_3.length c0_3] 31 (0, 0)) (rbA BK142.out) hb); have n1_ := Aside0.mk (blk_below (g := gb143) (o := .cells #[.int .i64 0, .string (⟨#[]⟩ : ByteArray), .int .i64 0, .slice none 0 0] 24 (0, 0)) (rbA BK143.out) hb); have n2_ := Aside0.mk (below_step (hbA HB.out) hb); have n3_ := Aside0.mk (hbox); have n4_ := Aside0.mk ((by rw [hg]; exact (below_size (hbA HB.out)) : w.heap.size ≤ gb144)); have n5_ := Aside0.mk ((by rw [hg]; exact (below_size (hbA HB.out)) : w.heap.size ≤ gb144)); have n6_ := Aside0.mk ((by rw [hg]; exact Nat.ne_of_lt (blk_lt (g := gb142) (o := .cells #[.int .i64 a0_0, .string a0_1, .int .i64 a0_2, .slice A0_3 l0_3.length c0_3] 31 (0, 0)) (rbA BK142.out)) : gb142 ≠ gb144)); have n7_ := Aside0.mk ((by rw [hg]; exact Nat.ne_of_gt (blk_lt (g := gb142) (o := .cells #[.int .i64 a0_0, .string a0_1, .int .i64 a0_2, .slice A0_3 l0_3.length c0_3] 31 (0, 0)) (rbA BK142.out)) : gb144 ≠ gb142)); have n8_ := Aside0.mk ((by rw [hg]; exact Nat.ne_of_lt (blk_lt (g := gb143) (o := .cells #[.int .i64 0, .string (⟨#[]⟩ : ByteArray), .int .i64 0, .slice none 0 0] 24 (0, 0)) (rbA BK143.out)) : gb143 ≠ gb144)); have n9_ := Aside0.mk ((by rw [hg]; exact Nat.ne_of_gt (blk_lt (g := gb143) (o := .cells #[.int .i64 0, .string (⟨#[]⟩ : ByteArray), .int .i64 0, .slice none 0 0] 24 (0, 0)) (rbA BK143.out)) : gb144 ≠ gb143)); clear BK142; clear BK143; clear HB; have BK142 := n0_; have BK143 := n1_; have HB := n2_; have BK144 := n3_; have GW144 := n4_; have GE144 := n5_; have NB142_144 := n6_; have NB144_142 := n7_; have NB143_144 := n8_; have NB144_143 := n9_; clear n0_ n1_ n2_ n3_ n4_ n5_ n6_ n7_ n8_ n9_; clear hb hbox hg; have hnb7 := NB144_142.out; have hnc7 := NB142_144.out; have hnb8 := NB144_143.out; have hnc8 := NB143_144.out; obtain ⟨hcz9_0, hcz9_1, hcz9_2, hcz9_3, hfz9_0, hfz9_1, hfz9_2, hfz9_3⟩ := blkA4 BK144.out))
 go_loopg [4] k (fun kq v4 w' => ∃ (x4_1 : Int) (x145003_1 : List (S59)) (u145003 : Value), v4 = .int .i64 x4_1 ∧ Aside0 (tallboylaw27_From.l0 kq x4_1 a0_0 a0_1 a0_2 l0_3 a0_0 a0_1 a0_2 x145003_1 = some (r1, r2, r3, r4)) ∧ Aside0 (kq ≤ k) ∧ Aside0 (Kd.R k59 59 w' w.heap.size (fun _ => True) u145003 x145003_1) ∧ Aside0 (w'.heap[gb142]? = some (.cells #[.int .i64 a0_0, .string a0_1, .int .i64 a0_2, (.slice A0_3 l0_3.length c0_3)] 31 (0, 0))) ∧ Aside0 (w'.heap[gb143]? = some (.cells #[.int .i64 0, .string (⟨#[]⟩ : ByteArray), .int .i64 0, (.slice none 0 0)] 24 (0, 0))) ∧ Aside0 (w'.heap[gb144]? = some (.cells #[.int .i64 a0_0, .string a0_1, .int .i64 a0_2, u145003] 24 (0, 0))) ∧ Aside0 (Below w.heap.size w w'))
 case atStart => exact ⟨(0), (([] : List (S59))), (.slice none 0 0), rsA, H', ⟨Nat.le_refl _⟩, ⟨knA⟩, ⟨by (with_reducible repeat (first | refine blk_drewN ?_ _ | refine blk_drew ?_ | refine blk_alloc ?_ _)); refine blk_far ?_ NB142_144.out _; (with_reducible repeat (first | refine blk_drewN ?_ _ | refine blk_drew ?_ | refine blk_alloc ?_ _)); refine blk_far ?_ NB142_144.out _; (with_reducible repeat (first | refine blk_drewN ?_ _ | refine blk_drew ?_ | refine blk_alloc ?_ _)); refine blk_far ?_ NB142_144.out _; (with_reducible repeat (first | refine blk_drewN ?_ _ | refine blk_drew ?_ | refine blk_alloc ?_ _)); refine blk_far ?_ NB142_144.out _; (with_reducible repeat (first | refine blk_drewN ?_ _ | refine blk_drew ?_ | refine blk_alloc ?_ _)); exact BK142.out⟩, ⟨by (with_reducible repeat (first | refine blk_drewN ?_ _ | refine blk_drew ?_ | refine blk_alloc ?_ _)); refine blk_far ?_ NB143_144.out _; (with_reducible repeat (first | refine blk_drewN ?_ _ | refine blk_drew ?_ | refine blk_alloc ?_ _)); refine blk_far ?_ NB143_144.out _; (with_reducible repeat (first | refine blk_drewN ?_ _ | refine blk_drew ?_ | refine blk_alloc ?_ _)); refine blk_far ?_ NB143_144.out _; (with_reducible repeat (first | refine blk_drewN ?_ _ | refine blk_drew ?_ | refine blk_alloc ?_ _)); refine blk_far ?_ NB143_144.out _; (with_reducible repeat (first | refine blk_drewN ?_ _ | refine blk_drew ?_ | refine blk_alloc ?_ _)); exact BK143.out⟩, ⟨by (with_reducible repeat (first | refine blk_drewN ?_ _ | refine blk_drew ?_ | refine blk_alloc ?_ _)); refine blk_put (cs := #[.int .i64 a0_0, .string a0_1, .int .i64 a0_2, .slice none 0 0]) ?_ 3 _ rfl; (with_reducible repeat (first | refine blk_drewN ?_ _ | refine blk_drew ?_ | refine blk_alloc ?_ _)); refine blk_put (cs := #[.int .i64 a0_0, .string a0_1, .int .i64 0, .slice none 0 0]) ?_ 2 _ rfl; (with_reducible repeat (first | refine blk_drewN ?_ _ | refine blk_drew ?_ | refine blk_alloc ?_ _)); refine blk_put (cs := #[.int .i64 a0_0, .string (⟨#[]⟩ : ByteArray), .int .i64 0, .slice none 0 0]) ?_ 1 _ rfl; (with_reducible repeat (first | refine blk_drewN ?_ _ | refine blk_drew ?_ | refine blk_alloc ?_ _)); refine blk_put (cs := #[.int .i64 0, .string (⟨#[]⟩ : ByteArray), .int .i64 0, .slice none 0 0]) ?_ 0 _ rfl; (with_reducible repeat (first | refine blk_drewN ?_ _ | refine blk_drew ?_ | refine blk_alloc ?_ _)); exact BK144.out⟩, ⟨hbA HB.out⟩⟩
 case round =>
  clear H'
  (try clear c2); (try clear p2); (try clear c4); (try clear c7); (try clear c8); (try clear hcz5_0); (try clear hcz5_1); (try clear hcz5_2); (try clear hcz5_3); (try clear hcz9_0); (try clear hcz9_1); (try clear hcz9_2); (try clear hcz9_3); (try clear hfz5_0); (try clear hfz5_1); (try clear hfz5_2); (try clear hfz5_3); (try clear hfz9_0); (try clear hfz9_1); (try clear hfz9_2); (try clear hfz9_3)
  obtain ⟨x4_1, x145003_1, u145003, rfl, HA, HK1, HO_145003, BK142, BK143, BK144, HB⟩ := hrel
  cases gk with
  | zero => exact absurd HA.out (by simp [tallboylaw27_From.l0])
  | succ k1 =>
   have H := HA.out
   clear HA
   simp only [tallboylaw27_From.l0] at H
   by_cases c10 : x4_1 < (l0_3.length : Int)
   · rw [if_pos c10] at H
     have c10b0 : decide (x4_1 < (l0_3.length : Int)) = true := decide_eq_true c10
     clear c10
     by_cases c11 : 0 ≤ x4_1
     · rw [if_pos c11] at H
       have c11b0 : decide (0 ≤ x4_1) = true := decide_eq_true c11
       clear c11
       by_cases c12 : x145003_1.length < 5864062014805
       · rw [if_pos c12] at H
         have LMc12 := Aside0.mk c12
         clear c12
         obtain ⟨y147, hy147⟩ : ∃ y_ : List (S59), y_ = (x145003_1 ++ [(⟨(rd_T61 l0_3 x4_1).f0, (rd_T61 l0_3 x4_1).f1⟩ : S59)]) := ⟨_, rfl⟩
         replace H : (tallboylaw27_From.l0 k1 (wrap64 (x4_1 + 1)) a0_0 a0_1 a0_2 l0_3 a0_0 a0_1 a0_2 y147) = some (r1, r2, r3, r4) := by first | (rw [hy147]; with_reducible exact H) | (have H2_ := (Option.bind_some _ _).symm.trans H; rw [hy147]; with_reducible exact H2_) | (have H2_ := (Option.bind_some _ _).symm.trans H; with_reducible exact H2_) | with_reducible exact H | (rw [hy147]; exact H) | exact H
         have Ny147 := Aside0.mk hy147
         clear hy147
         have H' := Aside0.mk H
         clear H
         have hnb13 := NB142_143.out
         have hnc13 := NB143_142.out
         have hnb14 := NB142_144.out
         have hnc14 := NB144_142.out
         obtain ⟨hcz15_0, hcz15_1, hcz15_2, hcz15_3, hfz15_0, hfz15_1, hfz15_2, hfz15_3⟩ := blkA4 BK142.out
         try go_wp2
         replace HO_145003 := Aside0.mk (Kd.R_drew HO_145003.out)
         replace BK142 := Aside0.mk (blk_drew BK142.out)
         replace BK143 := Aside0.mk (blk_drew BK143.out)
         replace BK144 := Aside0.mk (blk_drew BK144.out)
         replace HB := Aside0.mk (below_drew1 HB.out)
         have p145 : 0 ≤ (x4_1 : Int) := of_decide_eq_true asA
         have q145 : x4_1 < (l0_3.length : Int) := of_decide_eq_true asA
         obtain ⟨ad145, e145, hx145_0, hx145_1⟩ := at_T61 HR0_3.out x4_1 p145 q145
         have hw145_1 := hx145_1
         have hw145_0 := hx145_0
         cases e145
         replace hx145_0 := (HB.out.cell (World.block_lt_of_cell? w _ hx145_0)).trans hx145_0
         replace hx145_1 := (HB.out.cell (World.block_lt_of_cell? w _ hx145_1)).trans hx145_1
         replace p145 := eq_true p145
         replace q145 := eq_true q145
         have p146 : 0 ≤ (x4_1 : Int) := of_decide_eq_true asA
         have q146 : x4_1 < (l0_3.length : Int) := of_decide_eq_true asA
         obtain ⟨ad146, e146, hx146_0, hx146_1⟩ := at_T61 HR0_3.out x4_1 p146 q146
         have hw146_1 := hx146_1
         have hw146_0 := hx146_0
         obtain rfl : ad145 = ad146 := (by injection e146)
         replace hx146_0 := (HB.out.cell (World.block_lt_of_cell? w _ hx146_0)).trans hx146_0
         replace hx146_1 := (HB.out.cell (World.block_lt_of_cell? w _ hx146_1)).trans hx146_1
         replace p146 := eq_true p146
         replace q146 := eq_true q146
         refine start_ (n := 19) (S := fun w' => w'.cell? ⟨gb144, 0, none⟩ = some (.int .i64 a0_0) ∧ w'.cell? ⟨gb144, 1, none⟩ = some (.string a0_1) ∧ w'.cell? ⟨gb144, 2, none⟩ = some (.int .i64 a0_2) ∧ w'.cell? ⟨gb144, 3, none⟩ = some (u145003) ∧ w'.cell? ⟨gb142, 0, none⟩ = some (.int .i64 a0_0) ∧ w'.cell? ⟨gb142, 1, none⟩ = some (.string a0_1) ∧ w'.cell? ⟨gb142, 2, none⟩ = some (.int .i64 a0_2) ∧ w'.cell? ⟨gb142, 3, none⟩ = some (.slice (some ad145) l0_3.length c0_3) ∧ w'.cell? (ad145.add ((x4_1).toNat * 2)) = some (.int .u8 ((rd_T61 l0_3 x4_1).f0)) ∧ w'.cell? ⟨(ad145.add ((x4_1).toNat * 2)).block, (ad145.add ((x4_1).toNat * 2)).off + 1, none⟩ = some (.string ((rd_T61 l0_3 x4_1).f1)) ∧ w'.cell? (ad145.add ((x4_1).toNat * 2)) = some (.int .u8 ((rd_T61 l0_3 x4_1).f0)) ∧ w'.cell? ⟨(ad145.add ((x4_1).toNat * 2)).block, (ad145.add ((x4_1).toNat * 2)).off + 1, none⟩ = some (.string ((rd_T61 l0_3 x4_1).f1))) (ds := [18]) #[false, false, false, false, false, false, false, false, false, false, false, false, false, false, false, false, false, false, false] (by kernel_rfl) rfl rfl ⟨(blk_cell BK144.out 0).trans rfl, (blk_cell BK144.out 1).trans rfl, (blk_cell BK144.out 2).trans rfl, (blk_cell BK144.out 3).trans rfl, (blk_cell BK142.out 0).trans rfl, (blk_cell BK142.out 1).trans rfl, (blk_cell BK142.out 2).trans rfl, (blk_cell BK142.out 3).trans rfl, ((HB.out.cell (World.block_lt_of_cell? w _ hw145_0)).trans hw145_0), ((HB.out.cell (World.block_lt_of_cell? w _ hw145_1)).trans hw145_1), ((HB.out.cell (World.block_lt_of_cell? w _ hw146_0)).trans hw146_0), ((HB.out.cell (World.block_lt_of_cell? w _ hw146_1)).trans hw146_1)⟩ (fun hHeld => ?_); refine with_tabW tallboylaw27_From.tab5 tallboylaw27_From.bits5 (fun HT_ HW_ => ?_)
         generalize wr.drew = w16 at HO_145003 BK142 BK143 BK144 HB hx145_0 hx145_1 hx146_0 hx146_1 hHeld ⊢
         refine pureA_ (i := 0) (N := some 19) #[true, false, false, false, false, false, false, false, false, false, false, false, false, false, false, false, false, false, false] rfl rfl ?_ (hc := any_of HT_.out (by kernel_rfl))
         refine pureA_ (i := 2) (N := some 21) #[true, false, true, false, false, false, false, false, false, false, false, false, false, false, false, false, false, false, false] rfl rfl ?_ (hc := any_of HT_.out (by kernel_rfl))
         refine pureA_ (i := 4) (N := some 23) #[true, false, true, false, true, false, false, false, false, false, false, false, false, false, false, false, false, false, false] rfl rfl ?_ (hc := any_of HT_.out (by kernel_rfl))
         refine pureA_ (i := 8) (N := some 27) #[true, false, true, false, true, false, false, false, true, false, false, false, false, false, false, false, false, false, false] rfl rfl ?_ (hc := any_of HT_.out (by kernel_rfl))
         refine pureA_ (i := 10) (N := some 29) #[true, false, true, false, true, false, false, false, true, false, true, false, false, false, false, false, false, false, false] rfl rfl ?_ (hc := any_of HT_.out (by kernel_rfl))
         refine takeA_ (i := 1) (N := some 20) #[true, true, true, false, true, false, false, false, true, false, true, false, false, false, false, false, false, false, false] rfl rfl hHeld ?_ (hc := take_ofW HT_.out HW_.out (by kernel_rfl)) (hy := by rintro w' ⟨s0, s1, s2, s3, s4, s5, s6, s7, s8, s9, s10, s11⟩; go_simp; with_reducible rfl)
         refine takeA_ (i := 3) (N := some 22) #[true, true, true, true, true, false, false, false, true, false, true, false, false, false, false, false, false, false, false] rfl rfl hHeld ?_ (hc := take_ofW HT_.out HW_.out (by kernel_rfl)) (hy := by rintro w' ⟨s0, s1, s2, s3, s4, s5, s6, s7, s8, s9, s10, s11⟩; go_simp; with_reducible rfl)
         refine pureA_ (i := 5) (N := some 24) #[true, true, true, true, true, true, false, false, true, false, true, false, false, false, false, false, false, false, false] rfl rfl ?_ (hc := any_of HT_.out (by kernel_rfl))
         refine pureA_ (i := 6) (N := some 25) #[true, true, true, true, true, true, true, false, true, false, true, false, false, false, false, false, false, false, false] rfl rfl ?_ (hc := any_of HT_.out (by kernel_rfl))
         refine takeA_ (i := 7) (N := some 26) #[true, true, true, true, true, true, true, true, true, false, true, false, false, false, false, false, false, false, false] rfl rfl hHeld ?_ (hc := take_ofW HT_.out HW_.out (by kernel_rfl)) (hy := by rintro w' ⟨s0, s1, s2, s3, s4, s5, s6, s7, s8, s9, s10, s11⟩; go_simp; with_reducible rfl)
         refine takeA_ (i := 9) (N := some 28) #[true, true, true, true, true, true, true, true, true, true, true, false, false, false, false, false, false, false, false] rfl rfl hHeld ?_ (hc := take_ofW HT_.out HW_.out (by kernel_rfl)) (hy := by rintro w' ⟨s0, s1, s2, s3, s4, s5, s6, s7, s8, s9, s10, s11⟩; go_simp; with_reducible rfl)
         refine pureA_ (i := 11) (N := some 30) #[true, true, true, true, true, true, true, true, true, true, true, true, false, false, false, false, false, false, false] rfl rfl ?_ (hc := any_of HT_.out (by kernel_rfl))
         refine pureA_ (i := 12) (N := some 31) #[true, true, true, true, true, true, true, true, true, true, true, true, true, false, false, false, false, false, false] rfl rfl ?_ (hc := any_of HT_.out (by kernel_rfl))
         refine takeA_ (i := 13) (N := some 32) #[true, true, true, true, true, true, true, true, true, true, true, true, true, true, false, false, false, false, false] rfl rfl hHeld ?_ (hc := take_ofW HT_.out HW_.out (by kernel_rfl)) (hy := by rintro w' ⟨s0, s1, s2, s3, s4, s5, s6, s7, s8, s9, s10, s11⟩; go_simp; with_reducible rfl)
         refine pureA_ (i := 14) (N := some 33) #[true, true, true, true, true, true, true, true, true, true, true, true, true, true, true, false, false, false, false] rfl rfl ?_ (hc := any_of HT_.out (by kernel_rfl))
         refine one_ (i := 15) (N := some 34) #[true, true, true, true, true, true, true, true, true, true, true, true, true, true, true, true, false, false, false] rfl rfl (one_of HT_.out (by kernel_rfl)) (by decide) (fun K hK => ?_)
         refine value_ (w1 := ?_) (v := ?_) (by rfl) rfl ?_ ?_
         rotate_left 2
         · go_simp
           constructor
           · rfl
           rfl
         refine hK.out _ _ ⟨(blk_cell (blk_alloc BK144.out _) 0).trans rfl, (blk_cell (blk_alloc BK144.out _) 1).trans rfl, (blk_cell (blk_alloc BK144.out _) 2).trans rfl, (blk_cell (blk_alloc BK144.out _) 3).trans rfl, (blk_cell (blk_alloc BK142.out _) 0).trans rfl, (blk_cell (blk_alloc BK142.out _) 1).trans rfl, (blk_cell (blk_alloc BK142.out _) 2).trans rfl, (blk_cell (blk_alloc BK142.out _) 3).trans rfl, (World.cell?_alloc_lt _ _ _ (World.block_lt_of_cell? _ _ (((HB.out.cell (World.block_lt_of_cell? w _ hw145_0)).trans hw145_0)))).trans (((HB.out.cell (World.block_lt_of_cell? w _ hw145_0)).trans hw145_0)), (World.cell?_alloc_lt _ _ _ (World.block_lt_of_cell? _ _ (((HB.out.cell (World.block_lt_of_cell? w _ hw145_1)).trans hw145_1)))).trans (((HB.out.cell (World.block_lt_of_cell? w _ hw145_1)).trans hw145_1)), (World.cell?_alloc_lt _ _ _ (World.block_lt_of_cell? _ _ (((HB.out.cell (World.block_lt_of_cell? w _ hw146_0)).trans hw146_0)))).trans (((HB.out.cell (World.block_lt_of_cell? w _ hw146_0)).trans hw146_0)), (World.cell?_alloc_lt _ _ _ (World.block_lt_of_cell? _ _ (((HB.out.cell (World.block_lt_of_cell? w _ hw146_1)).trans hw146_1)))).trans (((HB.out.cell (World.block_lt_of_cell? w _ hw146_1)).trans hw146_1))⟩ (fun hHeld => ?_)
         clear hK K
         refine normA_ ?_
         refine one_ (i := 16) (N := some 35) #[true, true, true, true, true, true, true, true, true, true, true, true, true, true, true, true, true, false, false] rfl rfl (one_of HT_.out (by kernel_rfl)) (by decide) (fun K hK => ?_)
         refine Kd.R_append_step k59 (w0 := w) w.heap.size (by rfl) (.tmp 20) (.tmp 34) 22 59 (.agg #[(.int .u8 0), (.string ⟨#[]⟩)]) 24 rfl Tryz.underlying22 info59 rfl (by decide) (by omega) u145003 x145003_1 (⟨(rd_T61 l0_3 x4_1).f0, (rd_T61 l0_3 x4_1).f1⟩ : S59) [.int .u8 ((rd_T61 l0_3 x4_1).f0), .string ((rd_T61 l0_3 x4_1).f1)] (fun _ => True) (fun _ => False) rfl rfl ?aP (fun _ hk => hk.elim) ?aF ?aO ?aB ?aS ?aL ?_
         (case aP => exact k59_mkM _ _ _ (⟨(rd_T61 l0_3 x4_1).f0, (rd_T61 l0_3 x4_1).f1⟩ : S59))
         (case aB => exact (hbA HB.out))
         (case aF => exact (fun _ _ => trivial))
         (case aO => exact (rdA HO_145003.out))
         (case aS => exact (below_size (hbA HB.out)))
         (case aL => have := LMc12.out; omega)
         intro v148 w17 ho hb hg hat
         rw [← Ny147.out] at ho
         have n0_ := Aside0.mk (blk_grown (g := gb142) (o := .cells #[.int .i64 a0_0, .string a0_1, .int .i64 a0_2, .slice (some ad145) l0_3.length c0_3] 31 (0, 0)) (rbA BK142.out) hg (Kd.R_ne HO_145003.out BK142.out (by decide)))
         have n1_ := Aside0.mk (blk_grown (g := gb143) (o := .cells #[.int .i64 0, .string (⟨#[]⟩ : ByteArray), .int .i64 0, .slice none 0 0] 24 (0, 0)) (rbA BK143.out) hg (Kd.R_ne HO_145003.out BK143.out (by decide)))
         have n2_ := Aside0.mk (blk_grown (g := gb144) (o := .cells #[.int .i64 a0_0, .string a0_1, .int .i64 a0_2, u145003] 24 (0, 0)) (rbA BK144.out) hg (Kd.R_ne HO_145003.out BK144.out (by decide)))
         have n3_ := Aside0.mk (hb)
         have n4_ := Aside0.mk (ho)
         clear BK142
         clear BK143
         clear BK144
         clear HB
         clear HO_145003
         have BK142 := n0_
         have BK143 := n1_
         have BK144 := n2_
         have HB := n3_
         have HO149 := n4_
         clear n0_ n1_ n2_ n3_ n4_
         clear ho hb hg hat
         obtain ⟨Ao18, co18, eo18⟩ := Kd.R_slice HO149.out
         (first | subst eo18 | (injection eo18 with f1_ f2_ f3_; have f4_ := f1_.symm; have f5_ := f3_.symm; clear f1_ f2_ f3_; subst f4_; subst f5_))
         refine hK.out _ _ ⟨(blk_cell BK144.out 0).trans rfl, (blk_cell BK144.out 1).trans rfl, (blk_cell BK144.out 2).trans rfl, (blk_cell BK144.out 3).trans rfl, (blk_cell BK142.out 0).trans rfl, (blk_cell BK142.out 1).trans rfl, (blk_cell BK142.out 2).trans rfl, (blk_cell BK142.out 3).trans rfl, ((HB.out.cell (World.block_lt_of_cell? w _ hw145_0)).trans hw145_0), ((HB.out.cell (World.block_lt_of_cell? w _ hw145_1)).trans hw145_1), ((HB.out.cell (World.block_lt_of_cell? w _ hw146_0)).trans hw146_0), ((HB.out.cell (World.block_lt_of_cell? w _ hw146_1)).trans hw146_1)⟩ (fun hHeld => ?_)
         clear hK K
         refine normA_ ?_
         refine pureA_ (i := 17) (N := some 36) #[true, true, true, true, true, true, true, true, true, true, true, true, true, true, true, true, true, true, false] rfl rfl ?_ (hc := any_of HT_.out (by kernel_rfl))
         refine last_ (i := 18) (N := none) #[true, true, true, true, true, true, true, true, true, true, true, true, true, true, true, true, true, true, true] rfl rfl (one_of HT_.out (by kernel_rfl)) (by decide) (fun K hK => ?_)
         have hs19 : w17.cell? ⟨gb144, 3, none⟩ = some (u145003) := (blk_cell BK144.out 3).trans rfl
         have hfs19 := blk_frozen BK144.out 3
         have hns19_0 := NB142_144.out
         have hns19_1 := NB143_144.out
         have hms19_0 := NB144_142.out
         have hms19_1 := NB144_143.out
         refine skip_ (w1 := ?_) (by rfl) rfl ?_ ?_
         rotate_left
         · go_simp
           rfl
         refine hK.out _ _ ?_
         clear hK K
         refine done_ (done_of HT_.out (by kernel_rfl)) ?_
         try go_wp2
         go_roundg k1
         case measure => have := HK1.out; omega
         case rel => exact ⟨(wrap64 (x4_1 + 1)), (y147), (.slice Ao18 y147.length co18), rsA, H', ⟨by have := HK1.out; omega⟩, ⟨by (with_reducible repeat (first | apply Kd.R_alloc | apply Kd.R_drewN | apply Kd.R_drew)); exact Kd.R_mono (Kd.R_far (p := ⟨gb144, 3, none⟩) (Kd.R_types HO149.out BK144.out (by decide)) (fun _ hk => hk.2) (.slice Ao18 y147.length co18)) (fun _ hk => trivial)⟩, ⟨by (with_reducible repeat (first | refine blk_drewN ?_ _ | refine blk_drew ?_ | refine blk_alloc ?_ _)); refine blk_far ?_ NB142_144.out _; (with_reducible repeat (first | refine blk_drewN ?_ _ | refine blk_drew ?_ | refine blk_alloc ?_ _)); exact BK142.out⟩, ⟨by (with_reducible repeat (first | refine blk_drewN ?_ _ | refine blk_drew ?_ | refine blk_alloc ?_ _)); refine blk_far ?_ NB143_144.out _; (with_reducible repeat (first | refine blk_drewN ?_ _ | refine blk_drew ?_ | refine blk_alloc ?_ _)); exact BK143.out⟩, ⟨by (with_reducible repeat (first | refine blk_drewN ?_ _ | refine blk_drew ?_ | refine blk_alloc ?_ _)); refine blk_put (cs := #[.int .i64 a0_0, .string a0_1, .int .i64 a0_2, u145003]) ?_ 3 _ rfl; (with_reducible repeat (first | refine blk_drewN ?_ _ | refine blk_drew ?_ | refine blk_alloc ?_ _)); exact BK144.out⟩, ⟨hbA HB.out⟩⟩
       rw [if_neg c12] at H
       exact absurd H (by simp)
     rw [if_neg c11] at H
     exact absurd H (by simp)
   rw [if_neg c10] at H
   have c10b0 : decide (x4_1 < (l0_3.length : Int)) = false := decide_eq_false c10
   clear c10
   simp only [Option.some.injEq, Prod.mk.injEq] at H
   obtain ⟨rfl, rfl, rfl, rfl⟩ := H
   have hnb20 := NB142_143.out
   have hnc20 := NB143_142.out
   have hnb21 := NB142_144.out
   have hnc21 := NB144_142.out
   obtain ⟨hcz22_0, hcz22_1, hcz22_2, hcz22_3, hfz22_0, hfz22_1, hfz22_2, hfz22_3⟩ := blkA4 BK142.out
   have hnb23 := NB144_143.out
   have hnc23 := NB143_144.out
   obtain ⟨hcz24_0, hcz24_1, hcz24_2, hcz24_3, hfz24_0, hfz24_1, hfz24_2, hfz24_3⟩ := blkA4 BK144.out
   obtain ⟨hcz25_0, hcz25_1, hcz25_2, hcz25_3, hfz25_0, hfz25_1, hfz25_2, hfz25_3⟩ := blkA4 BK143.out
   obtain ⟨Ao26, co26, eo26⟩ := Kd.R_slice HO_145003.out
   subst eo26
   go_wp2
   refine bodyPost_ret (results_cell_row rfl _ _ gb143 24 #[.int .i64 a0_0, .string a0_1, .int .i64 a0_2, .slice Ao26 x145003_1.length co26] (0, 0) _ rfl (by (with_reducible repeat (first | refine blk_drewN ?_ _ | refine blk_drew ?_ | refine blk_alloc ?_ _)); refine blk_put (cs := #[.int .i64 a0_0, .string a0_1, .int .i64 a0_2, .slice none 0 0]) ?_ 3 _ rfl; (with_reducible repeat (first | refine blk_drewN ?_ _ | refine blk_drew ?_ | refine blk_alloc ?_ _)); refine blk_put (cs := #[.int .i64 a0_0, .string a0_1, .int .i64 0, .slice none 0 0]) ?_ 2 _ rfl; (with_reducible repeat (first | refine blk_drewN ?_ _ | refine blk_drew ?_ | refine blk_alloc ?_ _)); refine blk_put (cs := #[.int .i64 a0_0, .string (⟨#[]⟩ : ByteArray), .int .i64 0, .slice none 0 0]) ?_ 1 _ rfl; (with_reducible repeat (first | refine blk_drewN ?_ _ | refine blk_drew ?_ | refine blk_alloc ?_ _)); refine blk_put (cs := #[.int .i64 0, .string (⟨#[]⟩ : ByteArray), .int .i64 0, .slice none 0 0]) ?_ 0 _ rfl; exact rbA BK143.out) Tryz.underlying24 rfl (by kernel_rfl)) rfl ?_
   exact ⟨_, reA, by (with_reducible repeat (first | apply Kd.R_alloc | apply Kd.R_drewN | apply Kd.R_drew)); exact Kd.R_mono (Kd.R_far (p := ⟨gb143, 3, none⟩) (Kd.R_far (p := ⟨gb143, 2, none⟩) (Kd.R_far (p := ⟨gb143, 1, none⟩) (Kd.R_far (p := ⟨gb143, 0, none⟩) (Kd.R_types HO_145003.out BK143.out (by decide)) (fun _ hk => hk.2) (.int .i64 a0_0)) (fun _ hk => hk.2) (.string a0_1)) (fun _ hk => hk.2) (.int .i64 a0_2)) (fun _ hk => hk.2) (.slice Ao26 x145003_1.length co26)) (fun _ hk => trivial), hbA HB.out⟩

def cmp_isNaN_byte.f (a0 : Int) : Option (Bool) := some (a0 != a0)
set_option maxHeartbeats 8000000 in
set_option maxRecDepth 100000 in
theorem cmp_isNaN_byte.calls (a0 : Int) (r : Bool) (w : World) (h : cmp_isNaN_byte.f a0 = some r) :
 Calls Tryz.prog 71 #[.int .u8 a0] w fun e w' => e = .returned (.bool r) ∧ Drawn0 w w' := by
 have H : (some (a0 != a0)) = some r := h
 clear h
 obtain rfl := Option.some.inj H
 go_enter Tryz.func71, Tryz.ntmps71
 go_wp2
 go_ret
 exact ⟨rsA, drA⟩

def cmp_Compare_byte.f (a0 : Int) (a1 : Int) : Option (Int) := (cmp_isNaN_byte.f a0).bind fun t150 => ((cmp_isNaN_byte.f a1).bind fun t151 => (if t150 = true then (if t151 = true then (some 0) else (some (-1))) else (if t151 = true then (some 1) else (if a0 < a1 then (some (-1)) else (if a0 > a1 then (some 1) else (some 0))))))
set_option maxHeartbeats 8000000 in
set_option maxRecDepth 100000 in
theorem cmp_Compare_byte.calls (a0 : Int) (a1 : Int) (r : Int) (w : World) (h : cmp_Compare_byte.f a0 a1 = some r) :
 Calls Tryz.prog 47 #[.int .u8 a0, .int .u8 a1] w fun e w' => e = .returned (.int .i64 r) ∧ Drawn0 w w' := by
 have H : ((cmp_isNaN_byte.f a0).bind fun t150 => ((cmp_isNaN_byte.f a1).bind fun t151 => (if t150 = true then (if t151 = true then (some 0) else (some (-1))) else (if t151 = true then (some 1) else (if a0 < a1 then (some (-1)) else (if a0 > a1 then (some 1) else (some 0))))))) = some r := h
 clear h
 replace H := Option.bind_eq_some_iff.mp H
 obtain ⟨t150, A30, H⟩ := H
 replace H : ((cmp_isNaN_byte.f a1).bind fun t151 => (if t150 = true then (if t151 = true then (some 0) else (some (-1))) else (if t151 = true then (some 1) else (if a0 < a1 then (some (-1)) else (if a0 > a1 then (some 1) else (some 0)))))) = some r := H
 have A3 := Aside0.mk A30
 clear A30
 replace H := Option.bind_eq_some_iff.mp H
 obtain ⟨t151, A40, H⟩ := H
 replace H : (if t150 = true then (if t151 = true then (some 0) else (some (-1))) else (if t151 = true then (some 1) else (if a0 < a1 then (some (-1)) else (if a0 > a1 then (some 1) else (some 0))))) = some r := H
 have A4 := Aside0.mk A40
 clear A40
 by_cases c5 : t150 = true
 · subst c5
   have H1 : (if t151 = true then (some 0) else (some (-1))) = some r := by rw [if_pos rfl] at H; exact H
   clear H
   have H := H1
   clear H1
   by_cases c6 : t151 = true
   · subst c6
     have H1 : (some 0) = some r := by rw [if_pos rfl] at H; exact H
     clear H
     have H := H1
     clear H1
     obtain rfl := Option.some.inj H
     go_enter Tryz.func47, Tryz.ntmps47
     go_wp2_with (first | ((with_reducible refine gate_callee (f := 71) rfl ?_); refine goesL_ (some 8) rfl rfl Tryz.func71 (by kernel_rfl) rfl #[.int .u8 a0] rfl argA ?_; (with_reducible refine (cmp_isNaN_byte.calls a0 true _ A3.out).mono ?_); rintro e w' ⟨rfl, ⟨nd, rfl⟩⟩; refine ⟨_, rfl, ?_⟩) | ((with_reducible refine gate_callee (f := 71) rfl ?_); refine goesL_ (some 10) rfl rfl Tryz.func71 (by kernel_rfl) rfl #[.int .u8 a1] rfl argA ?_; (with_reducible refine (cmp_isNaN_byte.calls a1 true _ A4.out).mono ?_); rintro e w' ⟨rfl, ⟨nd, rfl⟩⟩; refine ⟨_, rfl, ?_⟩))
     go_ret
     exact ⟨rsA, drA⟩
   replace c6 := Bool.eq_false_iff.mpr c6
   subst c6
   have H1 : (some (-1)) = some r := by rw [if_neg (show ¬ (false = true) by decide)] at H; exact H
   clear H
   have H := H1
   clear H1
   obtain rfl := Option.some.inj H
   go_enter Tryz.func47, Tryz.ntmps47
   go_wp2_with (first | ((with_reducible refine gate_callee (f := 71) rfl ?_); refine goesL_ (some 8) rfl rfl Tryz.func71 (by kernel_rfl) rfl #[.int .u8 a0] rfl argA ?_; (with_reducible refine (cmp_isNaN_byte.calls a0 true _ A3.out).mono ?_); rintro e w' ⟨rfl, ⟨nd, rfl⟩⟩; refine ⟨_, rfl, ?_⟩) | ((with_reducible refine gate_callee (f := 71) rfl ?_); refine goesL_ (some 10) rfl rfl Tryz.func71 (by kernel_rfl) rfl #[.int .u8 a1] rfl argA ?_; (with_reducible refine (cmp_isNaN_byte.calls a1 false _ A4.out).mono ?_); rintro e w' ⟨rfl, ⟨nd, rfl⟩⟩; refine ⟨_, rfl, ?_⟩))
   go_ret
   exact ⟨rsA, drA⟩
 replace c5 := Bool.eq_false_iff.mpr c5
 subst c5
 have H1 : (if t151 = true then (some 1) else (if a0 < a1 then (some (-1)) else (if a0 > a1 then (some 1) else (some 0)))) = some r := by rw [if_neg (show ¬ (false = true) by decide)] at H; exact H
 clear H
 have H := H1
 clear H1
 by_cases c7 : t151 = true
 · subst c7
   have H1 : (some 1) = some r := by rw [if_pos rfl] at H; exact H
   clear H
   have H := H1
   clear H1
   obtain rfl := Option.some.inj H
   go_enter Tryz.func47, Tryz.ntmps47
   go_wp2_with (first | ((with_reducible refine gate_callee (f := 71) rfl ?_); refine goesL_ (some 8) rfl rfl Tryz.func71 (by kernel_rfl) rfl #[.int .u8 a0] rfl argA ?_; (with_reducible refine (cmp_isNaN_byte.calls a0 false _ A3.out).mono ?_); rintro e w' ⟨rfl, ⟨nd, rfl⟩⟩; refine ⟨_, rfl, ?_⟩) | ((with_reducible refine gate_callee (f := 71) rfl ?_); refine goesL_ (some 10) rfl rfl Tryz.func71 (by kernel_rfl) rfl #[.int .u8 a1] rfl argA ?_; (with_reducible refine (cmp_isNaN_byte.calls a1 true _ A4.out).mono ?_); rintro e w' ⟨rfl, ⟨nd, rfl⟩⟩; refine ⟨_, rfl, ?_⟩))
   go_ret
   exact ⟨rsA, drA⟩
 replace c7 := Bool.eq_false_iff.mpr c7
 subst c7
 have H1 : (if a0 < a1 then (some (-1)) else (if a0 > a1 then (some 1) else (some 0))) = some r := by rw [if_neg (show ¬ (false = true) by decide)] at H; exact H
 clear H
 have H := H1
 clear H1
 by_cases c8 : a0 < a1
 · rw [if_pos c8] at H
   have c8b0 : decide (a0 < a1) = true := decide_eq_true c8
   clear c8
   obtain rfl := Option.some.inj H
   go_enter Tryz.func47, Tryz.ntmps47
   go_wp2_with (first | ((with_reducible refine gate_callee (f := 71) rfl ?_); refine goesL_ (some 8) rfl rfl Tryz.func71 (by kernel_rfl) rfl #[.int .u8 a0] rfl argA ?_; (with_reducible refine (cmp_isNaN_byte.calls a0 false _ A3.out).mono ?_); rintro e w' ⟨rfl, ⟨nd, rfl⟩⟩; refine ⟨_, rfl, ?_⟩) | ((with_reducible refine gate_callee (f := 71) rfl ?_); refine goesL_ (some 10) rfl rfl Tryz.func71 (by kernel_rfl) rfl #[.int .u8 a1] rfl argA ?_; (with_reducible refine (cmp_isNaN_byte.calls a1 false _ A4.out).mono ?_); rintro e w' ⟨rfl, ⟨nd, rfl⟩⟩; refine ⟨_, rfl, ?_⟩))
   go_ret
   exact ⟨rsA, drA⟩
 rw [if_neg c8] at H
 have c8b0 : decide (a0 < a1) = false := decide_eq_false c8
 clear c8
 by_cases c9 : a0 > a1
 · rw [if_pos c9] at H
   have c9b0 : decide (a1 < a0) = true := decide_eq_true c9
   clear c9
   obtain rfl := Option.some.inj H
   go_enter Tryz.func47, Tryz.ntmps47
   go_wp2_with (first | ((with_reducible refine gate_callee (f := 71) rfl ?_); refine goesL_ (some 8) rfl rfl Tryz.func71 (by kernel_rfl) rfl #[.int .u8 a0] rfl argA ?_; (with_reducible refine (cmp_isNaN_byte.calls a0 false _ A3.out).mono ?_); rintro e w' ⟨rfl, ⟨nd, rfl⟩⟩; refine ⟨_, rfl, ?_⟩) | ((with_reducible refine gate_callee (f := 71) rfl ?_); refine goesL_ (some 10) rfl rfl Tryz.func71 (by kernel_rfl) rfl #[.int .u8 a1] rfl argA ?_; (with_reducible refine (cmp_isNaN_byte.calls a1 false _ A4.out).mono ?_); rintro e w' ⟨rfl, ⟨nd, rfl⟩⟩; refine ⟨_, rfl, ?_⟩))
   go_ret
   exact ⟨rsA, drA⟩
 rw [if_neg c9] at H
 have c9b0 : decide (a1 < a0) = false := decide_eq_false c9
 clear c9
 obtain rfl := Option.some.inj H
 go_enter Tryz.func47, Tryz.ntmps47
 go_wp2_with (first | ((with_reducible refine gate_callee (f := 71) rfl ?_); refine goesL_ (some 8) rfl rfl Tryz.func71 (by kernel_rfl) rfl #[.int .u8 a0] rfl argA ?_; (with_reducible refine (cmp_isNaN_byte.calls a0 false _ A3.out).mono ?_); rintro e w' ⟨rfl, ⟨nd, rfl⟩⟩; refine ⟨_, rfl, ?_⟩) | ((with_reducible refine gate_callee (f := 71) rfl ?_); refine goesL_ (some 10) rfl rfl Tryz.func71 (by kernel_rfl) rfl #[.int .u8 a1] rfl argA ?_; (with_reducible refine (cmp_isNaN_byte.calls a1 false _ A4.out).mono ?_); rintro e w' ⟨rfl, ⟨nd, rfl⟩⟩; refine ⟨_, rfl, ?_⟩))
 go_ret
 exact ⟨rsA, drA⟩

end
end Go.Proofs.YtfboejlemnfndaaGreatDoor.XMo
end
section
namespace Go.Proofs.YtfboejlemnfndaaGreatDoor.Srt
open Go.Sort
variable {α : Type} (key : α → Int)

def Rising (l : List α) : Prop := l.Pairwise (fun x y => key x ≤ key y)
def Same (l l' : List α) : Prop := ∀ c : Int, l.filter (fun x => key x == c) = l'.filter (fun x => key x == c)
variable {key}
theorem Same.refl (l : List α) : Same key l l := fun _ => rfl
theorem Same.symm {l l' : List α} (h : Same key l l') : Same key l' l := fun c => (h c).symm
theorem Same.trans {l l' l'' : List α} (h : Same key l l') (h' : Same key l' l'') : Same key l l'' := fun c => (h c).trans (h' c)
theorem Same.append {a a' b b' : List α} (h : Same key a a') (h' : Same key b b') : Same key (a ++ b) (a' ++ b') := fun c => by
  rw [List.filter_append, List.filter_append, h c, h' c]
theorem Same.mid {P X Z Q : List α} (h : Same key X Z) : Same key (P ++ X ++ Q) (P ++ Z ++ Q) := (Same.append (Same.refl P) h).append (Same.refl Q)
theorem Same.mem {l l' : List α} (h : Same key l l') {x : α} (hx : x ∈ l') : x ∈ l := by
  have : x ∈ l'.filter (fun y => key y == key x) := List.mem_filter.2 ⟨hx, by simp⟩
  rw [← h] at this
  exact (List.mem_filter.1 this).1
theorem filter_none {l : List α} {c : Int} (h : ∀ x ∈ l, key x ≠ c) : l.filter (fun x => key x == c) = [] := by
  rw [List.filter_eq_nil_iff]
  intro x hx
  simpa using h x hx
theorem Same.turn {a b : List α} (h : ∀ x ∈ a, ∀ y ∈ b, key y < key x) : Same key (a ++ b) (b ++ a) := fun c => by
  rw [List.filter_append, List.filter_append]
  by_cases ha : ∃ x ∈ a, key x = c
  · obtain ⟨x, hx, e⟩ := ha
    rw [filter_none (l := b) (fun y hy => by have := h x hx y hy; omega), List.append_nil, List.nil_append]
  · rw [filter_none (l := a) (fun x hx e => ha ⟨x, hx, e⟩), List.append_nil, List.nil_append]
theorem Same.length {l l' : List α} (h : Same key l l') : ∀ {n : Nat}, l.length = n → l'.length = n := by
  have h2 : ∀ (n : Nat) (a b : List α), a.length = n → Same key a b → b.length = n := by
    intro n
    induction n with
    | zero =>
      intro a b ha hs
      cases b with
      | nil => rfl
      | cons y b =>
        have := hs.mem (List.mem_cons_self (a := y) (l := b))
        rw [List.length_eq_zero_iff.1 ha] at this
        cases this
    | succ n ih =>
      intro a b ha hs
      cases a with
      | nil => cases ha
      | cons x a =>
        -- the first of x's number in b is x
        have hx := hs (key x)
        rw [List.filter_cons_of_pos (by simp)] at hx
        obtain ⟨p, q, hb, hp⟩ : ∃ p q, b = p ++ x :: q ∧ ∀ y ∈ p, key y ≠ key x := by
          clear ih hs ha
          induction b with
          | nil => cases hx
          | cons y b ihb =>
            by_cases e : key y = key x
            · rw [List.filter_cons_of_pos (by simp [e])] at hx
              injection hx with h1 h2
              exact ⟨[], b, by rw [h1]; rfl, fun y hy => by cases hy⟩
            · rw [List.filter_cons_of_neg (by simpa using e)] at hx
              obtain ⟨p, q, hb, hp⟩ := ihb hx
              exact ⟨y :: p, q, by rw [hb]; rfl, fun z hz => by rcases List.mem_cons.1 hz with rfl | hz; exact e; exact hp z hz⟩
        subst hb
        have hs' : Same key a (p ++ q) := fun c => by
          have := hs c
          rw [List.filter_append] at this ⊢
          by_cases e : key x = c
          · rw [List.filter_cons_of_pos (by simp [e]), List.filter_cons_of_pos (by simp [e]), filter_none (l := p) (fun y hy h => hp y hy (by rw [h, e])), List.nil_append] at this
            injection this with _ this
            rw [this, filter_none (l := p) (fun y hy h => hp y hy (by rw [h, e])), List.nil_append]
          · rw [List.filter_cons_of_neg (by simpa using e), List.filter_cons_of_neg (by simpa using e)] at this
            exact this
        have := ih a (p ++ q) (by simpa using ha) hs'
        rw [List.length_append] at this ⊢
        rw [List.length_cons]
        omega
  exact fun {n} hn => h2 n l l' hn h
theorem unique : ∀ (n : Nat) {l l' : List α}, l.length = n → Rising key l → Rising key l' → Same key l l' → l = l'
  | 0, l, l', hn, _, _, hs => by
    have := hs.length hn
    rw [List.length_eq_zero_iff.1 hn, List.length_eq_zero_iff.1 this]
  | n + 1, [], _, hn, _, _, _ => by cases hn
  | n + 1, x :: l, l', hn, h, h', hs => by
    have hl := hs.length hn
    cases l' with
    | nil => cases hl
    | cons y l' =>
      have hx := (List.pairwise_cons.1 h).1
      have hy := (List.pairwise_cons.1 h').1
      have exy : key x = key y := by
        have h1 : x ∈ y :: l' := hs.symm.mem List.mem_cons_self
        have h2 : y ∈ x :: l := hs.mem List.mem_cons_self
        have a1 : key y ≤ key x := by rcases List.mem_cons.1 h1 with rfl | h1; exact Int.le_refl _; exact hy x h1
        have a2 : key x ≤ key y := by rcases List.mem_cons.1 h2 with rfl | h2; exact Int.le_refl _; exact hx y h2
        omega
      have e := hs (key x)
      rw [List.filter_cons_of_pos (by simp), List.filter_cons_of_pos (by simp [exy])] at e
      injection e with e1 e2
      subst e1
      have hs' : Same key l l' := fun c => by
        have := hs c
        by_cases e : key x = c
        · rw [List.filter_cons_of_pos (by simp [e]), List.filter_cons_of_pos (by simp [e])] at this
          injection this
        · rw [List.filter_cons_of_neg (by simpa using e), List.filter_cons_of_neg (by simpa using e)] at this
          exact this
      rw [unique n (by simpa using hn) (List.pairwise_cons.1 h).2 (List.pairwise_cons.1 h').2 hs']
theorem Rising.append {a b : List α} (ha : Rising key a) (hb : Rising key b) (h : ∀ x ∈ a, ∀ y ∈ b, key x ≤ key y) : Rising key (a ++ b) := List.pairwise_append.2 ⟨ha, hb, h⟩
theorem merge_parts {X1 X2 Y1 Y2 Z1 Z2 : List α} (hX : Rising key (X1 ++ X2)) (hY : Rising key (Y1 ++ Y2)) (h21 : ∀ x ∈ X2, ∀ y ∈ Y1, key y < key x) (h12 : ∀ x ∈ X1, ∀ y ∈ Y2, key x ≤ key y)
    (r1 : Rising key Z1) (s1 : Same key (X1 ++ Y1) Z1) (r2 : Rising key Z2) (s2 : Same key (X2 ++ Y2) Z2) : Rising key (Z1 ++ Z2) ∧ Same key ((X1 ++ X2) ++ (Y1 ++ Y2)) (Z1 ++ Z2) := by
  have hX' := List.pairwise_append.1 hX
  have hY' := List.pairwise_append.1 hY
  refine ⟨r1.append r2 (fun x hx y hy => ?_), ?_⟩
  · have hx1 := s1.mem hx
    have hy1 := s2.mem hy
    rcases List.mem_append.1 hx1 with hx1 | hx1
    · rcases List.mem_append.1 hy1 with hy1 | hy1
      · exact hX'.2.2 x hx1 y hy1
      · exact h12 x hx1 y hy1
    · rcases List.mem_append.1 hy1 with hy1 | hy1
      · have := h21 y hy1 x hx1; omega
      · exact hY'.2.2 x hx1 y hy1
  · refine Same.trans ?_ (s1.append s2)
    have : Same key (X1 ++ (X2 ++ Y1) ++ Y2) (X1 ++ (Y1 ++ X2) ++ Y2) := Same.mid (Same.turn h21)
    simpa [List.append_assoc] using this
theorem put_first {x : α} {Y1 Y2 : List α} (hY : Rising key (Y1 ++ Y2)) (h1 : ∀ y ∈ Y1, key y < key x) (h2 : ∀ y ∈ Y2, key x ≤ key y) : Rising key (Y1 ++ x :: Y2) ∧ Same key (x :: (Y1 ++ Y2)) (Y1 ++ x :: Y2) := by
  have hY' := List.pairwise_append.1 hY
  refine ⟨Rising.append hY'.1 (List.pairwise_cons.2 ⟨h2, hY'.2.1⟩) (fun a ha b hb => ?_), ?_⟩
  · rcases List.mem_cons.1 hb with rfl | hb
    · have := h1 a ha; omega
    · exact hY'.2.2 a ha b hb
  · have : Same key ([x] ++ Y1 ++ Y2) (Y1 ++ [x] ++ Y2) := (Same.turn (fun a ha b hb => by rw [List.mem_singleton.1 ha]; exact h1 b hb)).append (Same.refl Y2)
    simpa using this
theorem put_last {y : α} {X1 X2 : List α} (hX : Rising key (X1 ++ X2)) (h1 : ∀ x ∈ X1, key x ≤ key y) (h2 : ∀ x ∈ X2, key y < key x) : Rising key (X1 ++ y :: X2) ∧ Same key ((X1 ++ X2) ++ [y]) (X1 ++ y :: X2) := by
  have hX' := List.pairwise_append.1 hX
  refine ⟨Rising.append hX'.1 (List.pairwise_cons.2 ⟨fun x hx => by have := h2 x hx; omega, hX'.2.1⟩) (fun a ha b hb => ?_), ?_⟩
  · rcases List.mem_cons.1 hb with rfl | hb
    · exact h1 a ha
    · exact hX'.2.2 a ha b hb
  · have : Same key (X1 ++ (X2 ++ [y])) (X1 ++ ([y] ++ X2)) := (Same.refl X1).append (Same.turn (fun a ha b hb => by rw [List.mem_singleton.1 hb]; exact h2 a ha))
    simpa [List.append_assoc] using this
theorem rising_le {l : List α} (h : Rising key l) {i j : Nat} (hij : i ≤ j) (hj : j < l.length) : key (l[i]'(by omega)) ≤ key l[j] := by
  rcases Nat.lt_or_ge i j with h1 | h1
  · exact List.pairwise_iff_getElem.1 h i j (by omega) hj h1
  · obtain rfl : i = j := by omega
    exact Int.le_refl _
section
variable [Inhabited α]
theorem at_mid {d : Array α} {A B : List α} {x : α} (h : d.toList = A ++ x :: B) {i : Nat} (hi : A.length = i) : d[i]! = x := by
  have hl : i < d.toList.length := by rw [h, List.length_append, List.length_cons]; omega
  rw [getElem!_pos d i (by simpa using hl)]
  have : d[i]'(by simpa using hl) = d.toList[i] := by simp
  rw [this]
  simp only [h]
  rw [List.getElem_append_right (by omega)]
  simp [hi]
theorem at_part {d : Array α} {P X Q : List α} (h : d.toList = P ++ X ++ Q) {i : Nat} (hi : i < X.length) {j : Nat} (hj : P.length + i = j) : d[j]! = X[i] := by
  refine at_mid (A := P ++ X.take i) (B := X.drop (i + 1) ++ Q) ?_ (by rw [List.length_append, List.length_take]; omega)
  rw [h, List.append_assoc, List.append_assoc]
  congr 1
  conv => lhs; rw [← List.take_append_drop i X, List.drop_eq_getElem_cons hi]
  rw [List.append_assoc, List.cons_append]
theorem swp_list {d : Array α} {A B C : List α} {x y : α} (h : d.toList = A ++ x :: (B ++ y :: C)) {i j : Nat} (hi : A.length = i) (hj : i + 1 + B.length = j) : (swp d i j).toList = A ++ y :: (B ++ x :: C) ∧ (swp d j i).toList = A ++ y :: (B ++ x :: C) := by
  have ex : d[i]! = x := at_mid h hi
  have ey : d[j]! = y := at_mid (A := A ++ x :: B) (B := C) (by rw [h]; simp) (by rw [List.length_append, List.length_cons]; omega)
  subst hi hj
  have s1 : ∀ (l : List α) (u v : α), (l ++ u :: (B ++ v :: C)).set l.length y = l ++ y :: (B ++ v :: C) := fun l u v => by rw [List.set_append_right _ _ (Nat.le_refl _)]; simp
  have s2 : ∀ (l : List α) (u v : α), (l ++ u :: (B ++ v :: C)).set (l.length + 1 + B.length) x = l ++ u :: (B ++ x :: C) := fun l u v => by
    rw [show l ++ u :: (B ++ v :: C) = (l ++ u :: B) ++ v :: C from by simp, List.set_append_right _ _ (by rw [List.length_append, List.length_cons]; omega)]
    rw [show l.length + 1 + B.length - (l ++ u :: B).length = 0 from by rw [List.length_append, List.length_cons]; omega]
    simp
  unfold swp
  rw [ex, ey]
  simp only [Array.toList_setIfInBounds, h]
  exact ⟨by rw [s1, s2], by rw [s2, s1]⟩
theorem ins_inner (lt : α → α → Bool) (hlt : ∀ x y, lt x y = decide (key x < key y)) (P : List α) (x : α) : ∀ (n : Nat) (A R : List α) (d : Array α), A.length = n → d.toList = P ++ A ++ x :: R → Rising key A →
    ∃ A1 A2, A = A1 ++ A2 ∧ (∀ y ∈ A1, key y ≤ key x) ∧ (∀ y ∈ A2, key x < key y) ∧ (insInner lt P.length (P.length + n) d).toList = P ++ (A1 ++ x :: A2) ++ R
  | 0, A, R, d, hn, h, hr => by
    obtain rfl := List.length_eq_zero_iff.1 hn
    refine ⟨[], [], rfl, fun _ h => (by cases h), fun _ h => (by cases h), ?_⟩
    rw [insInner_stop _ _ _ _ (.inl (by omega)), h]
    simp
  | n + 1, A, R, d, hn, h, hr => by
    obtain ⟨A', y, rfl⟩ : ∃ A' y, A = A' ++ [y] := by
      rcases List.eq_nil_or_concat A with rfl | ⟨l, b, rfl⟩
      · cases hn
      · exact ⟨l, b, by simp⟩
    have hn' : A'.length = n := by simpa using hn
    have hr' := List.pairwise_append.1 hr
    have ex : d[P.length + (n + 1)]! = x := at_mid h (by rw [List.length_append]; omega)
    have ey : d[P.length + (n + 1) - 1]! = y := at_mid (A := P ++ A') (B := x :: R) (by rw [h]; simp) (by rw [List.length_append]; omega)
    by_cases hxy : key x < key y
    · rw [insInner_go _ _ _ _ (by omega) (by rw [ex, ey, hlt]; exact decide_eq_true hxy), show P.length + (n + 1) - 1 = P.length + n from by omega]
      have hs := (swp_list (A := P ++ A') (B := []) (C := R) (x := y) (y := x) (d := d) (by rw [h]; simp) (i := P.length + n) (j := P.length + (n + 1)) (by rw [List.length_append]; omega) (by simp; omega)).2
      obtain ⟨A1, A2, hA, h1, h2, h3⟩ := ins_inner lt hlt P x n A' (y :: R) _ hn' hs hr'.1
      refine ⟨A1, A2 ++ [y], by rw [hA]; simp, h1, fun z hz => ?_, ?_⟩
      · rcases List.mem_append.1 hz with hz | hz
        · exact h2 z hz
        · rw [List.mem_singleton.1 hz]; exact hxy
      · rw [h3]
        simp
    · rw [insInner_stop _ _ _ _ (.inr (by rw [ex, ey, hlt]; exact decide_eq_false hxy))]
      refine ⟨A' ++ [y], [], by simp, fun z hz => ?_, fun z hz => (by cases hz), by rw [h]; simp⟩
      rcases List.mem_append.1 hz with hz | hz
      · have := hr'.2.2 z hz y (by simp); omega
      · rw [List.mem_singleton.1 hz]; omega
theorem ins_outer (lt : α → α → Bool) (hlt : ∀ x y, lt x y = decide (key x < key y)) (P Q : List α) : ∀ (n : Nat) (Z B X : List α) (d : Array α), B.length = n → d.toList = P ++ Z ++ B ++ Q → Rising key Z → Same key X (Z ++ B) →
    ∃ Z', (insOuter lt P.length (P.length + Z.length + n) (P.length + Z.length) d).toList = P ++ Z' ++ Q ∧ Rising key Z' ∧ Same key X Z'
  | 0, Z, B, X, d, hn, h, hr, hs => by
    obtain rfl := List.length_eq_zero_iff.1 hn
    rw [insOuter_stop _ _ _ _ _ (by omega)]
    exact ⟨Z, by rw [h]; simp, hr, by rw [List.append_nil] at hs; exact hs⟩
  | n + 1, Z, B, X, d, hn, h, hr, hs => by
    cases B with
    | nil => cases hn
    | cons x B =>
      rw [insOuter_go _ _ _ _ _ (by omega)]
      obtain ⟨A1, A2, hA, h1, h2, h3⟩ := ins_inner lt hlt P x Z.length Z (B ++ Q) d rfl (by rw [h]; simp) hr
      subst hA
      have hp := put_last (y := x) hr h1 h2
      obtain ⟨Z', z1, z2, z3⟩ := ins_outer lt hlt P Q n (A1 ++ x :: A2) B X (insInner lt P.length (P.length + (A1 ++ A2).length) d) (by simpa using hn) (by rw [h3]; simp) hp.1 (hs.trans (by
        have := hp.2.append (Same.refl B)
        simpa using this))
      refine ⟨Z', ?_, z2, z3⟩
      rw [← z1]
      congr 2
      · simp only [List.length_append, List.length_cons]; omega
      · simp only [List.length_append, List.length_cons]; omega
theorem ins_sort (lt : α → α → Bool) (hlt : ∀ x y, lt x y = decide (key x < key y)) (P X Q : List α) (d : Array α) (h : d.toList = P ++ X ++ Q) {a b : Nat} (ha : P.length = a) (hb : a + X.length = b) :
    ∃ Z, (insertionSort lt d a b).toList = P ++ Z ++ Q ∧ Rising key Z ∧ Same key X Z := by
  subst ha hb
  unfold insertionSort
  cases X with
  | nil =>
    rw [insOuter_stop _ _ _ _ _ (by simp)]
    exact ⟨[], h, List.Pairwise.nil, Same.refl _⟩
  | cons x X =>
    obtain ⟨Z', z1, z2, z3⟩ := ins_outer lt hlt P Q X.length [x] X (x :: X) d rfl (by rw [h]; simp) (by simp [Rising]) (by simpa using Same.refl (key := key) (x :: X))
    refine ⟨Z', ?_, z2, z3⟩
    rw [← z1]
    congr 2
    simp only [List.length_cons, List.length_nil]; omega
end
end Go.Proofs.YtfboejlemnfndaaGreatDoor.Srt
end
section
namespace Go.Proofs.YtfboejlemnfndaaGreatDoor.Srt
open Go.Shelf Go.RowKit Go.Lib Go.Sort
variable {α : Type} [Inhabited α]
structure Types : Prop where
  mixed : Tryz.prog.follows .mixedOrders = true
  aE : ∀ w, (isAgg 61).run Tryz.prog w = .ok true w
  uS : ∀ w, (underlying 29).run Tryz.prog w = .ok (TypeDesc.slice 61) w
  aS : ∀ w, (isAgg 29).run Tryz.prog w = .ok false w
  zS : ∀ w, (Go.sizeOf 29).run Tryz.prog w = .ok 1 w
theorem types : Types := ⟨by kernel_rfl, fun w => by kernel_rfl, fun w => by kernel_rfl, fun w => by kernel_rfl, fun w => by kernel_rfl⟩

structure Aside0R (enc : α → List Value) (k : Nat) (w0 : World) (blk off : Nat) (d0 : Array α) (sz : Nat) : Prop where mk ::
  R : RowK enc k w0 blk off d0
  hs : d0.size = sz
  hsz : sz < 4611686018427387904
theorem sizeK (w : World) : (Go.sizeOf 61).run Tryz.prog w = .ok 2 w := by kernel_rfl

set_option maxHeartbeats 4000000 in
set_option maxRecDepth 1000000 in
theorem swapRange (k : Nat) (zE : ∀ w, (Go.sizeOf 61).run Tryz.prog w = .ok k w) (enc : α → List Value) (g : Nat) (cb : Array Value) (blk off cap : Nat) (d0 d : Array α) (w0 w : World) (P X M Y Q : List α)
    (R : RowK enc k w0 blk off d0) (hs : d0.size = d.size) (S : SWK enc k w0 blk off d w) (hd : d.toList = P ++ X ++ M ++ Y ++ Q) (hXY : X.length = Y.length) (hsz : d.size < 4611686018427387904) :
    Calls Tryz.prog 126 #[.slice (some ⟨blk, off, none⟩) d.size cap, .int .i64 P.length, .int .i64 (P.length + X.length + M.length : Nat), .int .i64 X.length, .func (.func g) #[] cb] w fun e w' =>
      e = .returned (.tuple #[]) ∧ ∃ d' : Array α, d'.toList = P ++ Y ++ M ++ X ++ Q ∧ SWK enc k w0 blk off d' w' := by
  have mixed := types.mixed
  have aE := types.aE
  have uS := types.uS
  have S0 : Aside (SWK enc k w0 blk off d w) := S
  have hlen : d.size = P.length + X.length + M.length + Y.length + Q.length := by rw [← Array.length_toList, hd]; simp only [List.length_append]
  clear S
  go_enter Tryz.func126, Tryz.ntmps126
  go_wp2
  go_loopg [10] X.length (fun kx s10 wr => ∃ (i : Nat) (dk : Array α) (Xa Xb Ya Yb : List α), s10 = .int .i64 i ∧ X = Xa ++ Xb ∧ Y = Ya ++ Yb ∧ Xa.length = i ∧ Ya.length = i ∧ X.length - i ≤ kx ∧ Hid (dk.toList = P ++ Ya ++ Xb ++ M ++ Xa ++ Yb ++ Q) ∧ Aside (SWK enc k w0 blk off dk wr))
  case atStart => exact ⟨0, d, [], X, [], Y, rfl, rfl, rfl, rfl, rfl, by omega, by show d.toList = _; rw [hd]; simp, S0⟩
  case round =>
    clear S0
    obtain ⟨i, dk, Xa, Xb, Ya, Yb, rfl, rfl, rfl, hXa, hYa, hkx, HD, S1⟩ := hrel
    have hds : dk.size = d.size := by rw [hlen, ← Array.length_toList, HD.out]; simp only [List.length_append] at *; omega
    cases Xb with
    | nil =>
      have hYb : Yb = [] := by cases Yb with
        | nil => rfl
        | cons y Yb => simp only [List.length_append, List.length_cons, List.length_nil] at hXY; omega
      subst hYb
      have hlt : ¬ (i : Int) < ((Xa ++ []).length : Int) := by simp only [List.append_nil]; omega
      go_wp2
      go_end0
      exact ⟨rfl, dk, by rw [HD.out]; simp, S1.out⟩
    | cons x Xb =>
      cases Yb with
      | nil => simp only [List.length_append, List.length_cons, List.length_nil] at hXY; omega
      | cons y Yb =>
        have hlt : (i : Int) < ((Xa ++ x :: Xb).length : Int) := by simp only [List.length_append, List.length_cons]; omega
        have hX : (Xa ++ x :: Xb).length = i + 1 + Xb.length := by simp only [List.length_append, List.length_cons]; omega
        have hY : (Ya ++ y :: Yb).length = i + 1 + Yb.length := by simp only [List.length_append, List.length_cons]; omega
        generalize hN : (Xa ++ x :: Xb).length = N at *
        have HX : Aside (N = i + 1 + Xb.length) := hX
        have HXY : Aside (Ya.length = i ∧ Xa.length = i) := ⟨hYa, hXa⟩
        have b1 : (P.length : Int) + (i : Int) < (d.size : Int) ∧ ((P.length + N + M.length : Nat) : Int) + (i : Int) < (d.size : Int) := by omega
        have b2 : dk.size = d0.size ∧ P.length + i < dk.size ∧ P.length + N + M.length + i < dk.size := by omega
        have HS : Aside (dk.size = d0.size ∧ P.length + i < dk.size ∧ P.length + N + M.length + i < dk.size) := b2
        clear hX hY hXY hN hlen hds hs hd hXa hYa b2
        go_wp2_with fail
        have ea44 : ((P.length : Int) + (i : Int)).toNat = P.length + i := by omega
        have pa44 : (0 : Int) ≤ (P.length : Int) + (i : Int) := by omega
        have ba44 : (P.length : Int) + (i : Int) < (d.size : Int) := b1.1
        have ra44 : IntKind.i64.wrap ((P.length : Int) + (i : Int)) = (P.length : Int) + (i : Int) := by rw [IntKind.wrap_i64]; omega
        have ec44 : (((P.length + N + M.length : Nat) : Int) + (i : Int)).toNat = P.length + N + M.length + i := by omega
        have pc44 : (0 : Int) ≤ ((P.length + N + M.length : Nat) : Int) + (i : Int) := by omega
        have bc44 : ((P.length + N + M.length : Nat) : Int) + (i : Int) < (d.size : Int) := b1.2
        have rc44 : IntKind.i64.wrap (((P.length + N + M.length : Nat) : Int) + (i : Int)) = ((P.length + N + M.length : Nat) : Int) + (i : Int) := by rw [IntKind.wrap_i64]; omega
        have S2 : Aside (SWK enc k w0 blk off (swp dk (P.length + i) (P.length + N + M.length + i)) ((wr.drew.setCells blk (off + (P.length + i) * k) (enc dk[P.length + N + M.length + i]!)).setCells blk (off + (P.length + N + M.length + i) * k) (enc dk[P.length + i]!))) := S1.out.swapped R (P.length + i) (P.length + N + M.length + i) HS.out.2.1 HS.out.2.2
        have l44a := S1.out.ld1 R HS.out.1 Tryz.prog (P.length + i) HS.out.2.1
        have l44b := S1.out.ld1 R HS.out.1 Tryz.prog (P.length + N + M.length + i) HS.out.2.2
        have s44a := S1.out.st1 R HS.out.1 Tryz.prog (P.length + i) HS.out.2.1 dk[P.length + N + M.length + i]!
        have s44b := S1.out.st2 R HS.out.1 Tryz.prog (P.length + i) (P.length + N + M.length + i) HS.out.2.1 HS.out.2.2 dk[P.length + N + M.length + i]! dk[P.length + i]!
        have n44a : (enc dk[P.length + i]!).length = k := R.hk _
        have n44b : (enc dk[P.length + N + M.length + i]!).length = k := R.hk _
        generalize enc dk[P.length + i]! = cI44 at S2 l44a s44b n44a
        generalize enc dk[P.length + N + M.length + i]! = cJ44 at S2 l44b s44a s44b n44b
        clear S1
        go_wp2_with fail
        go_big_region_o
        clear l44a l44b s44a s44b
        generalize (wr.drew.setCells blk (off + (P.length + i) * k) cJ44).setCells blk (off + (P.length + N + M.length + i) * k) cI44 = w2 at S2 ⊢
        go_wp2
        go_roundg (N - (i + 1))
        case measure => omega
        case rel =>
          have hX := HX.out
          have hYa := HXY.out.1
          have hXa := HXY.out.2
          refine ⟨i + 1, _, Xa ++ [x], Xb, Ya ++ [y], Yb, by go_num, by simp, by simp, by simp; omega, by simp; omega, Nat.le_refl _, ?_, S2⟩
          show _ = _
          have := (swp_list (A := P ++ Ya) (B := Xb ++ M ++ Xa) (C := Yb ++ Q) (x := x) (y := y) (d := dk) (by rw [HD.out]; simp) (i := P.length + i) (j := P.length + N + M.length + i) (by rw [List.length_append]; omega) (by simp only [List.length_append]; omega)).1
          rw [this]
          simp
end Go.Proofs.YtfboejlemnfndaaGreatDoor.Srt
end
section
namespace Go.Proofs.YtfboejlemnfndaaGreatDoor.Srt
open Go.Shelf Go.RowKit Go.Lib Go.Sort
variable {α : Type} [Inhabited α]
omit [Inhabited α] in
theorem size_of {d : Array α} {l : List α} (h : d.toList = l) : d.size = l.length := by rw [← Array.length_toList, h]
theorem swapRange_c (k : Nat) (zE : ∀ w, (Go.sizeOf 61).run Tryz.prog w = .ok k w) (enc : α → List Value) (g : Nat) (cb : Array Value) (blk off cap sz : Nat) (a b n : Int) (d0 d : Array α) (w0 w : World) (P X M Y Q : List α)
    (R : RowK enc k w0 blk off d0) (hs : d0.size = sz) (S : SWK enc k w0 blk off d w) (hd : d.toList = P ++ X ++ M ++ Y ++ Q) (hXY : X.length = Y.length) (hds : d.size = sz) (hsz : sz < 4611686018427387904) (ha : a = P.length) (hb : b = (P.length + X.length + M.length : Nat)) (hn : n = X.length) :
    Calls Tryz.prog 126 #[.slice (some ⟨blk, off, none⟩) sz cap, .int .i64 a, .int .i64 b, .int .i64 n, .func (.func g) #[] cb] w fun e w' =>
      e = .returned (.tuple #[]) ∧ ∃ d' : Array α, Hid (d'.toList = P ++ Y ++ M ++ X ++ Q) ∧ Aside (SWK enc k w0 blk off d' w') := by
  subst ha hb hn
  subst hds
  exact swapRange k zE enc g cb blk off cap d0 d w0 w P X M Y Q R hs S hd hXY hsz

set_option maxHeartbeats 4000000 in
set_option maxRecDepth 1000000 in
theorem rotate_c (k : Nat) (zE : ∀ w, (Go.sizeOf 61).run Tryz.prog w = .ok k w) (enc : α → List Value) (g : Nat) (cb : Array Value) (blk off cap sz : Nat) (a m b : Int) (d0 d : Array α) (w0 w : World) (P X Y Q : List α)
    (R : RowK enc k w0 blk off d0) (hs : d0.size = sz) (S : SWK enc k w0 blk off d w) (hd : d.toList = P ++ X ++ Y ++ Q) (hds : d.size = sz) (hsz : sz < 4611686018427387904) (ha : a = P.length) (hm : m = (P.length + X.length : Nat)) (hb : b = (P.length + X.length + Y.length : Nat)) (hX : 0 < X.length) (hY : 0 < Y.length) :
    Calls Tryz.prog 110 #[.slice (some ⟨blk, off, none⟩) sz cap, .int .i64 a, .int .i64 m, .int .i64 b, .func (.func g) #[] cb] w fun e w' =>
      e = .returned (.tuple #[]) ∧ ∃ d' : Array α, Hid (d'.toList = P ++ Y ++ X ++ Q) ∧ Aside (SWK enc k w0 blk off d' w') := by
  have mixed := types.mixed
  have S0 : Aside (SWK enc k w0 blk off d w) := S
  have HR := Aside0R.mk R hs hsz
  have hlen := size_of hd
  simp only [List.length_append] at hlen
  have w1 : IntKind.i64.wrap (m - a) = (X.length : Int) := by rw [IntKind.wrap_i64]; omega
  have w2 : IntKind.i64.wrap (b - m) = (Y.length : Int) := by rw [IntKind.wrap_i64]; omega
  have w1' : m - a = (X.length : Int) := by omega
  have w2' : b - m = (Y.length : Int) := by omega
  have HD : Hid (d.toList = P ++ X ++ Y ++ Q) := hd
  have HDS : Aside (d.size = sz) := hds
  have HM : Aside (m = (P.length + X.length : Nat)) := hm
  have HL : Aside (P.length + X.length + Y.length ≤ sz) := by show _ ≤ _; omega
  clear S hs hd hds hsz ha hb hm hlen R
  go_enter Tryz.func110, Tryz.ntmps110
  go_wp2
  go_loopg [10, 11] (X.length + Y.length) (fun kx s10 s11 wr => ∃ (P' X' Y' Q' : List α) (dk : Array α), s10 = .int .i64 X'.length ∧ s11 = .int .i64 Y'.length ∧ 0 < X'.length ∧ 0 < Y'.length ∧ X'.length + Y'.length ≤ kx ∧
    Hid (dk.toList = P' ++ X' ++ Y' ++ Q') ∧ Hid (P' ++ Y' ++ X' ++ Q' = P ++ Y ++ X ++ Q) ∧ Aside (P'.length + X'.length = P.length + X.length) ∧ Aside (dk.size = sz) ∧ Aside (SWK enc k w0 blk off dk wr))
  case atStart =>
    have q1 := HR.hsz
    have q2 : P.length + X.length + Y.length ≤ sz := HL.out
    exact ⟨P, X, Y, Q, d, by congr 1; unfold wrap64; omega, by congr 1; unfold wrap64; omega, hX, hY, Nat.le_refl _, HD, rfl, rfl, HDS, S0⟩
  case round =>
    clear S0 HD w1 w2 w1' w2' hX hY HL HDS
    obtain ⟨P', X', Y', Q', dk, rfl, rfl, hX, hY, hkx, HD, HT, HP, HS, S1⟩ := hrel
    have hl : P'.length + X'.length + Y'.length ≤ sz := by
      have e := size_of HD.out
      rw [HS.out] at e
      simp only [List.length_append] at e
      omega
    have hmm : m = (P'.length : Int) + (X'.length : Int) := by have := HM.out; have := HP.out; omega
    have hz := HR.hsz
    clear HM
    subst hmm
    have b1 : IntKind.i64.wrap ((P'.length : Int) + (X'.length : Int) - (X'.length : Int)) = (P'.length : Int) := by rw [IntKind.wrap_i64]; omega
    have b2 : IntKind.i64.wrap ((P'.length : Int) + (X'.length : Int) + (Y'.length : Int)) = (P'.length : Int) + (X'.length : Int) + (Y'.length : Int) := by rw [IntKind.wrap_i64]; omega
    by_cases hne : X'.length = Y'.length
    · have hz : ((X'.length : Int) != (Y'.length : Int)) = false := by rw [hne]; simp
      have HNE : Aside (X'.length = Y'.length) := hne
      clear hne
      go_wp2_with fail
      refine (swapRange_c k zE enc g cb blk off cap sz _ _ _ d0 dk w0 wr P' X' [] Y' Q' HR.R HR.hs S1.out (by rw [HD.out]; simp) HNE.out HS.out HR.hsz ?_ ?_ ?_).mono ?_
      · first | rfl | omega | (unfold wrap64; omega)
      · first | rfl | (simp; done) | (simp; omega) | (unfold wrap64; simp; omega)
      · first | rfl | omega | (unfold wrap64; omega)
      · rintro e w1 ⟨rfl, d1, hd1, S2⟩
        go_wp2
        go_end0
        refine ⟨rfl, d1, ?_, S2⟩
        show _ = _
        rw [hd1.out, ← HT.out]
        simp
    · have hz : ((X'.length : Int) != (Y'.length : Int)) = true := bne_iff_ne.2 (by omega)
      by_cases hgt : Y'.length < X'.length
      · have hg : decide ((X'.length : Int) > (Y'.length : Int)) = true := decide_eq_true (by omega)
        go_wp2_with fail
        refine (swapRange_c k zE enc g cb blk off cap sz _ _ _ d0 dk w0 wr P' (X'.take Y'.length) (X'.drop Y'.length) Y' Q' HR.R HR.hs S1.out (by rw [HD.out]; simp only [List.append_assoc]; rw [← List.append_assoc (X'.take _), List.take_append_drop]) (by rw [List.length_take]; omega) HS.out HR.hsz ?_ ?_ ?_).mono ?_
        · first | rfl | omega | (unfold wrap64; omega)
        · simp only [List.length_take, List.length_drop]; first | omega | (unfold wrap64; omega)
        · simp only [List.length_take]; first | omega | (unfold wrap64; omega)
        · rintro e w1 ⟨rfl, d1, hd1, S2⟩
          go_wp2
          go_roundg (X'.length)
          case measure => omega
          case rel =>
            refine ⟨P' ++ Y', X'.drop Y'.length, X'.take Y'.length, Q', d1, ?_, ?_, ?_, ?_, ?_, ?_, ?_, ?_, ?_, S2⟩
            · rw [List.length_drop]; congr 1; first | omega | (unfold wrap64; omega)
            · rw [List.length_take]; congr 1; first | omega | (unfold wrap64; omega)
            · rw [List.length_drop]; omega
            · rw [List.length_take]; omega
            · rw [List.length_drop, List.length_take]; omega
            · exact hd1
            · show _ = _
              rw [← HT.out]
              simp only [List.append_assoc]
              rw [← List.append_assoc (X'.take _), List.take_append_drop]
            · show _ = _
              have := HP.out
              rw [List.length_append, List.length_drop]; omega
            · show _ = _
              rw [size_of hd1.out, ← HS.out, size_of HD.out]
              simp only [List.length_append, List.length_take, List.length_drop]; omega
      · have hg : decide ((X'.length : Int) > (Y'.length : Int)) = false := decide_eq_false (by omega)
        have b3 : IntKind.i64.wrap ((P'.length : Int) + (X'.length : Int) + (Y'.length : Int) - (X'.length : Int)) = (P'.length : Int) + (Y'.length : Int) := by rw [IntKind.wrap_i64]; omega
        go_wp2_with fail
        refine (swapRange_c k zE enc g cb blk off cap sz _ _ _ d0 dk w0 wr P' X' (Y'.take (Y'.length - X'.length)) (Y'.drop (Y'.length - X'.length)) Q' HR.R HR.hs S1.out (by rw [HD.out]; simp only [List.append_assoc]; rw [← List.append_assoc (Y'.take _), List.take_append_drop]) (by rw [List.length_drop]; omega) HS.out HR.hsz ?_ ?_ ?_).mono ?_
        · first | rfl | omega | (unfold wrap64; omega)
        · simp only [List.length_take]; first | omega | (unfold wrap64; omega)
        · first | rfl | omega | (unfold wrap64; omega)
        · rintro e w1 ⟨rfl, d1, hd1, S2⟩
          go_wp2
          go_roundg (Y'.length)
          case measure => omega
          case rel =>
            refine ⟨P', Y'.drop (Y'.length - X'.length), Y'.take (Y'.length - X'.length), X' ++ Q', d1, ?_, ?_, ?_, ?_, ?_, ?_, ?_, ?_, ?_, S2⟩
            · rw [List.length_drop]; congr 1; first | omega | (unfold wrap64; omega)
            · rw [List.length_take]; congr 1; first | omega | (unfold wrap64; omega)
            · rw [List.length_drop]; omega
            · rw [List.length_take]; omega
            · rw [List.length_drop, List.length_take]; omega
            · show _ = _
              rw [hd1.out]; simp only [List.append_assoc]
            · show _ = _
              rw [← HT.out]
              simp only [List.append_assoc]
              rw [← List.append_assoc (Y'.take _), List.take_append_drop]
            · show _ = _
              have := HP.out
              rw [List.length_drop]; omega
            · show _ = _
              rw [size_of hd1.out, ← HS.out, size_of HD.out]
              simp only [List.length_append, List.length_take, List.length_drop]; omega
end Go.Proofs.YtfboejlemnfndaaGreatDoor.Srt
end
