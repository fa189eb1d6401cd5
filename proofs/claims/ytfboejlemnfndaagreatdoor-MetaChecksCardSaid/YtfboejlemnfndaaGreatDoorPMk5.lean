/- Put together by wip/pack.py (this session's own program) out of this session's texts; a kit's tool laid the words and the shelf, of which only what is used stands here. Lean checks it. -/
import Derived.Test.YtfboejlemnfndaaGreatDoorPMk4
import Derived.Sort.WalkA
import Derived.Test.YtfboejlemnfndaaGreatDoorProg
import Derived.Shelf.SlSortCmp.KitK
import Derived.Sort.WalkB2
import Derived.Sort.WalkB12
import Derived.Deep.LoopGhost
import Derived.KernelRfl
section
namespace Go.Proofs.YtfboejlemnfndaaGreatDoor.XMk
open Go.RowKit Go.Proofs.YtfboejlemnfndaaGreatDoorW.PrintWords Go.Proofs.YtfboejlemnfndaaGreatDoorW.PrintLast Go.Proofs.YtfboejlemnfndaaGreatDoorW.PrintMore
attribute [local go_sem] extract_sub max2_int min2_int max_two min_two max_three min_three max_four min_four   -- for this text's walks alone
set_option linter.unusedVariables false
set_option linter.unusedSimpArgs false

noncomputable section
def meta_Number.j0 : Nat → Int → ByteArray → Bool → Option (Int × Int × Bool)
 | 0, _, _, _ => none
 | k + 1, x1, x7, x33 => if x33 = true then ((digits_Parse.f x7).bind fun bt221 => (if bt221.2 = 0 then (if x1 = 70 then (if bt221.1 > 4294967295 then (some (0, 0, false)) else (some (0, bt221.1, true))) else (some (0, bt221.1, true))) else (some (0, 0, false)))) else (some (0, 0, false))
def meta_Number.f (k : Nat) (a0_0 : Int) (a0_1 : ByteArray) (a0_2 : Int) (l0_3 : List (S61)) (a1 : Int) : Option (Int × Int × Bool) := (meta_Find.f a0_0 a0_1 a0_2 l0_3 a1).bind fun bt216 => (if bt216.2 = true then ((meta_sortOf.f k a1).bind fun t218 => (if t218 = 3 then ((digits_Signed.f k bt216.1).bind fun bt219 => (some (bt219.1, 0, (bt219.2 == 0)))) else (if t218 = 1 then (meta_Number.j0 k a1 bt216.1 (t218 == 1)) else (meta_Number.j0 k a1 bt216.1 (t218 == 2))))) else (some (0, 0, false)))
theorem meta_Number.mono_l : ∀ k, (∀ y0 y1 y2, LeO (meta_Number.j0 k y0 y1 y2) (meta_Number.j0 (k + 1) y0 y1 y2))
 | 0 => fun _ _ _ r h => by simp [meta_Number.j0] at h
 | k + 1 => by
  have ih0 := meta_Number.mono_l k
  · intro y0 y1 y2
    unfold meta_Number.j0
    repeat' first
    | (with_reducible exact ih0 _ _ _)
    | (with_reducible exact digits_Signed.mono _ _)
    | (with_reducible exact meta_sortOf.mono _ _)
    | (with_reducible exact LeO.refl _)
    | (with_reducible exact LeO.none _)
    | (with_reducible refine LeO.ite ?_ ?_)
    | (with_reducible refine LeO.bind ?_ (fun _ => ?_))
    | exact ih0 _ _ _
    | exact digits_Signed.mono _ _
    | exact meta_sortOf.mono _ _
    | exact LeO.none _
    | refine LeO.ite ?_ ?_
    | refine LeO.bind ?_ (fun _ => ?_)
theorem meta_Number.mono : ∀ a0 a1 a2 a3 a4 k, LeO (meta_Number.f k a0 a1 a2 a3 a4) (meta_Number.f (k + 1) a0 a1 a2 a3 a4) := by
 intro a0 a1 a2 a3 a4 k
 have ih0 := meta_Number.mono_l k
 unfold meta_Number.f
 repeat' first
  | (with_reducible exact ih0 _ _ _)
  | (with_reducible exact digits_Signed.mono _ _)
  | (with_reducible exact meta_sortOf.mono _ _)
  | (with_reducible exact LeO.refl _)
  | (with_reducible exact LeO.none _)
  | (with_reducible refine LeO.ite ?_ ?_)
  | (with_reducible refine LeO.bind ?_ (fun _ => ?_))
  | exact ih0 _ _ _
  | exact digits_Signed.mono _ _
  | exact meta_sortOf.mono _ _
  | exact LeO.none _
  | refine LeO.ite ?_ ?_
  | refine LeO.bind ?_ (fun _ => ?_)
set_option maxHeartbeats 8000000 in
set_option maxRecDepth 100000 in
theorem meta_Number.calls (k : Nat) (a0_0 : Int) (a0_1 : ByteArray) (a0_2 : Int) (A0_3 : Option Addr) (c0_3 : Nat) (l0_3 : List (S61)) (a1 : Int) (r1 : Int) (r2 : Int) (r3 : Bool) (w : World) (hr0_3 : Kd.C k61 w A0_3 l0_3.length l0_3) (hc0_3 : l0_3.length ≤ c0_3) (hv : Vars w) (h : meta_Number.f k a0_0 a0_1 a0_2 l0_3 a1 = some (r1, r2, r3)) :
 Calls Tryz.prog 13 #[.agg #[.int .i64 a0_0, .string a0_1, .int .i64 a0_2, .slice A0_3 l0_3.length c0_3], .int .u8 a1] w fun e w' => e = .returned (.tuple #[.int .i64 r1, .int .u64 r2, .bool r3]) ∧ Below w.heap.size w w' := by
 have hu31 := Tryz.underlying31
 have HV := Aside0.mk hv
 clear hv
 have HR0_3 := Aside0.mk hr0_3
 have HC0_3 := Aside0.mk hc0_3
 clear hr0_3 hc0_3
 have HB := Aside0.mk (Below.refl w.heap.size w)
 have H : ((meta_Find.f a0_0 a0_1 a0_2 l0_3 a1).bind fun bt216 => (if bt216.2 = true then ((meta_sortOf.f k a1).bind fun t218 => (if t218 = 3 then ((digits_Signed.f k bt216.1).bind fun bt219 => (some (bt219.1, 0, (bt219.2 == 0)))) else (if t218 = 1 then (meta_Number.j0 k a1 bt216.1 (t218 == 1)) else (meta_Number.j0 k a1 bt216.1 (t218 == 2))))) else (some (0, 0, false)))) = some (r1, r2, r3) := h
 clear h
 replace H := Option.bind_eq_some_iff.mp H
 obtain ⟨⟨t216, t217⟩, A30, H⟩ := H
 replace H : (if t217 = true then ((meta_sortOf.f k a1).bind fun t218 => (if t218 = 3 then ((digits_Signed.f k t216).bind fun bt219 => (some (bt219.1, 0, (bt219.2 == 0)))) else (if t218 = 1 then (meta_Number.j0 k a1 t216 (t218 == 1)) else (meta_Number.j0 k a1 t216 (t218 == 2))))) else (some (0, 0, false))) = some (r1, r2, r3) := H
 have A3 := Aside0.mk A30
 clear A30
 by_cases c4 : t217 = true
 · subst c4
   have H1 : ((meta_sortOf.f k a1).bind fun t218 => (if t218 = 3 then ((digits_Signed.f k t216).bind fun bt219 => (some (bt219.1, 0, (bt219.2 == 0)))) else (if t218 = 1 then (meta_Number.j0 k a1 t216 (t218 == 1)) else (meta_Number.j0 k a1 t216 (t218 == 2))))) = some (r1, r2, r3) := by rw [if_pos rfl] at H; exact H
   clear H
   have H := H1
   clear H1
   replace H := Option.bind_eq_some_iff.mp H
   obtain ⟨t218, A50, H⟩ := H
   replace H : (if t218 = 3 then ((digits_Signed.f k t216).bind fun bt219 => (some (bt219.1, 0, (bt219.2 == 0)))) else (if t218 = 1 then (meta_Number.j0 k a1 t216 (t218 == 1)) else (meta_Number.j0 k a1 t216 (t218 == 2)))) = some (r1, r2, r3) := H
   have A5 := Aside0.mk A50
   clear A50
   by_cases c6 : t218 = 3
   · rw [if_pos c6] at H
     have c6b0 : (t218 == 3) = true := beq_iff_eq.mpr c6
     have c6b1 : (t218 != 3) = false := bne_eq_false_iff_eq.mpr c6
     clear c6
     replace H := Option.bind_eq_some_iff.mp H
     obtain ⟨⟨t219, t220⟩, A70, H⟩ := H
     replace H : (some (t219, 0, (t220 == 0))) = some (r1, r2, r3) := H
     have A7 := Aside0.mk A70
     clear A70
     simp only [Option.some.injEq, Prod.mk.injEq] at H
     obtain ⟨rfl, rfl, rfl⟩ := H
     go_enter Tryz.func13, Tryz.ntmps13
     go_wp2_with (first | ((with_reducible refine gate_dst (N := 2) rfl ?_); refine box_event ?hg (N := 2) ?hd (cs := #[.int .i64 a0_0, .string a0_1, .int .i64 a0_2, .slice A0_3 l0_3.length c0_3]) (t := 31) ?hr ?_; (case hd => rfl); (case hg => rfl); (case hr => first | (go_simp; done) | (go_simp; rfl)); intro gb215 hg w8 hbox hb; have n0_ := Aside0.mk (below_step (hbA HB.out) hb); have n1_ := Aside0.mk (hbox); have n2_ := Aside0.mk ((by rw [hg]; exact (below_size (hbA HB.out)) : w.heap.size ≤ gb215)); have n3_ := Aside0.mk ((by rw [hg]; exact (below_size (hbA HB.out)) : w.heap.size ≤ gb215)); clear HB; have HB := n0_; have BK215 := n1_; have GW215 := n2_; have GE215 := n3_; clear n0_ n1_ n2_ n3_; clear hb hbox hg; obtain ⟨hcz9_0, hcz9_1, hcz9_2, hcz9_3, hfz9_0, hfz9_1, hfz9_2, hfz9_3⟩ := blkA4 BK215.out) | ((with_reducible refine gate_callee (f := 15) rfl ?_); refine goesL_ (some 16) rfl rfl Tryz.func15 (by kernel_rfl) rfl #[.agg #[.int .i64 a0_0, .string a0_1, .int .i64 a0_2, .slice A0_3 l0_3.length c0_3], .int .u8 a1] rfl argA ?_; (with_reducible refine (meta_Find.calls a0_0 a0_1 a0_2 _ _ l0_3 a1 t216 true _ ?side1 ?side2 A3.out).mono ?_); (case side1 => repeat (first | exact (Kd.C_below HR0_3.out HB.out) | (with_reducible refine Kd.C_alloc ?_ _) | (with_reducible refine Kd.C_drewN ?_ _) | (with_reducible refine Kd.C_drew ?_))); (case side2 => exact HC0_3.out); rintro e w10 ⟨rfl, hb⟩; refine ⟨_, rfl, ?_⟩; replace BK215 := Aside0.mk (blk_below (g := gb215) (o := .cells #[.int .i64 a0_0, .string a0_1, .int .i64 a0_2, .slice A0_3 l0_3.length c0_3] 31 (0, 0)) (rbA BK215.out) hb); replace HB := Aside0.mk (below_step (hbA HB.out) hb); (try clear hb); (try clear hb2); (try clear hk); (try clear hi)) | ((with_reducible refine gate_callee (f := 36) rfl ?_); refine goesL_ (some 22) rfl rfl Tryz.func36 (by kernel_rfl) rfl #[.int .u8 a1] rfl argA ?_; (with_reducible refine (meta_sortOf.calls k a1 t218 _ A5.out).mono ?_); rintro e w' ⟨rfl, ⟨nd, rfl⟩⟩; refine ⟨_, rfl, ?_⟩) | ((with_reducible refine gate_callee (f := 37) rfl ?_); refine goesL_ (some 27) rfl rfl Tryz.func37 (by kernel_rfl) rfl #[.string t216] rfl argA ?_; (with_reducible refine (digits_Signed.calls k t216 t219 t220 _ ?side1 A7.out).mono ?_); (case side1 => exact Vars.below HV.out (hbA HB.out)); rintro e w11 ⟨rfl, hb⟩; refine ⟨_, rfl, ?_⟩; replace BK215 := Aside0.mk (blk_below (g := gb215) (o := .cells #[.int .i64 a0_0, .string a0_1, .int .i64 a0_2, .slice A0_3 l0_3.length c0_3] 31 (0, 0)) (rbA BK215.out) hb); replace HB := Aside0.mk (below_step (hbA HB.out) hb); (try clear hb); (try clear hb2); (try clear hk); (try clear hi)))
     go_ret3
     exact ⟨reA, hbA HB.out⟩
   rw [if_neg c6] at H
   have c6b0 : (t218 == 3) = false := beq_eq_false_iff_ne.mpr c6
   have c6b1 : (t218 != 3) = true := bne_iff_ne.mpr c6
   have HC12 := Aside0.mk H
   clear H
   go_enter Tryz.func13, Tryz.ntmps13
   go_upto_if 33 with (first | ((with_reducible refine gate_dst (N := 2) rfl ?_); refine box_event ?hg (N := 2) ?hd (cs := #[.int .i64 a0_0, .string a0_1, .int .i64 a0_2, .slice A0_3 l0_3.length c0_3]) (t := 31) ?hr ?_; (case hd => rfl); (case hg => rfl); (case hr => first | (go_simp; done) | (go_simp; rfl)); intro gb215 hg w13 hbox hb; have n0_ := Aside0.mk (below_step (hbA HB.out) hb); have n1_ := Aside0.mk (hbox); have n2_ := Aside0.mk ((by rw [hg]; exact (below_size (hbA HB.out)) : w.heap.size ≤ gb215)); have n3_ := Aside0.mk ((by rw [hg]; exact (below_size (hbA HB.out)) : w.heap.size ≤ gb215)); clear HB; have HB := n0_; have BK215 := n1_; have GW215 := n2_; have GE215 := n3_; clear n0_ n1_ n2_ n3_; clear hb hbox hg; obtain ⟨hcz14_0, hcz14_1, hcz14_2, hcz14_3, hfz14_0, hfz14_1, hfz14_2, hfz14_3⟩ := blkA4 BK215.out) | ((with_reducible refine gate_callee (f := 15) rfl ?_); refine goesL_ (some 16) rfl rfl Tryz.func15 (by kernel_rfl) rfl #[.agg #[.int .i64 a0_0, .string a0_1, .int .i64 a0_2, .slice A0_3 l0_3.length c0_3], .int .u8 a1] rfl argA ?_; (with_reducible refine (meta_Find.calls a0_0 a0_1 a0_2 _ _ l0_3 a1 t216 true _ ?side1 ?side2 A3.out).mono ?_); (case side1 => repeat (first | exact (Kd.C_below HR0_3.out HB.out) | (with_reducible refine Kd.C_alloc ?_ _) | (with_reducible refine Kd.C_drewN ?_ _) | (with_reducible refine Kd.C_drew ?_))); (case side2 => exact HC0_3.out); rintro e w15 ⟨rfl, hb⟩; refine ⟨_, rfl, ?_⟩; replace BK215 := Aside0.mk (blk_below (g := gb215) (o := .cells #[.int .i64 a0_0, .string a0_1, .int .i64 a0_2, .slice A0_3 l0_3.length c0_3] 31 (0, 0)) (rbA BK215.out) hb); replace HB := Aside0.mk (below_step (hbA HB.out) hb); (try clear hb); (try clear hb2); (try clear hk); (try clear hi)) | ((with_reducible refine gate_callee (f := 36) rfl ?_); refine goesL_ (some 22) rfl rfl Tryz.func36 (by kernel_rfl) rfl #[.int .u8 a1] rfl argA ?_; (with_reducible refine (meta_sortOf.calls k a1 t218 _ A5.out).mono ?_); rintro e w' ⟨rfl, ⟨nd, rfl⟩⟩; refine ⟨_, rfl, ?_⟩))
   (try simp only [Act.put, List.setIfInBounds_toArray, List.set_cons_zero, List.set_cons_succ])
   go_cut [33] (fun v33 wc => ∃ (kq : Nat) (x33_11 : Bool), v33 = .bool x33_11 ∧ Aside0 (meta_Number.j0 kq a1 t216 x33_11 = some (r1, r2, r3)) ∧ Aside0 (kq ≤ k) ∧ Aside0 (wc.heap[gb215]? = some (.cells #[.int .i64 a0_0, .string a0_1, .int .i64 a0_2, (.slice A0_3 l0_3.length c0_3)] 31 (0, 0))) ∧ Aside0 (Below w.heap.size w wc))
   case first =>
    have H := HC12.out
    clear HC12
    by_cases c16 : t218 = 1
    · rw [if_pos c16] at H
      have c16b0 : (t218 == 1) = true := beq_iff_eq.mpr c16
      have c16b1 : (t218 != 1) = false := bne_eq_false_iff_eq.mpr c16
      clear c16
      (first | rw [c16b0] | (simp only [i64_w, i32_w]; rw [c16b0]) | skip)
      have H' := Aside0.mk H
      clear H
      go_wp2
      go_meet
      case rel => exact ⟨_, ((t218 == 1)), rsA, H', ⟨by first | omega | exact Nat.le_refl _⟩, ⟨rbA BK215.out⟩, ⟨hbA HB.out⟩⟩
    rw [if_neg c16] at H
    have c16b0 : (t218 == 1) = false := beq_eq_false_iff_ne.mpr c16
    have c16b1 : (t218 != 1) = true := bne_iff_ne.mpr c16
    (first | rw [c16b0] | (simp only [i64_w, i32_w]; rw [c16b0]) | skip)
    have H' := Aside0.mk H
    clear H
    go_wp2
    go_meet
    case rel => exact ⟨_, ((t218 == 2)), rsA, H', ⟨by first | omega | exact Nat.le_refl _⟩, ⟨rbA BK215.out⟩, ⟨hbA HB.out⟩⟩
   clear HC12
   (try clear c1); (try clear p2); (try clear c3); (try clear c4); (try clear c6); (try clear c6b0); (try clear c6b1); (try clear c13); (try clear c15); (try clear c16); (try clear c16b0); (try clear c16b1); (try clear hcz14_0); (try clear hcz14_1); (try clear hcz14_2); (try clear hcz14_3); (try clear hcz9_0); (try clear hcz9_1); (try clear hcz9_2); (try clear hcz9_3); (try clear hfz14_0); (try clear hfz14_1); (try clear hfz14_2); (try clear hfz14_3); (try clear hfz9_0); (try clear hfz9_1); (try clear hfz9_2); (try clear hfz9_3)
   obtain ⟨kq, x33_11, rfl, HA, HJ11, BK215, HB⟩ := hcut
   cases kq with
   | zero => exact absurd HA.out (by simp [meta_Number.j0])
   | succ kj11 =>
    have H := HA.out
    clear HA
    simp only [meta_Number.j0] at H
    by_cases c17 : x33_11 = true
    · subst c17
      have H1 : ((digits_Parse.f t216).bind fun bt221 => (if bt221.2 = 0 then (if a1 = 70 then (if bt221.1 > 4294967295 then (some (0, 0, false)) else (some (0, bt221.1, true))) else (some (0, bt221.1, true))) else (some (0, 0, false)))) = some (r1, r2, r3) := by rw [if_pos rfl] at H; exact H
      clear H
      have H := H1
      clear H1
      replace H := Option.bind_eq_some_iff.mp H
      obtain ⟨⟨t221, t222⟩, A180, H⟩ := H
      replace H : (if t222 = 0 then (if a1 = 70 then (if t221 > 4294967295 then (some (0, 0, false)) else (some (0, t221, true))) else (some (0, t221, true))) else (some (0, 0, false))) = some (r1, r2, r3) := H
      have A18 := Aside0.mk A180
      clear A180
      by_cases c19 : t222 = 0
      · rw [if_pos c19] at H
        have c19b0 : (t222 == 0) = true := beq_iff_eq.mpr c19
        have c19b1 : (t222 != 0) = false := bne_eq_false_iff_eq.mpr c19
        clear c19
        by_cases c20 : a1 = 70
        · rw [if_pos c20] at H
          have c20b0 : (a1 == 70) = true := beq_iff_eq.mpr c20
          have c20b1 : (a1 != 70) = false := bne_eq_false_iff_eq.mpr c20
          clear c20
          by_cases c21 : t221 > 4294967295
          · rw [if_pos c21] at H
            have c21b0 : decide (4294967295 < t221) = true := decide_eq_true c21
            clear c21
            simp only [Option.some.injEq, Prod.mk.injEq] at H
            obtain ⟨rfl, rfl, rfl⟩ := H
            go_wp2_with (first | ((with_reducible refine gate_callee (f := 38) rfl ?_); refine goesL_ (some 38) rfl rfl Tryz.func38 (by kernel_rfl) rfl #[.string t216] rfl argA ?_; (with_reducible refine (digits_Parse.calls t216 t221 t222 _ ?side1 A18.out).mono ?_); (case side1 => exact Vars.below HV.out (hbA HB.out)); rintro e w22 ⟨rfl, hb⟩; refine ⟨_, rfl, ?_⟩; replace BK215 := Aside0.mk (blk_below (g := gb215) (o := .cells #[.int .i64 a0_0, .string a0_1, .int .i64 a0_2, .slice A0_3 l0_3.length c0_3] 31 (0, 0)) (rbA BK215.out) hb); replace HB := Aside0.mk (below_step (hbA HB.out) hb); (try clear hb); (try clear hb2); (try clear hk); (try clear hi)))
            go_ret3
            exact ⟨reA, hbA HB.out⟩
          rw [if_neg c21] at H
          have c21b0 : decide (4294967295 < t221) = false := decide_eq_false c21
          clear c21
          simp only [Option.some.injEq, Prod.mk.injEq] at H
          obtain ⟨rfl, rfl, rfl⟩ := H
          go_wp2_with (first | ((with_reducible refine gate_callee (f := 38) rfl ?_); refine goesL_ (some 38) rfl rfl Tryz.func38 (by kernel_rfl) rfl #[.string t216] rfl argA ?_; (with_reducible refine (digits_Parse.calls t216 t221 t222 _ ?side1 A18.out).mono ?_); (case side1 => exact Vars.below HV.out (hbA HB.out)); rintro e w23 ⟨rfl, hb⟩; refine ⟨_, rfl, ?_⟩; replace BK215 := Aside0.mk (blk_below (g := gb215) (o := .cells #[.int .i64 a0_0, .string a0_1, .int .i64 a0_2, .slice A0_3 l0_3.length c0_3] 31 (0, 0)) (rbA BK215.out) hb); replace HB := Aside0.mk (below_step (hbA HB.out) hb); (try clear hb); (try clear hb2); (try clear hk); (try clear hi)))
          go_ret3
          exact ⟨reA, hbA HB.out⟩
        rw [if_neg c20] at H
        have c20b0 : (a1 == 70) = false := beq_eq_false_iff_ne.mpr c20
        have c20b1 : (a1 != 70) = true := bne_iff_ne.mpr c20
        simp only [Option.some.injEq, Prod.mk.injEq] at H
        obtain ⟨rfl, rfl, rfl⟩ := H
        go_wp2_with (first | ((with_reducible refine gate_callee (f := 38) rfl ?_); refine goesL_ (some 38) rfl rfl Tryz.func38 (by kernel_rfl) rfl #[.string t216] rfl argA ?_; (with_reducible refine (digits_Parse.calls t216 t221 t222 _ ?side1 A18.out).mono ?_); (case side1 => exact Vars.below HV.out (hbA HB.out)); rintro e w24 ⟨rfl, hb⟩; refine ⟨_, rfl, ?_⟩; replace BK215 := Aside0.mk (blk_below (g := gb215) (o := .cells #[.int .i64 a0_0, .string a0_1, .int .i64 a0_2, .slice A0_3 l0_3.length c0_3] 31 (0, 0)) (rbA BK215.out) hb); replace HB := Aside0.mk (below_step (hbA HB.out) hb); (try clear hb); (try clear hb2); (try clear hk); (try clear hi)))
        go_ret3
        exact ⟨reA, hbA HB.out⟩
      rw [if_neg c19] at H
      have c19b0 : (t222 == 0) = false := beq_eq_false_iff_ne.mpr c19
      have c19b1 : (t222 != 0) = true := bne_iff_ne.mpr c19
      simp only [Option.some.injEq, Prod.mk.injEq] at H
      obtain ⟨rfl, rfl, rfl⟩ := H
      go_wp2_with (first | ((with_reducible refine gate_callee (f := 38) rfl ?_); refine goesL_ (some 38) rfl rfl Tryz.func38 (by kernel_rfl) rfl #[.string t216] rfl argA ?_; (with_reducible refine (digits_Parse.calls t216 t221 t222 _ ?side1 A18.out).mono ?_); (case side1 => exact Vars.below HV.out (hbA HB.out)); rintro e w25 ⟨rfl, hb⟩; refine ⟨_, rfl, ?_⟩; replace BK215 := Aside0.mk (blk_below (g := gb215) (o := .cells #[.int .i64 a0_0, .string a0_1, .int .i64 a0_2, .slice A0_3 l0_3.length c0_3] 31 (0, 0)) (rbA BK215.out) hb); replace HB := Aside0.mk (below_step (hbA HB.out) hb); (try clear hb); (try clear hb2); (try clear hk); (try clear hi)))
      go_ret3
      exact ⟨reA, hbA HB.out⟩
    replace c17 := Bool.eq_false_iff.mpr c17
    subst c17
    have H1 : (some (0, 0, false)) = some (r1, r2, r3) := by rw [if_neg (show ¬ (false = true) by decide)] at H; exact H
    clear H
    have H := H1
    clear H1
    simp only [Option.some.injEq, Prod.mk.injEq] at H
    obtain ⟨rfl, rfl, rfl⟩ := H
    go_wp2
    go_ret3
    exact ⟨reA, hbA HB.out⟩
 replace c4 := Bool.eq_false_iff.mpr c4
 subst c4
 have H1 : (some (0, 0, false)) = some (r1, r2, r3) := by rw [if_neg (show ¬ (false = true) by decide)] at H; exact H
 clear H
 have H := H1
 clear H1
 simp only [Option.some.injEq, Prod.mk.injEq] at H
 obtain ⟨rfl, rfl, rfl⟩ := H
 go_enter Tryz.func13, Tryz.ntmps13
 go_wp2_with (first | ((with_reducible refine gate_dst (N := 2) rfl ?_); refine box_event ?hg (N := 2) ?hd (cs := #[.int .i64 a0_0, .string a0_1, .int .i64 a0_2, .slice A0_3 l0_3.length c0_3]) (t := 31) ?hr ?_; (case hd => rfl); (case hg => rfl); (case hr => first | (go_simp; done) | (go_simp; rfl)); intro gb215 hg w26 hbox hb; have n0_ := Aside0.mk (below_step (hbA HB.out) hb); have n1_ := Aside0.mk (hbox); have n2_ := Aside0.mk ((by rw [hg]; exact (below_size (hbA HB.out)) : w.heap.size ≤ gb215)); have n3_ := Aside0.mk ((by rw [hg]; exact (below_size (hbA HB.out)) : w.heap.size ≤ gb215)); clear HB; have HB := n0_; have BK215 := n1_; have GW215 := n2_; have GE215 := n3_; clear n0_ n1_ n2_ n3_; clear hb hbox hg; obtain ⟨hcz27_0, hcz27_1, hcz27_2, hcz27_3, hfz27_0, hfz27_1, hfz27_2, hfz27_3⟩ := blkA4 BK215.out) | ((with_reducible refine gate_callee (f := 15) rfl ?_); refine goesL_ (some 16) rfl rfl Tryz.func15 (by kernel_rfl) rfl #[.agg #[.int .i64 a0_0, .string a0_1, .int .i64 a0_2, .slice A0_3 l0_3.length c0_3], .int .u8 a1] rfl argA ?_; (with_reducible refine (meta_Find.calls a0_0 a0_1 a0_2 _ _ l0_3 a1 t216 false _ ?side1 ?side2 A3.out).mono ?_); (case side1 => repeat (first | exact (Kd.C_below HR0_3.out HB.out) | (with_reducible refine Kd.C_alloc ?_ _) | (with_reducible refine Kd.C_drewN ?_ _) | (with_reducible refine Kd.C_drew ?_))); (case side2 => exact HC0_3.out); rintro e w28 ⟨rfl, hb⟩; refine ⟨_, rfl, ?_⟩; replace BK215 := Aside0.mk (blk_below (g := gb215) (o := .cells #[.int .i64 a0_0, .string a0_1, .int .i64 a0_2, .slice A0_3 l0_3.length c0_3] 31 (0, 0)) (rbA BK215.out) hb); replace HB := Aside0.mk (below_step (hbA HB.out) hb); (try clear hb); (try clear hb2); (try clear hk); (try clear hi)))
 go_ret3
 exact ⟨reA, hbA HB.out⟩

def tallboyref27_Number.f (k : Nat) (a0_0 : Int) (a0_1 : ByteArray) (a0_2 : Int) (l0_3 : List (S59)) (a1 : Int) : Option (Int × Int × Bool) := (tallboyref27_Find.f k a0_0 a0_1 a0_2 l0_3 a1).bind fun bt224 => (if bt224.2 = true then ((tallboyref27_has.f k (⟨#[78, 82, 84]⟩ : ByteArray) a1).bind fun t226 => (if t226 = true then ((tallboyref02_Signed.f k bt224.1).bind fun bt227 => (some (bt227.1, 0, (bt227.2 == 0)))) else ((tallboyref27_has.f k (⟨#[67, 68, 69, 70, 74]⟩ : ByteArray) a1).bind fun t229 => (if t229 = true then ((tallboyref02_Parse.f k bt224.1).bind fun bt230 => (if a1 = 70 then (if bt230.1 ≥ 4294967296 then (some (0, 0, false)) else (some (0, bt230.1, (bt230.2 == 0)))) else (some (0, bt230.1, (bt230.2 == 0))))) else (some (0, 0, false)))))) else (some (0, 0, false)))
theorem tallboyref27_Number.mono : ∀ a0 a1 a2 a3 a4 k, LeO (tallboyref27_Number.f k a0 a1 a2 a3 a4) (tallboyref27_Number.f (k + 1) a0 a1 a2 a3 a4) := by
 intro a0 a1 a2 a3 a4 k
 unfold tallboyref27_Number.f
 repeat' first
  | (with_reducible exact tallboyref02_Parse.mono _ _)
  | (with_reducible exact tallboyref02_Signed.mono _ _)
  | (with_reducible exact tallboyref27_Find.mono _ _ _ _ _ _)
  | (with_reducible exact tallboyref27_has.mono _ _ _)
  | (with_reducible exact LeO.refl _)
  | (with_reducible exact LeO.none _)
  | (with_reducible refine LeO.ite ?_ ?_)
  | (with_reducible refine LeO.bind ?_ (fun _ => ?_))
  | exact tallboyref02_Parse.mono _ _
  | exact tallboyref02_Signed.mono _ _
  | exact tallboyref27_Find.mono _ _ _ _ _ _
  | exact tallboyref27_has.mono _ _ _
  | exact LeO.none _
  | refine LeO.ite ?_ ?_
  | refine LeO.bind ?_ (fun _ => ?_)
set_option maxHeartbeats 8000000 in
set_option maxRecDepth 100000 in
theorem tallboyref27_Number.calls (k : Nat) (a0_0 : Int) (a0_1 : ByteArray) (a0_2 : Int) (A0_3 : Option Addr) (c0_3 : Nat) (l0_3 : List (S59)) (a1 : Int) (r1 : Int) (r2 : Int) (r3 : Bool) (w : World) (hr0_3 : Kd.C k59 w A0_3 l0_3.length l0_3) (hc0_3 : l0_3.length ≤ c0_3) (h : tallboyref27_Number.f k a0_0 a0_1 a0_2 l0_3 a1 = some (r1, r2, r3)) :
 Calls Tryz.prog 14 #[.agg #[.int .i64 a0_0, .string a0_1, .int .i64 a0_2, .slice A0_3 l0_3.length c0_3], .int .u8 a1] w fun e w' => e = .returned (.tuple #[.int .i64 r1, .int .u64 r2, .bool r3]) ∧ Below w.heap.size w w' := by
 have hu24 := Tryz.underlying24
 have HR0_3 := Aside0.mk hr0_3
 have HC0_3 := Aside0.mk hc0_3
 clear hr0_3 hc0_3
 have HB := Aside0.mk (Below.refl w.heap.size w)
 have H : ((tallboyref27_Find.f k a0_0 a0_1 a0_2 l0_3 a1).bind fun bt224 => (if bt224.2 = true then ((tallboyref27_has.f k (⟨#[78, 82, 84]⟩ : ByteArray) a1).bind fun t226 => (if t226 = true then ((tallboyref02_Signed.f k bt224.1).bind fun bt227 => (some (bt227.1, 0, (bt227.2 == 0)))) else ((tallboyref27_has.f k (⟨#[67, 68, 69, 70, 74]⟩ : ByteArray) a1).bind fun t229 => (if t229 = true then ((tallboyref02_Parse.f k bt224.1).bind fun bt230 => (if a1 = 70 then (if bt230.1 ≥ 4294967296 then (some (0, 0, false)) else (some (0, bt230.1, (bt230.2 == 0)))) else (some (0, bt230.1, (bt230.2 == 0))))) else (some (0, 0, false)))))) else (some (0, 0, false)))) = some (r1, r2, r3) := h
 clear h
 replace H := Option.bind_eq_some_iff.mp H
 obtain ⟨⟨t224, t225⟩, A30, H⟩ := H
 replace H : (if t225 = true then ((tallboyref27_has.f k (⟨#[78, 82, 84]⟩ : ByteArray) a1).bind fun t226 => (if t226 = true then ((tallboyref02_Signed.f k t224).bind fun bt227 => (some (bt227.1, 0, (bt227.2 == 0)))) else ((tallboyref27_has.f k (⟨#[67, 68, 69, 70, 74]⟩ : ByteArray) a1).bind fun t229 => (if t229 = true then ((tallboyref02_Parse.f k t224).bind fun bt230 => (if a1 = 70 then (if bt230.1 ≥ 4294967296 then (some (0, 0, false)) else (some (0, bt230.1, (bt230.2 == 0)))) else (some (0, bt230.1, (bt230.2 == 0))))) else (some (0, 0, false)))))) else (some (0, 0, false))) = some (r1, r2, r3) := H
 have A3 := Aside0.mk A30
 clear A30
 by_cases c4 : t225 = true
 · subst c4
   have H1 : ((tallboyref27_has.f k (⟨#[78, 82, 84]⟩ : ByteArray) a1).bind fun t226 => (if t226 = true then ((tallboyref02_Signed.f k t224).bind fun bt227 => (some (bt227.1, 0, (bt227.2 == 0)))) else ((tallboyref27_has.f k (⟨#[67, 68, 69, 70, 74]⟩ : ByteArray) a1).bind fun t229 => (if t229 = true then ((tallboyref02_Parse.f k t224).bind fun bt230 => (if a1 = 70 then (if bt230.1 ≥ 4294967296 then (some (0, 0, false)) else (some (0, bt230.1, (bt230.2 == 0)))) else (some (0, bt230.1, (bt230.2 == 0))))) else (some (0, 0, false)))))) = some (r1, r2, r3) := by rw [if_pos rfl] at H; exact H
   clear H
   have H := H1
   clear H1
   replace H := Option.bind_eq_some_iff.mp H
   obtain ⟨t226, A50, H⟩ := H
   replace H : (if t226 = true then ((tallboyref02_Signed.f k t224).bind fun bt227 => (some (bt227.1, 0, (bt227.2 == 0)))) else ((tallboyref27_has.f k (⟨#[67, 68, 69, 70, 74]⟩ : ByteArray) a1).bind fun t229 => (if t229 = true then ((tallboyref02_Parse.f k t224).bind fun bt230 => (if a1 = 70 then (if bt230.1 ≥ 4294967296 then (some (0, 0, false)) else (some (0, bt230.1, (bt230.2 == 0)))) else (some (0, bt230.1, (bt230.2 == 0))))) else (some (0, 0, false))))) = some (r1, r2, r3) := H
   have A5 := Aside0.mk A50
   clear A50
   by_cases c6 : t226 = true
   · subst c6
     have H1 : ((tallboyref02_Signed.f k t224).bind fun bt227 => (some (bt227.1, 0, (bt227.2 == 0)))) = some (r1, r2, r3) := by rw [if_pos rfl] at H; exact H
     clear H
     have H := H1
     clear H1
     replace H := Option.bind_eq_some_iff.mp H
     obtain ⟨⟨t227, t228⟩, A70, H⟩ := H
     replace H : (some (t227, 0, (t228 == 0))) = some (r1, r2, r3) := H
     have A7 := Aside0.mk A70
     clear A70
     simp only [Option.some.injEq, Prod.mk.injEq] at H
     obtain ⟨rfl, rfl, rfl⟩ := H
     go_enter Tryz.func14, Tryz.ntmps14
     go_wp2_with (first | ((with_reducible refine gate_dst (N := 2) rfl ?_); refine box_event ?hg (N := 2) ?hd (cs := #[.int .i64 a0_0, .string a0_1, .int .i64 a0_2, .slice A0_3 l0_3.length c0_3]) (t := 24) ?hr ?_; (case hd => rfl); (case hg => rfl); (case hr => first | (go_simp; done) | (go_simp; rfl)); intro gb223 hg w8 hbox hb; have n0_ := Aside0.mk (below_step (hbA HB.out) hb); have n1_ := Aside0.mk (hbox); have n2_ := Aside0.mk ((by rw [hg]; exact (below_size (hbA HB.out)) : w.heap.size ≤ gb223)); have n3_ := Aside0.mk ((by rw [hg]; exact (below_size (hbA HB.out)) : w.heap.size ≤ gb223)); clear HB; have HB := n0_; have BK223 := n1_; have GW223 := n2_; have GE223 := n3_; clear n0_ n1_ n2_ n3_; clear hb hbox hg; obtain ⟨hcz9_0, hcz9_1, hcz9_2, hcz9_3, hfz9_0, hfz9_1, hfz9_2, hfz9_3⟩ := blkA4 BK223.out) | ((with_reducible refine gate_callee (f := 16) rfl ?_); refine goesL_ (some 16) rfl rfl Tryz.func16 (by kernel_rfl) rfl #[.agg #[.int .i64 a0_0, .string a0_1, .int .i64 a0_2, .slice A0_3 l0_3.length c0_3], .int .u8 a1] rfl argA ?_; (with_reducible refine (tallboyref27_Find.calls k a0_0 a0_1 a0_2 _ _ l0_3 a1 t224 true _ ?side1 ?side2 A3.out).mono ?_); (case side1 => repeat (first | exact (Kd.C_below HR0_3.out HB.out) | (with_reducible refine Kd.C_alloc ?_ _) | (with_reducible refine Kd.C_drewN ?_ _) | (with_reducible refine Kd.C_drew ?_))); (case side2 => exact HC0_3.out); rintro e w10 ⟨rfl, hb⟩; refine ⟨_, rfl, ?_⟩; replace BK223 := Aside0.mk (blk_below (g := gb223) (o := .cells #[.int .i64 a0_0, .string a0_1, .int .i64 a0_2, .slice A0_3 l0_3.length c0_3] 24 (0, 0)) (rbA BK223.out) hb); replace HB := Aside0.mk (below_step (hbA HB.out) hb); (try clear hb); (try clear hb2); (try clear hk); (try clear hi)) | ((with_reducible refine gate_callee (f := 39) rfl ?_); refine goesL_ (some 22) rfl rfl Tryz.func39 (by kernel_rfl) rfl #[.string (⟨#[78, 82, 84]⟩ : ByteArray), .int .u8 a1] rfl argA ?_; (with_reducible refine (tallboyref27_has.calls k (⟨#[78, 82, 84]⟩ : ByteArray) a1 true _ A5.out).mono ?_); rintro e w' ⟨rfl, ⟨nd, rfl⟩⟩; refine ⟨_, rfl, ?_⟩) | ((with_reducible refine gate_callee (f := 40) rfl ?_); refine goesL_ (some 25) rfl rfl Tryz.func40 (by kernel_rfl) rfl #[.string t224] rfl argA ?_; (with_reducible refine (tallboyref02_Signed.calls k t224 t227 t228 _ A7.out).mono ?_); rintro e w' ⟨rfl, ⟨nd, rfl⟩⟩; refine ⟨_, rfl, ?_⟩))
     go_ret3
     exact ⟨reA, hbA HB.out⟩
   replace c6 := Bool.eq_false_iff.mpr c6
   subst c6
   have H1 : ((tallboyref27_has.f k (⟨#[67, 68, 69, 70, 74]⟩ : ByteArray) a1).bind fun t229 => (if t229 = true then ((tallboyref02_Parse.f k t224).bind fun bt230 => (if a1 = 70 then (if bt230.1 ≥ 4294967296 then (some (0, 0, false)) else (some (0, bt230.1, (bt230.2 == 0)))) else (some (0, bt230.1, (bt230.2 == 0))))) else (some (0, 0, false)))) = some (r1, r2, r3) := by rw [if_neg (show ¬ (false = true) by decide)] at H; exact H
   clear H
   have H := H1
   clear H1
   replace H := Option.bind_eq_some_iff.mp H
   obtain ⟨t229, A110, H⟩ := H
   replace H : (if t229 = true then ((tallboyref02_Parse.f k t224).bind fun bt230 => (if a1 = 70 then (if bt230.1 ≥ 4294967296 then (some (0, 0, false)) else (some (0, bt230.1, (bt230.2 == 0)))) else (some (0, bt230.1, (bt230.2 == 0))))) else (some (0, 0, false))) = some (r1, r2, r3) := H
   have A11 := Aside0.mk A110
   clear A110
   by_cases c12 : t229 = true
   · subst c12
     have H1 : ((tallboyref02_Parse.f k t224).bind fun bt230 => (if a1 = 70 then (if bt230.1 ≥ 4294967296 then (some (0, 0, false)) else (some (0, bt230.1, (bt230.2 == 0)))) else (some (0, bt230.1, (bt230.2 == 0))))) = some (r1, r2, r3) := by rw [if_pos rfl] at H; exact H
     clear H
     have H := H1
     clear H1
     replace H := Option.bind_eq_some_iff.mp H
     obtain ⟨⟨t230, t231⟩, A130, H⟩ := H
     replace H : (if a1 = 70 then (if t230 ≥ 4294967296 then (some (0, 0, false)) else (some (0, t230, (t231 == 0)))) else (some (0, t230, (t231 == 0)))) = some (r1, r2, r3) := H
     have A13 := Aside0.mk A130
     clear A130
     by_cases c14 : a1 = 70
     · rw [if_pos c14] at H
       have c14b0 : (a1 == 70) = true := beq_iff_eq.mpr c14
       have c14b1 : (a1 != 70) = false := bne_eq_false_iff_eq.mpr c14
       clear c14
       by_cases c15 : t230 ≥ 4294967296
       · rw [if_pos c15] at H
         have c15b0 : decide (4294967296 ≤ t230) = true := decide_eq_true c15
         clear c15
         simp only [Option.some.injEq, Prod.mk.injEq] at H
         obtain ⟨rfl, rfl, rfl⟩ := H
         go_enter Tryz.func14, Tryz.ntmps14
         go_wp2_with (first | ((with_reducible refine gate_dst (N := 2) rfl ?_); refine box_event ?hg (N := 2) ?hd (cs := #[.int .i64 a0_0, .string a0_1, .int .i64 a0_2, .slice A0_3 l0_3.length c0_3]) (t := 24) ?hr ?_; (case hd => rfl); (case hg => rfl); (case hr => first | (go_simp; done) | (go_simp; rfl)); intro gb223 hg w16 hbox hb; have n0_ := Aside0.mk (below_step (hbA HB.out) hb); have n1_ := Aside0.mk (hbox); have n2_ := Aside0.mk ((by rw [hg]; exact (below_size (hbA HB.out)) : w.heap.size ≤ gb223)); have n3_ := Aside0.mk ((by rw [hg]; exact (below_size (hbA HB.out)) : w.heap.size ≤ gb223)); clear HB; have HB := n0_; have BK223 := n1_; have GW223 := n2_; have GE223 := n3_; clear n0_ n1_ n2_ n3_; clear hb hbox hg; obtain ⟨hcz17_0, hcz17_1, hcz17_2, hcz17_3, hfz17_0, hfz17_1, hfz17_2, hfz17_3⟩ := blkA4 BK223.out) | ((with_reducible refine gate_callee (f := 16) rfl ?_); refine goesL_ (some 16) rfl rfl Tryz.func16 (by kernel_rfl) rfl #[.agg #[.int .i64 a0_0, .string a0_1, .int .i64 a0_2, .slice A0_3 l0_3.length c0_3], .int .u8 a1] rfl argA ?_; (with_reducible refine (tallboyref27_Find.calls k a0_0 a0_1 a0_2 _ _ l0_3 a1 t224 true _ ?side1 ?side2 A3.out).mono ?_); (case side1 => repeat (first | exact (Kd.C_below HR0_3.out HB.out) | (with_reducible refine Kd.C_alloc ?_ _) | (with_reducible refine Kd.C_drewN ?_ _) | (with_reducible refine Kd.C_drew ?_))); (case side2 => exact HC0_3.out); rintro e w18 ⟨rfl, hb⟩; refine ⟨_, rfl, ?_⟩; replace BK223 := Aside0.mk (blk_below (g := gb223) (o := .cells #[.int .i64 a0_0, .string a0_1, .int .i64 a0_2, .slice A0_3 l0_3.length c0_3] 24 (0, 0)) (rbA BK223.out) hb); replace HB := Aside0.mk (below_step (hbA HB.out) hb); (try clear hb); (try clear hb2); (try clear hk); (try clear hi)) | ((with_reducible refine gate_callee (f := 39) rfl ?_); refine goesL_ (some 22) rfl rfl Tryz.func39 (by kernel_rfl) rfl #[.string (⟨#[78, 82, 84]⟩ : ByteArray), .int .u8 a1] rfl argA ?_; (with_reducible refine (tallboyref27_has.calls k (⟨#[78, 82, 84]⟩ : ByteArray) a1 false _ A5.out).mono ?_); rintro e w' ⟨rfl, ⟨nd, rfl⟩⟩; refine ⟨_, rfl, ?_⟩) | ((with_reducible refine gate_callee (f := 39) rfl ?_); refine goesL_ (some 32) rfl rfl Tryz.func39 (by kernel_rfl) rfl #[.string (⟨#[67, 68, 69, 70, 74]⟩ : ByteArray), .int .u8 a1] rfl argA ?_; (with_reducible refine (tallboyref27_has.calls k (⟨#[67, 68, 69, 70, 74]⟩ : ByteArray) a1 true _ A11.out).mono ?_); rintro e w' ⟨rfl, ⟨nd, rfl⟩⟩; refine ⟨_, rfl, ?_⟩) | ((with_reducible refine gate_callee (f := 41) rfl ?_); refine goesL_ (some 36) rfl rfl Tryz.func41 (by kernel_rfl) rfl #[.string t224] rfl argA ?_; (with_reducible refine (tallboyref02_Parse.calls k t224 t230 t231 _ A13.out).mono ?_); rintro e w' ⟨rfl, ⟨nd, rfl⟩⟩; refine ⟨_, rfl, ?_⟩))
         go_ret3
         exact ⟨reA, hbA HB.out⟩
       rw [if_neg c15] at H
       have c15b0 : decide (4294967296 ≤ t230) = false := decide_eq_false c15
       clear c15
       simp only [Option.some.injEq, Prod.mk.injEq] at H
       obtain ⟨rfl, rfl, rfl⟩ := H
       go_enter Tryz.func14, Tryz.ntmps14
       go_wp2_with (first | ((with_reducible refine gate_dst (N := 2) rfl ?_); refine box_event ?hg (N := 2) ?hd (cs := #[.int .i64 a0_0, .string a0_1, .int .i64 a0_2, .slice A0_3 l0_3.length c0_3]) (t := 24) ?hr ?_; (case hd => rfl); (case hg => rfl); (case hr => first | (go_simp; done) | (go_simp; rfl)); intro gb223 hg w19 hbox hb; have n0_ := Aside0.mk (below_step (hbA HB.out) hb); have n1_ := Aside0.mk (hbox); have n2_ := Aside0.mk ((by rw [hg]; exact (below_size (hbA HB.out)) : w.heap.size ≤ gb223)); have n3_ := Aside0.mk ((by rw [hg]; exact (below_size (hbA HB.out)) : w.heap.size ≤ gb223)); clear HB; have HB := n0_; have BK223 := n1_; have GW223 := n2_; have GE223 := n3_; clear n0_ n1_ n2_ n3_; clear hb hbox hg; obtain ⟨hcz20_0, hcz20_1, hcz20_2, hcz20_3, hfz20_0, hfz20_1, hfz20_2, hfz20_3⟩ := blkA4 BK223.out) | ((with_reducible refine gate_callee (f := 16) rfl ?_); refine goesL_ (some 16) rfl rfl Tryz.func16 (by kernel_rfl) rfl #[.agg #[.int .i64 a0_0, .string a0_1, .int .i64 a0_2, .slice A0_3 l0_3.length c0_3], .int .u8 a1] rfl argA ?_; (with_reducible refine (tallboyref27_Find.calls k a0_0 a0_1 a0_2 _ _ l0_3 a1 t224 true _ ?side1 ?side2 A3.out).mono ?_); (case side1 => repeat (first | exact (Kd.C_below HR0_3.out HB.out) | (with_reducible refine Kd.C_alloc ?_ _) | (with_reducible refine Kd.C_drewN ?_ _) | (with_reducible refine Kd.C_drew ?_))); (case side2 => exact HC0_3.out); rintro e w21 ⟨rfl, hb⟩; refine ⟨_, rfl, ?_⟩; replace BK223 := Aside0.mk (blk_below (g := gb223) (o := .cells #[.int .i64 a0_0, .string a0_1, .int .i64 a0_2, .slice A0_3 l0_3.length c0_3] 24 (0, 0)) (rbA BK223.out) hb); replace HB := Aside0.mk (below_step (hbA HB.out) hb); (try clear hb); (try clear hb2); (try clear hk); (try clear hi)) | ((with_reducible refine gate_callee (f := 39) rfl ?_); refine goesL_ (some 22) rfl rfl Tryz.func39 (by kernel_rfl) rfl #[.string (⟨#[78, 82, 84]⟩ : ByteArray), .int .u8 a1] rfl argA ?_; (with_reducible refine (tallboyref27_has.calls k (⟨#[78, 82, 84]⟩ : ByteArray) a1 false _ A5.out).mono ?_); rintro e w' ⟨rfl, ⟨nd, rfl⟩⟩; refine ⟨_, rfl, ?_⟩) | ((with_reducible refine gate_callee (f := 39) rfl ?_); refine goesL_ (some 32) rfl rfl Tryz.func39 (by kernel_rfl) rfl #[.string (⟨#[67, 68, 69, 70, 74]⟩ : ByteArray), .int .u8 a1] rfl argA ?_; (with_reducible refine (tallboyref27_has.calls k (⟨#[67, 68, 69, 70, 74]⟩ : ByteArray) a1 true _ A11.out).mono ?_); rintro e w' ⟨rfl, ⟨nd, rfl⟩⟩; refine ⟨_, rfl, ?_⟩) | ((with_reducible refine gate_callee (f := 41) rfl ?_); refine goesL_ (some 36) rfl rfl Tryz.func41 (by kernel_rfl) rfl #[.string t224] rfl argA ?_; (with_reducible refine (tallboyref02_Parse.calls k t224 t230 t231 _ A13.out).mono ?_); rintro e w' ⟨rfl, ⟨nd, rfl⟩⟩; refine ⟨_, rfl, ?_⟩))
       go_ret3
       exact ⟨reA, hbA HB.out⟩
     rw [if_neg c14] at H
     have c14b0 : (a1 == 70) = false := beq_eq_false_iff_ne.mpr c14
     have c14b1 : (a1 != 70) = true := bne_iff_ne.mpr c14
     simp only [Option.some.injEq, Prod.mk.injEq] at H
     obtain ⟨rfl, rfl, rfl⟩ := H
     go_enter Tryz.func14, Tryz.ntmps14
     go_wp2_with (first | ((with_reducible refine gate_dst (N := 2) rfl ?_); refine box_event ?hg (N := 2) ?hd (cs := #[.int .i64 a0_0, .string a0_1, .int .i64 a0_2, .slice A0_3 l0_3.length c0_3]) (t := 24) ?hr ?_; (case hd => rfl); (case hg => rfl); (case hr => first | (go_simp; done) | (go_simp; rfl)); intro gb223 hg w22 hbox hb; have n0_ := Aside0.mk (below_step (hbA HB.out) hb); have n1_ := Aside0.mk (hbox); have n2_ := Aside0.mk ((by rw [hg]; exact (below_size (hbA HB.out)) : w.heap.size ≤ gb223)); have n3_ := Aside0.mk ((by rw [hg]; exact (below_size (hbA HB.out)) : w.heap.size ≤ gb223)); clear HB; have HB := n0_; have BK223 := n1_; have GW223 := n2_; have GE223 := n3_; clear n0_ n1_ n2_ n3_; clear hb hbox hg; obtain ⟨hcz23_0, hcz23_1, hcz23_2, hcz23_3, hfz23_0, hfz23_1, hfz23_2, hfz23_3⟩ := blkA4 BK223.out) | ((with_reducible refine gate_callee (f := 16) rfl ?_); refine goesL_ (some 16) rfl rfl Tryz.func16 (by kernel_rfl) rfl #[.agg #[.int .i64 a0_0, .string a0_1, .int .i64 a0_2, .slice A0_3 l0_3.length c0_3], .int .u8 a1] rfl argA ?_; (with_reducible refine (tallboyref27_Find.calls k a0_0 a0_1 a0_2 _ _ l0_3 a1 t224 true _ ?side1 ?side2 A3.out).mono ?_); (case side1 => repeat (first | exact (Kd.C_below HR0_3.out HB.out) | (with_reducible refine Kd.C_alloc ?_ _) | (with_reducible refine Kd.C_drewN ?_ _) | (with_reducible refine Kd.C_drew ?_))); (case side2 => exact HC0_3.out); rintro e w24 ⟨rfl, hb⟩; refine ⟨_, rfl, ?_⟩; replace BK223 := Aside0.mk (blk_below (g := gb223) (o := .cells #[.int .i64 a0_0, .string a0_1, .int .i64 a0_2, .slice A0_3 l0_3.length c0_3] 24 (0, 0)) (rbA BK223.out) hb); replace HB := Aside0.mk (below_step (hbA HB.out) hb); (try clear hb); (try clear hb2); (try clear hk); (try clear hi)) | ((with_reducible refine gate_callee (f := 39) rfl ?_); refine goesL_ (some 22) rfl rfl Tryz.func39 (by kernel_rfl) rfl #[.string (⟨#[78, 82, 84]⟩ : ByteArray), .int .u8 a1] rfl argA ?_; (with_reducible refine (tallboyref27_has.calls k (⟨#[78, 82, 84]⟩ : ByteArray) a1 false _ A5.out).mono ?_); rintro e w' ⟨rfl, ⟨nd, rfl⟩⟩; refine ⟨_, rfl, ?_⟩) | ((with_reducible refine gate_callee (f := 39) rfl ?_); refine goesL_ (some 32) rfl rfl Tryz.func39 (by kernel_rfl) rfl #[.string (⟨#[67, 68, 69, 70, 74]⟩ : ByteArray), .int .u8 a1] rfl argA ?_; (with_reducible refine (tallboyref27_has.calls k (⟨#[67, 68, 69, 70, 74]⟩ : ByteArray) a1 true _ A11.out).mono ?_); rintro e w' ⟨rfl, ⟨nd, rfl⟩⟩; refine ⟨_, rfl, ?_⟩) | ((with_reducible refine gate_callee (f := 41) rfl ?_); refine goesL_ (some 36) rfl rfl Tryz.func41 (by kernel_rfl) rfl #[.string t224] rfl argA ?_; (with_reducible refine (tallboyref02_Parse.calls k t224 t230 t231 _ A13.out).mono ?_); rintro e w' ⟨rfl, ⟨nd, rfl⟩⟩; refine ⟨_, rfl, ?_⟩))
     go_ret3
     exact ⟨reA, hbA HB.out⟩
   replace c12 := Bool.eq_false_iff.mpr c12
   subst c12
   have H1 : (some (0, 0, false)) = some (r1, r2, r3) := by rw [if_neg (show ¬ (false = true) by decide)] at H; exact H
   clear H
   have H := H1
   clear H1
   simp only [Option.some.injEq, Prod.mk.injEq] at H
   obtain ⟨rfl, rfl, rfl⟩ := H
   go_enter Tryz.func14, Tryz.ntmps14
   go_wp2_with (first | ((with_reducible refine gate_dst (N := 2) rfl ?_); refine box_event ?hg (N := 2) ?hd (cs := #[.int .i64 a0_0, .string a0_1, .int .i64 a0_2, .slice A0_3 l0_3.length c0_3]) (t := 24) ?hr ?_; (case hd => rfl); (case hg => rfl); (case hr => first | (go_simp; done) | (go_simp; rfl)); intro gb223 hg w25 hbox hb; have n0_ := Aside0.mk (below_step (hbA HB.out) hb); have n1_ := Aside0.mk (hbox); have n2_ := Aside0.mk ((by rw [hg]; exact (below_size (hbA HB.out)) : w.heap.size ≤ gb223)); have n3_ := Aside0.mk ((by rw [hg]; exact (below_size (hbA HB.out)) : w.heap.size ≤ gb223)); clear HB; have HB := n0_; have BK223 := n1_; have GW223 := n2_; have GE223 := n3_; clear n0_ n1_ n2_ n3_; clear hb hbox hg; obtain ⟨hcz26_0, hcz26_1, hcz26_2, hcz26_3, hfz26_0, hfz26_1, hfz26_2, hfz26_3⟩ := blkA4 BK223.out) | ((with_reducible refine gate_callee (f := 16) rfl ?_); refine goesL_ (some 16) rfl rfl Tryz.func16 (by kernel_rfl) rfl #[.agg #[.int .i64 a0_0, .string a0_1, .int .i64 a0_2, .slice A0_3 l0_3.length c0_3], .int .u8 a1] rfl argA ?_; (with_reducible refine (tallboyref27_Find.calls k a0_0 a0_1 a0_2 _ _ l0_3 a1 t224 true _ ?side1 ?side2 A3.out).mono ?_); (case side1 => repeat (first | exact (Kd.C_below HR0_3.out HB.out) | (with_reducible refine Kd.C_alloc ?_ _) | (with_reducible refine Kd.C_drewN ?_ _) | (with_reducible refine Kd.C_drew ?_))); (case side2 => exact HC0_3.out); rintro e w27 ⟨rfl, hb⟩; refine ⟨_, rfl, ?_⟩; replace BK223 := Aside0.mk (blk_below (g := gb223) (o := .cells #[.int .i64 a0_0, .string a0_1, .int .i64 a0_2, .slice A0_3 l0_3.length c0_3] 24 (0, 0)) (rbA BK223.out) hb); replace HB := Aside0.mk (below_step (hbA HB.out) hb); (try clear hb); (try clear hb2); (try clear hk); (try clear hi)) | ((with_reducible refine gate_callee (f := 39) rfl ?_); refine goesL_ (some 22) rfl rfl Tryz.func39 (by kernel_rfl) rfl #[.string (⟨#[78, 82, 84]⟩ : ByteArray), .int .u8 a1] rfl argA ?_; (with_reducible refine (tallboyref27_has.calls k (⟨#[78, 82, 84]⟩ : ByteArray) a1 false _ A5.out).mono ?_); rintro e w' ⟨rfl, ⟨nd, rfl⟩⟩; refine ⟨_, rfl, ?_⟩) | ((with_reducible refine gate_callee (f := 39) rfl ?_); refine goesL_ (some 32) rfl rfl Tryz.func39 (by kernel_rfl) rfl #[.string (⟨#[67, 68, 69, 70, 74]⟩ : ByteArray), .int .u8 a1] rfl argA ?_; (with_reducible refine (tallboyref27_has.calls k (⟨#[67, 68, 69, 70, 74]⟩ : ByteArray) a1 false _ A11.out).mono ?_); rintro e w' ⟨rfl, ⟨nd, rfl⟩⟩; refine ⟨_, rfl, ?_⟩))
   go_ret3
   exact ⟨reA, hbA HB.out⟩
 replace c4 := Bool.eq_false_iff.mpr c4
 subst c4
 have H1 : (some (0, 0, false)) = some (r1, r2, r3) := by rw [if_neg (show ¬ (false = true) by decide)] at H; exact H
 clear H
 have H := H1
 clear H1
 simp only [Option.some.injEq, Prod.mk.injEq] at H
 obtain ⟨rfl, rfl, rfl⟩ := H
 go_enter Tryz.func14, Tryz.ntmps14
 go_wp2_with (first | ((with_reducible refine gate_dst (N := 2) rfl ?_); refine box_event ?hg (N := 2) ?hd (cs := #[.int .i64 a0_0, .string a0_1, .int .i64 a0_2, .slice A0_3 l0_3.length c0_3]) (t := 24) ?hr ?_; (case hd => rfl); (case hg => rfl); (case hr => first | (go_simp; done) | (go_simp; rfl)); intro gb223 hg w28 hbox hb; have n0_ := Aside0.mk (below_step (hbA HB.out) hb); have n1_ := Aside0.mk (hbox); have n2_ := Aside0.mk ((by rw [hg]; exact (below_size (hbA HB.out)) : w.heap.size ≤ gb223)); have n3_ := Aside0.mk ((by rw [hg]; exact (below_size (hbA HB.out)) : w.heap.size ≤ gb223)); clear HB; have HB := n0_; have BK223 := n1_; have GW223 := n2_; have GE223 := n3_; clear n0_ n1_ n2_ n3_; clear hb hbox hg; obtain ⟨hcz29_0, hcz29_1, hcz29_2, hcz29_3, hfz29_0, hfz29_1, hfz29_2, hfz29_3⟩ := blkA4 BK223.out) | ((with_reducible refine gate_callee (f := 16) rfl ?_); refine goesL_ (some 16) rfl rfl Tryz.func16 (by kernel_rfl) rfl #[.agg #[.int .i64 a0_0, .string a0_1, .int .i64 a0_2, .slice A0_3 l0_3.length c0_3], .int .u8 a1] rfl argA ?_; (with_reducible refine (tallboyref27_Find.calls k a0_0 a0_1 a0_2 _ _ l0_3 a1 t224 false _ ?side1 ?side2 A3.out).mono ?_); (case side1 => repeat (first | exact (Kd.C_below HR0_3.out HB.out) | (with_reducible refine Kd.C_alloc ?_ _) | (with_reducible refine Kd.C_drewN ?_ _) | (with_reducible refine Kd.C_drew ?_))); (case side2 => exact HC0_3.out); rintro e w30 ⟨rfl, hb⟩; refine ⟨_, rfl, ?_⟩; replace BK223 := Aside0.mk (blk_below (g := gb223) (o := .cells #[.int .i64 a0_0, .string a0_1, .int .i64 a0_2, .slice A0_3 l0_3.length c0_3] 24 (0, 0)) (rbA BK223.out) hb); replace HB := Aside0.mk (below_step (hbA HB.out) hb); (try clear hb); (try clear hb2); (try clear hk); (try clear hi)))
 go_ret3
 exact ⟨reA, hbA HB.out⟩

def meta_Check.f (k : Nat) (a0_0 : Int) (a0_1 : ByteArray) (a0_2 : Int) (l0_3 : List (S61)) : Option (Int) := (meta_shape.f k a0_0 a0_1 a0_2 l0_3).bind fun t233 => (if t233 = 0 then (if a0_2 > 2000 then (some 1) else (some 0)) else (some t233))
theorem meta_Check.mono : ∀ a0 a1 a2 a3 k, LeO (meta_Check.f k a0 a1 a2 a3) (meta_Check.f (k + 1) a0 a1 a2 a3) := by
 intro a0 a1 a2 a3 k
 unfold meta_Check.f
 repeat' first
  | (with_reducible exact meta_shape.mono _ _ _ _ _)
  | (with_reducible exact LeO.refl _)
  | (with_reducible exact LeO.none _)
  | (with_reducible refine LeO.ite ?_ ?_)
  | (with_reducible refine LeO.bind ?_ (fun _ => ?_))
  | exact meta_shape.mono _ _ _ _ _
  | exact LeO.none _
  | refine LeO.ite ?_ ?_
  | refine LeO.bind ?_ (fun _ => ?_)
set_option maxHeartbeats 8000000 in
set_option maxRecDepth 100000 in
theorem meta_Check.calls (k : Nat) (a0_0 : Int) (a0_1 : ByteArray) (a0_2 : Int) (A0_3 : Option Addr) (c0_3 : Nat) (l0_3 : List (S61)) (r : Int) (w : World) (hr0_3 : Kd.C k61 w A0_3 l0_3.length l0_3) (hc0_3 : l0_3.length ≤ c0_3) (hv : Vars w) (h : meta_Check.f k a0_0 a0_1 a0_2 l0_3 = some r) :
 Calls Tryz.prog 17 #[.agg #[.int .i64 a0_0, .string a0_1, .int .i64 a0_2, .slice A0_3 l0_3.length c0_3]] w fun e w' => e = .returned (.int .i64 r) ∧ Below w.heap.size w w' := by
 have hu31 := Tryz.underlying31
 have HV := Aside0.mk hv
 clear hv
 have HR0_3 := Aside0.mk hr0_3
 have HC0_3 := Aside0.mk hc0_3
 clear hr0_3 hc0_3
 have HB := Aside0.mk (Below.refl w.heap.size w)
 have H : ((meta_shape.f k a0_0 a0_1 a0_2 l0_3).bind fun t233 => (if t233 = 0 then (if a0_2 > 2000 then (some 1) else (some 0)) else (some t233))) = some r := h
 clear h
 replace H := Option.bind_eq_some_iff.mp H
 obtain ⟨t233, A20, H⟩ := H
 replace H : (if t233 = 0 then (if a0_2 > 2000 then (some 1) else (some 0)) else (some t233)) = some r := H
 have A2 := Aside0.mk A20
 clear A20
 by_cases c3 : t233 = 0
 · rw [if_pos c3] at H
   have c3b0 : (t233 == 0) = true := beq_iff_eq.mpr c3
   have c3b1 : (t233 != 0) = false := bne_eq_false_iff_eq.mpr c3
   clear c3
   by_cases c4 : a0_2 > 2000
   · rw [if_pos c4] at H
     have c4b0 : decide (2000 < a0_2) = true := decide_eq_true c4
     clear c4
     obtain rfl := Option.some.inj H
     go_enter Tryz.func17, Tryz.ntmps17
     go_wp2_with (first | ((with_reducible refine gate_dst (N := 1) rfl ?_); refine box_event ?hg (N := 1) ?hd (cs := #[.int .i64 a0_0, .string a0_1, .int .i64 a0_2, .slice A0_3 l0_3.length c0_3]) (t := 31) ?hr ?_; (case hd => rfl); (case hg => rfl); (case hr => first | (go_simp; done) | (go_simp; rfl)); intro gb232 hg w5 hbox hb; have n0_ := Aside0.mk (below_step (hbA HB.out) hb); have n1_ := Aside0.mk (hbox); have n2_ := Aside0.mk ((by rw [hg]; exact (below_size (hbA HB.out)) : w.heap.size ≤ gb232)); have n3_ := Aside0.mk ((by rw [hg]; exact (below_size (hbA HB.out)) : w.heap.size ≤ gb232)); clear HB; have HB := n0_; have BK232 := n1_; have GW232 := n2_; have GE232 := n3_; clear n0_ n1_ n2_ n3_; clear hb hbox hg; obtain ⟨hcz6_0, hcz6_1, hcz6_2, hcz6_3, hfz6_0, hfz6_1, hfz6_2, hfz6_3⟩ := blkA4 BK232.out) | ((with_reducible refine gate_callee (f := 28) rfl ?_); refine goesL_ (some 5) rfl rfl Tryz.func28 (by kernel_rfl) rfl #[.agg #[.int .i64 a0_0, .string a0_1, .int .i64 a0_2, .slice A0_3 l0_3.length c0_3]] rfl argA ?_; (with_reducible refine (meta_shape.calls k a0_0 a0_1 a0_2 _ _ l0_3 t233 _ ?side1 ?side2 ?side3 A2.out).mono ?_); (case side1 => repeat (first | exact (Kd.C_below HR0_3.out HB.out) | (with_reducible refine Kd.C_alloc ?_ _) | (with_reducible refine Kd.C_drewN ?_ _) | (with_reducible refine Kd.C_drew ?_))); (case side2 => exact HC0_3.out); (case side3 => exact Vars.below HV.out (hbA HB.out)); rintro e w7 ⟨rfl, hb⟩; refine ⟨_, rfl, ?_⟩; replace BK232 := Aside0.mk (blk_below (g := gb232) (o := .cells #[.int .i64 a0_0, .string a0_1, .int .i64 a0_2, .slice A0_3 l0_3.length c0_3] 31 (0, 0)) (rbA BK232.out) hb); replace HB := Aside0.mk (below_step (hbA HB.out) hb); (try clear hb); (try clear hb2); (try clear hk); (try clear hi); obtain ⟨hcz8_0, hcz8_1, hcz8_2, hcz8_3, hfz8_0, hfz8_1, hfz8_2, hfz8_3⟩ := blkA4 BK232.out))
     go_ret
     exact ⟨reA, hbA HB.out⟩
   rw [if_neg c4] at H
   have c4b0 : decide (2000 < a0_2) = false := decide_eq_false c4
   clear c4
   obtain rfl := Option.some.inj H
   go_enter Tryz.func17, Tryz.ntmps17
   go_wp2_with (first | ((with_reducible refine gate_dst (N := 1) rfl ?_); refine box_event ?hg (N := 1) ?hd (cs := #[.int .i64 a0_0, .string a0_1, .int .i64 a0_2, .slice A0_3 l0_3.length c0_3]) (t := 31) ?hr ?_; (case hd => rfl); (case hg => rfl); (case hr => first | (go_simp; done) | (go_simp; rfl)); intro gb232 hg w9 hbox hb; have n0_ := Aside0.mk (below_step (hbA HB.out) hb); have n1_ := Aside0.mk (hbox); have n2_ := Aside0.mk ((by rw [hg]; exact (below_size (hbA HB.out)) : w.heap.size ≤ gb232)); have n3_ := Aside0.mk ((by rw [hg]; exact (below_size (hbA HB.out)) : w.heap.size ≤ gb232)); clear HB; have HB := n0_; have BK232 := n1_; have GW232 := n2_; have GE232 := n3_; clear n0_ n1_ n2_ n3_; clear hb hbox hg; obtain ⟨hcz10_0, hcz10_1, hcz10_2, hcz10_3, hfz10_0, hfz10_1, hfz10_2, hfz10_3⟩ := blkA4 BK232.out) | ((with_reducible refine gate_callee (f := 28) rfl ?_); refine goesL_ (some 5) rfl rfl Tryz.func28 (by kernel_rfl) rfl #[.agg #[.int .i64 a0_0, .string a0_1, .int .i64 a0_2, .slice A0_3 l0_3.length c0_3]] rfl argA ?_; (with_reducible refine (meta_shape.calls k a0_0 a0_1 a0_2 _ _ l0_3 t233 _ ?side1 ?side2 ?side3 A2.out).mono ?_); (case side1 => repeat (first | exact (Kd.C_below HR0_3.out HB.out) | (with_reducible refine Kd.C_alloc ?_ _) | (with_reducible refine Kd.C_drewN ?_ _) | (with_reducible refine Kd.C_drew ?_))); (case side2 => exact HC0_3.out); (case side3 => exact Vars.below HV.out (hbA HB.out)); rintro e w11 ⟨rfl, hb⟩; refine ⟨_, rfl, ?_⟩; replace BK232 := Aside0.mk (blk_below (g := gb232) (o := .cells #[.int .i64 a0_0, .string a0_1, .int .i64 a0_2, .slice A0_3 l0_3.length c0_3] 31 (0, 0)) (rbA BK232.out) hb); replace HB := Aside0.mk (below_step (hbA HB.out) hb); (try clear hb); (try clear hb2); (try clear hk); (try clear hi); obtain ⟨hcz12_0, hcz12_1, hcz12_2, hcz12_3, hfz12_0, hfz12_1, hfz12_2, hfz12_3⟩ := blkA4 BK232.out))
   go_ret
   exact ⟨reA, hbA HB.out⟩
 rw [if_neg c3] at H
 have c3b0 : (t233 == 0) = false := beq_eq_false_iff_ne.mpr c3
 have c3b1 : (t233 != 0) = true := bne_iff_ne.mpr c3
 obtain rfl := Option.some.inj H
 go_enter Tryz.func17, Tryz.ntmps17
 go_wp2_with (first | ((with_reducible refine gate_dst (N := 1) rfl ?_); refine box_event ?hg (N := 1) ?hd (cs := #[.int .i64 a0_0, .string a0_1, .int .i64 a0_2, .slice A0_3 l0_3.length c0_3]) (t := 31) ?hr ?_; (case hd => rfl); (case hg => rfl); (case hr => first | (go_simp; done) | (go_simp; rfl)); intro gb232 hg w13 hbox hb; have n0_ := Aside0.mk (below_step (hbA HB.out) hb); have n1_ := Aside0.mk (hbox); have n2_ := Aside0.mk ((by rw [hg]; exact (below_size (hbA HB.out)) : w.heap.size ≤ gb232)); have n3_ := Aside0.mk ((by rw [hg]; exact (below_size (hbA HB.out)) : w.heap.size ≤ gb232)); clear HB; have HB := n0_; have BK232 := n1_; have GW232 := n2_; have GE232 := n3_; clear n0_ n1_ n2_ n3_; clear hb hbox hg; obtain ⟨hcz14_0, hcz14_1, hcz14_2, hcz14_3, hfz14_0, hfz14_1, hfz14_2, hfz14_3⟩ := blkA4 BK232.out) | ((with_reducible refine gate_callee (f := 28) rfl ?_); refine goesL_ (some 5) rfl rfl Tryz.func28 (by kernel_rfl) rfl #[.agg #[.int .i64 a0_0, .string a0_1, .int .i64 a0_2, .slice A0_3 l0_3.length c0_3]] rfl argA ?_; (with_reducible refine (meta_shape.calls k a0_0 a0_1 a0_2 _ _ l0_3 t233 _ ?side1 ?side2 ?side3 A2.out).mono ?_); (case side1 => repeat (first | exact (Kd.C_below HR0_3.out HB.out) | (with_reducible refine Kd.C_alloc ?_ _) | (with_reducible refine Kd.C_drewN ?_ _) | (with_reducible refine Kd.C_drew ?_))); (case side2 => exact HC0_3.out); (case side3 => exact Vars.below HV.out (hbA HB.out)); rintro e w15 ⟨rfl, hb⟩; refine ⟨_, rfl, ?_⟩; replace BK232 := Aside0.mk (blk_below (g := gb232) (o := .cells #[.int .i64 a0_0, .string a0_1, .int .i64 a0_2, .slice A0_3 l0_3.length c0_3] 31 (0, 0)) (rbA BK232.out) hb); replace HB := Aside0.mk (below_step (hbA HB.out) hb); (try clear hb); (try clear hb2); (try clear hk); (try clear hi)))
 go_ret
 exact ⟨reA, hbA HB.out⟩

def tallboyref27_Check.f (k : Nat) (a0_0 : Int) (a0_1 : ByteArray) (a0_2 : Int) (l0_3 : List (S59)) : Option (Int) := (tallboyref27_form.f k a0_0 a0_1 a0_2 l0_3).bind fun t235 => (if t235 = 0 then (if a0_2 > 2000 then (some 1) else (some t235)) else (some t235))
theorem tallboyref27_Check.mono : ∀ a0 a1 a2 a3 k, LeO (tallboyref27_Check.f k a0 a1 a2 a3) (tallboyref27_Check.f (k + 1) a0 a1 a2 a3) := by
 intro a0 a1 a2 a3 k
 unfold tallboyref27_Check.f
 repeat' first
  | (with_reducible exact tallboyref27_form.mono _ _ _ _ _)
  | (with_reducible exact LeO.refl _)
  | (with_reducible exact LeO.none _)
  | (with_reducible refine LeO.ite ?_ ?_)
  | (with_reducible refine LeO.bind ?_ (fun _ => ?_))
  | exact tallboyref27_form.mono _ _ _ _ _
  | exact LeO.none _
  | refine LeO.ite ?_ ?_
  | refine LeO.bind ?_ (fun _ => ?_)
set_option maxHeartbeats 8000000 in
set_option maxRecDepth 100000 in
theorem tallboyref27_Check.calls (k : Nat) (a0_0 : Int) (a0_1 : ByteArray) (a0_2 : Int) (A0_3 : Option Addr) (c0_3 : Nat) (l0_3 : List (S59)) (r : Int) (w : World) (hr0_3 : Kd.C k59 w A0_3 l0_3.length l0_3) (hc0_3 : l0_3.length ≤ c0_3) (h : tallboyref27_Check.f k a0_0 a0_1 a0_2 l0_3 = some r) :
 Calls Tryz.prog 18 #[.agg #[.int .i64 a0_0, .string a0_1, .int .i64 a0_2, .slice A0_3 l0_3.length c0_3]] w fun e w' => e = .returned (.int .i64 r) ∧ Below w.heap.size w w' := by
 have hu24 := Tryz.underlying24
 have HR0_3 := Aside0.mk hr0_3
 have HC0_3 := Aside0.mk hc0_3
 clear hr0_3 hc0_3
 have HB := Aside0.mk (Below.refl w.heap.size w)
 have H : ((tallboyref27_form.f k a0_0 a0_1 a0_2 l0_3).bind fun t235 => (if t235 = 0 then (if a0_2 > 2000 then (some 1) else (some t235)) else (some t235))) = some r := h
 clear h
 replace H := Option.bind_eq_some_iff.mp H
 obtain ⟨t235, A20, H⟩ := H
 replace H : (if t235 = 0 then (if a0_2 > 2000 then (some 1) else (some t235)) else (some t235)) = some r := H
 have A2 := Aside0.mk A20
 clear A20
 by_cases c3 : t235 = 0
 · rw [if_pos c3] at H
   have c3b0 : (t235 == 0) = true := beq_iff_eq.mpr c3
   have c3b1 : (t235 != 0) = false := bne_eq_false_iff_eq.mpr c3
   clear c3
   by_cases c4 : a0_2 > 2000
   · rw [if_pos c4] at H
     have c4b0 : decide (2000 < a0_2) = true := decide_eq_true c4
     clear c4
     obtain rfl := Option.some.inj H
     go_enter Tryz.func18, Tryz.ntmps18
     go_wp2_with (first | ((with_reducible refine gate_dst (N := 1) rfl ?_); refine box_event ?hg (N := 1) ?hd (cs := #[.int .i64 a0_0, .string a0_1, .int .i64 a0_2, .slice A0_3 l0_3.length c0_3]) (t := 24) ?hr ?_; (case hd => rfl); (case hg => rfl); (case hr => first | (go_simp; done) | (go_simp; rfl)); intro gb234 hg w5 hbox hb; have n0_ := Aside0.mk (below_step (hbA HB.out) hb); have n1_ := Aside0.mk (hbox); have n2_ := Aside0.mk ((by rw [hg]; exact (below_size (hbA HB.out)) : w.heap.size ≤ gb234)); have n3_ := Aside0.mk ((by rw [hg]; exact (below_size (hbA HB.out)) : w.heap.size ≤ gb234)); clear HB; have HB := n0_; have BK234 := n1_; have GW234 := n2_; have GE234 := n3_; clear n0_ n1_ n2_ n3_; clear hb hbox hg; obtain ⟨hcz6_0, hcz6_1, hcz6_2, hcz6_3, hfz6_0, hfz6_1, hfz6_2, hfz6_3⟩ := blkA4 BK234.out) | ((with_reducible refine gate_callee (f := 32) rfl ?_); refine goesL_ (some 5) rfl rfl Tryz.func32 (by kernel_rfl) rfl #[.agg #[.int .i64 a0_0, .string a0_1, .int .i64 a0_2, .slice A0_3 l0_3.length c0_3]] rfl argA ?_; (with_reducible refine (tallboyref27_form.calls k a0_0 a0_1 a0_2 _ _ l0_3 t235 _ ?side1 ?side2 A2.out).mono ?_); (case side1 => repeat (first | exact (Kd.C_below HR0_3.out HB.out) | (with_reducible refine Kd.C_alloc ?_ _) | (with_reducible refine Kd.C_drewN ?_ _) | (with_reducible refine Kd.C_drew ?_))); (case side2 => exact HC0_3.out); rintro e w7 ⟨rfl, hb⟩; refine ⟨_, rfl, ?_⟩; replace BK234 := Aside0.mk (blk_below (g := gb234) (o := .cells #[.int .i64 a0_0, .string a0_1, .int .i64 a0_2, .slice A0_3 l0_3.length c0_3] 24 (0, 0)) (rbA BK234.out) hb); replace HB := Aside0.mk (below_step (hbA HB.out) hb); (try clear hb); (try clear hb2); (try clear hk); (try clear hi); obtain ⟨hcz8_0, hcz8_1, hcz8_2, hcz8_3, hfz8_0, hfz8_1, hfz8_2, hfz8_3⟩ := blkA4 BK234.out))
     go_ret
     exact ⟨reA, hbA HB.out⟩
   rw [if_neg c4] at H
   have c4b0 : decide (2000 < a0_2) = false := decide_eq_false c4
   clear c4
   obtain rfl := Option.some.inj H
   go_enter Tryz.func18, Tryz.ntmps18
   go_wp2_with (first | ((with_reducible refine gate_dst (N := 1) rfl ?_); refine box_event ?hg (N := 1) ?hd (cs := #[.int .i64 a0_0, .string a0_1, .int .i64 a0_2, .slice A0_3 l0_3.length c0_3]) (t := 24) ?hr ?_; (case hd => rfl); (case hg => rfl); (case hr => first | (go_simp; done) | (go_simp; rfl)); intro gb234 hg w9 hbox hb; have n0_ := Aside0.mk (below_step (hbA HB.out) hb); have n1_ := Aside0.mk (hbox); have n2_ := Aside0.mk ((by rw [hg]; exact (below_size (hbA HB.out)) : w.heap.size ≤ gb234)); have n3_ := Aside0.mk ((by rw [hg]; exact (below_size (hbA HB.out)) : w.heap.size ≤ gb234)); clear HB; have HB := n0_; have BK234 := n1_; have GW234 := n2_; have GE234 := n3_; clear n0_ n1_ n2_ n3_; clear hb hbox hg; obtain ⟨hcz10_0, hcz10_1, hcz10_2, hcz10_3, hfz10_0, hfz10_1, hfz10_2, hfz10_3⟩ := blkA4 BK234.out) | ((with_reducible refine gate_callee (f := 32) rfl ?_); refine goesL_ (some 5) rfl rfl Tryz.func32 (by kernel_rfl) rfl #[.agg #[.int .i64 a0_0, .string a0_1, .int .i64 a0_2, .slice A0_3 l0_3.length c0_3]] rfl argA ?_; (with_reducible refine (tallboyref27_form.calls k a0_0 a0_1 a0_2 _ _ l0_3 t235 _ ?side1 ?side2 A2.out).mono ?_); (case side1 => repeat (first | exact (Kd.C_below HR0_3.out HB.out) | (with_reducible refine Kd.C_alloc ?_ _) | (with_reducible refine Kd.C_drewN ?_ _) | (with_reducible refine Kd.C_drew ?_))); (case side2 => exact HC0_3.out); rintro e w11 ⟨rfl, hb⟩; refine ⟨_, rfl, ?_⟩; replace BK234 := Aside0.mk (blk_below (g := gb234) (o := .cells #[.int .i64 a0_0, .string a0_1, .int .i64 a0_2, .slice A0_3 l0_3.length c0_3] 24 (0, 0)) (rbA BK234.out) hb); replace HB := Aside0.mk (below_step (hbA HB.out) hb); (try clear hb); (try clear hb2); (try clear hk); (try clear hi); obtain ⟨hcz12_0, hcz12_1, hcz12_2, hcz12_3, hfz12_0, hfz12_1, hfz12_2, hfz12_3⟩ := blkA4 BK234.out))
   go_ret
   exact ⟨reA, hbA HB.out⟩
 rw [if_neg c3] at H
 have c3b0 : (t235 == 0) = false := beq_eq_false_iff_ne.mpr c3
 have c3b1 : (t235 != 0) = true := bne_iff_ne.mpr c3
 obtain rfl := Option.some.inj H
 go_enter Tryz.func18, Tryz.ntmps18
 go_wp2_with (first | ((with_reducible refine gate_dst (N := 1) rfl ?_); refine box_event ?hg (N := 1) ?hd (cs := #[.int .i64 a0_0, .string a0_1, .int .i64 a0_2, .slice A0_3 l0_3.length c0_3]) (t := 24) ?hr ?_; (case hd => rfl); (case hg => rfl); (case hr => first | (go_simp; done) | (go_simp; rfl)); intro gb234 hg w13 hbox hb; have n0_ := Aside0.mk (below_step (hbA HB.out) hb); have n1_ := Aside0.mk (hbox); have n2_ := Aside0.mk ((by rw [hg]; exact (below_size (hbA HB.out)) : w.heap.size ≤ gb234)); have n3_ := Aside0.mk ((by rw [hg]; exact (below_size (hbA HB.out)) : w.heap.size ≤ gb234)); clear HB; have HB := n0_; have BK234 := n1_; have GW234 := n2_; have GE234 := n3_; clear n0_ n1_ n2_ n3_; clear hb hbox hg; obtain ⟨hcz14_0, hcz14_1, hcz14_2, hcz14_3, hfz14_0, hfz14_1, hfz14_2, hfz14_3⟩ := blkA4 BK234.out) | ((with_reducible refine gate_callee (f := 32) rfl ?_); refine goesL_ (some 5) rfl rfl Tryz.func32 (by kernel_rfl) rfl #[.agg #[.int .i64 a0_0, .string a0_1, .int .i64 a0_2, .slice A0_3 l0_3.length c0_3]] rfl argA ?_; (with_reducible refine (tallboyref27_form.calls k a0_0 a0_1 a0_2 _ _ l0_3 t235 _ ?side1 ?side2 A2.out).mono ?_); (case side1 => repeat (first | exact (Kd.C_below HR0_3.out HB.out) | (with_reducible refine Kd.C_alloc ?_ _) | (with_reducible refine Kd.C_drewN ?_ _) | (with_reducible refine Kd.C_drew ?_))); (case side2 => exact HC0_3.out); rintro e w15 ⟨rfl, hb⟩; refine ⟨_, rfl, ?_⟩; replace BK234 := Aside0.mk (blk_below (g := gb234) (o := .cells #[.int .i64 a0_0, .string a0_1, .int .i64 a0_2, .slice A0_3 l0_3.length c0_3] 24 (0, 0)) (rbA BK234.out) hb); replace HB := Aside0.mk (below_step (hbA HB.out) hb); (try clear hb); (try clear hb2); (try clear hk); (try clear hi)))
 go_ret
 exact ⟨reA, hbA HB.out⟩

end
end Go.Proofs.YtfboejlemnfndaaGreatDoor.XMk
end
section
namespace Go.Proofs.YtfboejlemnfndaaGreatDoor.XMk
open Go.RowKit Go.Proofs.YtfboejlemnfndaaGreatDoorW.PrintWords Go.Proofs.YtfboejlemnfndaaGreatDoorW.PrintLast Go.Proofs.YtfboejlemnfndaaGreatDoorW.PrintMore
attribute [local go_sem] extract_sub max2_int min2_int max_two min_two max_three min_three max_four min_four   -- for this text's walks alone
set_option linter.unusedVariables false
set_option linter.unusedSimpArgs false

noncomputable section
attribute [local go_sem high] eqA59
mutual
def tallboyref27_Same.j0 : Nat → Bool → Int → ByteArray → Int → List (S59) → Int → ByteArray → Int → List (S59) → Option (Bool)
 | 0, _, _, _, _, _, _, _, _, _ => none
 | k + 1, x33, x237000, x237001, x237002, x237003, x238000, x238001, x238002, x238003 => if x33 = true then (some false) else (tallboyref27_Same.l0 k 0 x237000 x237001 x237002 x237003 x238000 x238001 x238002 x238003)
def tallboyref27_Same.l0 : Nat → Int → Int → ByteArray → Int → List (S59) → Int → ByteArray → Int → List (S59) → Option (Bool)
 | 0, _, _, _, _, _, _, _, _, _ => none
 | k + 1, x5, x237000, x237001, x237002, x237003, x238000, x238001, x238002, x238003 => if x5 < (x237003.length : Int) then (if 0 ≤ x5 then (if x5 < (x238003.length : Int) then (if (!(((rd_T59 x237003 x5).f0) == ((rd_T59 x238003 x5).f0)) || (!((((rd_T59 x237003 x5).f1).toList) == (((rd_T59 x238003 x5).f1).toList)))) = true then (some false) else (tallboyref27_Same.l0 k (wrap64 (x5 + 1)) x237000 x237001 x237002 x237003 x238000 x238001 x238002 x238003)) else (none)) else (none)) else (some true)
end
def tallboyref27_Same.f (k : Nat) (a0_0 : Int) (a0_1 : ByteArray) (a0_2 : Int) (l0_3 : List (S59)) (a1_0 : Int) (a1_1 : ByteArray) (a1_2 : Int) (l1_3 : List (S59)) : Option (Bool) := if a0_0 = a1_0 then (if a0_1.toList = a1_1.toList then (if a0_2 = a1_2 then (tallboyref27_Same.j0 k ((l0_3.length : Int) != (l1_3.length : Int)) a0_0 a0_1 a0_2 l0_3 a1_0 a1_1 a1_2 l1_3) else (tallboyref27_Same.j0 k true a0_0 a0_1 a0_2 l0_3 a1_0 a1_1 a1_2 l1_3)) else (tallboyref27_Same.j0 k true a0_0 a0_1 a0_2 l0_3 a1_0 a1_1 a1_2 l1_3)) else (tallboyref27_Same.j0 k true a0_0 a0_1 a0_2 l0_3 a1_0 a1_1 a1_2 l1_3)
theorem tallboyref27_Same.mono_l : ∀ k, (∀ y0 y1 y2 y3 y4 y5 y6 y7 y8, LeO (tallboyref27_Same.j0 k y0 y1 y2 y3 y4 y5 y6 y7 y8) (tallboyref27_Same.j0 (k + 1) y0 y1 y2 y3 y4 y5 y6 y7 y8)) ∧ (∀ y0 y1 y2 y3 y4 y5 y6 y7 y8, LeO (tallboyref27_Same.l0 k y0 y1 y2 y3 y4 y5 y6 y7 y8) (tallboyref27_Same.l0 (k + 1) y0 y1 y2 y3 y4 y5 y6 y7 y8))
 | 0 => ⟨fun _ _ _ _ _ _ _ _ _ r h => by simp [tallboyref27_Same.j0] at h, fun _ _ _ _ _ _ _ _ _ r h => by simp [tallboyref27_Same.l0] at h⟩
 | k + 1 => by
  obtain ⟨ih0, ih1⟩ := tallboyref27_Same.mono_l k
  refine ⟨?_, ?_⟩
  all_goals
   intros
   first | unfold tallboyref27_Same.j0 | unfold tallboyref27_Same.l0
   repeat' first
   | (with_reducible exact ih0 _ _ _ _ _ _ _ _ _)
   | (with_reducible exact ih1 _ _ _ _ _ _ _ _ _)
   | (with_reducible exact LeO.refl _)
   | (with_reducible exact LeO.none _)
   | (with_reducible refine LeO.ite ?_ ?_)
   | (with_reducible refine LeO.bind ?_ (fun _ => ?_))
   | exact ih0 _ _ _ _ _ _ _ _ _
   | exact ih1 _ _ _ _ _ _ _ _ _
   | exact LeO.none _
   | refine LeO.ite ?_ ?_
   | refine LeO.bind ?_ (fun _ => ?_)
theorem tallboyref27_Same.mono : ∀ a0 a1 a2 a3 a4 a5 a6 a7 k, LeO (tallboyref27_Same.f k a0 a1 a2 a3 a4 a5 a6 a7) (tallboyref27_Same.f (k + 1) a0 a1 a2 a3 a4 a5 a6 a7) := by
 intro a0 a1 a2 a3 a4 a5 a6 a7 k
 obtain ⟨ih0, ih1⟩ := tallboyref27_Same.mono_l k
 unfold tallboyref27_Same.f
 repeat' first
  | (with_reducible exact ih0 _ _ _ _ _ _ _ _ _)
  | (with_reducible exact ih1 _ _ _ _ _ _ _ _ _)
  | (with_reducible exact LeO.refl _)
  | (with_reducible exact LeO.none _)
  | (with_reducible refine LeO.ite ?_ ?_)
  | (with_reducible refine LeO.bind ?_ (fun _ => ?_))
  | exact ih0 _ _ _ _ _ _ _ _ _
  | exact ih1 _ _ _ _ _ _ _ _ _
  | exact LeO.none _
  | refine LeO.ite ?_ ?_
  | refine LeO.bind ?_ (fun _ => ?_)
set_option maxHeartbeats 8000000 in
set_option maxRecDepth 100000 in
theorem tallboyref27_Same.calls (k : Nat) (a0_0 : Int) (a0_1 : ByteArray) (a0_2 : Int) (A0_3 : Option Addr) (c0_3 : Nat) (l0_3 : List (S59)) (a1_0 : Int) (a1_1 : ByteArray) (a1_2 : Int) (A1_3 : Option Addr) (c1_3 : Nat) (l1_3 : List (S59)) (r : Bool) (w : World) (hr0_3 : Kd.C k59 w A0_3 l0_3.length l0_3) (hc0_3 : l0_3.length ≤ c0_3) (hr1_3 : Kd.C k59 w A1_3 l1_3.length l1_3) (hc1_3 : l1_3.length ≤ c1_3) (h : tallboyref27_Same.f k a0_0 a0_1 a0_2 l0_3 a1_0 a1_1 a1_2 l1_3 = some r) :
 Calls Tryz.prog 19 #[.agg #[.int .i64 a0_0, .string a0_1, .int .i64 a0_2, .slice A0_3 l0_3.length c0_3], .agg #[.int .i64 a1_0, .string a1_1, .int .i64 a1_2, .slice A1_3 l1_3.length c1_3]] w fun e w' => e = .returned (.bool r) ∧ Below w.heap.size w w' := by
 have hu24 := Tryz.underlying24
 have hu59 := Tryz.underlying59
 have HR0_3 := Aside0.mk hr0_3
 have HC0_3 := Aside0.mk hc0_3
 clear hr0_3 hc0_3
 have HR1_3 := Aside0.mk hr1_3
 have HC1_3 := Aside0.mk hc1_3
 clear hr1_3 hc1_3
 have HB := Aside0.mk (Below.refl w.heap.size w)
 have H : (if a0_0 = a1_0 then (if a0_1.toList = a1_1.toList then (if a0_2 = a1_2 then (tallboyref27_Same.j0 k ((l0_3.length : Int) != (l1_3.length : Int)) a0_0 a0_1 a0_2 l0_3 a1_0 a1_1 a1_2 l1_3) else (tallboyref27_Same.j0 k true a0_0 a0_1 a0_2 l0_3 a1_0 a1_1 a1_2 l1_3)) else (tallboyref27_Same.j0 k true a0_0 a0_1 a0_2 l0_3 a1_0 a1_1 a1_2 l1_3)) else (tallboyref27_Same.j0 k true a0_0 a0_1 a0_2 l0_3 a1_0 a1_1 a1_2 l1_3)) = some r := h
 clear h
 have HC3 := Aside0.mk H
 clear H
 go_enter Tryz.func19, Tryz.ntmps19
 go_upto_region 1 with (first | ((with_reducible refine gate_dst (N := 2) rfl ?_); (try (refine gate_guard (by rfl) ?_; dsimp only)); refine box_event ?hg (N := 2) ?hd (cs := #[.int .i64 a0_0, .string a0_1, .int .i64 a0_2, .slice A0_3 l0_3.length c0_3]) (t := 24) ?hr ?_; (case hd => rfl); (case hg => rfl); (case hr => first | (go_simp; done) | (go_simp; rfl)); intro gb236 hg w4 hbox hb; have n0_ := Aside0.mk (below_step (hbA HB.out) hb); have n1_ := Aside0.mk (hbox); have n2_ := Aside0.mk ((by rw [hg]; exact (below_size (hbA HB.out)) : w.heap.size ≤ gb236)); have n3_ := Aside0.mk ((by rw [hg]; exact (below_size (hbA HB.out)) : w.heap.size ≤ gb236)); clear HB; have HB := n0_; have BK236 := n1_; have GW236 := n2_; have GE236 := n3_; clear n0_ n1_ n2_ n3_; clear hb hbox hg) | ((with_reducible refine gate_dst (N := 3) rfl ?_); (try (refine gate_guard (by rfl) ?_; dsimp only)); refine box_event ?hg (N := 3) ?hd (cs := #[.int .i64 a1_0, .string a1_1, .int .i64 a1_2, .slice A1_3 l1_3.length c1_3]) (t := 24) ?hr ?_; (case hd => rfl); (case hg => rfl); (case hr => first | (go_simp; done) | (go_simp; rfl)); intro gb237 hg w5 hbox hb; have n0_ := Aside0.mk (blk_below (g := gb236) (o := .cells #[.int .i64 a0_0, .string a0_1, .int .i64 a0_2, .slice A0_3 l0_3.length c0_3] 24 (0, 0)) (rbA BK236.out) hb); have n1_ := Aside0.mk (below_step (hbA HB.out) hb); have n2_ := Aside0.mk (hbox); have n3_ := Aside0.mk ((by rw [hg]; exact (below_size (hbA HB.out)) : w.heap.size ≤ gb237)); have n4_ := Aside0.mk ((by rw [hg]; exact (below_size (hbA HB.out)) : w.heap.size ≤ gb237)); have n5_ := Aside0.mk ((by rw [hg]; exact Nat.ne_of_lt (blk_lt (g := gb236) (o := .cells #[.int .i64 a0_0, .string a0_1, .int .i64 a0_2, .slice A0_3 l0_3.length c0_3] 24 (0, 0)) (rbA BK236.out)) : gb236 ≠ gb237)); have n6_ := Aside0.mk ((by rw [hg]; exact Nat.ne_of_gt (blk_lt (g := gb236) (o := .cells #[.int .i64 a0_0, .string a0_1, .int .i64 a0_2, .slice A0_3 l0_3.length c0_3] 24 (0, 0)) (rbA BK236.out)) : gb237 ≠ gb236)); clear BK236; clear HB; have BK236 := n0_; have HB := n1_; have BK237 := n2_; have GW237 := n3_; have GE237 := n4_; have NB236_237 := n5_; have NB237_236 := n6_; clear n0_ n1_ n2_ n3_ n4_ n5_ n6_; clear hb hbox hg))
 repeat (go_quiet (first | ((with_reducible refine gate_dst (N := 2) rfl ?_); (try (refine gate_guard (by rfl) ?_; dsimp only)); refine box_event ?hg (N := 2) ?hd (cs := #[.int .i64 a0_0, .string a0_1, .int .i64 a0_2, .slice A0_3 l0_3.length c0_3]) (t := 24) ?hr ?_; (case hd => rfl); (case hg => rfl); (case hr => first | (go_simp; done) | (go_simp; rfl)); intro gb236 hg w4 hbox hb; have n0_ := Aside0.mk (below_step (hbA HB.out) hb); have n1_ := Aside0.mk (hbox); have n2_ := Aside0.mk ((by rw [hg]; exact (below_size (hbA HB.out)) : w.heap.size ≤ gb236)); have n3_ := Aside0.mk ((by rw [hg]; exact (below_size (hbA HB.out)) : w.heap.size ≤ gb236)); clear HB; have HB := n0_; have BK236 := n1_; have GW236 := n2_; have GE236 := n3_; clear n0_ n1_ n2_ n3_; clear hb hbox hg) | ((with_reducible refine gate_dst (N := 3) rfl ?_); (try (refine gate_guard (by rfl) ?_; dsimp only)); refine box_event ?hg (N := 3) ?hd (cs := #[.int .i64 a1_0, .string a1_1, .int .i64 a1_2, .slice A1_3 l1_3.length c1_3]) (t := 24) ?hr ?_; (case hd => rfl); (case hg => rfl); (case hr => first | (go_simp; done) | (go_simp; rfl)); intro gb237 hg w5 hbox hb; have n0_ := Aside0.mk (blk_below (g := gb236) (o := .cells #[.int .i64 a0_0, .string a0_1, .int .i64 a0_2, .slice A0_3 l0_3.length c0_3] 24 (0, 0)) (rbA BK236.out) hb); have n1_ := Aside0.mk (below_step (hbA HB.out) hb); have n2_ := Aside0.mk (hbox); have n3_ := Aside0.mk ((by rw [hg]; exact (below_size (hbA HB.out)) : w.heap.size ≤ gb237)); have n4_ := Aside0.mk ((by rw [hg]; exact (below_size (hbA HB.out)) : w.heap.size ≤ gb237)); have n5_ := Aside0.mk ((by rw [hg]; exact Nat.ne_of_lt (blk_lt (g := gb236) (o := .cells #[.int .i64 a0_0, .string a0_1, .int .i64 a0_2, .slice A0_3 l0_3.length c0_3] 24 (0, 0)) (rbA BK236.out)) : gb236 ≠ gb237)); have n6_ := Aside0.mk ((by rw [hg]; exact Nat.ne_of_gt (blk_lt (g := gb236) (o := .cells #[.int .i64 a0_0, .string a0_1, .int .i64 a0_2, .slice A0_3 l0_3.length c0_3] 24 (0, 0)) (rbA BK236.out)) : gb237 ≠ gb236)); clear BK236; clear HB; have BK236 := n0_; have HB := n1_; have BK237 := n2_; have GW237 := n3_; have GE237 := n4_; have NB236_237 := n5_; have NB237_236 := n6_; clear n0_ n1_ n2_ n3_ n4_ n5_ n6_; clear hb hbox hg)); go_upto_region 1 with (first | ((with_reducible refine gate_dst (N := 2) rfl ?_); (try (refine gate_guard (by rfl) ?_; dsimp only)); refine box_event ?hg (N := 2) ?hd (cs := #[.int .i64 a0_0, .string a0_1, .int .i64 a0_2, .slice A0_3 l0_3.length c0_3]) (t := 24) ?hr ?_; (case hd => rfl); (case hg => rfl); (case hr => first | (go_simp; done) | (go_simp; rfl)); intro gb236 hg w4 hbox hb; have n0_ := Aside0.mk (below_step (hbA HB.out) hb); have n1_ := Aside0.mk (hbox); have n2_ := Aside0.mk ((by rw [hg]; exact (below_size (hbA HB.out)) : w.heap.size ≤ gb236)); have n3_ := Aside0.mk ((by rw [hg]; exact (below_size (hbA HB.out)) : w.heap.size ≤ gb236)); clear HB; have HB := n0_; have BK236 := n1_; have GW236 := n2_; have GE236 := n3_; clear n0_ n1_ n2_ n3_; clear hb hbox hg) | ((with_reducible refine gate_dst (N := 3) rfl ?_); (try (refine gate_guard (by rfl) ?_; dsimp only)); refine box_event ?hg (N := 3) ?hd (cs := #[.int .i64 a1_0, .string a1_1, .int .i64 a1_2, .slice A1_3 l1_3.length c1_3]) (t := 24) ?hr ?_; (case hd => rfl); (case hg => rfl); (case hr => first | (go_simp; done) | (go_simp; rfl)); intro gb237 hg w5 hbox hb; have n0_ := Aside0.mk (blk_below (g := gb236) (o := .cells #[.int .i64 a0_0, .string a0_1, .int .i64 a0_2, .slice A0_3 l0_3.length c0_3] 24 (0, 0)) (rbA BK236.out) hb); have n1_ := Aside0.mk (below_step (hbA HB.out) hb); have n2_ := Aside0.mk (hbox); have n3_ := Aside0.mk ((by rw [hg]; exact (below_size (hbA HB.out)) : w.heap.size ≤ gb237)); have n4_ := Aside0.mk ((by rw [hg]; exact (below_size (hbA HB.out)) : w.heap.size ≤ gb237)); have n5_ := Aside0.mk ((by rw [hg]; exact Nat.ne_of_lt (blk_lt (g := gb236) (o := .cells #[.int .i64 a0_0, .string a0_1, .int .i64 a0_2, .slice A0_3 l0_3.length c0_3] 24 (0, 0)) (rbA BK236.out)) : gb236 ≠ gb237)); have n6_ := Aside0.mk ((by rw [hg]; exact Nat.ne_of_gt (blk_lt (g := gb236) (o := .cells #[.int .i64 a0_0, .string a0_1, .int .i64 a0_2, .slice A0_3 l0_3.length c0_3] 24 (0, 0)) (rbA BK236.out)) : gb237 ≠ gb236)); clear BK236; clear HB; have BK236 := n0_; have HB := n1_; have BK237 := n2_; have GW237 := n3_; have GE237 := n4_; have NB236_237 := n5_; have NB237_236 := n6_; clear n0_ n1_ n2_ n3_ n4_ n5_ n6_; clear hb hbox hg)))
 (try simp only [Act.put, List.setIfInBounds_toArray, List.set_cons_zero, List.set_cons_succ])
 go_cut [33] (fun v33 wc => ∃ (kq : Nat) (x33_2 : Bool), v33 = .bool x33_2 ∧ Aside0 (tallboyref27_Same.j0 kq x33_2 a0_0 a0_1 a0_2 l0_3 a1_0 a1_1 a1_2 l1_3 = some r) ∧ Aside0 (kq ≤ k) ∧ Aside0 (wc.heap[gb236]? = some (.cells #[.int .i64 a0_0, .string a0_1, .int .i64 a0_2, (.slice A0_3 l0_3.length c0_3)] 24 (0, 0))) ∧ Aside0 (wc.heap[gb237]? = some (.cells #[.int .i64 a1_0, .string a1_1, .int .i64 a1_2, (.slice A1_3 l1_3.length c1_3)] 24 (0, 0))) ∧ Aside0 (Below w.heap.size w wc))
 case first =>
  have H := HC3.out
  clear HC3
  by_cases c6 : a0_0 = a1_0
  · rw [if_pos c6] at H
    have c6b0 : (a0_0 == a1_0) = true := beq_iff_eq.mpr c6
    have c6b1 : (a0_0 != a1_0) = false := bne_eq_false_iff_eq.mpr c6
    clear c6
    (first | rw [c6b0] | (simp only [i64_w, i32_w]; rw [c6b0]) | skip)
    by_cases c7 : a0_1.toList = a1_1.toList
    · rw [if_pos c7] at H
      have c7b0 : (a0_1.toList == a1_1.toList) = true := beq_iff_eq.mpr c7
      have c7b1 : (a0_1.toList != a1_1.toList) = false := bne_eq_false_iff_eq.mpr c7
      clear c7
      by_cases c8 : a0_2 = a1_2
      · rw [if_pos c8] at H
        have c8b0 : (a0_2 == a1_2) = true := beq_iff_eq.mpr c8
        have c8b1 : (a0_2 != a1_2) = false := bne_eq_false_iff_eq.mpr c8
        clear c8
        have H' := Aside0.mk H
        clear H
        have hnb9 := NB236_237.out
        have hnc9 := NB237_236.out
        obtain ⟨hcz10_0, hcz10_1, hcz10_2, hcz10_3, hfz10_0, hfz10_1, hfz10_2, hfz10_3⟩ := blkA4 BK236.out
        obtain ⟨hcz11_0, hcz11_1, hcz11_2, hcz11_3, hfz11_0, hfz11_1, hfz11_2, hfz11_3⟩ := blkA4 BK237.out
        go_wp2
        repeat (go_quiet (fail); try go_wp2)
        go_meet
        case rel => exact ⟨_, (((l0_3.length : Int) != (l1_3.length : Int))), rsA, H', ⟨by first | omega | exact Nat.le_refl _⟩, ⟨rbA BK236.out⟩, ⟨rbA BK237.out⟩, ⟨hbA HB.out⟩⟩
      rw [if_neg c8] at H
      have c8b0 : (a0_2 == a1_2) = false := beq_eq_false_iff_ne.mpr c8
      have c8b1 : (a0_2 != a1_2) = true := bne_iff_ne.mpr c8
      have H' := Aside0.mk H
      clear H
      have hnb12 := NB236_237.out
      have hnc12 := NB237_236.out
      obtain ⟨hcz13_0, hcz13_1, hcz13_2, hcz13_3, hfz13_0, hfz13_1, hfz13_2, hfz13_3⟩ := blkA4 BK236.out
      obtain ⟨hcz14_0, hcz14_1, hcz14_2, hcz14_3, hfz14_0, hfz14_1, hfz14_2, hfz14_3⟩ := blkA4 BK237.out
      go_wp2
      repeat (go_quiet (fail); try go_wp2)
      go_meet
      case rel => exact ⟨_, (true), rsA, H', ⟨by first | omega | exact Nat.le_refl _⟩, ⟨rbA BK236.out⟩, ⟨rbA BK237.out⟩, ⟨hbA HB.out⟩⟩
    rw [if_neg c7] at H
    have c7b0 : (a0_1.toList == a1_1.toList) = false := beq_eq_false_iff_ne.mpr c7
    have c7b1 : (a0_1.toList != a1_1.toList) = true := bne_iff_ne.mpr c7
    have H' := Aside0.mk H
    clear H
    have hnb15 := NB236_237.out
    have hnc15 := NB237_236.out
    obtain ⟨hcz16_0, hcz16_1, hcz16_2, hcz16_3, hfz16_0, hfz16_1, hfz16_2, hfz16_3⟩ := blkA4 BK236.out
    obtain ⟨hcz17_0, hcz17_1, hcz17_2, hcz17_3, hfz17_0, hfz17_1, hfz17_2, hfz17_3⟩ := blkA4 BK237.out
    go_wp2
    repeat (go_quiet (fail); try go_wp2)
    go_meet
    case rel => exact ⟨_, (true), rsA, H', ⟨by first | omega | exact Nat.le_refl _⟩, ⟨rbA BK236.out⟩, ⟨rbA BK237.out⟩, ⟨hbA HB.out⟩⟩
  rw [if_neg c6] at H
  have c6b0 : (a0_0 == a1_0) = false := beq_eq_false_iff_ne.mpr c6
  have c6b1 : (a0_0 != a1_0) = true := bne_iff_ne.mpr c6
  (first | rw [c6b0] | (simp only [i64_w, i32_w]; rw [c6b0]) | skip)
  have H' := Aside0.mk H
  clear H
  have hnb18 := NB236_237.out
  have hnc18 := NB237_236.out
  obtain ⟨hcz19_0, hcz19_1, hcz19_2, hcz19_3, hfz19_0, hfz19_1, hfz19_2, hfz19_3⟩ := blkA4 BK236.out
  obtain ⟨hcz20_0, hcz20_1, hcz20_2, hcz20_3, hfz20_0, hfz20_1, hfz20_2, hfz20_3⟩ := blkA4 BK237.out
  go_wp2
  repeat (go_quiet (fail); try go_wp2)
  go_meet
  case rel => exact ⟨_, (true), rsA, H', ⟨by first | omega | exact Nat.le_refl _⟩, ⟨rbA BK236.out⟩, ⟨rbA BK237.out⟩, ⟨hbA HB.out⟩⟩
 clear HC3
 (try clear c1); (try clear p2); (try clear c6); (try clear c6b0); (try clear c6b1); (try clear c7); (try clear c7b0); (try clear c7b1); (try clear c8); (try clear c8b0); (try clear c8b1); (try clear c9); (try clear c12); (try clear c15); (try clear c18); (try clear c19); (try clear hcz10_0); (try clear hcz10_1); (try clear hcz10_2); (try clear hcz10_3); (try clear hcz11_0); (try clear hcz11_1); (try clear hcz11_2); (try clear hcz11_3); (try clear hcz13_0); (try clear hcz13_1); (try clear hcz13_2); (try clear hcz13_3); (try clear hcz14_0); (try clear hcz14_1); (try clear hcz14_2); (try clear hcz14_3); (try clear hcz16_0); (try clear hcz16_1); (try clear hcz16_2); (try clear hcz16_3); (try clear hcz17_0); (try clear hcz17_1); (try clear hcz17_2); (try clear hcz17_3); (try clear hcz19_0); (try clear hcz19_1); (try clear hcz19_2); (try clear hcz19_3); (try clear hcz20_0); (try clear hcz20_1); (try clear hcz20_2); (try clear hcz20_3); (try clear hfz10_0); (try clear hfz10_1); (try clear hfz10_2); (try clear hfz10_3); (try clear hfz11_0); (try clear hfz11_1); (try clear hfz11_2); (try clear hfz11_3); (try clear hfz13_0); (try clear hfz13_1); (try clear hfz13_2); (try clear hfz13_3); (try clear hfz14_0); (try clear hfz14_1); (try clear hfz14_2); (try clear hfz14_3); (try clear hfz16_0); (try clear hfz16_1); (try clear hfz16_2); (try clear hfz16_3); (try clear hfz17_0); (try clear hfz17_1); (try clear hfz17_2); (try clear hfz17_3); (try clear hfz19_0); (try clear hfz19_1); (try clear hfz19_2); (try clear hfz19_3); (try clear hfz20_0); (try clear hfz20_1); (try clear hfz20_2); (try clear hfz20_3)
 obtain ⟨kq, x33_2, rfl, HA, HJ2, BK236, BK237, HB⟩ := hcut
 cases kq with
 | zero => exact absurd HA.out (by simp [tallboyref27_Same.j0])
 | succ kj2 =>
  have H := HA.out
  clear HA
  simp only [tallboyref27_Same.j0] at H
  by_cases c21 : x33_2 = true
  · subst c21
    have H1 : (some false) = some r := by rw [if_pos rfl] at H; exact H
    clear H
    have H := H1
    clear H1
    obtain rfl := Option.some.inj H
    go_wp2
    repeat (go_quiet (fail); try go_wp2)
    go_ret
    exact ⟨reA, hbA HB.out⟩
  replace c21 := Bool.eq_false_iff.mpr c21
  subst c21
  have H1 : (tallboyref27_Same.l0 kj2 0 a0_0 a0_1 a0_2 l0_3 a1_0 a1_1 a1_2 l1_3) = some r := by rw [if_neg (show ¬ (false = true) by decide)] at H; exact H
  clear H
  have H := H1
  clear H1
  have H' := Aside0.mk H
  clear H
  go_wp2
  repeat (go_quiet (fail); try go_wp2)
  go_loopg [5] kj2 (fun kq v5 w' => ∃ (x5_2 : Int), v5 = .int .i64 x5_2 ∧ Aside0 (tallboyref27_Same.l0 kq x5_2 a0_0 a0_1 a0_2 l0_3 a1_0 a1_1 a1_2 l1_3 = some r) ∧ Aside0 (kq ≤ kj2) ∧ Aside0 (w'.heap[gb236]? = some (.cells #[.int .i64 a0_0, .string a0_1, .int .i64 a0_2, (.slice A0_3 l0_3.length c0_3)] 24 (0, 0))) ∧ Aside0 (w'.heap[gb237]? = some (.cells #[.int .i64 a1_0, .string a1_1, .int .i64 a1_2, (.slice A1_3 l1_3.length c1_3)] 24 (0, 0))) ∧ Aside0 (Below w.heap.size w w'))
  case atStart => exact ⟨(0), rsA, H', ⟨Nat.le_refl _⟩, ⟨rbA BK236.out⟩, ⟨rbA BK237.out⟩, ⟨hbA HB.out⟩⟩
  case round =>
   clear H'
   (try clear c1); (try clear c2); (try clear p2); (try clear c6); (try clear c6b0); (try clear c6b1); (try clear c7); (try clear c7b0); (try clear c7b1); (try clear c8); (try clear c8b0); (try clear c8b1); (try clear c9); (try clear c12); (try clear c15); (try clear c18); (try clear c19); (try clear c21); (try clear hcz10_0); (try clear hcz10_1); (try clear hcz10_2); (try clear hcz10_3); (try clear hcz11_0); (try clear hcz11_1); (try clear hcz11_2); (try clear hcz11_3); (try clear hcz13_0); (try clear hcz13_1); (try clear hcz13_2); (try clear hcz13_3); (try clear hcz14_0); (try clear hcz14_1); (try clear hcz14_2); (try clear hcz14_3); (try clear hcz16_0); (try clear hcz16_1); (try clear hcz16_2); (try clear hcz16_3); (try clear hcz17_0); (try clear hcz17_1); (try clear hcz17_2); (try clear hcz17_3); (try clear hcz19_0); (try clear hcz19_1); (try clear hcz19_2); (try clear hcz19_3); (try clear hcz20_0); (try clear hcz20_1); (try clear hcz20_2); (try clear hcz20_3); (try clear hfz10_0); (try clear hfz10_1); (try clear hfz10_2); (try clear hfz10_3); (try clear hfz11_0); (try clear hfz11_1); (try clear hfz11_2); (try clear hfz11_3); (try clear hfz13_0); (try clear hfz13_1); (try clear hfz13_2); (try clear hfz13_3); (try clear hfz14_0); (try clear hfz14_1); (try clear hfz14_2); (try clear hfz14_3); (try clear hfz16_0); (try clear hfz16_1); (try clear hfz16_2); (try clear hfz16_3); (try clear hfz17_0); (try clear hfz17_1); (try clear hfz17_2); (try clear hfz17_3); (try clear hfz19_0); (try clear hfz19_1); (try clear hfz19_2); (try clear hfz19_3); (try clear hfz20_0); (try clear hfz20_1); (try clear hfz20_2); (try clear hfz20_3); (try clear p2)
   obtain ⟨x5_2, rfl, HA, HK2, BK236, BK237, HB⟩ := hrel
   cases gk with
   | zero => exact absurd HA.out (by simp [tallboyref27_Same.l0])
   | succ k2 =>
    have H := HA.out
    clear HA
    simp only [tallboyref27_Same.l0] at H
    by_cases c22 : x5_2 < (l0_3.length : Int)
    · rw [if_pos c22] at H
      have c22b0 : decide (x5_2 < (l0_3.length : Int)) = true := decide_eq_true c22
      clear c22
      by_cases c23 : 0 ≤ x5_2
      · rw [if_pos c23] at H
        have c23b0 : decide (0 ≤ x5_2) = true := decide_eq_true c23
        clear c23
        by_cases c24 : x5_2 < (l1_3.length : Int)
        · rw [if_pos c24] at H
          have c24b0 : decide (x5_2 < (l1_3.length : Int)) = true := decide_eq_true c24
          clear c24
          by_cases c25 : (!(((rd_T59 l0_3 x5_2).f0) == ((rd_T59 l1_3 x5_2).f0)) || (!((((rd_T59 l0_3 x5_2).f1).toList) == (((rd_T59 l1_3 x5_2).f1).toList)))) = true
          · rw [if_pos c25] at H
            have c25b0 : (!(((rd_T59 l0_3 x5_2).f0) == ((rd_T59 l1_3 x5_2).f0)) || (!((((rd_T59 l0_3 x5_2).f1).toList) == (((rd_T59 l1_3 x5_2).f1).toList)))) = true := c25
            clear c25
            obtain rfl := Option.some.inj H
            have hnb26 := NB236_237.out
            have hnc26 := NB237_236.out
            obtain ⟨hcz27_0, hcz27_1, hcz27_2, hcz27_3, hfz27_0, hfz27_1, hfz27_2, hfz27_3⟩ := blkA4 BK236.out
            have p238 : 0 ≤ (x5_2 : Int) := of_decide_eq_true asA
            have q238 : x5_2 < (l0_3.length : Int) := of_decide_eq_true asA
            obtain ⟨ad238, e238, hx238_0, hx238_1⟩ := at_T59 HR0_3.out x5_2 p238 q238
            cases e238
            replace hx238_0 := (HB.out.cell (World.block_lt_of_cell? w _ hx238_0)).trans hx238_0
            replace hx238_1 := (HB.out.cell (World.block_lt_of_cell? w _ hx238_1)).trans hx238_1
            replace p238 := eq_true p238
            replace q238 := eq_true q238
            obtain ⟨hcz28_0, hcz28_1, hcz28_2, hcz28_3, hfz28_0, hfz28_1, hfz28_2, hfz28_3⟩ := blkA4 BK237.out
            have p239 : 0 ≤ (x5_2 : Int) := of_decide_eq_true asA
            have q239 : x5_2 < (l1_3.length : Int) := of_decide_eq_true asA
            obtain ⟨ad239, e239, hx239_0, hx239_1⟩ := at_T59 HR1_3.out x5_2 p239 q239
            cases e239
            replace hx239_0 := (HB.out.cell (World.block_lt_of_cell? w _ hx239_0)).trans hx239_0
            replace hx239_1 := (HB.out.cell (World.block_lt_of_cell? w _ hx239_1)).trans hx239_1
            replace p239 := eq_true p239
            replace q239 := eq_true q239
            go_wp2
            repeat (go_quiet (fail); try go_wp2)
            go_ret
            exact ⟨reA, hbA HB.out⟩
          rw [if_neg c25] at H
          have c25b0 : (!(((rd_T59 l0_3 x5_2).f0) == ((rd_T59 l1_3 x5_2).f0)) || (!((((rd_T59 l0_3 x5_2).f1).toList) == (((rd_T59 l1_3 x5_2).f1).toList)))) = false := by simpa using c25
          clear c25
          have H' := Aside0.mk H
          clear H
          have hnb29 := NB236_237.out
          have hnc29 := NB237_236.out
          obtain ⟨hcz30_0, hcz30_1, hcz30_2, hcz30_3, hfz30_0, hfz30_1, hfz30_2, hfz30_3⟩ := blkA4 BK236.out
          have p238 : 0 ≤ (x5_2 : Int) := of_decide_eq_true asA
          have q238 : x5_2 < (l0_3.length : Int) := of_decide_eq_true asA
          obtain ⟨ad238, e238, hx238_0, hx238_1⟩ := at_T59 HR0_3.out x5_2 p238 q238
          cases e238
          replace hx238_0 := (HB.out.cell (World.block_lt_of_cell? w _ hx238_0)).trans hx238_0
          replace hx238_1 := (HB.out.cell (World.block_lt_of_cell? w _ hx238_1)).trans hx238_1
          replace p238 := eq_true p238
          replace q238 := eq_true q238
          obtain ⟨hcz31_0, hcz31_1, hcz31_2, hcz31_3, hfz31_0, hfz31_1, hfz31_2, hfz31_3⟩ := blkA4 BK237.out
          have p239 : 0 ≤ (x5_2 : Int) := of_decide_eq_true asA
          have q239 : x5_2 < (l1_3.length : Int) := of_decide_eq_true asA
          obtain ⟨ad239, e239, hx239_0, hx239_1⟩ := at_T59 HR1_3.out x5_2 p239 q239
          cases e239
          replace hx239_0 := (HB.out.cell (World.block_lt_of_cell? w _ hx239_0)).trans hx239_0
          replace hx239_1 := (HB.out.cell (World.block_lt_of_cell? w _ hx239_1)).trans hx239_1
          replace p239 := eq_true p239
          replace q239 := eq_true q239
          go_wp2
          repeat (go_quiet (fail); try go_wp2)
          go_roundg k2
          case measure => have := HJ2.out; have := HK2.out; omega
          case rel => exact ⟨(wrap64 (x5_2 + 1)), rsA, H', ⟨by have := HJ2.out; have := HK2.out; omega⟩, ⟨rbA BK236.out⟩, ⟨rbA BK237.out⟩, ⟨hbA HB.out⟩⟩
        rw [if_neg c24] at H
        exact absurd H (by simp)
      rw [if_neg c23] at H
      exact absurd H (by simp)
    rw [if_neg c22] at H
    have c22b0 : decide (x5_2 < (l0_3.length : Int)) = false := decide_eq_false c22
    clear c22
    obtain rfl := Option.some.inj H
    have hnb32 := NB236_237.out
    have hnc32 := NB237_236.out
    obtain ⟨hcz33_0, hcz33_1, hcz33_2, hcz33_3, hfz33_0, hfz33_1, hfz33_2, hfz33_3⟩ := blkA4 BK236.out
    go_wp2
    repeat (go_quiet (fail); try go_wp2)
    go_ret
    exact ⟨reA, hbA HB.out⟩

end
end Go.Proofs.YtfboejlemnfndaaGreatDoor.XMk
end
section
namespace Go.Proofs.YtfboejlemnfndaaGreatDoor.XMk
open Go.RowKit Go.Proofs.YtfboejlemnfndaaGreatDoorW.PrintWords Go.Proofs.YtfboejlemnfndaaGreatDoorW.PrintLast Go.Proofs.YtfboejlemnfndaaGreatDoorW.PrintMore
attribute [local go_sem] extract_sub max2_int min2_int max_two min_two max_three min_three max_four min_four   -- for this text's walks alone
set_option linter.unusedVariables false
set_option linter.unusedSimpArgs false

noncomputable section
def tallboylaw27_From.l0 : Nat → Int → Int → ByteArray → Int → List (S61) → Int → ByteArray → Int → List (S59) → Option (Int × ByteArray × Int × (List (S59)))
 | 0, _, _, _, _, _, _, _, _, _ => none
 | k + 1, x4, x241000, x241001, x241002, x241003, x243000, x243001, x243002, x243003 => if x4 < (x241003.length : Int) then (if 0 ≤ x4 then (if x243003.length < 5864062014805 then (tallboylaw27_From.l0 k (wrap64 (x4 + 1)) x241000 x241001 x241002 x241003 x243000 x243001 x243002 (x243003 ++ [(⟨(rd_T61 x241003 x4).f0, (rd_T61 x241003 x4).f1⟩ : S59)])) else (none)) else (none)) else (some (x243000, x243001, x243002, x243003))
def tallboylaw27_From.f (k : Nat) (a0_0 : Int) (a0_1 : ByteArray) (a0_2 : Int) (l0_3 : List (S61)) : Option (Int × ByteArray × Int × (List (S59))) := tallboylaw27_From.l0 k 0 a0_0 a0_1 a0_2 l0_3 a0_0 a0_1 a0_2 ([] : List (S59))
theorem tallboylaw27_From.mono_l : ∀ k, (∀ y0 y1 y2 y3 y4 y5 y6 y7 y8, LeO (tallboylaw27_From.l0 k y0 y1 y2 y3 y4 y5 y6 y7 y8) (tallboylaw27_From.l0 (k + 1) y0 y1 y2 y3 y4 y5 y6 y7 y8))
 | 0 => fun _ _ _ _ _ _ _ _ _ r h => by simp [tallboylaw27_From.l0] at h
 | k + 1 => by
  have ih0 := tallboylaw27_From.mono_l k
  · intro y0 y1 y2 y3 y4 y5 y6 y7 y8
    unfold tallboylaw27_From.l0
    repeat' first
    | (with_reducible exact ih0 _ _ _ _ _ _ _ _ _)
    | (with_reducible exact LeO.refl _)
    | (with_reducible exact LeO.none _)
    | (with_reducible refine LeO.ite ?_ ?_)
    | (with_reducible refine LeO.bind ?_ (fun _ => ?_))
    | exact ih0 _ _ _ _ _ _ _ _ _
    | exact LeO.none _
    | refine LeO.ite ?_ ?_
    | refine LeO.bind ?_ (fun _ => ?_)
theorem tallboylaw27_From.mono : ∀ a0 a1 a2 a3 k, LeO (tallboylaw27_From.f k a0 a1 a2 a3) (tallboylaw27_From.f (k + 1) a0 a1 a2 a3) := by
 intro a0 a1 a2 a3 k
 have ih0 := tallboylaw27_From.mono_l k
 unfold tallboylaw27_From.f
 repeat' first
  | (with_reducible exact ih0 _ _ _ _ _ _ _ _ _)
  | (with_reducible exact LeO.refl _)
  | (with_reducible exact LeO.none _)
  | (with_reducible refine LeO.ite ?_ ?_)
  | (with_reducible refine LeO.bind ?_ (fun _ => ?_))
  | exact ih0 _ _ _ _ _ _ _ _ _
  | exact LeO.none _
  | refine LeO.ite ?_ ?_
  | refine LeO.bind ?_ (fun _ => ?_)
def tallboylaw27_From.T5 : Bool × List (List Nat × List Nat) := (true, [([], []), ([0], [0]), ([], []), ([2], [2]), ([], []), ([3, 4], [3, 4]), ([5], [5]), ([6], [6]), ([], []), ([8], [8]), ([], []), ([9, 10], [9, 10]), ([11], [11]), ([12], [12]), ([7, 13], [7, 13]), ([14], [14]), ([1, 15], [1, 15]), ([0, 1, 2, 3, 4, 5, 6, 7, 8, 9, 10, 11, 12, 13, 14, 15, 16], []), ([17, 16, 16, 0, 1, 2, 3, 4, 5, 6, 7, 8, 9, 10, 11, 12, 13, 14, 15, 16], [16, 17])])
def tallboylaw27_From.B5 : List Nat := [0, 1, 0, 4, 0, 28, 60, 124, 0, 256, 0, 1792, 3840, 7936, 16380, 32764, 65535, 131071, 262143]
theorem tallboylaw27_From.tab5 : rtab .any (opsOf Tryz.f20 5) = tallboylaw27_From.T5 := by kernel_rfl
theorem tallboylaw27_From.bits5 : waitsOk tallboylaw27_From.T5.2 tallboylaw27_From.B5 = true := by kernel_rfl
set_option maxHeartbeats 8000000 in
set_option maxRecDepth 100000 in
theorem tallboylaw27_From.calls (k : Nat) (a0_0 : Int) (a0_1 : ByteArray) (a0_2 : Int) (A0_3 : Option Addr) (c0_3 : Nat) (l0_3 : List (S61)) (r1 : Int) (r2 : ByteArray) (r3 : Int) (r4 : List (S59)) (w : World) (hr0_3 : Kd.C k61 w A0_3 l0_3.length l0_3) (hc0_3 : l0_3.length ≤ c0_3) (h : tallboylaw27_From.f k a0_0 a0_1 a0_2 l0_3 = some (r1, r2, r3, r4)) :
 Calls Tryz.prog 20 #[.agg #[.int .i64 a0_0, .string a0_1, .int .i64 a0_2, .slice A0_3 l0_3.length c0_3]] w fun e w' => ∃ v3_ : Value, e = .returned (.agg #[.int .i64 r1, .string r2, .int .i64 r3, v3_]) ∧ Kd.R k59 59 w' w.heap.size (fun _ => True) v3_ r4 ∧ Below w.heap.size w w' := by
 have hu31 := Tryz.underlying31
 have hu24 := Tryz.underlying24
 have hu59 := Tryz.underlying59
 have HR0_3 := Aside0.mk hr0_3
 have HC0_3 := Aside0.mk hc0_3
 clear hr0_3 hc0_3
 have HB := Aside0.mk (Below.refl w.heap.size w)
 have H : (tallboylaw27_From.l0 k 0 a0_0 a0_1 a0_2 l0_3 a0_0 a0_1 a0_2 ([] : List (S59))) = some (r1, r2, r3, r4) := h
 clear h
 have H' := Aside0.mk H
 clear H
 go_enter Tryz.func20, Tryz.ntmps20
 go_wp2_with (first | ((with_reducible refine gate_dst (N := 1) rfl ?_); refine box_event ?hg (N := 1) ?hd (cs := #[.int .i64 a0_0, .string a0_1, .int .i64 a0_2, .slice A0_3 l0_3.length c0_3]) (t := 31) ?hr ?_; (case hd => rfl); (case hg => rfl); (case hr => first | (go_simp; done) | (go_simp; rfl)); intro gb240 hg w2 hbox hb; have n0_ := Aside0.mk (below_step (hbA HB.out) hb); have n1_ := Aside0.mk (hbox); have n2_ := Aside0.mk ((by rw [hg]; exact (below_size (hbA HB.out)) : w.heap.size ≤ gb240)); have n3_ := Aside0.mk ((by rw [hg]; exact (below_size (hbA HB.out)) : w.heap.size ≤ gb240)); clear HB; have HB := n0_; have BK240 := n1_; have GW240 := n2_; have GE240 := n3_; clear n0_ n1_ n2_ n3_; clear hb hbox hg) | ((with_reducible refine gate_dst (N := 2) rfl ?_); refine box_event ?hg (N := 2) ?hd (cs := #[.int .i64 0, .string (⟨#[]⟩ : ByteArray), .int .i64 0, .slice none 0 0]) (t := 24) ?hr ?_; (case hd => rfl); (case hg => rfl); (case hr => first | (go_simp; done) | (go_simp; rfl)); intro gb241 hg w3 hbox hb; have n0_ := Aside0.mk (blk_below (g := gb240) (o := .cells #[.int .i64 a0_0, .string a0_1, .int .i64 a0_2, .slice A0_3 l0_3.length c0_3] 31 (0, 0)) (rbA BK240.out) hb); have n1_ := Aside0.mk (below_step (hbA HB.out) hb); have n2_ := Aside0.mk (hbox); have n3_ := Aside0.mk ((by rw [hg]; exact (below_size (hbA HB.out)) : w.heap.size ≤ gb241)); have n4_ := Aside0.mk ((by rw [hg]; exact (below_size (hbA HB.out)) : w.heap.size ≤ gb241)); have n5_ := Aside0.mk ((by rw [hg]; exact Nat.ne_of_lt (blk_lt (g := gb240) (o := .cells #[.int .i64 a0_0, .string a0_1, .int .i64 a0_2, .slice A0_3 l0_3.length c0_3] 31 (0, 0)) (rbA BK240.out)) : gb240 ≠ gb241)); have n6_ := Aside0.mk ((by rw [hg]; exact Nat.ne_of_gt (blk_lt (g := gb240) (o := .cells #[.int .i64 a0_0, .string a0_1, .int .i64 a0_2, .slice A0_3 l0_3.length c0_3] 31 (0, 0)) (rbA BK240.out)) : gb241 ≠ gb240)); clear BK240; clear HB; have BK240 := n0_; have HB := n1_; have BK241 := n2_; have GW241 := n3_; have GE241 := n4_; have NB240_241 := n5_; have NB241_240 := n6_; clear n0_ n1_ n2_ n3_ n4_ n5_ n6_; clear hb hbox hg; have hnb4 := NB240_241.out; have hnc4 := NB241_240.out; obtain ⟨hcz5_0, hcz5_1, hcz5_2, hcz5_3, hfz5_0, hfz5_1, hfz5_2, hfz5_3⟩ := blkA4 BK240.out) | ((with_reducible refine gate_dst (N := 3) rfl ?_); refine box_event ?hg (N := 3) ?hd (cs := #[.int .i64 0, .string (⟨#[]⟩ : ByteArray), .int .i64 0, .slice none 0 0]) (t := 24) ?hr ?_; (case hd => rfl); (case hg => rfl); (case hr => first | (go_simp; done) | (go_simp; rfl)); intro gb242 hg w6 hbox hb; have n0_ := Aside0.mk (blk_below (g := gb240) (o := .cells #[.int .i64 a0_0, .string a0_1, .int .i64 a0_2, .slice A0_3 l0_3.length c0_3] 31 (0, 0)) (rbA BK240.out) hb); have n1_ := Aside0.mk (blk_below (g := gb241) (o := .cells #[.int .i64 0, .string (⟨#[]⟩ : ByteArray), .int .i64 0, .slice none 0 0] 24 (0, 0)) (rbA BK241.out) hb); have n2_ := Aside0.mk (below_step (hbA HB.out) hb); have n3_ := Aside0.mk (hbox); have n4_ := Aside0.mk ((by rw [hg]; exact (below_size (hbA HB.out)) : w.heap.size ≤ gb242)); have n5_ := Aside0.mk ((by rw [hg]; exact (below_size (hbA HB.out)) : w.heap.size ≤ gb242)); have n6_ := Aside0.mk ((by rw [hg]; exact Nat.ne_of_lt (blk_lt (g := gb240) (o := .cells #[.int .i64 a0_0, .string a0_1, .int .i64 a0_2, .slice A0_3 l0_3.length c0_3] 31 (0, 0)) (rbA BK240.out)) : gb240 ≠ gb242)); have n7_ := Aside0.mk ((by rw [hg]; exact Nat.ne_of_gt (blk_lt (g := gb240) (o := .cells #[.int .i64 a0_0, .string a0_1, .int .i64 a0_2, .slice A0_3 l0_3.length c0_3] 31 (0, 0)) (rbA BK240.out)) : gb242 ≠ gb240)); have n8_ := Aside0.mk ((by rw [hg]; exact Nat.ne_of_lt (blk_lt (g := gb241) (o := .cells #[.int .i64 0, .string (⟨#[]⟩ : ByteArray), .int .i64 0, .slice none 0 0] 24 (0, 0)) (rbA BK241.out)) : gb241 ≠ gb242)); have n9_ := Aside0.mk ((by rw [hg]; exact Nat.ne_of_gt (blk_lt (g := gb241) (o := .cells #[.int .i64 0, .string (⟨#[]⟩ : ByteArray), .int .i64 0, .slice none 0 0] 24 (0, 0)) (rbA BK241.out)) : gb242 ≠ gb241)); clear BK240; clear BK241; clear HB; have BK240 := n0_; have BK241 := n1_; have HB := n2_; have BK242 := n3_; have GW242 := n4_; have GE242 := n5_; have NB240_242 := n6_; have NB242_240 := n7_; have NB241_242 := n8_; have NB242_241 := n9_; clear n0_ n1_ n2_ n3_ n4_ n5_ n6_ n7_ n8_ n9_; clear hb hbox hg; have hnb7 := NB242_240.out; have hnc7 := NB240_242.out; have hnb8 := NB242_241.out; have hnc8 := NB241_242.out; obtain ⟨hcz9_0, hcz9_1, hcz9_2, hcz9_3, hfz9_0, hfz9_1, hfz9_2, hfz9_3⟩ := blkA4 BK242.out))
 go_loopg [4] k (fun kq v4 w' => ∃ (x4_1 : Int) (x243003_1 : List (S59)) (u243003 : Value), v4 = .int .i64 x4_1 ∧ Aside0 (tallboylaw27_From.l0 kq x4_1 a0_0 a0_1 a0_2 l0_3 a0_0 a0_1 a0_2 x243003_1 = some (r1, r2, r3, r4)) ∧ Aside0 (kq ≤ k) ∧ Aside0 (Kd.R k59 59 w' w.heap.size (fun _ => True) u243003 x243003_1) ∧ Aside0 (w'.heap[gb240]? = some (.cells #[.int .i64 a0_0, .string a0_1, .int .i64 a0_2, (.slice A0_3 l0_3.length c0_3)] 31 (0, 0))) ∧ Aside0 (w'.heap[gb241]? = some (.cells #[.int .i64 0, .string (⟨#[]⟩ : ByteArray), .int .i64 0, (.slice none 0 0)] 24 (0, 0))) ∧ Aside0 (w'.heap[gb242]? = some (.cells #[.int .i64 a0_0, .string a0_1, .int .i64 a0_2, u243003] 24 (0, 0))) ∧ Aside0 (Below w.heap.size w w'))
 case atStart => exact ⟨(0), (([] : List (S59))), (.slice none 0 0), rsA, H', ⟨Nat.le_refl _⟩, ⟨knA⟩, ⟨by (with_reducible repeat (first | refine blk_drewN ?_ _ | refine blk_drew ?_ | refine blk_alloc ?_ _)); refine blk_far ?_ NB240_242.out _; (with_reducible repeat (first | refine blk_drewN ?_ _ | refine blk_drew ?_ | refine blk_alloc ?_ _)); refine blk_far ?_ NB240_242.out _; (with_reducible repeat (first | refine blk_drewN ?_ _ | refine blk_drew ?_ | refine blk_alloc ?_ _)); refine blk_far ?_ NB240_242.out _; (with_reducible repeat (first | refine blk_drewN ?_ _ | refine blk_drew ?_ | refine blk_alloc ?_ _)); refine blk_far ?_ NB240_242.out _; (with_reducible repeat (first | refine blk_drewN ?_ _ | refine blk_drew ?_ | refine blk_alloc ?_ _)); exact BK240.out⟩, ⟨by (with_reducible repeat (first | refine blk_drewN ?_ _ | refine blk_drew ?_ | refine blk_alloc ?_ _)); refine blk_far ?_ NB241_242.out _; (with_reducible repeat (first | refine blk_drewN ?_ _ | refine blk_drew ?_ | refine blk_alloc ?_ _)); refine blk_far ?_ NB241_242.out _; (with_reducible repeat (first | refine blk_drewN ?_ _ | refine blk_drew ?_ | refine blk_alloc ?_ _)); refine blk_far ?_ NB241_242.out _; (with_reducible repeat (first | refine blk_drewN ?_ _ | refine blk_drew ?_ | refine blk_alloc ?_ _)); refine blk_far ?_ NB241_242.out _; (with_reducible repeat (first | refine blk_drewN ?_ _ | refine blk_drew ?_ | refine blk_alloc ?_ _)); exact BK241.out⟩, ⟨by (with_reducible repeat (first | refine blk_drewN ?_ _ | refine blk_drew ?_ | refine blk_alloc ?_ _)); refine blk_put (cs := #[.int .i64 a0_0, .string a0_1, .int .i64 a0_2, .slice none 0 0]) ?_ 3 _ rfl; (with_reducible repeat (first | refine blk_drewN ?_ _ | refine blk_drew ?_ | refine blk_alloc ?_ _)); refine blk_put (cs := #[.int .i64 a0_0, .string a0_1, .int .i64 0, .slice none 0 0]) ?_ 2 _ rfl; (with_reducible repeat (first | refine blk_drewN ?_ _ | refine blk_drew ?_ | refine blk_alloc ?_ _)); refine blk_put (cs := #[.int .i64 a0_0, .string (⟨#[]⟩ : ByteArray), .int .i64 0, .slice none 0 0]) ?_ 1 _ rfl; (with_reducible repeat (first | refine blk_drewN ?_ _ | refine blk_drew ?_ | refine blk_alloc ?_ _)); refine blk_put (cs := #[.int .i64 0, .string (⟨#[]⟩ : ByteArray), .int .i64 0, .slice none 0 0]) ?_ 0 _ rfl; (with_reducible repeat (first | refine blk_drewN ?_ _ | refine blk_drew ?_ | refine blk_alloc ?_ _)); exact BK242.out⟩, ⟨hbA HB.out⟩⟩
 case round =>
  clear H'
  (try clear c2); (try clear p2); (try clear c4); (try clear c7); (try clear c8); (try clear hcz5_0); (try clear hcz5_1); (try clear hcz5_2); (try clear hcz5_3); (try clear hcz9_0); (try clear hcz9_1); (try clear hcz9_2); (try clear hcz9_3); (try clear hfz5_0); (try clear hfz5_1); (try clear hfz5_2); (try clear hfz5_3); (try clear hfz9_0); (try clear hfz9_1); (try clear hfz9_2); (try clear hfz9_3)
  obtain ⟨x4_1, x243003_1, u243003, rfl, HA, HK1, HO_243003, BK240, BK241, BK242, HB⟩ := hrel
  cases gk with
  | zero => exact absurd HA.out (by simp [tallboylaw27_From.l0])
  | succ k1 =>
   have H := HA.out
   clear HA
   simp only [tallboylaw27_From.l0] at H
   by_cases c10 : x4_1 < (l0_3.length : Int)
   · rw [if_pos c10] at H
     have c10b0 : decide (x4_1 < (l0_3.length : Int)) = true := decide_eq_true c10
     clear c10
     by_cases c11 : 0 ≤ x4_1
     · rw [if_pos c11] at H
       have c11b0 : decide (0 ≤ x4_1) = true := decide_eq_true c11
       clear c11
       by_cases c12 : x243003_1.length < 5864062014805
       · rw [if_pos c12] at H
         have LMc12 := Aside0.mk c12
         clear c12
         obtain ⟨y245, hy245⟩ : ∃ y_ : List (S59), y_ = (x243003_1 ++ [(⟨(rd_T61 l0_3 x4_1).f0, (rd_T61 l0_3 x4_1).f1⟩ : S59)]) := ⟨_, rfl⟩
         replace H : (tallboylaw27_From.l0 k1 (wrap64 (x4_1 + 1)) a0_0 a0_1 a0_2 l0_3 a0_0 a0_1 a0_2 y245) = some (r1, r2, r3, r4) := by first | (rw [hy245]; with_reducible exact H) | (have H2_ := (Option.bind_some _ _).symm.trans H; rw [hy245]; with_reducible exact H2_) | (have H2_ := (Option.bind_some _ _).symm.trans H; with_reducible exact H2_) | with_reducible exact H | (rw [hy245]; exact H) | exact H
         have Ny245 := Aside0.mk hy245
         clear hy245
         have H' := Aside0.mk H
         clear H
         have hnb13 := NB240_241.out
         have hnc13 := NB241_240.out
         have hnb14 := NB240_242.out
         have hnc14 := NB242_240.out
         obtain ⟨hcz15_0, hcz15_1, hcz15_2, hcz15_3, hfz15_0, hfz15_1, hfz15_2, hfz15_3⟩ := blkA4 BK240.out
         try go_wp2
         replace HO_243003 := Aside0.mk (Kd.R_drew HO_243003.out)
         replace BK240 := Aside0.mk (blk_drew BK240.out)
         replace BK241 := Aside0.mk (blk_drew BK241.out)
         replace BK242 := Aside0.mk (blk_drew BK242.out)
         replace HB := Aside0.mk (below_drew1 HB.out)
         have p243 : 0 ≤ (x4_1 : Int) := of_decide_eq_true asA
         have q243 : x4_1 < (l0_3.length : Int) := of_decide_eq_true asA
         obtain ⟨ad243, e243, hx243_0, hx243_1⟩ := at_T61 HR0_3.out x4_1 p243 q243
         have hw243_1 := hx243_1
         have hw243_0 := hx243_0
         cases e243
         replace hx243_0 := (HB.out.cell (World.block_lt_of_cell? w _ hx243_0)).trans hx243_0
         replace hx243_1 := (HB.out.cell (World.block_lt_of_cell? w _ hx243_1)).trans hx243_1
         replace p243 := eq_true p243
         replace q243 := eq_true q243
         have p244 : 0 ≤ (x4_1 : Int) := of_decide_eq_true asA
         have q244 : x4_1 < (l0_3.length : Int) := of_decide_eq_true asA
         obtain ⟨ad244, e244, hx244_0, hx244_1⟩ := at_T61 HR0_3.out x4_1 p244 q244
         have hw244_1 := hx244_1
         have hw244_0 := hx244_0
         obtain rfl : ad243 = ad244 := (by injection e244)
         replace hx244_0 := (HB.out.cell (World.block_lt_of_cell? w _ hx244_0)).trans hx244_0
         replace hx244_1 := (HB.out.cell (World.block_lt_of_cell? w _ hx244_1)).trans hx244_1
         replace p244 := eq_true p244
         replace q244 := eq_true q244
         refine start_ (n := 19) (S := fun w' => w'.cell? ⟨gb242, 0, none⟩ = some (.int .i64 a0_0) ∧ w'.cell? ⟨gb242, 1, none⟩ = some (.string a0_1) ∧ w'.cell? ⟨gb242, 2, none⟩ = some (.int .i64 a0_2) ∧ w'.cell? ⟨gb242, 3, none⟩ = some (u243003) ∧ w'.cell? ⟨gb240, 0, none⟩ = some (.int .i64 a0_0) ∧ w'.cell? ⟨gb240, 1, none⟩ = some (.string a0_1) ∧ w'.cell? ⟨gb240, 2, none⟩ = some (.int .i64 a0_2) ∧ w'.cell? ⟨gb240, 3, none⟩ = some (.slice (some ad243) l0_3.length c0_3) ∧ w'.cell? (ad243.add ((x4_1).toNat * 2)) = some (.int .u8 ((rd_T61 l0_3 x4_1).f0)) ∧ w'.cell? ⟨(ad243.add ((x4_1).toNat * 2)).block, (ad243.add ((x4_1).toNat * 2)).off + 1, none⟩ = some (.string ((rd_T61 l0_3 x4_1).f1)) ∧ w'.cell? (ad243.add ((x4_1).toNat * 2)) = some (.int .u8 ((rd_T61 l0_3 x4_1).f0)) ∧ w'.cell? ⟨(ad243.add ((x4_1).toNat * 2)).block, (ad243.add ((x4_1).toNat * 2)).off + 1, none⟩ = some (.string ((rd_T61 l0_3 x4_1).f1))) (ds := [18]) #[false, false, false, false, false, false, false, false, false, false, false, false, false, false, false, false, false, false, false] (by kernel_rfl) rfl rfl ⟨(blk_cell BK242.out 0).trans rfl, (blk_cell BK242.out 1).trans rfl, (blk_cell BK242.out 2).trans rfl, (blk_cell BK242.out 3).trans rfl, (blk_cell BK240.out 0).trans rfl, (blk_cell BK240.out 1).trans rfl, (blk_cell BK240.out 2).trans rfl, (blk_cell BK240.out 3).trans rfl, ((HB.out.cell (World.block_lt_of_cell? w _ hw243_0)).trans hw243_0), ((HB.out.cell (World.block_lt_of_cell? w _ hw243_1)).trans hw243_1), ((HB.out.cell (World.block_lt_of_cell? w _ hw244_0)).trans hw244_0), ((HB.out.cell (World.block_lt_of_cell? w _ hw244_1)).trans hw244_1)⟩ (fun hHeld => ?_); refine with_tabW tallboylaw27_From.tab5 tallboylaw27_From.bits5 (fun HT_ HW_ => ?_)
         generalize wr.drew = w16 at HO_243003 BK240 BK241 BK242 HB hx243_0 hx243_1 hx244_0 hx244_1 hHeld ⊢
         refine pureA_ (i := 0) (N := some 19) #[true, false, false, false, false, false, false, false, false, false, false, false, false, false, false, false, false, false, false] rfl rfl ?_ (hc := any_of HT_.out (by kernel_rfl))
         refine pureA_ (i := 2) (N := some 21) #[true, false, true, false, false, false, false, false, false, false, false, false, false, false, false, false, false, false, false] rfl rfl ?_ (hc := any_of HT_.out (by kernel_rfl))
         refine pureA_ (i := 4) (N := some 23) #[true, false, true, false, true, false, false, false, false, false, false, false, false, false, false, false, false, false, false] rfl rfl ?_ (hc := any_of HT_.out (by kernel_rfl))
         refine pureA_ (i := 8) (N := some 27) #[true, false, true, false, true, false, false, false, true, false, false, false, false, false, false, false, false, false, false] rfl rfl ?_ (hc := any_of HT_.out (by kernel_rfl))
         refine pureA_ (i := 10) (N := some 29) #[true, false, true, false, true, false, false, false, true, false, true, false, false, false, false, false, false, false, false] rfl rfl ?_ (hc := any_of HT_.out (by kernel_rfl))
         refine takeA_ (i := 1) (N := some 20) #[true, true, true, false, true, false, false, false, true, false, true, false, false, false, false, false, false, false, false] rfl rfl hHeld ?_ (hc := take_ofW HT_.out HW_.out (by kernel_rfl)) (hy := by rintro w' ⟨s0, s1, s2, s3, s4, s5, s6, s7, s8, s9, s10, s11⟩; go_simp; with_reducible rfl)
         refine takeA_ (i := 3) (N := some 22) #[true, true, true, true, true, false, false, false, true, false, true, false, false, false, false, false, false, false, false] rfl rfl hHeld ?_ (hc := take_ofW HT_.out HW_.out (by kernel_rfl)) (hy := by rintro w' ⟨s0, s1, s2, s3, s4, s5, s6, s7, s8, s9, s10, s11⟩; go_simp; with_reducible rfl)
         refine pureA_ (i := 5) (N := some 24) #[true, true, true, true, true, true, false, false, true, false, true, false, false, false, false, false, false, false, false] rfl rfl ?_ (hc := any_of HT_.out (by kernel_rfl))
         refine pureA_ (i := 6) (N := some 25) #[true, true, true, true, true, true, true, false, true, false, true, false, false, false, false, false, false, false, false] rfl rfl ?_ (hc := any_of HT_.out (by kernel_rfl))
         refine takeA_ (i := 7) (N := some 26) #[true, true, true, true, true, true, true, true, true, false, true, false, false, false, false, false, false, false, false] rfl rfl hHeld ?_ (hc := take_ofW HT_.out HW_.out (by kernel_rfl)) (hy := by rintro w' ⟨s0, s1, s2, s3, s4, s5, s6, s7, s8, s9, s10, s11⟩; go_simp; with_reducible rfl)
         refine takeA_ (i := 9) (N := some 28) #[true, true, true, true, true, true, true, true, true, true, true, false, false, false, false, false, false, false, false] rfl rfl hHeld ?_ (hc := take_ofW HT_.out HW_.out (by kernel_rfl)) (hy := by rintro w' ⟨s0, s1, s2, s3, s4, s5, s6, s7, s8, s9, s10, s11⟩; go_simp; with_reducible rfl)
         refine pureA_ (i := 11) (N := some 30) #[true, true, true, true, true, true, true, true, true, true, true, true, false, false, false, false, false, false, false] rfl rfl ?_ (hc := any_of HT_.out (by kernel_rfl))
         refine pureA_ (i := 12) (N := some 31) #[true, true, true, true, true, true, true, true, true, true, true, true, true, false, false, false, false, false, false] rfl rfl ?_ (hc := any_of HT_.out (by kernel_rfl))
         refine takeA_ (i := 13) (N := some 32) #[true, true, true, true, true, true, true, true, true, true, true, true, true, true, false, false, false, false, false] rfl rfl hHeld ?_ (hc := take_ofW HT_.out HW_.out (by kernel_rfl)) (hy := by rintro w' ⟨s0, s1, s2, s3, s4, s5, s6, s7, s8, s9, s10, s11⟩; go_simp; with_reducible rfl)
         refine pureA_ (i := 14) (N := some 33) #[true, true, true, true, true, true, true, true, true, true, true, true, true, true, true, false, false, false, false] rfl rfl ?_ (hc := any_of HT_.out (by kernel_rfl))
         refine one_ (i := 15) (N := some 34) #[true, true, true, true, true, true, true, true, true, true, true, true, true, true, true, true, false, false, false] rfl rfl (one_of HT_.out (by kernel_rfl)) (by decide) (fun K hK => ?_)
         refine value_ (w1 := ?_) (v := ?_) (by rfl) rfl ?_ ?_
         rotate_left 2
         · go_simp
           constructor
           · rfl
           rfl
         refine hK.out _ _ ⟨(blk_cell (blk_alloc BK242.out _) 0).trans rfl, (blk_cell (blk_alloc BK242.out _) 1).trans rfl, (blk_cell (blk_alloc BK242.out _) 2).trans rfl, (blk_cell (blk_alloc BK242.out _) 3).trans rfl, (blk_cell (blk_alloc BK240.out _) 0).trans rfl, (blk_cell (blk_alloc BK240.out _) 1).trans rfl, (blk_cell (blk_alloc BK240.out _) 2).trans rfl, (blk_cell (blk_alloc BK240.out _) 3).trans rfl, (World.cell?_alloc_lt _ _ _ (World.block_lt_of_cell? _ _ (((HB.out.cell (World.block_lt_of_cell? w _ hw243_0)).trans hw243_0)))).trans (((HB.out.cell (World.block_lt_of_cell? w _ hw243_0)).trans hw243_0)), (World.cell?_alloc_lt _ _ _ (World.block_lt_of_cell? _ _ (((HB.out.cell (World.block_lt_of_cell? w _ hw243_1)).trans hw243_1)))).trans (((HB.out.cell (World.block_lt_of_cell? w _ hw243_1)).trans hw243_1)), (World.cell?_alloc_lt _ _ _ (World.block_lt_of_cell? _ _ (((HB.out.cell (World.block_lt_of_cell? w _ hw244_0)).trans hw244_0)))).trans (((HB.out.cell (World.block_lt_of_cell? w _ hw244_0)).trans hw244_0)), (World.cell?_alloc_lt _ _ _ (World.block_lt_of_cell? _ _ (((HB.out.cell (World.block_lt_of_cell? w _ hw244_1)).trans hw244_1)))).trans (((HB.out.cell (World.block_lt_of_cell? w _ hw244_1)).trans hw244_1))⟩ (fun hHeld => ?_)
         clear hK K
         refine normA_ ?_
         refine one_ (i := 16) (N := some 35) #[true, true, true, true, true, true, true, true, true, true, true, true, true, true, true, true, true, false, false] rfl rfl (one_of HT_.out (by kernel_rfl)) (by decide) (fun K hK => ?_)
         refine Kd.R_append_step k59 (w0 := w) w.heap.size (by rfl) (.tmp 20) (.tmp 34) 22 59 (.agg #[(.int .u8 0), (.string ⟨#[]⟩)]) 24 rfl Tryz.underlying22 info59 rfl (by decide) (by omega) u243003 x243003_1 (⟨(rd_T61 l0_3 x4_1).f0, (rd_T61 l0_3 x4_1).f1⟩ : S59) [.int .u8 ((rd_T61 l0_3 x4_1).f0), .string ((rd_T61 l0_3 x4_1).f1)] (fun _ => True) (fun _ => False) rfl rfl ?aP (fun _ hk => hk.elim) ?aF ?aO ?aB ?aS ?aL ?_
         (case aP => exact k59_mkM _ _ _ (⟨(rd_T61 l0_3 x4_1).f0, (rd_T61 l0_3 x4_1).f1⟩ : S59))
         (case aB => exact (hbA HB.out))
         (case aF => exact (fun _ _ => trivial))
         (case aO => exact (rdA HO_243003.out))
         (case aS => exact (below_size (hbA HB.out)))
         (case aL => have := LMc12.out; omega)
         intro v246 w17 ho hb hg hat
         rw [← Ny245.out] at ho
         have n0_ := Aside0.mk (blk_grown (g := gb240) (o := .cells #[.int .i64 a0_0, .string a0_1, .int .i64 a0_2, .slice (some ad243) l0_3.length c0_3] 31 (0, 0)) (rbA BK240.out) hg (Kd.R_ne HO_243003.out BK240.out (by decide)))
         have n1_ := Aside0.mk (blk_grown (g := gb241) (o := .cells #[.int .i64 0, .string (⟨#[]⟩ : ByteArray), .int .i64 0, .slice none 0 0] 24 (0, 0)) (rbA BK241.out) hg (Kd.R_ne HO_243003.out BK241.out (by decide)))
         have n2_ := Aside0.mk (blk_grown (g := gb242) (o := .cells #[.int .i64 a0_0, .string a0_1, .int .i64 a0_2, u243003] 24 (0, 0)) (rbA BK242.out) hg (Kd.R_ne HO_243003.out BK242.out (by decide)))
         have n3_ := Aside0.mk (hb)
         have n4_ := Aside0.mk (ho)
         clear BK240
         clear BK241
         clear BK242
         clear HB
         clear HO_243003
         have BK240 := n0_
         have BK241 := n1_
         have BK242 := n2_
         have HB := n3_
         have HO247 := n4_
         clear n0_ n1_ n2_ n3_ n4_
         clear ho hb hg hat
         obtain ⟨Ao18, co18, eo18⟩ := Kd.R_slice HO247.out
         (first | subst eo18 | (injection eo18 with f1_ f2_ f3_; have f4_ := f1_.symm; have f5_ := f3_.symm; clear f1_ f2_ f3_; subst f4_; subst f5_))
         refine hK.out _ _ ⟨(blk_cell BK242.out 0).trans rfl, (blk_cell BK242.out 1).trans rfl, (blk_cell BK242.out 2).trans rfl, (blk_cell BK242.out 3).trans rfl, (blk_cell BK240.out 0).trans rfl, (blk_cell BK240.out 1).trans rfl, (blk_cell BK240.out 2).trans rfl, (blk_cell BK240.out 3).trans rfl, ((HB.out.cell (World.block_lt_of_cell? w _ hw243_0)).trans hw243_0), ((HB.out.cell (World.block_lt_of_cell? w _ hw243_1)).trans hw243_1), ((HB.out.cell (World.block_lt_of_cell? w _ hw244_0)).trans hw244_0), ((HB.out.cell (World.block_lt_of_cell? w _ hw244_1)).trans hw244_1)⟩ (fun hHeld => ?_)
         clear hK K
         refine normA_ ?_
         refine pureA_ (i := 17) (N := some 36) #[true, true, true, true, true, true, true, true, true, true, true, true, true, true, true, true, true, true, false] rfl rfl ?_ (hc := any_of HT_.out (by kernel_rfl))
         refine last_ (i := 18) (N := none) #[true, true, true, true, true, true, true, true, true, true, true, true, true, true, true, true, true, true, true] rfl rfl (one_of HT_.out (by kernel_rfl)) (by decide) (fun K hK => ?_)
         have hs19 : w17.cell? ⟨gb242, 3, none⟩ = some (u243003) := (blk_cell BK242.out 3).trans rfl
         have hfs19 := blk_frozen BK242.out 3
         have hns19_0 := NB240_242.out
         have hns19_1 := NB241_242.out
         have hms19_0 := NB242_240.out
         have hms19_1 := NB242_241.out
         refine skip_ (w1 := ?_) (by rfl) rfl ?_ ?_
         rotate_left
         · go_simp
           rfl
         refine hK.out _ _ ?_
         clear hK K
         refine done_ (done_of HT_.out (by kernel_rfl)) ?_
         try go_wp2
         go_roundg k1
         case measure => have := HK1.out; omega
         case rel => exact ⟨(wrap64 (x4_1 + 1)), (y245), (.slice Ao18 y245.length co18), rsA, H', ⟨by have := HK1.out; omega⟩, ⟨by (with_reducible repeat (first | apply Kd.R_alloc | apply Kd.R_drewN | apply Kd.R_drew)); exact Kd.R_mono (Kd.R_far (p := ⟨gb242, 3, none⟩) (Kd.R_types HO247.out BK242.out (by decide)) (fun _ hk => hk.2) (.slice Ao18 y245.length co18)) (fun _ hk => trivial)⟩, ⟨by (with_reducible repeat (first | refine blk_drewN ?_ _ | refine blk_drew ?_ | refine blk_alloc ?_ _)); refine blk_far ?_ NB240_242.out _; (with_reducible repeat (first | refine blk_drewN ?_ _ | refine blk_drew ?_ | refine blk_alloc ?_ _)); exact BK240.out⟩, ⟨by (with_reducible repeat (first | refine blk_drewN ?_ _ | refine blk_drew ?_ | refine blk_alloc ?_ _)); refine blk_far ?_ NB241_242.out _; (with_reducible repeat (first | refine blk_drewN ?_ _ | refine blk_drew ?_ | refine blk_alloc ?_ _)); exact BK241.out⟩, ⟨by (with_reducible repeat (first | refine blk_drewN ?_ _ | refine blk_drew ?_ | refine blk_alloc ?_ _)); refine blk_put (cs := #[.int .i64 a0_0, .string a0_1, .int .i64 a0_2, u243003]) ?_ 3 _ rfl; (with_reducible repeat (first | refine blk_drewN ?_ _ | refine blk_drew ?_ | refine blk_alloc ?_ _)); exact BK242.out⟩, ⟨hbA HB.out⟩⟩
       rw [if_neg c12] at H
       exact absurd H (by simp)
     rw [if_neg c11] at H
     exact absurd H (by simp)
   rw [if_neg c10] at H
   have c10b0 : decide (x4_1 < (l0_3.length : Int)) = false := decide_eq_false c10
   clear c10
   simp only [Option.some.injEq, Prod.mk.injEq] at H
   obtain ⟨rfl, rfl, rfl, rfl⟩ := H
   have hnb20 := NB240_241.out
   have hnc20 := NB241_240.out
   have hnb21 := NB240_242.out
   have hnc21 := NB242_240.out
   obtain ⟨hcz22_0, hcz22_1, hcz22_2, hcz22_3, hfz22_0, hfz22_1, hfz22_2, hfz22_3⟩ := blkA4 BK240.out
   have hnb23 := NB242_241.out
   have hnc23 := NB241_242.out
   obtain ⟨hcz24_0, hcz24_1, hcz24_2, hcz24_3, hfz24_0, hfz24_1, hfz24_2, hfz24_3⟩ := blkA4 BK242.out
   obtain ⟨hcz25_0, hcz25_1, hcz25_2, hcz25_3, hfz25_0, hfz25_1, hfz25_2, hfz25_3⟩ := blkA4 BK241.out
   obtain ⟨Ao26, co26, eo26⟩ := Kd.R_slice HO_243003.out
   subst eo26
   go_wp2
   refine bodyPost_ret (results_cell_row rfl _ _ gb241 24 #[.int .i64 a0_0, .string a0_1, .int .i64 a0_2, .slice Ao26 x243003_1.length co26] (0, 0) _ rfl (by (with_reducible repeat (first | refine blk_drewN ?_ _ | refine blk_drew ?_ | refine blk_alloc ?_ _)); refine blk_put (cs := #[.int .i64 a0_0, .string a0_1, .int .i64 a0_2, .slice none 0 0]) ?_ 3 _ rfl; (with_reducible repeat (first | refine blk_drewN ?_ _ | refine blk_drew ?_ | refine blk_alloc ?_ _)); refine blk_put (cs := #[.int .i64 a0_0, .string a0_1, .int .i64 0, .slice none 0 0]) ?_ 2 _ rfl; (with_reducible repeat (first | refine blk_drewN ?_ _ | refine blk_drew ?_ | refine blk_alloc ?_ _)); refine blk_put (cs := #[.int .i64 a0_0, .string (⟨#[]⟩ : ByteArray), .int .i64 0, .slice none 0 0]) ?_ 1 _ rfl; (with_reducible repeat (first | refine blk_drewN ?_ _ | refine blk_drew ?_ | refine blk_alloc ?_ _)); refine blk_put (cs := #[.int .i64 0, .string (⟨#[]⟩ : ByteArray), .int .i64 0, .slice none 0 0]) ?_ 0 _ rfl; exact rbA BK241.out) Tryz.underlying24 rfl (by kernel_rfl)) rfl ?_
   exact ⟨_, reA, by (with_reducible repeat (first | apply Kd.R_alloc | apply Kd.R_drewN | apply Kd.R_drew)); exact Kd.R_mono (Kd.R_far (p := ⟨gb241, 3, none⟩) (Kd.R_far (p := ⟨gb241, 2, none⟩) (Kd.R_far (p := ⟨gb241, 1, none⟩) (Kd.R_far (p := ⟨gb241, 0, none⟩) (Kd.R_types HO_243003.out BK241.out (by decide)) (fun _ hk => hk.2) (.int .i64 a0_0)) (fun _ hk => hk.2) (.string a0_1)) (fun _ hk => hk.2) (.int .i64 a0_2)) (fun _ hk => hk.2) (.slice Ao26 x243003_1.length co26)) (fun _ hk => trivial), hbA HB.out⟩

def cmp_isNaN_byte.f (a0 : Int) : Option (Bool) := some (a0 != a0)
set_option maxHeartbeats 8000000 in
set_option maxRecDepth 100000 in
theorem cmp_isNaN_byte.calls (a0 : Int) (r : Bool) (w : World) (h : cmp_isNaN_byte.f a0 = some r) :
 Calls Tryz.prog 71 #[.int .u8 a0] w fun e w' => e = .returned (.bool r) ∧ Drawn0 w w' := by
 have H : (some (a0 != a0)) = some r := h
 clear h
 obtain rfl := Option.some.inj H
 go_enter Tryz.func71, Tryz.ntmps71
 go_wp2
 go_ret
 exact ⟨rsA, drA⟩

def cmp_Compare_byte.f (a0 : Int) (a1 : Int) : Option (Int) := (cmp_isNaN_byte.f a0).bind fun t248 => ((cmp_isNaN_byte.f a1).bind fun t249 => (if t248 = true then (if t249 = true then (some 0) else (some (-1))) else (if t249 = true then (some 1) else (if a0 < a1 then (some (-1)) else (if a0 > a1 then (some 1) else (some 0))))))
set_option maxHeartbeats 8000000 in
set_option maxRecDepth 100000 in
theorem cmp_Compare_byte.calls (a0 : Int) (a1 : Int) (r : Int) (w : World) (h : cmp_Compare_byte.f a0 a1 = some r) :
 Calls Tryz.prog 47 #[.int .u8 a0, .int .u8 a1] w fun e w' => e = .returned (.int .i64 r) ∧ Drawn0 w w' := by
 have H : ((cmp_isNaN_byte.f a0).bind fun t248 => ((cmp_isNaN_byte.f a1).bind fun t249 => (if t248 = true then (if t249 = true then (some 0) else (some (-1))) else (if t249 = true then (some 1) else (if a0 < a1 then (some (-1)) else (if a0 > a1 then (some 1) else (some 0))))))) = some r := h
 clear h
 replace H := Option.bind_eq_some_iff.mp H
 obtain ⟨t248, A30, H⟩ := H
 replace H : ((cmp_isNaN_byte.f a1).bind fun t249 => (if t248 = true then (if t249 = true then (some 0) else (some (-1))) else (if t249 = true then (some 1) else (if a0 < a1 then (some (-1)) else (if a0 > a1 then (some 1) else (some 0)))))) = some r := H
 have A3 := Aside0.mk A30
 clear A30
 replace H := Option.bind_eq_some_iff.mp H
 obtain ⟨t249, A40, H⟩ := H
 replace H : (if t248 = true then (if t249 = true then (some 0) else (some (-1))) else (if t249 = true then (some 1) else (if a0 < a1 then (some (-1)) else (if a0 > a1 then (some 1) else (some 0))))) = some r := H
 have A4 := Aside0.mk A40
 clear A40
 by_cases c5 : t248 = true
 · subst c5
   have H1 : (if t249 = true then (some 0) else (some (-1))) = some r := by rw [if_pos rfl] at H; exact H
   clear H
   have H := H1
   clear H1
   by_cases c6 : t249 = true
   · subst c6
     have H1 : (some 0) = some r := by rw [if_pos rfl] at H; exact H
     clear H
     have H := H1
     clear H1
     obtain rfl := Option.some.inj H
     go_enter Tryz.func47, Tryz.ntmps47
     go_wp2_with (first | ((with_reducible refine gate_callee (f := 71) rfl ?_); refine goesL_ (some 8) rfl rfl Tryz.func71 (by kernel_rfl) rfl #[.int .u8 a0] rfl argA ?_; (with_reducible refine (cmp_isNaN_byte.calls a0 true _ A3.out).mono ?_); rintro e w' ⟨rfl, ⟨nd, rfl⟩⟩; refine ⟨_, rfl, ?_⟩) | ((with_reducible refine gate_callee (f := 71) rfl ?_); refine goesL_ (some 10) rfl rfl Tryz.func71 (by kernel_rfl) rfl #[.int .u8 a1] rfl argA ?_; (with_reducible refine (cmp_isNaN_byte.calls a1 true _ A4.out).mono ?_); rintro e w' ⟨rfl, ⟨nd, rfl⟩⟩; refine ⟨_, rfl, ?_⟩))
     go_ret
     exact ⟨rsA, drA⟩
   replace c6 := Bool.eq_false_iff.mpr c6
   subst c6
   have H1 : (some (-1)) = some r := by rw [if_neg (show ¬ (false = true) by decide)] at H; exact H
   clear H
   have H := H1
   clear H1
   obtain rfl := Option.some.inj H
   go_enter Tryz.func47, Tryz.ntmps47
   go_wp2_with (first | ((with_reducible refine gate_callee (f := 71) rfl ?_); refine goesL_ (some 8) rfl rfl Tryz.func71 (by kernel_rfl) rfl #[.int .u8 a0] rfl argA ?_; (with_reducible refine (cmp_isNaN_byte.calls a0 true _ A3.out).mono ?_); rintro e w' ⟨rfl, ⟨nd, rfl⟩⟩; refine ⟨_, rfl, ?_⟩) | ((with_reducible refine gate_callee (f := 71) rfl ?_); refine goesL_ (some 10) rfl rfl Tryz.func71 (by kernel_rfl) rfl #[.int .u8 a1] rfl argA ?_; (with_reducible refine (cmp_isNaN_byte.calls a1 false _ A4.out).mono ?_); rintro e w' ⟨rfl, ⟨nd, rfl⟩⟩; refine ⟨_, rfl, ?_⟩))
   go_ret
   exact ⟨rsA, drA⟩
 replace c5 := Bool.eq_false_iff.mpr c5
 subst c5
 have H1 : (if t249 = true then (some 1) else (if a0 < a1 then (some (-1)) else (if a0 > a1 then (some 1) else (some 0)))) = some r := by rw [if_neg (show ¬ (false = true) by decide)] at H; exact H
 clear H
 have H := H1
 clear H1
 by_cases c7 : t249 = true
 · subst c7
   have H1 : (some 1) = some r := by rw [if_pos rfl] at H; exact H
   clear H
   have H := H1
   clear H1
   obtain rfl := Option.some.inj H
   go_enter Tryz.func47, Tryz.ntmps47
   go_wp2_with (first | ((with_reducible refine gate_callee (f := 71) rfl ?_); refine goesL_ (some 8) rfl rfl Tryz.func71 (by kernel_rfl) rfl #[.int .u8 a0] rfl argA ?_; (with_reducible refine (cmp_isNaN_byte.calls a0 false _ A3.out).mono ?_); rintro e w' ⟨rfl, ⟨nd, rfl⟩⟩; refine ⟨_, rfl, ?_⟩) | ((with_reducible refine gate_callee (f := 71) rfl ?_); refine goesL_ (some 10) rfl rfl Tryz.func71 (by kernel_rfl) rfl #[.int .u8 a1] rfl argA ?_; (with_reducible refine (cmp_isNaN_byte.calls a1 true _ A4.out).mono ?_); rintro e w' ⟨rfl, ⟨nd, rfl⟩⟩; refine ⟨_, rfl, ?_⟩))
   go_ret
   exact ⟨rsA, drA⟩
 replace c7 := Bool.eq_false_iff.mpr c7
 subst c7
 have H1 : (if a0 < a1 then (some (-1)) else (if a0 > a1 then (some 1) else (some 0))) = some r := by rw [if_neg (show ¬ (false = true) by decide)] at H; exact H
 clear H
 have H := H1
 clear H1
 by_cases c8 : a0 < a1
 · rw [if_pos c8] at H
   have c8b0 : decide (a0 < a1) = true := decide_eq_true c8
   clear c8
   obtain rfl := Option.some.inj H
   go_enter Tryz.func47, Tryz.ntmps47
   go_wp2_with (first | ((with_reducible refine gate_callee (f := 71) rfl ?_); refine goesL_ (some 8) rfl rfl Tryz.func71 (by kernel_rfl) rfl #[.int .u8 a0] rfl argA ?_; (with_reducible refine (cmp_isNaN_byte.calls a0 false _ A3.out).mono ?_); rintro e w' ⟨rfl, ⟨nd, rfl⟩⟩; refine ⟨_, rfl, ?_⟩) | ((with_reducible refine gate_callee (f := 71) rfl ?_); refine goesL_ (some 10) rfl rfl Tryz.func71 (by kernel_rfl) rfl #[.int .u8 a1] rfl argA ?_; (with_reducible refine (cmp_isNaN_byte.calls a1 false _ A4.out).mono ?_); rintro e w' ⟨rfl, ⟨nd, rfl⟩⟩; refine ⟨_, rfl, ?_⟩))
   go_ret
   exact ⟨rsA, drA⟩
 rw [if_neg c8] at H
 have c8b0 : decide (a0 < a1) = false := decide_eq_false c8
 clear c8
 by_cases c9 : a0 > a1
 · rw [if_pos c9] at H
   have c9b0 : decide (a1 < a0) = true := decide_eq_true c9
   clear c9
   obtain rfl := Option.some.inj H
   go_enter Tryz.func47, Tryz.ntmps47
   go_wp2_with (first | ((with_reducible refine gate_callee (f := 71) rfl ?_); refine goesL_ (some 8) rfl rfl Tryz.func71 (by kernel_rfl) rfl #[.int .u8 a0] rfl argA ?_; (with_reducible refine (cmp_isNaN_byte.calls a0 false _ A3.out).mono ?_); rintro e w' ⟨rfl, ⟨nd, rfl⟩⟩; refine ⟨_, rfl, ?_⟩) | ((with_reducible refine gate_callee (f := 71) rfl ?_); refine goesL_ (some 10) rfl rfl Tryz.func71 (by kernel_rfl) rfl #[.int .u8 a1] rfl argA ?_; (with_reducible refine (cmp_isNaN_byte.calls a1 false _ A4.out).mono ?_); rintro e w' ⟨rfl, ⟨nd, rfl⟩⟩; refine ⟨_, rfl, ?_⟩))
   go_ret
   exact ⟨rsA, drA⟩
 rw [if_neg c9] at H
 have c9b0 : decide (a1 < a0) = false := decide_eq_false c9
 clear c9
 obtain rfl := Option.some.inj H
 go_enter Tryz.func47, Tryz.ntmps47
 go_wp2_with (first | ((with_reducible refine gate_callee (f := 71) rfl ?_); refine goesL_ (some 8) rfl rfl Tryz.func71 (by kernel_rfl) rfl #[.int .u8 a0] rfl argA ?_; (with_reducible refine (cmp_isNaN_byte.calls a0 false _ A3.out).mono ?_); rintro e w' ⟨rfl, ⟨nd, rfl⟩⟩; refine ⟨_, rfl, ?_⟩) | ((with_reducible refine gate_callee (f := 71) rfl ?_); refine goesL_ (some 10) rfl rfl Tryz.func71 (by kernel_rfl) rfl #[.int .u8 a1] rfl argA ?_; (with_reducible refine (cmp_isNaN_byte.calls a1 false _ A4.out).mono ?_); rintro e w' ⟨rfl, ⟨nd, rfl⟩⟩; refine ⟨_, rfl, ?_⟩))
 go_ret
 exact ⟨rsA, drA⟩

end
end Go.Proofs.YtfboejlemnfndaaGreatDoor.XMk
end
section
namespace Go.Proofs.YtfboejlemnfndaaGreatDoor.Srt
open Go.Sort
variable {α : Type} (key : α → Int)

def Rising (l : List α) : Prop := l.Pairwise (fun x y => key x ≤ key y)
def Same (l l' : List α) : Prop := ∀ c : Int, l.filter (fun x => key x == c) = l'.filter (fun x => key x == c)
variable {key}
theorem Same.refl (l : List α) : Same key l l := fun _ => rfl
theorem Same.symm {l l' : List α} (h : Same key l l') : Same key l' l := fun c => (h c).symm
theorem Same.trans {l l' l'' : List α} (h : Same key l l') (h' : Same key l' l'') : Same key l l'' := fun c => (h c).trans (h' c)
theorem Same.append {a a' b b' : List α} (h : Same key a a') (h' : Same key b b') : Same key (a ++ b) (a' ++ b') := fun c => by
  rw [List.filter_append, List.filter_append, h c, h' c]
theorem Same.mid {P X Z Q : List α} (h : Same key X Z) : Same key (P ++ X ++ Q) (P ++ Z ++ Q) := (Same.append (Same.refl P) h).append (Same.refl Q)
theorem Same.mem {l l' : List α} (h : Same key l l') {x : α} (hx : x ∈ l') : x ∈ l := by
  have : x ∈ l'.filter (fun y => key y == key x) := List.mem_filter.2 ⟨hx, by simp⟩
  rw [← h] at this
  exact (List.mem_filter.1 this).1
theorem filter_none {l : List α} {c : Int} (h : ∀ x ∈ l, key x ≠ c) : l.filter (fun x => key x == c) = [] := by
  rw [List.filter_eq_nil_iff]
  intro x hx
  simpa using h x hx
theorem Same.turn {a b : List α} (h : ∀ x ∈ a, ∀ y ∈ b, key y < key x) : Same key (a ++ b) (b ++ a) := fun c => by
  rw [List.filter_append, List.filter_append]
  by_cases ha : ∃ x ∈ a, key x = c
  · obtain ⟨x, hx, e⟩ := ha
    rw [filter_none (l := b) (fun y hy => by have := h x hx y hy; omega), List.append_nil, List.nil_append]
  · rw [filter_none (l := a) (fun x hx e => ha ⟨x, hx, e⟩), List.append_nil, List.nil_append]
theorem Same.length {l l' : List α} (h : Same key l l') : ∀ {n : Nat}, l.length = n → l'.length = n := by
  have h2 : ∀ (n : Nat) (a b : List α), a.length = n → Same key a b → b.length = n := by
    intro n
    induction n with
    | zero =>
      intro a b ha hs
      cases b with
      | nil => rfl
      | cons y b =>
        have := hs.mem (List.mem_cons_self (a := y) (l := b))
        rw [List.length_eq_zero_iff.1 ha] at this
        cases this
    | succ n ih =>
      intro a b ha hs
      cases a with
      | nil => cases ha
      | cons x a =>
        -- the first of x's number in b is x
        have hx := hs (key x)
        rw [List.filter_cons_of_pos (by simp)] at hx
        obtain ⟨p, q, hb, hp⟩ : ∃ p q, b = p ++ x :: q ∧ ∀ y ∈ p, key y ≠ key x := by
          clear ih hs ha
          induction b with
          | nil => cases hx
          | cons y b ihb =>
            by_cases e : key y = key x
            · rw [List.filter_cons_of_pos (by simp [e])] at hx
              injection hx with h1 h2
              exact ⟨[], b, by rw [h1]; rfl, fun y hy => by cases hy⟩
            · rw [List.filter_cons_of_neg (by simpa using e)] at hx
              obtain ⟨p, q, hb, hp⟩ := ihb hx
              exact ⟨y :: p, q, by rw [hb]; rfl, fun z hz => by rcases List.mem_cons.1 hz with rfl | hz; exact e; exact hp z hz⟩
        subst hb
        have hs' : Same key a (p ++ q) := fun c => by
          have := hs c
          rw [List.filter_append] at this ⊢
          by_cases e : key x = c
          · rw [List.filter_cons_of_pos (by simp [e]), List.filter_cons_of_pos (by simp [e]), filter_none (l := p) (fun y hy h => hp y hy (by rw [h, e])), List.nil_append] at this
            injection this with _ this
            rw [this, filter_none (l := p) (fun y hy h => hp y hy (by rw [h, e])), List.nil_append]
          · rw [List.filter_cons_of_neg (by simpa using e), List.filter_cons_of_neg (by simpa using e)] at this
            exact this
        have := ih a (p ++ q) (by simpa using ha) hs'
        rw [List.length_append] at this ⊢
        rw [List.length_cons]
        omega
  exact fun {n} hn => h2 n l l' hn h
theorem unique : ∀ (n : Nat) {l l' : List α}, l.length = n → Rising key l → Rising key l' → Same key l l' → l = l'
  | 0, l, l', hn, _, _, hs => by
    have := hs.length hn
    rw [List.length_eq_zero_iff.1 hn, List.length_eq_zero_iff.1 this]
  | n + 1, [], _, hn, _, _, _ => by cases hn
  | n + 1, x :: l, l', hn, h, h', hs => by
    have hl := hs.length hn
    cases l' with
    | nil => cases hl
    | cons y l' =>
      have hx := (List.pairwise_cons.1 h).1
      have hy := (List.pairwise_cons.1 h').1
      have exy : key x = key y := by
        have h1 : x ∈ y :: l' := hs.symm.mem List.mem_cons_self
        have h2 : y ∈ x :: l := hs.mem List.mem_cons_self
        have a1 : key y ≤ key x := by rcases List.mem_cons.1 h1 with rfl | h1; exact Int.le_refl _; exact hy x h1
        have a2 : key x ≤ key y := by rcases List.mem_cons.1 h2 with rfl | h2; exact Int.le_refl _; exact hx y h2
        omega
      have e := hs (key x)
      rw [List.filter_cons_of_pos (by simp), List.filter_cons_of_pos (by simp [exy])] at e
      injection e with e1 e2
      subst e1
      have hs' : Same key l l' := fun c => by
        have := hs c
        by_cases e : key x = c
        · rw [List.filter_cons_of_pos (by simp [e]), List.filter_cons_of_pos (by simp [e])] at this
          injection this
        · rw [List.filter_cons_of_neg (by simpa using e), List.filter_cons_of_neg (by simpa using e)] at this
          exact this
      rw [unique n (by simpa using hn) (List.pairwise_cons.1 h).2 (List.pairwise_cons.1 h').2 hs']
theorem Rising.append {a b : List α} (ha : Rising key a) (hb : Rising key b) (h : ∀ x ∈ a, ∀ y ∈ b, key x ≤ key y) : Rising key (a ++ b) := List.pairwise_append.2 ⟨ha, hb, h⟩
theorem merge_parts {X1 X2 Y1 Y2 Z1 Z2 : List α} (hX : Rising key (X1 ++ X2)) (hY : Rising key (Y1 ++ Y2)) (h21 : ∀ x ∈ X2, ∀ y ∈ Y1, key y < key x) (h12 : ∀ x ∈ X1, ∀ y ∈ Y2, key x ≤ key y)
    (r1 : Rising key Z1) (s1 : Same key (X1 ++ Y1) Z1) (r2 : Rising key Z2) (s2 : Same key (X2 ++ Y2) Z2) : Rising key (Z1 ++ Z2) ∧ Same key ((X1 ++ X2) ++ (Y1 ++ Y2)) (Z1 ++ Z2) := by
  have hX' := List.pairwise_append.1 hX
  have hY' := List.pairwise_append.1 hY
  refine ⟨r1.append r2 (fun x hx y hy => ?_), ?_⟩
  · have hx1 := s1.mem hx
    have hy1 := s2.mem hy
    rcases List.mem_append.1 hx1 with hx1 | hx1
    · rcases List.mem_append.1 hy1 with hy1 | hy1
      · exact hX'.2.2 x hx1 y hy1
      · exact h12 x hx1 y hy1
    · rcases List.mem_append.1 hy1 with hy1 | hy1
      · have := h21 y hy1 x hx1; omega
      · exact hY'.2.2 x hx1 y hy1
  · refine Same.trans ?_ (s1.append s2)
    have : Same key (X1 ++ (X2 ++ Y1) ++ Y2) (X1 ++ (Y1 ++ X2) ++ Y2) := Same.mid (Same.turn h21)
    simpa [List.append_assoc] using this
theorem put_first {x : α} {Y1 Y2 : List α} (hY : Rising key (Y1 ++ Y2)) (h1 : ∀ y ∈ Y1, key y < key x) (h2 : ∀ y ∈ Y2, key x ≤ key y) : Rising key (Y1 ++ x :: Y2) ∧ Same key (x :: (Y1 ++ Y2)) (Y1 ++ x :: Y2) := by
  have hY' := List.pairwise_append.1 hY
  refine ⟨Rising.append hY'.1 (List.pairwise_cons.2 ⟨h2, hY'.2.1⟩) (fun a ha b hb => ?_), ?_⟩
  · rcases List.mem_cons.1 hb with rfl | hb
    · have := h1 a ha; omega
    · exact hY'.2.2 a ha b hb
  · have : Same key ([x] ++ Y1 ++ Y2) (Y1 ++ [x] ++ Y2) := (Same.turn (fun a ha b hb => by rw [List.mem_singleton.1 ha]; exact h1 b hb)).append (Same.refl Y2)
    simpa using this
theorem put_last {y : α} {X1 X2 : List α} (hX : Rising key (X1 ++ X2)) (h1 : ∀ x ∈ X1, key x ≤ key y) (h2 : ∀ x ∈ X2, key y < key x) : Rising key (X1 ++ y :: X2) ∧ Same key ((X1 ++ X2) ++ [y]) (X1 ++ y :: X2) := by
  have hX' := List.pairwise_append.1 hX
  refine ⟨Rising.append hX'.1 (List.pairwise_cons.2 ⟨fun x hx => by have := h2 x hx; omega, hX'.2.1⟩) (fun a ha b hb => ?_), ?_⟩
  · rcases List.mem_cons.1 hb with rfl | hb
    · exact h1 a ha
    · exact hX'.2.2 a ha b hb
  · have : Same key (X1 ++ (X2 ++ [y])) (X1 ++ ([y] ++ X2)) := (Same.refl X1).append (Same.turn (fun a ha b hb => by rw [List.mem_singleton.1 hb]; exact h2 a ha))
    simpa [List.append_assoc] using this
theorem rising_le {l : List α} (h : Rising key l) {i j : Nat} (hij : i ≤ j) (hj : j < l.length) : key (l[i]'(by omega)) ≤ key l[j] := by
  rcases Nat.lt_or_ge i j with h1 | h1
  · exact List.pairwise_iff_getElem.1 h i j (by omega) hj h1
  · obtain rfl : i = j := by omega
    exact Int.le_refl _
section
variable [Inhabited α]
theorem at_mid {d : Array α} {A B : List α} {x : α} (h : d.toList = A ++ x :: B) {i : Nat} (hi : A.length = i) : d[i]! = x := by
  have hl : i < d.toList.length := by rw [h, List.length_append, List.length_cons]; omega
  rw [getElem!_pos d i (by simpa using hl)]
  have : d[i]'(by simpa using hl) = d.toList[i] := by simp
  rw [this]
  simp only [h]
  rw [List.getElem_append_right (by omega)]
  simp [hi]
theorem at_part {d : Array α} {P X Q : List α} (h : d.toList = P ++ X ++ Q) {i : Nat} (hi : i < X.length) {j : Nat} (hj : P.length + i = j) : d[j]! = X[i] := by
  refine at_mid (A := P ++ X.take i) (B := X.drop (i + 1) ++ Q) ?_ (by rw [List.length_append, List.length_take]; omega)
  rw [h, List.append_assoc, List.append_assoc]
  congr 1
  conv => lhs; rw [← List.take_append_drop i X, List.drop_eq_getElem_cons hi]
  rw [List.append_assoc, List.cons_append]
theorem swp_list {d : Array α} {A B C : List α} {x y : α} (h : d.toList = A ++ x :: (B ++ y :: C)) {i j : Nat} (hi : A.length = i) (hj : i + 1 + B.length = j) : (swp d i j).toList = A ++ y :: (B ++ x :: C) ∧ (swp d j i).toList = A ++ y :: (B ++ x :: C) := by
  have ex : d[i]! = x := at_mid h hi
  have ey : d[j]! = y := at_mid (A := A ++ x :: B) (B := C) (by rw [h]; simp) (by rw [List.length_append, List.length_cons]; omega)
  subst hi hj
  have s1 : ∀ (l : List α) (u v : α), (l ++ u :: (B ++ v :: C)).set l.length y = l ++ y :: (B ++ v :: C) := fun l u v => by rw [List.set_append_right _ _ (Nat.le_refl _)]; simp
  have s2 : ∀ (l : List α) (u v : α), (l ++ u :: (B ++ v :: C)).set (l.length + 1 + B.length) x = l ++ u :: (B ++ x :: C) := fun l u v => by
    rw [show l ++ u :: (B ++ v :: C) = (l ++ u :: B) ++ v :: C from by simp, List.set_append_right _ _ (by rw [List.length_append, List.length_cons]; omega)]
    rw [show l.length + 1 + B.length - (l ++ u :: B).length = 0 from by rw [List.length_append, List.length_cons]; omega]
    simp
  unfold swp
  rw [ex, ey]
  simp only [Array.toList_setIfInBounds, h]
  exact ⟨by rw [s1, s2], by rw [s2, s1]⟩
theorem ins_inner (lt : α → α → Bool) (hlt : ∀ x y, lt x y = decide (key x < key y)) (P : List α) (x : α) : ∀ (n : Nat) (A R : List α) (d : Array α), A.length = n → d.toList = P ++ A ++ x :: R → Rising key A →
    ∃ A1 A2, A = A1 ++ A2 ∧ (∀ y ∈ A1, key y ≤ key x) ∧ (∀ y ∈ A2, key x < key y) ∧ (insInner lt P.length (P.length + n) d).toList = P ++ (A1 ++ x :: A2) ++ R
  | 0, A, R, d, hn, h, hr => by
    obtain rfl := List.length_eq_zero_iff.1 hn
    refine ⟨[], [], rfl, fun _ h => (by cases h), fun _ h => (by cases h), ?_⟩
    rw [insInner_stop _ _ _ _ (.inl (by omega)), h]
    simp
  | n + 1, A, R, d, hn, h, hr => by
    obtain ⟨A', y, rfl⟩ : ∃ A' y, A = A' ++ [y] := by
      rcases List.eq_nil_or_concat A with rfl | ⟨l, b, rfl⟩
      · cases hn
      · exact ⟨l, b, by simp⟩
    have hn' : A'.length = n := by simpa using hn
    have hr' := List.pairwise_append.1 hr
    have ex : d[P.length + (n + 1)]! = x := at_mid h (by rw [List.length_append]; omega)
    have ey : d[P.length + (n + 1) - 1]! = y := at_mid (A := P ++ A') (B := x :: R) (by rw [h]; simp) (by rw [List.length_append]; omega)
    by_cases hxy : key x < key y
    · rw [insInner_go _ _ _ _ (by omega) (by rw [ex, ey, hlt]; exact decide_eq_true hxy), show P.length + (n + 1) - 1 = P.length + n from by omega]
      have hs := (swp_list (A := P ++ A') (B := []) (C := R) (x := y) (y := x) (d := d) (by rw [h]; simp) (i := P.length + n) (j := P.length + (n + 1)) (by rw [List.length_append]; omega) (by simp; omega)).2
      obtain ⟨A1, A2, hA, h1, h2, h3⟩ := ins_inner lt hlt P x n A' (y :: R) _ hn' hs hr'.1
      refine ⟨A1, A2 ++ [y], by rw [hA]; simp, h1, fun z hz => ?_, ?_⟩
      · rcases List.mem_append.1 hz with hz | hz
        · exact h2 z hz
        · rw [List.mem_singleton.1 hz]; exact hxy
      · rw [h3]
        simp
    · rw [insInner_stop _ _ _ _ (.inr (by rw [ex, ey, hlt]; exact decide_eq_false hxy))]
      refine ⟨A' ++ [y], [], by simp, fun z hz => ?_, fun z hz => (by cases hz), by rw [h]; simp⟩
      rcases List.mem_append.1 hz with hz | hz
      · have := hr'.2.2 z hz y (by simp); omega
      · rw [List.mem_singleton.1 hz]; omega
theorem ins_outer (lt : α → α → Bool) (hlt : ∀ x y, lt x y = decide (key x < key y)) (P Q : List α) : ∀ (n : Nat) (Z B X : List α) (d : Array α), B.length = n → d.toList = P ++ Z ++ B ++ Q → Rising key Z → Same key X (Z ++ B) →
    ∃ Z', (insOuter lt P.length (P.length + Z.length + n) (P.length + Z.length) d).toList = P ++ Z' ++ Q ∧ Rising key Z' ∧ Same key X Z'
  | 0, Z, B, X, d, hn, h, hr, hs => by
    obtain rfl := List.length_eq_zero_iff.1 hn
    rw [insOuter_stop _ _ _ _ _ (by omega)]
    exact ⟨Z, by rw [h]; simp, hr, by rw [List.append_nil] at hs; exact hs⟩
  | n + 1, Z, B, X, d, hn, h, hr, hs => by
    cases B with
    | nil => cases hn
    | cons x B =>
      rw [insOuter_go _ _ _ _ _ (by omega)]
      obtain ⟨A1, A2, hA, h1, h2, h3⟩ := ins_inner lt hlt P x Z.length Z (B ++ Q) d rfl (by rw [h]; simp) hr
      subst hA
      have hp := put_last (y := x) hr h1 h2
      obtain ⟨Z', z1, z2, z3⟩ := ins_outer lt hlt P Q n (A1 ++ x :: A2) B X (insInner lt P.length (P.length + (A1 ++ A2).length) d) (by simpa using hn) (by rw [h3]; simp) hp.1 (hs.trans (by
        have := hp.2.append (Same.refl B)
        simpa using this))
      refine ⟨Z', ?_, z2, z3⟩
      rw [← z1]
      congr 2
      · simp only [List.length_append, List.length_cons]; omega
      · simp only [List.length_append, List.length_cons]; omega
theorem ins_sort (lt : α → α → Bool) (hlt : ∀ x y, lt x y = decide (key x < key y)) (P X Q : List α) (d : Array α) (h : d.toList = P ++ X ++ Q) {a b : Nat} (ha : P.length = a) (hb : a + X.length = b) :
    ∃ Z, (insertionSort lt d a b).toList = P ++ Z ++ Q ∧ Rising key Z ∧ Same key X Z := by
  subst ha hb
  unfold insertionSort
  cases X with
  | nil =>
    rw [insOuter_stop _ _ _ _ _ (by simp)]
    exact ⟨[], h, List.Pairwise.nil, Same.refl _⟩
  | cons x X =>
    obtain ⟨Z', z1, z2, z3⟩ := ins_outer lt hlt P Q X.length [x] X (x :: X) d rfl (by rw [h]; simp) (by simp [Rising]) (by simpa using Same.refl (key := key) (x :: X))
    refine ⟨Z', ?_, z2, z3⟩
    rw [← z1]
    congr 2
    simp only [List.length_cons, List.length_nil]; omega
end
end Go.Proofs.YtfboejlemnfndaaGreatDoor.Srt
end
section
namespace Go.Proofs.YtfboejlemnfndaaGreatDoor.Srt
open Go.Shelf Go.RowKit Go.Lib Go.Sort
variable {α : Type} [Inhabited α]
structure Types : Prop where
  mixed : Tryz.prog.follows .mixedOrders = true
  aE : ∀ w, (isAgg 61).run Tryz.prog w = .ok true w
  uS : ∀ w, (underlying 29).run Tryz.prog w = .ok (TypeDesc.slice 61) w
  aS : ∀ w, (isAgg 29).run Tryz.prog w = .ok false w
  zS : ∀ w, (Go.sizeOf 29).run Tryz.prog w = .ok 1 w
theorem types : Types := ⟨by kernel_rfl, fun w => by kernel_rfl, fun w => by kernel_rfl, fun w => by kernel_rfl, fun w => by kernel_rfl⟩

structure Aside0R (enc : α → List Value) (k : Nat) (w0 : World) (blk off : Nat) (d0 : Array α) (sz : Nat) : Prop where mk ::
  R : RowK enc k w0 blk off d0
  hs : d0.size = sz
  hsz : sz < 4611686018427387904
theorem sizeK (w : World) : (Go.sizeOf 61).run Tryz.prog w = .ok 2 w := by kernel_rfl

set_option maxHeartbeats 4000000 in
set_option maxRecDepth 1000000 in
theorem swapRange (k : Nat) (zE : ∀ w, (Go.sizeOf 61).run Tryz.prog w = .ok k w) (enc : α → List Value) (g : Nat) (cb : Array Value) (blk off cap : Nat) (d0 d : Array α) (w0 w : World) (P X M Y Q : List α)
    (R : RowK enc k w0 blk off d0) (hs : d0.size = d.size) (S : SWK enc k w0 blk off d w) (hd : d.toList = P ++ X ++ M ++ Y ++ Q) (hXY : X.length = Y.length) (hsz : d.size < 4611686018427387904) :
    Calls Tryz.prog 126 #[.slice (some ⟨blk, off, none⟩) d.size cap, .int .i64 P.length, .int .i64 (P.length + X.length + M.length : Nat), .int .i64 X.length, .func (.func g) #[] cb] w fun e w' =>
      e = .returned (.tuple #[]) ∧ ∃ d' : Array α, d'.toList = P ++ Y ++ M ++ X ++ Q ∧ SWK enc k w0 blk off d' w' := by
  have mixed := types.mixed
  have aE := types.aE
  have uS := types.uS
  have S0 : Aside (SWK enc k w0 blk off d w) := S
  have hlen : d.size = P.length + X.length + M.length + Y.length + Q.length := by rw [← Array.length_toList, hd]; simp only [List.length_append]
  clear S
  go_enter Tryz.func126, Tryz.ntmps126
  go_wp2
  go_loopg [10] X.length (fun kx s10 wr => ∃ (i : Nat) (dk : Array α) (Xa Xb Ya Yb : List α), s10 = .int .i64 i ∧ X = Xa ++ Xb ∧ Y = Ya ++ Yb ∧ Xa.length = i ∧ Ya.length = i ∧ X.length - i ≤ kx ∧ Hid (dk.toList = P ++ Ya ++ Xb ++ M ++ Xa ++ Yb ++ Q) ∧ Aside (SWK enc k w0 blk off dk wr))
  case atStart => exact ⟨0, d, [], X, [], Y, rfl, rfl, rfl, rfl, rfl, by omega, by show d.toList = _; rw [hd]; simp, S0⟩
  case round =>
    clear S0
    obtain ⟨i, dk, Xa, Xb, Ya, Yb, rfl, rfl, rfl, hXa, hYa, hkx, HD, S1⟩ := hrel
    have hds : dk.size = d.size := by rw [hlen, ← Array.length_toList, HD.out]; simp only [List.length_append] at *; omega
    cases Xb with
    | nil =>
      have hYb : Yb = [] := by cases Yb with
        | nil => rfl
        | cons y Yb => simp only [List.length_append, List.length_cons, List.length_nil] at hXY; omega
      subst hYb
      have hlt : ¬ (i : Int) < ((Xa ++ []).length : Int) := by simp only [List.append_nil]; omega
      go_wp2
      go_end0
      exact ⟨rfl, dk, by rw [HD.out]; simp, S1.out⟩
    | cons x Xb =>
      cases Yb with
      | nil => simp only [List.length_append, List.length_cons, List.length_nil] at hXY; omega
      | cons y Yb =>
        have hlt : (i : Int) < ((Xa ++ x :: Xb).length : Int) := by simp only [List.length_append, List.length_cons]; omega
        have hX : (Xa ++ x :: Xb).length = i + 1 + Xb.length := by simp only [List.length_append, List.length_cons]; omega
        have hY : (Ya ++ y :: Yb).length = i + 1 + Yb.length := by simp only [List.length_append, List.length_cons]; omega
        generalize hN : (Xa ++ x :: Xb).length = N at *
        have HX : Aside (N = i + 1 + Xb.length) := hX
        have HXY : Aside (Ya.length = i ∧ Xa.length = i) := ⟨hYa, hXa⟩
        have b1 : (P.length : Int) + (i : Int) < (d.size : Int) ∧ ((P.length + N + M.length : Nat) : Int) + (i : Int) < (d.size : Int) := by omega
        have b2 : dk.size = d0.size ∧ P.length + i < dk.size ∧ P.length + N + M.length + i < dk.size := by omega
        have HS : Aside (dk.size = d0.size ∧ P.length + i < dk.size ∧ P.length + N + M.length + i < dk.size) := b2
        clear hX hY hXY hN hlen hds hs hd hXa hYa b2
        go_wp2_with fail
        have ea44 : ((P.length : Int) + (i : Int)).toNat = P.length + i := by omega
        have pa44 : (0 : Int) ≤ (P.length : Int) + (i : Int) := by omega
        have ba44 : (P.length : Int) + (i : Int) < (d.size : Int) := b1.1
        have ra44 : IntKind.i64.wrap ((P.length : Int) + (i : Int)) = (P.length : Int) + (i : Int) := by rw [IntKind.wrap_i64]; omega
        have ec44 : (((P.length + N + M.length : Nat) : Int) + (i : Int)).toNat = P.length + N + M.length + i := by omega
        have pc44 : (0 : Int) ≤ ((P.length + N + M.length : Nat) : Int) + (i : Int) := by omega
        have bc44 : ((P.length + N + M.length : Nat) : Int) + (i : Int) < (d.size : Int) := b1.2
        have rc44 : IntKind.i64.wrap (((P.length + N + M.length : Nat) : Int) + (i : Int)) = ((P.length + N + M.length : Nat) : Int) + (i : Int) := by rw [IntKind.wrap_i64]; omega
        have S2 : Aside (SWK enc k w0 blk off (swp dk (P.length + i) (P.length + N + M.length + i)) ((wr.drew.setCells blk (off + (P.length + i) * k) (enc dk[P.length + N + M.length + i]!)).setCells blk (off + (P.length + N + M.length + i) * k) (enc dk[P.length + i]!))) := S1.out.swapped R (P.length + i) (P.length + N + M.length + i) HS.out.2.1 HS.out.2.2
        have l44a := S1.out.ld1 R HS.out.1 Tryz.prog (P.length + i) HS.out.2.1
        have l44b := S1.out.ld1 R HS.out.1 Tryz.prog (P.length + N + M.length + i) HS.out.2.2
        have s44a := S1.out.st1 R HS.out.1 Tryz.prog (P.length + i) HS.out.2.1 dk[P.length + N + M.length + i]!
        have s44b := S1.out.st2 R HS.out.1 Tryz.prog (P.length + i) (P.length + N + M.length + i) HS.out.2.1 HS.out.2.2 dk[P.length + N + M.length + i]! dk[P.length + i]!
        have n44a : (enc dk[P.length + i]!).length = k := R.hk _
        have n44b : (enc dk[P.length + N + M.length + i]!).length = k := R.hk _
        generalize enc dk[P.length + i]! = cI44 at S2 l44a s44b n44a
        generalize enc dk[P.length + N + M.length + i]! = cJ44 at S2 l44b s44a s44b n44b
        clear S1
        go_wp2_with fail
        go_big_region_o
        clear l44a l44b s44a s44b
        generalize (wr.drew.setCells blk (off + (P.length + i) * k) cJ44).setCells blk (off + (P.length + N + M.length + i) * k) cI44 = w2 at S2 ⊢
        go_wp2
        go_roundg (N - (i + 1))
        case measure => omega
        case rel =>
          have hX := HX.out
          have hYa := HXY.out.1
          have hXa := HXY.out.2
          refine ⟨i + 1, _, Xa ++ [x], Xb, Ya ++ [y], Yb, by go_num, by simp, by simp, by simp; omega, by simp; omega, Nat.le_refl _, ?_, S2⟩
          show _ = _
          have := (swp_list (A := P ++ Ya) (B := Xb ++ M ++ Xa) (C := Yb ++ Q) (x := x) (y := y) (d := dk) (by rw [HD.out]; simp) (i := P.length + i) (j := P.length + N + M.length + i) (by rw [List.length_append]; omega) (by simp only [List.length_append]; omega)).1
          rw [this]
          simp
end Go.Proofs.YtfboejlemnfndaaGreatDoor.Srt
end
section
namespace Go.Proofs.YtfboejlemnfndaaGreatDoor.Srt
open Go.Shelf Go.RowKit Go.Lib Go.Sort
variable {α : Type} [Inhabited α]
omit [Inhabited α] in
theorem size_of {d : Array α} {l : List α} (h : d.toList = l) : d.size = l.length := by rw [← Array.length_toList, h]
theorem swapRange_c (k : Nat) (zE : ∀ w, (Go.sizeOf 61).run Tryz.prog w = .ok k w) (enc : α → List Value) (g : Nat) (cb : Array Value) (blk off cap sz : Nat) (a b n : Int) (d0 d : Array α) (w0 w : World) (P X M Y Q : List α)
    (R : RowK enc k w0 blk off d0) (hs : d0.size = sz) (S : SWK enc k w0 blk off d w) (hd : d.toList = P ++ X ++ M ++ Y ++ Q) (hXY : X.length = Y.length) (hds : d.size = sz) (hsz : sz < 4611686018427387904) (ha : a = P.length) (hb : b = (P.length + X.length + M.length : Nat)) (hn : n = X.length) :
    Calls Tryz.prog 126 #[.slice (some ⟨blk, off, none⟩) sz cap, .int .i64 a, .int .i64 b, .int .i64 n, .func (.func g) #[] cb] w fun e w' =>
      e = .returned (.tuple #[]) ∧ ∃ d' : Array α, Hid (d'.toList = P ++ Y ++ M ++ X ++ Q) ∧ Aside (SWK enc k w0 blk off d' w') := by
  subst ha hb hn
  subst hds
  exact swapRange k zE enc g cb blk off cap d0 d w0 w P X M Y Q R hs S hd hXY hsz

set_option maxHeartbeats 4000000 in
set_option maxRecDepth 1000000 in
theorem rotate_c (k : Nat) (zE : ∀ w, (Go.sizeOf 61).run Tryz.prog w = .ok k w) (enc : α → List Value) (g : Nat) (cb : Array Value) (blk off cap sz : Nat) (a m b : Int) (d0 d : Array α) (w0 w : World) (P X Y Q : List α)
    (R : RowK enc k w0 blk off d0) (hs : d0.size = sz) (S : SWK enc k w0 blk off d w) (hd : d.toList = P ++ X ++ Y ++ Q) (hds : d.size = sz) (hsz : sz < 4611686018427387904) (ha : a = P.length) (hm : m = (P.length + X.length : Nat)) (hb : b = (P.length + X.length + Y.length : Nat)) (hX : 0 < X.length) (hY : 0 < Y.length) :
    Calls Tryz.prog 110 #[.slice (some ⟨blk, off, none⟩) sz cap, .int .i64 a, .int .i64 m, .int .i64 b, .func (.func g) #[] cb] w fun e w' =>
      e = .returned (.tuple #[]) ∧ ∃ d' : Array α, Hid (d'.toList = P ++ Y ++ X ++ Q) ∧ Aside (SWK enc k w0 blk off d' w') := by
  have mixed := types.mixed
  have S0 : Aside (SWK enc k w0 blk off d w) := S
  have HR := Aside0R.mk R hs hsz
  have hlen := size_of hd
  simp only [List.length_append] at hlen
  have w1 : IntKind.i64.wrap (m - a) = (X.length : Int) := by rw [IntKind.wrap_i64]; omega
  have w2 : IntKind.i64.wrap (b - m) = (Y.length : Int) := by rw [IntKind.wrap_i64]; omega
  have w1' : m - a = (X.length : Int) := by omega
  have w2' : b - m = (Y.length : Int) := by omega
  have HD : Hid (d.toList = P ++ X ++ Y ++ Q) := hd
  have HDS : Aside (d.size = sz) := hds
  have HM : Aside (m = (P.length + X.length : Nat)) := hm
  have HL : Aside (P.length + X.length + Y.length ≤ sz) := by show _ ≤ _; omega
  clear S hs hd hds hsz ha hb hm hlen R
  go_enter Tryz.func110, Tryz.ntmps110
  go_wp2
  go_loopg [10, 11] (X.length + Y.length) (fun kx s10 s11 wr => ∃ (P' X' Y' Q' : List α) (dk : Array α), s10 = .int .i64 X'.length ∧ s11 = .int .i64 Y'.length ∧ 0 < X'.length ∧ 0 < Y'.length ∧ X'.length + Y'.length ≤ kx ∧
    Hid (dk.toList = P' ++ X' ++ Y' ++ Q') ∧ Hid (P' ++ Y' ++ X' ++ Q' = P ++ Y ++ X ++ Q) ∧ Aside (P'.length + X'.length = P.length + X.length) ∧ Aside (dk.size = sz) ∧ Aside (SWK enc k w0 blk off dk wr))
  case atStart =>
    have q1 := HR.hsz
    have q2 : P.length + X.length + Y.length ≤ sz := HL.out
    exact ⟨P, X, Y, Q, d, by congr 1; unfold wrap64; omega, by congr 1; unfold wrap64; omega, hX, hY, Nat.le_refl _, HD, rfl, rfl, HDS, S0⟩
  case round =>
    clear S0 HD w1 w2 w1' w2' hX hY HL HDS
    obtain ⟨P', X', Y', Q', dk, rfl, rfl, hX, hY, hkx, HD, HT, HP, HS, S1⟩ := hrel
    have hl : P'.length + X'.length + Y'.length ≤ sz := by
      have e := size_of HD.out
      rw [HS.out] at e
      simp only [List.length_append] at e
      omega
    have hmm : m = (P'.length : Int) + (X'.length : Int) := by have := HM.out; have := HP.out; omega
    have hz := HR.hsz
    clear HM
    subst hmm
    have b1 : IntKind.i64.wrap ((P'.length : Int) + (X'.length : Int) - (X'.length : Int)) = (P'.length : Int) := by rw [IntKind.wrap_i64]; omega
    have b2 : IntKind.i64.wrap ((P'.length : Int) + (X'.length : Int) + (Y'.length : Int)) = (P'.length : Int) + (X'.length : Int) + (Y'.length : Int) := by rw [IntKind.wrap_i64]; omega
    by_cases hne : X'.length = Y'.length
    · have hz : ((X'.length : Int) != (Y'.length : Int)) = false := by rw [hne]; simp
      have HNE : Aside (X'.length = Y'.length) := hne
      clear hne
      go_wp2_with fail
      refine (swapRange_c k zE enc g cb blk off cap sz _ _ _ d0 dk w0 wr P' X' [] Y' Q' HR.R HR.hs S1.out (by rw [HD.out]; simp) HNE.out HS.out HR.hsz ?_ ?_ ?_).mono ?_
      · first | rfl | omega | (unfold wrap64; omega)
      · first | rfl | (simp; done) | (simp; omega) | (unfold wrap64; simp; omega)
      · first | rfl | omega | (unfold wrap64; omega)
      · rintro e w1 ⟨rfl, d1, hd1, S2⟩
        go_wp2
        go_end0
        refine ⟨rfl, d1, ?_, S2⟩
        show _ = _
        rw [hd1.out, ← HT.out]
        simp
    · have hz : ((X'.length : Int) != (Y'.length : Int)) = true := bne_iff_ne.2 (by omega)
      by_cases hgt : Y'.length < X'.length
      · have hg : decide ((X'.length : Int) > (Y'.length : Int)) = true := decide_eq_true (by omega)
        go_wp2_with fail
        refine (swapRange_c k zE enc g cb blk off cap sz _ _ _ d0 dk w0 wr P' (X'.take Y'.length) (X'.drop Y'.length) Y' Q' HR.R HR.hs S1.out (by rw [HD.out]; simp only [List.append_assoc]; rw [← List.append_assoc (X'.take _), List.take_append_drop]) (by rw [List.length_take]; omega) HS.out HR.hsz ?_ ?_ ?_).mono ?_
        · first | rfl | omega | (unfold wrap64; omega)
        · simp only [List.length_take, List.length_drop]; first | omega | (unfold wrap64; omega)
        · simp only [List.length_take]; first | omega | (unfold wrap64; omega)
        · rintro e w1 ⟨rfl, d1, hd1, S2⟩
          go_wp2
          go_roundg (X'.length)
          case measure => omega
          case rel =>
            refine ⟨P' ++ Y', X'.drop Y'.length, X'.take Y'.length, Q', d1, ?_, ?_, ?_, ?_, ?_, ?_, ?_, ?_, ?_, S2⟩
            · rw [List.length_drop]; congr 1; first | omega | (unfold wrap64; omega)
            · rw [List.length_take]; congr 1; first | omega | (unfold wrap64; omega)
            · rw [List.length_drop]; omega
            · rw [List.length_take]; omega
            · rw [List.length_drop, List.length_take]; omega
            · exact hd1
            · show _ = _
              rw [← HT.out]
              simp only [List.append_assoc]
              rw [← List.append_assoc (X'.take _), List.take_append_drop]
            · show _ = _
              have := HP.out
              rw [List.length_append, List.length_drop]; omega
            · show _ = _
              rw [size_of hd1.out, ← HS.out, size_of HD.out]
              simp only [List.length_append, List.length_take, List.length_drop]; omega
      · have hg : decide ((X'.length : Int) > (Y'.length : Int)) = false := decide_eq_false (by omega)
        have b3 : IntKind.i64.wrap ((P'.length : Int) + (X'.length : Int) + (Y'.length : Int) - (X'.length : Int)) = (P'.length : Int) + (Y'.length : Int) := by rw [IntKind.wrap_i64]; omega
        go_wp2_with fail
        refine (swapRange_c k zE enc g cb blk off cap sz _ _ _ d0 dk w0 wr P' X' (Y'.take (Y'.length - X'.length)) (Y'.drop (Y'.length - X'.length)) Q' HR.R HR.hs S1.out (by rw [HD.out]; simp only [List.append_assoc]; rw [← List.append_assoc (Y'.take _), List.take_append_drop]) (by rw [List.length_drop]; omega) HS.out HR.hsz ?_ ?_ ?_).mono ?_
        · first | rfl | omega | (unfold wrap64; omega)
        · simp only [List.length_take]; first | omega | (unfold wrap64; omega)
        · first | rfl | omega | (unfold wrap64; omega)
        · rintro e w1 ⟨rfl, d1, hd1, S2⟩
          go_wp2
          go_roundg (Y'.length)
          case measure => omega
          case rel =>
            refine ⟨P', Y'.drop (Y'.length - X'.length), Y'.take (Y'.length - X'.length), X' ++ Q', d1, ?_, ?_, ?_, ?_, ?_, ?_, ?_, ?_, ?_, S2⟩
            · rw [List.length_drop]; congr 1; first | omega | (unfold wrap64; omega)
            · rw [List.length_take]; congr 1; first | omega | (unfold wrap64; omega)
            · rw [List.length_drop]; omega
            · rw [List.length_take]; omega
            · rw [List.length_drop, List.length_take]; omega
            · show _ = _
              rw [hd1.out]; simp only [List.append_assoc]
            · show _ = _
              rw [← HT.out]
              simp only [List.append_assoc]
              rw [← List.append_assoc (Y'.take _), List.take_append_drop]
            · show _ = _
              have := HP.out
              rw [List.length_drop]; omega
            · show _ = _
              rw [size_of hd1.out, ← HS.out, size_of HD.out]
              simp only [List.length_append, List.length_take, List.length_drop]; omega
end Go.Proofs.YtfboejlemnfndaaGreatDoor.Srt
end
