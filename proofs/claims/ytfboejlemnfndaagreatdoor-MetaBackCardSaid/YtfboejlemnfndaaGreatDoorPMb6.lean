/- Put together by wip/pack.py (this session's own program) out of this session's texts; a kit's tool laid the words and the shelf, of which only what is used stands here. Lean checks it. -/
import Derived.Test.YtfboejlemnfndaaGreatDoorPMb5
import Derived.Lib.Hide
section
namespace Go.Proofs.YtfboejlemnfndaaGreatDoor.XMb
open Go.RowKit Go.Proofs.YtfboejlemnfndaaGreatDoorW.PrintWords Go.Proofs.YtfboejlemnfndaaGreatDoorW.PrintLast Go.Proofs.YtfboejlemnfndaaGreatDoorW.PrintMore
attribute [local go_sem] extract_sub max2_int min2_int max_two min_two max_three min_three max_four min_four   -- for this text's walks alone
set_option linter.unusedVariables false
set_option linter.unusedSimpArgs false

noncomputable section
def meta_Number.j0 : Nat → Int → ByteArray → Bool → Option (Int × Int × Bool)
 | 0, _, _, _ => none
 | k + 1, x1, x7, x33 => if x33 = true then ((digits_Parse.f x7).bind fun bt223 => (if bt223.2 = 0 then (if x1 = 70 then (if bt223.1 > 4294967295 then (some (0, 0, false)) else (some (0, bt223.1, true))) else (some (0, bt223.1, true))) else (some (0, 0, false)))) else (some (0, 0, false))
def meta_Number.f (k : Nat) (a0_0 : Int) (a0_1 : ByteArray) (a0_2 : Int) (l0_3 : List (S61)) (a1 : Int) : Option (Int × Int × Bool) := (meta_Find.f a0_0 a0_1 a0_2 l0_3 a1).bind fun bt218 => (if bt218.2 = true then ((meta_sortOf.f k a1).bind fun t220 => (if t220 = 3 then ((digits_Signed.f k bt218.1).bind fun bt221 => (some (bt221.1, 0, (bt221.2 == 0)))) else (if t220 = 1 then (meta_Number.j0 k a1 bt218.1 (t220 == 1)) else (meta_Number.j0 k a1 bt218.1 (t220 == 2))))) else (some (0, 0, false)))
theorem meta_Number.mono_l : ∀ k, (∀ y0 y1 y2, LeO (meta_Number.j0 k y0 y1 y2) (meta_Number.j0 (k + 1) y0 y1 y2))
 | 0 => fun _ _ _ r h => by simp [meta_Number.j0] at h
 | k + 1 => by
  have ih0 := meta_Number.mono_l k
  · intro y0 y1 y2
    unfold meta_Number.j0
    repeat' first
    | (with_reducible exact ih0 _ _ _)
    | (with_reducible exact digits_Signed.mono _ _)
    | (with_reducible exact meta_sortOf.mono _ _)
    | (with_reducible exact LeO.refl _)
    | (with_reducible exact LeO.none _)
    | (with_reducible refine LeO.ite ?_ ?_)
    | (with_reducible refine LeO.bind ?_ (fun _ => ?_))
    | exact ih0 _ _ _
    | exact digits_Signed.mono _ _
    | exact meta_sortOf.mono _ _
    | exact LeO.none _
    | refine LeO.ite ?_ ?_
    | refine LeO.bind ?_ (fun _ => ?_)
theorem meta_Number.mono : ∀ a0 a1 a2 a3 a4 k, LeO (meta_Number.f k a0 a1 a2 a3 a4) (meta_Number.f (k + 1) a0 a1 a2 a3 a4) := by
 intro a0 a1 a2 a3 a4 k
 have ih0 := meta_Number.mono_l k
 unfold meta_Number.f
 repeat' first
  | (with_reducible exact ih0 _ _ _)
  | (with_reducible exact digits_Signed.mono _ _)
  | (with_reducible exact meta_sortOf.mono _ _)
  | (with_reducible exact LeO.refl _)
  | (with_reducible exact LeO.none _)
  | (with_reducible refine LeO.ite ?_ ?_)
  | (with_reducible refine LeO.bind ?_ (fun _ => ?_))
  | exact ih0 _ _ _
  | exact digits_Signed.mono _ _
  | exact meta_sortOf.mono _ _
  | exact LeO.none _
  | refine LeO.ite ?_ ?_
  | refine LeO.bind ?_ (fun _ => ?_)
set_option maxHeartbeats 8000000 in
set_option maxRecDepth 100000 in
theorem meta_Number.calls (k : Nat) (a0_0 : Int) (a0_1 : ByteArray) (a0_2 : Int) (A0_3 : Option Addr) (c0_3 : Nat) (l0_3 : List (S61)) (a1 : Int) (r1 : Int) (r2 : Int) (r3 : Bool) (w : World) (hr0_3 : Kd.C k61 w A0_3 l0_3.length l0_3) (hc0_3 : l0_3.length ≤ c0_3) (hv : Vars w) (h : meta_Number.f k a0_0 a0_1 a0_2 l0_3 a1 = some (r1, r2, r3)) :
 Calls Tryz.prog 13 #[.agg #[.int .i64 a0_0, .string a0_1, .int .i64 a0_2, .slice A0_3 l0_3.length c0_3], .int .u8 a1] w fun e w' => e = .returned (.tuple #[.int .i64 r1, .int .u64 r2, .bool r3]) ∧ Below w.heap.size w w' := by
 have hu31 := Tryz.underlying31
 have HV := Aside0.mk hv
 clear hv
 have HR0_3 := Aside0.mk hr0_3
 have HC0_3 := Aside0.mk hc0_3
 clear hr0_3 hc0_3
 have HB := Aside0.mk (Below.refl w.heap.size w)
 have H : ((meta_Find.f a0_0 a0_1 a0_2 l0_3 a1).bind fun bt218 => (if bt218.2 = true then ((meta_sortOf.f k a1).bind fun t220 => (if t220 = 3 then ((digits_Signed.f k bt218.1).bind fun bt221 => (some (bt221.1, 0, (bt221.2 == 0)))) else (if t220 = 1 then (meta_Number.j0 k a1 bt218.1 (t220 == 1)) else (meta_Number.j0 k a1 bt218.1 (t220 == 2))))) else (some (0, 0, false)))) = some (r1, r2, r3) := h
 clear h
 replace H := Option.bind_eq_some_iff.mp H
 obtain ⟨⟨t218, t219⟩, A30, H⟩ := H
 replace H : (if t219 = true then ((meta_sortOf.f k a1).bind fun t220 => (if t220 = 3 then ((digits_Signed.f k t218).bind fun bt221 => (some (bt221.1, 0, (bt221.2 == 0)))) else (if t220 = 1 then (meta_Number.j0 k a1 t218 (t220 == 1)) else (meta_Number.j0 k a1 t218 (t220 == 2))))) else (some (0, 0, false))) = some (r1, r2, r3) := H
 have A3 := Aside0.mk A30
 clear A30
 by_cases c4 : t219 = true
 · subst c4
   have H1 : ((meta_sortOf.f k a1).bind fun t220 => (if t220 = 3 then ((digits_Signed.f k t218).bind fun bt221 => (some (bt221.1, 0, (bt221.2 == 0)))) else (if t220 = 1 then (meta_Number.j0 k a1 t218 (t220 == 1)) else (meta_Number.j0 k a1 t218 (t220 == 2))))) = some (r1, r2, r3) := by rw [if_pos rfl] at H; exact H
   clear H
   have H := H1
   clear H1
   replace H := Option.bind_eq_some_iff.mp H
   obtain ⟨t220, A50, H⟩ := H
   replace H : (if t220 = 3 then ((digits_Signed.f k t218).bind fun bt221 => (some (bt221.1, 0, (bt221.2 == 0)))) else (if t220 = 1 then (meta_Number.j0 k a1 t218 (t220 == 1)) else (meta_Number.j0 k a1 t218 (t220 == 2)))) = some (r1, r2, r3) := H
   have A5 := Aside0.mk A50
   clear A50
   by_cases c6 : t220 = 3
   · rw [if_pos c6] at H
     have c6b0 : (t220 == 3) = true := beq_iff_eq.mpr c6
     have c6b1 : (t220 != 3) = false := bne_eq_false_iff_eq.mpr c6
     clear c6
     replace H := Option.bind_eq_some_iff.mp H
     obtain ⟨⟨t221, t222⟩, A70, H⟩ := H
     replace H : (some (t221, 0, (t222 == 0))) = some (r1, r2, r3) := H
     have A7 := Aside0.mk A70
     clear A70
     simp only [Option.some.injEq, Prod.mk.injEq] at H
     obtain ⟨rfl, rfl, rfl⟩ := H
     go_enter Tryz.func13, Tryz.ntmps13
     go_wp2_with (first | ((with_reducible refine gate_dst (N := 2) rfl ?_); refine box_event ?hg (N := 2) ?hd (cs := #[.int .i64 a0_0, .string a0_1, .int .i64 a0_2, .slice A0_3 l0_3.length c0_3]) (t := 31) ?hr ?_; (case hd => rfl); (case hg => rfl); (case hr => first | (go_simp; done) | (go_simp; rfl)); intro gb217 hg w8 hbox hb; have n0_ := Aside0.mk (below_step (by repeat (first | (with_reducible first | exact HB.out | apply below_alloc | apply pw_below_drewN | apply below_drew1) | exact HB.out)) hb); have n1_ := Aside0.mk (hbox); have n2_ := Aside0.mk ((by rw [hg]; exact (below_size (by repeat (first | (with_reducible first | exact HB.out | apply below_alloc | apply pw_below_drewN | apply below_drew1) | exact HB.out))) : w.heap.size ≤ gb217)); have n3_ := Aside0.mk ((by rw [hg]; exact (below_size (by repeat (first | (with_reducible first | exact HB.out | apply below_alloc | apply pw_below_drewN | apply below_drew1) | exact HB.out))) : w.heap.size ≤ gb217)); clear HB; have HB := n0_; have BK217 := n1_; have GW217 := n2_; have GE217 := n3_; clear n0_ n1_ n2_ n3_; clear hb hbox hg; have hcz9_0 : w8.cell? ⟨gb217, 0, none⟩ = some (.int .i64 a0_0) := (blk_cell BK217.out 0).trans rfl; have hcz9_1 : w8.cell? ⟨gb217, 1, none⟩ = some (.string a0_1) := (blk_cell BK217.out 1).trans rfl; have hcz9_2 : w8.cell? ⟨gb217, 2, none⟩ = some (.int .i64 a0_2) := (blk_cell BK217.out 2).trans rfl; have hcz9_3 : w8.cell? ⟨gb217, 3, none⟩ = some (.slice A0_3 l0_3.length c0_3) := (blk_cell BK217.out 3).trans rfl; have hfz9_0 := blk_frozen BK217.out 0; have hfz9_1 := blk_frozen BK217.out 1; have hfz9_2 := blk_frozen BK217.out 2; have hfz9_3 := blk_frozen BK217.out 3) | ((with_reducible refine gate_callee (f := 15) rfl ?_); refine goesL_ (some 16) rfl rfl Tryz.func15 (by kernel_rfl) rfl #[.agg #[.int .i64 a0_0, .string a0_1, .int .i64 a0_2, .slice A0_3 l0_3.length c0_3], .int .u8 a1] rfl (by (try simp only [List.map_toArray, List.map_cons, List.map_nil]); first | done | rfl | (simp only [List.length_drop, List.length_take]; rfl) | (simp only [IntKind.wrap_u64]; rw [Int.emod_eq_of_lt (by omega) (by omega)]; rfl) | (simp only [ByteArray.size_extract]; done) | (simp only [ByteArray.size_extract]; rfl)) ?_; (with_reducible refine (meta_Find.calls a0_0 a0_1 a0_2 _ _ l0_3 a1 t218 true _ ?side1 ?side2 A3.out).mono ?_); (case side1 => repeat (first | exact (Kd.C_below HR0_3.out HB.out) | (with_reducible refine Kd.C_alloc ?_ _) | (with_reducible refine Kd.C_drewN ?_ _) | (with_reducible refine Kd.C_drew ?_))); (case side2 => exact HC0_3.out); rintro e w10 ⟨rfl, hb⟩; refine ⟨_, rfl, ?_⟩; have n0_ := Aside0.mk (blk_below (g := gb217) (o := .cells #[.int .i64 a0_0, .string a0_1, .int .i64 a0_2, .slice A0_3 l0_3.length c0_3] 31 (0, 0)) (by (with_reducible repeat (first | refine blk_drewN ?_ _ | refine blk_drew ?_ | refine blk_alloc ?_ _)); exact BK217.out) hb); have n1_ := Aside0.mk (below_step (by repeat (first | (with_reducible first | exact HB.out | apply below_alloc | apply pw_below_drewN | apply below_drew1 | refine below_set ?_ GE217.out) | exact HB.out)) hb); clear BK217; clear HB; have BK217 := n0_; have HB := n1_; clear n0_ n1_; (try clear hb); (try clear hb2); (try clear hk); (try clear hi)) | ((with_reducible refine gate_callee (f := 36) rfl ?_); refine goesL_ (some 22) rfl rfl Tryz.func36 (by kernel_rfl) rfl #[.int .u8 a1] rfl (by (try simp only [List.map_toArray, List.map_cons, List.map_nil]); first | done | rfl | (simp only [List.length_drop, List.length_take]; rfl) | (simp only [IntKind.wrap_u64]; rw [Int.emod_eq_of_lt (by omega) (by omega)]; rfl) | (simp only [ByteArray.size_extract]; done) | (simp only [ByteArray.size_extract]; rfl)) ?_; (with_reducible refine (meta_sortOf.calls k a1 t220 _ A5.out).mono ?_); rintro e w' ⟨rfl, ⟨nd, rfl⟩⟩; refine ⟨_, rfl, ?_⟩) | ((with_reducible refine gate_callee (f := 37) rfl ?_); refine goesL_ (some 27) rfl rfl Tryz.func37 (by kernel_rfl) rfl #[.string t218] rfl (by (try simp only [List.map_toArray, List.map_cons, List.map_nil]); first | done | rfl | (simp only [List.length_drop, List.length_take]; rfl) | (simp only [IntKind.wrap_u64]; rw [Int.emod_eq_of_lt (by omega) (by omega)]; rfl) | (simp only [ByteArray.size_extract]; done) | (simp only [ByteArray.size_extract]; rfl)) ?_; (with_reducible refine (digits_Signed.calls k t218 t221 t222 _ ?side1 A7.out).mono ?_); (case side1 => exact Vars.below HV.out (by repeat (first | (with_reducible first | exact HB.out | apply below_alloc | apply pw_below_drewN | apply below_drew1 | refine below_set ?_ GE217.out) | exact HB.out))); rintro e w11 ⟨rfl, hb⟩; refine ⟨_, rfl, ?_⟩; have n0_ := Aside0.mk (blk_below (g := gb217) (o := .cells #[.int .i64 a0_0, .string a0_1, .int .i64 a0_2, .slice A0_3 l0_3.length c0_3] 31 (0, 0)) (by (with_reducible repeat (first | refine blk_drewN ?_ _ | refine blk_drew ?_ | refine blk_alloc ?_ _)); exact BK217.out) hb); have n1_ := Aside0.mk (below_step (by repeat (first | (with_reducible first | exact HB.out | apply below_alloc | apply pw_below_drewN | apply below_drew1 | refine below_set ?_ GE217.out) | exact HB.out)) hb); clear BK217; clear HB; have BK217 := n0_; have HB := n1_; clear n0_ n1_; (try clear hb); (try clear hb2); (try clear hk); (try clear hi)))
     go_ret3
     exact ⟨by first | rfl | (simp [errW_none, errW_some] <;> rfl) | (simp [*, errW_none, errW_some] <;> rfl), by repeat (first | (with_reducible first | exact HB.out | apply below_alloc | apply pw_below_drewN | apply below_drew1 | refine below_set ?_ GE217.out) | exact HB.out)⟩
   · rw [if_neg c6] at H
     have c6b0 : (t220 == 3) = false := beq_eq_false_iff_ne.mpr c6
     have c6b1 : (t220 != 3) = true := bne_iff_ne.mpr c6
     have HC12 := Aside0.mk H
     clear H
     go_enter Tryz.func13, Tryz.ntmps13
     go_upto_if 33 with (first | ((with_reducible refine gate_dst (N := 2) rfl ?_); refine box_event ?hg (N := 2) ?hd (cs := #[.int .i64 a0_0, .string a0_1, .int .i64 a0_2, .slice A0_3 l0_3.length c0_3]) (t := 31) ?hr ?_; (case hd => rfl); (case hg => rfl); (case hr => first | (go_simp; done) | (go_simp; rfl)); intro gb217 hg w13 hbox hb; have n0_ := Aside0.mk (below_step (by repeat (first | (with_reducible first | exact HB.out | apply below_alloc | apply pw_below_drewN | apply below_drew1) | exact HB.out)) hb); have n1_ := Aside0.mk (hbox); have n2_ := Aside0.mk ((by rw [hg]; exact (below_size (by repeat (first | (with_reducible first | exact HB.out | apply below_alloc | apply pw_below_drewN | apply below_drew1) | exact HB.out))) : w.heap.size ≤ gb217)); have n3_ := Aside0.mk ((by rw [hg]; exact (below_size (by repeat (first | (with_reducible first | exact HB.out | apply below_alloc | apply pw_below_drewN | apply below_drew1) | exact HB.out))) : w.heap.size ≤ gb217)); clear HB; have HB := n0_; have BK217 := n1_; have GW217 := n2_; have GE217 := n3_; clear n0_ n1_ n2_ n3_; clear hb hbox hg; have hcz14_0 : w13.cell? ⟨gb217, 0, none⟩ = some (.int .i64 a0_0) := (blk_cell BK217.out 0).trans rfl; have hcz14_1 : w13.cell? ⟨gb217, 1, none⟩ = some (.string a0_1) := (blk_cell BK217.out 1).trans rfl; have hcz14_2 : w13.cell? ⟨gb217, 2, none⟩ = some (.int .i64 a0_2) := (blk_cell BK217.out 2).trans rfl; have hcz14_3 : w13.cell? ⟨gb217, 3, none⟩ = some (.slice A0_3 l0_3.length c0_3) := (blk_cell BK217.out 3).trans rfl; have hfz14_0 := blk_frozen BK217.out 0; have hfz14_1 := blk_frozen BK217.out 1; have hfz14_2 := blk_frozen BK217.out 2; have hfz14_3 := blk_frozen BK217.out 3) | ((with_reducible refine gate_callee (f := 15) rfl ?_); refine goesL_ (some 16) rfl rfl Tryz.func15 (by kernel_rfl) rfl #[.agg #[.int .i64 a0_0, .string a0_1, .int .i64 a0_2, .slice A0_3 l0_3.length c0_3], .int .u8 a1] rfl (by (try simp only [List.map_toArray, List.map_cons, List.map_nil]); first | done | rfl | (simp only [List.length_drop, List.length_take]; rfl) | (simp only [IntKind.wrap_u64]; rw [Int.emod_eq_of_lt (by omega) (by omega)]; rfl) | (simp only [ByteArray.size_extract]; done) | (simp only [ByteArray.size_extract]; rfl)) ?_; (with_reducible refine (meta_Find.calls a0_0 a0_1 a0_2 _ _ l0_3 a1 t218 true _ ?side1 ?side2 A3.out).mono ?_); (case side1 => repeat (first | exact (Kd.C_below HR0_3.out HB.out) | (with_reducible refine Kd.C_alloc ?_ _) | (with_reducible refine Kd.C_drewN ?_ _) | (with_reducible refine Kd.C_drew ?_))); (case side2 => exact HC0_3.out); rintro e w15 ⟨rfl, hb⟩; refine ⟨_, rfl, ?_⟩; have n0_ := Aside0.mk (blk_below (g := gb217) (o := .cells #[.int .i64 a0_0, .string a0_1, .int .i64 a0_2, .slice A0_3 l0_3.length c0_3] 31 (0, 0)) (by (with_reducible repeat (first | refine blk_drewN ?_ _ | refine blk_drew ?_ | refine blk_alloc ?_ _)); exact BK217.out) hb); have n1_ := Aside0.mk (below_step (by repeat (first | (with_reducible first | exact HB.out | apply below_alloc | apply pw_below_drewN | apply below_drew1 | refine below_set ?_ GE217.out) | exact HB.out)) hb); clear BK217; clear HB; have BK217 := n0_; have HB := n1_; clear n0_ n1_; (try clear hb); (try clear hb2); (try clear hk); (try clear hi)) | ((with_reducible refine gate_callee (f := 36) rfl ?_); refine goesL_ (some 22) rfl rfl Tryz.func36 (by kernel_rfl) rfl #[.int .u8 a1] rfl (by (try simp only [List.map_toArray, List.map_cons, List.map_nil]); first | done | rfl | (simp only [List.length_drop, List.length_take]; rfl) | (simp only [IntKind.wrap_u64]; rw [Int.emod_eq_of_lt (by omega) (by omega)]; rfl) | (simp only [ByteArray.size_extract]; done) | (simp only [ByteArray.size_extract]; rfl)) ?_; (with_reducible refine (meta_sortOf.calls k a1 t220 _ A5.out).mono ?_); rintro e w' ⟨rfl, ⟨nd, rfl⟩⟩; refine ⟨_, rfl, ?_⟩))
     (try simp only [Act.put, List.setIfInBounds_toArray, List.set_cons_zero, List.set_cons_succ])
     go_cut [33] (fun v33 wc => ∃ (kq : Nat) (x33_11 : Bool), v33 = .bool x33_11 ∧ Aside0 (meta_Number.j0 kq a1 t218 x33_11 = some (r1, r2, r3)) ∧ Aside0 (kq ≤ k) ∧ Aside0 (wc.heap[gb217]? = some (.cells #[.int .i64 a0_0, .string a0_1, .int .i64 a0_2, (.slice A0_3 l0_3.length c0_3)] 31 (0, 0))) ∧ Aside0 (Below w.heap.size w wc))
     case first =>
      have H := HC12.out
      clear HC12
      by_cases c16 : t220 = 1
      · rw [if_pos c16] at H
        have c16b0 : (t220 == 1) = true := beq_iff_eq.mpr c16
        have c16b1 : (t220 != 1) = false := bne_eq_false_iff_eq.mpr c16
        clear c16
        (first | rw [c16b0] | (simp only [i64_w, i32_w]; rw [c16b0]) | skip)
        have H' := Aside0.mk H
        clear H
        go_wp2
        go_meet
        case rel => exact ⟨_, ((t220 == 1)), (by first | rfl | (simp; done) | (simp [*]; done)), H', ⟨by first | omega | exact Nat.le_refl _⟩, ⟨by (with_reducible repeat (first | refine blk_drewN ?_ _ | refine blk_drew ?_ | refine blk_alloc ?_ _)); exact BK217.out⟩, ⟨by repeat (first | (with_reducible first | exact HB.out | apply below_alloc | apply pw_below_drewN | apply below_drew1 | refine below_set ?_ GE217.out) | exact HB.out)⟩⟩
      · rw [if_neg c16] at H
        have c16b0 : (t220 == 1) = false := beq_eq_false_iff_ne.mpr c16
        have c16b1 : (t220 != 1) = true := bne_iff_ne.mpr c16
        (first | rw [c16b0] | (simp only [i64_w, i32_w]; rw [c16b0]) | skip)
        have H' := Aside0.mk H
        clear H
        go_wp2
        go_meet
        case rel => exact ⟨_, ((t220 == 2)), (by first | rfl | (simp; done) | (simp [*]; done)), H', ⟨by first | omega | exact Nat.le_refl _⟩, ⟨by (with_reducible repeat (first | refine blk_drewN ?_ _ | refine blk_drew ?_ | refine blk_alloc ?_ _)); exact BK217.out⟩, ⟨by repeat (first | (with_reducible first | exact HB.out | apply below_alloc | apply pw_below_drewN | apply below_drew1 | refine below_set ?_ GE217.out) | exact HB.out)⟩⟩
     case rest =>
      clear HC12
      try clear c1
      try clear p2
      try clear c3
      try clear c4
      try clear c6
      try clear c6b0
      try clear c6b1
      try clear c13
      try clear c15
      try clear c16
      try clear c16b0
      try clear c16b1
      try clear hcz14_0
      try clear hcz14_1
      try clear hcz14_2
      try clear hcz14_3
      try clear hcz9_0
      try clear hcz9_1
      try clear hcz9_2
      try clear hcz9_3
      try clear hfz14_0
      try clear hfz14_1
      try clear hfz14_2
      try clear hfz14_3
      try clear hfz9_0
      try clear hfz9_1
      try clear hfz9_2
      try clear hfz9_3
      obtain ⟨kq, x33_11, rfl, HA, HJ11, BK217, HB⟩ := hcut
      cases kq with
      | zero => exact absurd HA.out (by simp [meta_Number.j0])
      | succ kj11 =>
       have H := HA.out
       clear HA
       simp only [meta_Number.j0] at H
       by_cases c17 : x33_11 = true
       · subst c17
         have H1 : ((digits_Parse.f t218).bind fun bt223 => (if bt223.2 = 0 then (if a1 = 70 then (if bt223.1 > 4294967295 then (some (0, 0, false)) else (some (0, bt223.1, true))) else (some (0, bt223.1, true))) else (some (0, 0, false)))) = some (r1, r2, r3) := by rw [if_pos rfl] at H; exact H
         clear H
         have H := H1
         clear H1
         replace H := Option.bind_eq_some_iff.mp H
         obtain ⟨⟨t223, t224⟩, A180, H⟩ := H
         replace H : (if t224 = 0 then (if a1 = 70 then (if t223 > 4294967295 then (some (0, 0, false)) else (some (0, t223, true))) else (some (0, t223, true))) else (some (0, 0, false))) = some (r1, r2, r3) := H
         have A18 := Aside0.mk A180
         clear A180
         by_cases c19 : t224 = 0
         · rw [if_pos c19] at H
           have c19b0 : (t224 == 0) = true := beq_iff_eq.mpr c19
           have c19b1 : (t224 != 0) = false := bne_eq_false_iff_eq.mpr c19
           clear c19
           by_cases c20 : a1 = 70
           · rw [if_pos c20] at H
             have c20b0 : (a1 == 70) = true := beq_iff_eq.mpr c20
             have c20b1 : (a1 != 70) = false := bne_eq_false_iff_eq.mpr c20
             clear c20
             by_cases c21 : t223 > 4294967295
             · rw [if_pos c21] at H
               have c21b0 : decide (4294967295 < t223) = true := decide_eq_true c21
               clear c21
               simp only [Option.some.injEq, Prod.mk.injEq] at H
               obtain ⟨rfl, rfl, rfl⟩ := H
               go_wp2_with (first | ((with_reducible refine gate_callee (f := 38) rfl ?_); refine goesL_ (some 38) rfl rfl Tryz.func38 (by kernel_rfl) rfl #[.string t218] rfl (by (try simp only [List.map_toArray, List.map_cons, List.map_nil]); first | done | rfl | (simp only [List.length_drop, List.length_take]; rfl) | (simp only [IntKind.wrap_u64]; rw [Int.emod_eq_of_lt (by omega) (by omega)]; rfl) | (simp only [ByteArray.size_extract]; done) | (simp only [ByteArray.size_extract]; rfl)) ?_; (with_reducible refine (digits_Parse.calls t218 t223 t224 _ ?side1 A18.out).mono ?_); (case side1 => exact Vars.below HV.out (by repeat (first | (with_reducible first | exact HB.out | apply below_alloc | apply pw_below_drewN | apply below_drew1 | refine below_set ?_ GE217.out) | exact HB.out))); rintro e w22 ⟨rfl, hb⟩; refine ⟨_, rfl, ?_⟩; have n0_ := Aside0.mk (blk_below (g := gb217) (o := .cells #[.int .i64 a0_0, .string a0_1, .int .i64 a0_2, .slice A0_3 l0_3.length c0_3] 31 (0, 0)) (by (with_reducible repeat (first | refine blk_drewN ?_ _ | refine blk_drew ?_ | refine blk_alloc ?_ _)); exact BK217.out) hb); have n1_ := Aside0.mk (below_step (by repeat (first | (with_reducible first | exact HB.out | apply below_alloc | apply pw_below_drewN | apply below_drew1 | refine below_set ?_ GE217.out) | exact HB.out)) hb); clear BK217; clear HB; have BK217 := n0_; have HB := n1_; clear n0_ n1_; (try clear hb); (try clear hb2); (try clear hk); (try clear hi)))
               go_ret3
               exact ⟨by first | rfl | (simp [errW_none, errW_some] <;> rfl) | (simp [*, errW_none, errW_some] <;> rfl), by repeat (first | (with_reducible first | exact HB.out | apply below_alloc | apply pw_below_drewN | apply below_drew1 | refine below_set ?_ GE217.out) | exact HB.out)⟩
             · rw [if_neg c21] at H
               have c21b0 : decide (4294967295 < t223) = false := decide_eq_false c21
               clear c21
               simp only [Option.some.injEq, Prod.mk.injEq] at H
               obtain ⟨rfl, rfl, rfl⟩ := H
               go_wp2_with (first | ((with_reducible refine gate_callee (f := 38) rfl ?_); refine goesL_ (some 38) rfl rfl Tryz.func38 (by kernel_rfl) rfl #[.string t218] rfl (by (try simp only [List.map_toArray, List.map_cons, List.map_nil]); first | done | rfl | (simp only [List.length_drop, List.length_take]; rfl) | (simp only [IntKind.wrap_u64]; rw [Int.emod_eq_of_lt (by omega) (by omega)]; rfl) | (simp only [ByteArray.size_extract]; done) | (simp only [ByteArray.size_extract]; rfl)) ?_; (with_reducible refine (digits_Parse.calls t218 t223 t224 _ ?side1 A18.out).mono ?_); (case side1 => exact Vars.below HV.out (by repeat (first | (with_reducible first | exact HB.out | apply below_alloc | apply pw_below_drewN | apply below_drew1 | refine below_set ?_ GE217.out) | exact HB.out))); rintro e w23 ⟨rfl, hb⟩; refine ⟨_, rfl, ?_⟩; have n0_ := Aside0.mk (blk_below (g := gb217) (o := .cells #[.int .i64 a0_0, .string a0_1, .int .i64 a0_2, .slice A0_3 l0_3.length c0_3] 31 (0, 0)) (by (with_reducible repeat (first | refine blk_drewN ?_ _ | refine blk_drew ?_ | refine blk_alloc ?_ _)); exact BK217.out) hb); have n1_ := Aside0.mk (below_step (by repeat (first | (with_reducible first | exact HB.out | apply below_alloc | apply pw_below_drewN | apply below_drew1 | refine below_set ?_ GE217.out) | exact HB.out)) hb); clear BK217; clear HB; have BK217 := n0_; have HB := n1_; clear n0_ n1_; (try clear hb); (try clear hb2); (try clear hk); (try clear hi)))
               go_ret3
               exact ⟨by first | rfl | (simp [errW_none, errW_some] <;> rfl) | (simp [*, errW_none, errW_some] <;> rfl), by repeat (first | (with_reducible first | exact HB.out | apply below_alloc | apply pw_below_drewN | apply below_drew1 | refine below_set ?_ GE217.out) | exact HB.out)⟩
           · rw [if_neg c20] at H
             have c20b0 : (a1 == 70) = false := beq_eq_false_iff_ne.mpr c20
             have c20b1 : (a1 != 70) = true := bne_iff_ne.mpr c20
             simp only [Option.some.injEq, Prod.mk.injEq] at H
             obtain ⟨rfl, rfl, rfl⟩ := H
             go_wp2_with (first | ((with_reducible refine gate_callee (f := 38) rfl ?_); refine goesL_ (some 38) rfl rfl Tryz.func38 (by kernel_rfl) rfl #[.string t218] rfl (by (try simp only [List.map_toArray, List.map_cons, List.map_nil]); first | done | rfl | (simp only [List.length_drop, List.length_take]; rfl) | (simp only [IntKind.wrap_u64]; rw [Int.emod_eq_of_lt (by omega) (by omega)]; rfl) | (simp only [ByteArray.size_extract]; done) | (simp only [ByteArray.size_extract]; rfl)) ?_; (with_reducible refine (digits_Parse.calls t218 t223 t224 _ ?side1 A18.out).mono ?_); (case side1 => exact Vars.below HV.out (by repeat (first | (with_reducible first | exact HB.out | apply below_alloc | apply pw_below_drewN | apply below_drew1 | refine below_set ?_ GE217.out) | exact HB.out))); rintro e w24 ⟨rfl, hb⟩; refine ⟨_, rfl, ?_⟩; have n0_ := Aside0.mk (blk_below (g := gb217) (o := .cells #[.int .i64 a0_0, .string a0_1, .int .i64 a0_2, .slice A0_3 l0_3.length c0_3] 31 (0, 0)) (by (with_reducible repeat (first | refine blk_drewN ?_ _ | refine blk_drew ?_ | refine blk_alloc ?_ _)); exact BK217.out) hb); have n1_ := Aside0.mk (below_step (by repeat (first | (with_reducible first | exact HB.out | apply below_alloc | apply pw_below_drewN | apply below_drew1 | refine below_set ?_ GE217.out) | exact HB.out)) hb); clear BK217; clear HB; have BK217 := n0_; have HB := n1_; clear n0_ n1_; (try clear hb); (try clear hb2); (try clear hk); (try clear hi)))
             go_ret3
             exact ⟨by first | rfl | (simp [errW_none, errW_some] <;> rfl) | (simp [*, errW_none, errW_some] <;> rfl), by repeat (first | (with_reducible first | exact HB.out | apply below_alloc | apply pw_below_drewN | apply below_drew1 | refine below_set ?_ GE217.out) | exact HB.out)⟩
         · rw [if_neg c19] at H
           have c19b0 : (t224 == 0) = false := beq_eq_false_iff_ne.mpr c19
           have c19b1 : (t224 != 0) = true := bne_iff_ne.mpr c19
           simp only [Option.some.injEq, Prod.mk.injEq] at H
           obtain ⟨rfl, rfl, rfl⟩ := H
           go_wp2_with (first | ((with_reducible refine gate_callee (f := 38) rfl ?_); refine goesL_ (some 38) rfl rfl Tryz.func38 (by kernel_rfl) rfl #[.string t218] rfl (by (try simp only [List.map_toArray, List.map_cons, List.map_nil]); first | done | rfl | (simp only [List.length_drop, List.length_take]; rfl) | (simp only [IntKind.wrap_u64]; rw [Int.emod_eq_of_lt (by omega) (by omega)]; rfl) | (simp only [ByteArray.size_extract]; done) | (simp only [ByteArray.size_extract]; rfl)) ?_; (with_reducible refine (digits_Parse.calls t218 t223 t224 _ ?side1 A18.out).mono ?_); (case side1 => exact Vars.below HV.out (by repeat (first | (with_reducible first | exact HB.out | apply below_alloc | apply pw_below_drewN | apply below_drew1 | refine below_set ?_ GE217.out) | exact HB.out))); rintro e w25 ⟨rfl, hb⟩; refine ⟨_, rfl, ?_⟩; have n0_ := Aside0.mk (blk_below (g := gb217) (o := .cells #[.int .i64 a0_0, .string a0_1, .int .i64 a0_2, .slice A0_3 l0_3.length c0_3] 31 (0, 0)) (by (with_reducible repeat (first | refine blk_drewN ?_ _ | refine blk_drew ?_ | refine blk_alloc ?_ _)); exact BK217.out) hb); have n1_ := Aside0.mk (below_step (by repeat (first | (with_reducible first | exact HB.out | apply below_alloc | apply pw_below_drewN | apply below_drew1 | refine below_set ?_ GE217.out) | exact HB.out)) hb); clear BK217; clear HB; have BK217 := n0_; have HB := n1_; clear n0_ n1_; (try clear hb); (try clear hb2); (try clear hk); (try clear hi)))
           go_ret3
           exact ⟨by first | rfl | (simp [errW_none, errW_some] <;> rfl) | (simp [*, errW_none, errW_some] <;> rfl), by repeat (first | (with_reducible first | exact HB.out | apply below_alloc | apply pw_below_drewN | apply below_drew1 | refine below_set ?_ GE217.out) | exact HB.out)⟩
       · replace c17 := Bool.eq_false_iff.mpr c17
         subst c17
         have H1 : (some (0, 0, false)) = some (r1, r2, r3) := by rw [if_neg (show ¬ (false = true) by decide)] at H; exact H
         clear H
         have H := H1
         clear H1
         simp only [Option.some.injEq, Prod.mk.injEq] at H
         obtain ⟨rfl, rfl, rfl⟩ := H
         go_wp2
         go_ret3
         exact ⟨by first | rfl | (simp [errW_none, errW_some] <;> rfl) | (simp [*, errW_none, errW_some] <;> rfl), by repeat (first | (with_reducible first | exact HB.out | apply below_alloc | apply pw_below_drewN | apply below_drew1 | refine below_set ?_ GE217.out) | exact HB.out)⟩
 · replace c4 := Bool.eq_false_iff.mpr c4
   subst c4
   have H1 : (some (0, 0, false)) = some (r1, r2, r3) := by rw [if_neg (show ¬ (false = true) by decide)] at H; exact H
   clear H
   have H := H1
   clear H1
   simp only [Option.some.injEq, Prod.mk.injEq] at H
   obtain ⟨rfl, rfl, rfl⟩ := H
   go_enter Tryz.func13, Tryz.ntmps13
   go_wp2_with (first | ((with_reducible refine gate_dst (N := 2) rfl ?_); refine box_event ?hg (N := 2) ?hd (cs := #[.int .i64 a0_0, .string a0_1, .int .i64 a0_2, .slice A0_3 l0_3.length c0_3]) (t := 31) ?hr ?_; (case hd => rfl); (case hg => rfl); (case hr => first | (go_simp; done) | (go_simp; rfl)); intro gb217 hg w26 hbox hb; have n0_ := Aside0.mk (below_step (by repeat (first | (with_reducible first | exact HB.out | apply below_alloc | apply pw_below_drewN | apply below_drew1) | exact HB.out)) hb); have n1_ := Aside0.mk (hbox); have n2_ := Aside0.mk ((by rw [hg]; exact (below_size (by repeat (first | (with_reducible first | exact HB.out | apply below_alloc | apply pw_below_drewN | apply below_drew1) | exact HB.out))) : w.heap.size ≤ gb217)); have n3_ := Aside0.mk ((by rw [hg]; exact (below_size (by repeat (first | (with_reducible first | exact HB.out | apply below_alloc | apply pw_below_drewN | apply below_drew1) | exact HB.out))) : w.heap.size ≤ gb217)); clear HB; have HB := n0_; have BK217 := n1_; have GW217 := n2_; have GE217 := n3_; clear n0_ n1_ n2_ n3_; clear hb hbox hg; have hcz27_0 : w26.cell? ⟨gb217, 0, none⟩ = some (.int .i64 a0_0) := (blk_cell BK217.out 0).trans rfl; have hcz27_1 : w26.cell? ⟨gb217, 1, none⟩ = some (.string a0_1) := (blk_cell BK217.out 1).trans rfl; have hcz27_2 : w26.cell? ⟨gb217, 2, none⟩ = some (.int .i64 a0_2) := (blk_cell BK217.out 2).trans rfl; have hcz27_3 : w26.cell? ⟨gb217, 3, none⟩ = some (.slice A0_3 l0_3.length c0_3) := (blk_cell BK217.out 3).trans rfl; have hfz27_0 := blk_frozen BK217.out 0; have hfz27_1 := blk_frozen BK217.out 1; have hfz27_2 := blk_frozen BK217.out 2; have hfz27_3 := blk_frozen BK217.out 3) | ((with_reducible refine gate_callee (f := 15) rfl ?_); refine goesL_ (some 16) rfl rfl Tryz.func15 (by kernel_rfl) rfl #[.agg #[.int .i64 a0_0, .string a0_1, .int .i64 a0_2, .slice A0_3 l0_3.length c0_3], .int .u8 a1] rfl (by (try simp only [List.map_toArray, List.map_cons, List.map_nil]); first | done | rfl | (simp only [List.length_drop, List.length_take]; rfl) | (simp only [IntKind.wrap_u64]; rw [Int.emod_eq_of_lt (by omega) (by omega)]; rfl) | (simp only [ByteArray.size_extract]; done) | (simp only [ByteArray.size_extract]; rfl)) ?_; (with_reducible refine (meta_Find.calls a0_0 a0_1 a0_2 _ _ l0_3 a1 t218 false _ ?side1 ?side2 A3.out).mono ?_); (case side1 => repeat (first | exact (Kd.C_below HR0_3.out HB.out) | (with_reducible refine Kd.C_alloc ?_ _) | (with_reducible refine Kd.C_drewN ?_ _) | (with_reducible refine Kd.C_drew ?_))); (case side2 => exact HC0_3.out); rintro e w28 ⟨rfl, hb⟩; refine ⟨_, rfl, ?_⟩; have n0_ := Aside0.mk (blk_below (g := gb217) (o := .cells #[.int .i64 a0_0, .string a0_1, .int .i64 a0_2, .slice A0_3 l0_3.length c0_3] 31 (0, 0)) (by (with_reducible repeat (first | refine blk_drewN ?_ _ | refine blk_drew ?_ | refine blk_alloc ?_ _)); exact BK217.out) hb); have n1_ := Aside0.mk (below_step (by repeat (first | (with_reducible first | exact HB.out | apply below_alloc | apply pw_below_drewN | apply below_drew1 | refine below_set ?_ GE217.out) | exact HB.out)) hb); clear BK217; clear HB; have BK217 := n0_; have HB := n1_; clear n0_ n1_; (try clear hb); (try clear hb2); (try clear hk); (try clear hi)))
   go_ret3
   exact ⟨by first | rfl | (simp [errW_none, errW_some] <;> rfl) | (simp [*, errW_none, errW_some] <;> rfl), by repeat (first | (with_reducible first | exact HB.out | apply below_alloc | apply pw_below_drewN | apply below_drew1 | refine below_set ?_ GE217.out) | exact HB.out)⟩

end
end Go.Proofs.YtfboejlemnfndaaGreatDoor.XMb
end
section
namespace Go.Proofs.YtfboejlemnfndaaGreatDoor.XMb
open Go.RowKit Go.Proofs.YtfboejlemnfndaaGreatDoorW.PrintWords Go.Proofs.YtfboejlemnfndaaGreatDoorW.PrintLast Go.Proofs.YtfboejlemnfndaaGreatDoorW.PrintMore
attribute [local go_sem] extract_sub max2_int min2_int max_two min_two max_three min_three max_four min_four   -- for this text's walks alone
set_option linter.unusedVariables false
set_option linter.unusedSimpArgs false

noncomputable section
def tallboylaw27_works.f : Option Bool := some true
theorem tallboylaw27_works.e1 : meta_Parse.f 200 ⟨#[109, 103, 32, 102, 111, 111, 32, 118, 32, 116, 32, 84, 51, 48]⟩ = some (1, ⟨#[102, 111, 111]⟩, 0, [⟨118, ⟨#[]⟩⟩, ⟨116, ⟨#[]⟩⟩, ⟨84, ⟨#[51, 48]⟩⟩], 0) := by kernel_rfl
theorem tallboylaw27_works.e3 : meta_Parse.f 200 ⟨#[109, 103, 32, 102, 111, 111, 32, 118, 32, 118]⟩ = some (0, ⟨#[]⟩, 0, [], 6) := by kernel_rfl
theorem tallboylaw27_works.e4 : meta_Parse.f 200 ⟨#[109, 120, 32, 102, 111, 111]⟩ = some (0, ⟨#[]⟩, 0, [], 70) := by kernel_rfl
theorem tallboylaw27_works.d2 : meta_Decode.f ⟨#[89, 81, 61, 61]⟩ = some (⟨#[97]⟩, 0) := by
 unfold meta_Decode.f
 rw [if_pos (by decide), B64.dec_of _ [97] (by kernel_rfl)]
theorem tallboylaw27_works.w2 : meta_words.f 200 2 [⟨#[89, 81, 61, 61]⟩, ⟨#[51]⟩, ⟨#[98]⟩] = (meta_Decode.f ⟨#[89, 81, 61, 61]⟩).bind fun bt => (if bt.2 = 0 then some (2, bt.1, 3, [⟨98, ⟨#[]⟩⟩], true) else some (0, ⟨#[]⟩, 0, [], false)) := by kernel_rfl
theorem tallboylaw27_works.e2 : meta_Parse.f 200 ⟨#[109, 115, 32, 89, 81, 61, 61, 32, 51, 32, 98]⟩ = some (2, ⟨#[97]⟩, 3, [⟨98, ⟨#[]⟩⟩], 0) := by
 have h1 : strings_Split.f ⟨#[109, 115, 32, 89, 81, 61, 61, 32, 51, 32, 98]⟩ ⟨#[32]⟩ = some [⟨#[109, 115]⟩, ⟨#[89, 81, 61, 61]⟩, ⟨#[51]⟩, ⟨#[98]⟩] := by kernel_rfl
 have h2 : meta_named.f 200 ⟨#[109, 115]⟩ = some 2 := by kernel_rfl
 have h3 : meta_Write.f 200 2 ⟨#[97]⟩ 3 [⟨98, ⟨#[]⟩⟩] = some (⟨#[109, 115, 32, 89, 81, 61, 61, 32, 51, 32, 98]⟩, 0) := by kernel_rfl
 have h4 := tallboylaw27_works.w2
 rw [tallboylaw27_works.d2] at h4
 simp only [Option.bind_some, if_true] at h4
 unfold meta_Parse.f
 rw [if_neg (by decide), h1]
 simp only [Option.bind_some]
 rw [h2]
 simp only [Option.bind_some]
 rw [if_neg (by decide), h4]
 simp only [Option.bind_some, if_true]
 rw [h3]
 simp only [Option.bind_some, and_self, if_true]
theorem tallboylaw27_works.e5 : meta_Write.f 200 4 ⟨#[107]⟩ 0 [⟨77, ⟨#[68]⟩⟩, ⟨68, ⟨#[53]⟩⟩] = some (⟨#[109, 97, 32, 107, 32, 77, 68, 32, 68, 53]⟩, 0) := by kernel_rfl
theorem tallboylaw27_works.e6 : meta_Number.f 200 1 ⟨#[102, 111, 111]⟩ 0 [⟨118, ⟨#[]⟩⟩, ⟨116, ⟨#[]⟩⟩, ⟨84, ⟨#[51, 48]⟩⟩] 84 = some (30, 0, true) := by kernel_rfl
theorem tallboylaw27_works.e7 : meta_Encode.f ⟨#[97, 98]⟩ = some ⟨#[89, 87, 73, 61]⟩ := by kernel_rfl
theorem tallboylaw27_works.e8 : meta_Check.f 200 2 ⟨#[107]⟩ 2001 [] = some 1 := by kernel_rfl
def tallboylaw27_works.M (A : Option Addr) (c : Nat) : Obj := .cells #[.int .i64 0, .string ⟨#[]⟩, .int .i64 0, .slice A 0 c] 31
def tallboylaw27_works.F : Obj := .cells #[.int .u8 77, .string ⟨#[68]⟩, .int .u8 68, .string ⟨#[53]⟩] 61
def tallboylaw27_works.L : List S61 := [⟨77, ⟨#[68]⟩⟩, ⟨68, ⟨#[53]⟩⟩]
theorem tallboylaw27_works.C5 (w : World) : Kd.C k61 (w.alloc tallboylaw27_works.F) (some ⟨w.heap.size, 0, none⟩) 2 tallboylaw27_works.L := by
 refine ⟨rfl, by decide, fun _ => ⟨_, rfl, ?_⟩⟩
 intro j p hp
 have hb : (w.alloc tallboylaw27_works.F).heap[w.heap.size]? = some tallboylaw27_works.F := Go.heap_alloc_new w _
 have hcell : ∀ i, (w.alloc tallboylaw27_works.F).cell? ⟨w.heap.size, i, none⟩ = (#[.int .u8 77, .string ⟨#[68]⟩, .int .u8 68, .string ⟨#[53]⟩] : Array Value)[i]? := by
  intro i
  unfold World.cell?
  simp only [hb]
  rfl
 match j with
 | 0 =>
  obtain rfl := Option.some.inj hp
  refine ⟨_, rfl, k61_mk _ _, fun i u hu => ?_⟩
  match i with
  | 0 => obtain rfl := Option.some.inj hu; exact hcell 0
  | 1 => obtain rfl := Option.some.inj hu; exact hcell 1
  | n + 2 => simp at hu
 | 1 =>
  obtain rfl := Option.some.inj hp
  refine ⟨_, rfl, k61_mk _ _, fun i u hu => ?_⟩
  match i with
  | 0 => obtain rfl := Option.some.inj hu; exact hcell 2
  | 1 => obtain rfl := Option.some.inj hu; exact hcell 3
  | n + 2 => simp at hu
 | n + 2 => simp [tallboylaw27_works.L] at hp
set_option maxHeartbeats 16000000 in
set_option maxRecDepth 100000 in
theorem tallboylaw27_works.calls (r : Bool) (w : World) (hv : Vars w) (h : tallboylaw27_works.f = some r) :
 Calls Tryz.prog 25 #[] w fun e w' => e = .returned (.bool r) ∧ Below w.heap.size w w' := by
 obtain rfl : true = r := Option.some.inj h
 have HV := Aside0.mk hv
 clear hv h
 go_enter Tryz.func25, Tryz.ntmps25
 go_wp2_with fail
 refine (meta_Parse.calls 200 _ _ _ _ _ _ _ HV.out tallboylaw27_works.e1).mono ?_
 rintro e w1 ⟨v1, rfl, hO1, hb1⟩
 obtain ⟨A1, c1, rfl, hc1, hC1⟩ := Kd.R_reads hO1
 have HC1 := Aside0.mk hC1
 have HQ1 := Aside0.mk hc1
 have HB1 := Aside0.mk hb1
 clear hO1 hC1 hc1 hb1
 have hx1 : Below w.heap.size w (w1.alloc (.cells #[.int .i64 1, .string ⟨#[102, 111, 111]⟩, .int .i64 0, .slice A1 3 c1] 31)) := HB1.out.alloc HB1.out.size _
 have HX1 := Aside0.mk hx1
 clear hx1
 go_wp2_with fail
 refine (meta_Parse.calls 200 _ _ _ _ _ _ _ (HV.out.below HX1.out) tallboylaw27_works.e2).mono ?_
 rintro e w2 ⟨v2, rfl, hO2, hb2⟩
 obtain ⟨A2, c2, rfl, hc2, -⟩ := Kd.R_reads hO2
 have hB2 : Below w.heap.size w w2 := HX1.out.trans (hb2.mono HX1.out.size)
 have hs2 : w1.heap.size < w2.heap.size := by have := hb2.size; simp at this; omega
 have hk12 : w2.heap[w1.heap.size]? = some (.cells #[.int .i64 1, .string ⟨#[102, 111, 111]⟩, .int .i64 0, .slice A1 3 c1] 31) := (hb2.block _ (by simp)).trans (Go.heap_alloc_new w1 _)
 have hl12 : Below w1.heap.size w1 w2 := ((Below.refl _ w1).alloc (Nat.le_refl _) _).trans (hb2.mono (by simp))
 have HB2 := Aside0.mk hB2
 have HK12 := Lib.hid hk12
 have HL12 := Aside0.mk hl12
 clear hO2 hc2 hb2 hB2 hk12 hl12 HX1
 have hx2 : Below w.heap.size w (w2.alloc (.cells #[.int .i64 2, .string ⟨#[97]⟩, .int .i64 3, .slice A2 1 c2] 31)) := HB2.out.alloc HB2.out.size _
 have HX2 := Aside0.mk hx2
 clear hx2
 go_wp2_with fail
 refine (meta_Parse.calls 200 _ _ _ _ _ _ _ (HV.out.below HX2.out) tallboylaw27_works.e3).mono ?_
 rintro e w3 ⟨v3, rfl, hO3, hb3⟩
 obtain ⟨A3, c3, rfl, hc3, -⟩ := Kd.R_reads hO3
 have hB3 : Below w.heap.size w w3 := HX2.out.trans (hb3.mono HX2.out.size)
 have hs3 : w2.heap.size < w3.heap.size := by have := hb3.size; simp at this; omega
 have hk23 : w3.heap[w2.heap.size]? = some (.cells #[.int .i64 2, .string ⟨#[97]⟩, .int .i64 3, .slice A2 1 c2] 31) := (hb3.block _ (by simp)).trans (Go.heap_alloc_new w2 _)
 have hl23 : Below w2.heap.size w2 w3 := ((Below.refl _ w2).alloc (Nat.le_refl _) _).trans (hb3.mono (by simp))
 have hk13 : w3.heap[w1.heap.size]? = some (.cells #[.int .i64 1, .string ⟨#[102, 111, 111]⟩, .int .i64 0, .slice A1 3 c1] 31) := (hl23.block _ hs2).trans HK12.out
 have hl13 : Below w1.heap.size w1 w3 := HL12.out.trans (hl23.mono (by omega))
 have HB3 := Aside0.mk hB3
 have HK23 := Lib.hid hk23
 have HK13 := Lib.hid hk13
 have HL13 := Aside0.mk hl13
 clear hO3 hc3 hb3 hB3 hk23 hl23 hk13 hl13 HX2 HK12 HL12
 have hx3 : Below w.heap.size w (w3.alloc (.cells #[.int .i64 0, .string ⟨#[]⟩, .int .i64 0, .slice A3 0 c3] 31)) := HB3.out.alloc HB3.out.size _
 have HX3 := Aside0.mk hx3
 clear hx3
 go_wp2_with fail
 refine (meta_Parse.calls 200 _ _ _ _ _ _ _ (HV.out.below HX3.out) tallboylaw27_works.e4).mono ?_
 rintro e w4 ⟨v4, rfl, hO4, hb4⟩
 obtain ⟨A4, c4, rfl, hc4, -⟩ := Kd.R_reads hO4
 have hB4 : Below w.heap.size w w4 := HX3.out.trans (hb4.mono HX3.out.size)
 have hl34 : Below w3.heap.size w3 w4 := ((Below.refl _ w3).alloc (Nat.le_refl _) _).trans (hb4.mono (by simp))
 have hs4 : w3.heap.size < w4.heap.size := by have := hb4.size; simp at this; omega
 have hk14 : w4.heap[w1.heap.size]? = some (.cells #[.int .i64 1, .string ⟨#[102, 111, 111]⟩, .int .i64 0, .slice A1 3 c1] 31) := (hl34.block _ (by omega)).trans HK13.out
 have hk24 : w4.heap[w2.heap.size]? = some (.cells #[.int .i64 2, .string ⟨#[97]⟩, .int .i64 3, .slice A2 1 c2] 31) := (hl34.block _ hs3).trans HK23.out
 have hl14 : Below w1.heap.size w1 w4 := HL13.out.trans (hl34.mono (by omega))
 have HB4 := Aside0.mk hB4
 have HK14 := Lib.hid hk14
 have HK24 := Lib.hid hk24
 have HL14 := Aside0.mk hl14
 clear hO4 hc4 hb4 hB4 hl34 hk14 hk24 hl14 HX3 HK13 HK23 HL13
 go_wp2_with fail
 have hx5 : Below w.heap.size w ((w4.alloc (tallboylaw27_works.M A4 c4)).alloc tallboylaw27_works.F) := below_alloc (below_alloc HB4.out _) _
 have hl45 : Below w4.heap.size w4 ((w4.alloc (tallboylaw27_works.M A4 c4)).alloc tallboylaw27_works.F) := below_alloc (below_alloc (Below.refl _ w4) _) _
 have hC5 : Kd.C k61 ((w4.alloc (tallboylaw27_works.M A4 c4)).alloc tallboylaw27_works.F) (some ⟨w4.heap.size + 1, 0, none⟩) 2 tallboylaw27_works.L := by
  have := tallboylaw27_works.C5 (w4.alloc (tallboylaw27_works.M A4 c4))
  rw [show (w4.alloc (tallboylaw27_works.M A4 c4)).heap.size = w4.heap.size + 1 from by simp] at this
  exact this
 refine (meta_Write.calls 200 4 ⟨#[107]⟩ 0 (some ⟨w4.heap.size + 1, 0, none⟩) 2 tallboylaw27_works.L _ _ ((w4.alloc (tallboylaw27_works.M A4 c4)).alloc tallboylaw27_works.F) hC5 (Nat.le_refl _) (HV.out.below hx5) tallboylaw27_works.e5).mono ?_
 rintro e w5 ⟨rfl, hb5⟩
 have hB5 : Below w.heap.size w w5 := hx5.trans (hb5.mono hx5.size)
 have hl15 : Below w1.heap.size w1 w5 := HL14.out.trans ((hl45.trans (hb5.mono hl45.size)).mono (by omega))
 have hk15 : w5.heap[w1.heap.size]? = some (.cells #[.int .i64 1, .string ⟨#[102, 111, 111]⟩, .int .i64 0, .slice A1 3 c1] 31) := ((hl45.trans (hb5.mono hl45.size)).block _ (by omega)).trans HK14.out
 have hk25 : w5.heap[w2.heap.size]? = some (.cells #[.int .i64 2, .string ⟨#[97]⟩, .int .i64 3, .slice A2 1 c2] 31) := ((hl45.trans (hb5.mono hl45.size)).block _ (by omega)).trans HK24.out
 have hC15 : Kd.C k61 w5 A1 3 [⟨118, ⟨#[]⟩⟩, ⟨116, ⟨#[]⟩⟩, ⟨84, ⟨#[51, 48]⟩⟩] := Kd.C_below HC1.out hl15
 have hs15 : w1.heap.size < w5.heap.size := by have := hb5.size; simp at this; omega
 have hs25 : w2.heap.size < w5.heap.size := by have := hb5.size; simp at this; omega
 have HB5 := Aside0.mk hB5
 have HC15 := Aside0.mk hC15
 have hm0 : w5.cell? ⟨w1.heap.size, 0, none⟩ = some (.int .i64 1) := (blk_cell hk15 0).trans rfl
 have hm1 : w5.cell? ⟨w1.heap.size, 1, none⟩ = some (.string ⟨#[102, 111, 111]⟩) := (blk_cell hk15 1).trans rfl
 have hm2 : w5.cell? ⟨w1.heap.size, 2, none⟩ = some (.int .i64 0) := (blk_cell hk15 2).trans rfl
 have hm3 : w5.cell? ⟨w1.heap.size, 3, none⟩ = some (.slice A1 3 c1) := (blk_cell hk15 3).trans rfl
 have hn0 : w5.cell? ⟨w2.heap.size, 0, none⟩ = some (.int .i64 2) := (blk_cell hk25 0).trans rfl
 have hn1 : w5.cell? ⟨w2.heap.size, 1, none⟩ = some (.string ⟨#[97]⟩) := (blk_cell hk25 1).trans rfl
 have hn2 : w5.cell? ⟨w2.heap.size, 2, none⟩ = some (.int .i64 3) := (blk_cell hk25 2).trans rfl
 have hn3 : w5.cell? ⟨w2.heap.size, 3, none⟩ = some (.slice A2 1 c2) := (blk_cell hk25 3).trans rfl
 have HK15 := Lib.hid hk15
 have HK25 := Lib.hid hk25
 clear hx5 hl45 hC5 hb5 hl15 hC15 hk15 hk25 hB5 HL14 HK14 HK24
 go_wp2_with fail
 refine (meta_Number.calls 200 1 ⟨#[102, 111, 111]⟩ 0 A1 c1 _ 84 _ _ _ w5 HC15.out HQ1.out (HV.out.below HB5.out) tallboylaw27_works.e6).mono ?_
 clear hm0 hm1 hm2 hm3 hn0 hn1 hn2 hn3
 rintro e w6 ⟨rfl, hb6⟩
 have hs16 : w1.heap.size < w6.heap.size := by have := hb6.size; omega
 have hs26 : w2.heap.size < w6.heap.size := by have := hb6.size; omega
 have hB6 : Below w.heap.size w w6 := HB5.out.trans (hb6.mono HB5.out.size)
 have hk16 : w6.heap[w1.heap.size]? = some (.cells #[.int .i64 1, .string ⟨#[102, 111, 111]⟩, .int .i64 0, .slice A1 3 c1] 31) := (hb6.block _ (by omega)).trans HK15.out
 have hk26 : w6.heap[w2.heap.size]? = some (.cells #[.int .i64 2, .string ⟨#[97]⟩, .int .i64 3, .slice A2 1 c2] 31) := (hb6.block _ (by omega)).trans HK25.out
 have hm0 : w6.cell? ⟨w1.heap.size, 0, none⟩ = some (.int .i64 1) := (blk_cell hk16 0).trans rfl
 have hm1 : w6.cell? ⟨w1.heap.size, 1, none⟩ = some (.string ⟨#[102, 111, 111]⟩) := (blk_cell hk16 1).trans rfl
 have hm2 : w6.cell? ⟨w1.heap.size, 2, none⟩ = some (.int .i64 0) := (blk_cell hk16 2).trans rfl
 have hm3 : w6.cell? ⟨w1.heap.size, 3, none⟩ = some (.slice A1 3 c1) := (blk_cell hk16 3).trans rfl
 have hn0 : w6.cell? ⟨w2.heap.size, 0, none⟩ = some (.int .i64 2) := (blk_cell hk26 0).trans rfl
 have hn1 : w6.cell? ⟨w2.heap.size, 1, none⟩ = some (.string ⟨#[97]⟩) := (blk_cell hk26 1).trans rfl
 have hn2 : w6.cell? ⟨w2.heap.size, 2, none⟩ = some (.int .i64 3) := (blk_cell hk26 2).trans rfl
 have hn3 : w6.cell? ⟨w2.heap.size, 3, none⟩ = some (.slice A2 1 c2) := (blk_cell hk26 3).trans rfl
 have HB6 := Aside0.mk hB6
 have HK16 := Lib.hid hk16
 have HK26 := Lib.hid hk26
 clear hb6 hB6 hk16 hk26 HK15 HK25
 go_wp2_with fail
 refine (meta_Encode.calls ⟨#[97, 98]⟩ _ w6 tallboylaw27_works.e7).mono ?_
 clear hm0 hm1 hm2 hm3 hn0 hn1 hn2 hn3
 rintro e w7 ⟨rfl, hb7⟩
 have hs17 : w1.heap.size < w7.heap.size := by have := hb7.size; omega
 have hs27 : w2.heap.size < w7.heap.size := by have := hb7.size; omega
 have hB7 : Below w.heap.size w w7 := HB6.out.trans (hb7.mono HB6.out.size)
 have hk17 : w7.heap[w1.heap.size]? = some (.cells #[.int .i64 1, .string ⟨#[102, 111, 111]⟩, .int .i64 0, .slice A1 3 c1] 31) := (hb7.block _ (by omega)).trans HK16.out
 have hk27 : w7.heap[w2.heap.size]? = some (.cells #[.int .i64 2, .string ⟨#[97]⟩, .int .i64 3, .slice A2 1 c2] 31) := (hb7.block _ (by omega)).trans HK26.out
 have hm0 : w7.cell? ⟨w1.heap.size, 0, none⟩ = some (.int .i64 1) := (blk_cell hk17 0).trans rfl
 have hm1 : w7.cell? ⟨w1.heap.size, 1, none⟩ = some (.string ⟨#[102, 111, 111]⟩) := (blk_cell hk17 1).trans rfl
 have hm2 : w7.cell? ⟨w1.heap.size, 2, none⟩ = some (.int .i64 0) := (blk_cell hk17 2).trans rfl
 have hm3 : w7.cell? ⟨w1.heap.size, 3, none⟩ = some (.slice A1 3 c1) := (blk_cell hk17 3).trans rfl
 have hn0 : w7.cell? ⟨w2.heap.size, 0, none⟩ = some (.int .i64 2) := (blk_cell hk27 0).trans rfl
 have hn1 : w7.cell? ⟨w2.heap.size, 1, none⟩ = some (.string ⟨#[97]⟩) := (blk_cell hk27 1).trans rfl
 have hn2 : w7.cell? ⟨w2.heap.size, 2, none⟩ = some (.int .i64 3) := (blk_cell hk27 2).trans rfl
 have hn3 : w7.cell? ⟨w2.heap.size, 3, none⟩ = some (.slice A2 1 c2) := (blk_cell hk27 3).trans rfl
 have HB7 := Aside0.mk hB7
 have HK17 := Lib.hid hk17
 have HK27 := Lib.hid hk27
 clear hb7 hB7 hk17 hk27 HK16 HK26
 go_wp2_with fail
 have hC0 : Kd.C k61 w7 none 0 [] := ⟨rfl, by decide, fun h => absurd h (by decide)⟩
 refine (meta_Check.calls 200 2 ⟨#[107]⟩ 2001 none 0 [] _ w7 hC0 (Nat.le_refl _) (HV.out.below HB7.out) tallboylaw27_works.e8).mono ?_
 clear hm0 hm1 hm2 hm3 hn0 hn1 hn2 hn3
 rintro e w8 ⟨rfl, hb8⟩
 have hB8 : Below w.heap.size w w8 := HB7.out.trans (hb8.mono HB7.out.size)
 have HB8 := Aside0.mk hB8
 clear hb8 hB8 HK17 HK27
 go_wp2
 go_ret
 exact ⟨rfl, HB8.out⟩

end
end Go.Proofs.YtfboejlemnfndaaGreatDoor.XMb
end
