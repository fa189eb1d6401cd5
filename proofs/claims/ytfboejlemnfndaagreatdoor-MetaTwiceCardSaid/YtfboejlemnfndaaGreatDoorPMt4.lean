/- Put together by wip/pack.py (this session's own program) out of this session's texts; a kit's tool laid the words and the shelf, of which only what is used stands here. Lean checks it. -/
import Derived.Test.YtfboejlemnfndaaGreatDoorPMt3
import Derived.Lib.Hide
import Derived.Lib.Strings
import Derived.Laws.Strings
section
namespace Go.Proofs.YtfboejlemnfndaaGreatDoor.XMt
open Go.RowKit Go.Proofs.YtfboejlemnfndaaGreatDoorW.PrintWords Go.Proofs.YtfboejlemnfndaaGreatDoorW.PrintLast Go.Proofs.YtfboejlemnfndaaGreatDoorW.PrintMore
attribute [local go_sem] extract_sub max2_int min2_int max_two min_two max_three min_three max_four min_four   -- for this text's walks alone
set_option linter.unusedVariables false
set_option linter.unusedSimpArgs false

noncomputable section
def meta_Number.j0 : Nat → Int → ByteArray → Bool → Option (Int × Int × Bool)
 | 0, _, _, _ => none
 | k + 1, x1, x7, x33 => if x33 = true then ((digits_Parse.f x7).bind fun bt174 => (if bt174.2 = 0 then (if x1 = 70 then (if bt174.1 > 4294967295 then (some (0, 0, false)) else (some (0, bt174.1, true))) else (some (0, bt174.1, true))) else (some (0, 0, false)))) else (some (0, 0, false))
def meta_Number.f (k : Nat) (a0_0 : Int) (a0_1 : ByteArray) (a0_2 : Int) (l0_3 : List (S61)) (a1 : Int) : Option (Int × Int × Bool) := (meta_Find.f a0_0 a0_1 a0_2 l0_3 a1).bind fun bt169 => (if bt169.2 = true then ((meta_sortOf.f k a1).bind fun t171 => (if t171 = 3 then ((digits_Signed.f k bt169.1).bind fun bt172 => (some (bt172.1, 0, (bt172.2 == 0)))) else (if t171 = 1 then (meta_Number.j0 k a1 bt169.1 (t171 == 1)) else (meta_Number.j0 k a1 bt169.1 (t171 == 2))))) else (some (0, 0, false)))
theorem meta_Number.mono_l : ∀ k, (∀ y0 y1 y2, LeO (meta_Number.j0 k y0 y1 y2) (meta_Number.j0 (k + 1) y0 y1 y2))
 | 0 => fun _ _ _ r h => by simp [meta_Number.j0] at h
 | k + 1 => by
  have ih0 := meta_Number.mono_l k
  · intro y0 y1 y2
    unfold meta_Number.j0
    repeat' first
    | (with_reducible exact ih0 _ _ _)
    | (with_reducible exact digits_Signed.mono _ _)
    | (with_reducible exact meta_sortOf.mono _ _)
    | (with_reducible exact LeO.refl _)
    | (with_reducible exact LeO.none _)
    | (with_reducible refine LeO.ite ?_ ?_)
    | (with_reducible refine LeO.bind ?_ (fun _ => ?_))
    | exact ih0 _ _ _
    | exact digits_Signed.mono _ _
    | exact meta_sortOf.mono _ _
    | exact LeO.none _
    | refine LeO.ite ?_ ?_
    | refine LeO.bind ?_ (fun _ => ?_)
theorem meta_Number.mono : ∀ a0 a1 a2 a3 a4 k, LeO (meta_Number.f k a0 a1 a2 a3 a4) (meta_Number.f (k + 1) a0 a1 a2 a3 a4) := by
 intro a0 a1 a2 a3 a4 k
 have ih0 := meta_Number.mono_l k
 unfold meta_Number.f
 repeat' first
  | (with_reducible exact ih0 _ _ _)
  | (with_reducible exact digits_Signed.mono _ _)
  | (with_reducible exact meta_sortOf.mono _ _)
  | (with_reducible exact LeO.refl _)
  | (with_reducible exact LeO.none _)
  | (with_reducible refine LeO.ite ?_ ?_)
  | (with_reducible refine LeO.bind ?_ (fun _ => ?_))
  | exact ih0 _ _ _
  | exact digits_Signed.mono _ _
  | exact meta_sortOf.mono _ _
  | exact LeO.none _
  | refine LeO.ite ?_ ?_
  | refine LeO.bind ?_ (fun _ => ?_)
set_option maxHeartbeats 8000000 in
set_option maxRecDepth 100000 in
theorem meta_Number.calls (k : Nat) (a0_0 : Int) (a0_1 : ByteArray) (a0_2 : Int) (A0_3 : Option Addr) (c0_3 : Nat) (l0_3 : List (S61)) (a1 : Int) (r1 : Int) (r2 : Int) (r3 : Bool) (w : World) (hr0_3 : Kd.C k61 w A0_3 l0_3.length l0_3) (hc0_3 : l0_3.length ≤ c0_3) (hv : Vars w) (h : meta_Number.f k a0_0 a0_1 a0_2 l0_3 a1 = some (r1, r2, r3)) :
 Calls Tryz.prog 13 #[.agg #[.int .i64 a0_0, .string a0_1, .int .i64 a0_2, .slice A0_3 l0_3.length c0_3], .int .u8 a1] w fun e w' => e = .returned (.tuple #[.int .i64 r1, .int .u64 r2, .bool r3]) ∧ Below w.heap.size w w' := by
 have hu31 := Tryz.underlying31
 have HV := Aside0.mk hv
 clear hv
 have HR0_3 := Aside0.mk hr0_3
 have HC0_3 := Aside0.mk hc0_3
 clear hr0_3 hc0_3
 have HB := Aside0.mk (Below.refl w.heap.size w)
 have H : ((meta_Find.f a0_0 a0_1 a0_2 l0_3 a1).bind fun bt169 => (if bt169.2 = true then ((meta_sortOf.f k a1).bind fun t171 => (if t171 = 3 then ((digits_Signed.f k bt169.1).bind fun bt172 => (some (bt172.1, 0, (bt172.2 == 0)))) else (if t171 = 1 then (meta_Number.j0 k a1 bt169.1 (t171 == 1)) else (meta_Number.j0 k a1 bt169.1 (t171 == 2))))) else (some (0, 0, false)))) = some (r1, r2, r3) := h
 clear h
 replace H := Option.bind_eq_some_iff.mp H
 obtain ⟨⟨t169, t170⟩, A30, H⟩ := H
 replace H : (if t170 = true then ((meta_sortOf.f k a1).bind fun t171 => (if t171 = 3 then ((digits_Signed.f k t169).bind fun bt172 => (some (bt172.1, 0, (bt172.2 == 0)))) else (if t171 = 1 then (meta_Number.j0 k a1 t169 (t171 == 1)) else (meta_Number.j0 k a1 t169 (t171 == 2))))) else (some (0, 0, false))) = some (r1, r2, r3) := H
 have A3 := Aside0.mk A30
 clear A30
 by_cases c4 : t170 = true
 · subst c4
   have H1 : ((meta_sortOf.f k a1).bind fun t171 => (if t171 = 3 then ((digits_Signed.f k t169).bind fun bt172 => (some (bt172.1, 0, (bt172.2 == 0)))) else (if t171 = 1 then (meta_Number.j0 k a1 t169 (t171 == 1)) else (meta_Number.j0 k a1 t169 (t171 == 2))))) = some (r1, r2, r3) := by rw [if_pos rfl] at H; exact H
   clear H
   have H := H1
   clear H1
   replace H := Option.bind_eq_some_iff.mp H
   obtain ⟨t171, A50, H⟩ := H
   replace H : (if t171 = 3 then ((digits_Signed.f k t169).bind fun bt172 => (some (bt172.1, 0, (bt172.2 == 0)))) else (if t171 = 1 then (meta_Number.j0 k a1 t169 (t171 == 1)) else (meta_Number.j0 k a1 t169 (t171 == 2)))) = some (r1, r2, r3) := H
   have A5 := Aside0.mk A50
   clear A50
   by_cases c6 : t171 = 3
   · rw [if_pos c6] at H
     have c6b0 : (t171 == 3) = true := beq_iff_eq.mpr c6
     have c6b1 : (t171 != 3) = false := bne_eq_false_iff_eq.mpr c6
     clear c6
     replace H := Option.bind_eq_some_iff.mp H
     obtain ⟨⟨t172, t173⟩, A70, H⟩ := H
     replace H : (some (t172, 0, (t173 == 0))) = some (r1, r2, r3) := H
     have A7 := Aside0.mk A70
     clear A70
     simp only [Option.some.injEq, Prod.mk.injEq] at H
     obtain ⟨rfl, rfl, rfl⟩ := H
     go_enter Tryz.func13, Tryz.ntmps13
     go_wp2_with (first | ((with_reducible refine gate_dst (N := 2) rfl ?_); refine box_event ?hg (N := 2) ?hd (cs := #[.int .i64 a0_0, .string a0_1, .int .i64 a0_2, .slice A0_3 l0_3.length c0_3]) (t := 31) ?hr ?_; (case hd => rfl); (case hg => rfl); (case hr => first | (go_simp; done) | (go_simp; rfl)); intro gb168 hg w8 hbox hb; have n0_ := Aside0.mk (below_step (by repeat (first | (with_reducible first | exact HB.out | apply below_alloc | apply pw_below_drewN | apply below_drew1) | exact HB.out)) hb); have n1_ := Aside0.mk (hbox); have n2_ := Aside0.mk ((by rw [hg]; exact (below_size (by repeat (first | (with_reducible first | exact HB.out | apply below_alloc | apply pw_below_drewN | apply below_drew1) | exact HB.out))) : w.heap.size ≤ gb168)); have n3_ := Aside0.mk ((by rw [hg]; exact (below_size (by repeat (first | (with_reducible first | exact HB.out | apply below_alloc | apply pw_below_drewN | apply below_drew1) | exact HB.out))) : w.heap.size ≤ gb168)); clear HB; have HB := n0_; have BK168 := n1_; have GW168 := n2_; have GE168 := n3_; clear n0_ n1_ n2_ n3_; clear hb hbox hg; have hcz9_0 : w8.cell? ⟨gb168, 0, none⟩ = some (.int .i64 a0_0) := (blk_cell BK168.out 0).trans rfl; have hcz9_1 : w8.cell? ⟨gb168, 1, none⟩ = some (.string a0_1) := (blk_cell BK168.out 1).trans rfl; have hcz9_2 : w8.cell? ⟨gb168, 2, none⟩ = some (.int .i64 a0_2) := (blk_cell BK168.out 2).trans rfl; have hcz9_3 : w8.cell? ⟨gb168, 3, none⟩ = some (.slice A0_3 l0_3.length c0_3) := (blk_cell BK168.out 3).trans rfl; have hfz9_0 := blk_frozen BK168.out 0; have hfz9_1 := blk_frozen BK168.out 1; have hfz9_2 := blk_frozen BK168.out 2; have hfz9_3 := blk_frozen BK168.out 3) | ((with_reducible refine gate_callee (f := 15) rfl ?_); refine goesL_ (some 16) rfl rfl Tryz.func15 (by kernel_rfl) rfl #[.agg #[.int .i64 a0_0, .string a0_1, .int .i64 a0_2, .slice A0_3 l0_3.length c0_3], .int .u8 a1] rfl (by (try simp only [List.map_toArray, List.map_cons, List.map_nil]); first | done | rfl | (simp only [List.length_drop, List.length_take]; rfl) | (simp only [IntKind.wrap_u64]; rw [Int.emod_eq_of_lt (by omega) (by omega)]; rfl) | (simp only [ByteArray.size_extract]; done) | (simp only [ByteArray.size_extract]; rfl)) ?_; (with_reducible refine (meta_Find.calls a0_0 a0_1 a0_2 _ _ l0_3 a1 t169 true _ ?side1 ?side2 A3.out).mono ?_); (case side1 => repeat (first | exact (Kd.C_below HR0_3.out HB.out) | (with_reducible refine Kd.C_alloc ?_ _) | (with_reducible refine Kd.C_drewN ?_ _) | (with_reducible refine Kd.C_drew ?_))); (case side2 => exact HC0_3.out); rintro e w10 ⟨rfl, hb⟩; refine ⟨_, rfl, ?_⟩; have n0_ := Aside0.mk (blk_below (g := gb168) (o := .cells #[.int .i64 a0_0, .string a0_1, .int .i64 a0_2, .slice A0_3 l0_3.length c0_3] 31 (0, 0)) (by (with_reducible repeat (first | refine blk_drewN ?_ _ | refine blk_drew ?_ | refine blk_alloc ?_ _)); exact BK168.out) hb); have n1_ := Aside0.mk (below_step (by repeat (first | (with_reducible first | exact HB.out | apply below_alloc | apply pw_below_drewN | apply below_drew1 | refine below_set ?_ GE168.out) | exact HB.out)) hb); clear BK168; clear HB; have BK168 := n0_; have HB := n1_; clear n0_ n1_; (try clear hb); (try clear hb2); (try clear hk); (try clear hi)) | ((with_reducible refine gate_callee (f := 36) rfl ?_); refine goesL_ (some 22) rfl rfl Tryz.func36 (by kernel_rfl) rfl #[.int .u8 a1] rfl (by (try simp only [List.map_toArray, List.map_cons, List.map_nil]); first | done | rfl | (simp only [List.length_drop, List.length_take]; rfl) | (simp only [IntKind.wrap_u64]; rw [Int.emod_eq_of_lt (by omega) (by omega)]; rfl) | (simp only [ByteArray.size_extract]; done) | (simp only [ByteArray.size_extract]; rfl)) ?_; (with_reducible refine (meta_sortOf.calls k a1 t171 _ A5.out).mono ?_); rintro e w' ⟨rfl, ⟨nd, rfl⟩⟩; refine ⟨_, rfl, ?_⟩) | ((with_reducible refine gate_callee (f := 37) rfl ?_); refine goesL_ (some 27) rfl rfl Tryz.func37 (by kernel_rfl) rfl #[.string t169] rfl (by (try simp only [List.map_toArray, List.map_cons, List.map_nil]); first | done | rfl | (simp only [List.length_drop, List.length_take]; rfl) | (simp only [IntKind.wrap_u64]; rw [Int.emod_eq_of_lt (by omega) (by omega)]; rfl) | (simp only [ByteArray.size_extract]; done) | (simp only [ByteArray.size_extract]; rfl)) ?_; (with_reducible refine (digits_Signed.calls k t169 t172 t173 _ ?side1 A7.out).mono ?_); (case side1 => exact Vars.below HV.out (by repeat (first | (with_reducible first | exact HB.out | apply below_alloc | apply pw_below_drewN | apply below_drew1 | refine below_set ?_ GE168.out) | exact HB.out))); rintro e w11 ⟨rfl, hb⟩; refine ⟨_, rfl, ?_⟩; have n0_ := Aside0.mk (blk_below (g := gb168) (o := .cells #[.int .i64 a0_0, .string a0_1, .int .i64 a0_2, .slice A0_3 l0_3.length c0_3] 31 (0, 0)) (by (with_reducible repeat (first | refine blk_drewN ?_ _ | refine blk_drew ?_ | refine blk_alloc ?_ _)); exact BK168.out) hb); have n1_ := Aside0.mk (below_step (by repeat (first | (with_reducible first | exact HB.out | apply below_alloc | apply pw_below_drewN | apply below_drew1 | refine below_set ?_ GE168.out) | exact HB.out)) hb); clear BK168; clear HB; have BK168 := n0_; have HB := n1_; clear n0_ n1_; (try clear hb); (try clear hb2); (try clear hk); (try clear hi)))
     go_ret3
     exact ⟨by first | rfl | (simp [errW_none, errW_some] <;> rfl) | (simp [*, errW_none, errW_some] <;> rfl), by repeat (first | (with_reducible first | exact HB.out | apply below_alloc | apply pw_below_drewN | apply below_drew1 | refine below_set ?_ GE168.out) | exact HB.out)⟩
   · rw [if_neg c6] at H
     have c6b0 : (t171 == 3) = false := beq_eq_false_iff_ne.mpr c6
     have c6b1 : (t171 != 3) = true := bne_iff_ne.mpr c6
     have HC12 := Aside0.mk H
     clear H
     go_enter Tryz.func13, Tryz.ntmps13
     go_upto_if 33 with (first | ((with_reducible refine gate_dst (N := 2) rfl ?_); refine box_event ?hg (N := 2) ?hd (cs := #[.int .i64 a0_0, .string a0_1, .int .i64 a0_2, .slice A0_3 l0_3.length c0_3]) (t := 31) ?hr ?_; (case hd => rfl); (case hg => rfl); (case hr => first | (go_simp; done) | (go_simp; rfl)); intro gb168 hg w13 hbox hb; have n0_ := Aside0.mk (below_step (by repeat (first | (with_reducible first | exact HB.out | apply below_alloc | apply pw_below_drewN | apply below_drew1) | exact HB.out)) hb); have n1_ := Aside0.mk (hbox); have n2_ := Aside0.mk ((by rw [hg]; exact (below_size (by repeat (first | (with_reducible first | exact HB.out | apply below_alloc | apply pw_below_drewN | apply below_drew1) | exact HB.out))) : w.heap.size ≤ gb168)); have n3_ := Aside0.mk ((by rw [hg]; exact (below_size (by repeat (first | (with_reducible first | exact HB.out | apply below_alloc | apply pw_below_drewN | apply below_drew1) | exact HB.out))) : w.heap.size ≤ gb168)); clear HB; have HB := n0_; have BK168 := n1_; have GW168 := n2_; have GE168 := n3_; clear n0_ n1_ n2_ n3_; clear hb hbox hg; have hcz14_0 : w13.cell? ⟨gb168, 0, none⟩ = some (.int .i64 a0_0) := (blk_cell BK168.out 0).trans rfl; have hcz14_1 : w13.cell? ⟨gb168, 1, none⟩ = some (.string a0_1) := (blk_cell BK168.out 1).trans rfl; have hcz14_2 : w13.cell? ⟨gb168, 2, none⟩ = some (.int .i64 a0_2) := (blk_cell BK168.out 2).trans rfl; have hcz14_3 : w13.cell? ⟨gb168, 3, none⟩ = some (.slice A0_3 l0_3.length c0_3) := (blk_cell BK168.out 3).trans rfl; have hfz14_0 := blk_frozen BK168.out 0; have hfz14_1 := blk_frozen BK168.out 1; have hfz14_2 := blk_frozen BK168.out 2; have hfz14_3 := blk_frozen BK168.out 3) | ((with_reducible refine gate_callee (f := 15) rfl ?_); refine goesL_ (some 16) rfl rfl Tryz.func15 (by kernel_rfl) rfl #[.agg #[.int .i64 a0_0, .string a0_1, .int .i64 a0_2, .slice A0_3 l0_3.length c0_3], .int .u8 a1] rfl (by (try simp only [List.map_toArray, List.map_cons, List.map_nil]); first | done | rfl | (simp only [List.length_drop, List.length_take]; rfl) | (simp only [IntKind.wrap_u64]; rw [Int.emod_eq_of_lt (by omega) (by omega)]; rfl) | (simp only [ByteArray.size_extract]; done) | (simp only [ByteArray.size_extract]; rfl)) ?_; (with_reducible refine (meta_Find.calls a0_0 a0_1 a0_2 _ _ l0_3 a1 t169 true _ ?side1 ?side2 A3.out).mono ?_); (case side1 => repeat (first | exact (Kd.C_below HR0_3.out HB.out) | (with_reducible refine Kd.C_alloc ?_ _) | (with_reducible refine Kd.C_drewN ?_ _) | (with_reducible refine Kd.C_drew ?_))); (case side2 => exact HC0_3.out); rintro e w15 ⟨rfl, hb⟩; refine ⟨_, rfl, ?_⟩; have n0_ := Aside0.mk (blk_below (g := gb168) (o := .cells #[.int .i64 a0_0, .string a0_1, .int .i64 a0_2, .slice A0_3 l0_3.length c0_3] 31 (0, 0)) (by (with_reducible repeat (first | refine blk_drewN ?_ _ | refine blk_drew ?_ | refine blk_alloc ?_ _)); exact BK168.out) hb); have n1_ := Aside0.mk (below_step (by repeat (first | (with_reducible first | exact HB.out | apply below_alloc | apply pw_below_drewN | apply below_drew1 | refine below_set ?_ GE168.out) | exact HB.out)) hb); clear BK168; clear HB; have BK168 := n0_; have HB := n1_; clear n0_ n1_; (try clear hb); (try clear hb2); (try clear hk); (try clear hi)) | ((with_reducible refine gate_callee (f := 36) rfl ?_); refine goesL_ (some 22) rfl rfl Tryz.func36 (by kernel_rfl) rfl #[.int .u8 a1] rfl (by (try simp only [List.map_toArray, List.map_cons, List.map_nil]); first | done | rfl | (simp only [List.length_drop, List.length_take]; rfl) | (simp only [IntKind.wrap_u64]; rw [Int.emod_eq_of_lt (by omega) (by omega)]; rfl) | (simp only [ByteArray.size_extract]; done) | (simp only [ByteArray.size_extract]; rfl)) ?_; (with_reducible refine (meta_sortOf.calls k a1 t171 _ A5.out).mono ?_); rintro e w' ⟨rfl, ⟨nd, rfl⟩⟩; refine ⟨_, rfl, ?_⟩))
     (try simp only [Act.put, List.setIfInBounds_toArray, List.set_cons_zero, List.set_cons_succ])
     go_cut [33] (fun v33 wc => ∃ (kq : Nat) (x33_11 : Bool), v33 = .bool x33_11 ∧ Aside0 (meta_Number.j0 kq a1 t169 x33_11 = some (r1, r2, r3)) ∧ Aside0 (kq ≤ k) ∧ Aside0 (wc.heap[gb168]? = some (.cells #[.int .i64 a0_0, .string a0_1, .int .i64 a0_2, (.slice A0_3 l0_3.length c0_3)] 31 (0, 0))) ∧ Aside0 (Below w.heap.size w wc))
     case first =>
      have H := HC12.out
      clear HC12
      by_cases c16 : t171 = 1
      · rw [if_pos c16] at H
        have c16b0 : (t171 == 1) = true := beq_iff_eq.mpr c16
        have c16b1 : (t171 != 1) = false := bne_eq_false_iff_eq.mpr c16
        clear c16
        (first | rw [c16b0] | (simp only [i64_w, i32_w]; rw [c16b0]) | skip)
        have H' := Aside0.mk H
        clear H
        go_wp2
        go_meet
        case rel => exact ⟨_, ((t171 == 1)), (by first | rfl | (simp; done) | (simp [*]; done)), H', ⟨by first | omega | exact Nat.le_refl _⟩, ⟨by (with_reducible repeat (first | refine blk_drewN ?_ _ | refine blk_drew ?_ | refine blk_alloc ?_ _)); exact BK168.out⟩, ⟨by repeat (first | (with_reducible first | exact HB.out | apply below_alloc | apply pw_below_drewN | apply below_drew1 | refine below_set ?_ GE168.out) | exact HB.out)⟩⟩
      · rw [if_neg c16] at H
        have c16b0 : (t171 == 1) = false := beq_eq_false_iff_ne.mpr c16
        have c16b1 : (t171 != 1) = true := bne_iff_ne.mpr c16
        (first | rw [c16b0] | (simp only [i64_w, i32_w]; rw [c16b0]) | skip)
        have H' := Aside0.mk H
        clear H
        go_wp2
        go_meet
        case rel => exact ⟨_, ((t171 == 2)), (by first | rfl | (simp; done) | (simp [*]; done)), H', ⟨by first | omega | exact Nat.le_refl _⟩, ⟨by (with_reducible repeat (first | refine blk_drewN ?_ _ | refine blk_drew ?_ | refine blk_alloc ?_ _)); exact BK168.out⟩, ⟨by repeat (first | (with_reducible first | exact HB.out | apply below_alloc | apply pw_below_drewN | apply below_drew1 | refine below_set ?_ GE168.out) | exact HB.out)⟩⟩
     case rest =>
      clear HC12
      try clear c1
      try clear p2
      try clear c3
      try clear c4
      try clear c6
      try clear c6b0
      try clear c6b1
      try clear c13
      try clear c15
      try clear c16
      try clear c16b0
      try clear c16b1
      try clear hcz14_0
      try clear hcz14_1
      try clear hcz14_2
      try clear hcz14_3
      try clear hcz9_0
      try clear hcz9_1
      try clear hcz9_2
      try clear hcz9_3
      try clear hfz14_0
      try clear hfz14_1
      try clear hfz14_2
      try clear hfz14_3
      try clear hfz9_0
      try clear hfz9_1
      try clear hfz9_2
      try clear hfz9_3
      obtain ⟨kq, x33_11, rfl, HA, HJ11, BK168, HB⟩ := hcut
      cases kq with
      | zero => exact absurd HA.out (by simp [meta_Number.j0])
      | succ kj11 =>
       have H := HA.out
       clear HA
       simp only [meta_Number.j0] at H
       by_cases c17 : x33_11 = true
       · subst c17
         have H1 : ((digits_Parse.f t169).bind fun bt174 => (if bt174.2 = 0 then (if a1 = 70 then (if bt174.1 > 4294967295 then (some (0, 0, false)) else (some (0, bt174.1, true))) else (some (0, bt174.1, true))) else (some (0, 0, false)))) = some (r1, r2, r3) := by rw [if_pos rfl] at H; exact H
         clear H
         have H := H1
         clear H1
         replace H := Option.bind_eq_some_iff.mp H
         obtain ⟨⟨t174, t175⟩, A180, H⟩ := H
         replace H : (if t175 = 0 then (if a1 = 70 then (if t174 > 4294967295 then (some (0, 0, false)) else (some (0, t174, true))) else (some (0, t174, true))) else (some (0, 0, false))) = some (r1, r2, r3) := H
         have A18 := Aside0.mk A180
         clear A180
         by_cases c19 : t175 = 0
         · rw [if_pos c19] at H
           have c19b0 : (t175 == 0) = true := beq_iff_eq.mpr c19
           have c19b1 : (t175 != 0) = false := bne_eq_false_iff_eq.mpr c19
           clear c19
           by_cases c20 : a1 = 70
           · rw [if_pos c20] at H
             have c20b0 : (a1 == 70) = true := beq_iff_eq.mpr c20
             have c20b1 : (a1 != 70) = false := bne_eq_false_iff_eq.mpr c20
             clear c20
             by_cases c21 : t174 > 4294967295
             · rw [if_pos c21] at H
               have c21b0 : decide (4294967295 < t174) = true := decide_eq_true c21
               clear c21
               simp only [Option.some.injEq, Prod.mk.injEq] at H
               obtain ⟨rfl, rfl, rfl⟩ := H
               go_wp2_with (first | ((with_reducible refine gate_callee (f := 38) rfl ?_); refine goesL_ (some 38) rfl rfl Tryz.func38 (by kernel_rfl) rfl #[.string t169] rfl (by (try simp only [List.map_toArray, List.map_cons, List.map_nil]); first | done | rfl | (simp only [List.length_drop, List.length_take]; rfl) | (simp only [IntKind.wrap_u64]; rw [Int.emod_eq_of_lt (by omega) (by omega)]; rfl) | (simp only [ByteArray.size_extract]; done) | (simp only [ByteArray.size_extract]; rfl)) ?_; (with_reducible refine (digits_Parse.calls t169 t174 t175 _ ?side1 A18.out).mono ?_); (case side1 => exact Vars.below HV.out (by repeat (first | (with_reducible first | exact HB.out | apply below_alloc | apply pw_below_drewN | apply below_drew1 | refine below_set ?_ GE168.out) | exact HB.out))); rintro e w22 ⟨rfl, hb⟩; refine ⟨_, rfl, ?_⟩; have n0_ := Aside0.mk (blk_below (g := gb168) (o := .cells #[.int .i64 a0_0, .string a0_1, .int .i64 a0_2, .slice A0_3 l0_3.length c0_3] 31 (0, 0)) (by (with_reducible repeat (first | refine blk_drewN ?_ _ | refine blk_drew ?_ | refine blk_alloc ?_ _)); exact BK168.out) hb); have n1_ := Aside0.mk (below_step (by repeat (first | (with_reducible first | exact HB.out | apply below_alloc | apply pw_below_drewN | apply below_drew1 | refine below_set ?_ GE168.out) | exact HB.out)) hb); clear BK168; clear HB; have BK168 := n0_; have HB := n1_; clear n0_ n1_; (try clear hb); (try clear hb2); (try clear hk); (try clear hi)))
               go_ret3
               exact ⟨by first | rfl | (simp [errW_none, errW_some] <;> rfl) | (simp [*, errW_none, errW_some] <;> rfl), by repeat (first | (with_reducible first | exact HB.out | apply below_alloc | apply pw_below_drewN | apply below_drew1 | refine below_set ?_ GE168.out) | exact HB.out)⟩
             · rw [if_neg c21] at H
               have c21b0 : decide (4294967295 < t174) = false := decide_eq_false c21
               clear c21
               simp only [Option.some.injEq, Prod.mk.injEq] at H
               obtain ⟨rfl, rfl, rfl⟩ := H
               go_wp2_with (first | ((with_reducible refine gate_callee (f := 38) rfl ?_); refine goesL_ (some 38) rfl rfl Tryz.func38 (by kernel_rfl) rfl #[.string t169] rfl (by (try simp only [List.map_toArray, List.map_cons, List.map_nil]); first | done | rfl | (simp only [List.length_drop, List.length_take]; rfl) | (simp only [IntKind.wrap_u64]; rw [Int.emod_eq_of_lt (by omega) (by omega)]; rfl) | (simp only [ByteArray.size_extract]; done) | (simp only [ByteArray.size_extract]; rfl)) ?_; (with_reducible refine (digits_Parse.calls t169 t174 t175 _ ?side1 A18.out).mono ?_); (case side1 => exact Vars.below HV.out (by repeat (first | (with_reducible first | exact HB.out | apply below_alloc | apply pw_below_drewN | apply below_drew1 | refine below_set ?_ GE168.out) | exact HB.out))); rintro e w23 ⟨rfl, hb⟩; refine ⟨_, rfl, ?_⟩; have n0_ := Aside0.mk (blk_below (g := gb168) (o := .cells #[.int .i64 a0_0, .string a0_1, .int .i64 a0_2, .slice A0_3 l0_3.length c0_3] 31 (0, 0)) (by (with_reducible repeat (first | refine blk_drewN ?_ _ | refine blk_drew ?_ | refine blk_alloc ?_ _)); exact BK168.out) hb); have n1_ := Aside0.mk (below_step (by repeat (first | (with_reducible first | exact HB.out | apply below_alloc | apply pw_below_drewN | apply below_drew1 | refine below_set ?_ GE168.out) | exact HB.out)) hb); clear BK168; clear HB; have BK168 := n0_; have HB := n1_; clear n0_ n1_; (try clear hb); (try clear hb2); (try clear hk); (try clear hi)))
               go_ret3
               exact ⟨by first | rfl | (simp [errW_none, errW_some] <;> rfl) | (simp [*, errW_none, errW_some] <;> rfl), by repeat (first | (with_reducible first | exact HB.out | apply below_alloc | apply pw_below_drewN | apply below_drew1 | refine below_set ?_ GE168.out) | exact HB.out)⟩
           · rw [if_neg c20] at H
             have c20b0 : (a1 == 70) = false := beq_eq_false_iff_ne.mpr c20
             have c20b1 : (a1 != 70) = true := bne_iff_ne.mpr c20
             simp only [Option.some.injEq, Prod.mk.injEq] at H
             obtain ⟨rfl, rfl, rfl⟩ := H
             go_wp2_with (first | ((with_reducible refine gate_callee (f := 38) rfl ?_); refine goesL_ (some 38) rfl rfl Tryz.func38 (by kernel_rfl) rfl #[.string t169] rfl (by (try simp only [List.map_toArray, List.map_cons, List.map_nil]); first | done | rfl | (simp only [List.length_drop, List.length_take]; rfl) | (simp only [IntKind.wrap_u64]; rw [Int.emod_eq_of_lt (by omega) (by omega)]; rfl) | (simp only [ByteArray.size_extract]; done) | (simp only [ByteArray.size_extract]; rfl)) ?_; (with_reducible refine (digits_Parse.calls t169 t174 t175 _ ?side1 A18.out).mono ?_); (case side1 => exact Vars.below HV.out (by repeat (first | (with_reducible first | exact HB.out | apply below_alloc | apply pw_below_drewN | apply below_drew1 | refine below_set ?_ GE168.out) | exact HB.out))); rintro e w24 ⟨rfl, hb⟩; refine ⟨_, rfl, ?_⟩; have n0_ := Aside0.mk (blk_below (g := gb168) (o := .cells #[.int .i64 a0_0, .string a0_1, .int .i64 a0_2, .slice A0_3 l0_3.length c0_3] 31 (0, 0)) (by (with_reducible repeat (first | refine blk_drewN ?_ _ | refine blk_drew ?_ | refine blk_alloc ?_ _)); exact BK168.out) hb); have n1_ := Aside0.mk (below_step (by repeat (first | (with_reducible first | exact HB.out | apply below_alloc | apply pw_below_drewN | apply below_drew1 | refine below_set ?_ GE168.out) | exact HB.out)) hb); clear BK168; clear HB; have BK168 := n0_; have HB := n1_; clear n0_ n1_; (try clear hb); (try clear hb2); (try clear hk); (try clear hi)))
             go_ret3
             exact ⟨by first | rfl | (simp [errW_none, errW_some] <;> rfl) | (simp [*, errW_none, errW_some] <;> rfl), by repeat (first | (with_reducible first | exact HB.out | apply below_alloc | apply pw_below_drewN | apply below_drew1 | refine below_set ?_ GE168.out) | exact HB.out)⟩
         · rw [if_neg c19] at H
           have c19b0 : (t175 == 0) = false := beq_eq_false_iff_ne.mpr c19
           have c19b1 : (t175 != 0) = true := bne_iff_ne.mpr c19
           simp only [Option.some.injEq, Prod.mk.injEq] at H
           obtain ⟨rfl, rfl, rfl⟩ := H
           go_wp2_with (first | ((with_reducible refine gate_callee (f := 38) rfl ?_); refine goesL_ (some 38) rfl rfl Tryz.func38 (by kernel_rfl) rfl #[.string t169] rfl (by (try simp only [List.map_toArray, List.map_cons, List.map_nil]); first | done | rfl | (simp only [List.length_drop, List.length_take]; rfl) | (simp only [IntKind.wrap_u64]; rw [Int.emod_eq_of_lt (by omega) (by omega)]; rfl) | (simp only [ByteArray.size_extract]; done) | (simp only [ByteArray.size_extract]; rfl)) ?_; (with_reducible refine (digits_Parse.calls t169 t174 t175 _ ?side1 A18.out).mono ?_); (case side1 => exact Vars.below HV.out (by repeat (first | (with_reducible first | exact HB.out | apply below_alloc | apply pw_below_drewN | apply below_drew1 | refine below_set ?_ GE168.out) | exact HB.out))); rintro e w25 ⟨rfl, hb⟩; refine ⟨_, rfl, ?_⟩; have n0_ := Aside0.mk (blk_below (g := gb168) (o := .cells #[.int .i64 a0_0, .string a0_1, .int .i64 a0_2, .slice A0_3 l0_3.length c0_3] 31 (0, 0)) (by (with_reducible repeat (first | refine blk_drewN ?_ _ | refine blk_drew ?_ | refine blk_alloc ?_ _)); exact BK168.out) hb); have n1_ := Aside0.mk (below_step (by repeat (first | (with_reducible first | exact HB.out | apply below_alloc | apply pw_below_drewN | apply below_drew1 | refine below_set ?_ GE168.out) | exact HB.out)) hb); clear BK168; clear HB; have BK168 := n0_; have HB := n1_; clear n0_ n1_; (try clear hb); (try clear hb2); (try clear hk); (try clear hi)))
           go_ret3
           exact ⟨by first | rfl | (simp [errW_none, errW_some] <;> rfl) | (simp [*, errW_none, errW_some] <;> rfl), by repeat (first | (with_reducible first | exact HB.out | apply below_alloc | apply pw_below_drewN | apply below_drew1 | refine below_set ?_ GE168.out) | exact HB.out)⟩
       · replace c17 := Bool.eq_false_iff.mpr c17
         subst c17
         have H1 : (some (0, 0, false)) = some (r1, r2, r3) := by rw [if_neg (show ¬ (false = true) by decide)] at H; exact H
         clear H
         have H := H1
         clear H1
         simp only [Option.some.injEq, Prod.mk.injEq] at H
         obtain ⟨rfl, rfl, rfl⟩ := H
         go_wp2
         go_ret3
         exact ⟨by first | rfl | (simp [errW_none, errW_some] <;> rfl) | (simp [*, errW_none, errW_some] <;> rfl), by repeat (first | (with_reducible first | exact HB.out | apply below_alloc | apply pw_below_drewN | apply below_drew1 | refine below_set ?_ GE168.out) | exact HB.out)⟩
 · replace c4 := Bool.eq_false_iff.mpr c4
   subst c4
   have H1 : (some (0, 0, false)) = some (r1, r2, r3) := by rw [if_neg (show ¬ (false = true) by decide)] at H; exact H
   clear H
   have H := H1
   clear H1
   simp only [Option.some.injEq, Prod.mk.injEq] at H
   obtain ⟨rfl, rfl, rfl⟩ := H
   go_enter Tryz.func13, Tryz.ntmps13
   go_wp2_with (first | ((with_reducible refine gate_dst (N := 2) rfl ?_); refine box_event ?hg (N := 2) ?hd (cs := #[.int .i64 a0_0, .string a0_1, .int .i64 a0_2, .slice A0_3 l0_3.length c0_3]) (t := 31) ?hr ?_; (case hd => rfl); (case hg => rfl); (case hr => first | (go_simp; done) | (go_simp; rfl)); intro gb168 hg w26 hbox hb; have n0_ := Aside0.mk (below_step (by repeat (first | (with_reducible first | exact HB.out | apply below_alloc | apply pw_below_drewN | apply below_drew1) | exact HB.out)) hb); have n1_ := Aside0.mk (hbox); have n2_ := Aside0.mk ((by rw [hg]; exact (below_size (by repeat (first | (with_reducible first | exact HB.out | apply below_alloc | apply pw_below_drewN | apply below_drew1) | exact HB.out))) : w.heap.size ≤ gb168)); have n3_ := Aside0.mk ((by rw [hg]; exact (below_size (by repeat (first | (with_reducible first | exact HB.out | apply below_alloc | apply pw_below_drewN | apply below_drew1) | exact HB.out))) : w.heap.size ≤ gb168)); clear HB; have HB := n0_; have BK168 := n1_; have GW168 := n2_; have GE168 := n3_; clear n0_ n1_ n2_ n3_; clear hb hbox hg; have hcz27_0 : w26.cell? ⟨gb168, 0, none⟩ = some (.int .i64 a0_0) := (blk_cell BK168.out 0).trans rfl; have hcz27_1 : w26.cell? ⟨gb168, 1, none⟩ = some (.string a0_1) := (blk_cell BK168.out 1).trans rfl; have hcz27_2 : w26.cell? ⟨gb168, 2, none⟩ = some (.int .i64 a0_2) := (blk_cell BK168.out 2).trans rfl; have hcz27_3 : w26.cell? ⟨gb168, 3, none⟩ = some (.slice A0_3 l0_3.length c0_3) := (blk_cell BK168.out 3).trans rfl; have hfz27_0 := blk_frozen BK168.out 0; have hfz27_1 := blk_frozen BK168.out 1; have hfz27_2 := blk_frozen BK168.out 2; have hfz27_3 := blk_frozen BK168.out 3) | ((with_reducible refine gate_callee (f := 15) rfl ?_); refine goesL_ (some 16) rfl rfl Tryz.func15 (by kernel_rfl) rfl #[.agg #[.int .i64 a0_0, .string a0_1, .int .i64 a0_2, .slice A0_3 l0_3.length c0_3], .int .u8 a1] rfl (by (try simp only [List.map_toArray, List.map_cons, List.map_nil]); first | done | rfl | (simp only [List.length_drop, List.length_take]; rfl) | (simp only [IntKind.wrap_u64]; rw [Int.emod_eq_of_lt (by omega) (by omega)]; rfl) | (simp only [ByteArray.size_extract]; done) | (simp only [ByteArray.size_extract]; rfl)) ?_; (with_reducible refine (meta_Find.calls a0_0 a0_1 a0_2 _ _ l0_3 a1 t169 false _ ?side1 ?side2 A3.out).mono ?_); (case side1 => repeat (first | exact (Kd.C_below HR0_3.out HB.out) | (with_reducible refine Kd.C_alloc ?_ _) | (with_reducible refine Kd.C_drewN ?_ _) | (with_reducible refine Kd.C_drew ?_))); (case side2 => exact HC0_3.out); rintro e w28 ⟨rfl, hb⟩; refine ⟨_, rfl, ?_⟩; have n0_ := Aside0.mk (blk_below (g := gb168) (o := .cells #[.int .i64 a0_0, .string a0_1, .int .i64 a0_2, .slice A0_3 l0_3.length c0_3] 31 (0, 0)) (by (with_reducible repeat (first | refine blk_drewN ?_ _ | refine blk_drew ?_ | refine blk_alloc ?_ _)); exact BK168.out) hb); have n1_ := Aside0.mk (below_step (by repeat (first | (with_reducible first | exact HB.out | apply below_alloc | apply pw_below_drewN | apply below_drew1 | refine below_set ?_ GE168.out) | exact HB.out)) hb); clear BK168; clear HB; have BK168 := n0_; have HB := n1_; clear n0_ n1_; (try clear hb); (try clear hb2); (try clear hk); (try clear hi)))
   go_ret3
   exact ⟨by first | rfl | (simp [errW_none, errW_some] <;> rfl) | (simp [*, errW_none, errW_some] <;> rfl), by repeat (first | (with_reducible first | exact HB.out | apply below_alloc | apply pw_below_drewN | apply below_drew1 | refine below_set ?_ GE168.out) | exact HB.out)⟩

end
end Go.Proofs.YtfboejlemnfndaaGreatDoor.XMt
end
section
namespace Go.Proofs.YtfboejlemnfndaaGreatDoor.XMt
open Go.RowKit Go.Proofs.YtfboejlemnfndaaGreatDoorW.PrintWords Go.Proofs.YtfboejlemnfndaaGreatDoorW.PrintLast Go.Proofs.YtfboejlemnfndaaGreatDoorW.PrintMore
attribute [local go_sem] extract_sub max2_int min2_int max_two min_two max_three min_three max_four min_four   -- for this text's walks alone
set_option linter.unusedVariables false
set_option linter.unusedSimpArgs false

noncomputable section
def strings_Split.f (a0 a1 : ByteArray) : Option (List ByteArray) := if a0.size < 4294967281 ∧ 1 ≤ a1.size then some (Lib.splitB a1 0 (Lib.countB a0 a1) a0) else none
theorem strings_Split.reps (w : World) (base : Nat) (ok : Nat → Prop) : ∀ l : List ByteArray, Reps (Kd.string.M w base ok) 1 l (l.map Value.string)
 | [] => Reps.none _ _
 | x :: l => Reps.one rfl (strings_Split.reps w base ok l)
theorem strings_Split.calls (a0 a1 : ByteArray) (r : List ByteArray) (w : World) (hv : Vars w) (h : strings_Split.f a0 a1 = some r) :
 Calls Tryz.prog 48 #[.string a0, .string a1] w fun e w' => ∃ v0_ : Value, e = .returned (v0_) ∧ Kd.R Kd.string 9 w' w.heap.size (fun _ => True) v0_ r ∧ Below w.heap.size w w' := by
 unfold strings_Split.f at h
 split at h
 · rename_i hh
   injection h with h
   subst h
   obtain ⟨m, hm⟩ := hv.most
   have hlen := Lib.splitB_all a1 hh.2 0 _ a0 rfl
   have hle := Lib.countB_le a1 hh.2 a0.size a0 (Nat.le_refl _)
   refine (Tryz.strings_Split a0 a1 m w hh.1 hm hh.2).mono fun e w' ⟨he, hw⟩ => ⟨_, he, ?_, by rw [hw]; exact (Below.refl _ w).alloc (Nat.le_refl _) _⟩
   subst hw
   refine ⟨fun _ _ => trivial, (Lib.splitB a1 0 (Lib.countB a0 a1) a0).map Value.string, ?_, strings_Split.reps _ _ _ _⟩
   have h2 := World.ownsRow_lit (base := w.heap.size) (e := 9) (size := 1) w ((Lib.splitB a1 0 (Lib.countB a0 a1) a0).map Value.string).toArray (Lib.countB a0 a1 + 1) (Nat.le_refl _) (by unfold maxLen; omega) (by simp [hlen])
   rw [hlen]
   simp only [List.toList_toArray] at h2
   exact h2
 · cases h

end
end Go.Proofs.YtfboejlemnfndaaGreatDoor.XMt
end
section
namespace Go.Proofs.YtfboejlemnfndaaGreatDoor.XMt
open Go.RowKit Go.Proofs.YtfboejlemnfndaaGreatDoorW.PrintWords Go.Proofs.YtfboejlemnfndaaGreatDoorW.PrintLast Go.Proofs.YtfboejlemnfndaaGreatDoorW.PrintMore
attribute [local go_sem] extract_sub max2_int min2_int max_two min_two max_three min_three max_four min_four   -- for this text's walks alone
set_option linter.unusedVariables false
set_option linter.unusedSimpArgs false

noncomputable section
def meta_named.l0 : Nat → ByteArray → List (S63) → Int → Int → Option (Int)
 | 0, _, _, _, _ => none
 | k + 1, x0, x5, x6, x7 => if x7 < x6 then (if 0 ≤ x7 then (if x7 < (x5.length : Int) then (if x7 ≥ 1 then (if ((rd_T63 x5 x7).f0).toList = x0.toList then (some x7) else (meta_named.l0 k x0 x5 x6 (wrap64 (x7 + 1)))) else (meta_named.l0 k x0 x5 x6 (wrap64 (x7 + 1)))) else (none)) else (none)) else (some 0)
def meta_named.f (k : Nat) (a0 : ByteArray) : Option (Int) := (meta_ops.f).bind fun t176 => (meta_named.l0 k a0 t176 (t176.length : Int) 0)
theorem meta_named.mono_l : ∀ k, (∀ y0 y1 y2 y3, LeO (meta_named.l0 k y0 y1 y2 y3) (meta_named.l0 (k + 1) y0 y1 y2 y3))
 | 0 => fun _ _ _ _ r h => by simp [meta_named.l0] at h
 | k + 1 => by
  have ih0 := meta_named.mono_l k
  · intro y0 y1 y2 y3
    unfold meta_named.l0
    repeat' first
    | (with_reducible exact ih0 _ _ _ _)
    | (with_reducible exact LeO.refl _)
    | (with_reducible exact LeO.none _)
    | (with_reducible refine LeO.ite ?_ ?_)
    | (with_reducible refine LeO.bind ?_ (fun _ => ?_))
    | exact ih0 _ _ _ _
    | exact LeO.none _
    | refine LeO.ite ?_ ?_
    | refine LeO.bind ?_ (fun _ => ?_)
theorem meta_named.mono : ∀ a0 k, LeO (meta_named.f k a0) (meta_named.f (k + 1) a0) := by
 intro a0 k
 have ih0 := meta_named.mono_l k
 unfold meta_named.f
 repeat' first
  | (with_reducible exact ih0 _ _ _ _)
  | (with_reducible exact LeO.refl _)
  | (with_reducible exact LeO.none _)
  | (with_reducible refine LeO.ite ?_ ?_)
  | (with_reducible refine LeO.bind ?_ (fun _ => ?_))
  | exact ih0 _ _ _ _
  | exact LeO.none _
  | refine LeO.ite ?_ ?_
  | refine LeO.bind ?_ (fun _ => ?_)
set_option maxHeartbeats 8000000 in
set_option maxRecDepth 100000 in
theorem meta_named.calls (k : Nat) (a0 : ByteArray) (r : Int) (w : World) (h : meta_named.f k a0 = some r) :
 Calls Tryz.prog 49 #[.string a0] w fun e w' => e = .returned (.int .i64 r) ∧ Below w.heap.size w w' := by
 have hu63 := Tryz.underlying63
 have HB := Aside0.mk (Below.refl w.heap.size w)
 have H : ((meta_ops.f).bind fun t176 => (meta_named.l0 k a0 t176 (t176.length : Int) 0)) = some r := h
 clear h
 replace H := Option.bind_eq_some_iff.mp H
 obtain ⟨t176, A20, H⟩ := H
 replace H : (meta_named.l0 k a0 t176 (t176.length : Int) 0) = some r := H
 have A2 := Aside0.mk A20
 clear A20
 have H' := Aside0.mk H
 clear H
 go_enter Tryz.func49, Tryz.ntmps49
 go_wp2_with (first | ((with_reducible refine gate_callee (f := 29) rfl ?_); refine goesL_ (some 5) rfl rfl Tryz.func29 (by kernel_rfl) rfl #[] rfl (by (try simp only [List.map_toArray, List.map_cons, List.map_nil]); first | done | rfl | (simp only [List.length_drop, List.length_take]; rfl) | (simp only [IntKind.wrap_u64]; rw [Int.emod_eq_of_lt (by omega) (by omega)]; rfl) | (simp only [ByteArray.size_extract]; done) | (simp only [ByteArray.size_extract]; rfl)) ?_; (with_reducible refine (meta_ops.calls  t176 _ A2.out).mono ?_); rintro e w3 ⟨v177, rfl, ho0, hb⟩; refine ⟨_, rfl, ?_⟩; have n0_ := Aside0.mk (Kd.R_lower ho0 (below_size (by repeat (first | (with_reducible first | exact HB.out | apply below_alloc | apply pw_below_drewN | apply below_drew1) | exact HB.out)))); have n1_ := Aside0.mk (below_step (by repeat (first | (with_reducible first | exact HB.out | apply below_alloc | apply pw_below_drewN | apply below_drew1) | exact HB.out)) hb); clear HB; have HO178 := n0_; have HB := n1_; clear n0_ n1_; (try clear hb); (try clear hb2); (try clear hk); (try clear hi); (try clear ho0); obtain ⟨Ao4, co4, eo4⟩ := Kd.R_slice HO178.out; subst eo4))
 go_loopg [7] k (fun kq v7 w' => ∃ (x7_1 : Int), v7 = .int .i64 x7_1 ∧ Aside0 (meta_named.l0 kq a0 t176 (t176.length : Int) x7_1 = some r) ∧ Aside0 (kq ≤ k) ∧ Aside0 (Kd.R k63 63 w' w.heap.size (fun _ => True) (.slice Ao4 t176.length co4) t176) ∧ Aside0 (Below w.heap.size w w'))
 case atStart => exact ⟨(0), (by first | rfl | (simp; done) | (simp [*]; done)), H', ⟨Nat.le_refl _⟩, ⟨by (with_reducible repeat (first | apply Kd.R_alloc | apply Kd.R_drewN | apply Kd.R_drew)); exact HO178.out⟩, ⟨by repeat (first | (with_reducible first | exact HB.out | apply below_alloc | apply pw_below_drewN | apply below_drew1) | exact HB.out)⟩⟩
 case round =>
  clear H'
  try clear c2
  try clear p2
  try clear c4
  obtain ⟨x7_1, rfl, HA, HK1, HO_5, HB⟩ := hrel
  cases gk with
  | zero => exact absurd HA.out (by simp [meta_named.l0])
  | succ k1 =>
   have H := HA.out
   clear HA
   simp only [meta_named.l0] at H
   by_cases c5 : x7_1 < (t176.length : Int)
   · rw [if_pos c5] at H
     have c5b0 : decide (x7_1 < (t176.length : Int)) = true := decide_eq_true c5
     clear c5
     by_cases c6 : 0 ≤ x7_1
     · rw [if_pos c6] at H
       have c6b0 : decide (0 ≤ x7_1) = true := decide_eq_true c6
       clear c6
       by_cases c7 : x7_1 < (t176.length : Int)
       · rw [if_pos c7] at H
         have c7b0 : decide (x7_1 < (t176.length : Int)) = true := decide_eq_true c7
         clear c7
         by_cases c8 : x7_1 ≥ 1
         · rw [if_pos c8] at H
           have c8b0 : decide (1 ≤ x7_1) = true := decide_eq_true c8
           clear c8
           by_cases c9 : ((rd_T63 t176 x7_1).f0).toList = a0.toList
           · rw [if_pos c9] at H
             have c9b0 : (((rd_T63 t176 x7_1).f0).toList == a0.toList) = true := beq_iff_eq.mpr c9
             have c9b1 : (((rd_T63 t176 x7_1).f0).toList != a0.toList) = false := bne_eq_false_iff_eq.mpr c9
             clear c9
             obtain rfl := Option.some.inj H
             have p179 : 0 ≤ (x7_1 : Int) := of_decide_eq_true (by first | (with_reducible assumption) | assumption)
             have q179 : x7_1 < (t176.length : Int) := of_decide_eq_true (by first | (with_reducible assumption) | assumption)
             obtain ⟨ad179, e179, hx179_0, hx179_1⟩ := at_T63 (Kd.R_reads' HO_5.out).2.2 x7_1 p179 q179
             cases e179
             replace p179 := eq_true p179
             replace q179 := eq_true q179
             go_wp2_with (first | ((with_reducible refine gate_dst (N := 4) rfl ?_); refine box_event ?hg (N := 4) ?hd (cs := #[.string (⟨#[]⟩ : ByteArray), .string (⟨#[]⟩ : ByteArray)]) (t := 63) ?hr ?_; (case hd => rfl); (case hg => rfl); (case hr => first | (go_simp; done) | (go_simp; rfl)); intro gb180 hg w10 hbox hb; have n0_ := Aside0.mk (Kd.R_below (Kd.R_elderB (by (with_reducible repeat (first | apply Kd.R_alloc | apply Kd.R_drewN | apply Kd.R_drew)); exact HO_5.out) gb180 (Nat.le_of_eq hg.symm)) hb); have n1_ := Aside0.mk (below_step (by repeat (first | (with_reducible first | exact HB.out | apply below_alloc | apply pw_below_drewN | apply below_drew1) | exact HB.out)) hb); have n2_ := Aside0.mk (hbox); have n3_ := Aside0.mk ((by rw [hg]; exact (below_size (by repeat (first | (with_reducible first | exact HB.out | apply below_alloc | apply pw_below_drewN | apply below_drew1) | exact HB.out))) : w.heap.size ≤ gb180)); have n4_ := Aside0.mk ((by rw [hg]; exact (below_size (by repeat (first | (with_reducible first | exact HB.out | apply below_alloc | apply pw_below_drewN | apply below_drew1) | exact HB.out))) : w.heap.size ≤ gb180)); clear HO_5; clear HB; have HO_5 := n0_; have HB := n1_; have BK180 := n2_; have GW180 := n3_; have GE180 := n4_; clear n0_ n1_ n2_ n3_ n4_; clear hb hbox hg; have hcz11_0 : w10.cell? ⟨gb180, 0, none⟩ = some (.string (⟨#[]⟩ : ByteArray)) := (blk_cell BK180.out 0).trans rfl; have hcz11_1 : w10.cell? ⟨gb180, 1, none⟩ = some (.string (⟨#[]⟩ : ByteArray)) := (blk_cell BK180.out 1).trans rfl; have hfz11_0 := blk_frozen BK180.out 0; have hfz11_1 := blk_frozen BK180.out 1))
             go_ret
             exact ⟨by first | rfl | (simp [errW_none, errW_some] <;> rfl) | (simp [*, errW_none, errW_some] <;> rfl), by repeat (first | (with_reducible first | exact HB.out | apply below_alloc | apply pw_below_drewN | apply below_drew1 | refine below_set ?_ GE180.out) | exact HB.out)⟩
           · rw [if_neg c9] at H
             have c9b0 : (((rd_T63 t176 x7_1).f0).toList == a0.toList) = false := beq_eq_false_iff_ne.mpr c9
             have c9b1 : (((rd_T63 t176 x7_1).f0).toList != a0.toList) = true := bne_iff_ne.mpr c9
             have H' := Aside0.mk H
             clear H
             have p179 : 0 ≤ (x7_1 : Int) := of_decide_eq_true (by first | (with_reducible assumption) | assumption)
             have q179 : x7_1 < (t176.length : Int) := of_decide_eq_true (by first | (with_reducible assumption) | assumption)
             obtain ⟨ad179, e179, hx179_0, hx179_1⟩ := at_T63 (Kd.R_reads' HO_5.out).2.2 x7_1 p179 q179
             cases e179
             replace p179 := eq_true p179
             replace q179 := eq_true q179
             go_wp2_with (first | ((with_reducible refine gate_dst (N := 4) rfl ?_); refine box_event ?hg (N := 4) ?hd (cs := #[.string (⟨#[]⟩ : ByteArray), .string (⟨#[]⟩ : ByteArray)]) (t := 63) ?hr ?_; (case hd => rfl); (case hg => rfl); (case hr => first | (go_simp; done) | (go_simp; rfl)); intro gb180 hg w12 hbox hb; have n0_ := Aside0.mk (Kd.R_below (Kd.R_elderB (by (with_reducible repeat (first | apply Kd.R_alloc | apply Kd.R_drewN | apply Kd.R_drew)); exact HO_5.out) gb180 (Nat.le_of_eq hg.symm)) hb); have n1_ := Aside0.mk (below_step (by repeat (first | (with_reducible first | exact HB.out | apply below_alloc | apply pw_below_drewN | apply below_drew1) | exact HB.out)) hb); have n2_ := Aside0.mk (hbox); have n3_ := Aside0.mk ((by rw [hg]; exact (below_size (by repeat (first | (with_reducible first | exact HB.out | apply below_alloc | apply pw_below_drewN | apply below_drew1) | exact HB.out))) : w.heap.size ≤ gb180)); have n4_ := Aside0.mk ((by rw [hg]; exact (below_size (by repeat (first | (with_reducible first | exact HB.out | apply below_alloc | apply pw_below_drewN | apply below_drew1) | exact HB.out))) : w.heap.size ≤ gb180)); clear HO_5; clear HB; have HO_5 := n0_; have HB := n1_; have BK180 := n2_; have GW180 := n3_; have GE180 := n4_; clear n0_ n1_ n2_ n3_ n4_; clear hb hbox hg; have hcz13_0 : w12.cell? ⟨gb180, 0, none⟩ = some (.string (⟨#[]⟩ : ByteArray)) := (blk_cell BK180.out 0).trans rfl; have hcz13_1 : w12.cell? ⟨gb180, 1, none⟩ = some (.string (⟨#[]⟩ : ByteArray)) := (blk_cell BK180.out 1).trans rfl; have hfz13_0 := blk_frozen BK180.out 0; have hfz13_1 := blk_frozen BK180.out 1))
             go_roundg k1
             case measure => have := HK1.out; omega
             case rel => exact ⟨(wrap64 (x7_1 + 1)), (by first | rfl | (simp; done) | (simp [*]; done)), H', ⟨by have := HK1.out; omega⟩, ⟨by (with_reducible repeat (first | apply Kd.R_alloc | apply Kd.R_drewN | apply Kd.R_drew)); exact Kd.R_mono (Kd.R_far (p := ⟨gb180, 1, none⟩) (Kd.R_far (p := ⟨gb180, 0, none⟩) (Kd.R_mono HO_5.out (fun k_ hk => (⟨hk, hk.2⟩ : _ ∧ k_ ≠ gb180))) (fun _ hk => hk.2) (.string ((rd_T63 t176 x7_1).f0))) (fun _ hk => hk.2) (.string ((rd_T63 t176 x7_1).f1))) (fun _ hk => trivial)⟩, ⟨by repeat (first | (with_reducible first | exact HB.out | apply below_alloc | apply pw_below_drewN | apply below_drew1 | refine below_set ?_ GE180.out) | exact HB.out)⟩⟩
         · rw [if_neg c8] at H
           have c8b0 : decide (1 ≤ x7_1) = false := decide_eq_false c8
           clear c8
           have H' := Aside0.mk H
           clear H
           have p179 : 0 ≤ (x7_1 : Int) := of_decide_eq_true (by first | (with_reducible assumption) | assumption)
           have q179 : x7_1 < (t176.length : Int) := of_decide_eq_true (by first | (with_reducible assumption) | assumption)
           obtain ⟨ad179, e179, hx179_0, hx179_1⟩ := at_T63 (Kd.R_reads' HO_5.out).2.2 x7_1 p179 q179
           cases e179
           replace p179 := eq_true p179
           replace q179 := eq_true q179
           go_wp2_with (first | ((with_reducible refine gate_dst (N := 4) rfl ?_); refine box_event ?hg (N := 4) ?hd (cs := #[.string (⟨#[]⟩ : ByteArray), .string (⟨#[]⟩ : ByteArray)]) (t := 63) ?hr ?_; (case hd => rfl); (case hg => rfl); (case hr => first | (go_simp; done) | (go_simp; rfl)); intro gb180 hg w14 hbox hb; have n0_ := Aside0.mk (Kd.R_below (Kd.R_elderB (by (with_reducible repeat (first | apply Kd.R_alloc | apply Kd.R_drewN | apply Kd.R_drew)); exact HO_5.out) gb180 (Nat.le_of_eq hg.symm)) hb); have n1_ := Aside0.mk (below_step (by repeat (first | (with_reducible first | exact HB.out | apply below_alloc | apply pw_below_drewN | apply below_drew1) | exact HB.out)) hb); have n2_ := Aside0.mk (hbox); have n3_ := Aside0.mk ((by rw [hg]; exact (below_size (by repeat (first | (with_reducible first | exact HB.out | apply below_alloc | apply pw_below_drewN | apply below_drew1) | exact HB.out))) : w.heap.size ≤ gb180)); have n4_ := Aside0.mk ((by rw [hg]; exact (below_size (by repeat (first | (with_reducible first | exact HB.out | apply below_alloc | apply pw_below_drewN | apply below_drew1) | exact HB.out))) : w.heap.size ≤ gb180)); clear HO_5; clear HB; have HO_5 := n0_; have HB := n1_; have BK180 := n2_; have GW180 := n3_; have GE180 := n4_; clear n0_ n1_ n2_ n3_ n4_; clear hb hbox hg; have hcz15_0 : w14.cell? ⟨gb180, 0, none⟩ = some (.string (⟨#[]⟩ : ByteArray)) := (blk_cell BK180.out 0).trans rfl; have hcz15_1 : w14.cell? ⟨gb180, 1, none⟩ = some (.string (⟨#[]⟩ : ByteArray)) := (blk_cell BK180.out 1).trans rfl; have hfz15_0 := blk_frozen BK180.out 0; have hfz15_1 := blk_frozen BK180.out 1))
           go_roundg k1
           case measure => have := HK1.out; omega
           case rel => exact ⟨(wrap64 (x7_1 + 1)), (by first | rfl | (simp; done) | (simp [*]; done)), H', ⟨by have := HK1.out; omega⟩, ⟨by (with_reducible repeat (first | apply Kd.R_alloc | apply Kd.R_drewN | apply Kd.R_drew)); exact Kd.R_mono (Kd.R_far (p := ⟨gb180, 1, none⟩) (Kd.R_far (p := ⟨gb180, 0, none⟩) (Kd.R_mono HO_5.out (fun k_ hk => (⟨hk, hk.2⟩ : _ ∧ k_ ≠ gb180))) (fun _ hk => hk.2) (.string ((rd_T63 t176 x7_1).f0))) (fun _ hk => hk.2) (.string ((rd_T63 t176 x7_1).f1))) (fun _ hk => trivial)⟩, ⟨by repeat (first | (with_reducible first | exact HB.out | apply below_alloc | apply pw_below_drewN | apply below_drew1 | refine below_set ?_ GE180.out) | exact HB.out)⟩⟩
       · rw [if_neg c7] at H
         exact absurd H (by simp)
     · rw [if_neg c6] at H
       exact absurd H (by simp)
   · rw [if_neg c5] at H
     have c5b0 : decide (x7_1 < (t176.length : Int)) = false := decide_eq_false c5
     clear c5
     obtain rfl := Option.some.inj H
     go_wp2
     go_ret
     exact ⟨by first | rfl | (simp [errW_none, errW_some] <;> rfl) | (simp [*, errW_none, errW_some] <;> rfl), by repeat (first | (with_reducible first | exact HB.out | apply below_alloc | apply pw_below_drewN | apply below_drew1) | exact HB.out)⟩

end
end Go.Proofs.YtfboejlemnfndaaGreatDoor.XMt
end
section
namespace Go.Proofs.YtfboejlemnfndaaGreatDoor.XMt
open Go.RowKit Go.Proofs.YtfboejlemnfndaaGreatDoorW.PrintWords Go.Proofs.YtfboejlemnfndaaGreatDoorW.PrintLast Go.Proofs.YtfboejlemnfndaaGreatDoorW.PrintMore
attribute [local go_sem] extract_sub max2_int min2_int max_two min_two max_three min_three max_four min_four   -- for this text's walks alone
set_option linter.unusedVariables false
set_option linter.unusedSimpArgs false

noncomputable section
def strings_TrimRight.f (a0 a1 : ByteArray) : Option ByteArray :=
 match a1.data.toList with
 | [c] => if c.toNat < 128 ∧ a0.size ≤ 9223372036854775807 then some ⟨(Lib.trimRightB a0.data.toList c).toArray⟩ else none
 | _ => none
theorem strings_TrimRight.calls (a0 a1 : ByteArray) (r : ByteArray) (w : World) (h : strings_TrimRight.f a0 a1 = some r) :
 Calls Tryz.prog 75 #[.string a0, .string a1] w fun e w' => e = .returned (.string r) ∧ Drawn0 w w' := by
 unfold strings_TrimRight.f at h
 split at h
 · rename_i c hc
   split at h
   · rename_i hh
     injection h with h
     subst h
     have e1 : a1 = ⟨#[c]⟩ := by
      cases a1
      rename_i d
      congr 1
      exact Array.toList_inj.1 hc
     subst e1
     refine (Tryz.strings_TrimRight_one a0 c hh.1 w hh.2).mono ?_
     rintro e w' ⟨he, hw⟩
     exact ⟨he, by rw [hw]; exact Drawn0.refl _⟩
   · cases h
 · cases h

end
end Go.Proofs.YtfboejlemnfndaaGreatDoor.XMt
end
section
namespace Go.Proofs.YtfboejlemnfndaaGreatDoor.XMt
open Go.RowKit Go.Proofs.YtfboejlemnfndaaGreatDoorW.PrintWords Go.Proofs.YtfboejlemnfndaaGreatDoorW.PrintLast Go.Proofs.YtfboejlemnfndaaGreatDoorW.PrintMore
attribute [local go_sem] extract_sub max2_int min2_int max_two min_two max_three min_three max_four min_four   -- for this text's walks alone
set_option linter.unusedVariables false
set_option linter.unusedSimpArgs false

noncomputable section
mutual
def meta_value.j0 : Nat → Int → Bool → Option (Int × Bool)
 | 0, _, _ => none
 | k + 1, x0, x4 => if x4 = true then (some ((x0 - 65) % 256, true)) else (if x0 ≥ 97 then (meta_value.j1 k x0 (decide (x0 ≤ 122))) else (meta_value.j1 k x0 false))
def meta_value.j1 : Nat → Int → Bool → Option (Int × Bool)
 | 0, _, _ => none
 | k + 1, x0, x14 => if x14 = true then (some (((x0 - 97) % 256) + 26, true)) else (if x0 ≥ 48 then (meta_value.j2 k x0 (decide (x0 ≤ 57))) else (meta_value.j2 k x0 false))
def meta_value.j2 : Nat → Int → Bool → Option (Int × Bool)
 | 0, _, _ => none
 | k + 1, x0, x25 => if x25 = true then (some (((x0 - 48) % 256) + 52, true)) else (if x0 = 43 then (some (62, true)) else (if x0 = 47 then (some (63, true)) else (some (0, false))))
end
def meta_value.f (k : Nat) (a0 : Int) : Option (Int × Bool) := if a0 ≥ 65 then (meta_value.j0 k a0 (decide (a0 ≤ 90))) else (meta_value.j0 k a0 false)
theorem meta_value.mono_l : ∀ k, (∀ y0 y1, LeO (meta_value.j0 k y0 y1) (meta_value.j0 (k + 1) y0 y1)) ∧ (∀ y0 y1, LeO (meta_value.j1 k y0 y1) (meta_value.j1 (k + 1) y0 y1)) ∧ (∀ y0 y1, LeO (meta_value.j2 k y0 y1) (meta_value.j2 (k + 1) y0 y1))
 | 0 => ⟨fun _ _ r h => by simp [meta_value.j0] at h, fun _ _ r h => by simp [meta_value.j1] at h, fun _ _ r h => by simp [meta_value.j2] at h⟩
 | k + 1 => by
  obtain ⟨ih0, ih1, ih2⟩ := meta_value.mono_l k
  refine ⟨?_, ?_, ?_⟩
  · intro y0 y1
    unfold meta_value.j0
    repeat' first
    | (with_reducible exact ih0 _ _)
    | (with_reducible exact ih1 _ _)
    | (with_reducible exact ih2 _ _)
    | (with_reducible exact LeO.refl _)
    | (with_reducible exact LeO.none _)
    | (with_reducible refine LeO.ite ?_ ?_)
    | (with_reducible refine LeO.bind ?_ (fun _ => ?_))
    | exact ih0 _ _
    | exact ih1 _ _
    | exact ih2 _ _
    | exact LeO.none _
    | refine LeO.ite ?_ ?_
    | refine LeO.bind ?_ (fun _ => ?_)
  · intro y0 y1
    unfold meta_value.j1
    repeat' first
    | (with_reducible exact ih0 _ _)
    | (with_reducible exact ih1 _ _)
    | (with_reducible exact ih2 _ _)
    | (with_reducible exact LeO.refl _)
    | (with_reducible exact LeO.none _)
    | (with_reducible refine LeO.ite ?_ ?_)
    | (with_reducible refine LeO.bind ?_ (fun _ => ?_))
    | exact ih0 _ _
    | exact ih1 _ _
    | exact ih2 _ _
    | exact LeO.none _
    | refine LeO.ite ?_ ?_
    | refine LeO.bind ?_ (fun _ => ?_)
  · intro y0 y1
    unfold meta_value.j2
    repeat' first
    | (with_reducible exact ih0 _ _)
    | (with_reducible exact ih1 _ _)
    | (with_reducible exact ih2 _ _)
    | (with_reducible exact LeO.refl _)
    | (with_reducible exact LeO.none _)
    | (with_reducible refine LeO.ite ?_ ?_)
    | (with_reducible refine LeO.bind ?_ (fun _ => ?_))
    | exact ih0 _ _
    | exact ih1 _ _
    | exact ih2 _ _
    | exact LeO.none _
    | refine LeO.ite ?_ ?_
    | refine LeO.bind ?_ (fun _ => ?_)
theorem meta_value.mono : ∀ a0 k, LeO (meta_value.f k a0) (meta_value.f (k + 1) a0) := by
 intro a0 k
 obtain ⟨ih0, ih1, ih2⟩ := meta_value.mono_l k
 unfold meta_value.f
 repeat' first
  | (with_reducible exact ih0 _ _)
  | (with_reducible exact ih1 _ _)
  | (with_reducible exact ih2 _ _)
  | (with_reducible exact LeO.refl _)
  | (with_reducible exact LeO.none _)
  | (with_reducible refine LeO.ite ?_ ?_)
  | (with_reducible refine LeO.bind ?_ (fun _ => ?_))
  | exact ih0 _ _
  | exact ih1 _ _
  | exact ih2 _ _
  | exact LeO.none _
  | refine LeO.ite ?_ ?_
  | refine LeO.bind ?_ (fun _ => ?_)
set_option maxHeartbeats 8000000 in
set_option maxRecDepth 100000 in
theorem meta_value.calls (k : Nat) (a0 : Int) (r1 : Int) (r2 : Bool) (w : World) (h : meta_value.f k a0 = some (r1, r2)) :
 Calls Tryz.prog 76 #[.int .u8 a0] w fun e w' => e = .returned (.tuple #[.int .u32 r1, .bool r2]) ∧ Drawn0 w w' := by
 have H : (if a0 ≥ 65 then (meta_value.j0 k a0 (decide (a0 ≤ 90))) else (meta_value.j0 k a0 false)) = some (r1, r2) := h
 clear h
 have HC2 := Aside0.mk H
 clear H
 go_enter Tryz.func76, Tryz.ntmps76
 go_upto_region 1 with (fail)
 go_cut [4] (fun v4 wc => ∃ (kq : Nat) (x4_1 : Bool), v4 = .bool x4_1 ∧ Aside0 (meta_value.j0 kq a0 x4_1 = some (r1, r2)) ∧ Aside0 (kq ≤ k) ∧ Drawn0 w wc)
 case first =>
  have H := HC2.out
  clear HC2
  by_cases c3 : a0 ≥ 65
  · rw [if_pos c3] at H
    have c3b0 : decide (65 ≤ a0) = true := decide_eq_true c3
    clear c3
    (first | rw [c3b0] | (simp only [i64_w, i32_w]; rw [c3b0]) | skip)
    have H' := Aside0.mk H
    clear H
    go_wp2
    go_meet
    case rel => exact ⟨_, (decide (a0 ≤ 90)), (by first | rfl | (simp; done) | (simp [*]; done)), H', ⟨by first | omega | exact Nat.le_refl _⟩, by repeat (first | exact Drawn0.refl _ | apply Drawn0.step)⟩
  · rw [if_neg c3] at H
    have c3b0 : decide (65 ≤ a0) = false := decide_eq_false c3
    clear c3
    (first | rw [c3b0] | (simp only [i64_w, i32_w]; rw [c3b0]) | skip)
    have H' := Aside0.mk H
    clear H
    go_wp2
    go_meet
    case rel => exact ⟨_, (false), (by first | rfl | (simp; done) | (simp [*]; done)), H', ⟨by first | omega | exact Nat.le_refl _⟩, by repeat (first | exact Drawn0.refl _ | apply Drawn0.step)⟩
 case rest =>
  clear HC2
  try clear p2
  try clear c3
  try clear c3b0
  obtain ⟨kq, x4_1, rfl, HA, HJ1, ⟨mc1, rfl⟩⟩ := hcut
  cases kq with
  | zero => exact absurd HA.out (by simp [meta_value.j0])
  | succ kj1 =>
   have H := HA.out
   clear HA
   simp only [meta_value.j0] at H
   by_cases c4 : x4_1 = true
   · subst c4
     have H1 : (some ((a0 - 65) % 256, true)) = some (r1, r2) := by rw [if_pos rfl] at H; exact H
     clear H
     have H := H1
     clear H1
     simp only [Option.some.injEq, Prod.mk.injEq] at H
     obtain ⟨rfl, rfl⟩ := H
     go_wp2
     go_ret2
     exact ⟨by first | rfl | (simp; done) | (simp [*]; done), by repeat (first | exact Drawn0.refl _ | apply Drawn0.step)⟩
   · replace c4 := Bool.eq_false_iff.mpr c4
     subst c4
     have H1 : (if a0 ≥ 97 then (meta_value.j1 kj1 a0 (decide (a0 ≤ 122))) else (meta_value.j1 kj1 a0 false)) = some (r1, r2) := by rw [if_neg (show ¬ (false = true) by decide)] at H; exact H
     clear H
     have H := H1
     clear H1
     have HC5 := Aside0.mk H
     clear H
     go_upto_region 3 with (fail)
     go_cut [14] (fun v14 wc => ∃ (kq : Nat) (x14_4 : Bool), v14 = .bool x14_4 ∧ Aside0 (meta_value.j1 kq a0 x14_4 = some (r1, r2)) ∧ Aside0 (kq ≤ kj1) ∧ Drawn0 w wc)
     case first =>
      have H := HC5.out
      clear HC5
      by_cases c6 : a0 ≥ 97
      · rw [if_pos c6] at H
        have c6b0 : decide (97 ≤ a0) = true := decide_eq_true c6
        clear c6
        (first | rw [c6b0] | (simp only [i64_w, i32_w]; rw [c6b0]) | skip)
        have H' := Aside0.mk H
        clear H
        go_wp2
        go_meet
        case rel => exact ⟨_, (decide (a0 ≤ 122)), (by first | rfl | (simp; done) | (simp [*]; done)), H', ⟨by have := HJ1.out; first | omega | exact Nat.le_refl _⟩, by repeat (first | exact Drawn0.refl _ | apply Drawn0.step)⟩
      · rw [if_neg c6] at H
        have c6b0 : decide (97 ≤ a0) = false := decide_eq_false c6
        clear c6
        (first | rw [c6b0] | (simp only [i64_w, i32_w]; rw [c6b0]) | skip)
        have H' := Aside0.mk H
        clear H
        go_wp2
        go_meet
        case rel => exact ⟨_, (false), (by first | rfl | (simp; done) | (simp [*]; done)), H', ⟨by have := HJ1.out; first | omega | exact Nat.le_refl _⟩, by repeat (first | exact Drawn0.refl _ | apply Drawn0.step)⟩
     case rest =>
      clear HC5
      try clear c1
      try clear p2
      try clear c3
      try clear c3b0
      try clear c4
      try clear c6
      try clear c6b0
      try clear p2
      obtain ⟨kq, x14_4, rfl, HA, HJ4, ⟨mc4, rfl⟩⟩ := hcut
      cases kq with
      | zero => exact absurd HA.out (by simp [meta_value.j1])
      | succ kj4 =>
       have H := HA.out
       clear HA
       simp only [meta_value.j1] at H
       by_cases c7 : x14_4 = true
       · subst c7
         have H1 : (some (((a0 - 97) % 256) + 26, true)) = some (r1, r2) := by rw [if_pos rfl] at H; exact H
         clear H
         have H := H1
         clear H1
         simp only [Option.some.injEq, Prod.mk.injEq] at H
         obtain ⟨rfl, rfl⟩ := H
         go_wp2
         go_ret2
         exact ⟨by first | rfl | (simp; done) | (simp [*]; done), by repeat (first | exact Drawn0.refl _ | apply Drawn0.step)⟩
       · replace c7 := Bool.eq_false_iff.mpr c7
         subst c7
         have H1 : (if a0 ≥ 48 then (meta_value.j2 kj4 a0 (decide (a0 ≤ 57))) else (meta_value.j2 kj4 a0 false)) = some (r1, r2) := by rw [if_neg (show ¬ (false = true) by decide)] at H; exact H
         clear H
         have H := H1
         clear H1
         have HC8 := Aside0.mk H
         clear H
         go_upto_region 5 with (fail)
         go_cut [25] (fun v25 wc => ∃ (kq : Nat) (x25_7 : Bool), v25 = .bool x25_7 ∧ Aside0 (meta_value.j2 kq a0 x25_7 = some (r1, r2)) ∧ Aside0 (kq ≤ kj4) ∧ Drawn0 w wc)
         case first =>
          have H := HC8.out
          clear HC8
          by_cases c9 : a0 ≥ 48
          · rw [if_pos c9] at H
            have c9b0 : decide (48 ≤ a0) = true := decide_eq_true c9
            clear c9
            (first | rw [c9b0] | (simp only [i64_w, i32_w]; rw [c9b0]) | skip)
            have H' := Aside0.mk H
            clear H
            go_wp2
            go_meet
            case rel => exact ⟨_, (decide (a0 ≤ 57)), (by first | rfl | (simp; done) | (simp [*]; done)), H', ⟨by have := HJ1.out; have := HJ4.out; first | omega | exact Nat.le_refl _⟩, by repeat (first | exact Drawn0.refl _ | apply Drawn0.step)⟩
          · rw [if_neg c9] at H
            have c9b0 : decide (48 ≤ a0) = false := decide_eq_false c9
            clear c9
            (first | rw [c9b0] | (simp only [i64_w, i32_w]; rw [c9b0]) | skip)
            have H' := Aside0.mk H
            clear H
            go_wp2
            go_meet
            case rel => exact ⟨_, (false), (by first | rfl | (simp; done) | (simp [*]; done)), H', ⟨by have := HJ1.out; have := HJ4.out; first | omega | exact Nat.le_refl _⟩, by repeat (first | exact Drawn0.refl _ | apply Drawn0.step)⟩
         case rest =>
          clear HC8
          try clear c1
          try clear p2
          try clear c3
          try clear c3b0
          try clear c4
          try clear c6
          try clear c6b0
          try clear c7
          try clear c9
          try clear c9b0
          try clear p2
          obtain ⟨kq, x25_7, rfl, HA, HJ7, ⟨mc7, rfl⟩⟩ := hcut
          cases kq with
          | zero => exact absurd HA.out (by simp [meta_value.j2])
          | succ kj7 =>
           have H := HA.out
           clear HA
           simp only [meta_value.j2] at H
           by_cases c10 : x25_7 = true
           · subst c10
             have H1 : (some (((a0 - 48) % 256) + 52, true)) = some (r1, r2) := by rw [if_pos rfl] at H; exact H
             clear H
             have H := H1
             clear H1
             simp only [Option.some.injEq, Prod.mk.injEq] at H
             obtain ⟨rfl, rfl⟩ := H
             go_wp2
             go_ret2
             exact ⟨by first | rfl | (simp; done) | (simp [*]; done), by repeat (first | exact Drawn0.refl _ | apply Drawn0.step)⟩
           · replace c10 := Bool.eq_false_iff.mpr c10
             subst c10
             have H1 : (if a0 = 43 then (some (62, true)) else (if a0 = 47 then (some (63, true)) else (some (0, false)))) = some (r1, r2) := by rw [if_neg (show ¬ (false = true) by decide)] at H; exact H
             clear H
             have H := H1
             clear H1
             by_cases c11 : a0 = 43
             · rw [if_pos c11] at H
               have c11b0 : (a0 == 43) = true := beq_iff_eq.mpr c11
               have c11b1 : (a0 != 43) = false := bne_eq_false_iff_eq.mpr c11
               clear c11
               simp only [Option.some.injEq, Prod.mk.injEq] at H
               obtain ⟨rfl, rfl⟩ := H
               go_wp2
               go_ret2
               exact ⟨by first | rfl | (simp; done) | (simp [*]; done), by repeat (first | exact Drawn0.refl _ | apply Drawn0.step)⟩
             · rw [if_neg c11] at H
               have c11b0 : (a0 == 43) = false := beq_eq_false_iff_ne.mpr c11
               have c11b1 : (a0 != 43) = true := bne_iff_ne.mpr c11
               by_cases c12 : a0 = 47
               · rw [if_pos c12] at H
                 have c12b0 : (a0 == 47) = true := beq_iff_eq.mpr c12
                 have c12b1 : (a0 != 47) = false := bne_eq_false_iff_eq.mpr c12
                 clear c12
                 simp only [Option.some.injEq, Prod.mk.injEq] at H
                 obtain ⟨rfl, rfl⟩ := H
                 go_wp2
                 go_ret2
                 exact ⟨by first | rfl | (simp; done) | (simp [*]; done), by repeat (first | exact Drawn0.refl _ | apply Drawn0.step)⟩
               · rw [if_neg c12] at H
                 have c12b0 : (a0 == 47) = false := beq_eq_false_iff_ne.mpr c12
                 have c12b1 : (a0 != 47) = true := bne_iff_ne.mpr c12
                 simp only [Option.some.injEq, Prod.mk.injEq] at H
                 obtain ⟨rfl, rfl⟩ := H
                 go_wp2
                 go_ret2
                 exact ⟨by first | rfl | (simp; done) | (simp [*]; done), by repeat (first | exact Drawn0.refl _ | apply Drawn0.step)⟩

def meta_three.l0 : Nat → ByteArray → Int → Int → Int → Option (ByteArray × Bool)
 | 0, _, _, _, _ => none
 | k + 1, x0, x4, x5, x15 => if x15 < 4 then (if x15 ≥ x4 then (meta_three.l0 k x0 x4 ((x5 * 64) % 4294967296) (wrap64 (x15 + 1))) else (if 0 ≤ x15 then (if x15 < (x0.size : Int) then ((meta_value.f k (bt x0 x15)).bind fun bt186 => (if bt186.2 = true then (meta_three.l0 k x0 x4 (Go.bits .or .u32 ((x5 * 64) % 4294967296) bt186.1) (wrap64 (x15 + 1))) else (some ((⟨#[]⟩ : ByteArray), false)))) else (none)) else (none))) else ((some (([(x5 / 65536) % 256, (x5 / 256) % 256, (x5) % 256] : List Int) : List Int)).bind fun y182 => (if 0 ≤ (wrap64 (x4 - 1)) then (if (wrap64 (x4 - 1)) ≤ ((strOfNums y182).size : Int) then ((meta_Encode.f (sub (strOfNums y182) 0 ((wrap64 (x4 - 1)) : Int).toNat)).bind fun t185 => (some (sub (strOfNums y182) 0 ((wrap64 (x4 - 1)) : Int).toNat, (t185.toList == x0.toList)))) else (none)) else (none)))
def meta_three.f (k : Nat) (a0 : ByteArray) : Option (ByteArray × Bool) := (strings_TrimRight.f a0 (⟨#[61]⟩ : ByteArray)).bind fun t181 => (if (t181.size : Int) < 2 then (some ((⟨#[]⟩ : ByteArray), false)) else (meta_three.l0 k a0 (t181.size : Int) 0 0))
theorem meta_three.mono_l : ∀ k, (∀ y0 y1 y2 y3, LeO (meta_three.l0 k y0 y1 y2 y3) (meta_three.l0 (k + 1) y0 y1 y2 y3))
 | 0 => fun _ _ _ _ r h => by simp [meta_three.l0] at h
 | k + 1 => by
  have ih0 := meta_three.mono_l k
  · intro y0 y1 y2 y3
    unfold meta_three.l0
    repeat' first
    | (with_reducible exact ih0 _ _ _ _)
    | (with_reducible exact meta_value.mono _ _)
    | (with_reducible exact LeO.refl _)
    | (with_reducible exact LeO.none _)
    | (with_reducible refine LeO.ite ?_ ?_)
    | (with_reducible refine LeO.bind ?_ (fun _ => ?_))
    | exact ih0 _ _ _ _
    | exact meta_value.mono _ _
    | exact LeO.none _
    | refine LeO.ite ?_ ?_
    | refine LeO.bind ?_ (fun _ => ?_)
theorem meta_three.mono : ∀ a0 k, LeO (meta_three.f k a0) (meta_three.f (k + 1) a0) := by
 intro a0 k
 have ih0 := meta_three.mono_l k
 unfold meta_three.f
 repeat' first
  | (with_reducible exact ih0 _ _ _ _)
  | (with_reducible exact meta_value.mono _ _)
  | (with_reducible exact LeO.refl _)
  | (with_reducible exact LeO.none _)
  | (with_reducible refine LeO.ite ?_ ?_)
  | (with_reducible refine LeO.bind ?_ (fun _ => ?_))
  | exact ih0 _ _ _ _
  | exact meta_value.mono _ _
  | exact LeO.none _
  | refine LeO.ite ?_ ?_
  | refine LeO.bind ?_ (fun _ => ?_)
set_option maxHeartbeats 8000000 in
set_option maxRecDepth 100000 in
theorem meta_three.calls (k : Nat) (a0 : ByteArray) (r1 : ByteArray) (r2 : Bool) (w : World) (h : meta_three.f k a0 = some (r1, r2)) :
 Calls Tryz.prog 56 #[.string a0] w fun e w' => e = .returned (.tuple #[.string r1, .bool r2]) ∧ Below w.heap.size w w' := by
 have HB := Aside0.mk (Below.refl w.heap.size w)
 have H : ((strings_TrimRight.f a0 (⟨#[61]⟩ : ByteArray)).bind fun t181 => (if (t181.size : Int) < 2 then (some ((⟨#[]⟩ : ByteArray), false)) else (meta_three.l0 k a0 (t181.size : Int) 0 0))) = some (r1, r2) := h
 clear h
 replace H := Option.bind_eq_some_iff.mp H
 obtain ⟨t181, A20, H⟩ := H
 replace H : (if (t181.size : Int) < 2 then (some ((⟨#[]⟩ : ByteArray), false)) else (meta_three.l0 k a0 (t181.size : Int) 0 0)) = some (r1, r2) := H
 have A2 := Aside0.mk A20
 clear A20
 by_cases c3 : (t181.size : Int) < 2
 · rw [if_pos c3] at H
   have c3b0 : decide ((t181.size : Int) < 2) = true := decide_eq_true c3
   have c3b1 : decide (t181.size < 2) = true := decide_eq_true (by omega)
   clear c3
   simp only [Option.some.injEq, Prod.mk.injEq] at H
   obtain ⟨rfl, rfl⟩ := H
   go_enter Tryz.func56, Tryz.ntmps56
   go_wp2_with (first | ((with_reducible refine gate_callee (f := 75) rfl ?_); refine goesL_ (some 11) rfl rfl Tryz.func75 (by kernel_rfl) rfl #[.string a0, .string (⟨#[61]⟩ : ByteArray)] rfl (by (try simp only [List.map_toArray, List.map_cons, List.map_nil]); first | done | rfl | (simp only [List.length_drop, List.length_take]; rfl) | (simp only [IntKind.wrap_u64]; rw [Int.emod_eq_of_lt (by omega) (by omega)]; rfl) | (simp only [ByteArray.size_extract]; done) | (simp only [ByteArray.size_extract]; rfl)) ?_; (with_reducible refine (strings_TrimRight.calls a0 (⟨#[61]⟩ : ByteArray) t181 _ A2.out).mono ?_); rintro e w' ⟨rfl, ⟨nd, rfl⟩⟩; refine ⟨_, rfl, ?_⟩))
   go_ret2
   exact ⟨by first | rfl | (simp [errW_none, errW_some] <;> rfl) | (simp [*, errW_none, errW_some] <;> rfl), by repeat (first | (with_reducible first | exact HB.out | apply below_alloc | apply pw_below_drewN | apply below_drew1) | exact HB.out)⟩
 · rw [if_neg c3] at H
   have c3b0 : decide ((t181.size : Int) < 2) = false := decide_eq_false c3
   have c3b1 : decide (t181.size < 2) = false := decide_eq_false (by omega)
   clear c3
   have H' := Aside0.mk H
   clear H
   go_enter Tryz.func56, Tryz.ntmps56
   go_wp2_with (first | ((with_reducible refine gate_callee (f := 75) rfl ?_); refine goesL_ (some 11) rfl rfl Tryz.func75 (by kernel_rfl) rfl #[.string a0, .string (⟨#[61]⟩ : ByteArray)] rfl (by (try simp only [List.map_toArray, List.map_cons, List.map_nil]); first | done | rfl | (simp only [List.length_drop, List.length_take]; rfl) | (simp only [IntKind.wrap_u64]; rw [Int.emod_eq_of_lt (by omega) (by omega)]; rfl) | (simp only [ByteArray.size_extract]; done) | (simp only [ByteArray.size_extract]; rfl)) ?_; (with_reducible refine (strings_TrimRight.calls a0 (⟨#[61]⟩ : ByteArray) t181 _ A2.out).mono ?_); rintro e w' ⟨rfl, ⟨nd, rfl⟩⟩; refine ⟨_, rfl, ?_⟩))
   go_loopg [5, 15] k (fun kq v5 v15 w' => ∃ (x5_1 : Int) (x15_1 : Int), v5 = .int .u32 x5_1 ∧ v15 = .int .i64 x15_1 ∧ Aside0 (meta_three.l0 kq a0 (t181.size : Int) x5_1 x15_1 = some (r1, r2)) ∧ Aside0 (kq ≤ k) ∧ Aside0 (Below w.heap.size w w'))
   case atStart => exact ⟨(0), (0), (by first | rfl | (simp; done) | (simp [*]; done)), (by first | rfl | (simp; done) | (simp [*]; done)), H', ⟨Nat.le_refl _⟩, ⟨by repeat (first | (with_reducible first | exact HB.out | apply below_alloc | apply pw_below_drewN | apply below_drew1) | exact HB.out)⟩⟩
   case round =>
    clear H'
    try clear p2
    try clear c3
    try clear c3b0
    try clear c3b1
    obtain ⟨x5_1, x15_1, rfl, rfl, HA, HK1, HB⟩ := hrel
    cases gk with
    | zero => exact absurd HA.out (by simp [meta_three.l0])
    | succ k1 =>
     have H := HA.out
     clear HA
     simp only [meta_three.l0] at H
     by_cases c4 : x15_1 < 4
     · rw [if_pos c4] at H
       have c4b0 : decide (x15_1 < 4) = true := decide_eq_true c4
       clear c4
       by_cases c5 : x15_1 ≥ (t181.size : Int)
       · rw [if_pos c5] at H
         have c5b0 : decide ((t181.size : Int) ≤ x15_1) = true := decide_eq_true c5
         clear c5
         have H' := Aside0.mk H
         clear H
         go_wp2
         go_roundg k1
         case measure => have := HK1.out; omega
         case rel => exact ⟨((x5_1 * 64) % 4294967296), (wrap64 (x15_1 + 1)), (by first | rfl | (simp; done) | (simp [*]; done)), (by first | rfl | (simp; done) | (simp [*]; done)), H', ⟨by have := HK1.out; omega⟩, ⟨by repeat (first | (with_reducible first | exact HB.out | apply below_alloc | apply pw_below_drewN | apply below_drew1) | exact HB.out)⟩⟩
       · rw [if_neg c5] at H
         have c5b0 : decide ((t181.size : Int) ≤ x15_1) = false := decide_eq_false c5
         clear c5
         by_cases c6 : 0 ≤ x15_1
         · rw [if_pos c6] at H
           have c6b0 : decide (0 ≤ x15_1) = true := decide_eq_true c6
           clear c6
           by_cases c7 : x15_1 < (a0.size : Int)
           · rw [if_pos c7] at H
             have c7b0 : decide (x15_1 < (a0.size : Int)) = true := decide_eq_true c7
             clear c7
             replace H := Option.bind_eq_some_iff.mp H
             obtain ⟨⟨t186, t187⟩, A90, H⟩ := H
             replace H : (if t187 = true then (meta_three.l0 k1 a0 (t181.size : Int) (Go.bits .or .u32 ((x5_1 * 64) % 4294967296) t186) (wrap64 (x15_1 + 1))) else (some ((⟨#[]⟩ : ByteArray), false))) = some (r1, r2) := H
             have A9 := Aside0.mk A90
             clear A90
             by_cases c10 : t187 = true
             · subst c10
               have H1 : (meta_three.l0 k1 a0 (t181.size : Int) (Go.bits .or .u32 ((x5_1 * 64) % 4294967296) t186) (wrap64 (x15_1 + 1))) = some (r1, r2) := by rw [if_pos rfl] at H; exact H
               clear H
               have H := H1
               clear H1
               have H' := Aside0.mk H
               clear H
               have p8 : 0 ≤ (x15_1 : Int) := of_decide_eq_true (by first | (with_reducible assumption) | assumption)
               have q8 : x15_1 < (a0.size : Int) := of_decide_eq_true (by first | (with_reducible assumption) | assumption)
               have hx8 := bt_at a0 x15_1
               replace p8 := eq_true p8
               replace q8 := eq_true q8
               go_wp2_with (first | ((with_reducible refine gate_callee (f := 76) rfl ?_); refine goesL_ (some 27) rfl rfl Tryz.func76 (by kernel_rfl) rfl #[.int .u8 (bt a0 x15_1)] rfl (by (try simp only [List.map_toArray, List.map_cons, List.map_nil]); first | done | rfl | (simp only [List.length_drop, List.length_take]; rfl) | (simp only [IntKind.wrap_u64]; rw [Int.emod_eq_of_lt (by omega) (by omega)]; rfl) | (simp only [ByteArray.size_extract]; done) | (simp only [ByteArray.size_extract]; rfl)) ?_; (with_reducible refine (meta_value.calls k1 (bt a0 x15_1) t186 true _ A9.out).mono ?_); rintro e w' ⟨rfl, ⟨nd, rfl⟩⟩; refine ⟨_, rfl, ?_⟩))
               go_roundg k1
               case measure => have := HK1.out; omega
               case rel => exact ⟨(Go.bits .or .u32 ((x5_1 * 64) % 4294967296) t186), (wrap64 (x15_1 + 1)), (by first | rfl | (simp; done) | (simp [*]; done)), (by first | rfl | (simp; done) | (simp [*]; done)), H', ⟨by have := HK1.out; omega⟩, ⟨by repeat (first | (with_reducible first | exact HB.out | apply below_alloc | apply pw_below_drewN | apply below_drew1) | exact HB.out)⟩⟩
             · replace c10 := Bool.eq_false_iff.mpr c10
               subst c10
               have H1 : (some ((⟨#[]⟩ : ByteArray), false)) = some (r1, r2) := by rw [if_neg (show ¬ (false = true) by decide)] at H; exact H
               clear H
               have H := H1
               clear H1
               simp only [Option.some.injEq, Prod.mk.injEq] at H
               obtain ⟨rfl, rfl⟩ := H
               have p8 : 0 ≤ (x15_1 : Int) := of_decide_eq_true (by first | (with_reducible assumption) | assumption)
               have q8 : x15_1 < (a0.size : Int) := of_decide_eq_true (by first | (with_reducible assumption) | assumption)
               have hx8 := bt_at a0 x15_1
               replace p8 := eq_true p8
               replace q8 := eq_true q8
               go_wp2_with (first | ((with_reducible refine gate_callee (f := 76) rfl ?_); refine goesL_ (some 27) rfl rfl Tryz.func76 (by kernel_rfl) rfl #[.int .u8 (bt a0 x15_1)] rfl (by (try simp only [List.map_toArray, List.map_cons, List.map_nil]); first | done | rfl | (simp only [List.length_drop, List.length_take]; rfl) | (simp only [IntKind.wrap_u64]; rw [Int.emod_eq_of_lt (by omega) (by omega)]; rfl) | (simp only [ByteArray.size_extract]; done) | (simp only [ByteArray.size_extract]; rfl)) ?_; (with_reducible refine (meta_value.calls k1 (bt a0 x15_1) t186 false _ A9.out).mono ?_); rintro e w' ⟨rfl, ⟨nd, rfl⟩⟩; refine ⟨_, rfl, ?_⟩))
               go_ret2
               exact ⟨by first | rfl | (simp [errW_none, errW_some] <;> rfl) | (simp [*, errW_none, errW_some] <;> rfl), by repeat (first | (with_reducible first | exact HB.out | apply below_alloc | apply pw_below_drewN | apply below_drew1) | exact HB.out)⟩
           · rw [if_neg c7] at H
             exact absurd H (by simp)
         · rw [if_neg c6] at H
           exact absurd H (by simp)
     · rw [if_neg c4] at H
       have c4b0 : decide (x15_1 < 4) = false := decide_eq_false c4
       clear c4
       obtain ⟨y182, hy182⟩ : ∃ y_ : List Int, y_ = (([(x5_1 / 65536) % 256, (x5_1 / 256) % 256, (x5_1) % 256] : List Int)) := ⟨_, rfl⟩
       replace H : (if 0 ≤ (wrap64 ((t181.size : Int) - 1)) then (if (wrap64 ((t181.size : Int) - 1)) ≤ ((strOfNums y182).size : Int) then ((meta_Encode.f (sub (strOfNums y182) 0 ((wrap64 ((t181.size : Int) - 1)) : Int).toNat)).bind fun t185 => (some (sub (strOfNums y182) 0 ((wrap64 ((t181.size : Int) - 1)) : Int).toNat, (t185.toList == a0.toList)))) else (none)) else (none)) = some (r1, r2) := by first | (rw [hy182]; with_reducible exact H) | (have H2_ := (Option.bind_some _ _).symm.trans H; rw [hy182]; with_reducible exact H2_) | (have H2_ := (Option.bind_some _ _).symm.trans H; with_reducible exact H2_) | with_reducible exact H | (rw [hy182]; exact H) | exact H
       have Ny182 := Aside0.mk hy182
       clear hy182
       obtain ⟨ji11, hji11⟩ : ∃ j_ : Int, (wrap64 ((t181.size : Int) - 1)) = j_ := ⟨_, rfl⟩
       replace H : (if 0 ≤ (ji11) then (if (ji11) ≤ ((strOfNums y182).size : Int) then ((meta_Encode.f (sub (strOfNums y182) 0 ((ji11) : Int).toNat)).bind fun t185 => (some (sub (strOfNums y182) 0 ((ji11) : Int).toNat, (t185.toList == a0.toList)))) else (none)) else (none)) = some (r1, r2) := by first | (rw [hji11] at H; exact H) | (simp only [hji11] at H ⊢; exact H)
       have hji11w : (IntKind.i64.wrap ((t181.size : Int) - 1)) = ji11 := (i64_w _).trans hji11
       by_cases c12 : 0 ≤ (ji11)
       · rw [if_pos c12] at H
         have c12b0 := eq_true c12
         have c12b1 : decide (0 ≤ (ji11)) = true := decide_eq_true c12
         clear c12
         by_cases c13 : (ji11) ≤ ((strOfNums y182).size : Int)
         · rw [if_pos c13] at H
           have c13b0 := eq_true c13
           have c13b1 : decide ((ji11) ≤ ((strOfNums y182).size : Int)) = true := decide_eq_true c13
           clear c13
           replace H := Option.bind_eq_some_iff.mp H
           obtain ⟨t185, A140, H⟩ := H
           replace H : (some (sub (strOfNums y182) 0 ((ji11) : Int).toNat, (t185.toList == a0.toList))) = some (r1, r2) := H
           have A14 := Aside0.mk A140
           clear A140
           simp only [Option.some.injEq, Prod.mk.injEq] at H
           obtain ⟨rfl, rfl⟩ := H
           go_wp2_with (first | ((with_reducible refine gate_dst (N := 44) rfl ?_); refine Kd.R_lit (Kd.int .u8) _ 5 ?hg (N := 44) ?hd (xs := ([(x5_1 / 65536) % 256, (x5_1 / 256) % 256, (x5_1) % 256] : List Int)) (inner := [.int .u8 ((x5_1 / 65536) % 256), .int .u8 ((x5_1 / 256) % 256), .int .u8 ((x5_1) % 256)]) (ok := fun _ => True) (okp := fun _ => True) ?hr ?hp (fun _ hk => hk) trivial (Below.refl _ _) (Nat.le_refl _) (by simp) ?_; (case hd => rfl); (case hg => rfl); (case hr => first | (go_simp; done) | (go_simp; rfl)); (case hp => exact (Reps.one (show Kd.M (Kd.int .u8) _ _ _ ((x5_1 / 65536) % 256) [.int .u8 ((x5_1 / 65536) % 256)] from rfl) (Reps.one (show Kd.M (Kd.int .u8) _ _ _ ((x5_1 / 256) % 256) [.int .u8 ((x5_1 / 256) % 256)] from rfl) (Reps.one (show Kd.M (Kd.int .u8) _ _ _ ((x5_1) % 256) [.int .u8 ((x5_1) % 256)] from rfl) (Reps.none _ _))))); intro v183 w15 ho16 hb hg_ hnew_; clear hg_ hnew_; (first | rw [← Ny182.out] at ho16 | (simp only [Int.reduceToNat] at ho16; rw [← Ny182.out] at ho16)); have n0_ := Aside0.mk (Kd.R_lower ho16 (below_size (by repeat (first | (with_reducible first | exact HB.out | apply below_alloc | apply pw_below_drewN | apply below_drew1) | exact HB.out)))); have n1_ := Aside0.mk (below_step (by repeat (first | (with_reducible first | exact HB.out | apply below_alloc | apply pw_below_drewN | apply below_drew1) | exact HB.out)) hb); clear HB; have HO184 := n0_; have HB := n1_; clear n0_ n1_; clear hb ho16; have hcv17 := own_string (P := Tryz.prog) Tryz.underlying70 Tryz.underlying5 Tryz.underlying9 (Kd.own_of_R HO184.out)) | ((with_reducible refine gate_callee (f := 26) rfl ?_); refine goesL_ (some 51) rfl rfl Tryz.func26 (by kernel_rfl) rfl #[.string (sub (strOfNums y182) 0 ((ji11) : Int).toNat)] rfl (by (try simp only [List.map_toArray, List.map_cons, List.map_nil]); first | done | (simp only [hji11]; rfl) | rfl | (simp only [List.length_drop, List.length_take]; rfl) | (simp only [IntKind.wrap_u64]; rw [Int.emod_eq_of_lt (by omega) (by omega)]; rfl) | (simp only [ByteArray.size_extract]; done) | (simp only [ByteArray.size_extract]; rfl)) ?_; (with_reducible refine (meta_Encode.calls (sub (strOfNums y182) 0 ((ji11) : Int).toNat) t185 _ A14.out).mono ?_); rintro e w18 ⟨rfl, hb⟩; refine ⟨_, rfl, ?_⟩; have n0_ := Aside0.mk (Kd.R_below (by (with_reducible repeat (first | apply Kd.R_alloc | apply Kd.R_drewN | apply Kd.R_drew)); exact HO184.out) hb); have n1_ := Aside0.mk (below_step (by repeat (first | (with_reducible first | exact HB.out | apply below_alloc | apply pw_below_drewN | apply below_drew1) | exact HB.out)) hb); clear HO184; clear HB; have HO184 := n0_; have HB := n1_; clear n0_ n1_; (try clear hb); (try clear hb2); (try clear hk); (try clear hi)))
           go_ret2
           exact ⟨by first | rfl | (simp [errW_none, errW_some] <;> rfl) | (simp only [← hji11]; first | rfl | (simp [errW_none, errW_some] <;> rfl)) | (simp [*, errW_none, errW_some] <;> rfl), by repeat (first | (with_reducible first | exact HB.out | apply below_alloc | apply pw_below_drewN | apply below_drew1) | exact HB.out)⟩
         · rw [if_neg c13] at H
           exact absurd H (by simp)
       · rw [if_neg c12] at H
         exact absurd H (by simp)

end
end Go.Proofs.YtfboejlemnfndaaGreatDoor.XMt
end
section
namespace Go.Proofs.YtfboejlemnfndaaGreatDoor
open Go.RowKit Go.Shelf

set_option maxHeartbeats 4000000 in
set_option maxRecDepth 100000 in
theorem bld_string (B b : Nat) (l : List UInt8) (s : ByteArray) (w : World) (h : IsBld B b l w) (hlen : l.length + s.size ≤ 140737488355328) (hBw : B ≤ w.heap.size) :
    Calls Tryz.prog 57 #[.pointer (some ⟨b, 0, none⟩), .string s] w fun e w' => e = .returned (.tuple #[.int .i64 s.size, .nilIface]) ∧ IsBld B b (l ++ s.data.toList) w' ∧ Below B w w' := by
  obtain ⟨i0, hi, hz0, hz1, hz2⟩ := info_parts bldByte
  have hll : (Lib.byteCells l).length = l.length := Lib.byteCells_length l
  have HE : Hid (Lib.byteCells (l ++ s.data.toList) = Lib.byteCells l ++ Lib.strCells s) := Lib.byteCells_append _ _
  unfold IsBld at h ⊢
  rw [HE.out]
  have hlen' : (Lib.byteCells l).length + s.size ≤ 140737488355328 := by omega
  clear HE hll hlen
  generalize Lib.byteCells l = bs at *
  go_enter Tryz.func57, Tryz.ntmps57
  go_wp2_with (go_at_call 74; refine (bld_check B b bs _ h).mono ?_)
  rintro e w1 ⟨rfl, h1, hb1⟩
  obtain ⟨hB, v, hbk, hown, hne⟩ := h1
  have c0 : w1.cell? ⟨b, 0, none⟩ = some (.pointer (some ⟨b, 0, none⟩)) := by rw [Lib.cell_of_heap hbk]; rfl
  have c1 : w1.cell? ⟨b, 1, none⟩ = some v := by rw [Lib.cell_of_heap hbk]; rfl
  go_wp2_with (at_builtin; refine Lib.wpList_append_own_stringF _ rfl _ _ 70 9 rfl B 5 i0 Tryz.underlying70 Tryz.underlying9 hi hz0 hz1 hz2 _ _ _ rfl hown s rfl ?c3 ?c4 ?c5 ?_)
  case c3 => unfold maxLen; omega
  case c4 => omega
  case c5 => have := hb1.size; omega
  intro v' w2 hown' hgrow _
  have hlt : b < w1.heap.size := by
    rcases Nat.lt_or_ge b w1.heap.size with h' | h'
    · exact h'
    · simp [Array.getElem?_eq_none h'] at hbk
  have hb2 : w2.heap[b]? = some (.cells #[.pointer (some ⟨b, 0, none⟩), v] 91 (0, 0)) := by
    rw [hgrow.block b hlt (fun e => hne e.symm)]
    exact hbk
  have d0 : w2.cell? ⟨b, 0, none⟩ = some (.pointer (some ⟨b, 0, none⟩)) := by rw [Lib.cell_of_heap hb2]; rfl
  have d1 : w2.cell? ⟨b, 1, none⟩ = some v := by rw [Lib.cell_of_heap hb2]; rfl
  have f1 : w2.frozen? ⟨b, 1, none⟩ = false := Lib.frozen_of_heap hb2 1
  obtain ⟨ao, n', cap, rfl⟩ : ∃ ao n' cap, v' = .slice ao n' cap := by
    rcases hown'.2 with ⟨hv, _⟩ | ⟨g, cap, cur, fz, hv, _⟩
    · exact ⟨_, _, _, hv⟩
    · exact ⟨_, _, _, hv⟩
  go_wp2
  go_ret2
  refine ⟨rfl, .inr ?_, ?_⟩
  · exact Lib.BuilderAtF.put (T := 91) (e := 5) hB hb2 (bs' := bs ++ Lib.strCells s) (by simpa [Lib.strCells_length] using hown') (by decide)
  · exact (hb1.grown hgrow (by have := hb1.size; omega) (fun k hk => (hown.lt k hk).1)).setCell (p := ⟨b, 1, none⟩) hB _
end Go.Proofs.YtfboejlemnfndaaGreatDoor
end
section
namespace Go.Proofs.YtfboejlemnfndaaGreatDoor.XMt
open Go.RowKit Go.Proofs.YtfboejlemnfndaaGreatDoorW.PrintWords Go.Proofs.YtfboejlemnfndaaGreatDoorW.PrintLast Go.Proofs.YtfboejlemnfndaaGreatDoorW.PrintMore
attribute [local go_sem] extract_sub max2_int min2_int max_two min_two max_three min_three max_four min_four   -- for this text's walks alone
set_option linter.unusedVariables false
set_option linter.unusedSimpArgs false

noncomputable section
def meta_Decode.vl (c : Nat) : Option Nat := if 65 ≤ c ∧ c ≤ 90 then some (c - 65) else if 97 ≤ c ∧ c ≤ 122 then some (c - 71) else if 48 ≤ c ∧ c ≤ 57 then some (c + 4) else if c = 43 then some 62 else if c = 47 then some 63 else none
theorem meta_Decode.vl_lt (v : Nat) (h : v < 64) : meta_Decode.vl (B64.lt v) = some v := by
 unfold B64.lt meta_Decode.vl
 split
 · rw [if_pos (by omega)]; congr 1; omega
 · split
   · rw [if_neg (by omega), if_pos (by omega)]; congr 1; omega
   · split
     · rw [if_neg (by omega), if_neg (by omega), if_pos (by omega)]; congr 1; omega
     · split
       · rw [if_neg (by omega), if_neg (by omega), if_neg (by omega), if_pos rfl]; congr 1; omega
       · rw [if_neg (by omega), if_neg (by omega), if_neg (by omega), if_neg (by omega), if_pos rfl]; congr 1; omega
theorem meta_Decode.vl_range (c v : Nat) (h : meta_Decode.vl c = some v) : v < 64 := by
 unfold meta_Decode.vl at h
 repeat' split at h
 all_goals first | cases h; omega | cases h
def meta_Decode.told (o : Option Nat) : Int × Bool := match o with
 | some v => ((v : Int), true)
 | none => (0, false)
theorem meta_Decode.value_f (c k : Nat) (h : c < 256) : meta_value.f (k + 1 + 1 + 1) (c : Int) = some (meta_Decode.told (meta_Decode.vl c)) := by
 unfold meta_value.f
 by_cases a0 : 65 ≤ c
 · rw [if_pos (by omega), meta_value.j0]
   by_cases a1 : c ≤ 90
   · rw [if_pos (decide_eq_true (by omega))]
     have e : meta_Decode.vl c = some (c - 65) := if_pos ⟨a0, a1⟩
     rw [e]
     simp only [meta_Decode.told, Option.some.injEq, Prod.mk.injEq, and_true]; omega
   · rw [if_neg (fun hh => by have := of_decide_eq_true hh; omega)]
     by_cases b0 : 97 ≤ c
     · rw [if_pos (by omega), meta_value.j1]
       by_cases b1 : c ≤ 122
       · rw [if_pos (decide_eq_true (by omega))]
         have e : meta_Decode.vl c = some (c - 71) := by unfold meta_Decode.vl; rw [if_neg (by omega), if_pos ⟨b0, b1⟩]
         rw [e]
         simp only [meta_Decode.told, Option.some.injEq, Prod.mk.injEq, and_true]; omega
       · have e : meta_Decode.vl c = none := by unfold meta_Decode.vl; rw [if_neg (by omega), if_neg (by omega), if_neg (by omega), if_neg (by omega), if_neg (by omega)]
         rw [if_neg (fun hh => by have := of_decide_eq_true hh; omega), if_pos (by omega), meta_value.j2, if_neg (fun hh => by have := of_decide_eq_true hh; omega), if_neg (by omega), if_neg (by omega), e]
         rfl
     · have e : meta_Decode.vl c = none := by unfold meta_Decode.vl; rw [if_neg (by omega), if_neg (by omega), if_neg (by omega), if_neg (by omega), if_neg (by omega)]
       rw [if_neg (by omega), meta_value.j1, if_neg Bool.false_ne_true, if_pos (by omega), meta_value.j2, if_neg (fun hh => by have := of_decide_eq_true hh; omega), if_neg (by omega), if_neg (by omega), e]
       rfl
 · rw [if_neg (by omega), meta_value.j0, if_neg Bool.false_ne_true, if_neg (by omega), meta_value.j1, if_neg Bool.false_ne_true]
   by_cases c0 : 48 ≤ c
   · rw [if_pos (by omega), meta_value.j2]
     by_cases c1 : c ≤ 57
     · rw [if_pos (decide_eq_true (by omega))]
       have e : meta_Decode.vl c = some (c + 4) := by unfold meta_Decode.vl; rw [if_neg (by omega), if_neg (by omega), if_pos ⟨c0, c1⟩]
       rw [e]
       simp only [meta_Decode.told, Option.some.injEq, Prod.mk.injEq, and_true]; omega
     · have e : meta_Decode.vl c = none := by unfold meta_Decode.vl; rw [if_neg (by omega), if_neg (by omega), if_neg (by omega), if_neg (by omega), if_neg (by omega)]
       rw [if_neg (fun hh => by have := of_decide_eq_true hh; omega), if_neg (by omega), if_neg (by omega), e]
       rfl
   · rw [if_neg (by omega), meta_value.j2, if_neg Bool.false_ne_true]
     by_cases d : c = 43
     · have e : meta_Decode.vl c = some 62 := by unfold meta_Decode.vl; rw [if_neg (by omega), if_neg (by omega), if_neg (by omega), if_pos d]
       rw [if_pos (by omega), e]
       rfl
     · rw [if_neg (by omega)]
       by_cases e : c = 47
       · have e' : meta_Decode.vl c = some 63 := by unfold meta_Decode.vl; rw [if_neg (by omega), if_neg (by omega), if_neg (by omega), if_neg d, if_pos e]
         rw [if_pos (by omega), e']
         rfl
       · have e' : meta_Decode.vl c = none := by unfold meta_Decode.vl; rw [if_neg (by omega), if_neg (by omega), if_neg (by omega), if_neg d, if_neg e]
         rw [if_neg (by omega), e']
         rfl
theorem meta_Decode.value_at (c k : Nat) (h : c < 256) (hk : 3 ≤ k) : meta_value.f k (c : Int) = some (meta_Decode.told (meta_Decode.vl c)) := by
 obtain ⟨m, rfl⟩ : ∃ m, k = m + 1 + 1 + 1 := ⟨k - 3, by omega⟩
 exact meta_Decode.value_f c m h
theorem meta_Decode.bt_list (s : ByteArray) (i : Nat) (c : UInt8) (h : s.data.toList[i]? = some c) : bt s (i : Int) = (c.toNat : Int) := by
 have hi : i < s.size := by
  rcases Nat.lt_or_ge i s.size with h' | h'
  · exact h'
  · rw [List.getElem?_eq_none (by rw [Array.length_toList]; exact h')] at h; cases h
 unfold bt
 rw [dif_pos (by simpa using hi)]
 have : s[i]'hi = c := by
  have e := List.getElem?_eq_getElem (l := s.data.toList) (i := i) (by rw [Array.length_toList]; exact hi)
  rw [e] at h
  injection h
 simp only [Int.toNat_natCast]
 rw [this]

section
variable (g : ByteArray) (hg : g.size = 4)
include hg
theorem meta_Decode.three_in (n w i v : Nat) (c : UInt8) (hi : i < 4) (hn : i < n) (hc : g.data.toList[i]? = some c) (hv : meta_Decode.vl c.toNat = some v) (hw : w < 16777216) {r : ByteArray × Bool}
 (h : Ev (fun k => meta_three.l0 k g n ((w * 64 + v : Nat) : Int) ((i + 1 : Nat) : Int)) r) : Ev (fun k => meta_three.l0 k g n (w : Int) (i : Int)) r := by
 obtain ⟨K, h⟩ := h
 refine ⟨K + 4, fun k hk => ?_⟩
 obtain ⟨k, rfl⟩ : ∃ m, k = m + 1 := ⟨k - 1, by omega⟩
 have hv' := meta_Decode.vl_range _ _ hv
 simp only [meta_three.l0]
 rw [if_pos (by omega), if_neg (by omega), if_pos (by omega), if_pos (by omega), meta_Decode.bt_list g i c hc, meta_Decode.value_at _ _ c.toNat_lt (by omega), hv]
 simp only [meta_Decode.told, Option.bind_some, if_true]
 have e0 : ((w : Int) * 64) % 4294967296 = (w : Int) * 64 := by omega
 rw [e0, u32_or6 _ _ (by omega) (by omega) (by omega) (by omega) (by omega)]
 have e1 : (w : Int) * 64 + (v : Int) = ((w * 64 + v : Nat) : Int) := by omega
 have e2 : wrap64 ((i : Int) + 1) = ((i + 1 : Nat) : Int) := by unfold wrap64; omega
 rw [e1, e2]
 exact h k (by omega)
theorem meta_Decode.three_bad (n w i : Nat) (c : UInt8) (hi : i < 4) (hn : i < n) (hc : g.data.toList[i]? = some c) (hv : meta_Decode.vl c.toNat = none) :
 Ev (fun k => meta_three.l0 k g n (w : Int) (i : Int)) (⟨#[]⟩, false) := by
 refine ⟨4, fun k hk => ?_⟩
 obtain ⟨k, rfl⟩ : ∃ m, k = m + 1 := ⟨k - 1, by omega⟩
 simp only [meta_three.l0]
 rw [if_pos (by omega), if_neg (by omega), if_pos (by omega), if_pos (by omega), meta_Decode.bt_list g i c hc, meta_Decode.value_at _ _ c.toNat_lt (by omega), hv]
 rfl
omit hg in
theorem meta_Decode.three_out (n w i : Nat) (hi : i < 4) (hn : n ≤ i) (hw : w < 16777216) {r : ByteArray × Bool}
 (h : Ev (fun k => meta_three.l0 k g n ((w * 64 : Nat) : Int) ((i + 1 : Nat) : Int)) r) : Ev (fun k => meta_three.l0 k g n (w : Int) (i : Int)) r := by
 refine Ev.step (fun k => ?_) h
 simp only [meta_three.l0]
 rw [if_pos (by omega), if_pos (by omega)]
 have e1 : ((w : Int) * 64) % 4294967296 = ((w * 64 : Nat) : Int) := by omega
 have e2 : wrap64 ((i : Int) + 1) = ((i + 1 : Nat) : Int) := by unfold wrap64; omega
 rw [e1, e2]
def meta_Decode.parts (w n : Nat) : List UInt8 := ([UInt8.ofNat (w / 65536 % 256), UInt8.ofNat (w / 256 % 256), UInt8.ofNat (w % 256)] : List UInt8).take n
omit hg in
theorem meta_Decode.ba_ext (x y : ByteArray) (h : x.data.toList = y.data.toList) : x = y := by
 cases x; cases y; congr 1; exact Array.toList_inj.1 h
omit hg in
theorem meta_Decode.parts_ba (w n : Nat) : (strOfNums [((w : Int) / 65536) % 256, ((w : Int) / 256) % 256, (w : Int) % 256]).extract 0 n = (⟨(meta_Decode.parts w n).toArray⟩ : ByteArray) := by
 have e : (strOfNums [((w : Int) / 65536) % 256, ((w : Int) / 256) % 256, (w : Int) % 256]) = (⟨([UInt8.ofNat (w / 65536 % 256), UInt8.ofNat (w / 256 % 256), UInt8.ofNat (w % 256)] : List UInt8).toArray⟩ : ByteArray) := by
  unfold strOfNums
  simp only [List.map_cons, List.map_nil]
  have e1 : (((w : Int) / 65536) % 256).toNat = w / 65536 % 256 := by omega
  have e2 : (((w : Int) / 256) % 256).toNat = w / 256 % 256 := by omega
  have e3 : ((w : Int) % 256).toNat = w % 256 := by omega
  rw [e1, e2, e3]
 rw [e]
 apply meta_Decode.ba_ext
 rw [Lib.extract_data]
 rfl
omit hg in
theorem meta_Decode.nums_size (w : Nat) : (strOfNums [((w : Int) / 65536) % 256, ((w : Int) / 256) % 256, (w : Int) % 256]).size = 3 := rfl
omit hg in
theorem meta_Decode.parts_length (w n : Nat) (h : n ≤ 3) : (meta_Decode.parts w n).length = n := by unfold meta_Decode.parts; rw [List.length_take]; simp; omega
omit hg in
theorem meta_Decode.encode_f (l : List UInt8) (h : l.length ≤ 1099511627776) : meta_Encode.f ⟨l.toArray⟩ = some ⟨(B64.enc l).toArray⟩ := by
 unfold meta_Encode.f
 rw [if_pos (by show l.toArray.size ≤ _; simpa using h)]
omit hg in
theorem meta_Decode.three_end (n w : Nat) (h2 : 2 ≤ n) (h4 : n ≤ 4) : Ev (fun k => meta_three.l0 k g n (w : Int) ((4 : Nat) : Int)) (⟨(meta_Decode.parts w (n - 1)).toArray⟩, (B64.enc (meta_Decode.parts w (n - 1)) == g.data.toList)) := by
 refine ⟨1, fun k hk => ?_⟩
 obtain ⟨k, rfl⟩ : ∃ m, k = m + 1 := ⟨k - 1, by omega⟩
 simp only [meta_three.l0]
 have e1 : wrap64 ((n : Int) - 1) = ((n - 1 : Nat) : Int) := by unfold wrap64; omega
 rw [if_neg (by omega)]
 simp only [Option.bind_some, e1]
 rw [if_pos (by omega), if_pos (by rw [meta_Decode.nums_size]; omega), Int.toNat_natCast, ← extract_sub, meta_Decode.parts_ba, meta_Decode.encode_f _ (by rw [meta_Decode.parts_length _ _ (by omega)]; omega)]
 simp only [Option.bind_some, ByteArray.toList_eq]
theorem meta_Decode.three_any (n : Nat) (h2 : 2 ≤ n) (h4 : n ≤ 4) (d : Nat) : ∀ (i w : Nat), i + d = 4 → w < 64 ^ i → ∃ y ok, Ev (fun k => meta_three.l0 k g n (w : Int) (i : Int)) (y, ok) ∧ (ok = true → 1 ≤ y.size ∧ y.size ≤ 3 ∧ B64.enc y.data.toList = g.data.toList) := by
 induction d with
 | zero =>
  intro i w hi hw
  obtain rfl : i = 4 := by omega
  refine ⟨_, _, meta_Decode.three_end g n w h2 h4, fun h => ?_⟩
  have hl := meta_Decode.parts_length w (n - 1) (by omega)
  have hs : (⟨(meta_Decode.parts w (n - 1)).toArray⟩ : ByteArray).size = n - 1 := by show (meta_Decode.parts w (n - 1)).toArray.size = _; simpa using hl
  exact ⟨by omega, by omega, by simpa using h⟩
 | succ d ih =>
  intro i w hi hw
  have hw' : w < 16777216 := by
   have : i = 0 ∨ i = 1 ∨ i = 2 ∨ i = 3 := by omega
   rcases this with rfl | rfl | rfl | rfl <;> omega
  by_cases hn : i < n
  · have hl : i < g.data.toList.length := by rw [Array.length_toList]; show i < g.size; omega
    have hc := List.getElem?_eq_getElem hl
    cases hv : meta_Decode.vl (g.data.toList[i]).toNat with
    | none => exact ⟨_, _, meta_Decode.three_bad g hg n w i _ (by omega) hn hc hv, fun h => by cases h⟩
    | some v =>
     have := meta_Decode.vl_range _ _ hv
     obtain ⟨y, ok, h1, h2⟩ := ih (i + 1) (w * 64 + v) (by omega) (by rw [Nat.pow_succ]; omega)
     exact ⟨y, ok, meta_Decode.three_in g hg n w i v _ (by omega) hn hc hv hw' h1, h2⟩
  · obtain ⟨y, ok, h1, h2⟩ := ih (i + 1) (w * 64) (by omega) (by rw [Nat.pow_succ]; omega)
    exact ⟨y, ok, meta_Decode.three_out g n w i (by omega) (by omega) hw' h1, h2⟩
end
theorem meta_Decode.three_right (x : List UInt8) (h1 : 1 ≤ x.length) (h3 : x.length ≤ 3) : Ev (fun k => meta_three.l0 k ⟨(B64.four x).toArray⟩ ((x.length + 1 : Nat) : Int) ((0 : Nat) : Int) ((0 : Nat) : Int)) (⟨x.toArray⟩, true) := by
 have hg : (⟨(B64.four x).toArray⟩ : ByteArray).size = 4 := rfl
 have hw := B64.word_lt x
 have v : ∀ s, s < 64 → meta_Decode.vl (B64.let8 s).toNat = some s := fun s hs => by rw [B64.let8_toNat s hs]; exact meta_Decode.vl_lt s hs
 have c0 : (⟨(B64.four x).toArray⟩ : ByteArray).data.toList[0]? = some (B64.let8 (B64.word x / 262144)) := rfl
 have c1 : (⟨(B64.four x).toArray⟩ : ByteArray).data.toList[1]? = some (B64.let8 (B64.word x / 4096 % 64)) := rfl
 have last : ∀ w, w = B64.word x → (⟨(meta_Decode.parts w (x.length + 1 - 1)).toArray⟩, (B64.enc (meta_Decode.parts w (x.length + 1 - 1)) == (⟨(B64.four x).toArray⟩ : ByteArray).data.toList)) = ((⟨x.toArray⟩ : ByteArray), true) := by
  rintro w rfl
  have e : meta_Decode.parts (B64.word x) (x.length + 1 - 1) = x := by
   apply B64.list_of_getD
   · rw [meta_Decode.parts_length _ _ (by omega)]; omega
   · rw [meta_Decode.parts_length _ _ (by omega)]
     intro i hi
     have b0 := (x.getD 0 0).toNat_lt
     have b1 := (x.getD 1 0).toNat_lt
     have b2 := (x.getD 2 0).toNat_lt
     have z : ∀ i, x.length ≤ i → (x.getD i 0).toNat = 0 := fun i hi => by rw [List.getD_eq_getElem?_getD, List.getElem?_eq_none hi]; rfl
     have hgd : (meta_Decode.parts (B64.word x) (x.length + 1 - 1)).getD i 0 = ([UInt8.ofNat (B64.word x / 65536 % 256), UInt8.ofNat (B64.word x / 256 % 256), UInt8.ofNat (B64.word x % 256)] : List UInt8).getD i 0 := by
      unfold meta_Decode.parts
      rw [List.getD_eq_getElem?_getD, List.getD_eq_getElem?_getD, List.getElem?_take, if_pos hi]
     rw [hgd]
     apply UInt8.toNat_inj.1
     have : i = 0 ∨ i = 1 ∨ i = 2 := by omega
     rcases this with rfl | rfl | rfl
     · show (UInt8.ofNat (B64.word x / 65536 % 256)).toNat = _
       rw [UInt8.toNat_ofNat']
       unfold B64.word
       omega
     · show (UInt8.ofNat (B64.word x / 256 % 256)).toNat = _
       rw [UInt8.toNat_ofNat']
       unfold B64.word
       omega
     · show (UInt8.ofNat (B64.word x % 256)).toNat = _
       rw [UInt8.toNat_ofNat']
       unfold B64.word
       omega
  rw [e]
  have e2 : B64.enc x = B64.four x := by
   rw [B64.enc_step x (by intro e0; rw [e0] at h1; simp at h1), List.drop_of_length_le (by omega), B64.enc_nil, List.append_nil]
  rw [e2]
  simp
 refine meta_Decode.three_in _ hg _ 0 0 _ _ (by omega) (by omega) c0 (v _ (by omega)) (by omega) ?_
 refine meta_Decode.three_in _ hg _ _ 1 _ _ (by omega) (by omega) c1 (v _ (by omega)) (by omega) ?_
 have z : ∀ i, x.length ≤ i → (x.getD i 0).toNat = 0 := fun i hi => by rw [List.getD_eq_getElem?_getD, List.getElem?_eq_none hi]; rfl
 by_cases l1 : 1 < x.length
 · have c2 : (⟨(B64.four x).toArray⟩ : ByteArray).data.toList[2]? = some (B64.let8 (B64.word x / 64 % 64)) := congrArg some (if_pos l1)
   refine meta_Decode.three_in _ hg _ _ 2 _ _ (by omega) (by omega) c2 (v _ (by omega)) (by omega) ?_
   by_cases l2 : 2 < x.length
   · have c3 : (⟨(B64.four x).toArray⟩ : ByteArray).data.toList[3]? = some (B64.let8 (B64.word x % 64)) := congrArg some (if_pos l2)
     refine meta_Decode.three_in _ hg _ _ 3 _ _ (by omega) (by omega) c3 (v _ (by omega)) (by omega) ?_
     rw [← last ((((0 * 64 + B64.word x / 262144) * 64 + B64.word x / 4096 % 64) * 64 + B64.word x / 64 % 64) * 64 + B64.word x % 64) (by omega)]
     exact meta_Decode.three_end _ _ _ (by omega) (by omega)
   · refine meta_Decode.three_out _ _ _ 3 (by omega) (by omega) (by omega) ?_
     have z2 := z 2 (by omega)
     rw [← last ((((0 * 64 + B64.word x / 262144) * 64 + B64.word x / 4096 % 64) * 64 + B64.word x / 64 % 64) * 64) (by unfold B64.word at *; omega)]
     exact meta_Decode.three_end _ _ _ (by omega) (by omega)
 · refine meta_Decode.three_out _ _ _ 2 (by omega) (by omega) (by omega) ?_
   refine meta_Decode.three_out _ _ _ 3 (by omega) (by omega) (by omega) ?_
   have z2 := z 2 (by omega)
   have z1 := z 1 (by omega)
   rw [← last ((((0 * 64 + B64.word x / 262144) * 64 + B64.word x / 4096 % 64) * 64) * 64) (by unfold B64.word at *; omega)]
   exact meta_Decode.three_end _ _ _ (by omega) (by omega)
theorem meta_Decode.trim_f (g : ByteArray) (hg : g.size = 4) : strings_TrimRight.f g ⟨#[61]⟩ = some ⟨(Lib.trimRightB g.data.toList 61).toArray⟩ := by
 unfold strings_TrimRight.f
 show (if (61 : UInt8).toNat < 128 ∧ g.size ≤ 9223372036854775807 then _ else none) = _
 rw [if_pos ⟨by decide, by omega⟩]
theorem meta_Decode.trim_four (x : List UInt8) (h1 : 1 ≤ x.length) (h3 : x.length ≤ 3) : (Lib.trimRightB (B64.four x) 61).length = x.length + 1 := by
 have hw := B64.word_lt x
 rw [Lib.trimRightB_take (B64.four x) 61 (x.length + 1) (by rw [B64.four_length]; omega)]
 · rw [List.length_take, B64.four_length]; omega
 · intro j b hj hb
   have hl : j < 4 := by
    rcases Nat.lt_or_ge j 4 with h | h
    · exact h
    · rw [List.getElem?_eq_none (by rw [B64.four_length]; exact h)] at hb; cases hb
   have : j = 2 ∨ j = 3 := by omega
   rcases this with rfl | rfl
   · have e : (B64.four x)[2]? = some 61 := congrArg some (if_neg (by omega))
     rw [e] at hb; injection hb with hb; exact hb.symm
   · have e : (B64.four x)[3]? = some 61 := congrArg some (if_neg (by omega))
     rw [e] at hb; injection hb with hb; exact hb.symm
 · intro b _ hb
   have : x.length = 1 ∨ x.length = 2 ∨ x.length = 3 := by omega
   rcases this with h | h | h
   · rw [h] at hb
     have e : (B64.four x)[1]? = some (B64.let8 (B64.word x / 4096 % 64)) := rfl
     rw [show 1 + 1 - 1 = 1 from rfl, e] at hb; injection hb with hb; subst hb; exact B64.let8_ne _ (by omega)
   · rw [h] at hb
     have e : (B64.four x)[2]? = some (B64.let8 (B64.word x / 64 % 64)) := congrArg some (if_pos (by omega))
     rw [show 2 + 1 - 1 = 2 from rfl, e] at hb; injection hb with hb; subst hb; exact B64.let8_ne _ (by omega)
   · rw [h] at hb
     have e : (B64.four x)[3]? = some (B64.let8 (B64.word x % 64)) := congrArg some (if_pos (by omega))
     rw [show 3 + 1 - 1 = 3 from rfl, e] at hb; injection hb with hb; subst hb; exact B64.let8_ne _ (by omega)
theorem meta_Decode.enc_short (x : List UInt8) (h1 : 1 ≤ x.length) (h3 : x.length ≤ 3) : B64.enc x = B64.four x := by
 rw [B64.enc_step x (by intro e0; rw [e0] at h1; simp at h1), List.drop_of_length_le (by omega), B64.enc_nil, List.append_nil]
theorem meta_Decode.trim_le (l : List UInt8) : (Lib.trimRightB l 61).length ≤ l.length := by
 unfold Lib.trimRightB
 rw [List.length_reverse]
 have := (List.dropWhile_suffix (p := (· == (61 : UInt8))) (l := l.reverse)).length_le
 rw [List.length_reverse] at this
 exact this
theorem meta_Decode.three_spec (g : ByteArray) (hg : g.size = 4) : ∃ y ok, Ev (fun k => meta_three.f k g) (y, ok) ∧ (ok = true → 1 ≤ y.size ∧ y.size ≤ 3 ∧ B64.enc y.data.toList = g.data.toList) ∧
 (∀ x : List UInt8, 1 ≤ x.length → x.length ≤ 3 → B64.enc x = g.data.toList → ok = true ∧ y = ⟨x.toArray⟩) := by
 have hd : g.data.toList.length = 4 := by rw [Array.length_toList]; exact hg
 have hle := meta_Decode.trim_le g.data.toList
 have hsz : ∀ l : List UInt8, (⟨l.toArray⟩ : ByteArray).size = l.length := fun l => by show l.toArray.size = _; simp
 have open_ : ∀ k, meta_three.f k g = if ((Lib.trimRightB g.data.toList 61).length : Int) < 2 then some (⟨#[]⟩, false) else meta_three.l0 k g ((Lib.trimRightB g.data.toList 61).length : Int) 0 0 := fun k => by
  unfold meta_three.f
  rw [meta_Decode.trim_f g hg]
  simp only [Option.bind_some, hsz]
 by_cases hx : ∃ x : List UInt8, 1 ≤ x.length ∧ x.length ≤ 3 ∧ B64.enc x = g.data.toList
 · obtain ⟨x, h1, h3, he⟩ := hx
   have hf : B64.four x = g.data.toList := by rw [← meta_Decode.enc_short x h1 h3]; exact he
   have hg2 : g = ⟨(B64.four x).toArray⟩ := meta_Decode.ba_ext _ _ (by rw [hf])
   refine ⟨⟨x.toArray⟩, true, ?_, fun _ => ⟨by rw [hsz]; exact h1, by rw [hsz]; exact h3, he⟩, fun x' a b c => ?_⟩
   · have ht := meta_Decode.trim_four x h1 h3
     rw [hf] at ht
     have := meta_Decode.three_right x h1 h3
     rw [← hg2] at this
     refine Ev.congr (fun k => (open_ k).trans (if_neg (by omega))) ?_
     rw [ht]
     exact this
   · exact ⟨rfl, by rw [B64.enc_inj x' x (c.trans he.symm)]⟩
 · by_cases h2 : (Lib.trimRightB g.data.toList 61).length < 2
   · exact ⟨⟨#[]⟩, false, Ev.congr (fun k => (open_ k).trans (if_pos (by omega))) (Ev.now _), (fun h => by cases h), fun x a b c => absurd ⟨x, a, b, c⟩ hx⟩
   · obtain ⟨y, ok, a, b⟩ := meta_Decode.three_any g hg (Lib.trimRightB g.data.toList 61).length (by omega) (by omega) 4 0 0 (by omega) (by decide)
     exact ⟨y, ok, Ev.congr (fun k => (open_ k).trans (if_neg (by omega))) a, b, fun x a b c => absurd ⟨x, a, b, c⟩ hx⟩

def meta_Decode.DRel (a0 : ByteArray) (w : World) (t : ByteArray) (acc : List UInt8) (wr : World) : Prop :=
 IsBld w.heap.size w.heap.size acc wr ∧ Below w.heap.size w wr ∧ B64.enc acc ++ t.data.toList = a0.data.toList ∧ (t.size = 0 ∨ acc.length % 3 = 0) ∧ t.size % 4 = 0
def meta_Decode.DPost (a0 : ByteArray) (w : World) (e : Ending) (w' : World) : Prop := (match B64.dec a0.data.toList with
 | some b => e = .returned (.tuple #[.string ⟨b.toArray⟩, .int .i64 0])
 | none => e = .returned (.tuple #[.string ⟨#[]⟩, .int .i64 6])) ∧ Below w.heap.size w w'
theorem meta_Decode.dpost_bad (a0 : ByteArray) (w w' : World) (h : ¬ ∃ b, B64.enc b = a0.data.toList) (hb : Below w.heap.size w w') : meta_Decode.DPost a0 w (.returned (.tuple #[.string ⟨#[]⟩, .int .i64 6])) w' := by
 unfold meta_Decode.DPost; rw [B64.dec_none _ h]; exact ⟨rfl, hb⟩
theorem meta_Decode.dpost_good (a0 : ByteArray) (w w' : World) (b : List UInt8) (h : B64.enc b = a0.data.toList) (hb : Below w.heap.size w w') : meta_Decode.DPost a0 w (.returned (.tuple #[.string ⟨b.toArray⟩, .int .i64 0])) w' := by
 unfold meta_Decode.DPost; rw [B64.dec_of _ _ h]; exact ⟨rfl, hb⟩
theorem meta_Decode.dsz' (t : ByteArray) : t.data.toList.length = t.size := Array.length_toList
theorem meta_Decode.no_enc (a0 : ByteArray) (h : ¬ a0.size % 4 = 0) : ¬ ∃ b, B64.enc b = a0.data.toList := by
 rintro ⟨b, hb⟩
 have := congrArg List.length hb
 rw [B64.enc_length, meta_Decode.dsz'] at this
 omega
section
variable {a0 t : ByteArray} {acc : List UInt8} (ht : 4 ≤ t.size) (hacc : B64.enc acc ++ t.data.toList = a0.data.toList) (h3 : acc.length % 3 = 0)
include ht hacc h3
theorem meta_Decode.dec_next (b : List UInt8) (hb : B64.enc b = a0.data.toList) : ∃ c : List UInt8, B64.enc c = t.data.toList ∧ 1 ≤ c.length ∧ B64.enc (c.take 3) = (t.extract 0 4).data.toList := by
 obtain ⟨c, _, hc⟩ := B64.enc_begin acc b t.data.toList h3 (hb.trans hacc.symm)
 have hc0 : c ≠ [] := by rintro rfl; have := congrArg List.length hc; rw [meta_Decode.dsz', B64.enc_nil] at this; simp at this; omega
 have hp := List.length_pos_iff.2 hc0
 refine ⟨c, hc, hp, ?_⟩
 rw [meta_Decode.enc_short (c.take 3) (by rw [List.length_take]; omega) (List.length_take_le _ _), B64.four_take3, Lib.extract_data, ← hc, B64.enc_step c hc0]
 rfl
theorem meta_Decode.dec_bad1 (hr : ∀ x : List UInt8, 1 ≤ x.length → x.length ≤ 3 → B64.enc x = (t.extract 0 4).data.toList → False) : ¬ ∃ b, B64.enc b = a0.data.toList := by
 rintro ⟨b, hb⟩
 obtain ⟨c, _, hp, hc⟩ := meta_Decode.dec_next ht hacc h3 b hb
 exact hr _ (by rw [List.length_take]; omega) (List.length_take_le _ _) hc
theorem meta_Decode.dec_bad2 (y : ByteArray) (hr : ∀ x : List UInt8, 1 ≤ x.length → x.length ≤ 3 → B64.enc x = (t.extract 0 4).data.toList → y = ⟨x.toArray⟩) (hy : y.size < 3) (h5 : 4 < t.size) : ¬ ∃ b, B64.enc b = a0.data.toList := by
 rintro ⟨b, hb⟩
 obtain ⟨c, hct, hp, hc⟩ := meta_Decode.dec_next ht hacc h3 b hb
 have e := hr _ (by rw [List.length_take]; omega) (List.length_take_le _ _) hc
 have hl : y.size = (c.take 3).length := by rw [e]; show (c.take 3).toArray.size = _; simp
 rw [List.length_take] at hl
 have := congrArg List.length hct
 rw [B64.enc_length, meta_Decode.dsz'] at this
 omega
theorem meta_Decode.dec_on (y : ByteArray) (he : B64.enc y.data.toList = (t.extract 0 4).data.toList) (hy1 : 1 ≤ y.size) (hy3 : y.size ≤ 3) (hn : ¬ (y.size < 3 ∧ 4 < t.size)) (h4 : t.size % 4 = 0) :
 B64.enc (acc ++ y.data.toList) ++ (t.extract 4 t.size).data.toList = a0.data.toList ∧ ((t.extract 4 t.size).size = 0 ∨ (acc ++ y.data.toList).length % 3 = 0) ∧ (t.extract 4 t.size).size % 4 = 0 := by
 have hs : (t.extract 4 t.size).size = t.size - 4 := by rw [ByteArray.size_extract]; omega
 refine ⟨?_, ?_, by rw [hs]; omega⟩
 · rw [B64.enc_append _ _ h3, he, Lib.extract_data, Lib.extract_data, ← hacc, List.append_assoc]
   congr 1
   rw [List.drop_zero, List.take_of_length_le (i := t.size - 4) (by rw [List.length_drop, meta_Decode.dsz']; omega)]
   exact List.take_append_drop 4 _
 · rw [hs, List.length_append, meta_Decode.dsz']
   omega
end
theorem meta_Decode.dec_len (a0 : ByteArray) (acc l : List UInt8) (h : B64.enc acc ++ l = a0.data.toList) (hs : a0.size ≤ 1099511627776) : acc.length ≤ 1099511627776 := by
 have := congrArg List.length h
 rw [List.length_append, B64.enc_length, meta_Decode.dsz'] at this
 omega
set_option maxHeartbeats 1600000 in
set_option maxRecDepth 100000 in
theorem meta_Decode.dec_calls (a0 : ByteArray) (w : World) (hs : a0.size ≤ 1099511627776) :
 Calls Tryz.prog 27 #[.string a0] w (meta_Decode.DPost a0 w) := by
 by_cases h4 : a0.size % 4 = 0
 · have hm : (((a0.size : Int) % 4) != 0) = false := by rw [bne_eq_false_iff_eq]; omega
   have H4 := Lib.hid h4
   clear h4
   go_enter Tryz.func27, Tryz.ntmps27
   go_wp2_with fail
   go_loopw [0] (fun s wr => ∃ (t : ByteArray) (acc : List UInt8), s = .string t ∧ meta_Decode.DRel a0 w t acc wr) (fun s wr => match s with | .string t => t.size | _ => 0)
   case atStart => exact ⟨a0, [], rfl, isBld_fresh w, (Below.refl _ w).alloc (Nat.le_refl _) _, rfl, .inr rfl, H4.out⟩
   case round =>
    obtain ⟨t, acc, rfl, hR⟩ := hrel
    have hR' : Hid (meta_Decode.DRel a0 w t acc wr) := hR
    by_cases hE : t.size = 0
    · have hne := meta_Encode.is_empty t hE
      have HE := Lib.hid hE
      obtain ⟨h1, h2, _⟩ := hR
      clear hE
      go_wp2_with fail
      refine (Tryz.Builder_String_any_f w.heap.size w.heap.size acc _ h1 h2.size).mono ?_
      rintro e w1 ⟨rfl, _, hb1⟩
      go_wp2
      go_ret2
      have : t.data.toList = [] := List.length_eq_zero_iff.1 (by rw [meta_Decode.dsz']; exact HE.out)
      have h3 := hR'.out.2.2.1
      rw [this, List.append_nil] at h3
      exact meta_Decode.dpost_good a0 w _ acc h3 (h2.trans hb1)
    · have hne := meta_Encode.ne_empty t hE
      have h4t : 4 ≤ t.size := by have := hR.2.2.2.2; omega
      have hsz : t.size ≤ 9223372036854775807 := by
       have := congrArg List.length hR.2.2.1
       rw [List.length_append, meta_Decode.dsz', meta_Decode.dsz'] at this
       omega
      clear hE hR
      have hg : (t.extract 0 4).size = 4 := by rw [ByteArray.size_extract]; omega
      obtain ⟨y, ok, ⟨K, hev⟩, hyes, hno⟩ := meta_Decode.three_spec (t.extract 0 4) hg
      have HC : Hid (meta_three.f K (t.extract 0 4) = some (y, ok)) := hev K (Nat.le_refl _)
      clear hg hev
      cases ok with
      | false =>
       have HNO := Lib.hid (fun x a b c => Bool.false_ne_true (hno x a b c).1)
       clear hyes hno
       go_wp2_with fail
       refine (meta_three.calls K _ _ _ _ HC.out).mono ?_
       rintro e w1 ⟨rfl, hb1⟩
       go_wp2
       go_ret2
       exact meta_Decode.dpost_bad a0 w _ (meta_Decode.dec_bad1 h4t hR'.out.2.2.1 (by have := hR'.out.2.2.2.1; omega) HNO.out) (hR'.out.2.1.trans (hb1.mono hR'.out.2.1.size))
      | true =>
       have HY := Lib.hid (hyes rfl)
       have HNO := Lib.hid (fun x a b c => (hno x a b c).2)
       clear hyes hno
       by_cases hys : y.size < 3
       · by_cases h5 : 4 < t.size
         · go_wp2_with fail
           refine (meta_three.calls K _ _ _ _ HC.out).mono ?_
           rintro e w1 ⟨rfl, hb1⟩
           go_wp2
           go_ret2
           exact meta_Decode.dpost_bad a0 w _ (meta_Decode.dec_bad2 h4t hR'.out.2.2.1 (by have := hR'.out.2.2.2.1; omega) y HNO.out hys h5) (hR'.out.2.1.trans (hb1.mono hR'.out.2.1.size))
         · go_wp2_with fail
           refine (meta_three.calls K _ _ _ _ HC.out).mono ?_
           rintro e w1 ⟨rfl, hb1⟩
           go_wp2_with fail
           have HB1 := Lib.hid hb1
           have hy3 := HY.out.2.1
           have hlen := meta_Decode.dec_len a0 acc _ hR'.out.2.2.1 hs
           refine (bld_string w.heap.size w.heap.size acc y _ (isBld_below hR'.out.1 HB1.out) (by omega) (by have := hR'.out.2.1.size; have := HB1.out.size; omega)).mono ?_
           rintro e w2 ⟨rfl, hB2, hb2⟩
           have HB2 := Lib.hid hB2
           have Hb2 := Lib.hid hb2
           clear hB2 hb2 hb1
           go_wp2
           go_roundw
           case rel => exact ⟨_, acc ++ y.data.toList, rfl, HB2.out, hR'.out.2.1.trans ((HB1.out.mono hR'.out.2.1.size).trans Hb2.out), meta_Decode.dec_on h4t hR'.out.2.2.1 (by have := hR'.out.2.2.2.1; omega) y HY.out.2.2 HY.out.1 hy3 (by omega) hR'.out.2.2.2.2⟩
           case measure =>
            show (t.extract 4 t.size).size < t.size
            rw [ByteArray.size_extract]
            omega
       · go_wp2_with fail
         refine (meta_three.calls K _ _ _ _ HC.out).mono ?_
         rintro e w1 ⟨rfl, hb1⟩
         go_wp2_with fail
         have HB1 := Lib.hid hb1
         have hy3 := HY.out.2.1
         have hlen := meta_Decode.dec_len a0 acc _ hR'.out.2.2.1 hs
         refine (bld_string w.heap.size w.heap.size acc y _ (isBld_below hR'.out.1 HB1.out) (by omega) (by have := hR'.out.2.1.size; have := HB1.out.size; omega)).mono ?_
         rintro e w2 ⟨rfl, hB2, hb2⟩
         have HB2 := Lib.hid hB2
         have Hb2 := Lib.hid hb2
         clear hB2 hb2 hb1
         go_wp2
         go_roundw
         case rel => exact ⟨_, acc ++ y.data.toList, rfl, HB2.out, hR'.out.2.1.trans ((HB1.out.mono hR'.out.2.1.size).trans Hb2.out), meta_Decode.dec_on h4t hR'.out.2.2.1 (by have := hR'.out.2.2.2.1; omega) y HY.out.2.2 HY.out.1 hy3 (by omega) hR'.out.2.2.2.2⟩
         case measure =>
          show (t.extract 4 t.size).size < t.size
          rw [ByteArray.size_extract]
          omega
 · have hm : (((a0.size : Int) % 4) != 0) = true := by rw [bne_iff_ne]; omega
   have HN := Lib.hid (meta_Decode.no_enc a0 h4)
   clear h4
   go_enter Tryz.func27, Tryz.ntmps27
   go_wp2
   go_ret2
   exact meta_Decode.dpost_bad a0 w _ HN.out (Below.refl _ _)
noncomputable def meta_Decode.f (a0 : ByteArray) : Option (ByteArray × Int) := if a0.size ≤ 1099511627776 then (match B64.dec a0.data.toList with
 | some b => some (⟨b.toArray⟩, 0)
 | none => some (⟨#[]⟩, 6)) else none
theorem meta_Decode.calls (a0 : ByteArray) (r1 : ByteArray) (r2 : Int) (w : World) (h : meta_Decode.f a0 = some (r1, r2)) :
 Calls Tryz.prog 27 #[.string a0] w fun e w' => e = .returned (.tuple #[.string r1, .int .i64 r2]) ∧ Below w.heap.size w w' := by
 unfold meta_Decode.f at h
 split at h
 · refine (meta_Decode.dec_calls a0 w (by assumption)).mono ?_
   rintro e w' hd
   unfold meta_Decode.DPost at hd
   split at h
   · rename_i b hb
     rw [hb] at hd
     cases h
     exact hd
   · rename_i hb
     rw [hb] at hd
     cases h
     exact hd
 · cases h

end
end Go.Proofs.YtfboejlemnfndaaGreatDoor.XMt
end
section
namespace Go.Proofs.YtfboejlemnfndaaGreatDoor.XMt
open Go.RowKit Go.Proofs.YtfboejlemnfndaaGreatDoorW.PrintWords Go.Proofs.YtfboejlemnfndaaGreatDoorW.PrintLast Go.Proofs.YtfboejlemnfndaaGreatDoorW.PrintMore
attribute [local go_sem] extract_sub max2_int min2_int max_two min_two max_three min_three max_four min_four   -- for this text's walks alone
set_option linter.unusedVariables false
set_option linter.unusedSimpArgs false

noncomputable section
def meta_size.f (a0 : ByteArray) : Option (Int × Bool) := (digits_Parse.f a0).bind fun bt188 => (if bt188.2 = 0 then (some (wrap64 (bt188.1), decide (bt188.1 ≤ 2147483647))) else (some (wrap64 (bt188.1), false)))
set_option maxHeartbeats 8000000 in
set_option maxRecDepth 100000 in
theorem meta_size.calls (a0 : ByteArray) (r1 : Int) (r2 : Bool) (w : World) (hv : Vars w) (h : meta_size.f a0 = some (r1, r2)) :
 Calls Tryz.prog 73 #[.string a0] w fun e w' => e = .returned (.tuple #[.int .i64 r1, .bool r2]) ∧ Below w.heap.size w w' := by
 have HV := Aside0.mk hv
 clear hv
 have HB := Aside0.mk (Below.refl w.heap.size w)
 have H : ((digits_Parse.f a0).bind fun bt188 => (if bt188.2 = 0 then (some (wrap64 (bt188.1), decide (bt188.1 ≤ 2147483647))) else (some (wrap64 (bt188.1), false)))) = some (r1, r2) := h
 clear h
 replace H := Option.bind_eq_some_iff.mp H
 obtain ⟨⟨t188, t189⟩, A20, H⟩ := H
 replace H : (if t189 = 0 then (some (wrap64 (t188), decide (t188 ≤ 2147483647))) else (some (wrap64 (t188), false))) = some (r1, r2) := H
 have A2 := Aside0.mk A20
 clear A20
 by_cases c3 : t189 = 0
 · rw [if_pos c3] at H
   have c3b0 : (t189 == 0) = true := beq_iff_eq.mpr c3
   have c3b1 : (t189 != 0) = false := bne_eq_false_iff_eq.mpr c3
   clear c3
   simp only [Option.some.injEq, Prod.mk.injEq] at H
   obtain ⟨rfl, rfl⟩ := H
   go_enter Tryz.func73, Tryz.ntmps73
   go_wp2_with (first | ((with_reducible refine gate_callee (f := 38) rfl ?_); refine goesL_ (some 8) rfl rfl Tryz.func38 (by kernel_rfl) rfl #[.string a0] rfl (by (try simp only [List.map_toArray, List.map_cons, List.map_nil]); first | done | rfl | (simp only [List.length_drop, List.length_take]; rfl) | (simp only [IntKind.wrap_u64]; rw [Int.emod_eq_of_lt (by omega) (by omega)]; rfl) | (simp only [ByteArray.size_extract]; done) | (simp only [ByteArray.size_extract]; rfl)) ?_; (with_reducible refine (digits_Parse.calls a0 t188 t189 _ ?side1 A2.out).mono ?_); (case side1 => exact Vars.below HV.out (by repeat (first | (with_reducible first | exact HB.out | apply below_alloc | apply pw_below_drewN | apply below_drew1) | exact HB.out))); rintro e w4 ⟨rfl, hb⟩; refine ⟨_, rfl, ?_⟩; have n0_ := Aside0.mk (below_step (by repeat (first | (with_reducible first | exact HB.out | apply below_alloc | apply pw_below_drewN | apply below_drew1) | exact HB.out)) hb); clear HB; have HB := n0_; clear n0_; (try clear hb); (try clear hb2); (try clear hk); (try clear hi)))
   go_ret2
   exact ⟨by first | rfl | (simp [errW_none, errW_some] <;> rfl) | (simp [*, errW_none, errW_some] <;> rfl), by repeat (first | (with_reducible first | exact HB.out | apply below_alloc | apply pw_below_drewN | apply below_drew1) | exact HB.out)⟩
 · rw [if_neg c3] at H
   have c3b0 : (t189 == 0) = false := beq_eq_false_iff_ne.mpr c3
   have c3b1 : (t189 != 0) = true := bne_iff_ne.mpr c3
   simp only [Option.some.injEq, Prod.mk.injEq] at H
   obtain ⟨rfl, rfl⟩ := H
   go_enter Tryz.func73, Tryz.ntmps73
   go_wp2_with (first | ((with_reducible refine gate_callee (f := 38) rfl ?_); refine goesL_ (some 8) rfl rfl Tryz.func38 (by kernel_rfl) rfl #[.string a0] rfl (by (try simp only [List.map_toArray, List.map_cons, List.map_nil]); first | done | rfl | (simp only [List.length_drop, List.length_take]; rfl) | (simp only [IntKind.wrap_u64]; rw [Int.emod_eq_of_lt (by omega) (by omega)]; rfl) | (simp only [ByteArray.size_extract]; done) | (simp only [ByteArray.size_extract]; rfl)) ?_; (with_reducible refine (digits_Parse.calls a0 t188 t189 _ ?side1 A2.out).mono ?_); (case side1 => exact Vars.below HV.out (by repeat (first | (with_reducible first | exact HB.out | apply below_alloc | apply pw_below_drewN | apply below_drew1) | exact HB.out))); rintro e w5 ⟨rfl, hb⟩; refine ⟨_, rfl, ?_⟩; have n0_ := Aside0.mk (below_step (by repeat (first | (with_reducible first | exact HB.out | apply below_alloc | apply pw_below_drewN | apply below_drew1) | exact HB.out)) hb); clear HB; have HB := n0_; clear n0_; (try clear hb); (try clear hb2); (try clear hk); (try clear hi)))
   go_ret2
   exact ⟨by first | rfl | (simp [errW_none, errW_some] <;> rfl) | (simp [*, errW_none, errW_some] <;> rfl), by repeat (first | (with_reducible first | exact HB.out | apply below_alloc | apply pw_below_drewN | apply below_drew1) | exact HB.out)⟩

end
end Go.Proofs.YtfboejlemnfndaaGreatDoor.XMt
end
