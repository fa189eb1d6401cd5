/- Put together by wip/pack.py (this session's own program) out of this session's texts; a kit's tool laid the words and the shelf, of which only what is used stands here. Lean checks it. -/
import Derived.Test.YtfboejlemnfndaaGreatDoorPMr5
section
namespace Go.Proofs.YtfboejlemnfndaaGreatDoor.XMr
open Go.RowKit Go.Proofs.YtfboejlemnfndaaGreatDoorW.PrintWords Go.Proofs.YtfboejlemnfndaaGreatDoorW.PrintLast Go.Proofs.YtfboejlemnfndaaGreatDoorW.PrintMore
attribute [local go_sem] extract_sub max2_int min2_int max_two min_two max_three min_three max_four min_four   -- for this text's walks alone
set_option linter.unusedVariables false
set_option linter.unusedSimpArgs false

noncomputable section
mutual
def tallboyref27_Write.j0 : Nat → ByteArray → Int → ByteArray → Int → List (S59) → Option (ByteArray × Int)
 | 0, _, _, _, _, _ => none
 | k + 1, x5, x243000, x243001, x243002, x243003 => if x243000 = 2 then (if x5.size + 1 ≤ 9223372036854775807 then ((tallboyref02_Text.f k (IntKind.u64.wrap (x243002))).bind fun t248 => (if (x5 ++ (⟨#[32]⟩ : ByteArray)).size + t248.size ≤ 9223372036854775807 then (tallboyref27_Write.j1 k ((x5 ++ (⟨#[32]⟩ : ByteArray)) ++ t248) x243000 x243001 x243002 x243003) else (none))) else (none)) else (tallboyref27_Write.j1 k x5 x243000 x243001 x243002 x243003)
def tallboyref27_Write.j1 : Nat → ByteArray → Int → ByteArray → Int → List (S59) → Option (ByteArray × Int)
 | 0, _, _, _, _, _ => none
 | k + 1, x5, x243000, x243001, x243002, x243003 => tallboyref27_Write.l0 k x5 0 x243000 x243001 x243002 x243003
def tallboyref27_Write.l0 : Nat → ByteArray → Int → Int → ByteArray → Int → List (S59) → Option (ByteArray × Int)
 | 0, _, _, _, _, _, _ => none
 | k + 1, x5, x8, x243000, x243001, x243002, x243003 => if x8 < (x243003.length : Int) then (if x5.size + 1 ≤ 9223372036854775807 then (if 0 ≤ x8 then ((some (([(rd_T59 x243003 x8).f0] : List Int) : List Int)).bind fun y250 => (if (x5 ++ (⟨#[32]⟩ : ByteArray)).size + (strOfNums y250).size ≤ 9223372036854775807 then (if ((x5 ++ (⟨#[32]⟩ : ByteArray)) ++ (strOfNums y250)).size + ((rd_T59 x243003 x8).f1).size ≤ 9223372036854775807 then (tallboyref27_Write.l0 k (((x5 ++ (⟨#[32]⟩ : ByteArray)) ++ (strOfNums y250)) ++ ((rd_T59 x243003 x8).f1)) (wrap64 (x8 + 1)) x243000 x243001 x243002 x243003) else (none)) else (none))) else (none)) else (none)) else (if (x5.size : Int) > 160 then (some ((⟨#[]⟩ : ByteArray), 7)) else (some (x5, 0)))
end
def tallboyref27_Write.f (k : Nat) (a0_0 : Int) (a0_1 : ByteArray) (a0_2 : Int) (l0_3 : List (S59)) : Option (ByteArray × Int) := (tallboyref27_form.f k a0_0 a0_1 a0_2 l0_3).bind fun t243 => (if t243 = 0 then ((tallboyref27_name.f a0_0).bind fun t244 => ((tallboyref27_Find.f k a0_0 a0_1 a0_2 l0_3 98).bind fun bt245 => (if a0_0 = 5 then (tallboyref27_Write.j0 k t244 a0_0 a0_1 a0_2 l0_3) else (if bt245.2 = true then (if t244.size + 1 ≤ 9223372036854775807 then ((tallboyref27_Encode.f a0_1).bind fun t247 => (if (t244 ++ (⟨#[32]⟩ : ByteArray)).size + t247.size ≤ 9223372036854775807 then (tallboyref27_Write.j0 k ((t244 ++ (⟨#[32]⟩ : ByteArray)) ++ t247) a0_0 a0_1 a0_2 l0_3) else (none))) else (none)) else (if t244.size + 1 ≤ 9223372036854775807 then (if (t244 ++ (⟨#[32]⟩ : ByteArray)).size + a0_1.size ≤ 9223372036854775807 then (tallboyref27_Write.j0 k ((t244 ++ (⟨#[32]⟩ : ByteArray)) ++ a0_1) a0_0 a0_1 a0_2 l0_3) else (none)) else (none)))))) else (some ((⟨#[]⟩ : ByteArray), t243)))
theorem tallboyref27_Write.mono_l : ∀ k, (∀ y0 y1 y2 y3 y4, LeO (tallboyref27_Write.j0 k y0 y1 y2 y3 y4) (tallboyref27_Write.j0 (k + 1) y0 y1 y2 y3 y4)) ∧ (∀ y0 y1 y2 y3 y4, LeO (tallboyref27_Write.j1 k y0 y1 y2 y3 y4) (tallboyref27_Write.j1 (k + 1) y0 y1 y2 y3 y4)) ∧ (∀ y0 y1 y2 y3 y4 y5, LeO (tallboyref27_Write.l0 k y0 y1 y2 y3 y4 y5) (tallboyref27_Write.l0 (k + 1) y0 y1 y2 y3 y4 y5))
 | 0 => ⟨fun _ _ _ _ _ r h => by simp [tallboyref27_Write.j0] at h, fun _ _ _ _ _ r h => by simp [tallboyref27_Write.j1] at h, fun _ _ _ _ _ _ r h => by simp [tallboyref27_Write.l0] at h⟩
 | k + 1 => by
  obtain ⟨ih0, ih1, ih2⟩ := tallboyref27_Write.mono_l k
  refine ⟨?_, ?_, ?_⟩
  all_goals
   intros
   first | unfold tallboyref27_Write.j0 | unfold tallboyref27_Write.j1 | unfold tallboyref27_Write.l0
   repeat' first
   | (with_reducible exact ih0 _ _ _ _ _)
   | (with_reducible exact ih1 _ _ _ _ _)
   | (with_reducible exact ih2 _ _ _ _ _ _)
   | (with_reducible exact tallboyref02_Text.mono _ _)
   | (with_reducible exact tallboyref27_Find.mono _ _ _ _ _ _)
   | (with_reducible exact tallboyref27_form.mono _ _ _ _ _)
   | (with_reducible exact LeO.refl _)
   | (with_reducible exact LeO.none _)
   | (with_reducible refine LeO.ite ?_ ?_)
   | (with_reducible refine LeO.bind ?_ (fun _ => ?_))
   | exact ih0 _ _ _ _ _
   | exact ih1 _ _ _ _ _
   | exact ih2 _ _ _ _ _ _
   | exact tallboyref02_Text.mono _ _
   | exact tallboyref27_Find.mono _ _ _ _ _ _
   | exact tallboyref27_form.mono _ _ _ _ _
   | exact LeO.none _
   | refine LeO.ite ?_ ?_
   | refine LeO.bind ?_ (fun _ => ?_)
theorem tallboyref27_Write.mono : ∀ a0 a1 a2 a3 k, LeO (tallboyref27_Write.f k a0 a1 a2 a3) (tallboyref27_Write.f (k + 1) a0 a1 a2 a3) := by
 intro a0 a1 a2 a3 k
 obtain ⟨ih0, ih1, ih2⟩ := tallboyref27_Write.mono_l k
 unfold tallboyref27_Write.f
 repeat' first
  | (with_reducible exact ih0 _ _ _ _ _)
  | (with_reducible exact ih1 _ _ _ _ _)
  | (with_reducible exact ih2 _ _ _ _ _ _)
  | (with_reducible exact tallboyref02_Text.mono _ _)
  | (with_reducible exact tallboyref27_Find.mono _ _ _ _ _ _)
  | (with_reducible exact tallboyref27_form.mono _ _ _ _ _)
  | (with_reducible exact LeO.refl _)
  | (with_reducible exact LeO.none _)
  | (with_reducible refine LeO.ite ?_ ?_)
  | (with_reducible refine LeO.bind ?_ (fun _ => ?_))
  | exact ih0 _ _ _ _ _
  | exact ih1 _ _ _ _ _
  | exact ih2 _ _ _ _ _ _
  | exact tallboyref02_Text.mono _ _
  | exact tallboyref27_Find.mono _ _ _ _ _ _
  | exact tallboyref27_form.mono _ _ _ _ _
  | exact LeO.none _
  | refine LeO.ite ?_ ?_
  | refine LeO.bind ?_ (fun _ => ?_)
def tallboyref27_Write.T15 : Bool × List (List Nat × List Nat) := (true, [([], []), ([0], [0]), ([], []), ([2], [2]), ([], []), ([3, 4], [3, 4]), ([5], [5]), ([6], [6]), ([7], [7]), ([8], [8]), ([1, 9], [1, 9]), ([], []), ([11], [11]), ([], []), ([12, 13], [12, 13]), ([14], [14]), ([15], [15]), ([10, 16], [10, 16]), ([17, 0, 1, 2, 3, 4, 5, 6, 7, 8, 9, 10, 11, 12, 13, 14, 15, 16, 17], [0, 17])])
def tallboyref27_Write.B15 : List Nat := [0, 1, 0, 4, 0, 28, 60, 124, 252, 508, 1023, 0, 2048, 0, 14336, 30720, 63488, 131071, 262143]
theorem tallboyref27_Write.tab15 : rtab .any (opsOf Tryz.f12 15) = tallboyref27_Write.T15 := by kernel_rfl
theorem tallboyref27_Write.bits15 : waitsOk tallboyref27_Write.T15.2 tallboyref27_Write.B15 = true := by kernel_rfl
set_option maxHeartbeats 8000000 in
set_option maxRecDepth 100000 in
theorem tallboyref27_Write.calls (k : Nat) (a0_0 : Int) (a0_1 : ByteArray) (a0_2 : Int) (A0_3 : Option Addr) (c0_3 : Nat) (l0_3 : List (S59)) (r1 : ByteArray) (r2 : Int) (w : World) (hr0_3 : Kd.C k59 w A0_3 l0_3.length l0_3) (hc0_3 : l0_3.length ≤ c0_3) (h : tallboyref27_Write.f k a0_0 a0_1 a0_2 l0_3 = some (r1, r2)) :
 Calls Tryz.prog 12 #[.agg #[.int .i64 a0_0, .string a0_1, .int .i64 a0_2, .slice A0_3 l0_3.length c0_3]] w fun e w' => e = .returned (.tuple #[.string r1, .int .i64 r2]) ∧ Below w.heap.size w w' := by
 have hu24 := Tryz.underlying24
 have HR0_3 := Aside0.mk hr0_3
 have HC0_3 := Aside0.mk hc0_3
 clear hr0_3 hc0_3
 have HB := Aside0.mk (Below.refl w.heap.size w)
 have H : ((tallboyref27_form.f k a0_0 a0_1 a0_2 l0_3).bind fun t243 => (if t243 = 0 then ((tallboyref27_name.f a0_0).bind fun t244 => ((tallboyref27_Find.f k a0_0 a0_1 a0_2 l0_3 98).bind fun bt245 => (if a0_0 = 5 then (tallboyref27_Write.j0 k t244 a0_0 a0_1 a0_2 l0_3) else (if bt245.2 = true then (if t244.size + 1 ≤ 9223372036854775807 then ((tallboyref27_Encode.f a0_1).bind fun t247 => (if (t244 ++ (⟨#[32]⟩ : ByteArray)).size + t247.size ≤ 9223372036854775807 then (tallboyref27_Write.j0 k ((t244 ++ (⟨#[32]⟩ : ByteArray)) ++ t247) a0_0 a0_1 a0_2 l0_3) else (none))) else (none)) else (if t244.size + 1 ≤ 9223372036854775807 then (if (t244 ++ (⟨#[32]⟩ : ByteArray)).size + a0_1.size ≤ 9223372036854775807 then (tallboyref27_Write.j0 k ((t244 ++ (⟨#[32]⟩ : ByteArray)) ++ a0_1) a0_0 a0_1 a0_2 l0_3) else (none)) else (none)))))) else (some ((⟨#[]⟩ : ByteArray), t243)))) = some (r1, r2) := h
 clear h
 replace H := Option.bind_eq_some_iff.mp H
 obtain ⟨t243, A20, H⟩ := H
 replace H : (if t243 = 0 then ((tallboyref27_name.f a0_0).bind fun t244 => ((tallboyref27_Find.f k a0_0 a0_1 a0_2 l0_3 98).bind fun bt245 => (if a0_0 = 5 then (tallboyref27_Write.j0 k t244 a0_0 a0_1 a0_2 l0_3) else (if bt245.2 = true then (if t244.size + 1 ≤ 9223372036854775807 then ((tallboyref27_Encode.f a0_1).bind fun t247 => (if (t244 ++ (⟨#[32]⟩ : ByteArray)).size + t247.size ≤ 9223372036854775807 then (tallboyref27_Write.j0 k ((t244 ++ (⟨#[32]⟩ : ByteArray)) ++ t247) a0_0 a0_1 a0_2 l0_3) else (none))) else (none)) else (if t244.size + 1 ≤ 9223372036854775807 then (if (t244 ++ (⟨#[32]⟩ : ByteArray)).size + a0_1.size ≤ 9223372036854775807 then (tallboyref27_Write.j0 k ((t244 ++ (⟨#[32]⟩ : ByteArray)) ++ a0_1) a0_0 a0_1 a0_2 l0_3) else (none)) else (none)))))) else (some ((⟨#[]⟩ : ByteArray), t243))) = some (r1, r2) := H
 have A2 := Aside0.mk A20
 clear A20
 by_cases c3 : t243 = 0
 · rw [if_pos c3] at H
   have c3b0 : (t243 == 0) = true := beq_iff_eq.mpr c3
   have c3b1 : (t243 != 0) = false := bne_eq_false_iff_eq.mpr c3
   clear c3
   replace H := Option.bind_eq_some_iff.mp H
   obtain ⟨t244, A40, H⟩ := H
   replace H : ((tallboyref27_Find.f k a0_0 a0_1 a0_2 l0_3 98).bind fun bt245 => (if a0_0 = 5 then (tallboyref27_Write.j0 k t244 a0_0 a0_1 a0_2 l0_3) else (if bt245.2 = true then (if t244.size + 1 ≤ 9223372036854775807 then ((tallboyref27_Encode.f a0_1).bind fun t247 => (if (t244 ++ (⟨#[32]⟩ : ByteArray)).size + t247.size ≤ 9223372036854775807 then (tallboyref27_Write.j0 k ((t244 ++ (⟨#[32]⟩ : ByteArray)) ++ t247) a0_0 a0_1 a0_2 l0_3) else (none))) else (none)) else (if t244.size + 1 ≤ 9223372036854775807 then (if (t244 ++ (⟨#[32]⟩ : ByteArray)).size + a0_1.size ≤ 9223372036854775807 then (tallboyref27_Write.j0 k ((t244 ++ (⟨#[32]⟩ : ByteArray)) ++ a0_1) a0_0 a0_1 a0_2 l0_3) else (none)) else (none))))) = some (r1, r2) := H
   have A4 := Aside0.mk A40
   clear A40
   replace H := Option.bind_eq_some_iff.mp H
   obtain ⟨⟨t245, t246⟩, A50, H⟩ := H
   replace H : (if a0_0 = 5 then (tallboyref27_Write.j0 k t244 a0_0 a0_1 a0_2 l0_3) else (if t246 = true then (if t244.size + 1 ≤ 9223372036854775807 then ((tallboyref27_Encode.f a0_1).bind fun t247 => (if (t244 ++ (⟨#[32]⟩ : ByteArray)).size + t247.size ≤ 9223372036854775807 then (tallboyref27_Write.j0 k ((t244 ++ (⟨#[32]⟩ : ByteArray)) ++ t247) a0_0 a0_1 a0_2 l0_3) else (none))) else (none)) else (if t244.size + 1 ≤ 9223372036854775807 then (if (t244 ++ (⟨#[32]⟩ : ByteArray)).size + a0_1.size ≤ 9223372036854775807 then (tallboyref27_Write.j0 k ((t244 ++ (⟨#[32]⟩ : ByteArray)) ++ a0_1) a0_0 a0_1 a0_2 l0_3) else (none)) else (none)))) = some (r1, r2) := H
   have A5 := Aside0.mk A50
   clear A50
   have HC6 := Aside0.mk H
   clear H
   go_enter Tryz.func12, Tryz.ntmps12
   go_upto_block 0 with (first | ((with_reducible refine gate_dst (N := 1) rfl ?_); refine box_event ?hg (N := 1) ?hd (cs := #[.int .i64 a0_0, .string a0_1, .int .i64 a0_2, .slice A0_3 l0_3.length c0_3]) (t := 24) ?hr ?_; (case hd => rfl); (case hg => rfl); (case hr => first | (go_simp; done) | (go_simp; rfl)); intro gb242 hg w7 hbox hb; have n0_ := Aside0.mk (below_step (hbA HB.out) hb); have n1_ := Aside0.mk (hbox); have n2_ := Aside0.mk ((by rw [hg]; exact (below_size (hbA HB.out)) : w.heap.size ≤ gb242)); have n3_ := Aside0.mk ((by rw [hg]; exact (below_size (hbA HB.out)) : w.heap.size ≤ gb242)); clear HB; have HB := n0_; have BK242 := n1_; have GW242 := n2_; have GE242 := n3_; clear n0_ n1_ n2_ n3_; clear hb hbox hg; obtain ⟨hcz8_0, hcz8_1, hcz8_2, hcz8_3, hfz8_0, hfz8_1, hfz8_2, hfz8_3⟩ := blkA4 BK242.out) | ((with_reducible refine gate_callee (f := 32) rfl ?_); refine goesL_ (some 10) rfl rfl Tryz.func32 (by kernel_rfl) rfl #[.agg #[.int .i64 a0_0, .string a0_1, .int .i64 a0_2, .slice A0_3 l0_3.length c0_3]] rfl argA ?_; (with_reducible refine (tallboyref27_form.calls k a0_0 a0_1 a0_2 _ _ l0_3 t243 _ ?side1 ?side2 A2.out).mono ?_); (case side1 => repeat (first | exact (Kd.C_below HR0_3.out HB.out) | (with_reducible refine Kd.C_alloc ?_ _) | (with_reducible refine Kd.C_drewN ?_ _) | (with_reducible refine Kd.C_drew ?_))); (case side2 => exact HC0_3.out); rintro e w9 ⟨rfl, hb⟩; refine ⟨_, rfl, ?_⟩; replace BK242 := Aside0.mk (blk_below (g := gb242) (o := .cells #[.int .i64 a0_0, .string a0_1, .int .i64 a0_2, .slice A0_3 l0_3.length c0_3] 24 (0, 0)) (rbA BK242.out) hb); replace HB := Aside0.mk (below_step (hbA HB.out) hb); (try clear hb); (try clear hb2); (try clear hk); (try clear hi); obtain ⟨hcz10_0, hcz10_1, hcz10_2, hcz10_3, hfz10_0, hfz10_1, hfz10_2, hfz10_3⟩ := blkA4 BK242.out) | ((with_reducible refine gate_callee (f := 33) rfl ?_); refine goesL_ (some 16) rfl rfl Tryz.func33 (by kernel_rfl) rfl #[.int .i64 a0_0] rfl argA ?_; (with_reducible refine (tallboyref27_name.calls a0_0 t244 _ A4.out).mono ?_); rintro e w' ⟨rfl, ⟨nd, rfl⟩⟩; refine ⟨_, rfl, ?_⟩) | ((with_reducible refine gate_callee (f := 16) rfl ?_); refine goesL_ (some 19) rfl rfl Tryz.func16 (by kernel_rfl) rfl #[.agg #[.int .i64 a0_0, .string a0_1, .int .i64 a0_2, .slice A0_3 l0_3.length c0_3], .int .u8 98] rfl argA ?_; (with_reducible refine (tallboyref27_Find.calls k a0_0 a0_1 a0_2 _ _ l0_3 98 t245 t246 _ ?side1 ?side2 A5.out).mono ?_); (case side1 => repeat (first | exact (Kd.C_below HR0_3.out (hbA HB.out)) | (with_reducible refine Kd.C_alloc ?_ _) | (with_reducible refine Kd.C_drewN ?_ _) | (with_reducible refine Kd.C_drew ?_))); (case side2 => exact HC0_3.out); rintro e w11 ⟨rfl, hb⟩; refine ⟨_, rfl, ?_⟩; replace BK242 := Aside0.mk (blk_below (g := gb242) (o := .cells #[.int .i64 a0_0, .string a0_1, .int .i64 a0_2, .slice A0_3 l0_3.length c0_3] 24 (0, 0)) (rbA BK242.out) hb); replace HB := Aside0.mk (below_step (hbA HB.out) hb); (try clear hb); (try clear hb2); (try clear hk); (try clear hi)))
   (try simp only [Act.put, List.setIfInBounds_toArray, List.set_cons_zero, List.set_cons_succ])
   go_cut [5] (fun v5 wc => ∃ (kq : Nat) (x5_5 : ByteArray), v5 = .string x5_5 ∧ Aside0 (tallboyref27_Write.j0 kq x5_5 a0_0 a0_1 a0_2 l0_3 = some (r1, r2)) ∧ Aside0 (kq ≤ k) ∧ Aside0 (wc.heap[gb242]? = some (.cells #[.int .i64 a0_0, .string a0_1, .int .i64 a0_2, (.slice A0_3 l0_3.length c0_3)] 24 (0, 0))) ∧ Aside0 (Below w.heap.size w wc))
   case first =>
    have H := HC6.out
    clear HC6
    by_cases c12 : a0_0 = 5
    · rw [if_pos c12] at H
      have c12b0 : (a0_0 == 5) = true := beq_iff_eq.mpr c12
      have c12b1 : (a0_0 != 5) = false := bne_eq_false_iff_eq.mpr c12
      clear c12
      (first | rw [c12b0] | (simp only [i64_w, i32_w]; rw [c12b0]) | skip)
      have H' := Aside0.mk H
      clear H
      obtain ⟨hcz13_0, hcz13_1, hcz13_2, hcz13_3, hfz13_0, hfz13_1, hfz13_2, hfz13_3⟩ := blkA4 BK242.out
      go_wp2
      go_meet
      case rel => exact ⟨_, (t244), rsA, H', ⟨by first | omega | exact Nat.le_refl _⟩, ⟨rbA BK242.out⟩, ⟨hbA HB.out⟩⟩
    rw [if_neg c12] at H
    have c12b0 : (a0_0 == 5) = false := beq_eq_false_iff_ne.mpr c12
    have c12b1 : (a0_0 != 5) = true := bne_iff_ne.mpr c12
    (first | rw [c12b0] | (simp only [i64_w, i32_w]; rw [c12b0]) | skip)
    by_cases c14 : t246 = true
    · subst c14
      have H1 : (if t244.size + 1 ≤ 9223372036854775807 then ((tallboyref27_Encode.f a0_1).bind fun t247 => (if (t244 ++ (⟨#[32]⟩ : ByteArray)).size + t247.size ≤ 9223372036854775807 then (tallboyref27_Write.j0 k ((t244 ++ (⟨#[32]⟩ : ByteArray)) ++ t247) a0_0 a0_1 a0_2 l0_3) else (none))) else (none)) = some (r1, r2) := by rw [if_pos rfl] at H; exact H
      clear H
      have H := H1
      clear H1
      by_cases c15 : t244.size + 1 ≤ 9223372036854775807
      · rw [if_pos c15] at H
        have c15b0 := eq_true c15
        have c15b1 : decide (t244.size + 1 ≤ 9223372036854775807) = true := decide_eq_true c15
        try have c15b2 : (9223372036854775807 < t244.size + 1) = False := eq_false (Nat.not_lt.2 c15)
        replace H := Option.bind_eq_some_iff.mp H
        obtain ⟨t247, A160, H⟩ := H
        replace H : (if (t244 ++ (⟨#[32]⟩ : ByteArray)).size + t247.size ≤ 9223372036854775807 then (tallboyref27_Write.j0 k ((t244 ++ (⟨#[32]⟩ : ByteArray)) ++ t247) a0_0 a0_1 a0_2 l0_3) else (none)) = some (r1, r2) := H
        have A16 := Aside0.mk A160
        clear A160
        by_cases c17 : (t244 ++ (⟨#[32]⟩ : ByteArray)).size + t247.size ≤ 9223372036854775807
        · rw [if_pos c17] at H
          have c17b0 := eq_true c17
          have c17b1 : decide ((t244 ++ (⟨#[32]⟩ : ByteArray)).size + t247.size ≤ 9223372036854775807) = true := decide_eq_true c17
          try have c17b2 : (9223372036854775807 < (t244 ++ (⟨#[32]⟩ : ByteArray)).size + t247.size) = False := eq_false (Nat.not_lt.2 c17)
          try (have c17b3 := c17b2; simp only [ByteArray.size_append', ByteArray.size_mk', List.size_toArray, List.length_cons, List.length_nil, Nat.reduceAdd] at c17b3)
          have H' := Aside0.mk H
          clear H
          obtain ⟨hcz18_0, hcz18_1, hcz18_2, hcz18_3, hfz18_0, hfz18_1, hfz18_2, hfz18_3⟩ := blkA4 BK242.out
          go_wp2_with (first | ((with_reducible refine gate_callee (f := 34) rfl ?_); refine goesL_ (some 37) rfl rfl Tryz.func34 (by kernel_rfl) rfl #[.string a0_1] rfl argA ?_; (with_reducible refine (tallboyref27_Encode.calls a0_1 t247 _ A16.out).mono ?_); rintro e w19 ⟨rfl, hb⟩; refine ⟨_, rfl, ?_⟩; replace BK242 := Aside0.mk (blk_below (g := gb242) (o := .cells #[.int .i64 a0_0, .string a0_1, .int .i64 a0_2, .slice A0_3 l0_3.length c0_3] 24 (0, 0)) (rbA BK242.out) hb); replace HB := Aside0.mk (below_step (hbA HB.out) hb); (try clear hb); (try clear hb2); (try clear hk); (try clear hi)))
          go_meet
          case rel => exact ⟨_, ((t244 ++ (⟨#[32]⟩ : ByteArray)) ++ t247), rsA, H', ⟨by first | omega | exact Nat.le_refl _⟩, ⟨rbA BK242.out⟩, ⟨hbA HB.out⟩⟩
        rw [if_neg c17] at H
        exact absurd H (by simp)
      rw [if_neg c15] at H
      exact absurd H (by simp)
    replace c14 := Bool.eq_false_iff.mpr c14
    subst c14
    have H1 : (if t244.size + 1 ≤ 9223372036854775807 then (if (t244 ++ (⟨#[32]⟩ : ByteArray)).size + a0_1.size ≤ 9223372036854775807 then (tallboyref27_Write.j0 k ((t244 ++ (⟨#[32]⟩ : ByteArray)) ++ a0_1) a0_0 a0_1 a0_2 l0_3) else (none)) else (none)) = some (r1, r2) := by rw [if_neg (show ¬ (false = true) by decide)] at H; exact H
    clear H
    have H := H1
    clear H1
    by_cases c20 : t244.size + 1 ≤ 9223372036854775807
    · rw [if_pos c20] at H
      have c20b0 := eq_true c20
      have c20b1 : decide (t244.size + 1 ≤ 9223372036854775807) = true := decide_eq_true c20
      try have c20b2 : (9223372036854775807 < t244.size + 1) = False := eq_false (Nat.not_lt.2 c20)
      by_cases c21 : (t244 ++ (⟨#[32]⟩ : ByteArray)).size + a0_1.size ≤ 9223372036854775807
      · rw [if_pos c21] at H
        have c21b0 := eq_true c21
        have c21b1 : decide ((t244 ++ (⟨#[32]⟩ : ByteArray)).size + a0_1.size ≤ 9223372036854775807) = true := decide_eq_true c21
        try have c21b2 : (9223372036854775807 < (t244 ++ (⟨#[32]⟩ : ByteArray)).size + a0_1.size) = False := eq_false (Nat.not_lt.2 c21)
        try (have c21b3 := c21b2; simp only [ByteArray.size_append', ByteArray.size_mk', List.size_toArray, List.length_cons, List.length_nil, Nat.reduceAdd] at c21b3)
        have H' := Aside0.mk H
        clear H
        obtain ⟨hcz22_0, hcz22_1, hcz22_2, hcz22_3, hfz22_0, hfz22_1, hfz22_2, hfz22_3⟩ := blkA4 BK242.out
        go_wp2
        go_meet
        case rel => exact ⟨_, ((t244 ++ (⟨#[32]⟩ : ByteArray)) ++ a0_1), rsA, H', ⟨by first | omega | exact Nat.le_refl _⟩, ⟨rbA BK242.out⟩, ⟨hbA HB.out⟩⟩
      rw [if_neg c21] at H
      exact absurd H (by simp)
    rw [if_neg c20] at H
    exact absurd H (by simp)
   clear HC6
   (try clear c1); (try clear c2); (try clear p2); (try clear c3); (try clear c3b0); (try clear c3b1); (try clear c12); (try clear c12b0); (try clear c12b1); (try clear c14); (try clear c15); (try clear c15b0); (try clear c15b1); (try clear c15b2); (try clear c15b3); (try clear c16); (try clear c17); (try clear c17b0); (try clear c17b1); (try clear c17b2); (try clear c17b3); (try clear c20); (try clear c20b0); (try clear c20b1); (try clear c20b2); (try clear c20b3); (try clear c21); (try clear c21b0); (try clear c21b1); (try clear c21b2); (try clear c21b3); (try clear hcz10_0 hcz10_1 hcz10_2 hcz10_3); (try clear hcz13_0 hcz13_1 hcz13_2 hcz13_3); (try clear hcz18_0 hcz18_1 hcz18_2 hcz18_3); (try clear hcz22_0 hcz22_1 hcz22_2 hcz22_3); (try clear hcz8_0 hcz8_1 hcz8_2 hcz8_3); (try clear hfz10_0 hfz10_1 hfz10_2 hfz10_3); (try clear hfz13_0 hfz13_1 hfz13_2 hfz13_3); (try clear hfz18_0 hfz18_1 hfz18_2 hfz18_3); (try clear hfz22_0 hfz22_1 hfz22_2 hfz22_3); (try clear hfz8_0 hfz8_1 hfz8_2 hfz8_3)
   obtain ⟨kq, x5_5, rfl, HA, HJ5, BK242, HB⟩ := hcut
   cases kq with
   | zero => exact absurd HA.out (by simp [tallboyref27_Write.j0])
   | succ kj5 =>
    have H := HA.out
    clear HA
    simp only [tallboyref27_Write.j0] at H
    have HC23 := Aside0.mk H
    clear H
    obtain ⟨hcz24_0, hcz24_1, hcz24_2, hcz24_3, hfz24_0, hfz24_1, hfz24_2, hfz24_3⟩ := blkA4 BK242.out
    go_upto_if 41 with (fail)
    go_cut [5] (fun v5 wc => ∃ (kq : Nat) (x5_22 : ByteArray), v5 = .string x5_22 ∧ Aside0 (tallboyref27_Write.j1 kq x5_22 a0_0 a0_1 a0_2 l0_3 = some (r1, r2)) ∧ Aside0 (kq ≤ kj5) ∧ Aside0 (wc.heap[gb242]? = some (.cells #[.int .i64 a0_0, .string a0_1, .int .i64 a0_2, (.slice A0_3 l0_3.length c0_3)] 24 (0, 0))) ∧ Aside0 (Below w.heap.size w wc))
    case first =>
     have H := HC23.out
     clear HC23
     by_cases c25 : a0_0 = 2
     · rw [if_pos c25] at H
       have c25b0 : (a0_0 == 2) = true := beq_iff_eq.mpr c25
       have c25b1 : (a0_0 != 2) = false := bne_eq_false_iff_eq.mpr c25
       clear c25
       (first | rw [c25b0] | (simp only [i64_w, i32_w]; rw [c25b0]) | skip)
       by_cases c26 : x5_5.size + 1 ≤ 9223372036854775807
       · rw [if_pos c26] at H
         have c26b0 := eq_true c26
         have c26b1 : decide (x5_5.size + 1 ≤ 9223372036854775807) = true := decide_eq_true c26
         try have c26b2 : (9223372036854775807 < x5_5.size + 1) = False := eq_false (Nat.not_lt.2 c26)
         replace H := Option.bind_eq_some_iff.mp H
         obtain ⟨t248, A270, H⟩ := H
         replace H : (if (x5_5 ++ (⟨#[32]⟩ : ByteArray)).size + t248.size ≤ 9223372036854775807 then (tallboyref27_Write.j1 kj5 ((x5_5 ++ (⟨#[32]⟩ : ByteArray)) ++ t248) a0_0 a0_1 a0_2 l0_3) else (none)) = some (r1, r2) := H
         have A27 := Aside0.mk A270
         clear A270
         by_cases c28 : (x5_5 ++ (⟨#[32]⟩ : ByteArray)).size + t248.size ≤ 9223372036854775807
         · rw [if_pos c28] at H
           have c28b0 := eq_true c28
           have c28b1 : decide ((x5_5 ++ (⟨#[32]⟩ : ByteArray)).size + t248.size ≤ 9223372036854775807) = true := decide_eq_true c28
           try have c28b2 : (9223372036854775807 < (x5_5 ++ (⟨#[32]⟩ : ByteArray)).size + t248.size) = False := eq_false (Nat.not_lt.2 c28)
           try (have c28b3 := c28b2; simp only [ByteArray.size_append', ByteArray.size_mk', List.size_toArray, List.length_cons, List.length_nil, Nat.reduceAdd] at c28b3)
           have H' := Aside0.mk H
           clear H
           obtain ⟨hcz29_0, hcz29_1, hcz29_2, hcz29_3, hfz29_0, hfz29_1, hfz29_2, hfz29_3⟩ := blkA4 BK242.out
           go_wp2_with (first | ((with_reducible refine gate_callee (f := 35) rfl ?_); refine goesL_ (some 47) rfl rfl Tryz.func35 (by kernel_rfl) rfl #[.int .u64 (IntKind.u64.wrap (a0_2))] rfl argA ?_; (with_reducible refine (tallboyref02_Text.calls kj5 (IntKind.u64.wrap (a0_2)) t248 _ A27.out).mono ?_); rintro e w30 ⟨rfl, hb⟩; refine ⟨_, rfl, ?_⟩; replace BK242 := Aside0.mk (blk_below (g := gb242) (o := .cells #[.int .i64 a0_0, .string a0_1, .int .i64 a0_2, .slice A0_3 l0_3.length c0_3] 24 (0, 0)) (rbA BK242.out) hb); replace HB := Aside0.mk (below_step (hbA HB.out) hb); (try clear hb); (try clear hb2); (try clear hk); (try clear hi)))
           go_meet
           case rel => exact ⟨_, ((x5_5 ++ (⟨#[32]⟩ : ByteArray)) ++ t248), rsA, H', ⟨by have := HJ5.out; first | omega | exact Nat.le_refl _⟩, ⟨rbA BK242.out⟩, ⟨hbA HB.out⟩⟩
         rw [if_neg c28] at H
         exact absurd H (by simp)
       rw [if_neg c26] at H
       exact absurd H (by simp)
     rw [if_neg c25] at H
     have c25b0 : (a0_0 == 2) = false := beq_eq_false_iff_ne.mpr c25
     have c25b1 : (a0_0 != 2) = true := bne_iff_ne.mpr c25
     (first | rw [c25b0] | (simp only [i64_w, i32_w]; rw [c25b0]) | skip)
     have H' := Aside0.mk H
     clear H
     go_wp2
     go_meet
     case rel => exact ⟨_, (x5_5), rsA, H', ⟨by have := HJ5.out; first | omega | exact Nat.le_refl _⟩, ⟨rbA BK242.out⟩, ⟨hbA HB.out⟩⟩
    clear HC23
    (try clear c1); (try clear c2); (try clear p2); (try clear c3); (try clear c3b0); (try clear c3b1); (try clear c12); (try clear c12b0); (try clear c12b1); (try clear c14); (try clear c15); (try clear c15b0); (try clear c15b1); (try clear c15b2); (try clear c15b3); (try clear c16); (try clear c17); (try clear c17b0); (try clear c17b1); (try clear c17b2); (try clear c17b3); (try clear c20); (try clear c20b0); (try clear c20b1); (try clear c20b2); (try clear c20b3); (try clear c21); (try clear c21b0); (try clear c21b1); (try clear c21b2); (try clear c21b3); (try clear c25); (try clear c25b0); (try clear c25b1); (try clear c26); (try clear c26b0); (try clear c26b1); (try clear c26b2); (try clear c26b3); (try clear c28); (try clear c28b0); (try clear c28b1); (try clear c28b2); (try clear c28b3); (try clear hcz10_0 hcz10_1 hcz10_2 hcz10_3); (try clear hcz13_0 hcz13_1 hcz13_2 hcz13_3); (try clear hcz18_0 hcz18_1 hcz18_2 hcz18_3); (try clear hcz22_0 hcz22_1 hcz22_2 hcz22_3); (try clear hcz24_0 hcz24_1 hcz24_2 hcz24_3); (try clear hcz29_0 hcz29_1 hcz29_2 hcz29_3); (try clear hcz8_0 hcz8_1 hcz8_2 hcz8_3); (try clear hfz10_0 hfz10_1 hfz10_2 hfz10_3); (try clear hfz13_0 hfz13_1 hfz13_2 hfz13_3); (try clear hfz18_0 hfz18_1 hfz18_2 hfz18_3); (try clear hfz22_0 hfz22_1 hfz22_2 hfz22_3); (try clear hfz24_0 hfz24_1 hfz24_2 hfz24_3); (try clear hfz29_0 hfz29_1 hfz29_2 hfz29_3); (try clear hfz8_0 hfz8_1 hfz8_2 hfz8_3); (try clear p2)
    obtain ⟨kq, x5_22, rfl, HA, HJ22, BK242, HB⟩ := hcut
    cases kq with
    | zero => exact absurd HA.out (by simp [tallboyref27_Write.j1])
    | succ kj22 =>
     have H := HA.out
     clear HA
     simp only [tallboyref27_Write.j1] at H
     have H' := Aside0.mk H
     clear H
     go_wp2
     go_loopg [5, 8] kj22 (fun kq v5 v8 w' => ∃ (x5_3 : ByteArray) (x8_3 : Int), v5 = .string x5_3 ∧ v8 = .int .i64 x8_3 ∧ Aside0 (tallboyref27_Write.l0 kq x5_3 x8_3 a0_0 a0_1 a0_2 l0_3 = some (r1, r2)) ∧ Aside0 (kq ≤ kj22) ∧ Aside0 (w'.heap[gb242]? = some (.cells #[.int .i64 a0_0, .string a0_1, .int .i64 a0_2, (.slice A0_3 l0_3.length c0_3)] 24 (0, 0))) ∧ Aside0 (Below w.heap.size w w'))
     case atStart => exact ⟨(x5_22), (0), rsA, rsA, H', ⟨Nat.le_refl _⟩, ⟨rbA BK242.out⟩, ⟨hbA HB.out⟩⟩
     case round =>
      clear H'
      (try clear c1); (try clear c2); (try clear p2); (try clear c3); (try clear c3b0); (try clear c3b1); (try clear c12); (try clear c12b0); (try clear c12b1); (try clear c14); (try clear c15); (try clear c15b0); (try clear c15b1); (try clear c15b2); (try clear c15b3); (try clear c16); (try clear c17); (try clear c17b0); (try clear c17b1); (try clear c17b2); (try clear c17b3); (try clear c20); (try clear c20b0); (try clear c20b1); (try clear c20b2); (try clear c20b3); (try clear c21); (try clear c21b0); (try clear c21b1); (try clear c21b2); (try clear c21b3); (try clear c25); (try clear c25b0); (try clear c25b1); (try clear c26); (try clear c26b0); (try clear c26b1); (try clear c26b2); (try clear c26b3); (try clear c28); (try clear c28b0); (try clear c28b1); (try clear c28b2); (try clear c28b3); (try clear hcz10_0 hcz10_1 hcz10_2 hcz10_3); (try clear hcz13_0 hcz13_1 hcz13_2 hcz13_3); (try clear hcz18_0 hcz18_1 hcz18_2 hcz18_3); (try clear hcz22_0 hcz22_1 hcz22_2 hcz22_3); (try clear hcz24_0 hcz24_1 hcz24_2 hcz24_3); (try clear hcz29_0 hcz29_1 hcz29_2 hcz29_3); (try clear hcz8_0 hcz8_1 hcz8_2 hcz8_3); (try clear hfz10_0 hfz10_1 hfz10_2 hfz10_3); (try clear hfz13_0 hfz13_1 hfz13_2 hfz13_3); (try clear hfz18_0 hfz18_1 hfz18_2 hfz18_3); (try clear hfz22_0 hfz22_1 hfz22_2 hfz22_3); (try clear hfz24_0 hfz24_1 hfz24_2 hfz24_3); (try clear hfz29_0 hfz29_1 hfz29_2 hfz29_3); (try clear hfz8_0 hfz8_1 hfz8_2 hfz8_3); (try clear p2)
      obtain ⟨x5_3, x8_3, rfl, rfl, HA, HK3, BK242, HB⟩ := hrel
      cases gk with
      | zero => exact absurd HA.out (by simp [tallboyref27_Write.l0])
      | succ k3 =>
       have H := HA.out
       clear HA
       simp only [tallboyref27_Write.l0] at H
       by_cases c31 : x8_3 < (l0_3.length : Int)
       · rw [if_pos c31] at H
         have c31b0 : decide (x8_3 < (l0_3.length : Int)) = true := decide_eq_true c31
         clear c31
         by_cases c32 : x5_3.size + 1 ≤ 9223372036854775807
         · rw [if_pos c32] at H
           have c32b0 := eq_true c32
           have c32b1 : decide (x5_3.size + 1 ≤ 9223372036854775807) = true := decide_eq_true c32
           try have c32b2 : (9223372036854775807 < x5_3.size + 1) = False := eq_false (Nat.not_lt.2 c32)
           by_cases c33 : 0 ≤ x8_3
           · rw [if_pos c33] at H
             have c33b0 : decide (0 ≤ x8_3) = true := decide_eq_true c33
             clear c33
             obtain ⟨y250, hy250⟩ : ∃ y_ : List Int, y_ = (([(rd_T59 l0_3 x8_3).f0] : List Int)) := ⟨_, rfl⟩
             replace H : (if (x5_3 ++ (⟨#[32]⟩ : ByteArray)).size + (strOfNums y250).size ≤ 9223372036854775807 then (if ((x5_3 ++ (⟨#[32]⟩ : ByteArray)) ++ (strOfNums y250)).size + ((rd_T59 l0_3 x8_3).f1).size ≤ 9223372036854775807 then (tallboyref27_Write.l0 k3 (((x5_3 ++ (⟨#[32]⟩ : ByteArray)) ++ (strOfNums y250)) ++ ((rd_T59 l0_3 x8_3).f1)) (wrap64 (x8_3 + 1)) a0_0 a0_1 a0_2 l0_3) else (none)) else (none)) = some (r1, r2) := by first | (rw [hy250]; with_reducible exact H) | (have H2_ := (Option.bind_some _ _).symm.trans H; rw [hy250]; with_reducible exact H2_) | (have H2_ := (Option.bind_some _ _).symm.trans H; with_reducible exact H2_) | with_reducible exact H | (rw [hy250]; exact H) | exact H
             have Ny250 := Aside0.mk hy250
             clear hy250
             by_cases c34 : (x5_3 ++ (⟨#[32]⟩ : ByteArray)).size + (strOfNums y250).size ≤ 9223372036854775807
             · rw [if_pos c34] at H
               have c34b0 := eq_true c34
               have c34b1 : decide ((x5_3 ++ (⟨#[32]⟩ : ByteArray)).size + (strOfNums y250).size ≤ 9223372036854775807) = true := decide_eq_true c34
               try have c34b2 : (9223372036854775807 < (x5_3 ++ (⟨#[32]⟩ : ByteArray)).size + (strOfNums y250).size) = False := eq_false (Nat.not_lt.2 c34)
               try (have c34b3 := c34b2; simp only [ByteArray.size_append', ByteArray.size_mk', List.size_toArray, List.length_cons, List.length_nil, Nat.reduceAdd] at c34b3)
               by_cases c35 : ((x5_3 ++ (⟨#[32]⟩ : ByteArray)) ++ (strOfNums y250)).size + ((rd_T59 l0_3 x8_3).f1).size ≤ 9223372036854775807
               · rw [if_pos c35] at H
                 have c35b0 := eq_true c35
                 have c35b1 : decide (((x5_3 ++ (⟨#[32]⟩ : ByteArray)) ++ (strOfNums y250)).size + ((rd_T59 l0_3 x8_3).f1).size ≤ 9223372036854775807) = true := decide_eq_true c35
                 try have c35b2 : (9223372036854775807 < ((x5_3 ++ (⟨#[32]⟩ : ByteArray)) ++ (strOfNums y250)).size + ((rd_T59 l0_3 x8_3).f1).size) = False := eq_false (Nat.not_lt.2 c35)
                 try (have c35b3 := c35b2; simp only [ByteArray.size_append', ByteArray.size_mk', List.size_toArray, List.length_cons, List.length_nil, Nat.reduceAdd] at c35b3)
                 have H' := Aside0.mk H
                 clear H
                 obtain ⟨hcz36_0, hcz36_1, hcz36_2, hcz36_3, hfz36_0, hfz36_1, hfz36_2, hfz36_3⟩ := blkA4 BK242.out
                 try go_wp2
                 replace BK242 := Aside0.mk (blk_drew BK242.out)
                 replace HB := Aside0.mk (below_drew1 HB.out)
                 have p249 : 0 ≤ (x8_3 : Int) := of_decide_eq_true asA
                 have q249 : x8_3 < (l0_3.length : Int) := of_decide_eq_true asA
                 obtain ⟨ad249, e249, hx249_0, hx249_1⟩ := at_T59 HR0_3.out x8_3 p249 q249
                 have hw249_1 := hx249_1
                 have hw249_0 := hx249_0
                 cases e249
                 replace hx249_0 := (HB.out.cell (World.block_lt_of_cell? w _ hx249_0)).trans hx249_0
                 replace hx249_1 := (HB.out.cell (World.block_lt_of_cell? w _ hx249_1)).trans hx249_1
                 replace p249 := eq_true p249
                 replace q249 := eq_true q249
                 have p253 : 0 ≤ (x8_3 : Int) := of_decide_eq_true asA
                 have q253 : x8_3 < (l0_3.length : Int) := of_decide_eq_true asA
                 obtain ⟨ad253, e253, hx253_0, hx253_1⟩ := at_T59 HR0_3.out x8_3 p253 q253
                 have hw253_1 := hx253_1
                 have hw253_0 := hx253_0
                 obtain rfl : ad249 = ad253 := (by injection e253)
                 replace hx253_0 := (HB.out.cell (World.block_lt_of_cell? w _ hx253_0)).trans hx253_0
                 replace hx253_1 := (HB.out.cell (World.block_lt_of_cell? w _ hx253_1)).trans hx253_1
                 replace p253 := eq_true p253
                 replace q253 := eq_true q253
                 refine start_ (n := 19) (S := fun w' => w'.cell? ⟨gb242, 0, none⟩ = some (.int .i64 a0_0) ∧ w'.cell? ⟨gb242, 1, none⟩ = some (.string a0_1) ∧ w'.cell? ⟨gb242, 2, none⟩ = some (.int .i64 a0_2) ∧ w'.cell? ⟨gb242, 3, none⟩ = some (.slice (some ad249) l0_3.length c0_3) ∧ w'.cell? (ad249.add ((x8_3).toNat * 2)) = some (.int .u8 ((rd_T59 l0_3 x8_3).f0)) ∧ w'.cell? ⟨(ad249.add ((x8_3).toNat * 2)).block, (ad249.add ((x8_3).toNat * 2)).off + 1, none⟩ = some (.string ((rd_T59 l0_3 x8_3).f1)) ∧ w'.cell? (ad249.add ((x8_3).toNat * 2)) = some (.int .u8 ((rd_T59 l0_3 x8_3).f0)) ∧ w'.cell? ⟨(ad249.add ((x8_3).toNat * 2)).block, (ad249.add ((x8_3).toNat * 2)).off + 1, none⟩ = some (.string ((rd_T59 l0_3 x8_3).f1))) (ds := []) #[false, false, false, false, false, false, false, false, false, false, false, false, false, false, false, false, false, false, false] (by kernel_rfl) rfl rfl ⟨(blk_cell BK242.out 0).trans rfl, (blk_cell BK242.out 1).trans rfl, (blk_cell BK242.out 2).trans rfl, (blk_cell BK242.out 3).trans rfl, ((HB.out.cell (World.block_lt_of_cell? w _ hw249_0)).trans hw249_0), ((HB.out.cell (World.block_lt_of_cell? w _ hw249_1)).trans hw249_1), ((HB.out.cell (World.block_lt_of_cell? w _ hw253_0)).trans hw253_0), ((HB.out.cell (World.block_lt_of_cell? w _ hw253_1)).trans hw253_1)⟩ (fun hHeld => ?_); refine with_tabW tallboyref27_Write.tab15 tallboyref27_Write.bits15 (fun HT_ HW_ => ?_)
                 generalize wr.drew = w37 at BK242 HB hx249_0 hx249_1 hx253_0 hx253_1 hHeld ⊢
                 refine pureA_ (i := 0) (N := some 56) #[true, false, false, false, false, false, false, false, false, false, false, false, false, false, false, false, false, false, false] rfl rfl ?_ (hc := any_of HT_.out (by kernel_rfl))
                 refine pureA_ (i := 1) (N := some 57) #[true, true, false, false, false, false, false, false, false, false, false, false, false, false, false, false, false, false, false] rfl rfl ?_ (hc := any_of HT_.out (by kernel_rfl))
                 refine pureA_ (i := 2) (N := some 58) #[true, true, true, false, false, false, false, false, false, false, false, false, false, false, false, false, false, false, false] rfl rfl ?_ (hc := any_of HT_.out (by kernel_rfl))
                 refine pureA_ (i := 4) (N := some 60) #[true, true, true, false, true, false, false, false, false, false, false, false, false, false, false, false, false, false, false] rfl rfl ?_ (hc := any_of HT_.out (by kernel_rfl))
                 refine pureA_ (i := 11) (N := some 67) #[true, true, true, false, true, false, false, false, false, false, false, true, false, false, false, false, false, false, false] rfl rfl ?_ (hc := any_of HT_.out (by kernel_rfl))
                 refine pureA_ (i := 13) (N := some 69) #[true, true, true, false, true, false, false, false, false, false, false, true, false, true, false, false, false, false, false] rfl rfl ?_ (hc := any_of HT_.out (by kernel_rfl))
                 refine takeA_ (i := 3) (N := some 59) #[true, true, true, true, true, false, false, false, false, false, false, true, false, true, false, false, false, false, false] rfl rfl hHeld ?_ (hc := take_ofW HT_.out HW_.out (by kernel_rfl)) (hy := by rintro w' ⟨s0, s1, s2, s3, s4, s5, s6, s7⟩; go_simp; with_reducible rfl)
                 refine pureA_ (i := 5) (N := some 61) #[true, true, true, true, true, true, false, false, false, false, false, true, false, true, false, false, false, false, false] rfl rfl ?_ (hc := any_of HT_.out (by kernel_rfl))
                 refine pureA_ (i := 6) (N := some 62) #[true, true, true, true, true, true, true, false, false, false, false, true, false, true, false, false, false, false, false] rfl rfl ?_ (hc := any_of HT_.out (by kernel_rfl))
                 refine takeA_ (i := 7) (N := some 63) #[true, true, true, true, true, true, true, true, false, false, false, true, false, true, false, false, false, false, false] rfl rfl hHeld ?_ (hc := take_ofW HT_.out HW_.out (by kernel_rfl)) (hy := by rintro w' ⟨s0, s1, s2, s3, s4, s5, s6, s7⟩; go_simp; with_reducible rfl)
                 refine takeA_ (i := 12) (N := some 68) #[true, true, true, true, true, true, true, true, false, false, false, true, true, true, false, false, false, false, false] rfl rfl hHeld ?_ (hc := take_ofW HT_.out HW_.out (by kernel_rfl)) (hy := by rintro w' ⟨s0, s1, s2, s3, s4, s5, s6, s7⟩; go_simp; with_reducible rfl)
                 refine pureA_ (i := 14) (N := some 70) #[true, true, true, true, true, true, true, true, false, false, false, true, true, true, true, false, false, false, false] rfl rfl ?_ (hc := any_of HT_.out (by kernel_rfl))
                 refine pureA_ (i := 15) (N := some 71) #[true, true, true, true, true, true, true, true, false, false, false, true, true, true, true, true, false, false, false] rfl rfl ?_ (hc := any_of HT_.out (by kernel_rfl))
                 refine takeA_ (i := 16) (N := some 72) #[true, true, true, true, true, true, true, true, false, false, false, true, true, true, true, true, true, false, false] rfl rfl hHeld ?_ (hc := take_ofW HT_.out HW_.out (by kernel_rfl)) (hy := by rintro w' ⟨s0, s1, s2, s3, s4, s5, s6, s7⟩; go_simp; with_reducible rfl)
                 refine one_ (i := 8) (N := some 64) #[true, true, true, true, true, true, true, true, true, false, false, true, true, true, true, true, true, false, false] rfl rfl (one_of HT_.out (by kernel_rfl)) (by decide) (fun K hK => ?_)
                 refine Kd.R_lit_step (Kd.int .u8) _ 5 ?hg (N := 64) ?hd (xs := ([(rd_T59 l0_3 x8_3).f0] : List Int)) (inner := [.int .u8 ((rd_T59 l0_3 x8_3).f0)]) (ok := fun _ => True) (okp := fun _ => True) ?hr ?hp (fun _ hk => hk) trivial (Below.refl _ _) (Nat.le_refl _) (by simp) ?_; (case hd => rfl); (case hg => rfl); (case hr => first | (go_simp; done) | (go_simp; rfl)); (case hp => exact (Reps.one (show Kd.M (Kd.int .u8) _ _ _ ((rd_T59 l0_3 x8_3).f0) [.int .u8 ((rd_T59 l0_3 x8_3).f0)] from rfl) (Reps.none _ _)))
                 intro v251 w38 ho39 hb hg_ hnew_
                 clear hg_ hnew_
                 (first | rw [← Ny250.out] at ho39 | (simp only [Int.reduceToNat] at ho39; rw [← Ny250.out] at ho39))
                 have n0_ := Aside0.mk (Kd.R_lower ho39 (below_size (hbA HB.out)))
                 have n1_ := Aside0.mk (blk_below (g := gb242) (o := .cells #[.int .i64 a0_0, .string a0_1, .int .i64 a0_2, .slice (some ad249) l0_3.length c0_3] 24 (0, 0)) (rbA BK242.out) hb)
                 have n2_ := Aside0.mk (below_step (hbA HB.out) hb)
                 clear BK242
                 clear HB
                 have HO252 := n0_
                 have BK242 := n1_
                 have HB := n2_
                 clear n0_ n1_ n2_
                 clear hb ho39
                 refine hK.out _ _ ⟨(blk_cell BK242.out 0).trans rfl, (blk_cell BK242.out 1).trans rfl, (blk_cell BK242.out 2).trans rfl, (blk_cell BK242.out 3).trans rfl, ((HB.out.cell (World.block_lt_of_cell? w _ hw249_0)).trans hw249_0), ((HB.out.cell (World.block_lt_of_cell? w _ hw249_1)).trans hw249_1), ((HB.out.cell (World.block_lt_of_cell? w _ hw253_0)).trans hw253_0), ((HB.out.cell (World.block_lt_of_cell? w _ hw253_1)).trans hw253_1)⟩ (fun hHeld => ?_)
                 clear hK K
                 refine normA_ ?_
                 refine one_ (i := 9) (N := some 65) #[true, true, true, true, true, true, true, true, true, true, false, true, true, true, true, true, true, false, false] rfl rfl (one_of HT_.out (by kernel_rfl)) (by decide) (fun K hK => ?_)
                 have hcv40 := own_string (P := Tryz.prog) Tryz.underlying70 Tryz.underlying5 Tryz.underlying9 (Kd.own_of_R HO252.out)
                 refine value_ (w1 := ?_) (v := ?_) (by rfl) rfl ?_ ?_
                 rotate_left 2
                 · go_simp
                   constructor
                   · rfl
                   rfl
                 clear hcv40
                 refine hK.out _ _ ⟨(blk_cell BK242.out 0).trans rfl, (blk_cell BK242.out 1).trans rfl, (blk_cell BK242.out 2).trans rfl, (blk_cell BK242.out 3).trans rfl, ((HB.out.cell (World.block_lt_of_cell? w _ hw249_0)).trans hw249_0), ((HB.out.cell (World.block_lt_of_cell? w _ hw249_1)).trans hw249_1), ((HB.out.cell (World.block_lt_of_cell? w _ hw253_0)).trans hw253_0), ((HB.out.cell (World.block_lt_of_cell? w _ hw253_1)).trans hw253_1)⟩ (fun hHeld => ?_)
                 clear hK K
                 refine normA_ ?_
                 refine pureA_ (i := 10) (N := some 66) #[true, true, true, true, true, true, true, true, true, true, true, true, true, true, true, true, true, false, false] rfl rfl ?_ (hc := any_of HT_.out (by kernel_rfl))
                 refine pureA_ (i := 17) (N := some 73) #[true, true, true, true, true, true, true, true, true, true, true, true, true, true, true, true, true, true, false] rfl rfl ?_ (hc := any_of HT_.out (by kernel_rfl))
                 refine pureA_ (i := 18) (N := some 5) #[true, true, true, true, true, true, true, true, true, true, true, true, true, true, true, true, true, true, true] rfl rfl ?_ (hc := any_of HT_.out (by kernel_rfl))
                 refine done_ (done_of HT_.out (by kernel_rfl)) ?_
                 try go_wp2
                 go_roundg k3
                 case measure => have := HJ5.out; have := HJ22.out; have := HK3.out; omega
                 case rel => exact ⟨(((x5_3 ++ (⟨#[32]⟩ : ByteArray)) ++ (strOfNums y250)) ++ ((rd_T59 l0_3 x8_3).f1)), (wrap64 (x8_3 + 1)), rsA, rsA, H', ⟨by have := HJ5.out; have := HJ22.out; have := HK3.out; omega⟩, ⟨rbA BK242.out⟩, ⟨hbA HB.out⟩⟩
               rw [if_neg c35] at H
               exact absurd H (by simp)
             rw [if_neg c34] at H
             exact absurd H (by simp)
           rw [if_neg c33] at H
           exact absurd H (by simp)
         rw [if_neg c32] at H
         exact absurd H (by simp)
       rw [if_neg c31] at H
       have c31b0 : decide (x8_3 < (l0_3.length : Int)) = false := decide_eq_false c31
       clear c31
       by_cases c41 : (x5_3.size : Int) > 160
       · rw [if_pos c41] at H
         have c41b0 : decide (160 < (x5_3.size : Int)) = true := decide_eq_true c41
         have c41b1 : decide (160 < x5_3.size) = true := decide_eq_true (by omega)
         clear c41
         simp only [Option.some.injEq, Prod.mk.injEq] at H
         obtain ⟨rfl, rfl⟩ := H
         obtain ⟨hcz42_0, hcz42_1, hcz42_2, hcz42_3, hfz42_0, hfz42_1, hfz42_2, hfz42_3⟩ := blkA4 BK242.out
         go_wp2
         go_ret2
         exact ⟨reA, hbA HB.out⟩
       rw [if_neg c41] at H
       have c41b0 : decide (160 < (x5_3.size : Int)) = false := decide_eq_false c41
       have c41b1 : decide (160 < x5_3.size) = false := decide_eq_false (by omega)
       clear c41
       simp only [Option.some.injEq, Prod.mk.injEq] at H
       obtain ⟨rfl, rfl⟩ := H
       obtain ⟨hcz43_0, hcz43_1, hcz43_2, hcz43_3, hfz43_0, hfz43_1, hfz43_2, hfz43_3⟩ := blkA4 BK242.out
       go_wp2
       go_ret2
       exact ⟨reA, hbA HB.out⟩
 rw [if_neg c3] at H
 have c3b0 : (t243 == 0) = false := beq_eq_false_iff_ne.mpr c3
 have c3b1 : (t243 != 0) = true := bne_iff_ne.mpr c3
 simp only [Option.some.injEq, Prod.mk.injEq] at H
 obtain ⟨rfl, rfl⟩ := H
 go_enter Tryz.func12, Tryz.ntmps12
 go_wp2_with (first | ((with_reducible refine gate_dst (N := 1) rfl ?_); refine box_event ?hg (N := 1) ?hd (cs := #[.int .i64 a0_0, .string a0_1, .int .i64 a0_2, .slice A0_3 l0_3.length c0_3]) (t := 24) ?hr ?_; (case hd => rfl); (case hg => rfl); (case hr => first | (go_simp; done) | (go_simp; rfl)); intro gb242 hg w44 hbox hb; have n0_ := Aside0.mk (below_step (hbA HB.out) hb); have n1_ := Aside0.mk (hbox); have n2_ := Aside0.mk ((by rw [hg]; exact (below_size (hbA HB.out)) : w.heap.size ≤ gb242)); have n3_ := Aside0.mk ((by rw [hg]; exact (below_size (hbA HB.out)) : w.heap.size ≤ gb242)); clear HB; have HB := n0_; have BK242 := n1_; have GW242 := n2_; have GE242 := n3_; clear n0_ n1_ n2_ n3_; clear hb hbox hg; obtain ⟨hcz45_0, hcz45_1, hcz45_2, hcz45_3, hfz45_0, hfz45_1, hfz45_2, hfz45_3⟩ := blkA4 BK242.out) | ((with_reducible refine gate_callee (f := 32) rfl ?_); refine goesL_ (some 10) rfl rfl Tryz.func32 (by kernel_rfl) rfl #[.agg #[.int .i64 a0_0, .string a0_1, .int .i64 a0_2, .slice A0_3 l0_3.length c0_3]] rfl argA ?_; (with_reducible refine (tallboyref27_form.calls k a0_0 a0_1 a0_2 _ _ l0_3 t243 _ ?side1 ?side2 A2.out).mono ?_); (case side1 => repeat (first | exact (Kd.C_below HR0_3.out HB.out) | (with_reducible refine Kd.C_alloc ?_ _) | (with_reducible refine Kd.C_drewN ?_ _) | (with_reducible refine Kd.C_drew ?_))); (case side2 => exact HC0_3.out); rintro e w46 ⟨rfl, hb⟩; refine ⟨_, rfl, ?_⟩; replace BK242 := Aside0.mk (blk_below (g := gb242) (o := .cells #[.int .i64 a0_0, .string a0_1, .int .i64 a0_2, .slice A0_3 l0_3.length c0_3] 24 (0, 0)) (rbA BK242.out) hb); replace HB := Aside0.mk (below_step (hbA HB.out) hb); (try clear hb); (try clear hb2); (try clear hk); (try clear hi)))
 go_ret2
 exact ⟨reA, hbA HB.out⟩

end
end Go.Proofs.YtfboejlemnfndaaGreatDoor.XMr
end
section
namespace Go.Proofs.YtfboejlemnfndaaGreatDoor.XMr
open Go.RowKit Go.Proofs.YtfboejlemnfndaaGreatDoorW.PrintWords Go.Proofs.YtfboejlemnfndaaGreatDoorW.PrintLast Go.Proofs.YtfboejlemnfndaaGreatDoorW.PrintMore
attribute [local go_sem] extract_sub max2_int min2_int max_two min_two max_three min_three max_four min_four   -- for this text's walks alone
set_option linter.unusedVariables false
set_option linter.unusedSimpArgs false

noncomputable section
def tallboyref27_cut.l0 : Nat → ByteArray → List ByteArray → Int → Option (List ByteArray)
 | 0, _, _, _ => none
 | k + 1, x0, x3, x4 => if x4 < (x0.size : Int) then (if 0 ≤ x4 then (if (bt x0 x4) = 32 then (if x3.length < 8796093022208 then (tallboyref27_cut.l0 k x0 (x3 ++ [(⟨#[]⟩ : ByteArray)]) (wrap64 (x4 + 1))) else (none)) else (if 0 ≤ (wrap64 ((x3.length : Int) - 1)) then (if (wrap64 ((x3.length : Int) - 1)) < (x3.length : Int) then (if x4 ≤ (wrap64 (x4 + 1)) then (if (wrap64 (x4 + 1)) ≤ (x0.size : Int) then (if (rdOf ByteArray.empty x3 (wrap64 ((x3.length : Int) - 1))).size + (sub x0 (x4 : Int).toNat ((wrap64 (x4 + 1)) : Int).toNat).size ≤ 9223372036854775807 then (tallboyref27_cut.l0 k x0 (x3.set ((wrap64 ((x3.length : Int) - 1)) : Int).toNat ((rdOf ByteArray.empty x3 (wrap64 ((x3.length : Int) - 1))) ++ (sub x0 (x4 : Int).toNat ((wrap64 (x4 + 1)) : Int).toNat))) (wrap64 (x4 + 1))) else (none)) else (none)) else (none)) else (none)) else (none))) else (none)) else (some x3)
def tallboyref27_cut.f (k : Nat) (a0 : ByteArray) : Option (List ByteArray) := tallboyref27_cut.l0 k a0 (([(⟨#[]⟩ : ByteArray)] : List ByteArray)) 0
theorem tallboyref27_cut.mono_l : ∀ k, (∀ y0 y1 y2, LeO (tallboyref27_cut.l0 k y0 y1 y2) (tallboyref27_cut.l0 (k + 1) y0 y1 y2))
 | 0 => fun _ _ _ r h => by simp [tallboyref27_cut.l0] at h
 | k + 1 => by
  have ih0 := tallboyref27_cut.mono_l k
  · intro y0 y1 y2
    unfold tallboyref27_cut.l0
    repeat' first
    | (with_reducible exact ih0 _ _ _)
    | (with_reducible exact LeO.refl _)
    | (with_reducible exact LeO.none _)
    | (with_reducible refine LeO.ite ?_ ?_)
    | (with_reducible refine LeO.bind ?_ (fun _ => ?_))
    | exact ih0 _ _ _
    | exact LeO.none _
    | refine LeO.ite ?_ ?_
    | refine LeO.bind ?_ (fun _ => ?_)
theorem tallboyref27_cut.mono : ∀ a0 k, LeO (tallboyref27_cut.f k a0) (tallboyref27_cut.f (k + 1) a0) := by
 intro a0 k
 have ih0 := tallboyref27_cut.mono_l k
 unfold tallboyref27_cut.f
 repeat' first
  | (with_reducible exact ih0 _ _ _)
  | (with_reducible exact LeO.refl _)
  | (with_reducible exact LeO.none _)
  | (with_reducible refine LeO.ite ?_ ?_)
  | (with_reducible refine LeO.bind ?_ (fun _ => ?_))
  | exact ih0 _ _ _
  | exact LeO.none _
  | refine LeO.ite ?_ ?_
  | refine LeO.bind ?_ (fun _ => ?_)
def tallboyref27_cut.T7 : Bool × List (List Nat × List Nat) := (true, [([], []), ([], []), ([1], [1]), ([2], [2]), ([], []), ([], []), ([5], [5]), ([6], [6]), ([4, 7], [4, 7]), ([8], [8]), ([], []), ([], []), ([], []), ([12], [12]), ([10, 11, 13], [10, 11, 13]), ([9, 14], [9, 14]), ([0, 3, 0, 1, 2, 3, 4, 5, 6, 7, 8, 9, 10, 11, 12, 13, 14, 15], [0, 3]), ([16, 15, 0, 1, 2, 3, 4, 5, 6, 7, 8, 9, 10, 11, 12, 13, 14, 15], [15, 16])])
def tallboyref27_cut.B7 : List Nat := [0, 0, 2, 6, 0, 0, 32, 96, 240, 496, 0, 0, 0, 4096, 15360, 32752, 65535, 131071]
theorem tallboyref27_cut.tab7 : rtab .any (opsOf Tryz.f51 7) = tallboyref27_cut.T7 := by kernel_rfl
theorem tallboyref27_cut.bits7 : waitsOk tallboyref27_cut.T7.2 tallboyref27_cut.B7 = true := by kernel_rfl
set_option maxHeartbeats 8000000 in
set_option maxRecDepth 100000 in
theorem tallboyref27_cut.calls (k : Nat) (a0 : ByteArray) (r : List ByteArray) (w : World) (h : tallboyref27_cut.f k a0 = some r) :
 Calls Tryz.prog 51 #[.string a0] w fun e w' => ∃ v0_ : Value, e = .returned (v0_) ∧ Kd.R Kd.string 9 w' w.heap.size (fun _ => True) v0_ r ∧ Below w.heap.size w w' := by
 have HB := Aside0.mk (Below.refl w.heap.size w)
 have H : (tallboyref27_cut.l0 k a0 (([(⟨#[]⟩ : ByteArray)] : List ByteArray)) 0) = some r := h
 clear h
 obtain ⟨y254, hy254⟩ : ∃ y_ : List ByteArray, y_ = (([(⟨#[]⟩ : ByteArray)] : List ByteArray)) := ⟨_, rfl⟩
 replace H : (tallboyref27_cut.l0 k a0 y254 0) = some r := by first | (rw [hy254]; with_reducible exact H) | (have H2_ := (Option.bind_some _ _).symm.trans H; rw [hy254]; with_reducible exact H2_) | (have H2_ := (Option.bind_some _ _).symm.trans H; with_reducible exact H2_) | with_reducible exact H | (rw [hy254]; exact H) | exact H
 have Ny254 := Aside0.mk hy254
 clear hy254
 have H' := Aside0.mk H
 clear H
 go_enter Tryz.func51, Tryz.ntmps51
 go_wp2_with (first | ((with_reducible refine gate_dst (N := 5) rfl ?_); refine Kd.R_lit Kd.string _ 9 ?hg (N := 5) ?hd (xs := ([(⟨#[]⟩ : ByteArray)] : List ByteArray)) (inner := [.string (⟨#[]⟩ : ByteArray)]) (ok := fun _ => True) (okp := fun _ => True) ?hr ?hp (fun _ hk => hk) trivial (Below.refl _ _) (Nat.le_refl _) (by simp) ?_; (case hd => rfl); (case hg => rfl); (case hr => first | (go_simp; done) | (go_simp; rfl)); (case hp => exact (Reps.one (show Kd.M Kd.string _ _ _ (⟨#[]⟩ : ByteArray) [.string (⟨#[]⟩ : ByteArray)] from rfl) (Reps.none _ _))); intro v255 w2 ho3 hb hg_ hnew_; clear hg_ hnew_; (first | rw [← Ny254.out] at ho3 | (simp only [Int.reduceToNat] at ho3; rw [← Ny254.out] at ho3)); have n0_ := Aside0.mk (Kd.R_lower ho3 (below_size (hbA HB.out))); have n1_ := Aside0.mk (below_step (hbA HB.out) hb); clear HB; have HO256 := n0_; have HB := n1_; clear n0_ n1_; clear hb ho3))
 go_loopg [3, 4] k (fun kq v3 v4 w' => ∃ (x3_1 : List ByteArray) (x4_1 : Int), v4 = .int .i64 x4_1 ∧ Aside0 (tallboyref27_cut.l0 kq a0 x3_1 x4_1 = some r) ∧ Aside0 (kq ≤ k) ∧ Aside0 (Kd.R Kd.string 9 w' w.heap.size (fun _ => True) v3 x3_1) ∧ Aside0 (Below w.heap.size w w'))
 case atStart => exact ⟨(y254), (0), rsA, H', ⟨Nat.le_refl _⟩, ⟨rdA HO256.out⟩, ⟨hbA HB.out⟩⟩
 case round =>
  clear H'
  try clear p2
  obtain ⟨x3_1, x4_1, rfl, HA, HK1, HO_3, HB⟩ := hrel
  cases gk with
  | zero => exact absurd HA.out (by simp [tallboyref27_cut.l0])
  | succ k1 =>
   have H := HA.out
   clear HA
   simp only [tallboyref27_cut.l0] at H
   by_cases c4 : x4_1 < (a0.size : Int)
   · rw [if_pos c4] at H
     have c4b0 : decide (x4_1 < (a0.size : Int)) = true := decide_eq_true c4
     clear c4
     by_cases c5 : 0 ≤ x4_1
     · rw [if_pos c5] at H
       have c5b0 : decide (0 ≤ x4_1) = true := decide_eq_true c5
       clear c5
       by_cases c7 : (bt a0 x4_1) = 32
       · rw [if_pos c7] at H
         have c7b0 : ((bt a0 x4_1) == 32) = true := beq_iff_eq.mpr c7
         have c7b1 : ((bt a0 x4_1) != 32) = false := bne_eq_false_iff_eq.mpr c7
         clear c7
         by_cases c8 : x3_1.length < 8796093022208
         · rw [if_pos c8] at H
           have LMc8 := Aside0.mk c8
           clear c8
           obtain ⟨y257, hy257⟩ : ∃ y_ : List ByteArray, y_ = (x3_1 ++ [(⟨#[]⟩ : ByteArray)]) := ⟨_, rfl⟩
           replace H : (tallboyref27_cut.l0 k1 a0 y257 (wrap64 (x4_1 + 1))) = some r := by first | (rw [hy257]; with_reducible exact H) | (have H2_ := (Option.bind_some _ _).symm.trans H; rw [hy257]; with_reducible exact H2_) | (have H2_ := (Option.bind_some _ _).symm.trans H; with_reducible exact H2_) | with_reducible exact H | (rw [hy257]; exact H) | exact H
           have Ny257 := Aside0.mk hy257
           clear hy257
           have H' := Aside0.mk H
           clear H
           have p6 : 0 ≤ (x4_1 : Int) := of_decide_eq_true asA
           have q6 : x4_1 < (a0.size : Int) := of_decide_eq_true asA
           have hx6 := bt_at a0 x4_1
           replace p6 := eq_true p6
           replace q6 := eq_true q6
           go_wp2_with (first | ((with_reducible refine gate_builtin (b := .append) (xs := #[.tmp 16, .tmp 17]) rfl ?_); at_builtin; refine Kd.R_append Kd.string (w0 := w) w.heap.size rfl (.tmp 16) (.tmp 17) 66 9 (.string ⟨#[]⟩) 16 rfl Tryz.underlying66 info9 rfl (by decide) (by omega) u3 x3_1 (⟨#[]⟩ : ByteArray) [.string (⟨#[]⟩ : ByteArray)] (fun _ => True) (fun _ => False) rfl rfl ?aP (fun _ hk => hk.elim) ?aF ?aO ?aB ?aS ?aL ?_; (case aP => exact rfl); (case aB => exact (hbA HB.out)); (case aF => exact (fun _ _ => trivial)); (case aO => exact (rdA HO_3.out)); (case aS => exact (below_size (hbA HB.out))); (case aL => have := LMc8.out; omega); intro v258 w9 ho hb hg hat; rw [← Ny257.out] at ho; have n0_ := Aside0.mk (hb); have n1_ := Aside0.mk (ho); clear HB; clear HO_3; have HB := n0_; have HO259 := n1_; clear n0_ n1_; clear ho hb hg hat))
           go_roundg k1
           case measure => have := HK1.out; omega
           case rel => exact ⟨(y257), (wrap64 (x4_1 + 1)), rsA, H', ⟨by have := HK1.out; omega⟩, ⟨rdA HO259.out⟩, ⟨hbA HB.out⟩⟩
         rw [if_neg c8] at H
         exact absurd H (by simp)
       rw [if_neg c7] at H
       have c7b0 : ((bt a0 x4_1) == 32) = false := beq_eq_false_iff_ne.mpr c7
       have c7b1 : ((bt a0 x4_1) != 32) = true := bne_iff_ne.mpr c7
       obtain ⟨ji10, hji10⟩ : ∃ j_ : Int, (wrap64 ((x3_1.length : Int) - 1)) = j_ := ⟨_, rfl⟩
       replace H : (if 0 ≤ (ji10) then (if (ji10) < (x3_1.length : Int) then (if x4_1 ≤ (wrap64 (x4_1 + 1)) then (if (wrap64 (x4_1 + 1)) ≤ (a0.size : Int) then (if (rdOf ByteArray.empty x3_1 (ji10)).size + (sub a0 (x4_1 : Int).toNat ((wrap64 (x4_1 + 1)) : Int).toNat).size ≤ 9223372036854775807 then (tallboyref27_cut.l0 k1 a0 (x3_1.set ((ji10) : Int).toNat ((rdOf ByteArray.empty x3_1 (ji10)) ++ (sub a0 (x4_1 : Int).toNat ((wrap64 (x4_1 + 1)) : Int).toNat))) (wrap64 (x4_1 + 1))) else (none)) else (none)) else (none)) else (none)) else (none)) = some r := by first | (rw [hji10] at H; exact H) | (simp only [hji10] at H ⊢; exact H)
       have hji10w : (IntKind.i64.wrap ((x3_1.length : Int) - 1)) = ji10 := (i64_w _).trans hji10
       by_cases c11 : 0 ≤ (ji10)
       · rw [if_pos c11] at H
         have c11b0 : decide (0 ≤ (ji10)) = true := decide_eq_true c11
         clear c11
         by_cases c12 : (ji10) < (x3_1.length : Int)
         · rw [if_pos c12] at H
           have c12b0 : decide ((ji10) < (x3_1.length : Int)) = true := decide_eq_true c12
           clear c12
           have c13b0 := eq_true (of_decide_eq_true asA : 0 ≤ x4_1)
           by_cases c14 : x4_1 ≤ (wrap64 (x4_1 + 1))
           · rw [if_pos c14] at H
             have c14b0 := eq_true c14
             have c14b1 : decide (x4_1 ≤ (wrap64 (x4_1 + 1))) = true := decide_eq_true c14
             by_cases c15 : (wrap64 (x4_1 + 1)) ≤ (a0.size : Int)
             · rw [if_pos c15] at H
               have c15b0 := eq_true c15
               have c15b1 : decide ((wrap64 (x4_1 + 1)) ≤ (a0.size : Int)) = true := decide_eq_true c15
               by_cases c16 : (rdOf ByteArray.empty x3_1 (ji10)).size + (sub a0 (x4_1 : Int).toNat ((wrap64 (x4_1 + 1)) : Int).toNat).size ≤ 9223372036854775807
               · rw [if_pos c16] at H
                 have c16b0 := eq_true c16
                 have c16b1 : decide ((rdOf ByteArray.empty x3_1 (ji10)).size + (sub a0 (x4_1 : Int).toNat ((wrap64 (x4_1 + 1)) : Int).toNat).size ≤ 9223372036854775807) = true := decide_eq_true c16
                 try have c16b2 : (9223372036854775807 < (rdOf ByteArray.empty x3_1 (ji10)).size + (sub a0 (x4_1 : Int).toNat ((wrap64 (x4_1 + 1)) : Int).toNat).size) = False := eq_false (Nat.not_lt.2 c16)
                 obtain ⟨y261, hy261⟩ : ∃ y_ : List ByteArray, y_ = (x3_1.set ((ji10) : Int).toNat ((rdOf ByteArray.empty x3_1 (ji10)) ++ (sub a0 (x4_1 : Int).toNat ((wrap64 (x4_1 + 1)) : Int).toNat))) := ⟨_, rfl⟩
                 replace H : (tallboyref27_cut.l0 k1 a0 y261 (wrap64 (x4_1 + 1))) = some r := by first | (rw [hy261]; with_reducible exact H) | (have H2_ := (Option.bind_some _ _).symm.trans H; rw [hy261]; with_reducible exact H2_) | (have H2_ := (Option.bind_some _ _).symm.trans H; with_reducible exact H2_) | with_reducible exact H | (rw [hy261]; exact H) | exact H
                 have Ny261 := Aside0.mk hy261
                 clear hy261
                 have H' := Aside0.mk H
                 clear H
                 have p6 : 0 ≤ (x4_1 : Int) := of_decide_eq_true asA
                 have q6 : x4_1 < (a0.size : Int) := of_decide_eq_true asA
                 have hx6 := bt_at a0 x4_1
                 replace p6 := eq_true p6
                 replace q6 := eq_true q6
                 try go_wp2
                 replace HO_3 := Aside0.mk (Kd.R_drew HO_3.out)
                 replace HB := Aside0.mk (below_drew1 HB.out)
                 obtain ⟨Ao19, co19, eo19⟩ := Kd.R_slice HO_3.out
                 (first | subst eo19 | (injection eo19 with f1_ f2_ f3_; have f4_ := f1_.symm; have f5_ := f3_.symm; clear f1_ f2_ f3_; subst f4_; subst f5_))
                 have p260 : 0 ≤ ((ji10) : Int) := of_decide_eq_true asA
                 have q260 : (ji10) < (x3_1.length : Int) := of_decide_eq_true asA
                 obtain ⟨ad260, e260, hx260_0⟩ := Kd.at_string (Kd.R_reads' HO_3.out).2.2 (ji10) p260 q260
                 cases e260
                 replace p260 := eq_true p260
                 replace q260 := eq_true q260
                 have p17 : 0 ≤ ((ji10) : Int) := of_decide_eq_true asA
                 have q17 : ((ji10) : Int) < ((x3_1.length : Int) : Int) := of_decide_eq_true asA
                 obtain ⟨go17, co17, eo17, gb17, gl17, cl17, HG17⟩ := Kd.R_form HO_3.out (by omega)
                 (first | cases eo17 | (injection eo17 with ea_ en_ ec_; (first | subst ea_ | (injection ea_ with ea_; subst ea_)); subst ec_; clear en_))
                 have GB17 := Aside0.mk gb17
                 have GG17 := Aside0.mk HG17
                 clear gb17 gl17 HG17
                 (first | simp only [add_plain] at hx260_0 | skip)
                 obtain ⟨hx17_0, hf17_0⟩ := Kd.R_celln (⟨#[]⟩ : ByteArray) HO_3.out ((ji10) : Int) p17 q17
                 replace p17 := eq_true p17
                 replace q17 := eq_true q17
                 have HP20 := Kd.R_putn HO_3.out ((ji10) : Int) ((rdOf ByteArray.empty x3_1 (ji10)) ++ (sub a0 (x4_1 : Int).toNat ((wrap64 (x4_1 + 1)) : Int).toNat))
                 rw [← Ny261.out] at HP20
                 have HQ20 := Aside0.mk HP20
                 clear HP20
                 refine start_ (n := 18) (S := fun w' => w'.cell? ⟨go17, ((ji10)).toNat, none⟩ = some (.string (rdOf ByteArray.empty x3_1 (ji10)))) (ds := [17]) #[false, false, false, false, false, false, false, false, false, false, false, false, false, false, false, false, false, false] (by kernel_rfl) rfl rfl (hx260_0) (fun hHeld => ?_); refine with_tabW tallboyref27_cut.tab7 tallboyref27_cut.bits7 (fun HT_ HW_ => ?_)
                 generalize wr.drew = w18 at HO_3 HB GG17 HQ20 hf17_0 hx17_0 hx260_0 hHeld ⊢
                 refine pureA_ (i := 0) (N := some 19) #[true, false, false, false, false, false, false, false, false, false, false, false, false, false, false, false, false, false] rfl rfl ?_ (hc := any_of HT_.out (by kernel_rfl))
                 refine pureA_ (i := 1) (N := some 20) #[true, true, false, false, false, false, false, false, false, false, false, false, false, false, false, false, false, false] rfl rfl ?_ (hc := any_of HT_.out (by kernel_rfl))
                 refine pureA_ (i := 2) (N := some 21) #[true, true, true, false, false, false, false, false, false, false, false, false, false, false, false, false, false, false] rfl rfl ?_ (hc := any_of HT_.out (by kernel_rfl))
                 refine pureA_ (i := 3) (N := some 22) #[true, true, true, true, false, false, false, false, false, false, false, false, false, false, false, false, false, false] rfl rfl ?_ (hc := any_of HT_.out (by kernel_rfl))
                 refine pureA_ (i := 4) (N := some 23) #[true, true, true, true, true, false, false, false, false, false, false, false, false, false, false, false, false, false] rfl rfl ?_ (hc := any_of HT_.out (by kernel_rfl))
                 refine pureA_ (i := 5) (N := some 24) #[true, true, true, true, true, true, false, false, false, false, false, false, false, false, false, false, false, false] rfl rfl ?_ (hc := any_of HT_.out (by kernel_rfl))
                 refine pureA_ (i := 6) (N := some 25) #[true, true, true, true, true, true, true, false, false, false, false, false, false, false, false, false, false, false] rfl rfl ?_ (hc := any_of HT_.out (by kernel_rfl))
                 refine pureA_ (i := 7) (N := some 26) #[true, true, true, true, true, true, true, true, false, false, false, false, false, false, false, false, false, false] rfl rfl ?_ (hc := any_of HT_.out (by kernel_rfl))
                 refine pureA_ (i := 8) (N := some 27) #[true, true, true, true, true, true, true, true, true, false, false, false, false, false, false, false, false, false] rfl rfl ?_ (hc := any_of HT_.out (by kernel_rfl))
                 refine pureA_ (i := 10) (N := some 29) #[true, true, true, true, true, true, true, true, true, false, true, false, false, false, false, false, false, false] rfl rfl ?_ (hc := any_of HT_.out (by kernel_rfl))
                 refine pureA_ (i := 11) (N := some 30) #[true, true, true, true, true, true, true, true, true, false, true, true, false, false, false, false, false, false] rfl rfl ?_ (hc := any_of HT_.out (by kernel_rfl))
                 refine pureA_ (i := 12) (N := some 31) #[true, true, true, true, true, true, true, true, true, false, true, true, true, false, false, false, false, false] rfl rfl ?_ (hc := any_of HT_.out (by kernel_rfl))
                 refine pureA_ (i := 13) (N := some 32) #[true, true, true, true, true, true, true, true, true, false, true, true, true, true, false, false, false, false] rfl rfl ?_ (hc := any_of HT_.out (by kernel_rfl))
                 refine pureA_ (i := 14) (N := some 33) #[true, true, true, true, true, true, true, true, true, false, true, true, true, true, true, false, false, false] rfl rfl ?_ (hc := any_of HT_.out (by kernel_rfl))
                 refine takeA_ (i := 9) (N := some 28) #[true, true, true, true, true, true, true, true, true, true, true, true, true, true, true, false, false, false] rfl rfl hHeld ?_ (hc := take_ofW HT_.out HW_.out (by kernel_rfl))
                 refine pureA_ (i := 15) (N := some 34) #[true, true, true, true, true, true, true, true, true, true, true, true, true, true, true, true, false, false] rfl rfl ?_ (hc := any_of HT_.out (by kernel_rfl))
                 refine pureA_ (i := 16) (N := some 35) #[true, true, true, true, true, true, true, true, true, true, true, true, true, true, true, true, true, false] rfl rfl ?_ (hc := any_of HT_.out (by kernel_rfl))
                 refine last_ (i := 17) (N := none) #[true, true, true, true, true, true, true, true, true, true, true, true, true, true, true, true, true, true] rfl rfl (one_of HT_.out (by kernel_rfl)) (by decide) (fun K hK => ?_)
                 refine skip_ (w1 := ?_) (by rfl) rfl ?_ ?_
                 rotate_left
                 · go_simp
                   rfl
                 refine hK.out _ _ ?_
                 clear hK K
                 refine done_ (done_of HT_.out (by kernel_rfl)) ?_
                 try go_wp2
                 go_roundg k1
                 case measure => have := HK1.out; omega
                 case rel => exact ⟨(y261), (wrap64 (x4_1 + 1)), rsA, H', ⟨by have := HK1.out; omega⟩, ⟨rdA HQ20.out⟩, ⟨hbA HB.out⟩⟩
               rw [if_neg c16] at H
               exact absurd H (by simp)
             rw [if_neg c15] at H
             exact absurd H (by simp)
           rw [if_neg c14] at H
           exact absurd H (by simp)
         rw [if_neg c12] at H
         exact absurd H (by simp)
       rw [if_neg c11] at H
       exact absurd H (by simp)
     rw [if_neg c5] at H
     exact absurd H (by simp)
   rw [if_neg c4] at H
   have c4b0 : decide (x4_1 < (a0.size : Int)) = false := decide_eq_false c4
   clear c4
   obtain rfl := Option.some.inj H
   go_wp2
   go_ret
   exact ⟨_, reA, by (with_reducible repeat (first | apply Kd.R_alloc | apply Kd.R_drewN | apply Kd.R_drew)); exact HO_3.out, hbA HB.out⟩

mutual
def tallboyref27_Decode.l0 : Nat → ByteArray → List Int → Int → Int → Int → Option (ByteArray × Int)
 | 0, _, _, _, _, _ => none
 | k + 1, x0, x4, x5, x6, x7 => if x7 < (x0.size : Int) then (if 0 ≤ x7 then (tallboyref27_Decode.j1 k x0 x4 x5 x6 x7 ((bt x0 x7) != 61)) else (none)) else (tallboyref27_Decode.j1 k x0 x4 x5 x6 x7 false)
def tallboyref27_Decode.j1 : Nat → ByteArray → List Int → Int → Int → Int → Bool → Option (ByteArray × Int)
 | 0, _, _, _, _, _, _ => none
 | k + 1, x0, x4, x5, x6, x7, x19 => if x19 = true then (tallboyref27_Decode.l1 k x0 x4 x5 x6 x7 (-1) 0) else (if x6 = 2 then (if x4.length < 140737488355328 then ((some (x4 ++ [(wrap64 (Int.tdiv x5 16)) % 256] : List Int)).bind fun y268 => ((tallboyref27_Encode.f (strOfNums y268)).bind fun t271 => (if t271.toList = x0.toList then (some (strOfNums y268, 0)) else (some ((⟨#[]⟩ : ByteArray), 6))))) else (none)) else (if x6 = 3 then ((some (([(wrap64 (Int.tdiv x5 1024)) % 256, (Int.tmod (wrap64 (Int.tdiv x5 4)) 256) % 256] : List Int) : List Int)).bind fun y272 => (if x4.length + y272.length < 140737488355328 then ((some (x4 ++ y272 : List Int)).bind fun y275 => ((tallboyref27_Encode.f (strOfNums y275)).bind fun t278 => (if t278.toList = x0.toList then (some (strOfNums y275, 0)) else (some ((⟨#[]⟩ : ByteArray), 6))))) else (none))) else ((tallboyref27_Encode.f (strOfNums x4)).bind fun t279 => (if t279.toList = x0.toList then (some (strOfNums x4, 0)) else (some ((⟨#[]⟩ : ByteArray), 6))))))
def tallboyref27_Decode.l1 : Nat → ByteArray → List Int → Int → Int → Int → Int → Int → Option (ByteArray × Int)
 | 0, _, _, _, _, _, _, _ => none
 | k + 1, x0, x4, x5, x6, x7, x8, x9 => if x9 < 64 then (if 0 ≤ x9 then (if 0 ≤ x7 then (if x7 < (x0.size : Int) then (if (bt (⟨#[65, 66, 67, 68, 69, 70, 71, 72, 73, 74, 75, 76, 77, 78, 79, 80, 81, 82, 83, 84, 85, 86, 87, 88, 89, 90, 97, 98, 99, 100, 101, 102, 103, 104, 105, 106, 107, 108, 109, 110, 111, 112, 113, 114, 115, 116, 117, 118, 119, 120, 121, 122, 48, 49, 50, 51, 52, 53, 54, 55, 56, 57, 43, 47]⟩ : ByteArray) x9) = (bt x0 x7) then (tallboyref27_Decode.l1 k x0 x4 x5 x6 x7 x9 (wrap64 (x9 + 1))) else (tallboyref27_Decode.l1 k x0 x4 x5 x6 x7 x8 (wrap64 (x9 + 1)))) else (none)) else (none)) else (none)) else (if x8 < 0 then (some ((⟨#[]⟩ : ByteArray), 6)) else (if (wrap64 (x6 + 1)) = 4 then ((some (([(wrap64 (Int.tdiv (wrap64 ((wrap64 (x5 * 64)) + x8)) 65536)) % 256, (Int.tmod (wrap64 (Int.tdiv (wrap64 ((wrap64 (x5 * 64)) + x8)) 256)) 256) % 256, (Int.tmod (wrap64 ((wrap64 (x5 * 64)) + x8)) 256) % 256] : List Int) : List Int)).bind fun y262 => (if x4.length + y262.length < 140737488355328 then (tallboyref27_Decode.l0 k x0 (x4 ++ y262) 0 0 (wrap64 (x7 + 1))) else (none))) else (tallboyref27_Decode.l0 k x0 x4 (wrap64 ((wrap64 (x5 * 64)) + x8)) (wrap64 (x6 + 1)) (wrap64 (x7 + 1)))))
end
def tallboyref27_Decode.f (k : Nat) (a0 : ByteArray) : Option (ByteArray × Int) := tallboyref27_Decode.l0 k a0 ([] : List Int) 0 0 0
theorem tallboyref27_Decode.mono_l : ∀ k, (∀ y0 y1 y2 y3 y4, LeO (tallboyref27_Decode.l0 k y0 y1 y2 y3 y4) (tallboyref27_Decode.l0 (k + 1) y0 y1 y2 y3 y4)) ∧ (∀ y0 y1 y2 y3 y4 y5, LeO (tallboyref27_Decode.j1 k y0 y1 y2 y3 y4 y5) (tallboyref27_Decode.j1 (k + 1) y0 y1 y2 y3 y4 y5)) ∧ (∀ y0 y1 y2 y3 y4 y5 y6, LeO (tallboyref27_Decode.l1 k y0 y1 y2 y3 y4 y5 y6) (tallboyref27_Decode.l1 (k + 1) y0 y1 y2 y3 y4 y5 y6))
 | 0 => ⟨fun _ _ _ _ _ r h => by simp [tallboyref27_Decode.l0] at h, fun _ _ _ _ _ _ r h => by simp [tallboyref27_Decode.j1] at h, fun _ _ _ _ _ _ _ r h => by simp [tallboyref27_Decode.l1] at h⟩
 | k + 1 => by
  obtain ⟨ih0, ih1, ih2⟩ := tallboyref27_Decode.mono_l k
  refine ⟨?_, ?_, ?_⟩
  all_goals
   intros
   first | unfold tallboyref27_Decode.l0 | unfold tallboyref27_Decode.j1 | unfold tallboyref27_Decode.l1
   repeat' first
   | (with_reducible exact ih0 _ _ _ _ _)
   | (with_reducible exact ih1 _ _ _ _ _ _)
   | (with_reducible exact ih2 _ _ _ _ _ _ _)
   | (with_reducible exact LeO.refl _)
   | (with_reducible exact LeO.none _)
   | (with_reducible refine LeO.ite ?_ ?_)
   | (with_reducible refine LeO.bind ?_ (fun _ => ?_))
   | exact ih0 _ _ _ _ _
   | exact ih1 _ _ _ _ _ _
   | exact ih2 _ _ _ _ _ _ _
   | exact LeO.none _
   | refine LeO.ite ?_ ?_
   | refine LeO.bind ?_ (fun _ => ?_)
theorem tallboyref27_Decode.mono : ∀ a0 k, LeO (tallboyref27_Decode.f k a0) (tallboyref27_Decode.f (k + 1) a0) := by
 intro a0 k
 obtain ⟨ih0, ih1, ih2⟩ := tallboyref27_Decode.mono_l k
 unfold tallboyref27_Decode.f
 repeat' first
  | (with_reducible exact ih0 _ _ _ _ _)
  | (with_reducible exact ih1 _ _ _ _ _ _)
  | (with_reducible exact ih2 _ _ _ _ _ _ _)
  | (with_reducible exact LeO.refl _)
  | (with_reducible exact LeO.none _)
  | (with_reducible refine LeO.ite ?_ ?_)
  | (with_reducible refine LeO.bind ?_ (fun _ => ?_))
  | exact ih0 _ _ _ _ _
  | exact ih1 _ _ _ _ _ _
  | exact ih2 _ _ _ _ _ _ _
  | exact LeO.none _
  | refine LeO.ite ?_ ?_
  | refine LeO.bind ?_ (fun _ => ?_)
set_option maxHeartbeats 8000000 in
set_option maxRecDepth 100000 in
theorem tallboyref27_Decode.calls (k : Nat) (a0 : ByteArray) (r1 : ByteArray) (r2 : Int) (w : World) (h : tallboyref27_Decode.f k a0 = some (r1, r2)) :
 Calls Tryz.prog 52 #[.string a0] w fun e w' => e = .returned (.tuple #[.string r1, .int .i64 r2]) ∧ Below w.heap.size w w' := by
 have HB := Aside0.mk (Below.refl w.heap.size w)
 have H : (tallboyref27_Decode.l0 k a0 ([] : List Int) 0 0 0) = some (r1, r2) := h
 clear h
 have H' := Aside0.mk H
 clear H
 go_enter Tryz.func52, Tryz.ntmps52
 go_wp2
 repeat (go_quiet (fail); try go_wp2)
 go_loopg [4, 5, 6, 7] k (fun kq v4 v5 v6 v7 w' => ∃ (x4_1 : List Int) (x5_1 : Int) (x6_1 : Int) (x7_1 : Int), v5 = .int .i64 x5_1 ∧ v6 = .int .i64 x6_1 ∧ v7 = .int .i64 x7_1 ∧ Aside0 (tallboyref27_Decode.l0 kq a0 x4_1 x5_1 x6_1 x7_1 = some (r1, r2)) ∧ Aside0 (kq ≤ k) ∧ Aside0 (Kd.R (Kd.int .u8) 5 w' w.heap.size (fun _ => True) v4 x4_1) ∧ Aside0 (Below w.heap.size w w'))
 case atStart => exact ⟨(([] : List Int)), (0), (0), (0), rsA, rsA, rsA, H', ⟨Nat.le_refl _⟩, ⟨knA⟩, ⟨hbA HB.out⟩⟩
 case round =>
  clear H'
  obtain ⟨x4_1, x5_1, x6_1, x7_1, rfl, rfl, rfl, HA, HK1, HO_4, HB⟩ := hrel
  cases gk with
  | zero => exact absurd HA.out (by simp [tallboyref27_Decode.l0])
  | succ k1 =>
   have H := HA.out
   clear HA
   simp only [tallboyref27_Decode.l0] at H
   have HC2 := Aside0.mk H
   clear H
   go_upto_region 4 with (fail)
   repeat (go_quiet (fail); go_upto_region 4 with (fail))
   go_cut [19] (fun v19 wc => ∃ (kq : Nat) (x19_1 : Bool), v19 = .bool x19_1 ∧ Aside0 (tallboyref27_Decode.j1 kq a0 x4_1 x5_1 x6_1 x7_1 x19_1 = some (r1, r2)) ∧ Aside0 (kq ≤ k1) ∧ Aside0 (Kd.R (Kd.int .u8) 5 wc w.heap.size (fun _ => True) u4 x4_1) ∧ Aside0 (Below w.heap.size w wc))
   case first =>
    have H := HC2.out
    clear HC2
    by_cases c3 : x7_1 < (a0.size : Int)
    · rw [if_pos c3] at H
      have c3b0 : decide (x7_1 < (a0.size : Int)) = true := decide_eq_true c3
      clear c3
      (first | rw [c3b0] | (simp only [i64_w, i32_w]; rw [c3b0]) | skip)
      by_cases c4 : 0 ≤ x7_1
      · rw [if_pos c4] at H
        have c4b0 : decide (0 ≤ x7_1) = true := decide_eq_true c4
        clear c4
        have H' := Aside0.mk H
        clear H
        have p5 : 0 ≤ (x7_1 : Int) := of_decide_eq_true asA
        have q5 : x7_1 < (a0.size : Int) := of_decide_eq_true asA
        have hx5 := bt_at a0 x7_1
        replace p5 := eq_true p5
        replace q5 := eq_true q5
        go_wp2
        repeat (go_quiet (fail); try go_wp2)
        go_meet
        case rel => exact ⟨_, (((bt a0 x7_1) != 61)), rsA, H', ⟨by have := HK1.out; first | omega | exact Nat.le_refl _⟩, ⟨rdA HO_4.out⟩, ⟨hbA HB.out⟩⟩
      rw [if_neg c4] at H
      exact absurd H (by simp)
    rw [if_neg c3] at H
    have c3b0 : decide (x7_1 < (a0.size : Int)) = false := decide_eq_false c3
    clear c3
    (first | rw [c3b0] | (simp only [i64_w, i32_w]; rw [c3b0]) | skip)
    have H' := Aside0.mk H
    clear H
    go_wp2
    repeat (go_quiet (fail); try go_wp2)
    go_meet
    case rel => exact ⟨_, (false), rsA, H', ⟨by have := HK1.out; first | omega | exact Nat.le_refl _⟩, ⟨rdA HO_4.out⟩, ⟨hbA HB.out⟩⟩
   clear HC2
   (try clear p2); (try clear c3); (try clear c3b0); (try clear c4); (try clear c4b0); (try clear c5); (try clear p5); (try clear q5); (try clear hx5); (try clear p5); (try clear q5)
   obtain ⟨kq, x19_1, rfl, HA, HJ1, HO_4, HB⟩ := hcut
   cases kq with
   | zero => exact absurd HA.out (by simp [tallboyref27_Decode.j1])
   | succ kj1 =>
    have H := HA.out
    clear HA
    simp only [tallboyref27_Decode.j1] at H
    by_cases c6 : x19_1 = true
    · subst c6
      have H1 : (tallboyref27_Decode.l1 kj1 a0 x4_1 x5_1 x6_1 x7_1 (-1) 0) = some (r1, r2) := by rw [if_pos rfl] at H; exact H
      clear H
      have H := H1
      clear H1
      have H' := Aside0.mk H
      clear H
      go_wp2
      repeat (go_quiet (fail); try go_wp2)
      go_loopg [8, 9] kj1 (fun kq v8 v9 w' => ∃ (x8_3 : Int) (x9_3 : Int), v8 = .int .i64 x8_3 ∧ v9 = .int .i64 x9_3 ∧ Aside0 (tallboyref27_Decode.l1 kq a0 x4_1 x5_1 x6_1 x7_1 x8_3 x9_3 = some (r1, r2)) ∧ Aside0 (kq ≤ kj1) ∧ Aside0 (Kd.R (Kd.int .u8) 5 w' w.heap.size (fun _ => True) u4 x4_1) ∧ Aside0 (Below w.heap.size w w'))
      case atStart => exact ⟨((-1)), (0), rsA, rsA, H', ⟨Nat.le_refl _⟩, ⟨rdA HO_4.out⟩, ⟨hbA HB.out⟩⟩
      case round =>
       clear H'
       (try clear p2); (try clear c3); (try clear c3b0); (try clear c4); (try clear c4b0); (try clear c5); (try clear p5); (try clear q5); (try clear hx5); (try clear c6); (try clear p2); (try clear p5); (try clear q5)
       obtain ⟨x8_3, x9_3, rfl, rfl, HA, HK3, HO_4, HB⟩ := hrel
       cases gk with
       | zero => exact absurd HA.out (by simp [tallboyref27_Decode.l1])
       | succ k3 =>
        have H := HA.out
        clear HA
        simp only [tallboyref27_Decode.l1] at H
        by_cases c7 : x9_3 < 64
        · rw [if_pos c7] at H
          have c7b0 : decide (x9_3 < 64) = true := decide_eq_true c7
          clear c7
          by_cases c8 : 0 ≤ x9_3
          · rw [if_pos c8] at H
            have c8b0 : decide (0 ≤ x9_3) = true := decide_eq_true c8
            clear c8
            by_cases c10 : 0 ≤ x7_1
            · rw [if_pos c10] at H
              have c10b0 : decide (0 ≤ x7_1) = true := decide_eq_true c10
              clear c10
              by_cases c11 : x7_1 < (a0.size : Int)
              · rw [if_pos c11] at H
                have c11b0 : decide (x7_1 < (a0.size : Int)) = true := decide_eq_true c11
                clear c11
                by_cases c13 : (bt (⟨#[65, 66, 67, 68, 69, 70, 71, 72, 73, 74, 75, 76, 77, 78, 79, 80, 81, 82, 83, 84, 85, 86, 87, 88, 89, 90, 97, 98, 99, 100, 101, 102, 103, 104, 105, 106, 107, 108, 109, 110, 111, 112, 113, 114, 115, 116, 117, 118, 119, 120, 121, 122, 48, 49, 50, 51, 52, 53, 54, 55, 56, 57, 43, 47]⟩ : ByteArray) x9_3) = (bt a0 x7_1)
                · rw [if_pos c13] at H
                  have c13b0 : ((bt (⟨#[65, 66, 67, 68, 69, 70, 71, 72, 73, 74, 75, 76, 77, 78, 79, 80, 81, 82, 83, 84, 85, 86, 87, 88, 89, 90, 97, 98, 99, 100, 101, 102, 103, 104, 105, 106, 107, 108, 109, 110, 111, 112, 113, 114, 115, 116, 117, 118, 119, 120, 121, 122, 48, 49, 50, 51, 52, 53, 54, 55, 56, 57, 43, 47]⟩ : ByteArray) x9_3) == (bt a0 x7_1)) = true := beq_iff_eq.mpr c13
                  have c13b1 : ((bt (⟨#[65, 66, 67, 68, 69, 70, 71, 72, 73, 74, 75, 76, 77, 78, 79, 80, 81, 82, 83, 84, 85, 86, 87, 88, 89, 90, 97, 98, 99, 100, 101, 102, 103, 104, 105, 106, 107, 108, 109, 110, 111, 112, 113, 114, 115, 116, 117, 118, 119, 120, 121, 122, 48, 49, 50, 51, 52, 53, 54, 55, 56, 57, 43, 47]⟩ : ByteArray) x9_3) != (bt a0 x7_1)) = false := bne_eq_false_iff_eq.mpr c13
                  clear c13
                  have H' := Aside0.mk H
                  clear H
                  have p9 : 0 ≤ (x9_3 : Int) := of_decide_eq_true asA
                  have q9 : x9_3 < (64 : Int) := of_decide_eq_true asA
                  have hx9 := bt_at (⟨#[65, 66, 67, 68, 69, 70, 71, 72, 73, 74, 75, 76, 77, 78, 79, 80, 81, 82, 83, 84, 85, 86, 87, 88, 89, 90, 97, 98, 99, 100, 101, 102, 103, 104, 105, 106, 107, 108, 109, 110, 111, 112, 113, 114, 115, 116, 117, 118, 119, 120, 121, 122, 48, 49, 50, 51, 52, 53, 54, 55, 56, 57, 43, 47]⟩ : ByteArray) x9_3
                  replace p9 := eq_true p9
                  replace q9 := eq_true q9
                  have p12 : 0 ≤ (x7_1 : Int) := of_decide_eq_true asA
                  have q12 : x7_1 < (a0.size : Int) := of_decide_eq_true asA
                  have hx12 := bt_at a0 x7_1
                  replace p12 := eq_true p12
                  replace q12 := eq_true q12
                  go_wp2
                  repeat (go_quiet (fail); try go_wp2)
                  go_roundg k3
                  case measure => have := HK1.out; have := HJ1.out; have := HK3.out; omega
                  case rel => exact ⟨(x9_3), (wrap64 (x9_3 + 1)), rsA, rsA, H', ⟨by have := HK1.out; have := HJ1.out; have := HK3.out; omega⟩, ⟨rdA HO_4.out⟩, ⟨hbA HB.out⟩⟩
                rw [if_neg c13] at H
                have c13b0 : ((bt (⟨#[65, 66, 67, 68, 69, 70, 71, 72, 73, 74, 75, 76, 77, 78, 79, 80, 81, 82, 83, 84, 85, 86, 87, 88, 89, 90, 97, 98, 99, 100, 101, 102, 103, 104, 105, 106, 107, 108, 109, 110, 111, 112, 113, 114, 115, 116, 117, 118, 119, 120, 121, 122, 48, 49, 50, 51, 52, 53, 54, 55, 56, 57, 43, 47]⟩ : ByteArray) x9_3) == (bt a0 x7_1)) = false := beq_eq_false_iff_ne.mpr c13
                have c13b1 : ((bt (⟨#[65, 66, 67, 68, 69, 70, 71, 72, 73, 74, 75, 76, 77, 78, 79, 80, 81, 82, 83, 84, 85, 86, 87, 88, 89, 90, 97, 98, 99, 100, 101, 102, 103, 104, 105, 106, 107, 108, 109, 110, 111, 112, 113, 114, 115, 116, 117, 118, 119, 120, 121, 122, 48, 49, 50, 51, 52, 53, 54, 55, 56, 57, 43, 47]⟩ : ByteArray) x9_3) != (bt a0 x7_1)) = true := bne_iff_ne.mpr c13
                have H' := Aside0.mk H
                clear H
                have p9 : 0 ≤ (x9_3 : Int) := of_decide_eq_true asA
                have q9 : x9_3 < (64 : Int) := of_decide_eq_true asA
                have hx9 := bt_at (⟨#[65, 66, 67, 68, 69, 70, 71, 72, 73, 74, 75, 76, 77, 78, 79, 80, 81, 82, 83, 84, 85, 86, 87, 88, 89, 90, 97, 98, 99, 100, 101, 102, 103, 104, 105, 106, 107, 108, 109, 110, 111, 112, 113, 114, 115, 116, 117, 118, 119, 120, 121, 122, 48, 49, 50, 51, 52, 53, 54, 55, 56, 57, 43, 47]⟩ : ByteArray) x9_3
                replace p9 := eq_true p9
                replace q9 := eq_true q9
                have p12 : 0 ≤ (x7_1 : Int) := of_decide_eq_true asA
                have q12 : x7_1 < (a0.size : Int) := of_decide_eq_true asA
                have hx12 := bt_at a0 x7_1
                replace p12 := eq_true p12
                replace q12 := eq_true q12
                go_wp2
                repeat (go_quiet (fail); try go_wp2)
                go_roundg k3
                case measure => have := HK1.out; have := HJ1.out; have := HK3.out; omega
                case rel => exact ⟨(x8_3), (wrap64 (x9_3 + 1)), rsA, rsA, H', ⟨by have := HK1.out; have := HJ1.out; have := HK3.out; omega⟩, ⟨rdA HO_4.out⟩, ⟨hbA HB.out⟩⟩
              rw [if_neg c11] at H
              exact absurd H (by simp)
            rw [if_neg c10] at H
            exact absurd H (by simp)
          rw [if_neg c8] at H
          exact absurd H (by simp)
        rw [if_neg c7] at H
        have c7b0 : decide (x9_3 < 64) = false := decide_eq_false c7
        clear c7
        by_cases c14 : x8_3 < 0
        · rw [if_pos c14] at H
          have c14b0 : decide (x8_3 < 0) = true := decide_eq_true c14
          clear c14
          simp only [Option.some.injEq, Prod.mk.injEq] at H
          obtain ⟨rfl, rfl⟩ := H
          go_wp2
          repeat (go_quiet (fail); try go_wp2)
          go_ret2
          exact ⟨reA, hbA HB.out⟩
        rw [if_neg c14] at H
        have c14b0 : decide (x8_3 < 0) = false := decide_eq_false c14
        clear c14
        by_cases c15 : (wrap64 (x6_1 + 1)) = 4
        · rw [if_pos c15] at H
          have c15b0 : ((wrap64 (x6_1 + 1)) == 4) = true := beq_iff_eq.mpr c15
          have c15b1 : ((wrap64 (x6_1 + 1)) != 4) = false := bne_eq_false_iff_eq.mpr c15
          clear c15
          obtain ⟨y262, hy262⟩ : ∃ y_ : List Int, y_ = (([(wrap64 (Int.tdiv (wrap64 ((wrap64 (x5_1 * 64)) + x8_3)) 65536)) % 256, (Int.tmod (wrap64 (Int.tdiv (wrap64 ((wrap64 (x5_1 * 64)) + x8_3)) 256)) 256) % 256, (Int.tmod (wrap64 ((wrap64 (x5_1 * 64)) + x8_3)) 256) % 256] : List Int)) := ⟨_, rfl⟩
          replace H : (if x4_1.length + y262.length < 140737488355328 then (tallboyref27_Decode.l0 k3 a0 (x4_1 ++ y262) 0 0 (wrap64 (x7_1 + 1))) else (none)) = some (r1, r2) := by first | (rw [hy262]; with_reducible exact H) | (have H2_ := (Option.bind_some _ _).symm.trans H; rw [hy262]; with_reducible exact H2_) | (have H2_ := (Option.bind_some _ _).symm.trans H; with_reducible exact H2_) | with_reducible exact H | (rw [hy262]; exact H) | exact H
          have Ny262 := Aside0.mk hy262
          clear hy262
          by_cases c16 : x4_1.length + y262.length < 140737488355328
          · rw [if_pos c16] at H
            have LMc16 := Aside0.mk c16
            clear c16
            obtain ⟨y265, hy265⟩ : ∃ y_ : List Int, y_ = (x4_1 ++ y262) := ⟨_, rfl⟩
            replace H : (tallboyref27_Decode.l0 k3 a0 y265 0 0 (wrap64 (x7_1 + 1))) = some (r1, r2) := by first | (rw [hy265]; with_reducible exact H) | (have H2_ := (Option.bind_some _ _).symm.trans H; rw [hy265]; with_reducible exact H2_) | (have H2_ := (Option.bind_some _ _).symm.trans H; with_reducible exact H2_) | with_reducible exact H | (rw [hy265]; exact H) | exact H
            have Ny265 := Aside0.mk hy265
            clear hy265
            have H' := Aside0.mk H
            clear H
            go_wp2_with (first | ((with_reducible refine gate_dst (N := 54) rfl ?_); refine Kd.R_lit (Kd.int .u8) _ 5 ?hg (N := 54) ?hd (xs := ([(wrap64 (Int.tdiv (wrap64 ((wrap64 (x5_1 * 64)) + x8_3)) 65536)) % 256, (Int.tmod (wrap64 (Int.tdiv (wrap64 ((wrap64 (x5_1 * 64)) + x8_3)) 256)) 256) % 256, (Int.tmod (wrap64 ((wrap64 (x5_1 * 64)) + x8_3)) 256) % 256] : List Int)) (inner := [.int .u8 ((wrap64 (Int.tdiv (wrap64 ((wrap64 (x5_1 * 64)) + x8_3)) 65536)) % 256), .int .u8 ((Int.tmod (wrap64 (Int.tdiv (wrap64 ((wrap64 (x5_1 * 64)) + x8_3)) 256)) 256) % 256), .int .u8 ((Int.tmod (wrap64 ((wrap64 (x5_1 * 64)) + x8_3)) 256) % 256)]) (ok := fun _ => True) (okp := fun _ => True) ?hr ?hp (fun _ hk => hk) trivial (Below.refl _ _) (Nat.le_refl _) (by simp) ?_; (case hd => rfl); (case hg => rfl); (case hr => first | (go_simp; done) | (go_simp; rfl)); (case hp => exact (Reps.one (show Kd.M (Kd.int .u8) _ _ _ ((wrap64 (Int.tdiv (wrap64 ((wrap64 (x5_1 * 64)) + x8_3)) 65536)) % 256) [.int .u8 ((wrap64 (Int.tdiv (wrap64 ((wrap64 (x5_1 * 64)) + x8_3)) 65536)) % 256)] from rfl) (Reps.one (show Kd.M (Kd.int .u8) _ _ _ ((Int.tmod (wrap64 (Int.tdiv (wrap64 ((wrap64 (x5_1 * 64)) + x8_3)) 256)) 256) % 256) [.int .u8 ((Int.tmod (wrap64 (Int.tdiv (wrap64 ((wrap64 (x5_1 * 64)) + x8_3)) 256)) 256) % 256)] from rfl) (Reps.one (show Kd.M (Kd.int .u8) _ _ _ ((Int.tmod (wrap64 ((wrap64 (x5_1 * 64)) + x8_3)) 256) % 256) [.int .u8 ((Int.tmod (wrap64 ((wrap64 (x5_1 * 64)) + x8_3)) 256) % 256)] from rfl) (Reps.none _ _))))); intro v263 w17 ho18 hb hg_ hnew_; clear hg_ hnew_; (first | rw [← Ny262.out] at ho18 | (simp only [Int.reduceToNat] at ho18; rw [← Ny262.out] at ho18)); have n0_ := Aside0.mk (Kd.R_elder' (rdA HO_4.out) (Kd.R_base ho18) hb); have n1_ := Aside0.mk (Kd.R_lower (Kd.R_new' ho18 (Kd.R_lt (rdA HO_4.out))) (below_size (hbA HB.out))); have n2_ := Aside0.mk (below_step (hbA HB.out) hb); clear HO_4; clear HB; have HO_4 := n0_; have HO264 := n1_; have HB := n2_; clear n0_ n1_ n2_; clear hb ho18; obtain ⟨Ao20, co20, eo20⟩ := Kd.R_slice HO264.out; subst eo20) | ((with_reducible refine gate_builtin (b := .append) (xs := #[.tmp 43, .tmp 54]) rfl ?_); at_builtin; refine Kd.R_append_rows (Kd.int .u8) (w0 := w) w.heap.size rfl (.tmp 43) (.tmp 54) 70 5 (.int .u8 0) 1 rfl Tryz.underlying70 info5 rfl (by decide) (by omega) u4 x4_1 y262 _ _ _ (fun k_ => some k_ ≠ (.slice Ao20 y262.length co20 : Value).ownBlock) (fun _ => False) rfl rfl ?aO ?aR (fun _ _ h => h) (fun _ h => h.elim) ?aF ?aB ?aS ?aL ?_; (case aR => repeat (first | exact (Kd.R_reads' HO264.out).2.2 | (with_reducible refine Kd.C_alloc ?_ _) | (with_reducible refine Kd.C_drewN ?_ _) | (with_reducible refine Kd.C_drew ?_))); (case aB => exact (hbA HB.out)); (case aF => exact (fun k_ hk => Kd.fresh' (Kd.R_lt (rdA HO264.out)) k_ hk)); (case aO => exact (by (with_reducible repeat (first | apply Kd.R_alloc | apply Kd.R_drewN | apply Kd.R_drew)); exact Kd.R_mono HO_4.out (fun _ hk => hk.2))); (case aS => exact (below_size (hbA HB.out))); (case aL => have := LMc16.out; omega); intro v266 w19 ho hb hg hat; rw [← Ny265.out] at ho; have n0_ := Aside0.mk (Kd.R_after (ok := (fun _ => True)) (rdA HO264.out) hg hat); have n1_ := Aside0.mk (hb); have n2_ := Aside0.mk (ho); clear HO264; clear HB; clear HO_4; have HO264 := n0_; have HB := n1_; have HO267 := n2_; clear n0_ n1_ n2_; clear ho hb hg hat))
            repeat (go_quiet (first | ((with_reducible refine gate_dst (N := 54) rfl ?_); refine Kd.R_lit (Kd.int .u8) _ 5 ?hg (N := 54) ?hd (xs := ([(wrap64 (Int.tdiv (wrap64 ((wrap64 (x5_1 * 64)) + x8_3)) 65536)) % 256, (Int.tmod (wrap64 (Int.tdiv (wrap64 ((wrap64 (x5_1 * 64)) + x8_3)) 256)) 256) % 256, (Int.tmod (wrap64 ((wrap64 (x5_1 * 64)) + x8_3)) 256) % 256] : List Int)) (inner := [.int .u8 ((wrap64 (Int.tdiv (wrap64 ((wrap64 (x5_1 * 64)) + x8_3)) 65536)) % 256), .int .u8 ((Int.tmod (wrap64 (Int.tdiv (wrap64 ((wrap64 (x5_1 * 64)) + x8_3)) 256)) 256) % 256), .int .u8 ((Int.tmod (wrap64 ((wrap64 (x5_1 * 64)) + x8_3)) 256) % 256)]) (ok := fun _ => True) (okp := fun _ => True) ?hr ?hp (fun _ hk => hk) trivial (Below.refl _ _) (Nat.le_refl _) (by simp) ?_; (case hd => rfl); (case hg => rfl); (case hr => first | (go_simp; done) | (go_simp; rfl)); (case hp => exact (Reps.one (show Kd.M (Kd.int .u8) _ _ _ ((wrap64 (Int.tdiv (wrap64 ((wrap64 (x5_1 * 64)) + x8_3)) 65536)) % 256) [.int .u8 ((wrap64 (Int.tdiv (wrap64 ((wrap64 (x5_1 * 64)) + x8_3)) 65536)) % 256)] from rfl) (Reps.one (show Kd.M (Kd.int .u8) _ _ _ ((Int.tmod (wrap64 (Int.tdiv (wrap64 ((wrap64 (x5_1 * 64)) + x8_3)) 256)) 256) % 256) [.int .u8 ((Int.tmod (wrap64 (Int.tdiv (wrap64 ((wrap64 (x5_1 * 64)) + x8_3)) 256)) 256) % 256)] from rfl) (Reps.one (show Kd.M (Kd.int .u8) _ _ _ ((Int.tmod (wrap64 ((wrap64 (x5_1 * 64)) + x8_3)) 256) % 256) [.int .u8 ((Int.tmod (wrap64 ((wrap64 (x5_1 * 64)) + x8_3)) 256) % 256)] from rfl) (Reps.none _ _))))); intro v263 w17 ho18 hb hg_ hnew_; clear hg_ hnew_; (first | rw [← Ny262.out] at ho18 | (simp only [Int.reduceToNat] at ho18; rw [← Ny262.out] at ho18)); have n0_ := Aside0.mk (Kd.R_elder' (rdA HO_4.out) (Kd.R_base ho18) hb); have n1_ := Aside0.mk (Kd.R_lower (Kd.R_new' ho18 (Kd.R_lt (rdA HO_4.out))) (below_size (hbA HB.out))); have n2_ := Aside0.mk (below_step (hbA HB.out) hb); clear HO_4; clear HB; have HO_4 := n0_; have HO264 := n1_; have HB := n2_; clear n0_ n1_ n2_; clear hb ho18; obtain ⟨Ao20, co20, eo20⟩ := Kd.R_slice HO264.out; subst eo20) | ((with_reducible refine gate_builtin (b := .append) (xs := #[.tmp 43, .tmp 54]) rfl ?_); at_builtin; refine Kd.R_append_rows (Kd.int .u8) (w0 := w) w.heap.size rfl (.tmp 43) (.tmp 54) 70 5 (.int .u8 0) 1 rfl Tryz.underlying70 info5 rfl (by decide) (by omega) u4 x4_1 y262 _ _ _ (fun k_ => some k_ ≠ (.slice Ao20 y262.length co20 : Value).ownBlock) (fun _ => False) rfl rfl ?aO ?aR (fun _ _ h => h) (fun _ h => h.elim) ?aF ?aB ?aS ?aL ?_; (case aR => repeat (first | exact (Kd.R_reads' HO264.out).2.2 | (with_reducible refine Kd.C_alloc ?_ _) | (with_reducible refine Kd.C_drewN ?_ _) | (with_reducible refine Kd.C_drew ?_))); (case aB => exact (hbA HB.out)); (case aF => exact (fun k_ hk => Kd.fresh' (Kd.R_lt (rdA HO264.out)) k_ hk)); (case aO => exact (by (with_reducible repeat (first | apply Kd.R_alloc | apply Kd.R_drewN | apply Kd.R_drew)); exact Kd.R_mono HO_4.out (fun _ hk => hk.2))); (case aS => exact (below_size (hbA HB.out))); (case aL => have := LMc16.out; omega); intro v266 w19 ho hb hg hat; rw [← Ny265.out] at ho; have n0_ := Aside0.mk (Kd.R_after (ok := (fun _ => True)) (rdA HO264.out) hg hat); have n1_ := Aside0.mk (hb); have n2_ := Aside0.mk (ho); clear HO264; clear HB; clear HO_4; have HO264 := n0_; have HB := n1_; have HO267 := n2_; clear n0_ n1_ n2_; clear ho hb hg hat)); try go_wp2_with (first | ((with_reducible refine gate_dst (N := 54) rfl ?_); refine Kd.R_lit (Kd.int .u8) _ 5 ?hg (N := 54) ?hd (xs := ([(wrap64 (Int.tdiv (wrap64 ((wrap64 (x5_1 * 64)) + x8_3)) 65536)) % 256, (Int.tmod (wrap64 (Int.tdiv (wrap64 ((wrap64 (x5_1 * 64)) + x8_3)) 256)) 256) % 256, (Int.tmod (wrap64 ((wrap64 (x5_1 * 64)) + x8_3)) 256) % 256] : List Int)) (inner := [.int .u8 ((wrap64 (Int.tdiv (wrap64 ((wrap64 (x5_1 * 64)) + x8_3)) 65536)) % 256), .int .u8 ((Int.tmod (wrap64 (Int.tdiv (wrap64 ((wrap64 (x5_1 * 64)) + x8_3)) 256)) 256) % 256), .int .u8 ((Int.tmod (wrap64 ((wrap64 (x5_1 * 64)) + x8_3)) 256) % 256)]) (ok := fun _ => True) (okp := fun _ => True) ?hr ?hp (fun _ hk => hk) trivial (Below.refl _ _) (Nat.le_refl _) (by simp) ?_; (case hd => rfl); (case hg => rfl); (case hr => first | (go_simp; done) | (go_simp; rfl)); (case hp => exact (Reps.one (show Kd.M (Kd.int .u8) _ _ _ ((wrap64 (Int.tdiv (wrap64 ((wrap64 (x5_1 * 64)) + x8_3)) 65536)) % 256) [.int .u8 ((wrap64 (Int.tdiv (wrap64 ((wrap64 (x5_1 * 64)) + x8_3)) 65536)) % 256)] from rfl) (Reps.one (show Kd.M (Kd.int .u8) _ _ _ ((Int.tmod (wrap64 (Int.tdiv (wrap64 ((wrap64 (x5_1 * 64)) + x8_3)) 256)) 256) % 256) [.int .u8 ((Int.tmod (wrap64 (Int.tdiv (wrap64 ((wrap64 (x5_1 * 64)) + x8_3)) 256)) 256) % 256)] from rfl) (Reps.one (show Kd.M (Kd.int .u8) _ _ _ ((Int.tmod (wrap64 ((wrap64 (x5_1 * 64)) + x8_3)) 256) % 256) [.int .u8 ((Int.tmod (wrap64 ((wrap64 (x5_1 * 64)) + x8_3)) 256) % 256)] from rfl) (Reps.none _ _))))); intro v263 w17 ho18 hb hg_ hnew_; clear hg_ hnew_; (first | rw [← Ny262.out] at ho18 | (simp only [Int.reduceToNat] at ho18; rw [← Ny262.out] at ho18)); have n0_ := Aside0.mk (Kd.R_elder' (rdA HO_4.out) (Kd.R_base ho18) hb); have n1_ := Aside0.mk (Kd.R_lower (Kd.R_new' ho18 (Kd.R_lt (rdA HO_4.out))) (below_size (hbA HB.out))); have n2_ := Aside0.mk (below_step (hbA HB.out) hb); clear HO_4; clear HB; have HO_4 := n0_; have HO264 := n1_; have HB := n2_; clear n0_ n1_ n2_; clear hb ho18; obtain ⟨Ao20, co20, eo20⟩ := Kd.R_slice HO264.out; subst eo20) | ((with_reducible refine gate_builtin (b := .append) (xs := #[.tmp 43, .tmp 54]) rfl ?_); at_builtin; refine Kd.R_append_rows (Kd.int .u8) (w0 := w) w.heap.size rfl (.tmp 43) (.tmp 54) 70 5 (.int .u8 0) 1 rfl Tryz.underlying70 info5 rfl (by decide) (by omega) u4 x4_1 y262 _ _ _ (fun k_ => some k_ ≠ (.slice Ao20 y262.length co20 : Value).ownBlock) (fun _ => False) rfl rfl ?aO ?aR (fun _ _ h => h) (fun _ h => h.elim) ?aF ?aB ?aS ?aL ?_; (case aR => repeat (first | exact (Kd.R_reads' HO264.out).2.2 | (with_reducible refine Kd.C_alloc ?_ _) | (with_reducible refine Kd.C_drewN ?_ _) | (with_reducible refine Kd.C_drew ?_))); (case aB => exact (hbA HB.out)); (case aF => exact (fun k_ hk => Kd.fresh' (Kd.R_lt (rdA HO264.out)) k_ hk)); (case aO => exact (by (with_reducible repeat (first | apply Kd.R_alloc | apply Kd.R_drewN | apply Kd.R_drew)); exact Kd.R_mono HO_4.out (fun _ hk => hk.2))); (case aS => exact (below_size (hbA HB.out))); (case aL => have := LMc16.out; omega); intro v266 w19 ho hb hg hat; rw [← Ny265.out] at ho; have n0_ := Aside0.mk (Kd.R_after (ok := (fun _ => True)) (rdA HO264.out) hg hat); have n1_ := Aside0.mk (hb); have n2_ := Aside0.mk (ho); clear HO264; clear HB; clear HO_4; have HO264 := n0_; have HB := n1_; have HO267 := n2_; clear n0_ n1_ n2_; clear ho hb hg hat)))
            go_roundg k3
            case measure => have := HK1.out; have := HJ1.out; have := HK3.out; omega
            case rel => exact ⟨(y265), (0), (0), (wrap64 (x7_1 + 1)), rsA, rsA, rsA, H', ⟨by have := HK1.out; have := HJ1.out; have := HK3.out; omega⟩, ⟨by (with_reducible repeat (first | apply Kd.R_alloc | apply Kd.R_drewN | apply Kd.R_drew)); exact Kd.R_mono HO267.out (fun _ hk => trivial)⟩, ⟨hbA HB.out⟩⟩
          rw [if_neg c16] at H
          exact absurd H (by simp)
        rw [if_neg c15] at H
        have c15b0 : ((wrap64 (x6_1 + 1)) == 4) = false := beq_eq_false_iff_ne.mpr c15
        have c15b1 : ((wrap64 (x6_1 + 1)) != 4) = true := bne_iff_ne.mpr c15
        have H' := Aside0.mk H
        clear H
        go_wp2
        repeat (go_quiet (fail); try go_wp2)
        go_roundg k3
        case measure => have := HK1.out; have := HJ1.out; have := HK3.out; omega
        case rel => exact ⟨(x4_1), (wrap64 ((wrap64 (x5_1 * 64)) + x8_3)), (wrap64 (x6_1 + 1)), (wrap64 (x7_1 + 1)), rsA, rsA, rsA, H', ⟨by have := HK1.out; have := HJ1.out; have := HK3.out; omega⟩, ⟨rdA HO_4.out⟩, ⟨hbA HB.out⟩⟩
    replace c6 := Bool.eq_false_iff.mpr c6
    subst c6
    have H1 : (if x6_1 = 2 then (if x4_1.length < 140737488355328 then ((some (x4_1 ++ [(wrap64 (Int.tdiv x5_1 16)) % 256] : List Int)).bind fun y268 => ((tallboyref27_Encode.f (strOfNums y268)).bind fun t271 => (if t271.toList = a0.toList then (some (strOfNums y268, 0)) else (some ((⟨#[]⟩ : ByteArray), 6))))) else (none)) else (if x6_1 = 3 then ((some (([(wrap64 (Int.tdiv x5_1 1024)) % 256, (Int.tmod (wrap64 (Int.tdiv x5_1 4)) 256) % 256] : List Int) : List Int)).bind fun y272 => (if x4_1.length + y272.length < 140737488355328 then ((some (x4_1 ++ y272 : List Int)).bind fun y275 => ((tallboyref27_Encode.f (strOfNums y275)).bind fun t278 => (if t278.toList = a0.toList then (some (strOfNums y275, 0)) else (some ((⟨#[]⟩ : ByteArray), 6))))) else (none))) else ((tallboyref27_Encode.f (strOfNums x4_1)).bind fun t279 => (if t279.toList = a0.toList then (some (strOfNums x4_1, 0)) else (some ((⟨#[]⟩ : ByteArray), 6)))))) = some (r1, r2) := by rw [if_neg (show ¬ (false = true) by decide)] at H; exact H
    clear H
    have H := H1
    clear H1
    by_cases c21 : x6_1 = 2
    · rw [if_pos c21] at H
      have c21b0 : (x6_1 == 2) = true := beq_iff_eq.mpr c21
      have c21b1 : (x6_1 != 2) = false := bne_eq_false_iff_eq.mpr c21
      clear c21
      by_cases c22 : x4_1.length < 140737488355328
      · rw [if_pos c22] at H
        have LMc22 := Aside0.mk c22
        clear c22
        obtain ⟨y268, hy268⟩ : ∃ y_ : List Int, y_ = (x4_1 ++ [(wrap64 (Int.tdiv x5_1 16)) % 256]) := ⟨_, rfl⟩
        replace H : ((tallboyref27_Encode.f (strOfNums y268)).bind fun t271 => (if t271.toList = a0.toList then (some (strOfNums y268, 0)) else (some ((⟨#[]⟩ : ByteArray), 6)))) = some (r1, r2) := by first | (rw [hy268]; with_reducible exact H) | (have H2_ := (Option.bind_some _ _).symm.trans H; rw [hy268]; with_reducible exact H2_) | (have H2_ := (Option.bind_some _ _).symm.trans H; with_reducible exact H2_) | with_reducible exact H | (rw [hy268]; exact H) | exact H
        have Ny268 := Aside0.mk hy268
        clear hy268
        replace H := Option.bind_eq_some_iff.mp H
        obtain ⟨t271, A230, H⟩ := H
        replace H : (if t271.toList = a0.toList then (some (strOfNums y268, 0)) else (some ((⟨#[]⟩ : ByteArray), 6))) = some (r1, r2) := H
        have A23 := Aside0.mk A230
        clear A230
        by_cases c24 : t271.toList = a0.toList
        · rw [if_pos c24] at H
          have c24b0 : (t271.toList == a0.toList) = true := beq_iff_eq.mpr c24
          have c24b1 : (t271.toList != a0.toList) = false := bne_eq_false_iff_eq.mpr c24
          clear c24
          simp only [Option.some.injEq, Prod.mk.injEq] at H
          obtain ⟨rfl, rfl⟩ := H
          go_wp2_with (first | ((with_reducible refine gate_builtin (b := .append) (xs := #[.tmp 59, .tmp 63]) rfl ?_); at_builtin; refine Kd.R_append (Kd.int .u8) (w0 := w) w.heap.size rfl (.tmp 59) (.tmp 63) 70 5 (.int .u8 0) 1 rfl Tryz.underlying70 info5 rfl (by decide) (by omega) u4 x4_1 ((wrap64 (Int.tdiv x5_1 16)) % 256) [.int .u8 ((wrap64 (Int.tdiv x5_1 16)) % 256)] (fun _ => True) (fun _ => False) rfl rfl ?aP (fun _ hk => hk.elim) ?aF ?aO ?aB ?aS ?aL ?_; (case aP => exact rfl); (case aB => exact (hbA HB.out)); (case aF => exact (fun _ _ => trivial)); (case aO => exact (rdA HO_4.out)); (case aS => exact (below_size (hbA HB.out))); (case aL => have := LMc22.out; omega); intro v269 w25 ho hb hg hat; rw [← Ny268.out] at ho; have n0_ := Aside0.mk (hb); have n1_ := Aside0.mk (ho); clear HB; clear HO_4; have HB := n0_; have HO270 := n1_; clear n0_ n1_; clear ho hb hg hat; have hcv26 := own_string (P := Tryz.prog) Tryz.underlying70 Tryz.underlying5 Tryz.underlying9 (Kd.own_of_R HO270.out)) | (go_at_call 34; (with_reducible refine (tallboyref27_Encode.calls (strOfNums y268) t271 _ A23.out).mono ?_); rintro e w27 ⟨rfl, hb⟩; replace HO270 := Aside0.mk (Kd.R_below (rdA HO270.out) hb); replace HB := Aside0.mk (below_step (hbA HB.out) hb); (try clear hb); (try clear hb2); (try clear hk); (try clear hi); have hcv28 := own_string (P := Tryz.prog) Tryz.underlying70 Tryz.underlying5 Tryz.underlying9 (Kd.own_of_R HO270.out)))
          repeat (go_quiet (first | ((with_reducible refine gate_builtin (b := .append) (xs := #[.tmp 59, .tmp 63]) rfl ?_); at_builtin; refine Kd.R_append (Kd.int .u8) (w0 := w) w.heap.size rfl (.tmp 59) (.tmp 63) 70 5 (.int .u8 0) 1 rfl Tryz.underlying70 info5 rfl (by decide) (by omega) u4 x4_1 ((wrap64 (Int.tdiv x5_1 16)) % 256) [.int .u8 ((wrap64 (Int.tdiv x5_1 16)) % 256)] (fun _ => True) (fun _ => False) rfl rfl ?aP (fun _ hk => hk.elim) ?aF ?aO ?aB ?aS ?aL ?_; (case aP => exact rfl); (case aB => exact (hbA HB.out)); (case aF => exact (fun _ _ => trivial)); (case aO => exact (rdA HO_4.out)); (case aS => exact (below_size (hbA HB.out))); (case aL => have := LMc22.out; omega); intro v269 w25 ho hb hg hat; rw [← Ny268.out] at ho; have n0_ := Aside0.mk (hb); have n1_ := Aside0.mk (ho); clear HB; clear HO_4; have HB := n0_; have HO270 := n1_; clear n0_ n1_; clear ho hb hg hat; have hcv26 := own_string (P := Tryz.prog) Tryz.underlying70 Tryz.underlying5 Tryz.underlying9 (Kd.own_of_R HO270.out)) | (go_at_call 34; (with_reducible refine (tallboyref27_Encode.calls (strOfNums y268) t271 _ A23.out).mono ?_); rintro e w27 ⟨rfl, hb⟩; replace HO270 := Aside0.mk (Kd.R_below (rdA HO270.out) hb); replace HB := Aside0.mk (below_step (hbA HB.out) hb); (try clear hb); (try clear hb2); (try clear hk); (try clear hi); have hcv28 := own_string (P := Tryz.prog) Tryz.underlying70 Tryz.underlying5 Tryz.underlying9 (Kd.own_of_R HO270.out))); try go_wp2_with (first | ((with_reducible refine gate_builtin (b := .append) (xs := #[.tmp 59, .tmp 63]) rfl ?_); at_builtin; refine Kd.R_append (Kd.int .u8) (w0 := w) w.heap.size rfl (.tmp 59) (.tmp 63) 70 5 (.int .u8 0) 1 rfl Tryz.underlying70 info5 rfl (by decide) (by omega) u4 x4_1 ((wrap64 (Int.tdiv x5_1 16)) % 256) [.int .u8 ((wrap64 (Int.tdiv x5_1 16)) % 256)] (fun _ => True) (fun _ => False) rfl rfl ?aP (fun _ hk => hk.elim) ?aF ?aO ?aB ?aS ?aL ?_; (case aP => exact rfl); (case aB => exact (hbA HB.out)); (case aF => exact (fun _ _ => trivial)); (case aO => exact (rdA HO_4.out)); (case aS => exact (below_size (hbA HB.out))); (case aL => have := LMc22.out; omega); intro v269 w25 ho hb hg hat; rw [← Ny268.out] at ho; have n0_ := Aside0.mk (hb); have n1_ := Aside0.mk (ho); clear HB; clear HO_4; have HB := n0_; have HO270 := n1_; clear n0_ n1_; clear ho hb hg hat; have hcv26 := own_string (P := Tryz.prog) Tryz.underlying70 Tryz.underlying5 Tryz.underlying9 (Kd.own_of_R HO270.out)) | (go_at_call 34; (with_reducible refine (tallboyref27_Encode.calls (strOfNums y268) t271 _ A23.out).mono ?_); rintro e w27 ⟨rfl, hb⟩; replace HO270 := Aside0.mk (Kd.R_below (rdA HO270.out) hb); replace HB := Aside0.mk (below_step (hbA HB.out) hb); (try clear hb); (try clear hb2); (try clear hk); (try clear hi); have hcv28 := own_string (P := Tryz.prog) Tryz.underlying70 Tryz.underlying5 Tryz.underlying9 (Kd.own_of_R HO270.out))))
          go_ret2
          exact ⟨reA, hbA HB.out⟩
        rw [if_neg c24] at H
        have c24b0 : (t271.toList == a0.toList) = false := beq_eq_false_iff_ne.mpr c24
        have c24b1 : (t271.toList != a0.toList) = true := bne_iff_ne.mpr c24
        simp only [Option.some.injEq, Prod.mk.injEq] at H
        obtain ⟨rfl, rfl⟩ := H
        go_wp2_with (first | ((with_reducible refine gate_builtin (b := .append) (xs := #[.tmp 59, .tmp 63]) rfl ?_); at_builtin; refine Kd.R_append (Kd.int .u8) (w0 := w) w.heap.size rfl (.tmp 59) (.tmp 63) 70 5 (.int .u8 0) 1 rfl Tryz.underlying70 info5 rfl (by decide) (by omega) u4 x4_1 ((wrap64 (Int.tdiv x5_1 16)) % 256) [.int .u8 ((wrap64 (Int.tdiv x5_1 16)) % 256)] (fun _ => True) (fun _ => False) rfl rfl ?aP (fun _ hk => hk.elim) ?aF ?aO ?aB ?aS ?aL ?_; (case aP => exact rfl); (case aB => exact (hbA HB.out)); (case aF => exact (fun _ _ => trivial)); (case aO => exact (rdA HO_4.out)); (case aS => exact (below_size (hbA HB.out))); (case aL => have := LMc22.out; omega); intro v269 w29 ho hb hg hat; rw [← Ny268.out] at ho; have n0_ := Aside0.mk (hb); have n1_ := Aside0.mk (ho); clear HB; clear HO_4; have HB := n0_; have HO270 := n1_; clear n0_ n1_; clear ho hb hg hat; have hcv30 := own_string (P := Tryz.prog) Tryz.underlying70 Tryz.underlying5 Tryz.underlying9 (Kd.own_of_R HO270.out)) | (go_at_call 34; (with_reducible refine (tallboyref27_Encode.calls (strOfNums y268) t271 _ A23.out).mono ?_); rintro e w31 ⟨rfl, hb⟩; replace HO270 := Aside0.mk (Kd.R_below (rdA HO270.out) hb); replace HB := Aside0.mk (below_step (hbA HB.out) hb); (try clear hb); (try clear hb2); (try clear hk); (try clear hi)))
        repeat (go_quiet (first | ((with_reducible refine gate_builtin (b := .append) (xs := #[.tmp 59, .tmp 63]) rfl ?_); at_builtin; refine Kd.R_append (Kd.int .u8) (w0 := w) w.heap.size rfl (.tmp 59) (.tmp 63) 70 5 (.int .u8 0) 1 rfl Tryz.underlying70 info5 rfl (by decide) (by omega) u4 x4_1 ((wrap64 (Int.tdiv x5_1 16)) % 256) [.int .u8 ((wrap64 (Int.tdiv x5_1 16)) % 256)] (fun _ => True) (fun _ => False) rfl rfl ?aP (fun _ hk => hk.elim) ?aF ?aO ?aB ?aS ?aL ?_; (case aP => exact rfl); (case aB => exact (hbA HB.out)); (case aF => exact (fun _ _ => trivial)); (case aO => exact (rdA HO_4.out)); (case aS => exact (below_size (hbA HB.out))); (case aL => have := LMc22.out; omega); intro v269 w29 ho hb hg hat; rw [← Ny268.out] at ho; have n0_ := Aside0.mk (hb); have n1_ := Aside0.mk (ho); clear HB; clear HO_4; have HB := n0_; have HO270 := n1_; clear n0_ n1_; clear ho hb hg hat; have hcv30 := own_string (P := Tryz.prog) Tryz.underlying70 Tryz.underlying5 Tryz.underlying9 (Kd.own_of_R HO270.out)) | (go_at_call 34; (with_reducible refine (tallboyref27_Encode.calls (strOfNums y268) t271 _ A23.out).mono ?_); rintro e w31 ⟨rfl, hb⟩; replace HO270 := Aside0.mk (Kd.R_below (rdA HO270.out) hb); replace HB := Aside0.mk (below_step (hbA HB.out) hb); (try clear hb); (try clear hb2); (try clear hk); (try clear hi))); try go_wp2_with (first | ((with_reducible refine gate_builtin (b := .append) (xs := #[.tmp 59, .tmp 63]) rfl ?_); at_builtin; refine Kd.R_append (Kd.int .u8) (w0 := w) w.heap.size rfl (.tmp 59) (.tmp 63) 70 5 (.int .u8 0) 1 rfl Tryz.underlying70 info5 rfl (by decide) (by omega) u4 x4_1 ((wrap64 (Int.tdiv x5_1 16)) % 256) [.int .u8 ((wrap64 (Int.tdiv x5_1 16)) % 256)] (fun _ => True) (fun _ => False) rfl rfl ?aP (fun _ hk => hk.elim) ?aF ?aO ?aB ?aS ?aL ?_; (case aP => exact rfl); (case aB => exact (hbA HB.out)); (case aF => exact (fun _ _ => trivial)); (case aO => exact (rdA HO_4.out)); (case aS => exact (below_size (hbA HB.out))); (case aL => have := LMc22.out; omega); intro v269 w29 ho hb hg hat; rw [← Ny268.out] at ho; have n0_ := Aside0.mk (hb); have n1_ := Aside0.mk (ho); clear HB; clear HO_4; have HB := n0_; have HO270 := n1_; clear n0_ n1_; clear ho hb hg hat; have hcv30 := own_string (P := Tryz.prog) Tryz.underlying70 Tryz.underlying5 Tryz.underlying9 (Kd.own_of_R HO270.out)) | (go_at_call 34; (with_reducible refine (tallboyref27_Encode.calls (strOfNums y268) t271 _ A23.out).mono ?_); rintro e w31 ⟨rfl, hb⟩; replace HO270 := Aside0.mk (Kd.R_below (rdA HO270.out) hb); replace HB := Aside0.mk (below_step (hbA HB.out) hb); (try clear hb); (try clear hb2); (try clear hk); (try clear hi))))
        go_ret2
        exact ⟨reA, hbA HB.out⟩
      rw [if_neg c22] at H
      exact absurd H (by simp)
    rw [if_neg c21] at H
    have c21b0 : (x6_1 == 2) = false := beq_eq_false_iff_ne.mpr c21
    have c21b1 : (x6_1 != 2) = true := bne_iff_ne.mpr c21
    by_cases c32 : x6_1 = 3
    · rw [if_pos c32] at H
      have c32b0 : (x6_1 == 3) = true := beq_iff_eq.mpr c32
      have c32b1 : (x6_1 != 3) = false := bne_eq_false_iff_eq.mpr c32
      clear c32
      obtain ⟨y272, hy272⟩ : ∃ y_ : List Int, y_ = (([(wrap64 (Int.tdiv x5_1 1024)) % 256, (Int.tmod (wrap64 (Int.tdiv x5_1 4)) 256) % 256] : List Int)) := ⟨_, rfl⟩
      replace H : (if x4_1.length + y272.length < 140737488355328 then ((some (x4_1 ++ y272 : List Int)).bind fun y275 => ((tallboyref27_Encode.f (strOfNums y275)).bind fun t278 => (if t278.toList = a0.toList then (some (strOfNums y275, 0)) else (some ((⟨#[]⟩ : ByteArray), 6))))) else (none)) = some (r1, r2) := by first | (rw [hy272]; with_reducible exact H) | (have H2_ := (Option.bind_some _ _).symm.trans H; rw [hy272]; with_reducible exact H2_) | (have H2_ := (Option.bind_some _ _).symm.trans H; with_reducible exact H2_) | with_reducible exact H | (rw [hy272]; exact H) | exact H
      have Ny272 := Aside0.mk hy272
      clear hy272
      by_cases c33 : x4_1.length + y272.length < 140737488355328
      · rw [if_pos c33] at H
        have LMc33 := Aside0.mk c33
        clear c33
        obtain ⟨y275, hy275⟩ : ∃ y_ : List Int, y_ = (x4_1 ++ y272) := ⟨_, rfl⟩
        replace H : ((tallboyref27_Encode.f (strOfNums y275)).bind fun t278 => (if t278.toList = a0.toList then (some (strOfNums y275, 0)) else (some ((⟨#[]⟩ : ByteArray), 6)))) = some (r1, r2) := by first | (rw [hy275]; with_reducible exact H) | (have H2_ := (Option.bind_some _ _).symm.trans H; rw [hy275]; with_reducible exact H2_) | (have H2_ := (Option.bind_some _ _).symm.trans H; with_reducible exact H2_) | with_reducible exact H | (rw [hy275]; exact H) | exact H
        have Ny275 := Aside0.mk hy275
        clear hy275
        replace H := Option.bind_eq_some_iff.mp H
        obtain ⟨t278, A340, H⟩ := H
        replace H : (if t278.toList = a0.toList then (some (strOfNums y275, 0)) else (some ((⟨#[]⟩ : ByteArray), 6))) = some (r1, r2) := H
        have A34 := Aside0.mk A340
        clear A340
        by_cases c35 : t278.toList = a0.toList
        · rw [if_pos c35] at H
          have c35b0 : (t278.toList == a0.toList) = true := beq_iff_eq.mpr c35
          have c35b1 : (t278.toList != a0.toList) = false := bne_eq_false_iff_eq.mpr c35
          clear c35
          simp only [Option.some.injEq, Prod.mk.injEq] at H
          obtain ⟨rfl, rfl⟩ := H
          go_wp2_with (first | ((with_reducible refine gate_dst (N := 75) rfl ?_); refine Kd.R_lit (Kd.int .u8) _ 5 ?hg (N := 75) ?hd (xs := ([(wrap64 (Int.tdiv x5_1 1024)) % 256, (Int.tmod (wrap64 (Int.tdiv x5_1 4)) 256) % 256] : List Int)) (inner := [.int .u8 ((wrap64 (Int.tdiv x5_1 1024)) % 256), .int .u8 ((Int.tmod (wrap64 (Int.tdiv x5_1 4)) 256) % 256)]) (ok := fun _ => True) (okp := fun _ => True) ?hr ?hp (fun _ hk => hk) trivial (Below.refl _ _) (Nat.le_refl _) (by simp) ?_; (case hd => rfl); (case hg => rfl); (case hr => first | (go_simp; done) | (go_simp; rfl)); (case hp => exact (Reps.one (show Kd.M (Kd.int .u8) _ _ _ ((wrap64 (Int.tdiv x5_1 1024)) % 256) [.int .u8 ((wrap64 (Int.tdiv x5_1 1024)) % 256)] from rfl) (Reps.one (show Kd.M (Kd.int .u8) _ _ _ ((Int.tmod (wrap64 (Int.tdiv x5_1 4)) 256) % 256) [.int .u8 ((Int.tmod (wrap64 (Int.tdiv x5_1 4)) 256) % 256)] from rfl) (Reps.none _ _)))); intro v273 w36 ho37 hb hg_ hnew_; clear hg_ hnew_; (first | rw [← Ny272.out] at ho37 | (simp only [Int.reduceToNat] at ho37; rw [← Ny272.out] at ho37)); have n0_ := Aside0.mk (Kd.R_elder' (rdA HO_4.out) (Kd.R_base ho37) hb); have n1_ := Aside0.mk (Kd.R_lower (Kd.R_new' ho37 (Kd.R_lt (rdA HO_4.out))) (below_size (hbA HB.out))); have n2_ := Aside0.mk (below_step (hbA HB.out) hb); clear HO_4; clear HB; have HO_4 := n0_; have HO274 := n1_; have HB := n2_; clear n0_ n1_ n2_; clear hb ho37; obtain ⟨Ao39, co39, eo39⟩ := Kd.R_slice HO274.out; subst eo39) | ((with_reducible refine gate_builtin (b := .append) (xs := #[.tmp 67, .tmp 75]) rfl ?_); at_builtin; refine Kd.R_append_rows (Kd.int .u8) (w0 := w) w.heap.size rfl (.tmp 67) (.tmp 75) 70 5 (.int .u8 0) 1 rfl Tryz.underlying70 info5 rfl (by decide) (by omega) u4 x4_1 y272 _ _ _ (fun k_ => some k_ ≠ (.slice Ao39 y272.length co39 : Value).ownBlock) (fun _ => False) rfl rfl ?aO ?aR (fun _ _ h => h) (fun _ h => h.elim) ?aF ?aB ?aS ?aL ?_; (case aR => repeat (first | exact (Kd.R_reads' HO274.out).2.2 | (with_reducible refine Kd.C_alloc ?_ _) | (with_reducible refine Kd.C_drewN ?_ _) | (with_reducible refine Kd.C_drew ?_))); (case aB => exact (hbA HB.out)); (case aF => exact (fun k_ hk => Kd.fresh' (Kd.R_lt (rdA HO274.out)) k_ hk)); (case aO => exact (by (with_reducible repeat (first | apply Kd.R_alloc | apply Kd.R_drewN | apply Kd.R_drew)); exact Kd.R_mono HO_4.out (fun _ hk => hk.2))); (case aS => exact (below_size (hbA HB.out))); (case aL => have := LMc33.out; omega); intro v276 w38 ho hb hg hat; rw [← Ny275.out] at ho; have n0_ := Aside0.mk (Kd.R_after (ok := (fun _ => True)) (rdA HO274.out) hg hat); have n1_ := Aside0.mk (hb); have n2_ := Aside0.mk (ho); clear HO274; clear HB; clear HO_4; have HO274 := n0_; have HB := n1_; have HO277 := n2_; clear n0_ n1_ n2_; clear ho hb hg hat; have hcv40 := own_string (P := Tryz.prog) Tryz.underlying70 Tryz.underlying5 Tryz.underlying9 (Kd.own_of_R HO277.out)) | (go_at_call 34; (with_reducible refine (tallboyref27_Encode.calls (strOfNums y275) t278 _ A34.out).mono ?_); rintro e w41 ⟨rfl, hb⟩; replace HO274 := Aside0.mk (Kd.R_below (rdA HO274.out) hb); replace HO277 := Aside0.mk (Kd.R_below (rdA HO277.out) hb); replace HB := Aside0.mk (below_step (hbA HB.out) hb); (try clear hb); (try clear hb2); (try clear hk); (try clear hi); have hcv42 := own_string (P := Tryz.prog) Tryz.underlying70 Tryz.underlying5 Tryz.underlying9 (Kd.own_of_R HO277.out)))
          repeat (go_quiet (first | ((with_reducible refine gate_dst (N := 75) rfl ?_); refine Kd.R_lit (Kd.int .u8) _ 5 ?hg (N := 75) ?hd (xs := ([(wrap64 (Int.tdiv x5_1 1024)) % 256, (Int.tmod (wrap64 (Int.tdiv x5_1 4)) 256) % 256] : List Int)) (inner := [.int .u8 ((wrap64 (Int.tdiv x5_1 1024)) % 256), .int .u8 ((Int.tmod (wrap64 (Int.tdiv x5_1 4)) 256) % 256)]) (ok := fun _ => True) (okp := fun _ => True) ?hr ?hp (fun _ hk => hk) trivial (Below.refl _ _) (Nat.le_refl _) (by simp) ?_; (case hd => rfl); (case hg => rfl); (case hr => first | (go_simp; done) | (go_simp; rfl)); (case hp => exact (Reps.one (show Kd.M (Kd.int .u8) _ _ _ ((wrap64 (Int.tdiv x5_1 1024)) % 256) [.int .u8 ((wrap64 (Int.tdiv x5_1 1024)) % 256)] from rfl) (Reps.one (show Kd.M (Kd.int .u8) _ _ _ ((Int.tmod (wrap64 (Int.tdiv x5_1 4)) 256) % 256) [.int .u8 ((Int.tmod (wrap64 (Int.tdiv x5_1 4)) 256) % 256)] from rfl) (Reps.none _ _)))); intro v273 w36 ho37 hb hg_ hnew_; clear hg_ hnew_; (first | rw [← Ny272.out] at ho37 | (simp only [Int.reduceToNat] at ho37; rw [← Ny272.out] at ho37)); have n0_ := Aside0.mk (Kd.R_elder' (rdA HO_4.out) (Kd.R_base ho37) hb); have n1_ := Aside0.mk (Kd.R_lower (Kd.R_new' ho37 (Kd.R_lt (rdA HO_4.out))) (below_size (hbA HB.out))); have n2_ := Aside0.mk (below_step (hbA HB.out) hb); clear HO_4; clear HB; have HO_4 := n0_; have HO274 := n1_; have HB := n2_; clear n0_ n1_ n2_; clear hb ho37; obtain ⟨Ao39, co39, eo39⟩ := Kd.R_slice HO274.out; subst eo39) | ((with_reducible refine gate_builtin (b := .append) (xs := #[.tmp 67, .tmp 75]) rfl ?_); at_builtin; refine Kd.R_append_rows (Kd.int .u8) (w0 := w) w.heap.size rfl (.tmp 67) (.tmp 75) 70 5 (.int .u8 0) 1 rfl Tryz.underlying70 info5 rfl (by decide) (by omega) u4 x4_1 y272 _ _ _ (fun k_ => some k_ ≠ (.slice Ao39 y272.length co39 : Value).ownBlock) (fun _ => False) rfl rfl ?aO ?aR (fun _ _ h => h) (fun _ h => h.elim) ?aF ?aB ?aS ?aL ?_; (case aR => repeat (first | exact (Kd.R_reads' HO274.out).2.2 | (with_reducible refine Kd.C_alloc ?_ _) | (with_reducible refine Kd.C_drewN ?_ _) | (with_reducible refine Kd.C_drew ?_))); (case aB => exact (hbA HB.out)); (case aF => exact (fun k_ hk => Kd.fresh' (Kd.R_lt (rdA HO274.out)) k_ hk)); (case aO => exact (by (with_reducible repeat (first | apply Kd.R_alloc | apply Kd.R_drewN | apply Kd.R_drew)); exact Kd.R_mono HO_4.out (fun _ hk => hk.2))); (case aS => exact (below_size (hbA HB.out))); (case aL => have := LMc33.out; omega); intro v276 w38 ho hb hg hat; rw [← Ny275.out] at ho; have n0_ := Aside0.mk (Kd.R_after (ok := (fun _ => True)) (rdA HO274.out) hg hat); have n1_ := Aside0.mk (hb); have n2_ := Aside0.mk (ho); clear HO274; clear HB; clear HO_4; have HO274 := n0_; have HB := n1_; have HO277 := n2_; clear n0_ n1_ n2_; clear ho hb hg hat; have hcv40 := own_string (P := Tryz.prog) Tryz.underlying70 Tryz.underlying5 Tryz.underlying9 (Kd.own_of_R HO277.out)) | (go_at_call 34; (with_reducible refine (tallboyref27_Encode.calls (strOfNums y275) t278 _ A34.out).mono ?_); rintro e w41 ⟨rfl, hb⟩; replace HO274 := Aside0.mk (Kd.R_below (rdA HO274.out) hb); replace HO277 := Aside0.mk (Kd.R_below (rdA HO277.out) hb); replace HB := Aside0.mk (below_step (hbA HB.out) hb); (try clear hb); (try clear hb2); (try clear hk); (try clear hi); have hcv42 := own_string (P := Tryz.prog) Tryz.underlying70 Tryz.underlying5 Tryz.underlying9 (Kd.own_of_R HO277.out))); try go_wp2_with (first | ((with_reducible refine gate_dst (N := 75) rfl ?_); refine Kd.R_lit (Kd.int .u8) _ 5 ?hg (N := 75) ?hd (xs := ([(wrap64 (Int.tdiv x5_1 1024)) % 256, (Int.tmod (wrap64 (Int.tdiv x5_1 4)) 256) % 256] : List Int)) (inner := [.int .u8 ((wrap64 (Int.tdiv x5_1 1024)) % 256), .int .u8 ((Int.tmod (wrap64 (Int.tdiv x5_1 4)) 256) % 256)]) (ok := fun _ => True) (okp := fun _ => True) ?hr ?hp (fun _ hk => hk) trivial (Below.refl _ _) (Nat.le_refl _) (by simp) ?_; (case hd => rfl); (case hg => rfl); (case hr => first | (go_simp; done) | (go_simp; rfl)); (case hp => exact (Reps.one (show Kd.M (Kd.int .u8) _ _ _ ((wrap64 (Int.tdiv x5_1 1024)) % 256) [.int .u8 ((wrap64 (Int.tdiv x5_1 1024)) % 256)] from rfl) (Reps.one (show Kd.M (Kd.int .u8) _ _ _ ((Int.tmod (wrap64 (Int.tdiv x5_1 4)) 256) % 256) [.int .u8 ((Int.tmod (wrap64 (Int.tdiv x5_1 4)) 256) % 256)] from rfl) (Reps.none _ _)))); intro v273 w36 ho37 hb hg_ hnew_; clear hg_ hnew_; (first | rw [← Ny272.out] at ho37 | (simp only [Int.reduceToNat] at ho37; rw [← Ny272.out] at ho37)); have n0_ := Aside0.mk (Kd.R_elder' (rdA HO_4.out) (Kd.R_base ho37) hb); have n1_ := Aside0.mk (Kd.R_lower (Kd.R_new' ho37 (Kd.R_lt (rdA HO_4.out))) (below_size (hbA HB.out))); have n2_ := Aside0.mk (below_step (hbA HB.out) hb); clear HO_4; clear HB; have HO_4 := n0_; have HO274 := n1_; have HB := n2_; clear n0_ n1_ n2_; clear hb ho37; obtain ⟨Ao39, co39, eo39⟩ := Kd.R_slice HO274.out; subst eo39) | ((with_reducible refine gate_builtin (b := .append) (xs := #[.tmp 67, .tmp 75]) rfl ?_); at_builtin; refine Kd.R_append_rows (Kd.int .u8) (w0 := w) w.heap.size rfl (.tmp 67) (.tmp 75) 70 5 (.int .u8 0) 1 rfl Tryz.underlying70 info5 rfl (by decide) (by omega) u4 x4_1 y272 _ _ _ (fun k_ => some k_ ≠ (.slice Ao39 y272.length co39 : Value).ownBlock) (fun _ => False) rfl rfl ?aO ?aR (fun _ _ h => h) (fun _ h => h.elim) ?aF ?aB ?aS ?aL ?_; (case aR => repeat (first | exact (Kd.R_reads' HO274.out).2.2 | (with_reducible refine Kd.C_alloc ?_ _) | (with_reducible refine Kd.C_drewN ?_ _) | (with_reducible refine Kd.C_drew ?_))); (case aB => exact (hbA HB.out)); (case aF => exact (fun k_ hk => Kd.fresh' (Kd.R_lt (rdA HO274.out)) k_ hk)); (case aO => exact (by (with_reducible repeat (first | apply Kd.R_alloc | apply Kd.R_drewN | apply Kd.R_drew)); exact Kd.R_mono HO_4.out (fun _ hk => hk.2))); (case aS => exact (below_size (hbA HB.out))); (case aL => have := LMc33.out; omega); intro v276 w38 ho hb hg hat; rw [← Ny275.out] at ho; have n0_ := Aside0.mk (Kd.R_after (ok := (fun _ => True)) (rdA HO274.out) hg hat); have n1_ := Aside0.mk (hb); have n2_ := Aside0.mk (ho); clear HO274; clear HB; clear HO_4; have HO274 := n0_; have HB := n1_; have HO277 := n2_; clear n0_ n1_ n2_; clear ho hb hg hat; have hcv40 := own_string (P := Tryz.prog) Tryz.underlying70 Tryz.underlying5 Tryz.underlying9 (Kd.own_of_R HO277.out)) | (go_at_call 34; (with_reducible refine (tallboyref27_Encode.calls (strOfNums y275) t278 _ A34.out).mono ?_); rintro e w41 ⟨rfl, hb⟩; replace HO274 := Aside0.mk (Kd.R_below (rdA HO274.out) hb); replace HO277 := Aside0.mk (Kd.R_below (rdA HO277.out) hb); replace HB := Aside0.mk (below_step (hbA HB.out) hb); (try clear hb); (try clear hb2); (try clear hk); (try clear hi); have hcv42 := own_string (P := Tryz.prog) Tryz.underlying70 Tryz.underlying5 Tryz.underlying9 (Kd.own_of_R HO277.out))))
          go_ret2
          exact ⟨reA, hbA HB.out⟩
        rw [if_neg c35] at H
        have c35b0 : (t278.toList == a0.toList) = false := beq_eq_false_iff_ne.mpr c35
        have c35b1 : (t278.toList != a0.toList) = true := bne_iff_ne.mpr c35
        simp only [Option.some.injEq, Prod.mk.injEq] at H
        obtain ⟨rfl, rfl⟩ := H
        go_wp2_with (first | ((with_reducible refine gate_dst (N := 75) rfl ?_); refine Kd.R_lit (Kd.int .u8) _ 5 ?hg (N := 75) ?hd (xs := ([(wrap64 (Int.tdiv x5_1 1024)) % 256, (Int.tmod (wrap64 (Int.tdiv x5_1 4)) 256) % 256] : List Int)) (inner := [.int .u8 ((wrap64 (Int.tdiv x5_1 1024)) % 256), .int .u8 ((Int.tmod (wrap64 (Int.tdiv x5_1 4)) 256) % 256)]) (ok := fun _ => True) (okp := fun _ => True) ?hr ?hp (fun _ hk => hk) trivial (Below.refl _ _) (Nat.le_refl _) (by simp) ?_; (case hd => rfl); (case hg => rfl); (case hr => first | (go_simp; done) | (go_simp; rfl)); (case hp => exact (Reps.one (show Kd.M (Kd.int .u8) _ _ _ ((wrap64 (Int.tdiv x5_1 1024)) % 256) [.int .u8 ((wrap64 (Int.tdiv x5_1 1024)) % 256)] from rfl) (Reps.one (show Kd.M (Kd.int .u8) _ _ _ ((Int.tmod (wrap64 (Int.tdiv x5_1 4)) 256) % 256) [.int .u8 ((Int.tmod (wrap64 (Int.tdiv x5_1 4)) 256) % 256)] from rfl) (Reps.none _ _)))); intro v273 w43 ho44 hb hg_ hnew_; clear hg_ hnew_; (first | rw [← Ny272.out] at ho44 | (simp only [Int.reduceToNat] at ho44; rw [← Ny272.out] at ho44)); have n0_ := Aside0.mk (Kd.R_elder' (rdA HO_4.out) (Kd.R_base ho44) hb); have n1_ := Aside0.mk (Kd.R_lower (Kd.R_new' ho44 (Kd.R_lt (rdA HO_4.out))) (below_size (hbA HB.out))); have n2_ := Aside0.mk (below_step (hbA HB.out) hb); clear HO_4; clear HB; have HO_4 := n0_; have HO274 := n1_; have HB := n2_; clear n0_ n1_ n2_; clear hb ho44; obtain ⟨Ao46, co46, eo46⟩ := Kd.R_slice HO274.out; subst eo46) | ((with_reducible refine gate_builtin (b := .append) (xs := #[.tmp 67, .tmp 75]) rfl ?_); at_builtin; refine Kd.R_append_rows (Kd.int .u8) (w0 := w) w.heap.size rfl (.tmp 67) (.tmp 75) 70 5 (.int .u8 0) 1 rfl Tryz.underlying70 info5 rfl (by decide) (by omega) u4 x4_1 y272 _ _ _ (fun k_ => some k_ ≠ (.slice Ao46 y272.length co46 : Value).ownBlock) (fun _ => False) rfl rfl ?aO ?aR (fun _ _ h => h) (fun _ h => h.elim) ?aF ?aB ?aS ?aL ?_; (case aR => repeat (first | exact (Kd.R_reads' HO274.out).2.2 | (with_reducible refine Kd.C_alloc ?_ _) | (with_reducible refine Kd.C_drewN ?_ _) | (with_reducible refine Kd.C_drew ?_))); (case aB => exact (hbA HB.out)); (case aF => exact (fun k_ hk => Kd.fresh' (Kd.R_lt (rdA HO274.out)) k_ hk)); (case aO => exact (by (with_reducible repeat (first | apply Kd.R_alloc | apply Kd.R_drewN | apply Kd.R_drew)); exact Kd.R_mono HO_4.out (fun _ hk => hk.2))); (case aS => exact (below_size (hbA HB.out))); (case aL => have := LMc33.out; omega); intro v276 w45 ho hb hg hat; rw [← Ny275.out] at ho; have n0_ := Aside0.mk (Kd.R_after (ok := (fun _ => True)) (rdA HO274.out) hg hat); have n1_ := Aside0.mk (hb); have n2_ := Aside0.mk (ho); clear HO274; clear HB; clear HO_4; have HO274 := n0_; have HB := n1_; have HO277 := n2_; clear n0_ n1_ n2_; clear ho hb hg hat; have hcv47 := own_string (P := Tryz.prog) Tryz.underlying70 Tryz.underlying5 Tryz.underlying9 (Kd.own_of_R HO277.out)) | (go_at_call 34; (with_reducible refine (tallboyref27_Encode.calls (strOfNums y275) t278 _ A34.out).mono ?_); rintro e w48 ⟨rfl, hb⟩; replace HO274 := Aside0.mk (Kd.R_below (rdA HO274.out) hb); replace HO277 := Aside0.mk (Kd.R_below (rdA HO277.out) hb); replace HB := Aside0.mk (below_step (hbA HB.out) hb); (try clear hb); (try clear hb2); (try clear hk); (try clear hi)))
        repeat (go_quiet (first | ((with_reducible refine gate_dst (N := 75) rfl ?_); refine Kd.R_lit (Kd.int .u8) _ 5 ?hg (N := 75) ?hd (xs := ([(wrap64 (Int.tdiv x5_1 1024)) % 256, (Int.tmod (wrap64 (Int.tdiv x5_1 4)) 256) % 256] : List Int)) (inner := [.int .u8 ((wrap64 (Int.tdiv x5_1 1024)) % 256), .int .u8 ((Int.tmod (wrap64 (Int.tdiv x5_1 4)) 256) % 256)]) (ok := fun _ => True) (okp := fun _ => True) ?hr ?hp (fun _ hk => hk) trivial (Below.refl _ _) (Nat.le_refl _) (by simp) ?_; (case hd => rfl); (case hg => rfl); (case hr => first | (go_simp; done) | (go_simp; rfl)); (case hp => exact (Reps.one (show Kd.M (Kd.int .u8) _ _ _ ((wrap64 (Int.tdiv x5_1 1024)) % 256) [.int .u8 ((wrap64 (Int.tdiv x5_1 1024)) % 256)] from rfl) (Reps.one (show Kd.M (Kd.int .u8) _ _ _ ((Int.tmod (wrap64 (Int.tdiv x5_1 4)) 256) % 256) [.int .u8 ((Int.tmod (wrap64 (Int.tdiv x5_1 4)) 256) % 256)] from rfl) (Reps.none _ _)))); intro v273 w43 ho44 hb hg_ hnew_; clear hg_ hnew_; (first | rw [← Ny272.out] at ho44 | (simp only [Int.reduceToNat] at ho44; rw [← Ny272.out] at ho44)); have n0_ := Aside0.mk (Kd.R_elder' (rdA HO_4.out) (Kd.R_base ho44) hb); have n1_ := Aside0.mk (Kd.R_lower (Kd.R_new' ho44 (Kd.R_lt (rdA HO_4.out))) (below_size (hbA HB.out))); have n2_ := Aside0.mk (below_step (hbA HB.out) hb); clear HO_4; clear HB; have HO_4 := n0_; have HO274 := n1_; have HB := n2_; clear n0_ n1_ n2_; clear hb ho44; obtain ⟨Ao46, co46, eo46⟩ := Kd.R_slice HO274.out; subst eo46) | ((with_reducible refine gate_builtin (b := .append) (xs := #[.tmp 67, .tmp 75]) rfl ?_); at_builtin; refine Kd.R_append_rows (Kd.int .u8) (w0 := w) w.heap.size rfl (.tmp 67) (.tmp 75) 70 5 (.int .u8 0) 1 rfl Tryz.underlying70 info5 rfl (by decide) (by omega) u4 x4_1 y272 _ _ _ (fun k_ => some k_ ≠ (.slice Ao46 y272.length co46 : Value).ownBlock) (fun _ => False) rfl rfl ?aO ?aR (fun _ _ h => h) (fun _ h => h.elim) ?aF ?aB ?aS ?aL ?_; (case aR => repeat (first | exact (Kd.R_reads' HO274.out).2.2 | (with_reducible refine Kd.C_alloc ?_ _) | (with_reducible refine Kd.C_drewN ?_ _) | (with_reducible refine Kd.C_drew ?_))); (case aB => exact (hbA HB.out)); (case aF => exact (fun k_ hk => Kd.fresh' (Kd.R_lt (rdA HO274.out)) k_ hk)); (case aO => exact (by (with_reducible repeat (first | apply Kd.R_alloc | apply Kd.R_drewN | apply Kd.R_drew)); exact Kd.R_mono HO_4.out (fun _ hk => hk.2))); (case aS => exact (below_size (hbA HB.out))); (case aL => have := LMc33.out; omega); intro v276 w45 ho hb hg hat; rw [← Ny275.out] at ho; have n0_ := Aside0.mk (Kd.R_after (ok := (fun _ => True)) (rdA HO274.out) hg hat); have n1_ := Aside0.mk (hb); have n2_ := Aside0.mk (ho); clear HO274; clear HB; clear HO_4; have HO274 := n0_; have HB := n1_; have HO277 := n2_; clear n0_ n1_ n2_; clear ho hb hg hat; have hcv47 := own_string (P := Tryz.prog) Tryz.underlying70 Tryz.underlying5 Tryz.underlying9 (Kd.own_of_R HO277.out)) | (go_at_call 34; (with_reducible refine (tallboyref27_Encode.calls (strOfNums y275) t278 _ A34.out).mono ?_); rintro e w48 ⟨rfl, hb⟩; replace HO274 := Aside0.mk (Kd.R_below (rdA HO274.out) hb); replace HO277 := Aside0.mk (Kd.R_below (rdA HO277.out) hb); replace HB := Aside0.mk (below_step (hbA HB.out) hb); (try clear hb); (try clear hb2); (try clear hk); (try clear hi))); try go_wp2_with (first | ((with_reducible refine gate_dst (N := 75) rfl ?_); refine Kd.R_lit (Kd.int .u8) _ 5 ?hg (N := 75) ?hd (xs := ([(wrap64 (Int.tdiv x5_1 1024)) % 256, (Int.tmod (wrap64 (Int.tdiv x5_1 4)) 256) % 256] : List Int)) (inner := [.int .u8 ((wrap64 (Int.tdiv x5_1 1024)) % 256), .int .u8 ((Int.tmod (wrap64 (Int.tdiv x5_1 4)) 256) % 256)]) (ok := fun _ => True) (okp := fun _ => True) ?hr ?hp (fun _ hk => hk) trivial (Below.refl _ _) (Nat.le_refl _) (by simp) ?_; (case hd => rfl); (case hg => rfl); (case hr => first | (go_simp; done) | (go_simp; rfl)); (case hp => exact (Reps.one (show Kd.M (Kd.int .u8) _ _ _ ((wrap64 (Int.tdiv x5_1 1024)) % 256) [.int .u8 ((wrap64 (Int.tdiv x5_1 1024)) % 256)] from rfl) (Reps.one (show Kd.M (Kd.int .u8) _ _ _ ((Int.tmod (wrap64 (Int.tdiv x5_1 4)) 256) % 256) [.int .u8 ((Int.tmod (wrap64 (Int.tdiv x5_1 4)) 256) % 256)] from rfl) (Reps.none _ _)))); intro v273 w43 ho44 hb hg_ hnew_; clear hg_ hnew_; (first | rw [← Ny272.out] at ho44 | (simp only [Int.reduceToNat] at ho44; rw [← Ny272.out] at ho44)); have n0_ := Aside0.mk (Kd.R_elder' (rdA HO_4.out) (Kd.R_base ho44) hb); have n1_ := Aside0.mk (Kd.R_lower (Kd.R_new' ho44 (Kd.R_lt (rdA HO_4.out))) (below_size (hbA HB.out))); have n2_ := Aside0.mk (below_step (hbA HB.out) hb); clear HO_4; clear HB; have HO_4 := n0_; have HO274 := n1_; have HB := n2_; clear n0_ n1_ n2_; clear hb ho44; obtain ⟨Ao46, co46, eo46⟩ := Kd.R_slice HO274.out; subst eo46) | ((with_reducible refine gate_builtin (b := .append) (xs := #[.tmp 67, .tmp 75]) rfl ?_); at_builtin; refine Kd.R_append_rows (Kd.int .u8) (w0 := w) w.heap.size rfl (.tmp 67) (.tmp 75) 70 5 (.int .u8 0) 1 rfl Tryz.underlying70 info5 rfl (by decide) (by omega) u4 x4_1 y272 _ _ _ (fun k_ => some k_ ≠ (.slice Ao46 y272.length co46 : Value).ownBlock) (fun _ => False) rfl rfl ?aO ?aR (fun _ _ h => h) (fun _ h => h.elim) ?aF ?aB ?aS ?aL ?_; (case aR => repeat (first | exact (Kd.R_reads' HO274.out).2.2 | (with_reducible refine Kd.C_alloc ?_ _) | (with_reducible refine Kd.C_drewN ?_ _) | (with_reducible refine Kd.C_drew ?_))); (case aB => exact (hbA HB.out)); (case aF => exact (fun k_ hk => Kd.fresh' (Kd.R_lt (rdA HO274.out)) k_ hk)); (case aO => exact (by (with_reducible repeat (first | apply Kd.R_alloc | apply Kd.R_drewN | apply Kd.R_drew)); exact Kd.R_mono HO_4.out (fun _ hk => hk.2))); (case aS => exact (below_size (hbA HB.out))); (case aL => have := LMc33.out; omega); intro v276 w45 ho hb hg hat; rw [← Ny275.out] at ho; have n0_ := Aside0.mk (Kd.R_after (ok := (fun _ => True)) (rdA HO274.out) hg hat); have n1_ := Aside0.mk (hb); have n2_ := Aside0.mk (ho); clear HO274; clear HB; clear HO_4; have HO274 := n0_; have HB := n1_; have HO277 := n2_; clear n0_ n1_ n2_; clear ho hb hg hat; have hcv47 := own_string (P := Tryz.prog) Tryz.underlying70 Tryz.underlying5 Tryz.underlying9 (Kd.own_of_R HO277.out)) | (go_at_call 34; (with_reducible refine (tallboyref27_Encode.calls (strOfNums y275) t278 _ A34.out).mono ?_); rintro e w48 ⟨rfl, hb⟩; replace HO274 := Aside0.mk (Kd.R_below (rdA HO274.out) hb); replace HO277 := Aside0.mk (Kd.R_below (rdA HO277.out) hb); replace HB := Aside0.mk (below_step (hbA HB.out) hb); (try clear hb); (try clear hb2); (try clear hk); (try clear hi))))
        go_ret2
        exact ⟨reA, hbA HB.out⟩
      rw [if_neg c33] at H
      exact absurd H (by simp)
    rw [if_neg c32] at H
    have c32b0 : (x6_1 == 3) = false := beq_eq_false_iff_ne.mpr c32
    have c32b1 : (x6_1 != 3) = true := bne_iff_ne.mpr c32
    replace H := Option.bind_eq_some_iff.mp H
    obtain ⟨t279, A490, H⟩ := H
    replace H : (if t279.toList = a0.toList then (some (strOfNums x4_1, 0)) else (some ((⟨#[]⟩ : ByteArray), 6))) = some (r1, r2) := H
    have A49 := Aside0.mk A490
    clear A490
    by_cases c50 : t279.toList = a0.toList
    · rw [if_pos c50] at H
      have c50b0 : (t279.toList == a0.toList) = true := beq_iff_eq.mpr c50
      have c50b1 : (t279.toList != a0.toList) = false := bne_eq_false_iff_eq.mpr c50
      clear c50
      simp only [Option.some.injEq, Prod.mk.injEq] at H
      obtain ⟨rfl, rfl⟩ := H
      have hcv51 := own_string (P := Tryz.prog) Tryz.underlying70 Tryz.underlying5 Tryz.underlying9 (Kd.own_of_R HO_4.out)
      go_wp2_with (first | (go_at_call 34; (with_reducible refine (tallboyref27_Encode.calls (strOfNums x4_1) t279 _ A49.out).mono ?_); rintro e w52 ⟨rfl, hb⟩; replace HO_4 := Aside0.mk (Kd.R_below (rdA HO_4.out) hb); replace HB := Aside0.mk (below_step (hbA HB.out) hb); (try clear hb); (try clear hb2); (try clear hk); (try clear hi); have hcv53 := own_string (P := Tryz.prog) Tryz.underlying70 Tryz.underlying5 Tryz.underlying9 (Kd.own_of_R HO_4.out)))
      repeat (go_quiet (first | (go_at_call 34; (with_reducible refine (tallboyref27_Encode.calls (strOfNums x4_1) t279 _ A49.out).mono ?_); rintro e w52 ⟨rfl, hb⟩; replace HO_4 := Aside0.mk (Kd.R_below (rdA HO_4.out) hb); replace HB := Aside0.mk (below_step (hbA HB.out) hb); (try clear hb); (try clear hb2); (try clear hk); (try clear hi); have hcv53 := own_string (P := Tryz.prog) Tryz.underlying70 Tryz.underlying5 Tryz.underlying9 (Kd.own_of_R HO_4.out))); try go_wp2_with (first | (go_at_call 34; (with_reducible refine (tallboyref27_Encode.calls (strOfNums x4_1) t279 _ A49.out).mono ?_); rintro e w52 ⟨rfl, hb⟩; replace HO_4 := Aside0.mk (Kd.R_below (rdA HO_4.out) hb); replace HB := Aside0.mk (below_step (hbA HB.out) hb); (try clear hb); (try clear hb2); (try clear hk); (try clear hi); have hcv53 := own_string (P := Tryz.prog) Tryz.underlying70 Tryz.underlying5 Tryz.underlying9 (Kd.own_of_R HO_4.out))))
      go_ret2
      exact ⟨reA, hbA HB.out⟩
    rw [if_neg c50] at H
    have c50b0 : (t279.toList == a0.toList) = false := beq_eq_false_iff_ne.mpr c50
    have c50b1 : (t279.toList != a0.toList) = true := bne_iff_ne.mpr c50
    simp only [Option.some.injEq, Prod.mk.injEq] at H
    obtain ⟨rfl, rfl⟩ := H
    have hcv54 := own_string (P := Tryz.prog) Tryz.underlying70 Tryz.underlying5 Tryz.underlying9 (Kd.own_of_R HO_4.out)
    go_wp2_with (first | (go_at_call 34; (with_reducible refine (tallboyref27_Encode.calls (strOfNums x4_1) t279 _ A49.out).mono ?_); rintro e w55 ⟨rfl, hb⟩; replace HO_4 := Aside0.mk (Kd.R_below (rdA HO_4.out) hb); replace HB := Aside0.mk (below_step (hbA HB.out) hb); (try clear hb); (try clear hb2); (try clear hk); (try clear hi)))
    repeat (go_quiet (first | (go_at_call 34; (with_reducible refine (tallboyref27_Encode.calls (strOfNums x4_1) t279 _ A49.out).mono ?_); rintro e w55 ⟨rfl, hb⟩; replace HO_4 := Aside0.mk (Kd.R_below (rdA HO_4.out) hb); replace HB := Aside0.mk (below_step (hbA HB.out) hb); (try clear hb); (try clear hb2); (try clear hk); (try clear hi))); try go_wp2_with (first | (go_at_call 34; (with_reducible refine (tallboyref27_Encode.calls (strOfNums x4_1) t279 _ A49.out).mono ?_); rintro e w55 ⟨rfl, hb⟩; replace HO_4 := Aside0.mk (Kd.R_below (rdA HO_4.out) hb); replace HB := Aside0.mk (below_step (hbA HB.out) hb); (try clear hb); (try clear hb2); (try clear hk); (try clear hi))))
    go_ret2
    exact ⟨reA, hbA HB.out⟩

end
end Go.Proofs.YtfboejlemnfndaaGreatDoor.XMr
end
