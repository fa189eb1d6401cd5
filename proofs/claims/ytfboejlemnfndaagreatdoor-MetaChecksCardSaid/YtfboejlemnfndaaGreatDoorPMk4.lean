/- Put together by wip/pack.py (this session's own program) out of this session's texts; a kit's tool laid the words and the shelf, of which only what is used stands here. Lean checks it. -/
import Derived.Test.YtfboejlemnfndaaGreatDoorPMk3
import Derived.Lib.Hide
import Derived.Lib.Strings
section
namespace Go.Proofs.YtfboejlemnfndaaGreatDoor.XMk
open Go.RowKit Go.Proofs.YtfboejlemnfndaaGreatDoorW.PrintWords Go.Proofs.YtfboejlemnfndaaGreatDoorW.PrintLast Go.Proofs.YtfboejlemnfndaaGreatDoorW.PrintMore
attribute [local go_sem] extract_sub max2_int min2_int max_two min_two max_three min_three max_four min_four   -- for this text's walks alone
set_option linter.unusedVariables false
set_option linter.unusedSimpArgs false

noncomputable section
mutual
def tallboyref27_form.j1 : Nat → Int → ByteArray → Int → List (S59) → Option (Int)
 | 0, _, _, _, _ => none
 | k + 1, x190000, x190001, x190002, x190003 => tallboyref27_form.l0 k 0 x190000 x190001 x190002 x190003
def tallboyref27_form.l0 : Nat → Int → Int → ByteArray → Int → List (S59) → Option (Int)
 | 0, _, _, _, _, _ => none
 | k + 1, x3, x190000, x190001, x190002, x190003 => if x3 < (x190003.length : Int) then (if 0 ≤ x3 then ((tallboyref27_may.f x190000).bind fun t193 => ((tallboyref27_has.f k t193 ((rd_T59 x190003 x3).f0)).bind fun t194 => (if t194 = true then (tallboyref27_form.l1 k x3 0 x190000 x190001 x190002 x190003 ((rd_T59 x190003 x3).f0) ((rd_T59 x190003 x3).f1)) else (some 3)))) else (none)) else (some 0)
def tallboyref27_form.l1 : Nat → Int → Int → Int → ByteArray → Int → List (S59) → Int → ByteArray → Option (Int)
 | 0, _, _, _, _, _, _, _, _ => none
 | k + 1, x3, x5, x190000, x190001, x190002, x190003, x193000, x193001 => if x5 < x3 then (if 0 ≤ x5 then (if x5 < (x190003.length : Int) then (if ((rd_T59 x190003 x5).f0) = x193000 then (some 4) else (tallboyref27_form.l1 k x3 (wrap64 (x5 + 1)) x190000 x190001 x190002 x190003 x193000 x193001)) else (none)) else (none)) else ((tallboyref27_token.f k x190000 x193000 x193001).bind fun t196 => (if t196 = true then (tallboyref27_form.l0 k (wrap64 (x3 + 1)) x190000 x190001 x190002 x190003) else (some 6)))
def tallboyref27_form.j0 : Nat → Bool → Int → ByteArray → Int → List (S59) → Option (Int)
 | 0, _, _, _, _, _ => none
 | k + 1, x6, x190000, x190001, x190002, x190003 => if x6 = true then (some 70) else ((tallboyref27_key.f k x190000 x190001 x190002 x190003).bind fun t190 => (if t190 = true then (if x190002 < 0 then (some 6) else (if x190002 > 2147483647 then (some 6) else (if x190000 = 2 then (tallboyref27_form.j1 k x190000 x190001 x190002 x190003) else (if x190002 = 0 then (tallboyref27_form.j1 k x190000 x190001 x190002 x190003) else (some 6))))) else (some 6)))
end
def tallboyref27_form.f (k : Nat) (a0_0 : Int) (a0_1 : ByteArray) (a0_2 : Int) (l0_3 : List (S59)) : Option (Int) := if a0_0 < 1 then (tallboyref27_form.j0 k true a0_0 a0_1 a0_2 l0_3) else (tallboyref27_form.j0 k (decide (a0_0 > 6)) a0_0 a0_1 a0_2 l0_3)
theorem tallboyref27_form.mono_l : ∀ k, (∀ y0 y1 y2 y3, LeO (tallboyref27_form.j1 k y0 y1 y2 y3) (tallboyref27_form.j1 (k + 1) y0 y1 y2 y3)) ∧ (∀ y0 y1 y2 y3 y4, LeO (tallboyref27_form.l0 k y0 y1 y2 y3 y4) (tallboyref27_form.l0 (k + 1) y0 y1 y2 y3 y4)) ∧ (∀ y0 y1 y2 y3 y4 y5 y6 y7, LeO (tallboyref27_form.l1 k y0 y1 y2 y3 y4 y5 y6 y7) (tallboyref27_form.l1 (k + 1) y0 y1 y2 y3 y4 y5 y6 y7)) ∧ (∀ y0 y1 y2 y3 y4, LeO (tallboyref27_form.j0 k y0 y1 y2 y3 y4) (tallboyref27_form.j0 (k + 1) y0 y1 y2 y3 y4))
 | 0 => ⟨fun _ _ _ _ r h => by simp [tallboyref27_form.j1] at h, fun _ _ _ _ _ r h => by simp [tallboyref27_form.l0] at h, fun _ _ _ _ _ _ _ _ r h => by simp [tallboyref27_form.l1] at h, fun _ _ _ _ _ r h => by simp [tallboyref27_form.j0] at h⟩
 | k + 1 => by
  obtain ⟨ih0, ih1, ih2, ih3⟩ := tallboyref27_form.mono_l k
  refine ⟨?_, ?_, ?_, ?_⟩
  all_goals
   intros
   first | unfold tallboyref27_form.j1 | unfold tallboyref27_form.l0 | unfold tallboyref27_form.l1 | unfold tallboyref27_form.j0
   repeat' first
   | (with_reducible exact ih0 _ _ _ _)
   | (with_reducible exact ih1 _ _ _ _ _)
   | (with_reducible exact ih2 _ _ _ _ _ _ _ _)
   | (with_reducible exact ih3 _ _ _ _ _)
   | (with_reducible exact tallboyref27_has.mono _ _ _)
   | (with_reducible exact tallboyref27_key.mono _ _ _ _ _)
   | (with_reducible exact tallboyref27_token.mono _ _ _ _)
   | (with_reducible exact LeO.refl _)
   | (with_reducible exact LeO.none _)
   | (with_reducible refine LeO.ite ?_ ?_)
   | (with_reducible refine LeO.bind ?_ (fun _ => ?_))
   | exact ih0 _ _ _ _
   | exact ih1 _ _ _ _ _
   | exact ih2 _ _ _ _ _ _ _ _
   | exact ih3 _ _ _ _ _
   | exact tallboyref27_has.mono _ _ _
   | exact tallboyref27_key.mono _ _ _ _ _
   | exact tallboyref27_token.mono _ _ _ _
   | exact LeO.none _
   | refine LeO.ite ?_ ?_
   | refine LeO.bind ?_ (fun _ => ?_)
theorem tallboyref27_form.mono : ∀ a0 a1 a2 a3 k, LeO (tallboyref27_form.f k a0 a1 a2 a3) (tallboyref27_form.f (k + 1) a0 a1 a2 a3) := by
 intro a0 a1 a2 a3 k
 obtain ⟨ih0, ih1, ih2, ih3⟩ := tallboyref27_form.mono_l k
 unfold tallboyref27_form.f
 repeat' first
  | (with_reducible exact ih0 _ _ _ _)
  | (with_reducible exact ih1 _ _ _ _ _)
  | (with_reducible exact ih2 _ _ _ _ _ _ _ _)
  | (with_reducible exact ih3 _ _ _ _ _)
  | (with_reducible exact tallboyref27_has.mono _ _ _)
  | (with_reducible exact tallboyref27_key.mono _ _ _ _ _)
  | (with_reducible exact tallboyref27_token.mono _ _ _ _)
  | (with_reducible exact LeO.refl _)
  | (with_reducible exact LeO.none _)
  | (with_reducible refine LeO.ite ?_ ?_)
  | (with_reducible refine LeO.bind ?_ (fun _ => ?_))
  | exact ih0 _ _ _ _
  | exact ih1 _ _ _ _ _
  | exact ih2 _ _ _ _ _ _ _ _
  | exact ih3 _ _ _ _ _
  | exact tallboyref27_has.mono _ _ _
  | exact tallboyref27_key.mono _ _ _ _ _
  | exact tallboyref27_token.mono _ _ _ _
  | exact LeO.none _
  | refine LeO.ite ?_ ?_
  | refine LeO.bind ?_ (fun _ => ?_)
set_option maxHeartbeats 8000000 in
set_option maxRecDepth 100000 in
theorem tallboyref27_form.calls (k : Nat) (a0_0 : Int) (a0_1 : ByteArray) (a0_2 : Int) (A0_3 : Option Addr) (c0_3 : Nat) (l0_3 : List (S59)) (r : Int) (w : World) (hr0_3 : Kd.C k59 w A0_3 l0_3.length l0_3) (hc0_3 : l0_3.length ≤ c0_3) (h : tallboyref27_form.f k a0_0 a0_1 a0_2 l0_3 = some r) :
 Calls Tryz.prog 32 #[.agg #[.int .i64 a0_0, .string a0_1, .int .i64 a0_2, .slice A0_3 l0_3.length c0_3]] w fun e w' => e = .returned (.int .i64 r) ∧ Below w.heap.size w w' := by
 have hu24 := Tryz.underlying24
 have hu59 := Tryz.underlying59
 have HR0_3 := Aside0.mk hr0_3
 have HC0_3 := Aside0.mk hc0_3
 clear hr0_3 hc0_3
 have HB := Aside0.mk (Below.refl w.heap.size w)
 have H : (if a0_0 < 1 then (tallboyref27_form.j0 k true a0_0 a0_1 a0_2 l0_3) else (tallboyref27_form.j0 k (decide (a0_0 > 6)) a0_0 a0_1 a0_2 l0_3)) = some r := h
 clear h
 have HC2 := Aside0.mk H
 clear H
 go_enter Tryz.func32, Tryz.ntmps32
 go_upto_block 0 with (first | ((with_reducible refine gate_dst (N := 1) rfl ?_); refine box_event ?hg (N := 1) ?hd (cs := #[.int .i64 a0_0, .string a0_1, .int .i64 a0_2, .slice A0_3 l0_3.length c0_3]) (t := 24) ?hr ?_; (case hd => rfl); (case hg => rfl); (case hr => first | (go_simp; done) | (go_simp; rfl)); intro gb189 hg w3 hbox hb; have n0_ := Aside0.mk (below_step (hbA HB.out) hb); have n1_ := Aside0.mk (hbox); have n2_ := Aside0.mk ((by rw [hg]; exact (below_size (hbA HB.out)) : w.heap.size ≤ gb189)); have n3_ := Aside0.mk ((by rw [hg]; exact (below_size (hbA HB.out)) : w.heap.size ≤ gb189)); clear HB; have HB := n0_; have BK189 := n1_; have GW189 := n2_; have GE189 := n3_; clear n0_ n1_ n2_ n3_; clear hb hbox hg))
 repeat (go_quiet (first | ((with_reducible refine gate_dst (N := 1) rfl ?_); refine box_event ?hg (N := 1) ?hd (cs := #[.int .i64 a0_0, .string a0_1, .int .i64 a0_2, .slice A0_3 l0_3.length c0_3]) (t := 24) ?hr ?_; (case hd => rfl); (case hg => rfl); (case hr => first | (go_simp; done) | (go_simp; rfl)); intro gb189 hg w3 hbox hb; have n0_ := Aside0.mk (below_step (hbA HB.out) hb); have n1_ := Aside0.mk (hbox); have n2_ := Aside0.mk ((by rw [hg]; exact (below_size (hbA HB.out)) : w.heap.size ≤ gb189)); have n3_ := Aside0.mk ((by rw [hg]; exact (below_size (hbA HB.out)) : w.heap.size ≤ gb189)); clear HB; have HB := n0_; have BK189 := n1_; have GW189 := n2_; have GE189 := n3_; clear n0_ n1_ n2_ n3_; clear hb hbox hg)); go_upto_block 0 with (first | ((with_reducible refine gate_dst (N := 1) rfl ?_); refine box_event ?hg (N := 1) ?hd (cs := #[.int .i64 a0_0, .string a0_1, .int .i64 a0_2, .slice A0_3 l0_3.length c0_3]) (t := 24) ?hr ?_; (case hd => rfl); (case hg => rfl); (case hr => first | (go_simp; done) | (go_simp; rfl)); intro gb189 hg w3 hbox hb; have n0_ := Aside0.mk (below_step (hbA HB.out) hb); have n1_ := Aside0.mk (hbox); have n2_ := Aside0.mk ((by rw [hg]; exact (below_size (hbA HB.out)) : w.heap.size ≤ gb189)); have n3_ := Aside0.mk ((by rw [hg]; exact (below_size (hbA HB.out)) : w.heap.size ≤ gb189)); clear HB; have HB := n0_; have BK189 := n1_; have GW189 := n2_; have GE189 := n3_; clear n0_ n1_ n2_ n3_; clear hb hbox hg)))
 (try simp only [Act.put, List.setIfInBounds_toArray, List.set_cons_zero, List.set_cons_succ])
 go_cut [] (fun wc => ∃ (kq : Nat), Aside0 (tallboyref27_form.j1 kq a0_0 a0_1 a0_2 l0_3 = some r) ∧ Aside0 (kq ≤ k) ∧ Aside0 (wc.heap[gb189]? = some (.cells #[.int .i64 a0_0, .string a0_1, .int .i64 a0_2, (.slice A0_3 l0_3.length c0_3)] 24 (0, 0))) ∧ Aside0 (Below w.heap.size w wc))
 case first =>
  have H := HC2.out
  clear HC2
  have HC4 := Aside0.mk H
  clear H
  go_upto_region 1 with (fail)
  repeat (go_quiet (fail); go_upto_region 1 with (fail))
  go_cut [6] (fun v6 wc => ∃ (kq : Nat) (x6_3 : Bool), v6 = .bool x6_3 ∧ Aside0 (tallboyref27_form.j0 kq x6_3 a0_0 a0_1 a0_2 l0_3 = some r) ∧ Aside0 (kq ≤ k) ∧ Aside0 (wc.heap[gb189]? = some (.cells #[.int .i64 a0_0, .string a0_1, .int .i64 a0_2, (.slice A0_3 l0_3.length c0_3)] 24 (0, 0))) ∧ Aside0 (Below w.heap.size w wc))
  case first =>
   have H := HC4.out
   clear HC4
   by_cases c5 : a0_0 < 1
   · rw [if_pos c5] at H
     have c5b0 : decide (a0_0 < 1) = true := decide_eq_true c5
     clear c5
     (first | rw [c5b0] | (simp only [i64_w, i32_w]; rw [c5b0]) | skip)
     have H' := Aside0.mk H
     clear H
     obtain ⟨hcz6_0, hcz6_1, hcz6_2, hcz6_3, hfz6_0, hfz6_1, hfz6_2, hfz6_3⟩ := blkA4 BK189.out
     go_wp2
     repeat (go_quiet (fail); try go_wp2)
     go_meet
     case rel => exact ⟨_, (true), rsA, H', ⟨by first | omega | exact Nat.le_refl _⟩, ⟨rbA BK189.out⟩, ⟨hbA HB.out⟩⟩
   rw [if_neg c5] at H
   have c5b0 : decide (a0_0 < 1) = false := decide_eq_false c5
   clear c5
   (first | rw [c5b0] | (simp only [i64_w, i32_w]; rw [c5b0]) | skip)
   have H' := Aside0.mk H
   clear H
   obtain ⟨hcz7_0, hcz7_1, hcz7_2, hcz7_3, hfz7_0, hfz7_1, hfz7_2, hfz7_3⟩ := blkA4 BK189.out
   go_wp2
   repeat (go_quiet (fail); try go_wp2)
   go_meet
   case rel => exact ⟨_, (decide (a0_0 > 6)), rsA, H', ⟨by first | omega | exact Nat.le_refl _⟩, ⟨rbA BK189.out⟩, ⟨hbA HB.out⟩⟩
  clear HC4
  (try clear p2); (try clear c3); (try clear c5); (try clear c5b0); (try clear hcz6_0); (try clear hcz6_1); (try clear hcz6_2); (try clear hcz6_3); (try clear hcz7_0); (try clear hcz7_1); (try clear hcz7_2); (try clear hcz7_3); (try clear hfz6_0); (try clear hfz6_1); (try clear hfz6_2); (try clear hfz6_3); (try clear hfz7_0); (try clear hfz7_1); (try clear hfz7_2); (try clear hfz7_3)
  obtain ⟨kq, x6_3, rfl, HA, HJ3, BK189, HB⟩ := hcut
  cases kq with
  | zero => exact absurd HA.out (by simp [tallboyref27_form.j0])
  | succ kj3 =>
   have H := HA.out
   clear HA
   simp only [tallboyref27_form.j0] at H
   by_cases c8 : x6_3 = true
   · subst c8
     have H1 : (some 70) = some r := by rw [if_pos rfl] at H; exact H
     clear H
     have H := H1
     clear H1
     obtain rfl := Option.some.inj H
     go_wp2
     repeat (go_quiet (fail); try go_wp2)
     go_ret
     exact ⟨reA, hbA HB.out⟩
   replace c8 := Bool.eq_false_iff.mpr c8
   subst c8
   have H1 : ((tallboyref27_key.f kj3 a0_0 a0_1 a0_2 l0_3).bind fun t190 => (if t190 = true then (if a0_2 < 0 then (some 6) else (if a0_2 > 2147483647 then (some 6) else (if a0_0 = 2 then (tallboyref27_form.j1 kj3 a0_0 a0_1 a0_2 l0_3) else (if a0_2 = 0 then (tallboyref27_form.j1 kj3 a0_0 a0_1 a0_2 l0_3) else (some 6))))) else (some 6))) = some r := by rw [if_neg (show ¬ (false = true) by decide)] at H; exact H
   clear H
   have H := H1
   clear H1
   replace H := Option.bind_eq_some_iff.mp H
   obtain ⟨t190, A90, H⟩ := H
   replace H : (if t190 = true then (if a0_2 < 0 then (some 6) else (if a0_2 > 2147483647 then (some 6) else (if a0_0 = 2 then (tallboyref27_form.j1 kj3 a0_0 a0_1 a0_2 l0_3) else (if a0_2 = 0 then (tallboyref27_form.j1 kj3 a0_0 a0_1 a0_2 l0_3) else (some 6))))) else (some 6)) = some r := H
   have A9 := Aside0.mk A90
   clear A90
   by_cases c10 : t190 = true
   · subst c10
     have H1 : (if a0_2 < 0 then (some 6) else (if a0_2 > 2147483647 then (some 6) else (if a0_0 = 2 then (tallboyref27_form.j1 kj3 a0_0 a0_1 a0_2 l0_3) else (if a0_2 = 0 then (tallboyref27_form.j1 kj3 a0_0 a0_1 a0_2 l0_3) else (some 6))))) = some r := by rw [if_pos rfl] at H; exact H
     clear H
     have H := H1
     clear H1
     by_cases c11 : a0_2 < 0
     · rw [if_pos c11] at H
       have c11b0 : decide (a0_2 < 0) = true := decide_eq_true c11
       clear c11
       obtain rfl := Option.some.inj H
       obtain ⟨hcz12_0, hcz12_1, hcz12_2, hcz12_3, hfz12_0, hfz12_1, hfz12_2, hfz12_3⟩ := blkA4 BK189.out
       go_wp2_with (first | (go_at_call 64; (with_reducible refine (tallboyref27_key.calls kj3 a0_0 a0_1 a0_2 _ _ l0_3 true _ ?side1 ?side2 A9.out).mono ?_); (case side1 => repeat (first | exact (Kd.C_below HR0_3.out HB.out) | (with_reducible refine Kd.C_alloc ?_ _) | (with_reducible refine Kd.C_drewN ?_ _) | (with_reducible refine Kd.C_drew ?_))); (case side2 => exact HC0_3.out); rintro e w13 ⟨rfl, hb⟩; replace BK189 := Aside0.mk (blk_below (g := gb189) (o := .cells #[.int .i64 a0_0, .string a0_1, .int .i64 a0_2, .slice A0_3 l0_3.length c0_3] 24 (0, 0)) (rbA BK189.out) hb); replace HB := Aside0.mk (below_step (hbA HB.out) hb); (try clear hb); (try clear hb2); (try clear hk); (try clear hi); obtain ⟨hcz14_0, hcz14_1, hcz14_2, hcz14_3, hfz14_0, hfz14_1, hfz14_2, hfz14_3⟩ := blkA4 BK189.out))
       repeat (go_quiet (first | (go_at_call 64; (with_reducible refine (tallboyref27_key.calls kj3 a0_0 a0_1 a0_2 _ _ l0_3 true _ ?side1 ?side2 A9.out).mono ?_); (case side1 => repeat (first | exact (Kd.C_below HR0_3.out HB.out) | (with_reducible refine Kd.C_alloc ?_ _) | (with_reducible refine Kd.C_drewN ?_ _) | (with_reducible refine Kd.C_drew ?_))); (case side2 => exact HC0_3.out); rintro e w13 ⟨rfl, hb⟩; replace BK189 := Aside0.mk (blk_below (g := gb189) (o := .cells #[.int .i64 a0_0, .string a0_1, .int .i64 a0_2, .slice A0_3 l0_3.length c0_3] 24 (0, 0)) (rbA BK189.out) hb); replace HB := Aside0.mk (below_step (hbA HB.out) hb); (try clear hb); (try clear hb2); (try clear hk); (try clear hi); obtain ⟨hcz14_0, hcz14_1, hcz14_2, hcz14_3, hfz14_0, hfz14_1, hfz14_2, hfz14_3⟩ := blkA4 BK189.out)); try go_wp2_with (first | (go_at_call 64; (with_reducible refine (tallboyref27_key.calls kj3 a0_0 a0_1 a0_2 _ _ l0_3 true _ ?side1 ?side2 A9.out).mono ?_); (case side1 => repeat (first | exact (Kd.C_below HR0_3.out HB.out) | (with_reducible refine Kd.C_alloc ?_ _) | (with_reducible refine Kd.C_drewN ?_ _) | (with_reducible refine Kd.C_drew ?_))); (case side2 => exact HC0_3.out); rintro e w13 ⟨rfl, hb⟩; replace BK189 := Aside0.mk (blk_below (g := gb189) (o := .cells #[.int .i64 a0_0, .string a0_1, .int .i64 a0_2, .slice A0_3 l0_3.length c0_3] 24 (0, 0)) (rbA BK189.out) hb); replace HB := Aside0.mk (below_step (hbA HB.out) hb); (try clear hb); (try clear hb2); (try clear hk); (try clear hi); obtain ⟨hcz14_0, hcz14_1, hcz14_2, hcz14_3, hfz14_0, hfz14_1, hfz14_2, hfz14_3⟩ := blkA4 BK189.out)))
       go_ret
       exact ⟨reA, hbA HB.out⟩
     rw [if_neg c11] at H
     have c11b0 : decide (a0_2 < 0) = false := decide_eq_false c11
     clear c11
     by_cases c15 : a0_2 > 2147483647
     · rw [if_pos c15] at H
       have c15b0 : decide (2147483647 < a0_2) = true := decide_eq_true c15
       clear c15
       obtain rfl := Option.some.inj H
       obtain ⟨hcz16_0, hcz16_1, hcz16_2, hcz16_3, hfz16_0, hfz16_1, hfz16_2, hfz16_3⟩ := blkA4 BK189.out
       go_wp2_with (first | (go_at_call 64; (with_reducible refine (tallboyref27_key.calls kj3 a0_0 a0_1 a0_2 _ _ l0_3 true _ ?side1 ?side2 A9.out).mono ?_); (case side1 => repeat (first | exact (Kd.C_below HR0_3.out HB.out) | (with_reducible refine Kd.C_alloc ?_ _) | (with_reducible refine Kd.C_drewN ?_ _) | (with_reducible refine Kd.C_drew ?_))); (case side2 => exact HC0_3.out); rintro e w17 ⟨rfl, hb⟩; replace BK189 := Aside0.mk (blk_below (g := gb189) (o := .cells #[.int .i64 a0_0, .string a0_1, .int .i64 a0_2, .slice A0_3 l0_3.length c0_3] 24 (0, 0)) (rbA BK189.out) hb); replace HB := Aside0.mk (below_step (hbA HB.out) hb); (try clear hb); (try clear hb2); (try clear hk); (try clear hi); obtain ⟨hcz18_0, hcz18_1, hcz18_2, hcz18_3, hfz18_0, hfz18_1, hfz18_2, hfz18_3⟩ := blkA4 BK189.out))
       repeat (go_quiet (first | (go_at_call 64; (with_reducible refine (tallboyref27_key.calls kj3 a0_0 a0_1 a0_2 _ _ l0_3 true _ ?side1 ?side2 A9.out).mono ?_); (case side1 => repeat (first | exact (Kd.C_below HR0_3.out HB.out) | (with_reducible refine Kd.C_alloc ?_ _) | (with_reducible refine Kd.C_drewN ?_ _) | (with_reducible refine Kd.C_drew ?_))); (case side2 => exact HC0_3.out); rintro e w17 ⟨rfl, hb⟩; replace BK189 := Aside0.mk (blk_below (g := gb189) (o := .cells #[.int .i64 a0_0, .string a0_1, .int .i64 a0_2, .slice A0_3 l0_3.length c0_3] 24 (0, 0)) (rbA BK189.out) hb); replace HB := Aside0.mk (below_step (hbA HB.out) hb); (try clear hb); (try clear hb2); (try clear hk); (try clear hi); obtain ⟨hcz18_0, hcz18_1, hcz18_2, hcz18_3, hfz18_0, hfz18_1, hfz18_2, hfz18_3⟩ := blkA4 BK189.out)); try go_wp2_with (first | (go_at_call 64; (with_reducible refine (tallboyref27_key.calls kj3 a0_0 a0_1 a0_2 _ _ l0_3 true _ ?side1 ?side2 A9.out).mono ?_); (case side1 => repeat (first | exact (Kd.C_below HR0_3.out HB.out) | (with_reducible refine Kd.C_alloc ?_ _) | (with_reducible refine Kd.C_drewN ?_ _) | (with_reducible refine Kd.C_drew ?_))); (case side2 => exact HC0_3.out); rintro e w17 ⟨rfl, hb⟩; replace BK189 := Aside0.mk (blk_below (g := gb189) (o := .cells #[.int .i64 a0_0, .string a0_1, .int .i64 a0_2, .slice A0_3 l0_3.length c0_3] 24 (0, 0)) (rbA BK189.out) hb); replace HB := Aside0.mk (below_step (hbA HB.out) hb); (try clear hb); (try clear hb2); (try clear hk); (try clear hi); obtain ⟨hcz18_0, hcz18_1, hcz18_2, hcz18_3, hfz18_0, hfz18_1, hfz18_2, hfz18_3⟩ := blkA4 BK189.out)))
       go_ret
       exact ⟨reA, hbA HB.out⟩
     rw [if_neg c15] at H
     have c15b0 : decide (2147483647 < a0_2) = false := decide_eq_false c15
     clear c15
     by_cases c19 : a0_0 = 2
     · rw [if_pos c19] at H
       have c19b0 : (a0_0 == 2) = true := beq_iff_eq.mpr c19
       have c19b1 : (a0_0 != 2) = false := bne_eq_false_iff_eq.mpr c19
       clear c19
       have H' := Aside0.mk H
       clear H
       obtain ⟨hcz20_0, hcz20_1, hcz20_2, hcz20_3, hfz20_0, hfz20_1, hfz20_2, hfz20_3⟩ := blkA4 BK189.out
       go_wp2_with (first | (go_at_call 64; (with_reducible refine (tallboyref27_key.calls kj3 a0_0 a0_1 a0_2 _ _ l0_3 true _ ?side1 ?side2 A9.out).mono ?_); (case side1 => repeat (first | exact (Kd.C_below HR0_3.out HB.out) | (with_reducible refine Kd.C_alloc ?_ _) | (with_reducible refine Kd.C_drewN ?_ _) | (with_reducible refine Kd.C_drew ?_))); (case side2 => exact HC0_3.out); rintro e w21 ⟨rfl, hb⟩; replace BK189 := Aside0.mk (blk_below (g := gb189) (o := .cells #[.int .i64 a0_0, .string a0_1, .int .i64 a0_2, .slice A0_3 l0_3.length c0_3] 24 (0, 0)) (rbA BK189.out) hb); replace HB := Aside0.mk (below_step (hbA HB.out) hb); (try clear hb); (try clear hb2); (try clear hk); (try clear hi); obtain ⟨hcz22_0, hcz22_1, hcz22_2, hcz22_3, hfz22_0, hfz22_1, hfz22_2, hfz22_3⟩ := blkA4 BK189.out))
       repeat (go_quiet (first | (go_at_call 64; (with_reducible refine (tallboyref27_key.calls kj3 a0_0 a0_1 a0_2 _ _ l0_3 true _ ?side1 ?side2 A9.out).mono ?_); (case side1 => repeat (first | exact (Kd.C_below HR0_3.out HB.out) | (with_reducible refine Kd.C_alloc ?_ _) | (with_reducible refine Kd.C_drewN ?_ _) | (with_reducible refine Kd.C_drew ?_))); (case side2 => exact HC0_3.out); rintro e w21 ⟨rfl, hb⟩; replace BK189 := Aside0.mk (blk_below (g := gb189) (o := .cells #[.int .i64 a0_0, .string a0_1, .int .i64 a0_2, .slice A0_3 l0_3.length c0_3] 24 (0, 0)) (rbA BK189.out) hb); replace HB := Aside0.mk (below_step (hbA HB.out) hb); (try clear hb); (try clear hb2); (try clear hk); (try clear hi); obtain ⟨hcz22_0, hcz22_1, hcz22_2, hcz22_3, hfz22_0, hfz22_1, hfz22_2, hfz22_3⟩ := blkA4 BK189.out)); try go_wp2_with (first | (go_at_call 64; (with_reducible refine (tallboyref27_key.calls kj3 a0_0 a0_1 a0_2 _ _ l0_3 true _ ?side1 ?side2 A9.out).mono ?_); (case side1 => repeat (first | exact (Kd.C_below HR0_3.out HB.out) | (with_reducible refine Kd.C_alloc ?_ _) | (with_reducible refine Kd.C_drewN ?_ _) | (with_reducible refine Kd.C_drew ?_))); (case side2 => exact HC0_3.out); rintro e w21 ⟨rfl, hb⟩; replace BK189 := Aside0.mk (blk_below (g := gb189) (o := .cells #[.int .i64 a0_0, .string a0_1, .int .i64 a0_2, .slice A0_3 l0_3.length c0_3] 24 (0, 0)) (rbA BK189.out) hb); replace HB := Aside0.mk (below_step (hbA HB.out) hb); (try clear hb); (try clear hb2); (try clear hk); (try clear hi); obtain ⟨hcz22_0, hcz22_1, hcz22_2, hcz22_3, hfz22_0, hfz22_1, hfz22_2, hfz22_3⟩ := blkA4 BK189.out)))
       go_meet
       case rel => exact ⟨_, H', ⟨by have := HJ3.out; first | omega | exact Nat.le_refl _⟩, ⟨rbA BK189.out⟩, ⟨hbA HB.out⟩⟩
     rw [if_neg c19] at H
     have c19b0 : (a0_0 == 2) = false := beq_eq_false_iff_ne.mpr c19
     have c19b1 : (a0_0 != 2) = true := bne_iff_ne.mpr c19
     by_cases c23 : a0_2 = 0
     · rw [if_pos c23] at H
       have c23b0 : (a0_2 == 0) = true := beq_iff_eq.mpr c23
       have c23b1 : (a0_2 != 0) = false := bne_eq_false_iff_eq.mpr c23
       clear c23
       have H' := Aside0.mk H
       clear H
       obtain ⟨hcz24_0, hcz24_1, hcz24_2, hcz24_3, hfz24_0, hfz24_1, hfz24_2, hfz24_3⟩ := blkA4 BK189.out
       go_wp2_with (first | (go_at_call 64; (with_reducible refine (tallboyref27_key.calls kj3 a0_0 a0_1 a0_2 _ _ l0_3 true _ ?side1 ?side2 A9.out).mono ?_); (case side1 => repeat (first | exact (Kd.C_below HR0_3.out HB.out) | (with_reducible refine Kd.C_alloc ?_ _) | (with_reducible refine Kd.C_drewN ?_ _) | (with_reducible refine Kd.C_drew ?_))); (case side2 => exact HC0_3.out); rintro e w25 ⟨rfl, hb⟩; replace BK189 := Aside0.mk (blk_below (g := gb189) (o := .cells #[.int .i64 a0_0, .string a0_1, .int .i64 a0_2, .slice A0_3 l0_3.length c0_3] 24 (0, 0)) (rbA BK189.out) hb); replace HB := Aside0.mk (below_step (hbA HB.out) hb); (try clear hb); (try clear hb2); (try clear hk); (try clear hi); obtain ⟨hcz26_0, hcz26_1, hcz26_2, hcz26_3, hfz26_0, hfz26_1, hfz26_2, hfz26_3⟩ := blkA4 BK189.out))
       repeat (go_quiet (first | (go_at_call 64; (with_reducible refine (tallboyref27_key.calls kj3 a0_0 a0_1 a0_2 _ _ l0_3 true _ ?side1 ?side2 A9.out).mono ?_); (case side1 => repeat (first | exact (Kd.C_below HR0_3.out HB.out) | (with_reducible refine Kd.C_alloc ?_ _) | (with_reducible refine Kd.C_drewN ?_ _) | (with_reducible refine Kd.C_drew ?_))); (case side2 => exact HC0_3.out); rintro e w25 ⟨rfl, hb⟩; replace BK189 := Aside0.mk (blk_below (g := gb189) (o := .cells #[.int .i64 a0_0, .string a0_1, .int .i64 a0_2, .slice A0_3 l0_3.length c0_3] 24 (0, 0)) (rbA BK189.out) hb); replace HB := Aside0.mk (below_step (hbA HB.out) hb); (try clear hb); (try clear hb2); (try clear hk); (try clear hi); obtain ⟨hcz26_0, hcz26_1, hcz26_2, hcz26_3, hfz26_0, hfz26_1, hfz26_2, hfz26_3⟩ := blkA4 BK189.out)); try go_wp2_with (first | (go_at_call 64; (with_reducible refine (tallboyref27_key.calls kj3 a0_0 a0_1 a0_2 _ _ l0_3 true _ ?side1 ?side2 A9.out).mono ?_); (case side1 => repeat (first | exact (Kd.C_below HR0_3.out HB.out) | (with_reducible refine Kd.C_alloc ?_ _) | (with_reducible refine Kd.C_drewN ?_ _) | (with_reducible refine Kd.C_drew ?_))); (case side2 => exact HC0_3.out); rintro e w25 ⟨rfl, hb⟩; replace BK189 := Aside0.mk (blk_below (g := gb189) (o := .cells #[.int .i64 a0_0, .string a0_1, .int .i64 a0_2, .slice A0_3 l0_3.length c0_3] 24 (0, 0)) (rbA BK189.out) hb); replace HB := Aside0.mk (below_step (hbA HB.out) hb); (try clear hb); (try clear hb2); (try clear hk); (try clear hi); obtain ⟨hcz26_0, hcz26_1, hcz26_2, hcz26_3, hfz26_0, hfz26_1, hfz26_2, hfz26_3⟩ := blkA4 BK189.out)))
       go_meet
       case rel => exact ⟨_, H', ⟨by have := HJ3.out; first | omega | exact Nat.le_refl _⟩, ⟨rbA BK189.out⟩, ⟨hbA HB.out⟩⟩
     rw [if_neg c23] at H
     have c23b0 : (a0_2 == 0) = false := beq_eq_false_iff_ne.mpr c23
     have c23b1 : (a0_2 != 0) = true := bne_iff_ne.mpr c23
     obtain rfl := Option.some.inj H
     obtain ⟨hcz27_0, hcz27_1, hcz27_2, hcz27_3, hfz27_0, hfz27_1, hfz27_2, hfz27_3⟩ := blkA4 BK189.out
     go_wp2_with (first | (go_at_call 64; (with_reducible refine (tallboyref27_key.calls kj3 a0_0 a0_1 a0_2 _ _ l0_3 true _ ?side1 ?side2 A9.out).mono ?_); (case side1 => repeat (first | exact (Kd.C_below HR0_3.out HB.out) | (with_reducible refine Kd.C_alloc ?_ _) | (with_reducible refine Kd.C_drewN ?_ _) | (with_reducible refine Kd.C_drew ?_))); (case side2 => exact HC0_3.out); rintro e w28 ⟨rfl, hb⟩; replace BK189 := Aside0.mk (blk_below (g := gb189) (o := .cells #[.int .i64 a0_0, .string a0_1, .int .i64 a0_2, .slice A0_3 l0_3.length c0_3] 24 (0, 0)) (rbA BK189.out) hb); replace HB := Aside0.mk (below_step (hbA HB.out) hb); (try clear hb); (try clear hb2); (try clear hk); (try clear hi); obtain ⟨hcz29_0, hcz29_1, hcz29_2, hcz29_3, hfz29_0, hfz29_1, hfz29_2, hfz29_3⟩ := blkA4 BK189.out))
     repeat (go_quiet (first | (go_at_call 64; (with_reducible refine (tallboyref27_key.calls kj3 a0_0 a0_1 a0_2 _ _ l0_3 true _ ?side1 ?side2 A9.out).mono ?_); (case side1 => repeat (first | exact (Kd.C_below HR0_3.out HB.out) | (with_reducible refine Kd.C_alloc ?_ _) | (with_reducible refine Kd.C_drewN ?_ _) | (with_reducible refine Kd.C_drew ?_))); (case side2 => exact HC0_3.out); rintro e w28 ⟨rfl, hb⟩; replace BK189 := Aside0.mk (blk_below (g := gb189) (o := .cells #[.int .i64 a0_0, .string a0_1, .int .i64 a0_2, .slice A0_3 l0_3.length c0_3] 24 (0, 0)) (rbA BK189.out) hb); replace HB := Aside0.mk (below_step (hbA HB.out) hb); (try clear hb); (try clear hb2); (try clear hk); (try clear hi); obtain ⟨hcz29_0, hcz29_1, hcz29_2, hcz29_3, hfz29_0, hfz29_1, hfz29_2, hfz29_3⟩ := blkA4 BK189.out)); try go_wp2_with (first | (go_at_call 64; (with_reducible refine (tallboyref27_key.calls kj3 a0_0 a0_1 a0_2 _ _ l0_3 true _ ?side1 ?side2 A9.out).mono ?_); (case side1 => repeat (first | exact (Kd.C_below HR0_3.out HB.out) | (with_reducible refine Kd.C_alloc ?_ _) | (with_reducible refine Kd.C_drewN ?_ _) | (with_reducible refine Kd.C_drew ?_))); (case side2 => exact HC0_3.out); rintro e w28 ⟨rfl, hb⟩; replace BK189 := Aside0.mk (blk_below (g := gb189) (o := .cells #[.int .i64 a0_0, .string a0_1, .int .i64 a0_2, .slice A0_3 l0_3.length c0_3] 24 (0, 0)) (rbA BK189.out) hb); replace HB := Aside0.mk (below_step (hbA HB.out) hb); (try clear hb); (try clear hb2); (try clear hk); (try clear hi); obtain ⟨hcz29_0, hcz29_1, hcz29_2, hcz29_3, hfz29_0, hfz29_1, hfz29_2, hfz29_3⟩ := blkA4 BK189.out)))
     go_ret
     exact ⟨reA, hbA HB.out⟩
   replace c10 := Bool.eq_false_iff.mpr c10
   subst c10
   have H1 : (some 6) = some r := by rw [if_neg (show ¬ (false = true) by decide)] at H; exact H
   clear H
   have H := H1
   clear H1
   obtain rfl := Option.some.inj H
   obtain ⟨hcz30_0, hcz30_1, hcz30_2, hcz30_3, hfz30_0, hfz30_1, hfz30_2, hfz30_3⟩ := blkA4 BK189.out
   go_wp2_with (first | (go_at_call 64; (with_reducible refine (tallboyref27_key.calls kj3 a0_0 a0_1 a0_2 _ _ l0_3 false _ ?side1 ?side2 A9.out).mono ?_); (case side1 => repeat (first | exact (Kd.C_below HR0_3.out HB.out) | (with_reducible refine Kd.C_alloc ?_ _) | (with_reducible refine Kd.C_drewN ?_ _) | (with_reducible refine Kd.C_drew ?_))); (case side2 => exact HC0_3.out); rintro e w31 ⟨rfl, hb⟩; replace BK189 := Aside0.mk (blk_below (g := gb189) (o := .cells #[.int .i64 a0_0, .string a0_1, .int .i64 a0_2, .slice A0_3 l0_3.length c0_3] 24 (0, 0)) (rbA BK189.out) hb); replace HB := Aside0.mk (below_step (hbA HB.out) hb); (try clear hb); (try clear hb2); (try clear hk); (try clear hi)))
   repeat (go_quiet (first | (go_at_call 64; (with_reducible refine (tallboyref27_key.calls kj3 a0_0 a0_1 a0_2 _ _ l0_3 false _ ?side1 ?side2 A9.out).mono ?_); (case side1 => repeat (first | exact (Kd.C_below HR0_3.out HB.out) | (with_reducible refine Kd.C_alloc ?_ _) | (with_reducible refine Kd.C_drewN ?_ _) | (with_reducible refine Kd.C_drew ?_))); (case side2 => exact HC0_3.out); rintro e w31 ⟨rfl, hb⟩; replace BK189 := Aside0.mk (blk_below (g := gb189) (o := .cells #[.int .i64 a0_0, .string a0_1, .int .i64 a0_2, .slice A0_3 l0_3.length c0_3] 24 (0, 0)) (rbA BK189.out) hb); replace HB := Aside0.mk (below_step (hbA HB.out) hb); (try clear hb); (try clear hb2); (try clear hk); (try clear hi))); try go_wp2_with (first | (go_at_call 64; (with_reducible refine (tallboyref27_key.calls kj3 a0_0 a0_1 a0_2 _ _ l0_3 false _ ?side1 ?side2 A9.out).mono ?_); (case side1 => repeat (first | exact (Kd.C_below HR0_3.out HB.out) | (with_reducible refine Kd.C_alloc ?_ _) | (with_reducible refine Kd.C_drewN ?_ _) | (with_reducible refine Kd.C_drew ?_))); (case side2 => exact HC0_3.out); rintro e w31 ⟨rfl, hb⟩; replace BK189 := Aside0.mk (blk_below (g := gb189) (o := .cells #[.int .i64 a0_0, .string a0_1, .int .i64 a0_2, .slice A0_3 l0_3.length c0_3] 24 (0, 0)) (rbA BK189.out) hb); replace HB := Aside0.mk (below_step (hbA HB.out) hb); (try clear hb); (try clear hb2); (try clear hk); (try clear hi))))
   go_ret
   exact ⟨reA, hbA HB.out⟩
 clear HC2
 (try clear c1); (try clear c2); (try clear p2); (try clear c3); (try clear c5); (try clear c5b0); (try clear c8); (try clear c10); (try clear c11); (try clear c11b0); (try clear c15); (try clear c15b0); (try clear c19); (try clear c19b0); (try clear c19b1); (try clear c23); (try clear c23b0); (try clear c23b1); (try clear hcz12_0); (try clear hcz12_1); (try clear hcz12_2); (try clear hcz12_3); (try clear hcz14_0); (try clear hcz14_1); (try clear hcz14_2); (try clear hcz14_3); (try clear hcz16_0); (try clear hcz16_1); (try clear hcz16_2); (try clear hcz16_3); (try clear hcz18_0); (try clear hcz18_1); (try clear hcz18_2); (try clear hcz18_3); (try clear hcz20_0); (try clear hcz20_1); (try clear hcz20_2); (try clear hcz20_3); (try clear hcz22_0); (try clear hcz22_1); (try clear hcz22_2); (try clear hcz22_3); (try clear hcz24_0); (try clear hcz24_1); (try clear hcz24_2); (try clear hcz24_3); (try clear hcz26_0); (try clear hcz26_1); (try clear hcz26_2); (try clear hcz26_3); (try clear hcz27_0); (try clear hcz27_1); (try clear hcz27_2); (try clear hcz27_3); (try clear hcz29_0); (try clear hcz29_1); (try clear hcz29_2); (try clear hcz29_3); (try clear hcz30_0); (try clear hcz30_1); (try clear hcz30_2); (try clear hcz30_3); (try clear hcz6_0); (try clear hcz6_1); (try clear hcz6_2); (try clear hcz6_3); (try clear hcz7_0); (try clear hcz7_1); (try clear hcz7_2); (try clear hcz7_3); (try clear hfz12_0); (try clear hfz12_1); (try clear hfz12_2); (try clear hfz12_3); (try clear hfz14_0); (try clear hfz14_1); (try clear hfz14_2); (try clear hfz14_3); (try clear hfz16_0); (try clear hfz16_1); (try clear hfz16_2); (try clear hfz16_3); (try clear hfz18_0); (try clear hfz18_1); (try clear hfz18_2); (try clear hfz18_3); (try clear hfz20_0); (try clear hfz20_1); (try clear hfz20_2); (try clear hfz20_3); (try clear hfz22_0); (try clear hfz22_1); (try clear hfz22_2); (try clear hfz22_3); (try clear hfz24_0); (try clear hfz24_1); (try clear hfz24_2); (try clear hfz24_3); (try clear hfz26_0); (try clear hfz26_1); (try clear hfz26_2); (try clear hfz26_3); (try clear hfz27_0); (try clear hfz27_1); (try clear hfz27_2); (try clear hfz27_3); (try clear hfz29_0); (try clear hfz29_1); (try clear hfz29_2); (try clear hfz29_3); (try clear hfz30_0); (try clear hfz30_1); (try clear hfz30_2); (try clear hfz30_3); (try clear hfz6_0); (try clear hfz6_1); (try clear hfz6_2); (try clear hfz6_3); (try clear hfz7_0); (try clear hfz7_1); (try clear hfz7_2); (try clear hfz7_3); (try clear p2)
 obtain ⟨kq, HA, HJ1, BK189, HB⟩ := hcut
 cases kq with
 | zero => exact absurd HA.out (by simp [tallboyref27_form.j1])
 | succ kj1 =>
  have H := HA.out
  clear HA
  simp only [tallboyref27_form.j1] at H
  have H' := Aside0.mk H
  clear H
  go_wp2
  repeat (go_quiet (fail); try go_wp2)
  go_loopg [3] kj1 (fun kq v3 w' => ∃ (x3_2 : Int), v3 = .int .i64 x3_2 ∧ Aside0 (tallboyref27_form.l0 kq x3_2 a0_0 a0_1 a0_2 l0_3 = some r) ∧ Aside0 (kq ≤ kj1) ∧ Aside0 (w'.heap[gb189]? = some (.cells #[.int .i64 a0_0, .string a0_1, .int .i64 a0_2, (.slice A0_3 l0_3.length c0_3)] 24 (0, 0))) ∧ Aside0 (Below w.heap.size w w'))
  case atStart => exact ⟨(0), rsA, H', ⟨Nat.le_refl _⟩, ⟨rbA BK189.out⟩, ⟨hbA HB.out⟩⟩
  case round =>
   clear H'
   (try clear c1); (try clear c2); (try clear p2); (try clear c3); (try clear c5); (try clear c5b0); (try clear c8); (try clear c10); (try clear c11); (try clear c11b0); (try clear c15); (try clear c15b0); (try clear c19); (try clear c19b0); (try clear c19b1); (try clear c23); (try clear c23b0); (try clear c23b1); (try clear hcz12_0); (try clear hcz12_1); (try clear hcz12_2); (try clear hcz12_3); (try clear hcz14_0); (try clear hcz14_1); (try clear hcz14_2); (try clear hcz14_3); (try clear hcz16_0); (try clear hcz16_1); (try clear hcz16_2); (try clear hcz16_3); (try clear hcz18_0); (try clear hcz18_1); (try clear hcz18_2); (try clear hcz18_3); (try clear hcz20_0); (try clear hcz20_1); (try clear hcz20_2); (try clear hcz20_3); (try clear hcz22_0); (try clear hcz22_1); (try clear hcz22_2); (try clear hcz22_3); (try clear hcz24_0); (try clear hcz24_1); (try clear hcz24_2); (try clear hcz24_3); (try clear hcz26_0); (try clear hcz26_1); (try clear hcz26_2); (try clear hcz26_3); (try clear hcz27_0); (try clear hcz27_1); (try clear hcz27_2); (try clear hcz27_3); (try clear hcz29_0); (try clear hcz29_1); (try clear hcz29_2); (try clear hcz29_3); (try clear hcz30_0); (try clear hcz30_1); (try clear hcz30_2); (try clear hcz30_3); (try clear hcz6_0); (try clear hcz6_1); (try clear hcz6_2); (try clear hcz6_3); (try clear hcz7_0); (try clear hcz7_1); (try clear hcz7_2); (try clear hcz7_3); (try clear hfz12_0); (try clear hfz12_1); (try clear hfz12_2); (try clear hfz12_3); (try clear hfz14_0); (try clear hfz14_1); (try clear hfz14_2); (try clear hfz14_3); (try clear hfz16_0); (try clear hfz16_1); (try clear hfz16_2); (try clear hfz16_3); (try clear hfz18_0); (try clear hfz18_1); (try clear hfz18_2); (try clear hfz18_3); (try clear hfz20_0); (try clear hfz20_1); (try clear hfz20_2); (try clear hfz20_3); (try clear hfz22_0); (try clear hfz22_1); (try clear hfz22_2); (try clear hfz22_3); (try clear hfz24_0); (try clear hfz24_1); (try clear hfz24_2); (try clear hfz24_3); (try clear hfz26_0); (try clear hfz26_1); (try clear hfz26_2); (try clear hfz26_3); (try clear hfz27_0); (try clear hfz27_1); (try clear hfz27_2); (try clear hfz27_3); (try clear hfz29_0); (try clear hfz29_1); (try clear hfz29_2); (try clear hfz29_3); (try clear hfz30_0); (try clear hfz30_1); (try clear hfz30_2); (try clear hfz30_3); (try clear hfz6_0); (try clear hfz6_1); (try clear hfz6_2); (try clear hfz6_3); (try clear hfz7_0); (try clear hfz7_1); (try clear hfz7_2); (try clear hfz7_3); (try clear p2)
   obtain ⟨x3_2, rfl, HA, HK2, BK189, HB⟩ := hrel
   cases gk with
   | zero => exact absurd HA.out (by simp [tallboyref27_form.l0])
   | succ k2 =>
    have H := HA.out
    clear HA
    simp only [tallboyref27_form.l0] at H
    by_cases c32 : x3_2 < (l0_3.length : Int)
    · rw [if_pos c32] at H
      have c32b0 : decide (x3_2 < (l0_3.length : Int)) = true := decide_eq_true c32
      clear c32
      by_cases c33 : 0 ≤ x3_2
      · rw [if_pos c33] at H
        have c33b0 : decide (0 ≤ x3_2) = true := decide_eq_true c33
        clear c33
        replace H := Option.bind_eq_some_iff.mp H
        obtain ⟨t193, A340, H⟩ := H
        replace H : ((tallboyref27_has.f k2 t193 ((rd_T59 l0_3 x3_2).f0)).bind fun t194 => (if t194 = true then (tallboyref27_form.l1 k2 x3_2 0 a0_0 a0_1 a0_2 l0_3 ((rd_T59 l0_3 x3_2).f0) ((rd_T59 l0_3 x3_2).f1)) else (some 3))) = some r := H
        have A34 := Aside0.mk A340
        clear A340
        replace H := Option.bind_eq_some_iff.mp H
        obtain ⟨t194, A350, H⟩ := H
        replace H : (if t194 = true then (tallboyref27_form.l1 k2 x3_2 0 a0_0 a0_1 a0_2 l0_3 ((rd_T59 l0_3 x3_2).f0) ((rd_T59 l0_3 x3_2).f1)) else (some 3)) = some r := H
        have A35 := Aside0.mk A350
        clear A350
        by_cases c36 : t194 = true
        · subst c36
          have H1 : (tallboyref27_form.l1 k2 x3_2 0 a0_0 a0_1 a0_2 l0_3 ((rd_T59 l0_3 x3_2).f0) ((rd_T59 l0_3 x3_2).f1)) = some r := by rw [if_pos rfl] at H; exact H
          clear H
          have H := H1
          clear H1
          have H' := Aside0.mk H
          clear H
          obtain ⟨hcz37_0, hcz37_1, hcz37_2, hcz37_3, hfz37_0, hfz37_1, hfz37_2, hfz37_3⟩ := blkA4 BK189.out
          have p191 : 0 ≤ (x3_2 : Int) := of_decide_eq_true asA
          have q191 : x3_2 < (l0_3.length : Int) := of_decide_eq_true asA
          obtain ⟨ad191, e191, hx191_0, hx191_1⟩ := at_T59 HR0_3.out x3_2 p191 q191
          cases e191
          replace hx191_0 := (HB.out.cell (World.block_lt_of_cell? w _ hx191_0)).trans hx191_0
          replace hx191_1 := (HB.out.cell (World.block_lt_of_cell? w _ hx191_1)).trans hx191_1
          replace p191 := eq_true p191
          replace q191 := eq_true q191
          go_wp2_with (first | ((with_reducible refine gate_dst (N := 4) rfl ?_); refine box_event ?hg (N := 4) ?hd (cs := #[.int .u8 0, .string (⟨#[]⟩ : ByteArray)]) (t := 59) ?hr ?_; (case hd => rfl); (case hg => rfl); (case hr => first | (go_simp; done) | (go_simp; rfl)); intro gb192 hg w38 hbox hb; have n0_ := Aside0.mk (blk_below (g := gb189) (o := .cells #[.int .i64 a0_0, .string a0_1, .int .i64 a0_2, .slice (some ad191) l0_3.length c0_3] 24 (0, 0)) (rbA BK189.out) hb); have n1_ := Aside0.mk (below_step (hbA HB.out) hb); have n2_ := Aside0.mk (hbox); have n3_ := Aside0.mk ((by rw [hg]; exact (below_size (hbA HB.out)) : w.heap.size ≤ gb192)); have n4_ := Aside0.mk ((by rw [hg]; exact (below_size (hbA HB.out)) : w.heap.size ≤ gb192)); have n5_ := Aside0.mk ((by rw [hg]; exact Nat.ne_of_lt (blk_lt (g := gb189) (o := .cells #[.int .i64 a0_0, .string a0_1, .int .i64 a0_2, .slice (some ad191) l0_3.length c0_3] 24 (0, 0)) (rbA BK189.out)) : gb189 ≠ gb192)); have n6_ := Aside0.mk ((by rw [hg]; exact Nat.ne_of_gt (blk_lt (g := gb189) (o := .cells #[.int .i64 a0_0, .string a0_1, .int .i64 a0_2, .slice (some ad191) l0_3.length c0_3] 24 (0, 0)) (rbA BK189.out)) : gb192 ≠ gb189)); clear BK189; clear HB; have BK189 := n0_; have HB := n1_; have BK192 := n2_; have GW192 := n3_; have GE192 := n4_; have NB189_192 := n5_; have NB192_189 := n6_; clear n0_ n1_ n2_ n3_ n4_ n5_ n6_; clear hb hbox hg; have hnb39 := NB192_189.out; have hnc39 := NB189_192.out; obtain ⟨hcz40_0, hcz40_1, hfz40_0, hfz40_1⟩ := blkA2 BK192.out; obtain ⟨hcz41_0, hcz41_1, hcz41_2, hcz41_3, hfz41_0, hfz41_1, hfz41_2, hfz41_3⟩ := blkA4 BK189.out) | (go_at_call 65; (with_reducible refine (tallboyref27_may.calls a0_0 t193 _ A34.out).mono ?_); rintro e w' ⟨rfl, ⟨nd, rfl⟩⟩; (try first | exact ⟨rfl, _, World.drewN_drewN _ _ _⟩ | exact ⟨rfl, _, Eq.trans (World.drewN_drewN _ _ _) (congrArg (World.drewN _) (Nat.add_assoc _ _ _))⟩)) | (go_at_call 39; (with_reducible refine (tallboyref27_has.calls k2 t193 ((rd_T59 l0_3 x3_2).f0) true _ A35.out).mono ?_); rintro e w' ⟨rfl, ⟨nd, rfl⟩⟩; (try first | exact ⟨rfl, _, World.drewN_drewN _ _ _⟩ | exact ⟨rfl, _, Eq.trans (World.drewN_drewN _ _ _) (congrArg (World.drewN _) (Nat.add_assoc _ _ _))⟩)))
          repeat (go_quiet (first | ((with_reducible refine gate_dst (N := 4) rfl ?_); refine box_event ?hg (N := 4) ?hd (cs := #[.int .u8 0, .string (⟨#[]⟩ : ByteArray)]) (t := 59) ?hr ?_; (case hd => rfl); (case hg => rfl); (case hr => first | (go_simp; done) | (go_simp; rfl)); intro gb192 hg w38 hbox hb; have n0_ := Aside0.mk (blk_below (g := gb189) (o := .cells #[.int .i64 a0_0, .string a0_1, .int .i64 a0_2, .slice (some ad191) l0_3.length c0_3] 24 (0, 0)) (rbA BK189.out) hb); have n1_ := Aside0.mk (below_step (hbA HB.out) hb); have n2_ := Aside0.mk (hbox); have n3_ := Aside0.mk ((by rw [hg]; exact (below_size (hbA HB.out)) : w.heap.size ≤ gb192)); have n4_ := Aside0.mk ((by rw [hg]; exact (below_size (hbA HB.out)) : w.heap.size ≤ gb192)); have n5_ := Aside0.mk ((by rw [hg]; exact Nat.ne_of_lt (blk_lt (g := gb189) (o := .cells #[.int .i64 a0_0, .string a0_1, .int .i64 a0_2, .slice (some ad191) l0_3.length c0_3] 24 (0, 0)) (rbA BK189.out)) : gb189 ≠ gb192)); have n6_ := Aside0.mk ((by rw [hg]; exact Nat.ne_of_gt (blk_lt (g := gb189) (o := .cells #[.int .i64 a0_0, .string a0_1, .int .i64 a0_2, .slice (some ad191) l0_3.length c0_3] 24 (0, 0)) (rbA BK189.out)) : gb192 ≠ gb189)); clear BK189; clear HB; have BK189 := n0_; have HB := n1_; have BK192 := n2_; have GW192 := n3_; have GE192 := n4_; have NB189_192 := n5_; have NB192_189 := n6_; clear n0_ n1_ n2_ n3_ n4_ n5_ n6_; clear hb hbox hg; have hnb39 := NB192_189.out; have hnc39 := NB189_192.out; obtain ⟨hcz40_0, hcz40_1, hfz40_0, hfz40_1⟩ := blkA2 BK192.out; obtain ⟨hcz41_0, hcz41_1, hcz41_2, hcz41_3, hfz41_0, hfz41_1, hfz41_2, hfz41_3⟩ := blkA4 BK189.out) | (go_at_call 65; (with_reducible refine (tallboyref27_may.calls a0_0 t193 _ A34.out).mono ?_); rintro e w' ⟨rfl, ⟨nd, rfl⟩⟩; (try first | exact ⟨rfl, _, World.drewN_drewN _ _ _⟩ | exact ⟨rfl, _, Eq.trans (World.drewN_drewN _ _ _) (congrArg (World.drewN _) (Nat.add_assoc _ _ _))⟩)) | (go_at_call 39; (with_reducible refine (tallboyref27_has.calls k2 t193 ((rd_T59 l0_3 x3_2).f0) true _ A35.out).mono ?_); rintro e w' ⟨rfl, ⟨nd, rfl⟩⟩; (try first | exact ⟨rfl, _, World.drewN_drewN _ _ _⟩ | exact ⟨rfl, _, Eq.trans (World.drewN_drewN _ _ _) (congrArg (World.drewN _) (Nat.add_assoc _ _ _))⟩))); try go_wp2_with (first | ((with_reducible refine gate_dst (N := 4) rfl ?_); refine box_event ?hg (N := 4) ?hd (cs := #[.int .u8 0, .string (⟨#[]⟩ : ByteArray)]) (t := 59) ?hr ?_; (case hd => rfl); (case hg => rfl); (case hr => first | (go_simp; done) | (go_simp; rfl)); intro gb192 hg w38 hbox hb; have n0_ := Aside0.mk (blk_below (g := gb189) (o := .cells #[.int .i64 a0_0, .string a0_1, .int .i64 a0_2, .slice (some ad191) l0_3.length c0_3] 24 (0, 0)) (rbA BK189.out) hb); have n1_ := Aside0.mk (below_step (hbA HB.out) hb); have n2_ := Aside0.mk (hbox); have n3_ := Aside0.mk ((by rw [hg]; exact (below_size (hbA HB.out)) : w.heap.size ≤ gb192)); have n4_ := Aside0.mk ((by rw [hg]; exact (below_size (hbA HB.out)) : w.heap.size ≤ gb192)); have n5_ := Aside0.mk ((by rw [hg]; exact Nat.ne_of_lt (blk_lt (g := gb189) (o := .cells #[.int .i64 a0_0, .string a0_1, .int .i64 a0_2, .slice (some ad191) l0_3.length c0_3] 24 (0, 0)) (rbA BK189.out)) : gb189 ≠ gb192)); have n6_ := Aside0.mk ((by rw [hg]; exact Nat.ne_of_gt (blk_lt (g := gb189) (o := .cells #[.int .i64 a0_0, .string a0_1, .int .i64 a0_2, .slice (some ad191) l0_3.length c0_3] 24 (0, 0)) (rbA BK189.out)) : gb192 ≠ gb189)); clear BK189; clear HB; have BK189 := n0_; have HB := n1_; have BK192 := n2_; have GW192 := n3_; have GE192 := n4_; have NB189_192 := n5_; have NB192_189 := n6_; clear n0_ n1_ n2_ n3_ n4_ n5_ n6_; clear hb hbox hg; have hnb39 := NB192_189.out; have hnc39 := NB189_192.out; obtain ⟨hcz40_0, hcz40_1, hfz40_0, hfz40_1⟩ := blkA2 BK192.out; obtain ⟨hcz41_0, hcz41_1, hcz41_2, hcz41_3, hfz41_0, hfz41_1, hfz41_2, hfz41_3⟩ := blkA4 BK189.out) | (go_at_call 65; (with_reducible refine (tallboyref27_may.calls a0_0 t193 _ A34.out).mono ?_); rintro e w' ⟨rfl, ⟨nd, rfl⟩⟩; (try first | exact ⟨rfl, _, World.drewN_drewN _ _ _⟩ | exact ⟨rfl, _, Eq.trans (World.drewN_drewN _ _ _) (congrArg (World.drewN _) (Nat.add_assoc _ _ _))⟩)) | (go_at_call 39; (with_reducible refine (tallboyref27_has.calls k2 t193 ((rd_T59 l0_3 x3_2).f0) true _ A35.out).mono ?_); rintro e w' ⟨rfl, ⟨nd, rfl⟩⟩; (try first | exact ⟨rfl, _, World.drewN_drewN _ _ _⟩ | exact ⟨rfl, _, Eq.trans (World.drewN_drewN _ _ _) (congrArg (World.drewN _) (Nat.add_assoc _ _ _))⟩))))
          go_loopg [5] k2 (fun kq v5 w' => ∃ (x5_3 : Int), v5 = .int .i64 x5_3 ∧ Aside0 (tallboyref27_form.l1 kq x3_2 x5_3 a0_0 a0_1 a0_2 l0_3 ((rd_T59 l0_3 x3_2).f0) ((rd_T59 l0_3 x3_2).f1) = some r) ∧ Aside0 (kq ≤ k2) ∧ Aside0 (w'.heap[gb189]? = some (.cells #[.int .i64 a0_0, .string a0_1, .int .i64 a0_2, (.slice (some ad191) l0_3.length c0_3)] 24 (0, 0))) ∧ Aside0 (w'.heap[gb192]? = some (.cells #[.int .u8 ((rd_T59 l0_3 x3_2).f0), .string ((rd_T59 l0_3 x3_2).f1)] 59 (0, 0))) ∧ Aside0 (Below w.heap.size w w'))
          case atStart => exact ⟨(0), rsA, H', ⟨Nat.le_refl _⟩, ⟨by (with_reducible repeat (first | refine blk_drewN ?_ _ | refine blk_drew ?_ | refine blk_alloc ?_ _)); refine blk_far ?_ NB189_192.out _; (with_reducible repeat (first | refine blk_drewN ?_ _ | refine blk_drew ?_ | refine blk_alloc ?_ _)); refine blk_far ?_ NB189_192.out _; (with_reducible repeat (first | refine blk_drewN ?_ _ | refine blk_drew ?_ | refine blk_alloc ?_ _)); exact BK189.out⟩, ⟨by (with_reducible repeat (first | refine blk_drewN ?_ _ | refine blk_drew ?_ | refine blk_alloc ?_ _)); refine blk_put (cs := #[.int .u8 ((rd_T59 l0_3 x3_2).f0), .string (⟨#[]⟩ : ByteArray)]) ?_ 1 _ rfl; (with_reducible repeat (first | refine blk_drewN ?_ _ | refine blk_drew ?_ | refine blk_alloc ?_ _)); refine blk_put (cs := #[.int .u8 0, .string (⟨#[]⟩ : ByteArray)]) ?_ 0 _ rfl; (with_reducible repeat (first | refine blk_drewN ?_ _ | refine blk_drew ?_ | refine blk_alloc ?_ _)); exact BK192.out⟩, ⟨hbA HB.out⟩⟩
          case round =>
           clear H'
           (try clear c1); (try clear p1); (try clear q1); (try clear hx1); (try clear c2); (try clear p2); (try clear c3); (try clear c5); (try clear c5b0); (try clear c8); (try clear c10); (try clear c11); (try clear c11b0); (try clear c15); (try clear c15b0); (try clear c19); (try clear c19b0); (try clear c19b1); (try clear p19); (try clear q19); (try clear hx19); (try clear c23); (try clear c23b0); (try clear c23b1); (try clear c32); (try clear c32b0); (try clear c33); (try clear c33b0); (try clear c36); (try clear c39); (try clear hcz12_0); (try clear hcz12_1); (try clear hcz12_2); (try clear hcz12_3); (try clear hcz14_0); (try clear hcz14_1); (try clear hcz14_2); (try clear hcz14_3); (try clear hcz16_0); (try clear hcz16_1); (try clear hcz16_2); (try clear hcz16_3); (try clear hcz18_0); (try clear hcz18_1); (try clear hcz18_2); (try clear hcz18_3); (try clear hcz20_0); (try clear hcz20_1); (try clear hcz20_2); (try clear hcz20_3); (try clear hcz22_0); (try clear hcz22_1); (try clear hcz22_2); (try clear hcz22_3); (try clear hcz24_0); (try clear hcz24_1); (try clear hcz24_2); (try clear hcz24_3); (try clear hcz26_0); (try clear hcz26_1); (try clear hcz26_2); (try clear hcz26_3); (try clear hcz27_0); (try clear hcz27_1); (try clear hcz27_2); (try clear hcz27_3); (try clear hcz29_0); (try clear hcz29_1); (try clear hcz29_2); (try clear hcz29_3); (try clear hcz30_0); (try clear hcz30_1); (try clear hcz30_2); (try clear hcz30_3); (try clear hcz37_0); (try clear hcz37_1); (try clear hcz37_2); (try clear hcz37_3); (try clear hcz40_0); (try clear hcz40_1); (try clear hcz41_0); (try clear hcz41_1); (try clear hcz41_2); (try clear hcz41_3); (try clear hcz6_0); (try clear hcz6_1); (try clear hcz6_2); (try clear hcz6_3); (try clear hcz7_0); (try clear hcz7_1); (try clear hcz7_2); (try clear hcz7_3); (try clear hfz12_0); (try clear hfz12_1); (try clear hfz12_2); (try clear hfz12_3); (try clear hfz14_0); (try clear hfz14_1); (try clear hfz14_2); (try clear hfz14_3); (try clear hfz16_0); (try clear hfz16_1); (try clear hfz16_2); (try clear hfz16_3); (try clear hfz18_0); (try clear hfz18_1); (try clear hfz18_2); (try clear hfz18_3); (try clear hfz20_0); (try clear hfz20_1); (try clear hfz20_2); (try clear hfz20_3); (try clear hfz22_0); (try clear hfz22_1); (try clear hfz22_2); (try clear hfz22_3); (try clear hfz24_0); (try clear hfz24_1); (try clear hfz24_2); (try clear hfz24_3); (try clear hfz26_0); (try clear hfz26_1); (try clear hfz26_2); (try clear hfz26_3); (try clear hfz27_0); (try clear hfz27_1); (try clear hfz27_2); (try clear hfz27_3); (try clear hfz29_0); (try clear hfz29_1); (try clear hfz29_2); (try clear hfz29_3); (try clear hfz30_0); (try clear hfz30_1); (try clear hfz30_2); (try clear hfz30_3); (try clear hfz37_0); (try clear hfz37_1); (try clear hfz37_2); (try clear hfz37_3); (try clear hfz40_0); (try clear hfz40_1); (try clear hfz41_0); (try clear hfz41_1); (try clear hfz41_2); (try clear hfz41_3); (try clear hfz6_0); (try clear hfz6_1); (try clear hfz6_2); (try clear hfz6_3); (try clear hfz7_0); (try clear hfz7_1); (try clear hfz7_2); (try clear hfz7_3); (try clear hx191_0); (try clear hx191_1); (try clear p191); (try clear p2); (try clear q191)
           obtain ⟨x5_3, rfl, HA, HK3, BK189, BK192, HB⟩ := hrel
           cases gk with
           | zero => exact absurd HA.out (by simp [tallboyref27_form.l1])
           | succ k3 =>
            have H := HA.out
            clear HA
            simp only [tallboyref27_form.l1] at H
            by_cases c42 : x5_3 < x3_2
            · rw [if_pos c42] at H
              have c42b0 : decide (x5_3 < x3_2) = true := decide_eq_true c42
              clear c42
              by_cases c43 : 0 ≤ x5_3
              · rw [if_pos c43] at H
                have c43b0 : decide (0 ≤ x5_3) = true := decide_eq_true c43
                clear c43
                by_cases c44 : x5_3 < (l0_3.length : Int)
                · rw [if_pos c44] at H
                  have c44b0 : decide (x5_3 < (l0_3.length : Int)) = true := decide_eq_true c44
                  clear c44
                  by_cases c45 : ((rd_T59 l0_3 x5_3).f0) = ((rd_T59 l0_3 x3_2).f0)
                  · rw [if_pos c45] at H
                    have c45b0 : (((rd_T59 l0_3 x5_3).f0) == ((rd_T59 l0_3 x3_2).f0)) = true := beq_iff_eq.mpr c45
                    have c45b1 : (((rd_T59 l0_3 x5_3).f0) != ((rd_T59 l0_3 x3_2).f0)) = false := bne_eq_false_iff_eq.mpr c45
                    clear c45
                    obtain rfl := Option.some.inj H
                    have hnb46 := NB189_192.out
                    have hnc46 := NB192_189.out
                    obtain ⟨hcz47_0, hcz47_1, hcz47_2, hcz47_3, hfz47_0, hfz47_1, hfz47_2, hfz47_3⟩ := blkA4 BK189.out
                    have p195 : 0 ≤ (x5_3 : Int) := of_decide_eq_true asA
                    have q195 : x5_3 < (l0_3.length : Int) := of_decide_eq_true asA
                    obtain ⟨ad195, e195, hx195_0, hx195_1⟩ := at_T59 HR0_3.out x5_3 p195 q195
                    obtain rfl : ad191 = ad195 := (by injection e195)
                    replace hx195_0 := (HB.out.cell (World.block_lt_of_cell? w _ hx195_0)).trans hx195_0
                    replace hx195_1 := (HB.out.cell (World.block_lt_of_cell? w _ hx195_1)).trans hx195_1
                    replace p195 := eq_true p195
                    replace q195 := eq_true q195
                    obtain ⟨hcz48_0, hcz48_1, hfz48_0, hfz48_1⟩ := blkA2 BK192.out
                    go_wp2
                    repeat (go_quiet (fail); try go_wp2)
                    go_ret
                    exact ⟨reA, hbA HB.out⟩
                  rw [if_neg c45] at H
                  have c45b0 : (((rd_T59 l0_3 x5_3).f0) == ((rd_T59 l0_3 x3_2).f0)) = false := beq_eq_false_iff_ne.mpr c45
                  have c45b1 : (((rd_T59 l0_3 x5_3).f0) != ((rd_T59 l0_3 x3_2).f0)) = true := bne_iff_ne.mpr c45
                  have H' := Aside0.mk H
                  clear H
                  have hnb49 := NB189_192.out
                  have hnc49 := NB192_189.out
                  obtain ⟨hcz50_0, hcz50_1, hcz50_2, hcz50_3, hfz50_0, hfz50_1, hfz50_2, hfz50_3⟩ := blkA4 BK189.out
                  have p195 : 0 ≤ (x5_3 : Int) := of_decide_eq_true asA
                  have q195 : x5_3 < (l0_3.length : Int) := of_decide_eq_true asA
                  obtain ⟨ad195, e195, hx195_0, hx195_1⟩ := at_T59 HR0_3.out x5_3 p195 q195
                  obtain rfl : ad191 = ad195 := (by injection e195)
                  replace hx195_0 := (HB.out.cell (World.block_lt_of_cell? w _ hx195_0)).trans hx195_0
                  replace hx195_1 := (HB.out.cell (World.block_lt_of_cell? w _ hx195_1)).trans hx195_1
                  replace p195 := eq_true p195
                  replace q195 := eq_true q195
                  obtain ⟨hcz51_0, hcz51_1, hfz51_0, hfz51_1⟩ := blkA2 BK192.out
                  go_wp2
                  repeat (go_quiet (fail); try go_wp2)
                  go_roundg k3
                  case measure => have := HJ1.out; have := HK2.out; have := HK3.out; omega
                  case rel => exact ⟨(wrap64 (x5_3 + 1)), rsA, H', ⟨by have := HJ1.out; have := HK2.out; have := HK3.out; omega⟩, ⟨rbA BK189.out⟩, ⟨rbA BK192.out⟩, ⟨hbA HB.out⟩⟩
                rw [if_neg c44] at H
                exact absurd H (by simp)
              rw [if_neg c43] at H
              exact absurd H (by simp)
            rw [if_neg c42] at H
            have c42b0 : decide (x5_3 < x3_2) = false := decide_eq_false c42
            clear c42
            replace H := Option.bind_eq_some_iff.mp H
            obtain ⟨t196, A520, H⟩ := H
            replace H : (if t196 = true then (tallboyref27_form.l0 k3 (wrap64 (x3_2 + 1)) a0_0 a0_1 a0_2 l0_3) else (some 6)) = some r := H
            have A52 := Aside0.mk A520
            clear A520
            by_cases c53 : t196 = true
            · subst c53
              have H1 : (tallboyref27_form.l0 k3 (wrap64 (x3_2 + 1)) a0_0 a0_1 a0_2 l0_3) = some r := by rw [if_pos rfl] at H; exact H
              clear H
              have H := H1
              clear H1
              have H' := Aside0.mk H
              clear H
              have hnb54 := NB189_192.out
              have hnc54 := NB192_189.out
              obtain ⟨hcz55_0, hcz55_1, hcz55_2, hcz55_3, hfz55_0, hfz55_1, hfz55_2, hfz55_3⟩ := blkA4 BK189.out
              obtain ⟨hcz56_0, hcz56_1, hfz56_0, hfz56_1⟩ := blkA2 BK192.out
              go_wp2_with (first | (go_at_call 66; (with_reducible refine (tallboyref27_token.calls k3 a0_0 ((rd_T59 l0_3 x3_2).f0) ((rd_T59 l0_3 x3_2).f1) true _ A52.out).mono ?_); rintro e w' ⟨rfl, ⟨nd, rfl⟩⟩; (try first | exact ⟨rfl, _, World.drewN_drewN _ _ _⟩ | exact ⟨rfl, _, Eq.trans (World.drewN_drewN _ _ _) (congrArg (World.drewN _) (Nat.add_assoc _ _ _))⟩)))
              repeat (go_quiet (first | (go_at_call 66; (with_reducible refine (tallboyref27_token.calls k3 a0_0 ((rd_T59 l0_3 x3_2).f0) ((rd_T59 l0_3 x3_2).f1) true _ A52.out).mono ?_); rintro e w' ⟨rfl, ⟨nd, rfl⟩⟩; (try first | exact ⟨rfl, _, World.drewN_drewN _ _ _⟩ | exact ⟨rfl, _, Eq.trans (World.drewN_drewN _ _ _) (congrArg (World.drewN _) (Nat.add_assoc _ _ _))⟩))); try go_wp2_with (first | (go_at_call 66; (with_reducible refine (tallboyref27_token.calls k3 a0_0 ((rd_T59 l0_3 x3_2).f0) ((rd_T59 l0_3 x3_2).f1) true _ A52.out).mono ?_); rintro e w' ⟨rfl, ⟨nd, rfl⟩⟩; (try first | exact ⟨rfl, _, World.drewN_drewN _ _ _⟩ | exact ⟨rfl, _, Eq.trans (World.drewN_drewN _ _ _) (congrArg (World.drewN _) (Nat.add_assoc _ _ _))⟩))))
              go_roundg k3
              case measure => have := HJ1.out; have := HK2.out; have := HK3.out; omega
              case rel => exact ⟨(wrap64 (x3_2 + 1)), rsA, H', ⟨by have := HJ1.out; have := HK2.out; have := HK3.out; omega⟩, ⟨rbA BK189.out⟩, ⟨hbA HB.out⟩⟩
            replace c53 := Bool.eq_false_iff.mpr c53
            subst c53
            have H1 : (some 6) = some r := by rw [if_neg (show ¬ (false = true) by decide)] at H; exact H
            clear H
            have H := H1
            clear H1
            obtain rfl := Option.some.inj H
            have hnb57 := NB189_192.out
            have hnc57 := NB192_189.out
            obtain ⟨hcz58_0, hcz58_1, hcz58_2, hcz58_3, hfz58_0, hfz58_1, hfz58_2, hfz58_3⟩ := blkA4 BK189.out
            obtain ⟨hcz59_0, hcz59_1, hfz59_0, hfz59_1⟩ := blkA2 BK192.out
            go_wp2_with (first | (go_at_call 66; (with_reducible refine (tallboyref27_token.calls k3 a0_0 ((rd_T59 l0_3 x3_2).f0) ((rd_T59 l0_3 x3_2).f1) false _ A52.out).mono ?_); rintro e w' ⟨rfl, ⟨nd, rfl⟩⟩; (try first | exact ⟨rfl, _, World.drewN_drewN _ _ _⟩ | exact ⟨rfl, _, Eq.trans (World.drewN_drewN _ _ _) (congrArg (World.drewN _) (Nat.add_assoc _ _ _))⟩)))
            repeat (go_quiet (first | (go_at_call 66; (with_reducible refine (tallboyref27_token.calls k3 a0_0 ((rd_T59 l0_3 x3_2).f0) ((rd_T59 l0_3 x3_2).f1) false _ A52.out).mono ?_); rintro e w' ⟨rfl, ⟨nd, rfl⟩⟩; (try first | exact ⟨rfl, _, World.drewN_drewN _ _ _⟩ | exact ⟨rfl, _, Eq.trans (World.drewN_drewN _ _ _) (congrArg (World.drewN _) (Nat.add_assoc _ _ _))⟩))); try go_wp2_with (first | (go_at_call 66; (with_reducible refine (tallboyref27_token.calls k3 a0_0 ((rd_T59 l0_3 x3_2).f0) ((rd_T59 l0_3 x3_2).f1) false _ A52.out).mono ?_); rintro e w' ⟨rfl, ⟨nd, rfl⟩⟩; (try first | exact ⟨rfl, _, World.drewN_drewN _ _ _⟩ | exact ⟨rfl, _, Eq.trans (World.drewN_drewN _ _ _) (congrArg (World.drewN _) (Nat.add_assoc _ _ _))⟩))))
            go_ret
            exact ⟨reA, hbA HB.out⟩
        replace c36 := Bool.eq_false_iff.mpr c36
        subst c36
        have H1 : (some 3) = some r := by rw [if_neg (show ¬ (false = true) by decide)] at H; exact H
        clear H
        have H := H1
        clear H1
        obtain rfl := Option.some.inj H
        obtain ⟨hcz60_0, hcz60_1, hcz60_2, hcz60_3, hfz60_0, hfz60_1, hfz60_2, hfz60_3⟩ := blkA4 BK189.out
        have p191 : 0 ≤ (x3_2 : Int) := of_decide_eq_true asA
        have q191 : x3_2 < (l0_3.length : Int) := of_decide_eq_true asA
        obtain ⟨ad191, e191, hx191_0, hx191_1⟩ := at_T59 HR0_3.out x3_2 p191 q191
        cases e191
        replace hx191_0 := (HB.out.cell (World.block_lt_of_cell? w _ hx191_0)).trans hx191_0
        replace hx191_1 := (HB.out.cell (World.block_lt_of_cell? w _ hx191_1)).trans hx191_1
        replace p191 := eq_true p191
        replace q191 := eq_true q191
        go_wp2_with (first | ((with_reducible refine gate_dst (N := 4) rfl ?_); refine box_event ?hg (N := 4) ?hd (cs := #[.int .u8 0, .string (⟨#[]⟩ : ByteArray)]) (t := 59) ?hr ?_; (case hd => rfl); (case hg => rfl); (case hr => first | (go_simp; done) | (go_simp; rfl)); intro gb192 hg w61 hbox hb; have n0_ := Aside0.mk (blk_below (g := gb189) (o := .cells #[.int .i64 a0_0, .string a0_1, .int .i64 a0_2, .slice (some ad191) l0_3.length c0_3] 24 (0, 0)) (rbA BK189.out) hb); have n1_ := Aside0.mk (below_step (hbA HB.out) hb); have n2_ := Aside0.mk (hbox); have n3_ := Aside0.mk ((by rw [hg]; exact (below_size (hbA HB.out)) : w.heap.size ≤ gb192)); have n4_ := Aside0.mk ((by rw [hg]; exact (below_size (hbA HB.out)) : w.heap.size ≤ gb192)); have n5_ := Aside0.mk ((by rw [hg]; exact Nat.ne_of_lt (blk_lt (g := gb189) (o := .cells #[.int .i64 a0_0, .string a0_1, .int .i64 a0_2, .slice (some ad191) l0_3.length c0_3] 24 (0, 0)) (rbA BK189.out)) : gb189 ≠ gb192)); have n6_ := Aside0.mk ((by rw [hg]; exact Nat.ne_of_gt (blk_lt (g := gb189) (o := .cells #[.int .i64 a0_0, .string a0_1, .int .i64 a0_2, .slice (some ad191) l0_3.length c0_3] 24 (0, 0)) (rbA BK189.out)) : gb192 ≠ gb189)); clear BK189; clear HB; have BK189 := n0_; have HB := n1_; have BK192 := n2_; have GW192 := n3_; have GE192 := n4_; have NB189_192 := n5_; have NB192_189 := n6_; clear n0_ n1_ n2_ n3_ n4_ n5_ n6_; clear hb hbox hg; have hnb62 := NB192_189.out; have hnc62 := NB189_192.out; obtain ⟨hcz63_0, hcz63_1, hfz63_0, hfz63_1⟩ := blkA2 BK192.out; obtain ⟨hcz64_0, hcz64_1, hcz64_2, hcz64_3, hfz64_0, hfz64_1, hfz64_2, hfz64_3⟩ := blkA4 BK189.out) | (go_at_call 65; (with_reducible refine (tallboyref27_may.calls a0_0 t193 _ A34.out).mono ?_); rintro e w' ⟨rfl, ⟨nd, rfl⟩⟩; (try first | exact ⟨rfl, _, World.drewN_drewN _ _ _⟩ | exact ⟨rfl, _, Eq.trans (World.drewN_drewN _ _ _) (congrArg (World.drewN _) (Nat.add_assoc _ _ _))⟩)) | (go_at_call 39; (with_reducible refine (tallboyref27_has.calls k2 t193 ((rd_T59 l0_3 x3_2).f0) false _ A35.out).mono ?_); rintro e w' ⟨rfl, ⟨nd, rfl⟩⟩; (try first | exact ⟨rfl, _, World.drewN_drewN _ _ _⟩ | exact ⟨rfl, _, Eq.trans (World.drewN_drewN _ _ _) (congrArg (World.drewN _) (Nat.add_assoc _ _ _))⟩)))
        repeat (go_quiet (first | ((with_reducible refine gate_dst (N := 4) rfl ?_); refine box_event ?hg (N := 4) ?hd (cs := #[.int .u8 0, .string (⟨#[]⟩ : ByteArray)]) (t := 59) ?hr ?_; (case hd => rfl); (case hg => rfl); (case hr => first | (go_simp; done) | (go_simp; rfl)); intro gb192 hg w61 hbox hb; have n0_ := Aside0.mk (blk_below (g := gb189) (o := .cells #[.int .i64 a0_0, .string a0_1, .int .i64 a0_2, .slice (some ad191) l0_3.length c0_3] 24 (0, 0)) (rbA BK189.out) hb); have n1_ := Aside0.mk (below_step (hbA HB.out) hb); have n2_ := Aside0.mk (hbox); have n3_ := Aside0.mk ((by rw [hg]; exact (below_size (hbA HB.out)) : w.heap.size ≤ gb192)); have n4_ := Aside0.mk ((by rw [hg]; exact (below_size (hbA HB.out)) : w.heap.size ≤ gb192)); have n5_ := Aside0.mk ((by rw [hg]; exact Nat.ne_of_lt (blk_lt (g := gb189) (o := .cells #[.int .i64 a0_0, .string a0_1, .int .i64 a0_2, .slice (some ad191) l0_3.length c0_3] 24 (0, 0)) (rbA BK189.out)) : gb189 ≠ gb192)); have n6_ := Aside0.mk ((by rw [hg]; exact Nat.ne_of_gt (blk_lt (g := gb189) (o := .cells #[.int .i64 a0_0, .string a0_1, .int .i64 a0_2, .slice (some ad191) l0_3.length c0_3] 24 (0, 0)) (rbA BK189.out)) : gb192 ≠ gb189)); clear BK189; clear HB; have BK189 := n0_; have HB := n1_; have BK192 := n2_; have GW192 := n3_; have GE192 := n4_; have NB189_192 := n5_; have NB192_189 := n6_; clear n0_ n1_ n2_ n3_ n4_ n5_ n6_; clear hb hbox hg; have hnb62 := NB192_189.out; have hnc62 := NB189_192.out; obtain ⟨hcz63_0, hcz63_1, hfz63_0, hfz63_1⟩ := blkA2 BK192.out; obtain ⟨hcz64_0, hcz64_1, hcz64_2, hcz64_3, hfz64_0, hfz64_1, hfz64_2, hfz64_3⟩ := blkA4 BK189.out) | (go_at_call 65; (with_reducible refine (tallboyref27_may.calls a0_0 t193 _ A34.out).mono ?_); rintro e w' ⟨rfl, ⟨nd, rfl⟩⟩; (try first | exact ⟨rfl, _, World.drewN_drewN _ _ _⟩ | exact ⟨rfl, _, Eq.trans (World.drewN_drewN _ _ _) (congrArg (World.drewN _) (Nat.add_assoc _ _ _))⟩)) | (go_at_call 39; (with_reducible refine (tallboyref27_has.calls k2 t193 ((rd_T59 l0_3 x3_2).f0) false _ A35.out).mono ?_); rintro e w' ⟨rfl, ⟨nd, rfl⟩⟩; (try first | exact ⟨rfl, _, World.drewN_drewN _ _ _⟩ | exact ⟨rfl, _, Eq.trans (World.drewN_drewN _ _ _) (congrArg (World.drewN _) (Nat.add_assoc _ _ _))⟩))); try go_wp2_with (first | ((with_reducible refine gate_dst (N := 4) rfl ?_); refine box_event ?hg (N := 4) ?hd (cs := #[.int .u8 0, .string (⟨#[]⟩ : ByteArray)]) (t := 59) ?hr ?_; (case hd => rfl); (case hg => rfl); (case hr => first | (go_simp; done) | (go_simp; rfl)); intro gb192 hg w61 hbox hb; have n0_ := Aside0.mk (blk_below (g := gb189) (o := .cells #[.int .i64 a0_0, .string a0_1, .int .i64 a0_2, .slice (some ad191) l0_3.length c0_3] 24 (0, 0)) (rbA BK189.out) hb); have n1_ := Aside0.mk (below_step (hbA HB.out) hb); have n2_ := Aside0.mk (hbox); have n3_ := Aside0.mk ((by rw [hg]; exact (below_size (hbA HB.out)) : w.heap.size ≤ gb192)); have n4_ := Aside0.mk ((by rw [hg]; exact (below_size (hbA HB.out)) : w.heap.size ≤ gb192)); have n5_ := Aside0.mk ((by rw [hg]; exact Nat.ne_of_lt (blk_lt (g := gb189) (o := .cells #[.int .i64 a0_0, .string a0_1, .int .i64 a0_2, .slice (some ad191) l0_3.length c0_3] 24 (0, 0)) (rbA BK189.out)) : gb189 ≠ gb192)); have n6_ := Aside0.mk ((by rw [hg]; exact Nat.ne_of_gt (blk_lt (g := gb189) (o := .cells #[.int .i64 a0_0, .string a0_1, .int .i64 a0_2, .slice (some ad191) l0_3.length c0_3] 24 (0, 0)) (rbA BK189.out)) : gb192 ≠ gb189)); clear BK189; clear HB; have BK189 := n0_; have HB := n1_; have BK192 := n2_; have GW192 := n3_; have GE192 := n4_; have NB189_192 := n5_; have NB192_189 := n6_; clear n0_ n1_ n2_ n3_ n4_ n5_ n6_; clear hb hbox hg; have hnb62 := NB192_189.out; have hnc62 := NB189_192.out; obtain ⟨hcz63_0, hcz63_1, hfz63_0, hfz63_1⟩ := blkA2 BK192.out; obtain ⟨hcz64_0, hcz64_1, hcz64_2, hcz64_3, hfz64_0, hfz64_1, hfz64_2, hfz64_3⟩ := blkA4 BK189.out) | (go_at_call 65; (with_reducible refine (tallboyref27_may.calls a0_0 t193 _ A34.out).mono ?_); rintro e w' ⟨rfl, ⟨nd, rfl⟩⟩; (try first | exact ⟨rfl, _, World.drewN_drewN _ _ _⟩ | exact ⟨rfl, _, Eq.trans (World.drewN_drewN _ _ _) (congrArg (World.drewN _) (Nat.add_assoc _ _ _))⟩)) | (go_at_call 39; (with_reducible refine (tallboyref27_has.calls k2 t193 ((rd_T59 l0_3 x3_2).f0) false _ A35.out).mono ?_); rintro e w' ⟨rfl, ⟨nd, rfl⟩⟩; (try first | exact ⟨rfl, _, World.drewN_drewN _ _ _⟩ | exact ⟨rfl, _, Eq.trans (World.drewN_drewN _ _ _) (congrArg (World.drewN _) (Nat.add_assoc _ _ _))⟩))))
        go_ret
        exact ⟨reA, hbA HB.out⟩
      rw [if_neg c33] at H
      exact absurd H (by simp)
    rw [if_neg c32] at H
    have c32b0 : decide (x3_2 < (l0_3.length : Int)) = false := decide_eq_false c32
    clear c32
    obtain rfl := Option.some.inj H
    obtain ⟨hcz65_0, hcz65_1, hcz65_2, hcz65_3, hfz65_0, hfz65_1, hfz65_2, hfz65_3⟩ := blkA4 BK189.out
    go_wp2
    repeat (go_quiet (fail); try go_wp2)
    go_ret
    exact ⟨reA, hbA HB.out⟩

end
end Go.Proofs.YtfboejlemnfndaaGreatDoor.XMk
end
section
namespace Go.Proofs.YtfboejlemnfndaaGreatDoor.XMk
open Go.RowKit Go.Proofs.YtfboejlemnfndaaGreatDoorW.PrintWords Go.Proofs.YtfboejlemnfndaaGreatDoorW.PrintLast Go.Proofs.YtfboejlemnfndaaGreatDoorW.PrintMore
attribute [local go_sem] extract_sub max2_int min2_int max_two min_two max_three min_three max_four min_four   -- for this text's walks alone
set_option linter.unusedVariables false
set_option linter.unusedSimpArgs false

noncomputable section
def tallboyref27_name.f (a0 : Int) : Option (ByteArray) := if a0 = 1 then (some (⟨#[109, 103]⟩ : ByteArray)) else (if a0 = 2 then (some (⟨#[109, 115]⟩ : ByteArray)) else (if a0 = 3 then (some (⟨#[109, 100]⟩ : ByteArray)) else (if a0 = 4 then (some (⟨#[109, 97]⟩ : ByteArray)) else (if a0 = 5 then (some (⟨#[109, 110]⟩ : ByteArray)) else (if a0 = 6 then (some (⟨#[109, 101]⟩ : ByteArray)) else (some (⟨#[]⟩ : ByteArray)))))))
set_option maxHeartbeats 8000000 in
set_option maxRecDepth 100000 in
theorem tallboyref27_name.calls (a0 : Int) (r : ByteArray) (w : World) (h : tallboyref27_name.f a0 = some r) :
 Calls Tryz.prog 33 #[.int .i64 a0] w fun e w' => e = .returned (.string r) ∧ Drawn0 w w' := by
 have H : (if a0 = 1 then (some (⟨#[109, 103]⟩ : ByteArray)) else (if a0 = 2 then (some (⟨#[109, 115]⟩ : ByteArray)) else (if a0 = 3 then (some (⟨#[109, 100]⟩ : ByteArray)) else (if a0 = 4 then (some (⟨#[109, 97]⟩ : ByteArray)) else (if a0 = 5 then (some (⟨#[109, 110]⟩ : ByteArray)) else (if a0 = 6 then (some (⟨#[109, 101]⟩ : ByteArray)) else (some (⟨#[]⟩ : ByteArray)))))))) = some r := h
 clear h
 by_cases c2 : a0 = 1
 · rw [if_pos c2] at H
   have c2b0 : (a0 == 1) = true := beq_iff_eq.mpr c2
   have c2b1 : (a0 != 1) = false := bne_eq_false_iff_eq.mpr c2
   clear c2
   obtain rfl := Option.some.inj H
   go_enter Tryz.func33, Tryz.ntmps33
   go_wp2
   go_ret
   exact ⟨rsA, drA⟩
 rw [if_neg c2] at H
 have c2b0 : (a0 == 1) = false := beq_eq_false_iff_ne.mpr c2
 have c2b1 : (a0 != 1) = true := bne_iff_ne.mpr c2
 by_cases c3 : a0 = 2
 · rw [if_pos c3] at H
   have c3b0 : (a0 == 2) = true := beq_iff_eq.mpr c3
   have c3b1 : (a0 != 2) = false := bne_eq_false_iff_eq.mpr c3
   clear c3
   obtain rfl := Option.some.inj H
   go_enter Tryz.func33, Tryz.ntmps33
   go_wp2
   go_ret
   exact ⟨rsA, drA⟩
 rw [if_neg c3] at H
 have c3b0 : (a0 == 2) = false := beq_eq_false_iff_ne.mpr c3
 have c3b1 : (a0 != 2) = true := bne_iff_ne.mpr c3
 by_cases c4 : a0 = 3
 · rw [if_pos c4] at H
   have c4b0 : (a0 == 3) = true := beq_iff_eq.mpr c4
   have c4b1 : (a0 != 3) = false := bne_eq_false_iff_eq.mpr c4
   clear c4
   obtain rfl := Option.some.inj H
   go_enter Tryz.func33, Tryz.ntmps33
   go_wp2
   go_ret
   exact ⟨rsA, drA⟩
 rw [if_neg c4] at H
 have c4b0 : (a0 == 3) = false := beq_eq_false_iff_ne.mpr c4
 have c4b1 : (a0 != 3) = true := bne_iff_ne.mpr c4
 by_cases c5 : a0 = 4
 · rw [if_pos c5] at H
   have c5b0 : (a0 == 4) = true := beq_iff_eq.mpr c5
   have c5b1 : (a0 != 4) = false := bne_eq_false_iff_eq.mpr c5
   clear c5
   obtain rfl := Option.some.inj H
   go_enter Tryz.func33, Tryz.ntmps33
   go_wp2
   go_ret
   exact ⟨rsA, drA⟩
 rw [if_neg c5] at H
 have c5b0 : (a0 == 4) = false := beq_eq_false_iff_ne.mpr c5
 have c5b1 : (a0 != 4) = true := bne_iff_ne.mpr c5
 by_cases c6 : a0 = 5
 · rw [if_pos c6] at H
   have c6b0 : (a0 == 5) = true := beq_iff_eq.mpr c6
   have c6b1 : (a0 != 5) = false := bne_eq_false_iff_eq.mpr c6
   clear c6
   obtain rfl := Option.some.inj H
   go_enter Tryz.func33, Tryz.ntmps33
   go_wp2
   go_ret
   exact ⟨rsA, drA⟩
 rw [if_neg c6] at H
 have c6b0 : (a0 == 5) = false := beq_eq_false_iff_ne.mpr c6
 have c6b1 : (a0 != 5) = true := bne_iff_ne.mpr c6
 by_cases c7 : a0 = 6
 · rw [if_pos c7] at H
   have c7b0 : (a0 == 6) = true := beq_iff_eq.mpr c7
   have c7b1 : (a0 != 6) = false := bne_eq_false_iff_eq.mpr c7
   clear c7
   obtain rfl := Option.some.inj H
   go_enter Tryz.func33, Tryz.ntmps33
   go_wp2
   go_ret
   exact ⟨rsA, drA⟩
 rw [if_neg c7] at H
 have c7b0 : (a0 == 6) = false := beq_eq_false_iff_ne.mpr c7
 have c7b1 : (a0 != 6) = true := bne_iff_ne.mpr c7
 obtain rfl := Option.some.inj H
 go_enter Tryz.func33, Tryz.ntmps33
 go_wp2
 go_ret
 exact ⟨rsA, drA⟩

end
end Go.Proofs.YtfboejlemnfndaaGreatDoor.XMk
end
section
namespace Go.Proofs.YtfboejlemnfndaaGreatDoor.XMk
open Go.RowKit Go.Proofs.YtfboejlemnfndaaGreatDoorW.PrintWords Go.Proofs.YtfboejlemnfndaaGreatDoorW.PrintLast Go.Proofs.YtfboejlemnfndaaGreatDoorW.PrintMore
attribute [local go_sem] extract_sub max2_int min2_int max_two min_two max_three min_three max_four min_four   -- for this text's walks alone
set_option linter.unusedVariables false
set_option linter.unusedSimpArgs false

noncomputable section
def tallboyref27_Encode.f (a0 : ByteArray) : Option ByteArray := if a0.size ≤ 1099511627776 then some ⟨(B64.enc a0.data.toList).toArray⟩ else none
def tallboyref27_Encode.LT : ByteArray := ⟨#[65, 66, 67, 68, 69, 70, 71, 72, 73, 74, 75, 76, 77, 78, 79, 80, 81, 82, 83, 84, 85, 86, 87, 88, 89, 90, 97, 98, 99, 100, 101, 102, 103, 104, 105, 106, 107, 108, 109, 110, 111, 112, 113, 114, 115, 116, 117, 118, 119, 120, 121, 122, 48, 49, 50, 51, 52, 53, 54, 55, 56, 57, 43, 47]⟩
theorem tallboyref27_Encode.lt_part : ∀ n : Fin 64, tallboyref27_Encode.LT.extract n.val (n.val + 1) = ⟨#[B64.let8 n.val]⟩ := by decide +kernel
theorem tallboyref27_Encode.part (n : Nat) (h : n < 64) : tallboyref27_Encode.LT.extract n (n + 1) = ⟨#[B64.let8 n]⟩ := tallboyref27_Encode.lt_part ⟨n, h⟩
theorem tallboyref27_Encode.in_ (a0 : ByteArray) (j k : Nat) (h : j + k < a0.size) (hk : k < 3) : wrap64 (((meta_Encode.wd (a0.data.toList.drop j) k : Nat) : Int) * 256 + wrap64 ((a0[j + k]'h).toNat : Int)) = ((meta_Encode.wd (a0.data.toList.drop j) (k + 1) : Nat) : Int) := by
 have hw := meta_Encode.wd_bound (a0.data.toList.drop j) k hk
 have hc := (a0[j + k]'h).toNat_lt
 have e : (a0.data.toList.drop j).getD k 0 = a0[j + k]'h := by
  rw [List.getD_eq_getElem?_getD, List.getElem?_drop, List.getElem?_eq_getElem (by rw [Array.length_toList]; exact h)]
  rfl
 have e2 : meta_Encode.wd (a0.data.toList.drop j) (k + 1) = meta_Encode.wd (a0.data.toList.drop j) k * 256 + (a0[j + k]'h).toNat := by rw [← e]; rfl
 rw [e2]
 unfold wrap64
 omega
theorem tallboyref27_Encode.out_ (D : List UInt8) (k : Nat) (h : D.length ≤ k) : ((meta_Encode.wd D k : Nat) : Int) * 256 = ((meta_Encode.wd D (k + 1) : Nat) : Int) := by
 have e : D.getD k 0 = 0 := by
  rw [List.getD_eq_getElem?_getD, List.getElem?_eq_none h]
  rfl
 conv => rhs; unfold meta_Encode.wd
 rw [e]
 simp
theorem tallboyref27_Encode.four_ (D : List UInt8) (n : Nat) (hn : meta_Encode.wd D 3 = n) : B64.four D = [B64.let8 (n / 262144), B64.let8 (n / 4096 % 64), if 1 < D.length then B64.let8 (n / 64 % 64) else 61, if 2 < D.length then B64.let8 (n % 64) else 61] := by
 rw [← hn, meta_Encode.wd_three]
 rfl
theorem tallboyref27_Encode.ext_ (a b : ByteArray) (h : a.data.toList = b.data.toList) : a = b := by
 obtain ⟨a⟩ := a
 obtain ⟨b⟩ := b
 congr 1
 exact Array.toList_inj.1 h
theorem tallboyref27_Encode.sub_le (P : ByteArray) (a b : Nat) : (sub P a b).size ≤ P.size := by
 show (P.extract a b).size ≤ P.size
 rw [ByteArray.size_extract]
 omega
theorem tallboyref27_Encode.sub_list (P : ByteArray) (b : Nat) : (sub P 0 b).data.toList = P.data.toList.take b := by
 show (P.extract 0 b).data.toList = _
 rw [Lib.extract_data]
 simp
theorem tallboyref27_Encode.on_ (a0 : ByteArray) (acc D : List UInt8) (j : Nat) (hj : j < a0.size) (hD : a0.data.toList.drop j = D) (h : acc ++ B64.enc D = B64.enc a0.data.toList) : (acc ++ B64.four D) ++ B64.enc (a0.data.toList.drop (j + 3)) = B64.enc a0.data.toList := by
 have hne : D ≠ [] := by
  intro e
  have := congrArg List.length hD
  rw [List.length_drop, Array.length_toList, e] at this
  have h2 : a0.data.size = a0.size := rfl
  simp at this
  omega
 rw [← h, B64.enc_step D hne, List.append_assoc, ← hD, List.drop_drop]
theorem tallboyref27_Encode.txt_ (acc F : List UInt8) (X : ByteArray) (h : X.data.toList = F) : ((⟨acc.toArray⟩ : ByteArray) ++ X) = ⟨(acc ++ F).toArray⟩ := by
 refine tallboyref27_Encode.ext_ _ _ ?_
 rw [ByteArray.data_append, Array.toList_append, h]
theorem tallboyref27_Encode.app_ (P : ByteArray) (b : Nat) (l : List UInt8) : (sub P 0 b ++ ⟨l.toArray⟩).data.toList = P.data.toList.take b ++ l := by
 rw [ByteArray.data_append, Array.toList_append, tallboyref27_Encode.sub_list]
set_option maxHeartbeats 4000000 in
set_option maxRecDepth 100000 in
theorem tallboyref27_Encode.calls_ (a0 : ByteArray) (w : World) (hs : a0.size ≤ 1099511627776) :
 Calls Tryz.prog 34 #[.string a0] w fun e w' => e = .returned (.string ⟨(B64.enc a0.data.toList).toArray⟩) ∧ Below w.heap.size w w' := by
 have hdl : a0.data.toList.length = a0.size := Array.length_toList
 have HDL := Lib.hid hdl
 clear hdl
 go_enter Tryz.func34, Tryz.ntmps34
 go_wp2
 go_loopw [3, 4] (fun s i wr => ∃ (acc : List UInt8) (j : Nat), s = .string ⟨acc.toArray⟩ ∧ i = .int .i64 j ∧ j ≤ a0.size + 2 ∧ Aside0 (acc ++ B64.enc (a0.data.toList.drop j) = B64.enc a0.data.toList) ∧ Aside0 (Below w.heap.size w wr)) (fun _ i _ => a0.size - (intOf i).toNat)
 case atStart => exact ⟨[], 0, rfl, rfl, by omega, ⟨rfl⟩, ⟨Below.refl _ _⟩⟩
 case round =>
  obtain ⟨acc, j, rfl, rfl, hj, HA, HB⟩ := hrel
  by_cases hlt : j < a0.size
  · have hlti : (j : Int) < (a0.size : Int) := by omega
    go_wp2
    generalize hD : a0.data.toList.drop j = D at HA
    have HD := Lib.hid hD
    have hdlen : D.length = a0.size - j := by rw [← hD, List.length_drop, HDL.out]
    have HDN := Lib.hid hdlen
    clear hD hdlen
    go_loop [5, 6] (fun n i => ∃ k : Nat, k ≤ 3 ∧ i = .int .i64 k ∧ n = .int .i64 ((meta_Encode.wd D k : Nat) : Int)) (fun _ i => 3 - (intOf i).toNat)
    case atStart => exact ⟨0, by omega, rfl, rfl⟩
    case round =>
     obtain ⟨k, hk, rfl, rfl⟩ := hrel
     by_cases hk3 : k < 3
     · have hw2 := meta_Encode.wd_bound D k hk3
       have hk3i : (k : Int) < 3 := by omega
       have hjk : IntKind.i64.wrap ((j : Int) + (k : Int)) = ((j + k : Nat) : Int) := by rw [i64_w]; unfold wrap64; omega
       have hw5 : IntKind.i64.wrap (((meta_Encode.wd D k : Nat) : Int) * 256) = ((meta_Encode.wd D k * 256 : Nat) : Int) := by rw [i64_w]; unfold wrap64; omega
       by_cases hlt2 : j + k < a0.size
       · have hlt2i : ((j + k : Nat) : Int) < (a0.size : Int) := by omega
         have h0i : (0 : Int) ≤ ((j + k : Nat) : Int) := by omega
         go_wp2
         go_round
         case rel => exact ⟨k + 1, by omega, by go_num, by rw [← HD.out, tallboyref27_Encode.in_ a0 j k hlt2 hk3]⟩
         case measure => simp [intOf]; omega
       have hlt2i : ¬ ((j + k : Nat) : Int) < (a0.size : Int) := by omega
       go_wp2
       go_round
       case rel => exact ⟨k + 1, by omega, by go_num, by rw [tallboyref27_Encode.out_ D k (by have := HDN.out; omega)]⟩
       case measure => simp [intOf]; omega
     obtain rfl : k = 3 := by omega
     have hk3i : ¬ (((3 : Nat) : Int) < 3) := by omega
     have hn : meta_Encode.wd D 3 < 16777216 := by have := meta_Encode.wd_lt D 3; omega
     generalize hN : meta_Encode.wd D 3 = n at hn
     have HN := Lib.hid hN
     clear hN hk3 hk
     obtain ⟨q0, hq0⟩ : ∃ q, q = n / 262144 := ⟨_, rfl⟩
     obtain ⟨q1, hq1⟩ : ∃ q, q = n / 4096 % 64 := ⟨_, rfl⟩
     obtain ⟨q2, hq2⟩ : ∃ q, q = n / 64 % 64 := ⟨_, rfl⟩
     obtain ⟨q3, hq3⟩ : ∃ q, q = n % 64 := ⟨_, rfl⟩
     obtain ⟨r1, hr1⟩ : ∃ q, q = n / 4096 := ⟨_, rfl⟩
     obtain ⟨r2, hr2⟩ : ∃ q, q = n / 64 := ⟨_, rfl⟩
     have e0 : IntKind.i64.wrap ((n : Int) / 262144) = (q0 : Int) := by rw [i64_w]; unfold wrap64; omega
     have e1 : IntKind.i64.wrap ((n : Int) / 4096) = (r1 : Int) := by rw [i64_w]; unfold wrap64; omega
     have e2 : IntKind.i64.wrap ((n : Int) / 64) = (r2 : Int) := by rw [i64_w]; unfold wrap64; omega
     have e3 : Int.tmod (r1 : Int) 64 = (q1 : Int) := by rw [Int.tmod_eq_emod_of_nonneg (by omega)]; omega
     have e4 : Int.tmod (r2 : Int) 64 = (q2 : Int) := by rw [Int.tmod_eq_emod_of_nonneg (by omega)]; omega
     have e5 : Int.tmod (n : Int) 64 = (q3 : Int) := by rw [Int.tmod_eq_emod_of_nonneg (by omega)]; omega
     have l0 : q0 < 64 := by omega
     have w0 : IntKind.i64.wrap ((q0 : Int) + 1) = (q0 : Int) + 1 := by rw [i64_w]; unfold wrap64; omega
     have a0_ : (0 : Int) ≤ (q0 : Int) := by omega
     have b0 : (q0 : Int) ≤ (q0 : Int) + 1 := by omega
     have c0 : (q0 : Int) + 1 ≤ 64 := by omega
     have t0 : sub ⟨#[65, 66, 67, 68, 69, 70, 71, 72, 73, 74, 75, 76, 77, 78, 79, 80, 81, 82, 83, 84, 85, 86, 87, 88, 89, 90, 97, 98, 99, 100, 101, 102, 103, 104, 105, 106, 107, 108, 109, 110, 111, 112, 113, 114, 115, 116, 117, 118, 119, 120, 121, 122, 48, 49, 50, 51, 52, 53, 54, 55, 56, 57, 43, 47]⟩ q0 (q0 + 1) = ⟨#[B64.let8 q0]⟩ := tallboyref27_Encode.part q0 l0
     have L0 := Aside0.mk l0
     clear l0
     have l1 : q1 < 64 := by omega
     have w1 : IntKind.i64.wrap ((q1 : Int) + 1) = (q1 : Int) + 1 := by rw [i64_w]; unfold wrap64; omega
     have a1_ : (0 : Int) ≤ (q1 : Int) := by omega
     have b1 : (q1 : Int) ≤ (q1 : Int) + 1 := by omega
     have c1 : (q1 : Int) + 1 ≤ 64 := by omega
     have t1 : sub ⟨#[65, 66, 67, 68, 69, 70, 71, 72, 73, 74, 75, 76, 77, 78, 79, 80, 81, 82, 83, 84, 85, 86, 87, 88, 89, 90, 97, 98, 99, 100, 101, 102, 103, 104, 105, 106, 107, 108, 109, 110, 111, 112, 113, 114, 115, 116, 117, 118, 119, 120, 121, 122, 48, 49, 50, 51, 52, 53, 54, 55, 56, 57, 43, 47]⟩ q1 (q1 + 1) = ⟨#[B64.let8 q1]⟩ := tallboyref27_Encode.part q1 l1
     have L1 := Aside0.mk l1
     clear l1
     have l2 : q2 < 64 := by omega
     have w2 : IntKind.i64.wrap ((q2 : Int) + 1) = (q2 : Int) + 1 := by rw [i64_w]; unfold wrap64; omega
     have a2_ : (0 : Int) ≤ (q2 : Int) := by omega
     have b2 : (q2 : Int) ≤ (q2 : Int) + 1 := by omega
     have c2 : (q2 : Int) + 1 ≤ 64 := by omega
     have t2 : sub ⟨#[65, 66, 67, 68, 69, 70, 71, 72, 73, 74, 75, 76, 77, 78, 79, 80, 81, 82, 83, 84, 85, 86, 87, 88, 89, 90, 97, 98, 99, 100, 101, 102, 103, 104, 105, 106, 107, 108, 109, 110, 111, 112, 113, 114, 115, 116, 117, 118, 119, 120, 121, 122, 48, 49, 50, 51, 52, 53, 54, 55, 56, 57, 43, 47]⟩ q2 (q2 + 1) = ⟨#[B64.let8 q2]⟩ := tallboyref27_Encode.part q2 l2
     have L2 := Aside0.mk l2
     clear l2
     have l3 : q3 < 64 := by omega
     have w3 : IntKind.i64.wrap ((q3 : Int) + 1) = (q3 : Int) + 1 := by rw [i64_w]; unfold wrap64; omega
     have a3_ : (0 : Int) ≤ (q3 : Int) := by omega
     have b3 : (q3 : Int) ≤ (q3 : Int) + 1 := by omega
     have c3 : (q3 : Int) + 1 ≤ 64 := by omega
     have t3 : sub ⟨#[65, 66, 67, 68, 69, 70, 71, 72, 73, 74, 75, 76, 77, 78, 79, 80, 81, 82, 83, 84, 85, 86, 87, 88, 89, 90, 97, 98, 99, 100, 101, 102, 103, 104, 105, 106, 107, 108, 109, 110, 111, 112, 113, 114, 115, 116, 117, 118, 119, 120, 121, 122, 48, 49, 50, 51, 52, 53, 54, 55, 56, 57, 43, 47]⟩ q3 (q3 + 1) = ⟨#[B64.let8 q3]⟩ := tallboyref27_Encode.part q3 l3
     have L3 := Aside0.mk l3
     clear l3
     have HQ := Lib.hid (And.intro hq0 (And.intro hq1 (And.intro hq2 hq3)))
     clear hq0 hq1 hq2 hq3 hr1 hr2
     go_wp2
     go_quiet (fail)
     have hacc : acc.length ≤ 4398046511104 := meta_Encode.acc_le acc _ _ HA.out (by rw [HDL.out]; exact hs)
     have HACC := Lib.hid hacc
     clear hacc
     generalize hP : (⟨#[B64.let8 q0]⟩ ++ ⟨#[B64.let8 q1]⟩ ++ ⟨#[B64.let8 q2]⟩ ++ ⟨#[B64.let8 q3]⟩ : ByteArray) = P
     have hP4 : P.data.toList = [B64.let8 q0, B64.let8 q1, B64.let8 q2, B64.let8 q3] := by rw [← hP]; rfl
     have hPs : P.size = 4 := by rw [← hP]; rfl
     have HP := Lib.hid hP4
     clear hP hP4
     have hs2 := tallboyref27_Encode.sub_le P 0 2
     have hs3 := tallboyref27_Encode.sub_le P 0 3
     rw [hPs] at hs2 hs3
     by_cases h1 : a0.size - j = 1
     · have hm : IntKind.i64.wrap ((a0.size : Int) - (j : Int)) = 1 := by rw [i64_w]; unfold wrap64; omega
       go_wp2
       all_goals first | (exfalso; have := HACC.out; omega) | exact ⟨⟨acc ++ B64.four D, j + 3, congrArg Value.string (tallboyref27_Encode.txt_ acc _ _ (by refine (tallboyref27_Encode.app_ P 2 [61, 61]).trans ?_; rw [HP.out, tallboyref27_Encode.four_ D n HN.out, HQ.out.1, HQ.out.2.1, HQ.out.2.2.1, HQ.out.2.2.2, if_neg (by rw [HDN.out]; omega), if_neg (by rw [HDN.out]; omega)]; rfl)), by go_num, by omega, ⟨tallboyref27_Encode.on_ a0 acc D j hlt HD.out HA.out⟩, ⟨pw_below_drewN HB.out _⟩⟩, by simp [intOf]; omega⟩
     by_cases h2 : a0.size - j = 2
     · have hm : IntKind.i64.wrap ((a0.size : Int) - (j : Int)) = 2 := by rw [i64_w]; unfold wrap64; omega
       go_wp2
       all_goals first | (exfalso; have := HACC.out; omega) | exact ⟨⟨acc ++ B64.four D, j + 3, congrArg Value.string (tallboyref27_Encode.txt_ acc _ _ (by refine (tallboyref27_Encode.app_ P 3 [61]).trans ?_; rw [HP.out, tallboyref27_Encode.four_ D n HN.out, HQ.out.1, HQ.out.2.1, HQ.out.2.2.1, HQ.out.2.2.2, if_pos (by rw [HDN.out]; omega), if_neg (by rw [HDN.out]; omega)]; rfl)), by go_num, by omega, ⟨tallboyref27_Encode.on_ a0 acc D j hlt HD.out HA.out⟩, ⟨pw_below_drewN HB.out _⟩⟩, by simp [intOf]; omega⟩
     obtain ⟨m, hm0⟩ : ∃ m : Int, IntKind.i64.wrap ((a0.size : Int) - (j : Int)) = m := ⟨_, rfl⟩
     have hm1 : m ≠ 1 := by rw [← hm0, i64_w]; unfold wrap64; omega
     have hm2 : m ≠ 2 := by rw [← hm0, i64_w]; unfold wrap64; omega
     go_wp2
     all_goals first | (exfalso; have := HACC.out; omega) | exact ⟨⟨acc ++ B64.four D, j + 3, congrArg Value.string (tallboyref27_Encode.txt_ acc _ _ (by rw [HP.out, tallboyref27_Encode.four_ D n HN.out, HQ.out.1, HQ.out.2.1, HQ.out.2.2.1, HQ.out.2.2.2, if_pos (by rw [HDN.out]; omega), if_pos (by rw [HDN.out]; omega)])), by go_num, by omega, ⟨tallboyref27_Encode.on_ a0 acc D j hlt HD.out HA.out⟩, ⟨pw_below_drewN HB.out _⟩⟩, by simp [intOf]; omega⟩
  have hlti : ¬ (j : Int) < (a0.size : Int) := by omega
  have hE : acc = B64.enc a0.data.toList := by
   have := HA.out
   rw [List.drop_of_length_le (by rw [HDL.out]; omega), B64.enc_nil, List.append_nil] at this
   exact this
  have HE := Lib.hid hE
  clear hE HA
  go_wp2
  go_ret
  rw [HE.out]
  exact ⟨rfl, HB.out⟩
theorem tallboyref27_Encode.calls (a0 : ByteArray) (r : ByteArray) (w : World) (h : tallboyref27_Encode.f a0 = some r) :
 Calls Tryz.prog 34 #[.string a0] w fun e w' => e = .returned (.string r) ∧ Below w.heap.size w w' := by
 unfold tallboyref27_Encode.f at h
 split at h
 · injection h with h
   subst h
   exact tallboyref27_Encode.calls_ a0 w (by assumption)
 cases h

end
end Go.Proofs.YtfboejlemnfndaaGreatDoor.XMk
end
section
namespace Go.Proofs.YtfboejlemnfndaaGreatDoor.XMk
open Go.RowKit Go.Proofs.YtfboejlemnfndaaGreatDoorW.PrintWords Go.Proofs.YtfboejlemnfndaaGreatDoorW.PrintLast Go.Proofs.YtfboejlemnfndaaGreatDoorW.PrintMore
attribute [local go_sem] extract_sub max2_int min2_int max_two min_two max_three min_three max_four min_four   -- for this text's walks alone
set_option linter.unusedVariables false
set_option linter.unusedSimpArgs false

noncomputable section
def tallboyref02_Text.l0 : Nat → Int → ByteArray → Option (ByteArray)
 | 0, _, _ => none
 | k + 1, x0, x3 => if x0 > 0 then ((some (([(IntKind.u64.wrap (48 + (Int.tmod x0 10))) % 256] : List Int) : List Int)).bind fun y200 => (if (strOfNums y200).size + x3.size ≤ 9223372036854775807 then (tallboyref02_Text.l0 k (IntKind.u64.wrap (Int.tdiv x0 10)) ((strOfNums y200) ++ x3)) else (none))) else (some x3)
def tallboyref02_Text.f (k : Nat) (a0 : Int) : Option (ByteArray) := tallboyref02_Text.l0 k (IntKind.u64.wrap (Int.tdiv a0 10)) (strOfNums (([(IntKind.u64.wrap (48 + (Int.tmod a0 10))) % 256] : List Int)))
theorem tallboyref02_Text.mono_l : ∀ k, (∀ y0 y1, LeO (tallboyref02_Text.l0 k y0 y1) (tallboyref02_Text.l0 (k + 1) y0 y1))
 | 0 => fun _ _ r h => by simp [tallboyref02_Text.l0] at h
 | k + 1 => by
  have ih0 := tallboyref02_Text.mono_l k
  · intro y0 y1
    unfold tallboyref02_Text.l0
    repeat' first
    | (with_reducible exact ih0 _ _)
    | (with_reducible exact LeO.refl _)
    | (with_reducible exact LeO.none _)
    | (with_reducible refine LeO.ite ?_ ?_)
    | (with_reducible refine LeO.bind ?_ (fun _ => ?_))
    | exact ih0 _ _
    | exact LeO.none _
    | refine LeO.ite ?_ ?_
    | refine LeO.bind ?_ (fun _ => ?_)
theorem tallboyref02_Text.mono : ∀ a0 k, LeO (tallboyref02_Text.f k a0) (tallboyref02_Text.f (k + 1) a0) := by
 intro a0 k
 have ih0 := tallboyref02_Text.mono_l k
 unfold tallboyref02_Text.f
 repeat' first
  | (with_reducible exact ih0 _ _)
  | (with_reducible exact LeO.refl _)
  | (with_reducible exact LeO.none _)
  | (with_reducible refine LeO.ite ?_ ?_)
  | (with_reducible refine LeO.bind ?_ (fun _ => ?_))
  | exact ih0 _ _
  | exact LeO.none _
  | refine LeO.ite ?_ ?_
  | refine LeO.bind ?_ (fun _ => ?_)
set_option maxHeartbeats 8000000 in
set_option maxRecDepth 100000 in
theorem tallboyref02_Text.calls (k : Nat) (a0 : Int) (r : ByteArray) (w : World) (h : tallboyref02_Text.f k a0 = some r) :
 Calls Tryz.prog 35 #[.int .u64 a0] w fun e w' => e = .returned (.string r) ∧ Below w.heap.size w w' := by
 have HB := Aside0.mk (Below.refl w.heap.size w)
 have H : (tallboyref02_Text.l0 k (IntKind.u64.wrap (Int.tdiv a0 10)) (strOfNums (([(IntKind.u64.wrap (48 + (Int.tmod a0 10))) % 256] : List Int)))) = some r := h
 clear h
 obtain ⟨y197, hy197⟩ : ∃ y_ : List Int, y_ = (([(IntKind.u64.wrap (48 + (Int.tmod a0 10))) % 256] : List Int)) := ⟨_, rfl⟩
 replace H : (tallboyref02_Text.l0 k (IntKind.u64.wrap (Int.tdiv a0 10)) (strOfNums y197)) = some r := by first | (rw [hy197]; with_reducible exact H) | (have H2_ := (Option.bind_some _ _).symm.trans H; rw [hy197]; with_reducible exact H2_) | (have H2_ := (Option.bind_some _ _).symm.trans H; with_reducible exact H2_) | with_reducible exact H | (rw [hy197]; exact H) | exact H
 have Ny197 := Aside0.mk hy197
 clear hy197
 have H' := Aside0.mk H
 clear H
 go_enter Tryz.func35, Tryz.ntmps35
 go_wp2_with (first | ((with_reducible refine gate_dst (N := 8) rfl ?_); refine Kd.R_lit (Kd.int .u8) _ 5 ?hg (N := 8) ?hd (xs := ([(IntKind.u64.wrap (48 + (Int.tmod a0 10))) % 256] : List Int)) (inner := [.int .u8 ((IntKind.u64.wrap (48 + (Int.tmod a0 10))) % 256)]) (ok := fun _ => True) (okp := fun _ => True) ?hr ?hp (fun _ hk => hk) trivial (Below.refl _ _) (Nat.le_refl _) (by simp) ?_; (case hd => rfl); (case hg => rfl); (case hr => first | (go_simp; done) | (go_simp; rfl)); (case hp => exact (Reps.one (show Kd.M (Kd.int .u8) _ _ _ ((IntKind.u64.wrap (48 + (Int.tmod a0 10))) % 256) [.int .u8 ((IntKind.u64.wrap (48 + (Int.tmod a0 10))) % 256)] from rfl) (Reps.none _ _))); intro v198 w2 ho3 hb hg_ hnew_; clear hg_ hnew_; (first | rw [← Ny197.out] at ho3 | (simp only [Int.reduceToNat] at ho3; rw [← Ny197.out] at ho3)); have n0_ := Aside0.mk (Kd.R_lower ho3 (below_size (hbA HB.out))); have n1_ := Aside0.mk (below_step (hbA HB.out) hb); clear HB; have HO199 := n0_; have HB := n1_; clear n0_ n1_; clear hb ho3; have hcv4 := own_string (P := Tryz.prog) Tryz.underlying70 Tryz.underlying5 Tryz.underlying9 (Kd.own_of_R HO199.out)))
 go_loopg [0, 3] k (fun kq v0 v3 w' => ∃ (x0_1 : Int) (x3_1 : ByteArray), v0 = .int .u64 x0_1 ∧ v3 = .string x3_1 ∧ Aside0 (tallboyref02_Text.l0 kq x0_1 x3_1 = some r) ∧ Aside0 (kq ≤ k) ∧ Aside0 (Below w.heap.size w w'))
 case atStart => exact ⟨(IntKind.u64.wrap (Int.tdiv a0 10)), (strOfNums y197), rsA, rsA, H', ⟨Nat.le_refl _⟩, ⟨hbA HB.out⟩⟩
 case round =>
  clear H'
  (try clear p2); (try clear c3); (try clear hcv4)
  obtain ⟨x0_1, x3_1, rfl, rfl, HA, HK1, HB⟩ := hrel
  cases gk with
  | zero => exact absurd HA.out (by simp [tallboyref02_Text.l0])
  | succ k1 =>
   have H := HA.out
   clear HA
   simp only [tallboyref02_Text.l0] at H
   by_cases c5 : x0_1 > 0
   · rw [if_pos c5] at H
     have c5b0 : decide (0 < x0_1) = true := decide_eq_true c5
     clear c5
     obtain ⟨y200, hy200⟩ : ∃ y_ : List Int, y_ = (([(IntKind.u64.wrap (48 + (Int.tmod x0_1 10))) % 256] : List Int)) := ⟨_, rfl⟩
     replace H : (if (strOfNums y200).size + x3_1.size ≤ 9223372036854775807 then (tallboyref02_Text.l0 k1 (IntKind.u64.wrap (Int.tdiv x0_1 10)) ((strOfNums y200) ++ x3_1)) else (none)) = some r := by first | (rw [hy200]; with_reducible exact H) | (have H2_ := (Option.bind_some _ _).symm.trans H; rw [hy200]; with_reducible exact H2_) | (have H2_ := (Option.bind_some _ _).symm.trans H; with_reducible exact H2_) | with_reducible exact H | (rw [hy200]; exact H) | exact H
     have Ny200 := Aside0.mk hy200
     clear hy200
     by_cases c6 : (strOfNums y200).size + x3_1.size ≤ 9223372036854775807
     · rw [if_pos c6] at H
       have c6b0 := eq_true c6
       have c6b1 : decide ((strOfNums y200).size + x3_1.size ≤ 9223372036854775807) = true := decide_eq_true c6
       try have c6b2 : (9223372036854775807 < (strOfNums y200).size + x3_1.size) = False := eq_false (Nat.not_lt.2 c6)
       have H' := Aside0.mk H
       clear H
       go_wp2_with (first | ((with_reducible refine gate_dst (N := 20) rfl ?_); refine Kd.R_lit (Kd.int .u8) _ 5 ?hg (N := 20) ?hd (xs := ([(IntKind.u64.wrap (48 + (Int.tmod x0_1 10))) % 256] : List Int)) (inner := [.int .u8 ((IntKind.u64.wrap (48 + (Int.tmod x0_1 10))) % 256)]) (ok := fun _ => True) (okp := fun _ => True) ?hr ?hp (fun _ hk => hk) trivial (Below.refl _ _) (Nat.le_refl _) (by simp) ?_; (case hd => rfl); (case hg => rfl); (case hr => first | (go_simp; done) | (go_simp; rfl)); (case hp => exact (Reps.one (show Kd.M (Kd.int .u8) _ _ _ ((IntKind.u64.wrap (48 + (Int.tmod x0_1 10))) % 256) [.int .u8 ((IntKind.u64.wrap (48 + (Int.tmod x0_1 10))) % 256)] from rfl) (Reps.none _ _))); intro v201 w7 ho8 hb hg_ hnew_; clear hg_ hnew_; (first | rw [← Ny200.out] at ho8 | (simp only [Int.reduceToNat] at ho8; rw [← Ny200.out] at ho8)); have n0_ := Aside0.mk (Kd.R_lower ho8 (below_size (hbA HB.out))); have n1_ := Aside0.mk (below_step (hbA HB.out) hb); clear HB; have HO202 := n0_; have HB := n1_; clear n0_ n1_; clear hb ho8; have hcv9 := own_string (P := Tryz.prog) Tryz.underlying70 Tryz.underlying5 Tryz.underlying9 (Kd.own_of_R HO202.out)))
       go_roundg k1
       case measure => have := HK1.out; omega
       case rel => exact ⟨(IntKind.u64.wrap (Int.tdiv x0_1 10)), ((strOfNums y200) ++ x3_1), rsA, rsA, H', ⟨by have := HK1.out; omega⟩, ⟨hbA HB.out⟩⟩
     rw [if_neg c6] at H
     exact absurd H (by simp)
   rw [if_neg c5] at H
   have c5b0 : decide (0 < x0_1) = false := decide_eq_false c5
   clear c5
   obtain rfl := Option.some.inj H
   go_wp2
   go_ret
   exact ⟨reA, hbA HB.out⟩

end
end Go.Proofs.YtfboejlemnfndaaGreatDoor.XMk
end
section
namespace Go.Proofs.YtfboejlemnfndaaGreatDoor.XMk
open Go.RowKit Go.Proofs.YtfboejlemnfndaaGreatDoorW.PrintWords Go.Proofs.YtfboejlemnfndaaGreatDoorW.PrintLast Go.Proofs.YtfboejlemnfndaaGreatDoorW.PrintMore
attribute [local go_sem] extract_sub max2_int min2_int max_two min_two max_three min_three max_four min_four   -- for this text's walks alone
set_option linter.unusedVariables false
set_option linter.unusedSimpArgs false

noncomputable section
mutual
def tallboyref27_Write.j0 : Nat → ByteArray → Int → ByteArray → Int → List (S59) → Option (ByteArray × Int)
 | 0, _, _, _, _, _ => none
 | k + 1, x5, x204000, x204001, x204002, x204003 => if x204000 = 2 then (if x5.size + 1 ≤ 9223372036854775807 then ((tallboyref02_Text.f k (IntKind.u64.wrap (x204002))).bind fun t209 => (if (x5 ++ (⟨#[32]⟩ : ByteArray)).size + t209.size ≤ 9223372036854775807 then (tallboyref27_Write.j1 k ((x5 ++ (⟨#[32]⟩ : ByteArray)) ++ t209) x204000 x204001 x204002 x204003) else (none))) else (none)) else (tallboyref27_Write.j1 k x5 x204000 x204001 x204002 x204003)
def tallboyref27_Write.j1 : Nat → ByteArray → Int → ByteArray → Int → List (S59) → Option (ByteArray × Int)
 | 0, _, _, _, _, _ => none
 | k + 1, x5, x204000, x204001, x204002, x204003 => tallboyref27_Write.l0 k x5 0 x204000 x204001 x204002 x204003
def tallboyref27_Write.l0 : Nat → ByteArray → Int → Int → ByteArray → Int → List (S59) → Option (ByteArray × Int)
 | 0, _, _, _, _, _, _ => none
 | k + 1, x5, x8, x204000, x204001, x204002, x204003 => if x8 < (x204003.length : Int) then (if x5.size + 1 ≤ 9223372036854775807 then (if 0 ≤ x8 then ((some (([(rd_T59 x204003 x8).f0] : List Int) : List Int)).bind fun y211 => (if (x5 ++ (⟨#[32]⟩ : ByteArray)).size + (strOfNums y211).size ≤ 9223372036854775807 then (if ((x5 ++ (⟨#[32]⟩ : ByteArray)) ++ (strOfNums y211)).size + ((rd_T59 x204003 x8).f1).size ≤ 9223372036854775807 then (tallboyref27_Write.l0 k (((x5 ++ (⟨#[32]⟩ : ByteArray)) ++ (strOfNums y211)) ++ ((rd_T59 x204003 x8).f1)) (wrap64 (x8 + 1)) x204000 x204001 x204002 x204003) else (none)) else (none))) else (none)) else (none)) else (if (x5.size : Int) > 160 then (some ((⟨#[]⟩ : ByteArray), 7)) else (some (x5, 0)))
end
def tallboyref27_Write.f (k : Nat) (a0_0 : Int) (a0_1 : ByteArray) (a0_2 : Int) (l0_3 : List (S59)) : Option (ByteArray × Int) := (tallboyref27_form.f k a0_0 a0_1 a0_2 l0_3).bind fun t204 => (if t204 = 0 then ((tallboyref27_name.f a0_0).bind fun t205 => ((tallboyref27_Find.f k a0_0 a0_1 a0_2 l0_3 98).bind fun bt206 => (if a0_0 = 5 then (tallboyref27_Write.j0 k t205 a0_0 a0_1 a0_2 l0_3) else (if bt206.2 = true then (if t205.size + 1 ≤ 9223372036854775807 then ((tallboyref27_Encode.f a0_1).bind fun t208 => (if (t205 ++ (⟨#[32]⟩ : ByteArray)).size + t208.size ≤ 9223372036854775807 then (tallboyref27_Write.j0 k ((t205 ++ (⟨#[32]⟩ : ByteArray)) ++ t208) a0_0 a0_1 a0_2 l0_3) else (none))) else (none)) else (if t205.size + 1 ≤ 9223372036854775807 then (if (t205 ++ (⟨#[32]⟩ : ByteArray)).size + a0_1.size ≤ 9223372036854775807 then (tallboyref27_Write.j0 k ((t205 ++ (⟨#[32]⟩ : ByteArray)) ++ a0_1) a0_0 a0_1 a0_2 l0_3) else (none)) else (none)))))) else (some ((⟨#[]⟩ : ByteArray), t204)))
theorem tallboyref27_Write.mono_l : ∀ k, (∀ y0 y1 y2 y3 y4, LeO (tallboyref27_Write.j0 k y0 y1 y2 y3 y4) (tallboyref27_Write.j0 (k + 1) y0 y1 y2 y3 y4)) ∧ (∀ y0 y1 y2 y3 y4, LeO (tallboyref27_Write.j1 k y0 y1 y2 y3 y4) (tallboyref27_Write.j1 (k + 1) y0 y1 y2 y3 y4)) ∧ (∀ y0 y1 y2 y3 y4 y5, LeO (tallboyref27_Write.l0 k y0 y1 y2 y3 y4 y5) (tallboyref27_Write.l0 (k + 1) y0 y1 y2 y3 y4 y5))
 | 0 => ⟨fun _ _ _ _ _ r h => by simp [tallboyref27_Write.j0] at h, fun _ _ _ _ _ r h => by simp [tallboyref27_Write.j1] at h, fun _ _ _ _ _ _ r h => by simp [tallboyref27_Write.l0] at h⟩
 | k + 1 => by
  obtain ⟨ih0, ih1, ih2⟩ := tallboyref27_Write.mono_l k
  refine ⟨?_, ?_, ?_⟩
  all_goals
   intros
   first | unfold tallboyref27_Write.j0 | unfold tallboyref27_Write.j1 | unfold tallboyref27_Write.l0
   repeat' first
   | (with_reducible exact ih0 _ _ _ _ _)
   | (with_reducible exact ih1 _ _ _ _ _)
   | (with_reducible exact ih2 _ _ _ _ _ _)
   | (with_reducible exact tallboyref02_Text.mono _ _)
   | (with_reducible exact tallboyref27_Find.mono _ _ _ _ _ _)
   | (with_reducible exact tallboyref27_form.mono _ _ _ _ _)
   | (with_reducible exact LeO.refl _)
   | (with_reducible exact LeO.none _)
   | (with_reducible refine LeO.ite ?_ ?_)
   | (with_reducible refine LeO.bind ?_ (fun _ => ?_))
   | exact ih0 _ _ _ _ _
   | exact ih1 _ _ _ _ _
   | exact ih2 _ _ _ _ _ _
   | exact tallboyref02_Text.mono _ _
   | exact tallboyref27_Find.mono _ _ _ _ _ _
   | exact tallboyref27_form.mono _ _ _ _ _
   | exact LeO.none _
   | refine LeO.ite ?_ ?_
   | refine LeO.bind ?_ (fun _ => ?_)
theorem tallboyref27_Write.mono : ∀ a0 a1 a2 a3 k, LeO (tallboyref27_Write.f k a0 a1 a2 a3) (tallboyref27_Write.f (k + 1) a0 a1 a2 a3) := by
 intro a0 a1 a2 a3 k
 obtain ⟨ih0, ih1, ih2⟩ := tallboyref27_Write.mono_l k
 unfold tallboyref27_Write.f
 repeat' first
  | (with_reducible exact ih0 _ _ _ _ _)
  | (with_reducible exact ih1 _ _ _ _ _)
  | (with_reducible exact ih2 _ _ _ _ _ _)
  | (with_reducible exact tallboyref02_Text.mono _ _)
  | (with_reducible exact tallboyref27_Find.mono _ _ _ _ _ _)
  | (with_reducible exact tallboyref27_form.mono _ _ _ _ _)
  | (with_reducible exact LeO.refl _)
  | (with_reducible exact LeO.none _)
  | (with_reducible refine LeO.ite ?_ ?_)
  | (with_reducible refine LeO.bind ?_ (fun _ => ?_))
  | exact ih0 _ _ _ _ _
  | exact ih1 _ _ _ _ _
  | exact ih2 _ _ _ _ _ _
  | exact tallboyref02_Text.mono _ _
  | exact tallboyref27_Find.mono _ _ _ _ _ _
  | exact tallboyref27_form.mono _ _ _ _ _
  | exact LeO.none _
  | refine LeO.ite ?_ ?_
  | refine LeO.bind ?_ (fun _ => ?_)
def tallboyref27_Write.T15 : Bool × List (List Nat × List Nat) := (true, [([], []), ([0], [0]), ([], []), ([2], [2]), ([], []), ([3, 4], [3, 4]), ([5], [5]), ([6], [6]), ([7], [7]), ([8], [8]), ([1, 9], [1, 9]), ([], []), ([11], [11]), ([], []), ([12, 13], [12, 13]), ([14], [14]), ([15], [15]), ([10, 16], [10, 16]), ([17, 0, 1, 2, 3, 4, 5, 6, 7, 8, 9, 10, 11, 12, 13, 14, 15, 16, 17], [0, 17])])
def tallboyref27_Write.B15 : List Nat := [0, 1, 0, 4, 0, 28, 60, 124, 252, 508, 1023, 0, 2048, 0, 14336, 30720, 63488, 131071, 262143]
theorem tallboyref27_Write.tab15 : rtab .any (opsOf Tryz.f12 15) = tallboyref27_Write.T15 := by kernel_rfl
theorem tallboyref27_Write.bits15 : waitsOk tallboyref27_Write.T15.2 tallboyref27_Write.B15 = true := by kernel_rfl
set_option maxHeartbeats 8000000 in
set_option maxRecDepth 100000 in
theorem tallboyref27_Write.calls (k : Nat) (a0_0 : Int) (a0_1 : ByteArray) (a0_2 : Int) (A0_3 : Option Addr) (c0_3 : Nat) (l0_3 : List (S59)) (r1 : ByteArray) (r2 : Int) (w : World) (hr0_3 : Kd.C k59 w A0_3 l0_3.length l0_3) (hc0_3 : l0_3.length ≤ c0_3) (h : tallboyref27_Write.f k a0_0 a0_1 a0_2 l0_3 = some (r1, r2)) :
 Calls Tryz.prog 12 #[.agg #[.int .i64 a0_0, .string a0_1, .int .i64 a0_2, .slice A0_3 l0_3.length c0_3]] w fun e w' => e = .returned (.tuple #[.string r1, .int .i64 r2]) ∧ Below w.heap.size w w' := by
 have hu24 := Tryz.underlying24
 have HR0_3 := Aside0.mk hr0_3
 have HC0_3 := Aside0.mk hc0_3
 clear hr0_3 hc0_3
 have HB := Aside0.mk (Below.refl w.heap.size w)
 have H : ((tallboyref27_form.f k a0_0 a0_1 a0_2 l0_3).bind fun t204 => (if t204 = 0 then ((tallboyref27_name.f a0_0).bind fun t205 => ((tallboyref27_Find.f k a0_0 a0_1 a0_2 l0_3 98).bind fun bt206 => (if a0_0 = 5 then (tallboyref27_Write.j0 k t205 a0_0 a0_1 a0_2 l0_3) else (if bt206.2 = true then (if t205.size + 1 ≤ 9223372036854775807 then ((tallboyref27_Encode.f a0_1).bind fun t208 => (if (t205 ++ (⟨#[32]⟩ : ByteArray)).size + t208.size ≤ 9223372036854775807 then (tallboyref27_Write.j0 k ((t205 ++ (⟨#[32]⟩ : ByteArray)) ++ t208) a0_0 a0_1 a0_2 l0_3) else (none))) else (none)) else (if t205.size + 1 ≤ 9223372036854775807 then (if (t205 ++ (⟨#[32]⟩ : ByteArray)).size + a0_1.size ≤ 9223372036854775807 then (tallboyref27_Write.j0 k ((t205 ++ (⟨#[32]⟩ : ByteArray)) ++ a0_1) a0_0 a0_1 a0_2 l0_3) else (none)) else (none)))))) else (some ((⟨#[]⟩ : ByteArray), t204)))) = some (r1, r2) := h
 clear h
 replace H := Option.bind_eq_some_iff.mp H
 obtain ⟨t204, A20, H⟩ := H
 replace H : (if t204 = 0 then ((tallboyref27_name.f a0_0).bind fun t205 => ((tallboyref27_Find.f k a0_0 a0_1 a0_2 l0_3 98).bind fun bt206 => (if a0_0 = 5 then (tallboyref27_Write.j0 k t205 a0_0 a0_1 a0_2 l0_3) else (if bt206.2 = true then (if t205.size + 1 ≤ 9223372036854775807 then ((tallboyref27_Encode.f a0_1).bind fun t208 => (if (t205 ++ (⟨#[32]⟩ : ByteArray)).size + t208.size ≤ 9223372036854775807 then (tallboyref27_Write.j0 k ((t205 ++ (⟨#[32]⟩ : ByteArray)) ++ t208) a0_0 a0_1 a0_2 l0_3) else (none))) else (none)) else (if t205.size + 1 ≤ 9223372036854775807 then (if (t205 ++ (⟨#[32]⟩ : ByteArray)).size + a0_1.size ≤ 9223372036854775807 then (tallboyref27_Write.j0 k ((t205 ++ (⟨#[32]⟩ : ByteArray)) ++ a0_1) a0_0 a0_1 a0_2 l0_3) else (none)) else (none)))))) else (some ((⟨#[]⟩ : ByteArray), t204))) = some (r1, r2) := H
 have A2 := Aside0.mk A20
 clear A20
 by_cases c3 : t204 = 0
 · rw [if_pos c3] at H
   have c3b0 : (t204 == 0) = true := beq_iff_eq.mpr c3
   have c3b1 : (t204 != 0) = false := bne_eq_false_iff_eq.mpr c3
   clear c3
   replace H := Option.bind_eq_some_iff.mp H
   obtain ⟨t205, A40, H⟩ := H
   replace H : ((tallboyref27_Find.f k a0_0 a0_1 a0_2 l0_3 98).bind fun bt206 => (if a0_0 = 5 then (tallboyref27_Write.j0 k t205 a0_0 a0_1 a0_2 l0_3) else (if bt206.2 = true then (if t205.size + 1 ≤ 9223372036854775807 then ((tallboyref27_Encode.f a0_1).bind fun t208 => (if (t205 ++ (⟨#[32]⟩ : ByteArray)).size + t208.size ≤ 9223372036854775807 then (tallboyref27_Write.j0 k ((t205 ++ (⟨#[32]⟩ : ByteArray)) ++ t208) a0_0 a0_1 a0_2 l0_3) else (none))) else (none)) else (if t205.size + 1 ≤ 9223372036854775807 then (if (t205 ++ (⟨#[32]⟩ : ByteArray)).size + a0_1.size ≤ 9223372036854775807 then (tallboyref27_Write.j0 k ((t205 ++ (⟨#[32]⟩ : ByteArray)) ++ a0_1) a0_0 a0_1 a0_2 l0_3) else (none)) else (none))))) = some (r1, r2) := H
   have A4 := Aside0.mk A40
   clear A40
   replace H := Option.bind_eq_some_iff.mp H
   obtain ⟨⟨t206, t207⟩, A50, H⟩ := H
   replace H : (if a0_0 = 5 then (tallboyref27_Write.j0 k t205 a0_0 a0_1 a0_2 l0_3) else (if t207 = true then (if t205.size + 1 ≤ 9223372036854775807 then ((tallboyref27_Encode.f a0_1).bind fun t208 => (if (t205 ++ (⟨#[32]⟩ : ByteArray)).size + t208.size ≤ 9223372036854775807 then (tallboyref27_Write.j0 k ((t205 ++ (⟨#[32]⟩ : ByteArray)) ++ t208) a0_0 a0_1 a0_2 l0_3) else (none))) else (none)) else (if t205.size + 1 ≤ 9223372036854775807 then (if (t205 ++ (⟨#[32]⟩ : ByteArray)).size + a0_1.size ≤ 9223372036854775807 then (tallboyref27_Write.j0 k ((t205 ++ (⟨#[32]⟩ : ByteArray)) ++ a0_1) a0_0 a0_1 a0_2 l0_3) else (none)) else (none)))) = some (r1, r2) := H
   have A5 := Aside0.mk A50
   clear A50
   have HC6 := Aside0.mk H
   clear H
   go_enter Tryz.func12, Tryz.ntmps12
   go_upto_block 0 with (first | ((with_reducible refine gate_dst (N := 1) rfl ?_); refine box_event ?hg (N := 1) ?hd (cs := #[.int .i64 a0_0, .string a0_1, .int .i64 a0_2, .slice A0_3 l0_3.length c0_3]) (t := 24) ?hr ?_; (case hd => rfl); (case hg => rfl); (case hr => first | (go_simp; done) | (go_simp; rfl)); intro gb203 hg w7 hbox hb; have n0_ := Aside0.mk (below_step (hbA HB.out) hb); have n1_ := Aside0.mk (hbox); have n2_ := Aside0.mk ((by rw [hg]; exact (below_size (hbA HB.out)) : w.heap.size ≤ gb203)); have n3_ := Aside0.mk ((by rw [hg]; exact (below_size (hbA HB.out)) : w.heap.size ≤ gb203)); clear HB; have HB := n0_; have BK203 := n1_; have GW203 := n2_; have GE203 := n3_; clear n0_ n1_ n2_ n3_; clear hb hbox hg; obtain ⟨hcz8_0, hcz8_1, hcz8_2, hcz8_3, hfz8_0, hfz8_1, hfz8_2, hfz8_3⟩ := blkA4 BK203.out) | ((with_reducible refine gate_callee (f := 32) rfl ?_); refine goesL_ (some 10) rfl rfl Tryz.func32 (by kernel_rfl) rfl #[.agg #[.int .i64 a0_0, .string a0_1, .int .i64 a0_2, .slice A0_3 l0_3.length c0_3]] rfl argA ?_; (with_reducible refine (tallboyref27_form.calls k a0_0 a0_1 a0_2 _ _ l0_3 t204 _ ?side1 ?side2 A2.out).mono ?_); (case side1 => repeat (first | exact (Kd.C_below HR0_3.out HB.out) | (with_reducible refine Kd.C_alloc ?_ _) | (with_reducible refine Kd.C_drewN ?_ _) | (with_reducible refine Kd.C_drew ?_))); (case side2 => exact HC0_3.out); rintro e w9 ⟨rfl, hb⟩; refine ⟨_, rfl, ?_⟩; replace BK203 := Aside0.mk (blk_below (g := gb203) (o := .cells #[.int .i64 a0_0, .string a0_1, .int .i64 a0_2, .slice A0_3 l0_3.length c0_3] 24 (0, 0)) (rbA BK203.out) hb); replace HB := Aside0.mk (below_step (hbA HB.out) hb); (try clear hb); (try clear hb2); (try clear hk); (try clear hi); obtain ⟨hcz10_0, hcz10_1, hcz10_2, hcz10_3, hfz10_0, hfz10_1, hfz10_2, hfz10_3⟩ := blkA4 BK203.out) | ((with_reducible refine gate_callee (f := 33) rfl ?_); refine goesL_ (some 16) rfl rfl Tryz.func33 (by kernel_rfl) rfl #[.int .i64 a0_0] rfl argA ?_; (with_reducible refine (tallboyref27_name.calls a0_0 t205 _ A4.out).mono ?_); rintro e w' ⟨rfl, ⟨nd, rfl⟩⟩; refine ⟨_, rfl, ?_⟩) | ((with_reducible refine gate_callee (f := 16) rfl ?_); refine goesL_ (some 19) rfl rfl Tryz.func16 (by kernel_rfl) rfl #[.agg #[.int .i64 a0_0, .string a0_1, .int .i64 a0_2, .slice A0_3 l0_3.length c0_3], .int .u8 98] rfl argA ?_; (with_reducible refine (tallboyref27_Find.calls k a0_0 a0_1 a0_2 _ _ l0_3 98 t206 t207 _ ?side1 ?side2 A5.out).mono ?_); (case side1 => repeat (first | exact (Kd.C_below HR0_3.out (hbA HB.out)) | (with_reducible refine Kd.C_alloc ?_ _) | (with_reducible refine Kd.C_drewN ?_ _) | (with_reducible refine Kd.C_drew ?_))); (case side2 => exact HC0_3.out); rintro e w11 ⟨rfl, hb⟩; refine ⟨_, rfl, ?_⟩; replace BK203 := Aside0.mk (blk_below (g := gb203) (o := .cells #[.int .i64 a0_0, .string a0_1, .int .i64 a0_2, .slice A0_3 l0_3.length c0_3] 24 (0, 0)) (rbA BK203.out) hb); replace HB := Aside0.mk (below_step (hbA HB.out) hb); (try clear hb); (try clear hb2); (try clear hk); (try clear hi)))
   (try simp only [Act.put, List.setIfInBounds_toArray, List.set_cons_zero, List.set_cons_succ])
   go_cut [5] (fun v5 wc => ∃ (kq : Nat) (x5_5 : ByteArray), v5 = .string x5_5 ∧ Aside0 (tallboyref27_Write.j0 kq x5_5 a0_0 a0_1 a0_2 l0_3 = some (r1, r2)) ∧ Aside0 (kq ≤ k) ∧ Aside0 (wc.heap[gb203]? = some (.cells #[.int .i64 a0_0, .string a0_1, .int .i64 a0_2, (.slice A0_3 l0_3.length c0_3)] 24 (0, 0))) ∧ Aside0 (Below w.heap.size w wc))
   case first =>
    have H := HC6.out
    clear HC6
    by_cases c12 : a0_0 = 5
    · rw [if_pos c12] at H
      have c12b0 : (a0_0 == 5) = true := beq_iff_eq.mpr c12
      have c12b1 : (a0_0 != 5) = false := bne_eq_false_iff_eq.mpr c12
      clear c12
      (first | rw [c12b0] | (simp only [i64_w, i32_w]; rw [c12b0]) | skip)
      have H' := Aside0.mk H
      clear H
      obtain ⟨hcz13_0, hcz13_1, hcz13_2, hcz13_3, hfz13_0, hfz13_1, hfz13_2, hfz13_3⟩ := blkA4 BK203.out
      go_wp2
      go_meet
      case rel => exact ⟨_, (t205), rsA, H', ⟨by first | omega | exact Nat.le_refl _⟩, ⟨rbA BK203.out⟩, ⟨hbA HB.out⟩⟩
    rw [if_neg c12] at H
    have c12b0 : (a0_0 == 5) = false := beq_eq_false_iff_ne.mpr c12
    have c12b1 : (a0_0 != 5) = true := bne_iff_ne.mpr c12
    (first | rw [c12b0] | (simp only [i64_w, i32_w]; rw [c12b0]) | skip)
    by_cases c14 : t207 = true
    · subst c14
      have H1 : (if t205.size + 1 ≤ 9223372036854775807 then ((tallboyref27_Encode.f a0_1).bind fun t208 => (if (t205 ++ (⟨#[32]⟩ : ByteArray)).size + t208.size ≤ 9223372036854775807 then (tallboyref27_Write.j0 k ((t205 ++ (⟨#[32]⟩ : ByteArray)) ++ t208) a0_0 a0_1 a0_2 l0_3) else (none))) else (none)) = some (r1, r2) := by rw [if_pos rfl] at H; exact H
      clear H
      have H := H1
      clear H1
      by_cases c15 : t205.size + 1 ≤ 9223372036854775807
      · rw [if_pos c15] at H
        have c15b0 := eq_true c15
        have c15b1 : decide (t205.size + 1 ≤ 9223372036854775807) = true := decide_eq_true c15
        try have c15b2 : (9223372036854775807 < t205.size + 1) = False := eq_false (Nat.not_lt.2 c15)
        replace H := Option.bind_eq_some_iff.mp H
        obtain ⟨t208, A160, H⟩ := H
        replace H : (if (t205 ++ (⟨#[32]⟩ : ByteArray)).size + t208.size ≤ 9223372036854775807 then (tallboyref27_Write.j0 k ((t205 ++ (⟨#[32]⟩ : ByteArray)) ++ t208) a0_0 a0_1 a0_2 l0_3) else (none)) = some (r1, r2) := H
        have A16 := Aside0.mk A160
        clear A160
        by_cases c17 : (t205 ++ (⟨#[32]⟩ : ByteArray)).size + t208.size ≤ 9223372036854775807
        · rw [if_pos c17] at H
          have c17b0 := eq_true c17
          have c17b1 : decide ((t205 ++ (⟨#[32]⟩ : ByteArray)).size + t208.size ≤ 9223372036854775807) = true := decide_eq_true c17
          try have c17b2 : (9223372036854775807 < (t205 ++ (⟨#[32]⟩ : ByteArray)).size + t208.size) = False := eq_false (Nat.not_lt.2 c17)
          try (have c17b3 := c17b2; simp only [ByteArray.size_append', ByteArray.size_mk', List.size_toArray, List.length_cons, List.length_nil, Nat.reduceAdd] at c17b3)
          have H' := Aside0.mk H
          clear H
          obtain ⟨hcz18_0, hcz18_1, hcz18_2, hcz18_3, hfz18_0, hfz18_1, hfz18_2, hfz18_3⟩ := blkA4 BK203.out
          go_wp2_with (first | ((with_reducible refine gate_callee (f := 34) rfl ?_); refine goesL_ (some 37) rfl rfl Tryz.func34 (by kernel_rfl) rfl #[.string a0_1] rfl argA ?_; (with_reducible refine (tallboyref27_Encode.calls a0_1 t208 _ A16.out).mono ?_); rintro e w19 ⟨rfl, hb⟩; refine ⟨_, rfl, ?_⟩; replace BK203 := Aside0.mk (blk_below (g := gb203) (o := .cells #[.int .i64 a0_0, .string a0_1, .int .i64 a0_2, .slice A0_3 l0_3.length c0_3] 24 (0, 0)) (rbA BK203.out) hb); replace HB := Aside0.mk (below_step (hbA HB.out) hb); (try clear hb); (try clear hb2); (try clear hk); (try clear hi)))
          go_meet
          case rel => exact ⟨_, ((t205 ++ (⟨#[32]⟩ : ByteArray)) ++ t208), rsA, H', ⟨by first | omega | exact Nat.le_refl _⟩, ⟨rbA BK203.out⟩, ⟨hbA HB.out⟩⟩
        rw [if_neg c17] at H
        exact absurd H (by simp)
      rw [if_neg c15] at H
      exact absurd H (by simp)
    replace c14 := Bool.eq_false_iff.mpr c14
    subst c14
    have H1 : (if t205.size + 1 ≤ 9223372036854775807 then (if (t205 ++ (⟨#[32]⟩ : ByteArray)).size + a0_1.size ≤ 9223372036854775807 then (tallboyref27_Write.j0 k ((t205 ++ (⟨#[32]⟩ : ByteArray)) ++ a0_1) a0_0 a0_1 a0_2 l0_3) else (none)) else (none)) = some (r1, r2) := by rw [if_neg (show ¬ (false = true) by decide)] at H; exact H
    clear H
    have H := H1
    clear H1
    by_cases c20 : t205.size + 1 ≤ 9223372036854775807
    · rw [if_pos c20] at H
      have c20b0 := eq_true c20
      have c20b1 : decide (t205.size + 1 ≤ 9223372036854775807) = true := decide_eq_true c20
      try have c20b2 : (9223372036854775807 < t205.size + 1) = False := eq_false (Nat.not_lt.2 c20)
      by_cases c21 : (t205 ++ (⟨#[32]⟩ : ByteArray)).size + a0_1.size ≤ 9223372036854775807
      · rw [if_pos c21] at H
        have c21b0 := eq_true c21
        have c21b1 : decide ((t205 ++ (⟨#[32]⟩ : ByteArray)).size + a0_1.size ≤ 9223372036854775807) = true := decide_eq_true c21
        try have c21b2 : (9223372036854775807 < (t205 ++ (⟨#[32]⟩ : ByteArray)).size + a0_1.size) = False := eq_false (Nat.not_lt.2 c21)
        try (have c21b3 := c21b2; simp only [ByteArray.size_append', ByteArray.size_mk', List.size_toArray, List.length_cons, List.length_nil, Nat.reduceAdd] at c21b3)
        have H' := Aside0.mk H
        clear H
        obtain ⟨hcz22_0, hcz22_1, hcz22_2, hcz22_3, hfz22_0, hfz22_1, hfz22_2, hfz22_3⟩ := blkA4 BK203.out
        go_wp2
        go_meet
        case rel => exact ⟨_, ((t205 ++ (⟨#[32]⟩ : ByteArray)) ++ a0_1), rsA, H', ⟨by first | omega | exact Nat.le_refl _⟩, ⟨rbA BK203.out⟩, ⟨hbA HB.out⟩⟩
      rw [if_neg c21] at H
      exact absurd H (by simp)
    rw [if_neg c20] at H
    exact absurd H (by simp)
   clear HC6
   (try clear c1); (try clear c2); (try clear p2); (try clear c3); (try clear c3b0); (try clear c3b1); (try clear c12); (try clear c12b0); (try clear c12b1); (try clear c14); (try clear c15); (try clear c15b0); (try clear c15b1); (try clear c15b2); (try clear c15b3); (try clear c16); (try clear c17); (try clear c17b0); (try clear c17b1); (try clear c17b2); (try clear c17b3); (try clear c20); (try clear c20b0); (try clear c20b1); (try clear c20b2); (try clear c20b3); (try clear c21); (try clear c21b0); (try clear c21b1); (try clear c21b2); (try clear c21b3); (try clear hcz10_0); (try clear hcz10_1); (try clear hcz10_2); (try clear hcz10_3); (try clear hcz13_0); (try clear hcz13_1); (try clear hcz13_2); (try clear hcz13_3); (try clear hcz18_0); (try clear hcz18_1); (try clear hcz18_2); (try clear hcz18_3); (try clear hcz22_0); (try clear hcz22_1); (try clear hcz22_2); (try clear hcz22_3); (try clear hcz8_0); (try clear hcz8_1); (try clear hcz8_2); (try clear hcz8_3); (try clear hfz10_0); (try clear hfz10_1); (try clear hfz10_2); (try clear hfz10_3); (try clear hfz13_0); (try clear hfz13_1); (try clear hfz13_2); (try clear hfz13_3); (try clear hfz18_0); (try clear hfz18_1); (try clear hfz18_2); (try clear hfz18_3); (try clear hfz22_0); (try clear hfz22_1); (try clear hfz22_2); (try clear hfz22_3); (try clear hfz8_0); (try clear hfz8_1); (try clear hfz8_2); (try clear hfz8_3)
   obtain ⟨kq, x5_5, rfl, HA, HJ5, BK203, HB⟩ := hcut
   cases kq with
   | zero => exact absurd HA.out (by simp [tallboyref27_Write.j0])
   | succ kj5 =>
    have H := HA.out
    clear HA
    simp only [tallboyref27_Write.j0] at H
    have HC23 := Aside0.mk H
    clear H
    obtain ⟨hcz24_0, hcz24_1, hcz24_2, hcz24_3, hfz24_0, hfz24_1, hfz24_2, hfz24_3⟩ := blkA4 BK203.out
    go_upto_if 41 with (fail)
    go_cut [5] (fun v5 wc => ∃ (kq : Nat) (x5_22 : ByteArray), v5 = .string x5_22 ∧ Aside0 (tallboyref27_Write.j1 kq x5_22 a0_0 a0_1 a0_2 l0_3 = some (r1, r2)) ∧ Aside0 (kq ≤ kj5) ∧ Aside0 (wc.heap[gb203]? = some (.cells #[.int .i64 a0_0, .string a0_1, .int .i64 a0_2, (.slice A0_3 l0_3.length c0_3)] 24 (0, 0))) ∧ Aside0 (Below w.heap.size w wc))
    case first =>
     have H := HC23.out
     clear HC23
     by_cases c25 : a0_0 = 2
     · rw [if_pos c25] at H
       have c25b0 : (a0_0 == 2) = true := beq_iff_eq.mpr c25
       have c25b1 : (a0_0 != 2) = false := bne_eq_false_iff_eq.mpr c25
       clear c25
       (first | rw [c25b0] | (simp only [i64_w, i32_w]; rw [c25b0]) | skip)
       by_cases c26 : x5_5.size + 1 ≤ 9223372036854775807
       · rw [if_pos c26] at H
         have c26b0 := eq_true c26
         have c26b1 : decide (x5_5.size + 1 ≤ 9223372036854775807) = true := decide_eq_true c26
         try have c26b2 : (9223372036854775807 < x5_5.size + 1) = False := eq_false (Nat.not_lt.2 c26)
         replace H := Option.bind_eq_some_iff.mp H
         obtain ⟨t209, A270, H⟩ := H
         replace H : (if (x5_5 ++ (⟨#[32]⟩ : ByteArray)).size + t209.size ≤ 9223372036854775807 then (tallboyref27_Write.j1 kj5 ((x5_5 ++ (⟨#[32]⟩ : ByteArray)) ++ t209) a0_0 a0_1 a0_2 l0_3) else (none)) = some (r1, r2) := H
         have A27 := Aside0.mk A270
         clear A270
         by_cases c28 : (x5_5 ++ (⟨#[32]⟩ : ByteArray)).size + t209.size ≤ 9223372036854775807
         · rw [if_pos c28] at H
           have c28b0 := eq_true c28
           have c28b1 : decide ((x5_5 ++ (⟨#[32]⟩ : ByteArray)).size + t209.size ≤ 9223372036854775807) = true := decide_eq_true c28
           try have c28b2 : (9223372036854775807 < (x5_5 ++ (⟨#[32]⟩ : ByteArray)).size + t209.size) = False := eq_false (Nat.not_lt.2 c28)
           try (have c28b3 := c28b2; simp only [ByteArray.size_append', ByteArray.size_mk', List.size_toArray, List.length_cons, List.length_nil, Nat.reduceAdd] at c28b3)
           have H' := Aside0.mk H
           clear H
           obtain ⟨hcz29_0, hcz29_1, hcz29_2, hcz29_3, hfz29_0, hfz29_1, hfz29_2, hfz29_3⟩ := blkA4 BK203.out
           go_wp2_with (first | ((with_reducible refine gate_callee (f := 35) rfl ?_); refine goesL_ (some 47) rfl rfl Tryz.func35 (by kernel_rfl) rfl #[.int .u64 (IntKind.u64.wrap (a0_2))] rfl argA ?_; (with_reducible refine (tallboyref02_Text.calls kj5 (IntKind.u64.wrap (a0_2)) t209 _ A27.out).mono ?_); rintro e w30 ⟨rfl, hb⟩; refine ⟨_, rfl, ?_⟩; replace BK203 := Aside0.mk (blk_below (g := gb203) (o := .cells #[.int .i64 a0_0, .string a0_1, .int .i64 a0_2, .slice A0_3 l0_3.length c0_3] 24 (0, 0)) (rbA BK203.out) hb); replace HB := Aside0.mk (below_step (hbA HB.out) hb); (try clear hb); (try clear hb2); (try clear hk); (try clear hi)))
           go_meet
           case rel => exact ⟨_, ((x5_5 ++ (⟨#[32]⟩ : ByteArray)) ++ t209), rsA, H', ⟨by have := HJ5.out; first | omega | exact Nat.le_refl _⟩, ⟨rbA BK203.out⟩, ⟨hbA HB.out⟩⟩
         rw [if_neg c28] at H
         exact absurd H (by simp)
       rw [if_neg c26] at H
       exact absurd H (by simp)
     rw [if_neg c25] at H
     have c25b0 : (a0_0 == 2) = false := beq_eq_false_iff_ne.mpr c25
     have c25b1 : (a0_0 != 2) = true := bne_iff_ne.mpr c25
     (first | rw [c25b0] | (simp only [i64_w, i32_w]; rw [c25b0]) | skip)
     have H' := Aside0.mk H
     clear H
     go_wp2
     go_meet
     case rel => exact ⟨_, (x5_5), rsA, H', ⟨by have := HJ5.out; first | omega | exact Nat.le_refl _⟩, ⟨rbA BK203.out⟩, ⟨hbA HB.out⟩⟩
    clear HC23
    (try clear c1); (try clear c2); (try clear p2); (try clear c3); (try clear c3b0); (try clear c3b1); (try clear c12); (try clear c12b0); (try clear c12b1); (try clear c14); (try clear c15); (try clear c15b0); (try clear c15b1); (try clear c15b2); (try clear c15b3); (try clear c16); (try clear c17); (try clear c17b0); (try clear c17b1); (try clear c17b2); (try clear c17b3); (try clear c20); (try clear c20b0); (try clear c20b1); (try clear c20b2); (try clear c20b3); (try clear c21); (try clear c21b0); (try clear c21b1); (try clear c21b2); (try clear c21b3); (try clear c25); (try clear c25b0); (try clear c25b1); (try clear c26); (try clear c26b0); (try clear c26b1); (try clear c26b2); (try clear c26b3); (try clear c28); (try clear c28b0); (try clear c28b1); (try clear c28b2); (try clear c28b3); (try clear hcz10_0); (try clear hcz10_1); (try clear hcz10_2); (try clear hcz10_3); (try clear hcz13_0); (try clear hcz13_1); (try clear hcz13_2); (try clear hcz13_3); (try clear hcz18_0); (try clear hcz18_1); (try clear hcz18_2); (try clear hcz18_3); (try clear hcz22_0); (try clear hcz22_1); (try clear hcz22_2); (try clear hcz22_3); (try clear hcz24_0); (try clear hcz24_1); (try clear hcz24_2); (try clear hcz24_3); (try clear hcz29_0); (try clear hcz29_1); (try clear hcz29_2); (try clear hcz29_3); (try clear hcz8_0); (try clear hcz8_1); (try clear hcz8_2); (try clear hcz8_3); (try clear hfz10_0); (try clear hfz10_1); (try clear hfz10_2); (try clear hfz10_3); (try clear hfz13_0); (try clear hfz13_1); (try clear hfz13_2); (try clear hfz13_3); (try clear hfz18_0); (try clear hfz18_1); (try clear hfz18_2); (try clear hfz18_3); (try clear hfz22_0); (try clear hfz22_1); (try clear hfz22_2); (try clear hfz22_3); (try clear hfz24_0); (try clear hfz24_1); (try clear hfz24_2); (try clear hfz24_3); (try clear hfz29_0); (try clear hfz29_1); (try clear hfz29_2); (try clear hfz29_3); (try clear hfz8_0); (try clear hfz8_1); (try clear hfz8_2); (try clear hfz8_3); (try clear p2)
    obtain ⟨kq, x5_22, rfl, HA, HJ22, BK203, HB⟩ := hcut
    cases kq with
    | zero => exact absurd HA.out (by simp [tallboyref27_Write.j1])
    | succ kj22 =>
     have H := HA.out
     clear HA
     simp only [tallboyref27_Write.j1] at H
     have H' := Aside0.mk H
     clear H
     go_wp2
     go_loopg [5, 8] kj22 (fun kq v5 v8 w' => ∃ (x5_3 : ByteArray) (x8_3 : Int), v5 = .string x5_3 ∧ v8 = .int .i64 x8_3 ∧ Aside0 (tallboyref27_Write.l0 kq x5_3 x8_3 a0_0 a0_1 a0_2 l0_3 = some (r1, r2)) ∧ Aside0 (kq ≤ kj22) ∧ Aside0 (w'.heap[gb203]? = some (.cells #[.int .i64 a0_0, .string a0_1, .int .i64 a0_2, (.slice A0_3 l0_3.length c0_3)] 24 (0, 0))) ∧ Aside0 (Below w.heap.size w w'))
     case atStart => exact ⟨(x5_22), (0), rsA, rsA, H', ⟨Nat.le_refl _⟩, ⟨rbA BK203.out⟩, ⟨hbA HB.out⟩⟩
     case round =>
      clear H'
      (try clear c1); (try clear c2); (try clear p2); (try clear c3); (try clear c3b0); (try clear c3b1); (try clear c12); (try clear c12b0); (try clear c12b1); (try clear c14); (try clear c15); (try clear c15b0); (try clear c15b1); (try clear c15b2); (try clear c15b3); (try clear c16); (try clear c17); (try clear c17b0); (try clear c17b1); (try clear c17b2); (try clear c17b3); (try clear c20); (try clear c20b0); (try clear c20b1); (try clear c20b2); (try clear c20b3); (try clear c21); (try clear c21b0); (try clear c21b1); (try clear c21b2); (try clear c21b3); (try clear c25); (try clear c25b0); (try clear c25b1); (try clear c26); (try clear c26b0); (try clear c26b1); (try clear c26b2); (try clear c26b3); (try clear c28); (try clear c28b0); (try clear c28b1); (try clear c28b2); (try clear c28b3); (try clear hcz10_0); (try clear hcz10_1); (try clear hcz10_2); (try clear hcz10_3); (try clear hcz13_0); (try clear hcz13_1); (try clear hcz13_2); (try clear hcz13_3); (try clear hcz18_0); (try clear hcz18_1); (try clear hcz18_2); (try clear hcz18_3); (try clear hcz22_0); (try clear hcz22_1); (try clear hcz22_2); (try clear hcz22_3); (try clear hcz24_0); (try clear hcz24_1); (try clear hcz24_2); (try clear hcz24_3); (try clear hcz29_0); (try clear hcz29_1); (try clear hcz29_2); (try clear hcz29_3); (try clear hcz8_0); (try clear hcz8_1); (try clear hcz8_2); (try clear hcz8_3); (try clear hfz10_0); (try clear hfz10_1); (try clear hfz10_2); (try clear hfz10_3); (try clear hfz13_0); (try clear hfz13_1); (try clear hfz13_2); (try clear hfz13_3); (try clear hfz18_0); (try clear hfz18_1); (try clear hfz18_2); (try clear hfz18_3); (try clear hfz22_0); (try clear hfz22_1); (try clear hfz22_2); (try clear hfz22_3); (try clear hfz24_0); (try clear hfz24_1); (try clear hfz24_2); (try clear hfz24_3); (try clear hfz29_0); (try clear hfz29_1); (try clear hfz29_2); (try clear hfz29_3); (try clear hfz8_0); (try clear hfz8_1); (try clear hfz8_2); (try clear hfz8_3); (try clear p2)
      obtain ⟨x5_3, x8_3, rfl, rfl, HA, HK3, BK203, HB⟩ := hrel
      cases gk with
      | zero => exact absurd HA.out (by simp [tallboyref27_Write.l0])
      | succ k3 =>
       have H := HA.out
       clear HA
       simp only [tallboyref27_Write.l0] at H
       by_cases c31 : x8_3 < (l0_3.length : Int)
       · rw [if_pos c31] at H
         have c31b0 : decide (x8_3 < (l0_3.length : Int)) = true := decide_eq_true c31
         clear c31
         by_cases c32 : x5_3.size + 1 ≤ 9223372036854775807
         · rw [if_pos c32] at H
           have c32b0 := eq_true c32
           have c32b1 : decide (x5_3.size + 1 ≤ 9223372036854775807) = true := decide_eq_true c32
           try have c32b2 : (9223372036854775807 < x5_3.size + 1) = False := eq_false (Nat.not_lt.2 c32)
           by_cases c33 : 0 ≤ x8_3
           · rw [if_pos c33] at H
             have c33b0 : decide (0 ≤ x8_3) = true := decide_eq_true c33
             clear c33
             obtain ⟨y211, hy211⟩ : ∃ y_ : List Int, y_ = (([(rd_T59 l0_3 x8_3).f0] : List Int)) := ⟨_, rfl⟩
             replace H : (if (x5_3 ++ (⟨#[32]⟩ : ByteArray)).size + (strOfNums y211).size ≤ 9223372036854775807 then (if ((x5_3 ++ (⟨#[32]⟩ : ByteArray)) ++ (strOfNums y211)).size + ((rd_T59 l0_3 x8_3).f1).size ≤ 9223372036854775807 then (tallboyref27_Write.l0 k3 (((x5_3 ++ (⟨#[32]⟩ : ByteArray)) ++ (strOfNums y211)) ++ ((rd_T59 l0_3 x8_3).f1)) (wrap64 (x8_3 + 1)) a0_0 a0_1 a0_2 l0_3) else (none)) else (none)) = some (r1, r2) := by first | (rw [hy211]; with_reducible exact H) | (have H2_ := (Option.bind_some _ _).symm.trans H; rw [hy211]; with_reducible exact H2_) | (have H2_ := (Option.bind_some _ _).symm.trans H; with_reducible exact H2_) | with_reducible exact H | (rw [hy211]; exact H) | exact H
             have Ny211 := Aside0.mk hy211
             clear hy211
             by_cases c34 : (x5_3 ++ (⟨#[32]⟩ : ByteArray)).size + (strOfNums y211).size ≤ 9223372036854775807
             · rw [if_pos c34] at H
               have c34b0 := eq_true c34
               have c34b1 : decide ((x5_3 ++ (⟨#[32]⟩ : ByteArray)).size + (strOfNums y211).size ≤ 9223372036854775807) = true := decide_eq_true c34
               try have c34b2 : (9223372036854775807 < (x5_3 ++ (⟨#[32]⟩ : ByteArray)).size + (strOfNums y211).size) = False := eq_false (Nat.not_lt.2 c34)
               try (have c34b3 := c34b2; simp only [ByteArray.size_append', ByteArray.size_mk', List.size_toArray, List.length_cons, List.length_nil, Nat.reduceAdd] at c34b3)
               by_cases c35 : ((x5_3 ++ (⟨#[32]⟩ : ByteArray)) ++ (strOfNums y211)).size + ((rd_T59 l0_3 x8_3).f1).size ≤ 9223372036854775807
               · rw [if_pos c35] at H
                 have c35b0 := eq_true c35
                 have c35b1 : decide (((x5_3 ++ (⟨#[32]⟩ : ByteArray)) ++ (strOfNums y211)).size + ((rd_T59 l0_3 x8_3).f1).size ≤ 9223372036854775807) = true := decide_eq_true c35
                 try have c35b2 : (9223372036854775807 < ((x5_3 ++ (⟨#[32]⟩ : ByteArray)) ++ (strOfNums y211)).size + ((rd_T59 l0_3 x8_3).f1).size) = False := eq_false (Nat.not_lt.2 c35)
                 try (have c35b3 := c35b2; simp only [ByteArray.size_append', ByteArray.size_mk', List.size_toArray, List.length_cons, List.length_nil, Nat.reduceAdd] at c35b3)
                 have H' := Aside0.mk H
                 clear H
                 obtain ⟨hcz36_0, hcz36_1, hcz36_2, hcz36_3, hfz36_0, hfz36_1, hfz36_2, hfz36_3⟩ := blkA4 BK203.out
                 try go_wp2
                 replace BK203 := Aside0.mk (blk_drew BK203.out)
                 replace HB := Aside0.mk (below_drew1 HB.out)
                 have p210 : 0 ≤ (x8_3 : Int) := of_decide_eq_true asA
                 have q210 : x8_3 < (l0_3.length : Int) := of_decide_eq_true asA
                 obtain ⟨ad210, e210, hx210_0, hx210_1⟩ := at_T59 HR0_3.out x8_3 p210 q210
                 have hw210_1 := hx210_1
                 have hw210_0 := hx210_0
                 cases e210
                 replace hx210_0 := (HB.out.cell (World.block_lt_of_cell? w _ hx210_0)).trans hx210_0
                 replace hx210_1 := (HB.out.cell (World.block_lt_of_cell? w _ hx210_1)).trans hx210_1
                 replace p210 := eq_true p210
                 replace q210 := eq_true q210
                 have p214 : 0 ≤ (x8_3 : Int) := of_decide_eq_true asA
                 have q214 : x8_3 < (l0_3.length : Int) := of_decide_eq_true asA
                 obtain ⟨ad214, e214, hx214_0, hx214_1⟩ := at_T59 HR0_3.out x8_3 p214 q214
                 have hw214_1 := hx214_1
                 have hw214_0 := hx214_0
                 obtain rfl : ad210 = ad214 := (by injection e214)
                 replace hx214_0 := (HB.out.cell (World.block_lt_of_cell? w _ hx214_0)).trans hx214_0
                 replace hx214_1 := (HB.out.cell (World.block_lt_of_cell? w _ hx214_1)).trans hx214_1
                 replace p214 := eq_true p214
                 replace q214 := eq_true q214
                 refine start_ (n := 19) (S := fun w' => w'.cell? ⟨gb203, 0, none⟩ = some (.int .i64 a0_0) ∧ w'.cell? ⟨gb203, 1, none⟩ = some (.string a0_1) ∧ w'.cell? ⟨gb203, 2, none⟩ = some (.int .i64 a0_2) ∧ w'.cell? ⟨gb203, 3, none⟩ = some (.slice (some ad210) l0_3.length c0_3) ∧ w'.cell? (ad210.add ((x8_3).toNat * 2)) = some (.int .u8 ((rd_T59 l0_3 x8_3).f0)) ∧ w'.cell? ⟨(ad210.add ((x8_3).toNat * 2)).block, (ad210.add ((x8_3).toNat * 2)).off + 1, none⟩ = some (.string ((rd_T59 l0_3 x8_3).f1)) ∧ w'.cell? (ad210.add ((x8_3).toNat * 2)) = some (.int .u8 ((rd_T59 l0_3 x8_3).f0)) ∧ w'.cell? ⟨(ad210.add ((x8_3).toNat * 2)).block, (ad210.add ((x8_3).toNat * 2)).off + 1, none⟩ = some (.string ((rd_T59 l0_3 x8_3).f1))) (ds := []) #[false, false, false, false, false, false, false, false, false, false, false, false, false, false, false, false, false, false, false] (by kernel_rfl) rfl rfl ⟨(blk_cell BK203.out 0).trans rfl, (blk_cell BK203.out 1).trans rfl, (blk_cell BK203.out 2).trans rfl, (blk_cell BK203.out 3).trans rfl, ((HB.out.cell (World.block_lt_of_cell? w _ hw210_0)).trans hw210_0), ((HB.out.cell (World.block_lt_of_cell? w _ hw210_1)).trans hw210_1), ((HB.out.cell (World.block_lt_of_cell? w _ hw214_0)).trans hw214_0), ((HB.out.cell (World.block_lt_of_cell? w _ hw214_1)).trans hw214_1)⟩ (fun hHeld => ?_); refine with_tabW tallboyref27_Write.tab15 tallboyref27_Write.bits15 (fun HT_ HW_ => ?_)
                 generalize wr.drew = w37 at BK203 HB hx210_0 hx210_1 hx214_0 hx214_1 hHeld ⊢
                 refine pureA_ (i := 0) (N := some 56) #[true, false, false, false, false, false, false, false, false, false, false, false, false, false, false, false, false, false, false] rfl rfl ?_ (hc := any_of HT_.out (by kernel_rfl))
                 refine pureA_ (i := 1) (N := some 57) #[true, true, false, false, false, false, false, false, false, false, false, false, false, false, false, false, false, false, false] rfl rfl ?_ (hc := any_of HT_.out (by kernel_rfl))
                 refine pureA_ (i := 2) (N := some 58) #[true, true, true, false, false, false, false, false, false, false, false, false, false, false, false, false, false, false, false] rfl rfl ?_ (hc := any_of HT_.out (by kernel_rfl))
                 refine pureA_ (i := 4) (N := some 60) #[true, true, true, false, true, false, false, false, false, false, false, false, false, false, false, false, false, false, false] rfl rfl ?_ (hc := any_of HT_.out (by kernel_rfl))
                 refine pureA_ (i := 11) (N := some 67) #[true, true, true, false, true, false, false, false, false, false, false, true, false, false, false, false, false, false, false] rfl rfl ?_ (hc := any_of HT_.out (by kernel_rfl))
                 refine pureA_ (i := 13) (N := some 69) #[true, true, true, false, true, false, false, false, false, false, false, true, false, true, false, false, false, false, false] rfl rfl ?_ (hc := any_of HT_.out (by kernel_rfl))
                 refine takeA_ (i := 3) (N := some 59) #[true, true, true, true, true, false, false, false, false, false, false, true, false, true, false, false, false, false, false] rfl rfl hHeld ?_ (hc := take_ofW HT_.out HW_.out (by kernel_rfl)) (hy := by rintro w' ⟨s0, s1, s2, s3, s4, s5, s6, s7⟩; go_simp; with_reducible rfl)
                 refine pureA_ (i := 5) (N := some 61) #[true, true, true, true, true, true, false, false, false, false, false, true, false, true, false, false, false, false, false] rfl rfl ?_ (hc := any_of HT_.out (by kernel_rfl))
                 refine pureA_ (i := 6) (N := some 62) #[true, true, true, true, true, true, true, false, false, false, false, true, false, true, false, false, false, false, false] rfl rfl ?_ (hc := any_of HT_.out (by kernel_rfl))
                 refine takeA_ (i := 7) (N := some 63) #[true, true, true, true, true, true, true, true, false, false, false, true, false, true, false, false, false, false, false] rfl rfl hHeld ?_ (hc := take_ofW HT_.out HW_.out (by kernel_rfl)) (hy := by rintro w' ⟨s0, s1, s2, s3, s4, s5, s6, s7⟩; go_simp; with_reducible rfl)
                 refine takeA_ (i := 12) (N := some 68) #[true, true, true, true, true, true, true, true, false, false, false, true, true, true, false, false, false, false, false] rfl rfl hHeld ?_ (hc := take_ofW HT_.out HW_.out (by kernel_rfl)) (hy := by rintro w' ⟨s0, s1, s2, s3, s4, s5, s6, s7⟩; go_simp; with_reducible rfl)
                 refine pureA_ (i := 14) (N := some 70) #[true, true, true, true, true, true, true, true, false, false, false, true, true, true, true, false, false, false, false] rfl rfl ?_ (hc := any_of HT_.out (by kernel_rfl))
                 refine pureA_ (i := 15) (N := some 71) #[true, true, true, true, true, true, true, true, false, false, false, true, true, true, true, true, false, false, false] rfl rfl ?_ (hc := any_of HT_.out (by kernel_rfl))
                 refine takeA_ (i := 16) (N := some 72) #[true, true, true, true, true, true, true, true, false, false, false, true, true, true, true, true, true, false, false] rfl rfl hHeld ?_ (hc := take_ofW HT_.out HW_.out (by kernel_rfl)) (hy := by rintro w' ⟨s0, s1, s2, s3, s4, s5, s6, s7⟩; go_simp; with_reducible rfl)
                 refine one_ (i := 8) (N := some 64) #[true, true, true, true, true, true, true, true, true, false, false, true, true, true, true, true, true, false, false] rfl rfl (one_of HT_.out (by kernel_rfl)) (by decide) (fun K hK => ?_)
                 refine Kd.R_lit_step (Kd.int .u8) _ 5 ?hg (N := 64) ?hd (xs := ([(rd_T59 l0_3 x8_3).f0] : List Int)) (inner := [.int .u8 ((rd_T59 l0_3 x8_3).f0)]) (ok := fun _ => True) (okp := fun _ => True) ?hr ?hp (fun _ hk => hk) trivial (Below.refl _ _) (Nat.le_refl _) (by simp) ?_; (case hd => rfl); (case hg => rfl); (case hr => first | (go_simp; done) | (go_simp; rfl)); (case hp => exact (Reps.one (show Kd.M (Kd.int .u8) _ _ _ ((rd_T59 l0_3 x8_3).f0) [.int .u8 ((rd_T59 l0_3 x8_3).f0)] from rfl) (Reps.none _ _)))
                 intro v212 w38 ho39 hb hg_ hnew_
                 clear hg_ hnew_
                 (first | rw [← Ny211.out] at ho39 | (simp only [Int.reduceToNat] at ho39; rw [← Ny211.out] at ho39))
                 have n0_ := Aside0.mk (Kd.R_lower ho39 (below_size (hbA HB.out)))
                 have n1_ := Aside0.mk (blk_below (g := gb203) (o := .cells #[.int .i64 a0_0, .string a0_1, .int .i64 a0_2, .slice (some ad210) l0_3.length c0_3] 24 (0, 0)) (rbA BK203.out) hb)
                 have n2_ := Aside0.mk (below_step (hbA HB.out) hb)
                 clear BK203
                 clear HB
                 have HO213 := n0_
                 have BK203 := n1_
                 have HB := n2_
                 clear n0_ n1_ n2_
                 clear hb ho39
                 refine hK.out _ _ ⟨(blk_cell BK203.out 0).trans rfl, (blk_cell BK203.out 1).trans rfl, (blk_cell BK203.out 2).trans rfl, (blk_cell BK203.out 3).trans rfl, ((HB.out.cell (World.block_lt_of_cell? w _ hw210_0)).trans hw210_0), ((HB.out.cell (World.block_lt_of_cell? w _ hw210_1)).trans hw210_1), ((HB.out.cell (World.block_lt_of_cell? w _ hw214_0)).trans hw214_0), ((HB.out.cell (World.block_lt_of_cell? w _ hw214_1)).trans hw214_1)⟩ (fun hHeld => ?_)
                 clear hK K
                 refine normA_ ?_
                 refine one_ (i := 9) (N := some 65) #[true, true, true, true, true, true, true, true, true, true, false, true, true, true, true, true, true, false, false] rfl rfl (one_of HT_.out (by kernel_rfl)) (by decide) (fun K hK => ?_)
                 have hcv40 := own_string (P := Tryz.prog) Tryz.underlying70 Tryz.underlying5 Tryz.underlying9 (Kd.own_of_R HO213.out)
                 refine value_ (w1 := ?_) (v := ?_) (by rfl) rfl ?_ ?_
                 rotate_left 2
                 · go_simp
                   constructor
                   · rfl
                   rfl
                 clear hcv40
                 refine hK.out _ _ ⟨(blk_cell BK203.out 0).trans rfl, (blk_cell BK203.out 1).trans rfl, (blk_cell BK203.out 2).trans rfl, (blk_cell BK203.out 3).trans rfl, ((HB.out.cell (World.block_lt_of_cell? w _ hw210_0)).trans hw210_0), ((HB.out.cell (World.block_lt_of_cell? w _ hw210_1)).trans hw210_1), ((HB.out.cell (World.block_lt_of_cell? w _ hw214_0)).trans hw214_0), ((HB.out.cell (World.block_lt_of_cell? w _ hw214_1)).trans hw214_1)⟩ (fun hHeld => ?_)
                 clear hK K
                 refine normA_ ?_
                 refine pureA_ (i := 10) (N := some 66) #[true, true, true, true, true, true, true, true, true, true, true, true, true, true, true, true, true, false, false] rfl rfl ?_ (hc := any_of HT_.out (by kernel_rfl))
                 refine pureA_ (i := 17) (N := some 73) #[true, true, true, true, true, true, true, true, true, true, true, true, true, true, true, true, true, true, false] rfl rfl ?_ (hc := any_of HT_.out (by kernel_rfl))
                 refine pureA_ (i := 18) (N := some 5) #[true, true, true, true, true, true, true, true, true, true, true, true, true, true, true, true, true, true, true] rfl rfl ?_ (hc := any_of HT_.out (by kernel_rfl))
                 refine done_ (done_of HT_.out (by kernel_rfl)) ?_
                 try go_wp2
                 go_roundg k3
                 case measure => have := HJ5.out; have := HJ22.out; have := HK3.out; omega
                 case rel => exact ⟨(((x5_3 ++ (⟨#[32]⟩ : ByteArray)) ++ (strOfNums y211)) ++ ((rd_T59 l0_3 x8_3).f1)), (wrap64 (x8_3 + 1)), rsA, rsA, H', ⟨by have := HJ5.out; have := HJ22.out; have := HK3.out; omega⟩, ⟨rbA BK203.out⟩, ⟨hbA HB.out⟩⟩
               rw [if_neg c35] at H
               exact absurd H (by simp)
             rw [if_neg c34] at H
             exact absurd H (by simp)
           rw [if_neg c33] at H
           exact absurd H (by simp)
         rw [if_neg c32] at H
         exact absurd H (by simp)
       rw [if_neg c31] at H
       have c31b0 : decide (x8_3 < (l0_3.length : Int)) = false := decide_eq_false c31
       clear c31
       by_cases c41 : (x5_3.size : Int) > 160
       · rw [if_pos c41] at H
         have c41b0 : decide (160 < (x5_3.size : Int)) = true := decide_eq_true c41
         have c41b1 : decide (160 < x5_3.size) = true := decide_eq_true (by omega)
         clear c41
         simp only [Option.some.injEq, Prod.mk.injEq] at H
         obtain ⟨rfl, rfl⟩ := H
         obtain ⟨hcz42_0, hcz42_1, hcz42_2, hcz42_3, hfz42_0, hfz42_1, hfz42_2, hfz42_3⟩ := blkA4 BK203.out
         go_wp2
         go_ret2
         exact ⟨reA, hbA HB.out⟩
       rw [if_neg c41] at H
       have c41b0 : decide (160 < (x5_3.size : Int)) = false := decide_eq_false c41
       have c41b1 : decide (160 < x5_3.size) = false := decide_eq_false (by omega)
       clear c41
       simp only [Option.some.injEq, Prod.mk.injEq] at H
       obtain ⟨rfl, rfl⟩ := H
       obtain ⟨hcz43_0, hcz43_1, hcz43_2, hcz43_3, hfz43_0, hfz43_1, hfz43_2, hfz43_3⟩ := blkA4 BK203.out
       go_wp2
       go_ret2
       exact ⟨reA, hbA HB.out⟩
 rw [if_neg c3] at H
 have c3b0 : (t204 == 0) = false := beq_eq_false_iff_ne.mpr c3
 have c3b1 : (t204 != 0) = true := bne_iff_ne.mpr c3
 simp only [Option.some.injEq, Prod.mk.injEq] at H
 obtain ⟨rfl, rfl⟩ := H
 go_enter Tryz.func12, Tryz.ntmps12
 go_wp2_with (first | ((with_reducible refine gate_dst (N := 1) rfl ?_); refine box_event ?hg (N := 1) ?hd (cs := #[.int .i64 a0_0, .string a0_1, .int .i64 a0_2, .slice A0_3 l0_3.length c0_3]) (t := 24) ?hr ?_; (case hd => rfl); (case hg => rfl); (case hr => first | (go_simp; done) | (go_simp; rfl)); intro gb203 hg w44 hbox hb; have n0_ := Aside0.mk (below_step (hbA HB.out) hb); have n1_ := Aside0.mk (hbox); have n2_ := Aside0.mk ((by rw [hg]; exact (below_size (hbA HB.out)) : w.heap.size ≤ gb203)); have n3_ := Aside0.mk ((by rw [hg]; exact (below_size (hbA HB.out)) : w.heap.size ≤ gb203)); clear HB; have HB := n0_; have BK203 := n1_; have GW203 := n2_; have GE203 := n3_; clear n0_ n1_ n2_ n3_; clear hb hbox hg; obtain ⟨hcz45_0, hcz45_1, hcz45_2, hcz45_3, hfz45_0, hfz45_1, hfz45_2, hfz45_3⟩ := blkA4 BK203.out) | ((with_reducible refine gate_callee (f := 32) rfl ?_); refine goesL_ (some 10) rfl rfl Tryz.func32 (by kernel_rfl) rfl #[.agg #[.int .i64 a0_0, .string a0_1, .int .i64 a0_2, .slice A0_3 l0_3.length c0_3]] rfl argA ?_; (with_reducible refine (tallboyref27_form.calls k a0_0 a0_1 a0_2 _ _ l0_3 t204 _ ?side1 ?side2 A2.out).mono ?_); (case side1 => repeat (first | exact (Kd.C_below HR0_3.out HB.out) | (with_reducible refine Kd.C_alloc ?_ _) | (with_reducible refine Kd.C_drewN ?_ _) | (with_reducible refine Kd.C_drew ?_))); (case side2 => exact HC0_3.out); rintro e w46 ⟨rfl, hb⟩; refine ⟨_, rfl, ?_⟩; replace BK203 := Aside0.mk (blk_below (g := gb203) (o := .cells #[.int .i64 a0_0, .string a0_1, .int .i64 a0_2, .slice A0_3 l0_3.length c0_3] 24 (0, 0)) (rbA BK203.out) hb); replace HB := Aside0.mk (below_step (hbA HB.out) hb); (try clear hb); (try clear hb2); (try clear hk); (try clear hi)))
 go_ret2
 exact ⟨reA, hbA HB.out⟩

end
end Go.Proofs.YtfboejlemnfndaaGreatDoor.XMk
end
