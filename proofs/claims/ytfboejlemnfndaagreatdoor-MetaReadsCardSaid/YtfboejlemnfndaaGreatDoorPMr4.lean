/- Put together by wip/pack.py (this session's own program) out of this session's texts; a kit's tool laid the words and the shelf, of which only what is used stands here. Lean checks it. -/
import Derived.Test.YtfboejlemnfndaaGreatDoorPMr3
import Derived.Lib.Hide
section
namespace Go.Proofs.YtfboejlemnfndaaGreatDoor.XMr
open Go.RowKit Go.Proofs.YtfboejlemnfndaaGreatDoorW.PrintWords Go.Proofs.YtfboejlemnfndaaGreatDoorW.PrintLast Go.Proofs.YtfboejlemnfndaaGreatDoorW.PrintMore
attribute [local go_sem] extract_sub max2_int min2_int max_two min_two max_three min_three max_four min_four   -- for this text's walks alone
set_option linter.unusedVariables false
set_option linter.unusedSimpArgs false

noncomputable section
mutual
def meta_words.j0 : Nat → Int → List ByteArray → Bool → Int → ByteArray → Int → Option (Int × ByteArray × Int × (List (S61)) × Bool)
 | 0, _, _, _, _, _, _ => none
 | k + 1, x0, x1, x20, x183000, x183001, x183002 => if x20 = true then (if 0 < (x1.length : Int) then (if 1 ≤ (x1.length : Int) then (meta_words.j1 k x0 (x1.drop 1) x183000 (rdOf ByteArray.empty x1 0) x183002) else (none)) else (none)) else (meta_words.j1 k x0 x1 x183000 x183001 x183002)
def meta_words.j1 : Nat → Int → List ByteArray → Int → ByteArray → Int → Option (Int × ByteArray × Int × (List (S61)) × Bool)
 | 0, _, _, _, _, _ => none
 | k + 1, x0, x1, x183000, x183001, x183002 => if x0 = 2 then (meta_words.j2 k x0 x1 (decide ((x1.length : Int) > 0)) x183000 x183001 x183002) else (meta_words.j2 k x0 x1 false x183000 x183001 x183002)
def meta_words.j2 : Nat → Int → List ByteArray → Bool → Int → ByteArray → Int → Option (Int × ByteArray × Int × (List (S61)) × Bool)
 | 0, _, _, _, _, _, _ => none
 | k + 1, x0, x1, x33, x183000, x183001, x183002 => if x33 = true then (if 0 < (x1.length : Int) then ((meta_size.f (rdOf ByteArray.empty x1 0)).bind fun bt190 => (if bt190.2 = true then (if 1 ≤ (x1.length : Int) then (meta_words.j3 k x0 (x1.drop 1) x183000 x183001 bt190.1) else (none)) else (some (0, (⟨#[]⟩ : ByteArray), 0, ([] : List (S61)), false)))) else (none)) else (meta_words.j3 k x0 x1 x183000 x183001 x183002)
def meta_words.j3 : Nat → Int → List ByteArray → Int → ByteArray → Int → Option (Int × ByteArray × Int × (List (S61)) × Bool)
 | 0, _, _, _, _, _ => none
 | k + 1, x0, x1, x183000, x183001, x183002 => meta_words.l0 k x0 x1 (x1.length : Int) 0 x183000 x183001 x183002 ([] : List (S61))
def meta_words.l0 : Nat → Int → List ByteArray → Int → Int → Int → ByteArray → Int → List (S61) → Option (Int × ByteArray × Int × (List (S61)) × Bool)
 | 0, _, _, _, _, _, _, _, _ => none
 | k + 1, x0, x47, x48, x49, x183000, x183001, x183002, x183003 => if x49 < x48 then (if 0 ≤ x49 then (if x49 < (x47.length : Int) then (if (rdOf ByteArray.empty x47 x49).toList = ([] : List UInt8) then (some (0, (⟨#[]⟩ : ByteArray), 0, ([] : List (S61)), false)) else (if 0 < ((rdOf ByteArray.empty x47 x49).size : Int) then (if 1 ≤ ((rdOf ByteArray.empty x47 x49).size : Int) then (if x183003.length < 5864062014805 then (meta_words.l0 k x0 x47 x48 (wrap64 (x49 + 1)) x183000 x183001 x183002 (x183003 ++ [(⟨bt (rdOf ByteArray.empty x47 x49) 0, sub (rdOf ByteArray.empty x47 x49) 1 (rdOf ByteArray.empty x47 x49).size⟩ : S61)])) else (none)) else (none)) else (none))) else (none)) else (none)) else ((meta_Find.f x183000 x183001 x183002 x183003 98).bind fun bt201 => (if bt201.2 = true then (meta_words.j5 k (x0 != 5) x183000 x183001 x183002 x183003) else (meta_words.j5 k false x183000 x183001 x183002 x183003)))
def meta_words.j5 : Nat → Bool → Int → ByteArray → Int → List (S61) → Option (Int × ByteArray × Int × (List (S61)) × Bool)
 | 0, _, _, _, _, _ => none
 | k + 1, x76, x183000, x183001, x183002, x183003 => if x76 = true then ((meta_Decode.f x183001).bind fun bt203 => (if bt203.2 = 0 then (some (x183000, bt203.1, x183002, x183003, true)) else (some (0, (⟨#[]⟩ : ByteArray), 0, ([] : List (S61)), false)))) else (some (x183000, x183001, x183002, x183003, true))
end
def meta_words.f (k : Nat) (a0 : Int) (l1 : List ByteArray) : Option (Int × ByteArray × Int × (List (S61)) × Bool) := if a0 = 5 then (meta_words.j0 k a0 l1 false a0 (⟨#[]⟩ : ByteArray) 0) else (meta_words.j0 k a0 l1 (decide ((l1.length : Int) > 0)) a0 (⟨#[]⟩ : ByteArray) 0)
theorem meta_words.mono_l : ∀ k, (∀ y0 y1 y2 y3 y4 y5, LeO (meta_words.j0 k y0 y1 y2 y3 y4 y5) (meta_words.j0 (k + 1) y0 y1 y2 y3 y4 y5)) ∧ (∀ y0 y1 y2 y3 y4, LeO (meta_words.j1 k y0 y1 y2 y3 y4) (meta_words.j1 (k + 1) y0 y1 y2 y3 y4)) ∧ (∀ y0 y1 y2 y3 y4 y5, LeO (meta_words.j2 k y0 y1 y2 y3 y4 y5) (meta_words.j2 (k + 1) y0 y1 y2 y3 y4 y5)) ∧ (∀ y0 y1 y2 y3 y4, LeO (meta_words.j3 k y0 y1 y2 y3 y4) (meta_words.j3 (k + 1) y0 y1 y2 y3 y4)) ∧ (∀ y0 y1 y2 y3 y4 y5 y6 y7, LeO (meta_words.l0 k y0 y1 y2 y3 y4 y5 y6 y7) (meta_words.l0 (k + 1) y0 y1 y2 y3 y4 y5 y6 y7)) ∧ (∀ y0 y1 y2 y3 y4, LeO (meta_words.j5 k y0 y1 y2 y3 y4) (meta_words.j5 (k + 1) y0 y1 y2 y3 y4))
 | 0 => ⟨fun _ _ _ _ _ _ r h => by simp [meta_words.j0] at h, fun _ _ _ _ _ r h => by simp [meta_words.j1] at h, fun _ _ _ _ _ _ r h => by simp [meta_words.j2] at h, fun _ _ _ _ _ r h => by simp [meta_words.j3] at h, fun _ _ _ _ _ _ _ _ r h => by simp [meta_words.l0] at h, fun _ _ _ _ _ r h => by simp [meta_words.j5] at h⟩
 | k + 1 => by
  obtain ⟨ih0, ih1, ih2, ih3, ih4, ih5⟩ := meta_words.mono_l k
  refine ⟨?_, ?_, ?_, ?_, ?_, ?_⟩
  all_goals
   intros
   first | unfold meta_words.j0 | unfold meta_words.j1 | unfold meta_words.j2 | unfold meta_words.j3 | unfold meta_words.l0 | unfold meta_words.j5
   repeat' first
   | (with_reducible exact ih0 _ _ _ _ _ _)
   | (with_reducible exact ih1 _ _ _ _ _)
   | (with_reducible exact ih2 _ _ _ _ _ _)
   | (with_reducible exact ih3 _ _ _ _ _)
   | (with_reducible exact ih4 _ _ _ _ _ _ _ _)
   | (with_reducible exact ih5 _ _ _ _ _)
   | (with_reducible exact LeO.refl _)
   | (with_reducible exact LeO.none _)
   | (with_reducible refine LeO.ite ?_ ?_)
   | (with_reducible refine LeO.bind ?_ (fun _ => ?_))
   | exact ih0 _ _ _ _ _ _
   | exact ih1 _ _ _ _ _
   | exact ih2 _ _ _ _ _ _
   | exact ih3 _ _ _ _ _
   | exact ih4 _ _ _ _ _ _ _ _
   | exact ih5 _ _ _ _ _
   | exact LeO.none _
   | refine LeO.ite ?_ ?_
   | refine LeO.bind ?_ (fun _ => ?_)
theorem meta_words.mono : ∀ a0 a1 k, LeO (meta_words.f k a0 a1) (meta_words.f (k + 1) a0 a1) := by
 intro a0 a1 k
 obtain ⟨ih0, ih1, ih2, ih3, ih4, ih5⟩ := meta_words.mono_l k
 unfold meta_words.f
 repeat' first
  | (with_reducible exact ih0 _ _ _ _ _ _)
  | (with_reducible exact ih1 _ _ _ _ _)
  | (with_reducible exact ih2 _ _ _ _ _ _)
  | (with_reducible exact ih3 _ _ _ _ _)
  | (with_reducible exact ih4 _ _ _ _ _ _ _ _)
  | (with_reducible exact ih5 _ _ _ _ _)
  | (with_reducible exact LeO.refl _)
  | (with_reducible exact LeO.none _)
  | (with_reducible refine LeO.ite ?_ ?_)
  | (with_reducible refine LeO.bind ?_ (fun _ => ?_))
  | exact ih0 _ _ _ _ _ _
  | exact ih1 _ _ _ _ _
  | exact ih2 _ _ _ _ _ _
  | exact ih3 _ _ _ _ _
  | exact ih4 _ _ _ _ _ _ _ _
  | exact ih5 _ _ _ _ _
  | exact LeO.none _
  | refine LeO.ite ?_ ?_
  | refine LeO.bind ?_ (fun _ => ?_)
def meta_words.T3 : Bool × List (List Nat × List Nat) := (true, [([], []), ([0], [0]), ([1], [1]), ([], []), ([3], [3]), ([0, 1, 2], []), ([5, 2, 0, 1, 2], [2, 5]), ([4, 6, 0, 1, 2, 3, 4, 5, 6], [0, 3, 4])])
def meta_words.B3 : List Nat := [0, 1, 3, 0, 8, 7, 39, 127]
theorem meta_words.tab3 : rtab .any (opsOf Tryz.f50 3) = meta_words.T3 := by kernel_rfl
theorem meta_words.bits3 : waitsOk meta_words.T3.2 meta_words.B3 = true := by kernel_rfl
def meta_words.T14 : Bool × List (List Nat × List Nat) := (true, [([], []), ([0], [0]), ([], []), ([2], [2]), ([], []), ([4], [4]), ([3, 5], [3, 5]), ([6], [6]), ([1, 7], [1, 7]), ([0, 1, 2, 3, 4, 5, 6, 7, 8], []), ([9, 8, 8, 0, 1, 2, 3, 4, 5, 6, 7, 8], [8, 9])])
def meta_words.B14 : List Nat := [0, 1, 0, 4, 0, 16, 60, 124, 255, 511, 1023]
theorem meta_words.tab14 : rtab .any (opsOf Tryz.f50 14) = meta_words.T14 := by kernel_rfl
theorem meta_words.bits14 : waitsOk meta_words.T14.2 meta_words.B14 = true := by kernel_rfl
set_option maxHeartbeats 8000000 in
set_option maxRecDepth 100000 in
theorem meta_words.calls (k : Nat) (a0 : Int) (P1_ : Nat → Prop) (A1 : Option Addr) (c1 : Nat) (l1 : List ByteArray) (r1 : Int) (r2 : ByteArray) (r3 : Int) (r4 : List (S61)) (r5 : Bool) (w : World) (hs1 : Kd.V Kd.string 9 w w.heap.size (fun k_ => P1_ k_) (.slice A1 l1.length c1) l1) (hv : Vars w) (h : meta_words.f k a0 l1 = some (r1, r2, r3, r4, r5)) :
 Calls Tryz.prog 50 #[.int .i64 a0, .slice A1 l1.length c1] w fun e w' => ∃ v3_ : Value, e = .returned (.tuple #[.agg #[.int .i64 r1, .string r2, .int .i64 r3, v3_], .bool r5]) ∧ Kd.R k61 61 w' w.heap.size (fun k_ => (w.heap.size ≤ k_)) v3_ r4 ∧ Below w.heap.size w w' := by
 have hu31 := Tryz.underlying31
 have hu61 := Tryz.underlying61
 have HV := Aside0.mk hv
 clear hv
 have HO1 := Aside0.mk (show Kd.V Kd.string 9 w w.heap.size (fun k_ => (P1_ k_ ∨ w.heap.size ≤ k_)) (.slice A1 l1.length c1) l1 from Kd.V_mono hs1 (fun k_ hk => .inl hk))
 have HB := Aside0.mk (Below.refl w.heap.size w)
 have H : (if a0 = 5 then (meta_words.j0 k a0 l1 false a0 (⟨#[]⟩ : ByteArray) 0) else (meta_words.j0 k a0 l1 (decide ((l1.length : Int) > 0)) a0 (⟨#[]⟩ : ByteArray) 0)) = some (r1, r2, r3, r4, r5) := h
 clear h
 have HC3 := Aside0.mk H
 clear H
 go_enter Tryz.func50, Tryz.ntmps50
 go_upto_region 2 with (first | ((with_reducible refine gate_dst (N := 4) rfl ?_); (try (refine gate_guard (by rfl) ?_; dsimp only)); refine box_event ?hg (N := 4) ?hd (cs := #[.int .i64 0, .string (⟨#[]⟩ : ByteArray), .int .i64 0, .slice none 0 0]) (t := 31) ?hr ?_; (case hd => rfl); (case hg => rfl); (case hr => first | (go_simp; done) | (go_simp; rfl)); intro gb182 hg w4 hbox hb; have n0_ := Aside0.mk (Kd.V_below (Kd.V_elderB (by (with_reducible repeat (first | apply Kd.V_alloc | apply Kd.V_drewN | apply Kd.V_drew)); exact HO1.out) gb182 (Nat.le_of_eq hg.symm)) hb); have n1_ := Aside0.mk (below_step (hbA HB.out) hb); have n2_ := Aside0.mk (hbox); have n3_ := Aside0.mk ((by rw [hg]; exact (below_size (hbA HB.out)) : w.heap.size ≤ gb182)); have n4_ := Aside0.mk ((by rw [hg]; exact (below_size (hbA HB.out)) : w.heap.size ≤ gb182)); clear HO1; clear HB; have HO1 := n0_; have HB := n1_; have BK182 := n2_; have GW182 := n3_; have GE182 := n4_; clear n0_ n1_ n2_ n3_ n4_; clear hb hbox hg; obtain ⟨hcz5_0, hcz5_1, hcz5_2, hcz5_3, hfz5_0, hfz5_1, hfz5_2, hfz5_3⟩ := blkA4 BK182.out))
 (try simp only [Act.put, List.setIfInBounds_toArray, List.set_cons_zero, List.set_cons_succ])
 go_cut [20] (fun v20 wc => ∃ (kq : Nat) (x20_2 : Bool), v20 = .bool x20_2 ∧ Aside0 (meta_words.j0 kq a0 l1 x20_2 a0 (⟨#[]⟩ : ByteArray) 0 = some (r1, r2, r3, r4, r5)) ∧ Aside0 (kq ≤ k) ∧ Aside0 (Kd.V Kd.string 9 wc w.heap.size (fun k_ => (P1_ k_ ∨ w.heap.size ≤ k_) ∧ k_ ≠ gb182) (.slice A1 l1.length c1) l1) ∧ Aside0 (wc.heap[gb182]? = some (.cells #[.int .i64 a0, .string (⟨#[]⟩ : ByteArray), .int .i64 0, (.slice none 0 0)] 31 (0, 0))) ∧ Aside0 (Below w.heap.size w wc))
 case first =>
  have H := HC3.out
  clear HC3
  by_cases c6 : a0 = 5
  · rw [if_pos c6] at H
    have c6b0 : (a0 == 5) = true := beq_iff_eq.mpr c6
    have c6b1 : (a0 != 5) = false := bne_eq_false_iff_eq.mpr c6
    clear c6
    (first | rw [c6b0] | (simp only [i64_w, i32_w]; rw [c6b0]) | skip)
    have H' := Aside0.mk H
    clear H
    go_wp2
    go_meet
    case rel => exact ⟨_, (false), rsA, H', ⟨by first | omega | exact Nat.le_refl _⟩, ⟨by (with_reducible repeat (first | apply Kd.V_alloc | apply Kd.V_drewN | apply Kd.V_drew)); exact Kd.V_mono (Kd.V_far (p := ⟨gb182, 0, none⟩) (Kd.V_mono HO1.out (fun k_ hk => (⟨hk, hk.2⟩ : _ ∧ k_ ≠ gb182))) (fun _ hk => hk.2) (.int .i64 a0)) (fun _ hk => ⟨hk.1.1, hk.1.2⟩)⟩, ⟨by (with_reducible repeat (first | refine blk_drewN ?_ _ | refine blk_drew ?_ | refine blk_alloc ?_ _)); refine blk_put (cs := #[.int .i64 0, .string (⟨#[]⟩ : ByteArray), .int .i64 0, .slice none 0 0]) ?_ 0 _ rfl; (with_reducible repeat (first | refine blk_drewN ?_ _ | refine blk_drew ?_ | refine blk_alloc ?_ _)); exact BK182.out⟩, ⟨hbA HB.out⟩⟩
  rw [if_neg c6] at H
  have c6b0 : (a0 == 5) = false := beq_eq_false_iff_ne.mpr c6
  have c6b1 : (a0 != 5) = true := bne_iff_ne.mpr c6
  (first | rw [c6b0] | (simp only [i64_w, i32_w]; rw [c6b0]) | skip)
  have H' := Aside0.mk H
  clear H
  go_wp2
  go_meet
  case rel => exact ⟨_, (decide ((l1.length : Int) > 0)), rsA, H', ⟨by first | omega | exact Nat.le_refl _⟩, ⟨by (with_reducible repeat (first | apply Kd.V_alloc | apply Kd.V_drewN | apply Kd.V_drew)); exact Kd.V_mono (Kd.V_far (p := ⟨gb182, 0, none⟩) (Kd.V_mono HO1.out (fun k_ hk => (⟨hk, hk.2⟩ : _ ∧ k_ ≠ gb182))) (fun _ hk => hk.2) (.int .i64 a0)) (fun _ hk => ⟨hk.1.1, hk.1.2⟩)⟩, ⟨by (with_reducible repeat (first | refine blk_drewN ?_ _ | refine blk_drew ?_ | refine blk_alloc ?_ _)); refine blk_put (cs := #[.int .i64 0, .string (⟨#[]⟩ : ByteArray), .int .i64 0, .slice none 0 0]) ?_ 0 _ rfl; (with_reducible repeat (first | refine blk_drewN ?_ _ | refine blk_drew ?_ | refine blk_alloc ?_ _)); exact BK182.out⟩, ⟨hbA HB.out⟩⟩
 clear HC3
 (try clear c1); (try clear p2); (try clear c5); (try clear c6); (try clear c6b0); (try clear c6b1); (try clear hcz5_0 hcz5_1 hcz5_2 hcz5_3 hfz5_0 hfz5_1 hfz5_2 hfz5_3)
 obtain ⟨kq, x20_2, rfl, HA, HJ2, HO_1, BK182, HB⟩ := hcut
 cases kq with
 | zero => exact absurd HA.out (by simp [meta_words.j0])
 | succ kj2 =>
  have H := HA.out
  clear HA
  simp only [meta_words.j0] at H
  have HC7 := Aside0.mk H
  clear H
  go_upto_if 20 with (fail)
  go_cut [1] (fun v1 wc => ∃ (kq : Nat) (x1_6 : List ByteArray) (x183001_6 : ByteArray), Aside0 (meta_words.j1 kq a0 x1_6 a0 x183001_6 0 = some (r1, r2, r3, r4, r5)) ∧ Aside0 (kq ≤ kj2) ∧ Aside0 (Kd.V Kd.string 9 wc w.heap.size (fun k_ => (P1_ k_ ∨ w.heap.size ≤ k_) ∧ k_ ≠ gb182) v1 x1_6) ∧ Aside0 (wc.heap[gb182]? = some (.cells #[.int .i64 a0, .string x183001_6, .int .i64 0, (.slice none 0 0)] 31 (0, 0))) ∧ Aside0 (Below w.heap.size w wc))
  case first =>
   have H := HC7.out
   clear HC7
   by_cases c8 : x20_2 = true
   · subst c8
     have H1 : (if 0 < (l1.length : Int) then (if 1 ≤ (l1.length : Int) then (meta_words.j1 kj2 a0 (l1.drop 1) a0 (rdOf ByteArray.empty l1 0) 0) else (none)) else (none)) = some (r1, r2, r3, r4, r5) := by rw [if_pos rfl] at H; exact H
     clear H
     have H := H1
     clear H1
     by_cases c9 : 0 < (l1.length : Int)
     · rw [if_pos c9] at H
       have c9b0 : decide (0 < (l1.length : Int)) = true := decide_eq_true c9
       have c9b1 : decide (0 < l1.length) = true := decide_eq_true (by omega)
       clear c9
       (first | rw [c9b0] | (simp only [i64_w, i32_w]; rw [c9b0]) | skip)
       by_cases c10 : 1 ≤ (l1.length : Int)
       · rw [if_pos c10] at H
         have c10b0 := eq_true c10
         have c10b1 : decide (1 ≤ (l1.length : Int)) = true := decide_eq_true c10
         clear c10
         obtain ⟨y184, hy184⟩ : ∃ y_ : List ByteArray, y_ = (l1.drop 1) := ⟨_, rfl⟩
         replace H : (meta_words.j1 kj2 a0 y184 a0 (rdOf ByteArray.empty l1 0) 0) = some (r1, r2, r3, r4, r5) := by first | (rw [hy184]; with_reducible exact H) | (have H2_ := (Option.bind_some _ _).symm.trans H; rw [hy184]; with_reducible exact H2_) | (have H2_ := (Option.bind_some _ _).symm.trans H; with_reducible exact H2_) | with_reducible exact H | (rw [hy184]; exact H) | exact H
         have Ny184 := Aside0.mk hy184
         clear hy184
         have H' := Aside0.mk H
         clear H
         try go_wp2
         replace HO_1 := Aside0.mk (Kd.V_drew HO_1.out)
         replace BK182 := Aside0.mk (blk_drew BK182.out)
         replace HB := Aside0.mk (below_drew1 HB.out)
         have p183 : 0 ≤ (0 : Int) := (by omega)
         have q183 : 0 < (l1.length : Int) := of_decide_eq_true asA
         obtain ⟨ad183, e183, hx183_0⟩ := Kd.at_string (Kd.V_reads' HO_1.out).2.2 0 p183 q183
         cases e183
         have qi183 : (0 < l1.length) = True := eq_true (by omega)
         (try rw [show ((0 : Int)).toNat = 0 from rfl] at hx183_0)
         (try rw [Addr.add_zero'] at hx183_0)
         replace p183 := eq_true p183
         replace q183 := eq_true q183
         have q12 : (1 : Int) ≤ ((l1.length : Int) : Int) := of_decide_eq_true asA
         obtain ⟨i012, hi012, _, hsz12, _⟩ := info_parts info9
         have hroom12 : l1.length ≤ c1 := (Kd.V_reads' HO_1.out).2.1
         have hC12 : Kd.F Kd.string _ _ (some ad183) l1.length l1 := (Kd.V_at (base := w.heap.size) HO_1.out).2.2
         have hcut12 := cut_from (P := Tryz.prog) 66 9 .i64 Tryz.underlying66 hi012 1 hsz12 (some ad183) l1.length c1 1 (by omega) q12
         have hr12 := Kd.F_cut (m := (1 : Int).toNat) (c := c1) hC12 (by omega) hroom12
         obtain ⟨A12, hA12⟩ : ∃ A1_, A1_ = (if c1 = (1 : Int).toNat then (some ad183) else ((some ad183) : Option Addr).map (·.add ((1 : Int).toNat * 1))) := ⟨_, rfl⟩
         obtain ⟨c12, hc12⟩ : ∃ c1_, c1_ = c1 - (1 : Int).toNat := ⟨_, rfl⟩
         have hy12 : y184.length = l1.length - (1 : Int).toNat := (by rw [Ny184.out, List.length_drop] <;> omega)
         rw [show (l1).drop (1 : Int).toNat = y184 from Ny184.out.symm] at hr12
         replace hr12 : Kd.F Kd.string _ _ A12 y184.length y184 := (by rw [hA12]; exact hr12)
         rw [← hy12, ← hA12, ← hc12] at hcut12
         have HO188 := Aside0.mk (show Kd.V Kd.string 9 _ w.heap.size _ (.slice A12 y184.length c12) y184 from Kd.V_mk (by rw [hy12, hc12]; exact Nat.sub_le_sub_right hroom12 _) hr12)
         have HC188 := Aside0.mk (show y184.length ≤ c12 from by rw [hy12, hc12]; exact Nat.sub_le_sub_right hroom12 _)
         clear hr12 hC12 hroom12 hi012 hsz12 hc12
         have KY12 := Aside0.mk hy12
         have KA12 := Aside0.mk hA12
         clear hy12 hA12
         replace q12 := eq_true q12
         refine start_ (n := 8) (S := fun w' => w'.cell? ad183 = some (.string (rdOf ByteArray.empty l1 0))) (ds := []) #[false, false, false, false, false, false, false, false] (by kernel_rfl) rfl rfl (hx183_0) (fun hHeld => ?_); refine with_tabW meta_words.tab3 meta_words.bits3 (fun HT_ HW_ => ?_)
         generalize wc.drew = w11 at HO_1 BK182 HB HO188 hx183_0 hHeld ⊢
         refine pureA_ (i := 0) (N := some 21) #[true, false, false, false, false, false, false, false] rfl rfl ?_ (hc := any_of HT_.out (by kernel_rfl))
         refine pureA_ (i := 1) (N := some 22) #[true, true, false, false, false, false, false, false] rfl rfl ?_ (hc := any_of HT_.out (by kernel_rfl))
         refine pureA_ (i := 3) (N := some 24) #[true, true, false, true, false, false, false, false] rfl rfl ?_ (hc := any_of HT_.out (by kernel_rfl))
         refine pureA_ (i := 4) (N := some 25) #[true, true, false, true, true, false, false, false] rfl rfl ?_ (hc := any_of HT_.out (by kernel_rfl))
         refine takeA_ (i := 2) (N := some 23) #[true, true, true, true, true, false, false, false] rfl rfl hHeld ?_ (hc := take_ofW HT_.out HW_.out (by kernel_rfl))
         refine pureA_ (i := 5) (N := some 26) #[true, true, true, true, true, true, false, false] rfl rfl ?_ (hc := any_of HT_.out (by kernel_rfl))
         refine one_ (i := 6) (N := none) #[true, true, true, true, true, true, true, false] rfl rfl (one_of HT_.out (by kernel_rfl)) (by decide) (fun K hK => ?_)
         have hs13 : w11.cell? ⟨gb182, 1, none⟩ = some (.string (⟨#[]⟩ : ByteArray)) := (blk_cell BK182.out 1).trans rfl
         have hfs13 := blk_frozen BK182.out 1
         refine skip_ (w1 := ?_) (by rfl) rfl ?_ ?_
         rotate_left
         · go_simp
           rfl
         refine hK.out _ _ (((cell_far (p := ⟨gb182, _, none⟩) (by first | exact Kd.V_apart HO_1.out (by decide) (Int.natCast_pos.mp (by first | assumption | exact of_eq_true (by assumption) | exact of_decide_eq_true (by assumption))) (fun _ hk => hk.2) | exact Kd.own_blk (Kd.V_away HO_1.out (fun _ hk => hk.2)) | (rw [add_block]; exact Kd.own_blk (Kd.V_away HO_1.out (fun _ hk => hk.2))) | (show (Addr.add _ _).block ≠ _; rw [add_block]; exact Kd.own_blk (Kd.V_away HO_1.out (fun _ hk => hk.2))) | (dsimp only; exact Kd.own_blk (Kd.V_away HO_1.out (fun _ hk => hk.2)))) _).trans (hHeld))) (fun hHeld => ?_)
         clear hK K
         refine pureA_ (i := 7) (N := some 1) #[true, true, true, true, true, true, true, true] rfl rfl ?_ (hc := any_of HT_.out (by kernel_rfl))
         refine done_ (done_of HT_.out (by kernel_rfl)) ?_
         try go_wp2
         go_meet
         case rel => exact ⟨_, (y184), (rdOf ByteArray.empty l1 0), H', ⟨by have := HJ2.out; first | omega | exact Nat.le_refl _⟩, ⟨by (with_reducible repeat (first | apply Kd.V_alloc | apply Kd.V_drewN | apply Kd.V_drew)); exact Kd.V_mono (Kd.V_far (p := ⟨gb182, 1, none⟩) (Kd.V_mono HO188.out (fun k_ hk => (⟨hk, hk.2⟩ : _ ∧ k_ ≠ gb182))) (fun _ hk => hk.2) (.string (rdOf ByteArray.empty l1 0))) (fun _ hk => ⟨hk.1.1, hk.1.2⟩)⟩, ⟨by (with_reducible repeat (first | refine blk_drewN ?_ _ | refine blk_drew ?_ | refine blk_alloc ?_ _)); refine blk_put (cs := #[.int .i64 a0, .string (⟨#[]⟩ : ByteArray), .int .i64 0, .slice none 0 0]) ?_ 1 _ rfl; (with_reducible repeat (first | refine blk_drewN ?_ _ | refine blk_drew ?_ | refine blk_alloc ?_ _)); exact BK182.out⟩, ⟨hbA HB.out⟩⟩
       rw [if_neg c10] at H
       exact absurd H (by simp)
     rw [if_neg c9] at H
     exact absurd H (by simp)
   replace c8 := Bool.eq_false_iff.mpr c8
   subst c8
   have H1 : (meta_words.j1 kj2 a0 l1 a0 (⟨#[]⟩ : ByteArray) 0) = some (r1, r2, r3, r4, r5) := by rw [if_neg (show ¬ (false = true) by decide)] at H; exact H
   clear H
   have H := H1
   clear H1
   have H' := Aside0.mk H
   clear H
   go_wp2
   go_meet
   case rel => exact ⟨_, (l1), ((⟨#[]⟩ : ByteArray)), H', ⟨by have := HJ2.out; first | omega | exact Nat.le_refl _⟩, ⟨by (with_reducible repeat (first | apply Kd.V_alloc | apply Kd.V_drewN | apply Kd.V_drew)); exact HO_1.out⟩, ⟨rbA BK182.out⟩, ⟨hbA HB.out⟩⟩
  clear HC7
  (try clear c1); (try clear p1); (try clear q1); (try clear hx1); (try clear qi1); (try clear p2); (try clear c5); (try clear c6); (try clear c6b0); (try clear c6b1); (try clear c8); (try clear c9); (try clear c9b0); (try clear c9b1); (try clear c10); (try clear c10b0); (try clear c10b1); (try clear c12); (try clear q12); (try clear hcz5_0 hcz5_1 hcz5_2 hcz5_3 hfz5_0 hfz5_1 hfz5_2 hfz5_3); (try clear hx183_0); (try clear p183); (try clear p2); (try clear q12); (try clear q183)
  obtain ⟨kq, x1_6, x183001_6, HA, HJ6, HO_1, BK182, HB⟩ := hcut
  cases kq with
  | zero => exact absurd HA.out (by simp [meta_words.j1])
  | succ kj6 =>
   have H := HA.out
   clear HA
   simp only [meta_words.j1] at H
   have HC14 := Aside0.mk H
   clear H
   go_upto_region 4 with (fail)
   go_cut [33] (fun v33 wc => ∃ (kq : Nat) (x33_13 : Bool), v33 = .bool x33_13 ∧ Aside0 (meta_words.j2 kq a0 x1_6 x33_13 a0 x183001_6 0 = some (r1, r2, r3, r4, r5)) ∧ Aside0 (kq ≤ kj6) ∧ Aside0 (Kd.V Kd.string 9 wc w.heap.size (fun k_ => (P1_ k_ ∨ w.heap.size ≤ k_) ∧ k_ ≠ gb182) u1 x1_6) ∧ Aside0 (wc.heap[gb182]? = some (.cells #[.int .i64 a0, .string x183001_6, .int .i64 0, (.slice none 0 0)] 31 (0, 0))) ∧ Aside0 (Below w.heap.size w wc))
   case first =>
    have H := HC14.out
    clear HC14
    by_cases c15 : a0 = 2
    · rw [if_pos c15] at H
      have c15b0 : (a0 == 2) = true := beq_iff_eq.mpr c15
      have c15b1 : (a0 != 2) = false := bne_eq_false_iff_eq.mpr c15
      clear c15
      (first | rw [c15b0] | (simp only [i64_w, i32_w]; rw [c15b0]) | skip)
      have H' := Aside0.mk H
      clear H
      obtain ⟨Ao16, co16, eo16⟩ := Kd.V_slice HO_1.out
      subst eo16
      go_wp2
      go_meet
      case rel => exact ⟨_, (decide ((x1_6.length : Int) > 0)), rsA, H', ⟨by have := HJ2.out; have := HJ6.out; first | omega | exact Nat.le_refl _⟩, ⟨by (with_reducible repeat (first | apply Kd.V_alloc | apply Kd.V_drewN | apply Kd.V_drew)); exact HO_1.out⟩, ⟨rbA BK182.out⟩, ⟨hbA HB.out⟩⟩
    rw [if_neg c15] at H
    have c15b0 : (a0 == 2) = false := beq_eq_false_iff_ne.mpr c15
    have c15b1 : (a0 != 2) = true := bne_iff_ne.mpr c15
    (first | rw [c15b0] | (simp only [i64_w, i32_w]; rw [c15b0]) | skip)
    have H' := Aside0.mk H
    clear H
    go_wp2
    go_meet
    case rel => exact ⟨_, (false), rsA, H', ⟨by have := HJ2.out; have := HJ6.out; first | omega | exact Nat.le_refl _⟩, ⟨by (with_reducible repeat (first | apply Kd.V_alloc | apply Kd.V_drewN | apply Kd.V_drew)); exact HO_1.out⟩, ⟨rbA BK182.out⟩, ⟨hbA HB.out⟩⟩
   clear HC14
   (try clear c1); (try clear p1); (try clear q1); (try clear hx1); (try clear qi1); (try clear p2); (try clear c5); (try clear c6); (try clear c6b0); (try clear c6b1); (try clear c8); (try clear c9); (try clear c9b0); (try clear c9b1); (try clear c10); (try clear c10b0); (try clear c10b1); (try clear c12); (try clear q12); (try clear c15); (try clear c15b0); (try clear c15b1); (try clear hcz5_0 hcz5_1 hcz5_2 hcz5_3 hfz5_0 hfz5_1 hfz5_2 hfz5_3); (try clear hx183_0); (try clear p1); (try clear p183); (try clear p2); (try clear q1); (try clear q12); (try clear q183)
   obtain ⟨kq, x33_13, rfl, HA, HJ13, HO_1, BK182, HB⟩ := hcut
   cases kq with
   | zero => exact absurd HA.out (by simp [meta_words.j2])
   | succ kj13 =>
    have H := HA.out
    clear HA
    simp only [meta_words.j2] at H
    have HC17 := Aside0.mk H
    clear H
    go_upto_if 33 with (fail)
    go_cut [1] (fun v1 wc => ∃ (kq : Nat) (x1_16 : List ByteArray) (x183000_16 : Int) (x183001_16 : ByteArray) (x183002_16 : Int), Aside0 (meta_words.j3 kq a0 x1_16 x183000_16 x183001_16 x183002_16 = some (r1, r2, r3, r4, r5)) ∧ Aside0 (kq ≤ kj13) ∧ Aside0 (Kd.V Kd.string 9 wc w.heap.size (fun k_ => (P1_ k_ ∨ w.heap.size ≤ k_) ∧ k_ ≠ gb182) v1 x1_16) ∧ Aside0 (wc.heap[gb182]? = some (.cells #[.int .i64 x183000_16, .string x183001_16, .int .i64 x183002_16, (.slice none 0 0)] 31 (0, 0))) ∧ Aside0 (Below w.heap.size w wc))
    case first =>
     have H := HC17.out
     clear HC17
     by_cases c18 : x33_13 = true
     · subst c18
       have H1 : (if 0 < (x1_6.length : Int) then ((meta_size.f (rdOf ByteArray.empty x1_6 0)).bind fun bt190 => (if bt190.2 = true then (if 1 ≤ (x1_6.length : Int) then (meta_words.j3 kj13 a0 (x1_6.drop 1) a0 x183001_6 bt190.1) else (none)) else (some (0, (⟨#[]⟩ : ByteArray), 0, ([] : List (S61)), false)))) else (none)) = some (r1, r2, r3, r4, r5) := by rw [if_pos rfl] at H; exact H
       clear H
       have H := H1
       clear H1
       by_cases c19 : 0 < (x1_6.length : Int)
       · rw [if_pos c19] at H
         have c19b0 : decide (0 < (x1_6.length : Int)) = true := decide_eq_true c19
         have c19b1 : decide (0 < x1_6.length) = true := decide_eq_true (by omega)
         clear c19
         (first | rw [c19b0] | (simp only [i64_w, i32_w]; rw [c19b0]) | skip)
         replace H := Option.bind_eq_some_iff.mp H
         obtain ⟨⟨t190, t191⟩, A200, H⟩ := H
         replace H : (if t191 = true then (if 1 ≤ (x1_6.length : Int) then (meta_words.j3 kj13 a0 (x1_6.drop 1) a0 x183001_6 t190) else (none)) else (some (0, (⟨#[]⟩ : ByteArray), 0, ([] : List (S61)), false))) = some (r1, r2, r3, r4, r5) := H
         have A20 := Aside0.mk A200
         clear A200
         by_cases c21 : t191 = true
         · subst c21
           have H1 : (if 1 ≤ (x1_6.length : Int) then (meta_words.j3 kj13 a0 (x1_6.drop 1) a0 x183001_6 t190) else (none)) = some (r1, r2, r3, r4, r5) := by rw [if_pos rfl] at H; exact H
           clear H
           have H := H1
           clear H1
           by_cases c22 : 1 ≤ (x1_6.length : Int)
           · rw [if_pos c22] at H
             have c22b0 := eq_true c22
             have c22b1 : decide (1 ≤ (x1_6.length : Int)) = true := decide_eq_true c22
             clear c22
             obtain ⟨y192, hy192⟩ : ∃ y_ : List ByteArray, y_ = (x1_6.drop 1) := ⟨_, rfl⟩
             replace H : (meta_words.j3 kj13 a0 y192 a0 x183001_6 t190) = some (r1, r2, r3, r4, r5) := by first | (rw [hy192]; with_reducible exact H) | (have H2_ := (Option.bind_some _ _).symm.trans H; rw [hy192]; with_reducible exact H2_) | (have H2_ := (Option.bind_some _ _).symm.trans H; with_reducible exact H2_) | with_reducible exact H | (rw [hy192]; exact H) | exact H
             have Ny192 := Aside0.mk hy192
             clear hy192
             have H' := Aside0.mk H
             clear H
             obtain ⟨Ao23, co23, eo23⟩ := Kd.V_slice HO_1.out
             subst eo23
             have p189 : 0 ≤ (0 : Int) := (by omega)
             have q189 : 0 < (x1_6.length : Int) := of_decide_eq_true asA
             obtain ⟨ad189, e189, hx189_0⟩ := Kd.at_string (Kd.V_reads' HO_1.out).2.2 0 p189 q189
             cases e189
             have qi189 : (0 < x1_6.length) = True := eq_true (by omega)
             (try rw [show ((0 : Int)).toNat = 0 from rfl] at hx189_0)
             (try rw [Addr.add_zero'] at hx189_0)
             replace p189 := eq_true p189
             replace q189 := eq_true q189
             go_wp2_with (first | ((with_reducible refine gate_callee (f := 73) rfl ?_); refine goesL_ (some 38) rfl rfl Tryz.func73 (by kernel_rfl) rfl #[.string (rdOf ByteArray.empty x1_6 0)] rfl argA ?_; (with_reducible refine (meta_size.calls (rdOf ByteArray.empty x1_6 0) t190 true _ ?side1 A20.out).mono ?_); (case side1 => exact Vars.below HV.out (hbA HB.out)); rintro e w24 ⟨rfl, hb⟩; refine ⟨_, rfl, ?_⟩; have n0_ := Aside0.mk (Kd.V_below (by (with_reducible repeat (first | apply Kd.V_alloc | apply Kd.V_drewN | apply Kd.V_drew)); exact HO_1.out) hb); have n1_ := Aside0.mk (blk_below (g := gb182) (o := .cells #[.int .i64 a0, .string x183001_6, .int .i64 0, .slice none 0 0] 31 (0, 0)) (rbA BK182.out) hb); have n2_ := Aside0.mk (below_step (hbA HB.out) hb); clear HO_1; clear BK182; clear HB; have HO_1 := n0_; have BK182 := n1_; have HB := n2_; clear n0_ n1_ n2_; (try clear hb); (try clear hb2); (try clear hk); (try clear hi); obtain ⟨hcz25_0, hcz25_1, hcz25_2, hcz25_3, hfz25_0, hfz25_1, hfz25_2, hfz25_3⟩ := blkA4 BK182.out) | ((with_reducible refine gate_store (t := 3) (p := 41) rfl ?_); refine store_event (t := 3) (p := 41) (v := ?vo_w26) (w1 := (w24.setCell ⟨gb182, 2, none⟩ (.int .i64 t190))) ?hg ?ho ?hn ?hr ?_; (case ho => rfl); (case hg => rfl); (case hn => rfl); (case hr => first | (go_simp; done) | (go_simp; rfl)); intro w26 hw; have n0_ : Aside0 (Kd.V Kd.string 9 w26 w.heap.size (fun k_ => (P1_ k_ ∨ w.heap.size ≤ k_) ∧ k_ ≠ gb182) (.slice (some ad189) x1_6.length co23) x1_6) := ⟨(by rw [hw]; exact (by (with_reducible repeat (first | apply Kd.V_alloc | apply Kd.V_drewN | apply Kd.V_drew)); exact Kd.V_mono (Kd.V_far (p := ⟨gb182, 2, none⟩) (Kd.V_mono HO_1.out (fun k_ hk => (⟨hk, hk.2⟩ : _ ∧ k_ ≠ gb182))) (fun _ hk => hk.2) (.int .i64 t190)) (fun _ hk => ⟨hk.1.1, hk.1.2⟩)))⟩; have n1_ : Aside0 (w26.heap[gb182]? = some (.cells #[.int .i64 a0, .string x183001_6, .int .i64 t190, .slice none 0 0] 31 (0, 0))) := ⟨(by rw [hw]; exact (by (with_reducible repeat (first | refine blk_drewN ?_ _ | refine blk_drew ?_ | refine blk_alloc ?_ _)); refine blk_put (cs := #[.int .i64 a0, .string x183001_6, .int .i64 0, .slice none 0 0]) ?_ 2 _ rfl; exact rbA BK182.out))⟩; have n2_ : Aside0 (Below w.heap.size w w26) := ⟨(by rw [hw]; exact (hbA HB.out))⟩; clear hw; clear HO_1; clear BK182; clear HB; have HO_1 := n0_; have BK182 := n1_; have HB := n2_; clear n0_ n1_ n2_; have q27 : (1 : Int) ≤ ((x1_6.length : Int) : Int) := of_decide_eq_true asA; obtain ⟨i027, hi027, _, hsz27, _⟩ := info_parts info9; have hroom27 : x1_6.length ≤ co23 := (Kd.V_reads' HO_1.out).2.1; have hC27 : Kd.F Kd.string _ _ (some ad189) x1_6.length x1_6 := (Kd.V_at (base := w.heap.size) HO_1.out).2.2; have hcut27 := cut_from (P := Tryz.prog) 66 9 .i64 Tryz.underlying66 hi027 1 hsz27 (some ad189) x1_6.length co23 1 (by omega) q27; have hr27 := Kd.F_cut (m := (1 : Int).toNat) (c := co23) hC27 (by omega) hroom27; obtain ⟨A27, hA27⟩ : ∃ A1_, A1_ = (if co23 = (1 : Int).toNat then (some ad189) else ((some ad189) : Option Addr).map (·.add ((1 : Int).toNat * 1))) := ⟨_, rfl⟩; obtain ⟨c27, hc27⟩ : ∃ c1_, c1_ = co23 - (1 : Int).toNat := ⟨_, rfl⟩; have hy27 : y192.length = x1_6.length - (1 : Int).toNat := (by rw [Ny192.out, List.length_drop] <;> omega); rw [show (x1_6).drop (1 : Int).toNat = y192 from Ny192.out.symm] at hr27; replace hr27 : Kd.F Kd.string _ _ A27 y192.length y192 := (by rw [hA27]; exact hr27); rw [← hy27, ← hA27, ← hc27] at hcut27; have HO196 := Aside0.mk (show Kd.V Kd.string 9 _ w.heap.size _ (.slice A27 y192.length c27) y192 from Kd.V_mk (by rw [hy27, hc27]; exact Nat.sub_le_sub_right hroom27 _) hr27); have HC196 := Aside0.mk (show y192.length ≤ c27 from by rw [hy27, hc27]; exact Nat.sub_le_sub_right hroom27 _); clear hr27 hC27 hroom27 hi027 hsz27 hc27; have KY27 := Aside0.mk hy27; have KA27 := Aside0.mk hA27; clear hy27 hA27; replace q27 := eq_true q27))
             go_meet
             case rel => exact ⟨_, (y192), (a0), (x183001_6), (t190), H', ⟨by have := HJ2.out; have := HJ6.out; have := HJ13.out; first | omega | exact Nat.le_refl _⟩, ⟨by (with_reducible repeat (first | apply Kd.V_alloc | apply Kd.V_drewN | apply Kd.V_drew)); exact HO196.out⟩, ⟨rbA BK182.out⟩, ⟨hbA HB.out⟩⟩
           rw [if_neg c22] at H
           exact absurd H (by simp)
         replace c21 := Bool.eq_false_iff.mpr c21
         subst c21
         have H1 : (some (0, (⟨#[]⟩ : ByteArray), 0, ([] : List (S61)), false)) = some (r1, r2, r3, r4, r5) := by rw [if_neg (show ¬ (false = true) by decide)] at H; exact H
         clear H
         have H := H1
         clear H1
         simp only [Option.some.injEq, Prod.mk.injEq] at H
         obtain ⟨rfl, rfl, rfl, rfl, rfl⟩ := H
         obtain ⟨Ao28, co28, eo28⟩ := Kd.V_slice HO_1.out
         subst eo28
         have p189 : 0 ≤ (0 : Int) := (by omega)
         have q189 : 0 < (x1_6.length : Int) := of_decide_eq_true asA
         obtain ⟨ad189, e189, hx189_0⟩ := Kd.at_string (Kd.V_reads' HO_1.out).2.2 0 p189 q189
         cases e189
         have qi189 : (0 < x1_6.length) = True := eq_true (by omega)
         (try rw [show ((0 : Int)).toNat = 0 from rfl] at hx189_0)
         (try rw [Addr.add_zero'] at hx189_0)
         replace p189 := eq_true p189
         replace q189 := eq_true q189
         go_wp2_with (first | ((with_reducible refine gate_callee (f := 73) rfl ?_); refine goesL_ (some 38) rfl rfl Tryz.func73 (by kernel_rfl) rfl #[.string (rdOf ByteArray.empty x1_6 0)] rfl argA ?_; (with_reducible refine (meta_size.calls (rdOf ByteArray.empty x1_6 0) t190 false _ ?side1 A20.out).mono ?_); (case side1 => exact Vars.below HV.out (hbA HB.out)); rintro e w29 ⟨rfl, hb⟩; refine ⟨_, rfl, ?_⟩; have n0_ := Aside0.mk (Kd.V_below (by (with_reducible repeat (first | apply Kd.V_alloc | apply Kd.V_drewN | apply Kd.V_drew)); exact HO_1.out) hb); have n1_ := Aside0.mk (blk_below (g := gb182) (o := .cells #[.int .i64 a0, .string x183001_6, .int .i64 0, .slice none 0 0] 31 (0, 0)) (rbA BK182.out) hb); have n2_ := Aside0.mk (below_step (hbA HB.out) hb); clear HO_1; clear BK182; clear HB; have HO_1 := n0_; have BK182 := n1_; have HB := n2_; clear n0_ n1_ n2_; (try clear hb); (try clear hb2); (try clear hk); (try clear hi); obtain ⟨hcz30_0, hcz30_1, hcz30_2, hcz30_3, hfz30_0, hfz30_1, hfz30_2, hfz30_3⟩ := blkA4 BK182.out))
         refine bodyPost_ret (results_ct rfl _ _ gb182 31 #[.int .i64 0, .string (⟨#[]⟩ : ByteArray), .int .i64 0, .slice none 0 0] (0, 0) _ rfl (by (with_reducible repeat (first | refine blk_drewN ?_ _ | refine blk_drew ?_ | refine blk_alloc ?_ _)); refine blk_put (cs := #[.int .i64 0, .string (⟨#[]⟩ : ByteArray), .int .i64 0, .slice none 0 0]) ?_ 3 _ rfl; (with_reducible repeat (first | refine blk_drewN ?_ _ | refine blk_drew ?_ | refine blk_alloc ?_ _)); refine blk_put (cs := #[.int .i64 0, .string (⟨#[]⟩ : ByteArray), .int .i64 t190, .slice none 0 0]) ?_ 2 _ rfl; (with_reducible repeat (first | refine blk_drewN ?_ _ | refine blk_drew ?_ | refine blk_alloc ?_ _)); refine blk_put (cs := #[.int .i64 0, .string x183001_6, .int .i64 t190, .slice none 0 0]) ?_ 1 _ rfl; (with_reducible repeat (first | refine blk_drewN ?_ _ | refine blk_drew ?_ | refine blk_alloc ?_ _)); refine blk_put (cs := #[.int .i64 a0, .string x183001_6, .int .i64 t190, .slice none 0 0]) ?_ 0 _ rfl; (with_reducible repeat (first | refine blk_drewN ?_ _ | refine blk_drew ?_ | refine blk_alloc ?_ _)); refine blk_put (cs := #[.int .i64 a0, .string x183001_6, .int .i64 0, .slice none 0 0]) ?_ 2 _ rfl; exact rbA BK182.out) Tryz.underlying31 rfl (by kernel_rfl)) rfl ?_
         exact ⟨_, reA, knA, hbA HB.out⟩
       rw [if_neg c19] at H
       exact absurd H (by simp)
     replace c18 := Bool.eq_false_iff.mpr c18
     subst c18
     have H1 : (meta_words.j3 kj13 a0 x1_6 a0 x183001_6 0) = some (r1, r2, r3, r4, r5) := by rw [if_neg (show ¬ (false = true) by decide)] at H; exact H
     clear H
     have H := H1
     clear H1
     have H' := Aside0.mk H
     clear H
     go_wp2
     go_meet
     case rel => exact ⟨_, (x1_6), (a0), (x183001_6), (0), H', ⟨by have := HJ2.out; have := HJ6.out; have := HJ13.out; first | omega | exact Nat.le_refl _⟩, ⟨by (with_reducible repeat (first | apply Kd.V_alloc | apply Kd.V_drewN | apply Kd.V_drew)); exact HO_1.out⟩, ⟨rbA BK182.out⟩, ⟨hbA HB.out⟩⟩
    clear HC17
    (try clear c1); (try clear p1); (try clear q1); (try clear hx1); (try clear qi1); (try clear c2); (try clear p2); (try clear q2); (try clear c5); (try clear c6); (try clear c6b0); (try clear c6b1); (try clear c7); (try clear c8); (try clear c9); (try clear c9b0); (try clear c9b1); (try clear c10); (try clear c10b0); (try clear c10b1); (try clear c12); (try clear q12); (try clear c15); (try clear c15b0); (try clear c15b1); (try clear c18); (try clear p18); (try clear q18); (try clear hx18); (try clear qi18); (try clear c19); (try clear c19b0); (try clear c19b1); (try clear c21); (try clear c22); (try clear c22b0); (try clear c22b1); (try clear c27); (try clear q27); (try clear hcz25_0 hcz25_1 hcz25_2 hcz25_3); (try clear hcz30_0 hcz30_1 hcz30_2 hcz30_3); (try clear hcz5_0 hcz5_1 hcz5_2 hcz5_3); (try clear hfz25_0 hfz25_1 hfz25_2 hfz25_3); (try clear hfz30_0 hfz30_1 hfz30_2 hfz30_3); (try clear hfz5_0 hfz5_1 hfz5_2 hfz5_3); (try clear hx183_0); (try clear hx189_0); (try clear p1); (try clear p183); (try clear p189); (try clear p2); (try clear q1); (try clear q12); (try clear q183); (try clear q189); (try clear q27)
    obtain ⟨kq, x1_16, x183000_16, x183001_16, x183002_16, HA, HJ16, HO_1, BK182, HB⟩ := hcut
    cases kq with
    | zero => exact absurd HA.out (by simp [meta_words.j3])
    | succ kj16 =>
     have H := HA.out
     clear HA
     simp only [meta_words.j3] at H
     have H' := Aside0.mk H
     clear H
     obtain ⟨Ao31, co31, eo31⟩ := Kd.V_slice HO_1.out
     subst eo31
     go_wp2
     go_loopg [49] kj16 (fun kq v49 w' => ∃ (x49_5 : Int) (x183000_5 : Int) (x183001_5 : ByteArray) (x183002_5 : Int) (x183003_5 : List (S61)) (u183003 : Value), v49 = .int .i64 x49_5 ∧ Aside0 (meta_words.l0 kq a0 x1_16 (x1_16.length : Int) x49_5 x183000_5 x183001_5 x183002_5 x183003_5 = some (r1, r2, r3, r4, r5)) ∧ Aside0 (kq ≤ kj16) ∧ Aside0 (Kd.V Kd.string 9 w' w.heap.size (fun k_ => (P1_ k_ ∨ w.heap.size ≤ k_) ∧ some k_ ≠ (u183003 : Value).ownBlock ∧ k_ ≠ gb182) (.slice Ao31 x1_16.length co31) x1_16) ∧ Aside0 (Kd.R k61 61 w' w.heap.size (fun k_ => (w.heap.size ≤ k_)) u183003 x183003_5) ∧ Aside0 (w'.heap[gb182]? = some (.cells #[.int .i64 x183000_5, .string x183001_5, .int .i64 x183002_5, u183003] 31 (0, 0))) ∧ Aside0 (Below w.heap.size w w'))
     case atStart => exact ⟨(0), (x183000_16), (x183001_16), (x183002_16), (([] : List (S61))), (.slice none 0 0), rsA, H', ⟨Nat.le_refl _⟩, ⟨by (with_reducible repeat (first | apply Kd.V_alloc | apply Kd.V_drewN | apply Kd.V_drew)); exact Kd.V_mono HO_1.out (fun _ hk => ⟨hk.1, ⟨(by simp [Value.ownBlock]), hk.2⟩⟩)⟩, ⟨knA⟩, ⟨rbA BK182.out⟩, ⟨hbA HB.out⟩⟩
     case round =>
      clear H'
      (try clear c1); (try clear p1); (try clear q1); (try clear hx1); (try clear qi1); (try clear c2); (try clear p2); (try clear q2); (try clear c5); (try clear c6); (try clear c6b0); (try clear c6b1); (try clear c7); (try clear c8); (try clear c9); (try clear c9b0); (try clear c9b1); (try clear c10); (try clear c10b0); (try clear c10b1); (try clear c12); (try clear q12); (try clear c15); (try clear c15b0); (try clear c15b1); (try clear c18); (try clear p18); (try clear q18); (try clear hx18); (try clear qi18); (try clear c19); (try clear c19b0); (try clear c19b1); (try clear c21); (try clear c22); (try clear c22b0); (try clear c22b1); (try clear c27); (try clear q27); (try clear hcz25_0 hcz25_1 hcz25_2 hcz25_3); (try clear hcz30_0 hcz30_1 hcz30_2 hcz30_3); (try clear hcz5_0 hcz5_1 hcz5_2 hcz5_3); (try clear hfz25_0 hfz25_1 hfz25_2 hfz25_3); (try clear hfz30_0 hfz30_1 hfz30_2 hfz30_3); (try clear hfz5_0 hfz5_1 hfz5_2 hfz5_3); (try clear hx183_0); (try clear hx189_0); (try clear p1); (try clear p18); (try clear p183); (try clear p189); (try clear p2); (try clear q1); (try clear q12); (try clear q18); (try clear q183); (try clear q189); (try clear q2); (try clear q27)
      obtain ⟨x49_5, x183000_5, x183001_5, x183002_5, x183003_5, u183003, rfl, HA, HK5, HO_47, HO_183003, BK182, HB⟩ := hrel
      cases gk with
      | zero => exact absurd HA.out (by simp [meta_words.l0])
      | succ k5 =>
       have H := HA.out
       clear HA
       simp only [meta_words.l0] at H
       by_cases c32 : x49_5 < (x1_16.length : Int)
       · rw [if_pos c32] at H
         have c32b0 : decide (x49_5 < (x1_16.length : Int)) = true := decide_eq_true c32
         clear c32
         by_cases c33 : 0 ≤ x49_5
         · rw [if_pos c33] at H
           have c33b0 : decide (0 ≤ x49_5) = true := decide_eq_true c33
           clear c33
           by_cases c34 : x49_5 < (x1_16.length : Int)
           · rw [if_pos c34] at H
             have c34b0 : decide (x49_5 < (x1_16.length : Int)) = true := decide_eq_true c34
             clear c34
             by_cases c35 : (rdOf ByteArray.empty x1_16 x49_5).toList = ([] : List UInt8)
             · rw [if_pos c35] at H
               have c35b0 : ((rdOf ByteArray.empty x1_16 x49_5).toList == ([] : List UInt8)) = true := beq_iff_eq.mpr c35
               have c35e0 : (rdOf ByteArray.empty x1_16 x49_5).toList.isEmpty = true := by simpa using c35b0
               have c35b1 : ((rdOf ByteArray.empty x1_16 x49_5).toList != ([] : List UInt8)) = false := bne_eq_false_iff_eq.mpr c35
               clear c35
               simp only [Option.some.injEq, Prod.mk.injEq] at H
               obtain ⟨rfl, rfl, rfl, rfl, rfl⟩ := H
               have p197 : 0 ≤ (x49_5 : Int) := of_decide_eq_true asA
               have q197 : x49_5 < (x1_16.length : Int) := of_decide_eq_true asA
               obtain ⟨ad197, e197, hx197_0⟩ := Kd.at_string (Kd.V_reads' HO_47.out).2.2 x49_5 p197 q197
               cases e197
               replace p197 := eq_true p197
               replace q197 := eq_true q197
               obtain ⟨hcz36_0, hcz36_1, hcz36_2, hcz36_3, hfz36_0, hfz36_1, hfz36_2, hfz36_3⟩ := blkA4 BK182.out
               go_wp2
               refine bodyPost_ret (results_ct rfl _ _ gb182 31 #[.int .i64 0, .string (⟨#[]⟩ : ByteArray), .int .i64 0, .slice none 0 0] (0, 0) _ rfl (by (with_reducible repeat (first | refine blk_drewN ?_ _ | refine blk_drew ?_ | refine blk_alloc ?_ _)); refine blk_put (cs := #[.int .i64 0, .string (⟨#[]⟩ : ByteArray), .int .i64 0, u183003]) ?_ 3 _ rfl; (with_reducible repeat (first | refine blk_drewN ?_ _ | refine blk_drew ?_ | refine blk_alloc ?_ _)); refine blk_put (cs := #[.int .i64 0, .string (⟨#[]⟩ : ByteArray), .int .i64 x183002_5, u183003]) ?_ 2 _ rfl; (with_reducible repeat (first | refine blk_drewN ?_ _ | refine blk_drew ?_ | refine blk_alloc ?_ _)); refine blk_put (cs := #[.int .i64 0, .string x183001_5, .int .i64 x183002_5, u183003]) ?_ 1 _ rfl; (with_reducible repeat (first | refine blk_drewN ?_ _ | refine blk_drew ?_ | refine blk_alloc ?_ _)); refine blk_put (cs := #[.int .i64 x183000_5, .string x183001_5, .int .i64 x183002_5, u183003]) ?_ 0 _ rfl; exact rbA BK182.out) Tryz.underlying31 rfl (by kernel_rfl)) rfl ?_
               exact ⟨_, reA, knA, hbA HB.out⟩
             rw [if_neg c35] at H
             have c35b0 : ((rdOf ByteArray.empty x1_16 x49_5).toList == ([] : List UInt8)) = false := beq_eq_false_iff_ne.mpr c35
             have c35e0 : (rdOf ByteArray.empty x1_16 x49_5).toList.isEmpty = false := by simpa using c35b0
             have c35b1 : ((rdOf ByteArray.empty x1_16 x49_5).toList != ([] : List UInt8)) = true := bne_iff_ne.mpr c35
             by_cases c37 : 0 < ((rdOf ByteArray.empty x1_16 x49_5).size : Int)
             · rw [if_pos c37] at H
               have c37b0 : decide (0 < ((rdOf ByteArray.empty x1_16 x49_5).size : Int)) = true := decide_eq_true c37
               have c37b1 : decide (0 < (rdOf ByteArray.empty x1_16 x49_5).size) = true := decide_eq_true (by omega)
               clear c37
               by_cases c39 : 1 ≤ ((rdOf ByteArray.empty x1_16 x49_5).size : Int)
               · rw [if_pos c39] at H
                 have c39b0 := eq_true c39
                 have c39b1 : decide (1 ≤ ((rdOf ByteArray.empty x1_16 x49_5).size : Int)) = true := decide_eq_true c39
                 clear c39
                 by_cases c40 : x183003_5.length < 5864062014805
                 · rw [if_pos c40] at H
                   have LMc40 := Aside0.mk c40
                   clear c40
                   obtain ⟨y198, hy198⟩ : ∃ y_ : List (S61), y_ = (x183003_5 ++ [(⟨bt (rdOf ByteArray.empty x1_16 x49_5) 0, sub (rdOf ByteArray.empty x1_16 x49_5) 1 (rdOf ByteArray.empty x1_16 x49_5).size⟩ : S61)]) := ⟨_, rfl⟩
                   replace H : (meta_words.l0 k5 a0 x1_16 (x1_16.length : Int) (wrap64 (x49_5 + 1)) x183000_5 x183001_5 x183002_5 y198) = some (r1, r2, r3, r4, r5) := by first | (rw [hy198]; with_reducible exact H) | (have H2_ := (Option.bind_some _ _).symm.trans H; rw [hy198]; with_reducible exact H2_) | (have H2_ := (Option.bind_some _ _).symm.trans H; with_reducible exact H2_) | with_reducible exact H | (rw [hy198]; exact H) | exact H
                   have Ny198 := Aside0.mk hy198
                   clear hy198
                   have H' := Aside0.mk H
                   clear H
                   have p197 : 0 ≤ (x49_5 : Int) := of_decide_eq_true asA
                   have q197 : x49_5 < (x1_16.length : Int) := of_decide_eq_true asA
                   obtain ⟨ad197, e197, hx197_0⟩ := Kd.at_string (Kd.V_reads' HO_47.out).2.2 x49_5 p197 q197
                   cases e197
                   replace p197 := eq_true p197
                   replace q197 := eq_true q197
                   try go_wp2
                   replace HO_47 := Aside0.mk (Kd.V_drew HO_47.out)
                   replace HO_183003 := Aside0.mk (Kd.R_drew HO_183003.out)
                   replace BK182 := Aside0.mk (blk_drew BK182.out)
                   replace HB := Aside0.mk (below_drew1 HB.out)
                   have p38 : 0 ≤ (0 : Int) := (by omega)
                   have q38 : 0 < (rdOf ByteArray.empty x1_16 x49_5).size := (by have : (0 : Int) < ((rdOf ByteArray.empty x1_16 x49_5).size : Int) := of_decide_eq_true asA; omega)
                   have hx38 : ∀ h : 0 < (rdOf ByteArray.empty x1_16 x49_5).size, (((rdOf ByteArray.empty x1_16 x49_5)[0]'h).toNat : Int) = bt (rdOf ByteArray.empty x1_16 x49_5) 0 := bt_at (rdOf ByteArray.empty x1_16 x49_5) 0
                   clear p38
                   have qi38 : (0 < ((rdOf ByteArray.empty x1_16 x49_5).size : Int)) = True := eq_true (of_decide_eq_true asA)
                   replace q38 := eq_true q38
                   refine start_ (n := 11) (S := fun w' => w'.cell? ⟨gb182, 0, none⟩ = some (.int .i64 x183000_5) ∧ w'.cell? ⟨gb182, 1, none⟩ = some (.string x183001_5) ∧ w'.cell? ⟨gb182, 2, none⟩ = some (.int .i64 x183002_5) ∧ w'.cell? ⟨gb182, 3, none⟩ = some (u183003)) (ds := [10]) #[false, false, false, false, false, false, false, false, false, false, false] (by kernel_rfl) rfl rfl ⟨(blk_cell BK182.out 0).trans rfl, (blk_cell BK182.out 1).trans rfl, (blk_cell BK182.out 2).trans rfl, (blk_cell BK182.out 3).trans rfl⟩ (fun hHeld => ?_); refine with_tabW meta_words.tab14 meta_words.bits14 (fun HT_ HW_ => ?_)
                   generalize wr.drew = w41 at HO_47 HO_183003 BK182 HB hHeld ⊢
                   refine pureA_ (i := 0) (N := some 56) #[true, false, false, false, false, false, false, false, false, false, false] rfl rfl ?_ (hc := any_of HT_.out (by kernel_rfl))
                   refine pureA_ (i := 2) (N := some 58) #[true, false, true, false, false, false, false, false, false, false, false] rfl rfl ?_ (hc := any_of HT_.out (by kernel_rfl))
                   refine pureA_ (i := 4) (N := some 60) #[true, false, true, false, true, false, false, false, false, false, false] rfl rfl ?_ (hc := any_of HT_.out (by kernel_rfl))
                   refine pureA_ (i := 5) (N := some 61) #[true, false, true, false, true, true, false, false, false, false, false] rfl rfl ?_ (hc := any_of HT_.out (by kernel_rfl))
                   refine takeA_ (i := 1) (N := some 57) #[true, true, true, false, true, true, false, false, false, false, false] rfl rfl hHeld ?_ (hc := take_ofW HT_.out HW_.out (by kernel_rfl)) (hy := by rintro w' ⟨s0, s1, s2, s3⟩; go_simp; with_reducible rfl)
                   refine takeA_ (i := 3) (N := some 59) #[true, true, true, true, true, true, false, false, false, false, false] rfl rfl hHeld ?_ (hc := take_ofW HT_.out HW_.out (by kernel_rfl)) (hy := by rintro w' ⟨s0, s1, s2, s3⟩; go_simp; with_reducible rfl)
                   refine pureA_ (i := 6) (N := some 62) #[true, true, true, true, true, true, true, false, false, false, false] rfl rfl ?_ (hc := any_of HT_.out (by kernel_rfl))
                   refine one_ (i := 7) (N := some 63) #[true, true, true, true, true, true, true, true, false, false, false] rfl rfl (one_of HT_.out (by kernel_rfl)) (by decide) (fun K hK => ?_)
                   refine value_ (w1 := ?_) (v := ?_) (by rfl) rfl ?_ ?_
                   rotate_left 2
                   · go_simp
                     constructor
                     · rfl
                     rfl
                   refine hK.out _ _ ⟨(blk_cell (blk_alloc BK182.out _) 0).trans rfl, (blk_cell (blk_alloc BK182.out _) 1).trans rfl, (blk_cell (blk_alloc BK182.out _) 2).trans rfl, (blk_cell (blk_alloc BK182.out _) 3).trans rfl⟩ (fun hHeld => ?_)
                   clear hK K
                   refine normA_ ?_
                   refine one_ (i := 8) (N := some 64) #[true, true, true, true, true, true, true, true, true, false, false] rfl rfl (one_of HT_.out (by kernel_rfl)) (by decide) (fun K hK => ?_)
                   refine Kd.R_append_step k61 (w0 := w) w.heap.size (by rfl) (.tmp 57) (.tmp 63) 29 61 (.agg #[(.int .u8 0), (.string ⟨#[]⟩)]) 24 rfl Tryz.underlying29 info61 rfl (by decide) (by omega) u183003 x183003_5 (⟨bt (rdOf ByteArray.empty x1_16 x49_5) 0, sub (rdOf ByteArray.empty x1_16 x49_5) 1 (rdOf ByteArray.empty x1_16 x49_5).size⟩ : S61) [.int .u8 (bt (rdOf ByteArray.empty x1_16 x49_5) 0), .string (sub (rdOf ByteArray.empty x1_16 x49_5) 1 (rdOf ByteArray.empty x1_16 x49_5).size)] (fun k_ => (w.heap.size ≤ k_)) (fun _ => False) rfl rfl ?aP (fun _ hk => hk.elim) ?aF ?aO ?aB ?aS ?aL ?_
                   (case aP => exact k61_mkM _ _ _ (⟨bt (rdOf ByteArray.empty x1_16 x49_5) 0, sub (rdOf ByteArray.empty x1_16 x49_5) 1 (rdOf ByteArray.empty x1_16 x49_5).size⟩ : S61))
                   (case aB => exact (hbA HB.out))
                   (case aF => exact (fun k_ hk => (Nat.le_trans (below_size (hbA HB.out)) hk)))
                   (case aO => exact (rdA HO_183003.out))
                   (case aS => exact (below_size (hbA HB.out)))
                   (case aL => have := LMc40.out; omega)
                   intro v199 w42 ho hb hg hat
                   rw [← Ny198.out] at ho
                   have n0_ := Aside0.mk (Kd.V_afterv (ok := (fun k_ => (P1_ k_ ∨ w.heap.size ≤ k_) ∧ k_ ≠ gb182)) (by (with_reducible repeat (first | apply Kd.V_alloc | apply Kd.V_drewN | apply Kd.V_drew)); exact Kd.V_mono HO_47.out (fun _ hk => ⟨⟨hk.1, hk.2.2⟩, hk.2.1⟩)) hg hat)
                   have n1_ := Aside0.mk (blk_grown (g := gb182) (o := .cells #[.int .i64 x183000_5, .string x183001_5, .int .i64 x183002_5, u183003] 31 (0, 0)) (rbA BK182.out) hg (Kd.R_ne HO_183003.out BK182.out (by decide)))
                   have n2_ := Aside0.mk (hb)
                   have n3_ := Aside0.mk (ho)
                   clear HO_47
                   clear BK182
                   clear HB
                   clear HO_183003
                   have HO_47 := n0_
                   have BK182 := n1_
                   have HB := n2_
                   have HO200 := n3_
                   clear n0_ n1_ n2_ n3_
                   clear ho hb hg hat
                   obtain ⟨Ao43, co43, eo43⟩ := Kd.R_slice HO200.out
                   (first | subst eo43 | (injection eo43 with f1_ f2_ f3_; have f4_ := f1_.symm; have f5_ := f3_.symm; clear f1_ f2_ f3_; subst f4_; subst f5_))
                   refine hK.out _ _ ⟨(blk_cell BK182.out 0).trans rfl, (blk_cell BK182.out 1).trans rfl, (blk_cell BK182.out 2).trans rfl, (blk_cell BK182.out 3).trans rfl⟩ (fun hHeld => ?_)
                   clear hK K
                   refine normA_ ?_
                   refine pureA_ (i := 9) (N := some 65) #[true, true, true, true, true, true, true, true, true, true, false] rfl rfl ?_ (hc := any_of HT_.out (by kernel_rfl))
                   refine last_ (i := 10) (N := none) #[true, true, true, true, true, true, true, true, true, true, true] rfl rfl (one_of HT_.out (by kernel_rfl)) (by decide) (fun K hK => ?_)
                   have hs44 : w42.cell? ⟨gb182, 3, none⟩ = some (u183003) := (blk_cell BK182.out 3).trans rfl
                   have hfs44 := blk_frozen BK182.out 3
                   refine skip_ (w1 := ?_) (by rfl) rfl ?_ ?_
                   rotate_left
                   · go_simp
                     rfl
                   refine hK.out _ _ ?_
                   clear hK K
                   refine done_ (done_of HT_.out (by kernel_rfl)) ?_
                   try go_wp2
                   go_roundg k5
                   case measure => have := HJ2.out; have := HJ6.out; have := HJ13.out; have := HJ16.out; have := HK5.out; omega
                   case rel => exact ⟨(wrap64 (x49_5 + 1)), (x183000_5), (x183001_5), (x183002_5), (y198), (.slice Ao43 y198.length co43), rsA, H', ⟨by have := HJ2.out; have := HJ6.out; have := HJ13.out; have := HJ16.out; have := HK5.out; omega⟩, ⟨by (with_reducible repeat (first | apply Kd.V_alloc | apply Kd.V_drewN | apply Kd.V_drew)); exact Kd.V_mono (Kd.V_far (p := ⟨gb182, 3, none⟩) (Kd.V_mono HO_47.out (fun k_ hk => (⟨hk, hk.1.2⟩ : _ ∧ k_ ≠ gb182))) (fun _ hk => hk.2) (.slice Ao43 y198.length co43)) (fun _ hk => ⟨hk.1.1.1, ⟨hk.1.2, hk.1.1.2⟩⟩)⟩, ⟨by (with_reducible repeat (first | apply Kd.R_alloc | apply Kd.R_drewN | apply Kd.R_drew)); exact Kd.R_mono (Kd.R_far (p := ⟨gb182, 3, none⟩) (Kd.R_types HO200.out BK182.out (by decide)) (fun _ hk => hk.2) (.slice Ao43 y198.length co43)) (fun _ hk => hk.1)⟩, ⟨by (with_reducible repeat (first | refine blk_drewN ?_ _ | refine blk_drew ?_ | refine blk_alloc ?_ _)); refine blk_put (cs := #[.int .i64 x183000_5, .string x183001_5, .int .i64 x183002_5, u183003]) ?_ 3 _ rfl; (with_reducible repeat (first | refine blk_drewN ?_ _ | refine blk_drew ?_ | refine blk_alloc ?_ _)); exact BK182.out⟩, ⟨hbA HB.out⟩⟩
                 rw [if_neg c40] at H
                 exact absurd H (by simp)
               rw [if_neg c39] at H
               exact absurd H (by simp)
             rw [if_neg c37] at H
             exact absurd H (by simp)
           rw [if_neg c34] at H
           exact absurd H (by simp)
         rw [if_neg c33] at H
         exact absurd H (by simp)
       rw [if_neg c32] at H
       have c32b0 : decide (x49_5 < (x1_16.length : Int)) = false := decide_eq_false c32
       clear c32
       replace H := Option.bind_eq_some_iff.mp H
       obtain ⟨⟨t201, t202⟩, A450, H⟩ := H
       replace H : (if t202 = true then (meta_words.j5 k5 (a0 != 5) x183000_5 x183001_5 x183002_5 x183003_5) else (meta_words.j5 k5 false x183000_5 x183001_5 x183002_5 x183003_5)) = some (r1, r2, r3, r4, r5) := H
       have A45 := Aside0.mk A450
       clear A450
       have HC46 := Aside0.mk H
       clear H
       obtain ⟨hcz47_0, hcz47_1, hcz47_2, hcz47_3, hfz47_0, hfz47_1, hfz47_2, hfz47_3⟩ := blkA4 BK182.out
       obtain ⟨Ao48, co48, eo48⟩ := Kd.R_slice HO_183003.out
       subst eo48
       go_upto_region 17 with (first | ((with_reducible refine gate_callee (f := 15) rfl ?_); refine goesL_ (some 69) rfl rfl Tryz.func15 (by kernel_rfl) rfl #[.agg #[.int .i64 x183000_5, .string x183001_5, .int .i64 x183002_5, .slice Ao48 x183003_5.length co48], .int .u8 98] rfl argA ?_; (with_reducible refine (meta_Find.calls x183000_5 x183001_5 x183002_5 _ _ x183003_5 98 t201 t202 _ ?side1 ?side2 A45.out).mono ?_); (case side1 => repeat (first | exact (Kd.R_reads' HO_183003.out).2.2 | (with_reducible refine Kd.C_alloc ?_ _) | (with_reducible refine Kd.C_drewN ?_ _) | (with_reducible refine Kd.C_drew ?_))); (case side2 => exact (Kd.R_reads' HO_183003.out).2.1); rintro e w49 ⟨rfl, hb⟩; refine ⟨_, rfl, ?_⟩; have n0_ := Aside0.mk (Kd.V_below (by (with_reducible repeat (first | apply Kd.V_alloc | apply Kd.V_drewN | apply Kd.V_drew)); exact HO_47.out) hb); have n1_ := Aside0.mk (Kd.R_below (rdA HO_183003.out) hb); have n2_ := Aside0.mk (blk_below (g := gb182) (o := .cells #[.int .i64 x183000_5, .string x183001_5, .int .i64 x183002_5, .slice Ao48 x183003_5.length co48] 31 (0, 0)) (rbA BK182.out) hb); have n3_ := Aside0.mk (below_step (hbA HB.out) hb); clear HO_47; clear HO_183003; clear BK182; clear HB; have HO_47 := n0_; have HO_183003 := n1_; have BK182 := n2_; have HB := n3_; clear n0_ n1_ n2_ n3_; (try clear hb); (try clear hb2); (try clear hk); (try clear hi)))
       (try simp only [Act.put, List.setIfInBounds_toArray, List.set_cons_zero, List.set_cons_succ])
       go_cut [76] (fun v76 wc => ∃ (kq : Nat) (x76_45 : Bool), v76 = .bool x76_45 ∧ Aside0 (meta_words.j5 kq x76_45 x183000_5 x183001_5 x183002_5 x183003_5 = some (r1, r2, r3, r4, r5)) ∧ Aside0 (kq ≤ k5) ∧ Aside0 (Kd.R k61 61 wc w.heap.size (fun k_ => (w.heap.size ≤ k_)) (.slice Ao48 x183003_5.length co48) x183003_5) ∧ Aside0 (wc.heap[gb182]? = some (.cells #[.int .i64 x183000_5, .string x183001_5, .int .i64 x183002_5, (.slice Ao48 x183003_5.length co48)] 31 (0, 0))) ∧ Aside0 (Below w.heap.size w wc))
       case first =>
        have H := HC46.out
        clear HC46
        by_cases c50 : t202 = true
        · subst c50
          have H1 : (meta_words.j5 k5 (a0 != 5) x183000_5 x183001_5 x183002_5 x183003_5) = some (r1, r2, r3, r4, r5) := by rw [if_pos rfl] at H; exact H
          clear H
          have H := H1
          clear H1
          have H' := Aside0.mk H
          clear H
          go_wp2
          go_meet
          case rel => exact ⟨_, ((a0 != 5)), rsA, H', ⟨by have := HJ2.out; have := HJ6.out; have := HJ13.out; have := HJ16.out; have := HK5.out; first | omega | exact Nat.le_refl _⟩, ⟨rdA HO_183003.out⟩, ⟨rbA BK182.out⟩, ⟨hbA HB.out⟩⟩
        replace c50 := Bool.eq_false_iff.mpr c50
        subst c50
        have H1 : (meta_words.j5 k5 false x183000_5 x183001_5 x183002_5 x183003_5) = some (r1, r2, r3, r4, r5) := by rw [if_neg (show ¬ (false = true) by decide)] at H; exact H
        clear H
        have H := H1
        clear H1
        have H' := Aside0.mk H
        clear H
        go_wp2
        go_meet
        case rel => exact ⟨_, (false), rsA, H', ⟨by have := HJ2.out; have := HJ6.out; have := HJ13.out; have := HJ16.out; have := HK5.out; first | omega | exact Nat.le_refl _⟩, ⟨rdA HO_183003.out⟩, ⟨rbA BK182.out⟩, ⟨hbA HB.out⟩⟩
       clear HC46
       (try clear c1); (try clear p1); (try clear q1); (try clear hx1); (try clear qi1); (try clear c2); (try clear p2); (try clear q2); (try clear c3); (try clear p3); (try clear q3); (try clear hx3); (try clear qi3); (try clear c4); (try clear c5); (try clear c6); (try clear c6b0); (try clear c6b1); (try clear p6); (try clear c7); (try clear c8); (try clear c9); (try clear c9b0); (try clear c9b1); (try clear c10); (try clear c10b0); (try clear c10b1); (try clear c12); (try clear q12); (try clear c15); (try clear c15b0); (try clear c15b1); (try clear c18); (try clear p18); (try clear q18); (try clear hx18); (try clear qi18); (try clear c19); (try clear c19b0); (try clear c19b1); (try clear p19); (try clear q19); (try clear hx19); (try clear c21); (try clear c22); (try clear c22b0); (try clear c22b1); (try clear c27); (try clear q27); (try clear c32); (try clear c32b0); (try clear c33); (try clear c33b0); (try clear c34); (try clear c34b0); (try clear c35); (try clear c35b0); (try clear c35e0); (try clear c35b1); (try clear c37); (try clear c37b0); (try clear c37b1); (try clear p38); (try clear q38); (try clear hx38); (try clear qi38); (try clear c39); (try clear c39b0); (try clear c39b1); (try clear c40); (try clear c50); (try clear hcz25_0 hcz25_1 hcz25_2 hcz25_3); (try clear hcz30_0 hcz30_1 hcz30_2 hcz30_3); (try clear hcz36_0 hcz36_1 hcz36_2 hcz36_3); (try clear hcz47_0 hcz47_1 hcz47_2 hcz47_3); (try clear hcz5_0 hcz5_1 hcz5_2 hcz5_3); (try clear hfz25_0 hfz25_1 hfz25_2 hfz25_3); (try clear hfz30_0 hfz30_1 hfz30_2 hfz30_3); (try clear hfz36_0 hfz36_1 hfz36_2 hfz36_3); (try clear hfz47_0 hfz47_1 hfz47_2 hfz47_3); (try clear hfz5_0 hfz5_1 hfz5_2 hfz5_3); (try clear hx183_0); (try clear hx189_0); (try clear hx197_0); (try clear p1); (try clear p18); (try clear p183); (try clear p189); (try clear p197); (try clear p2); (try clear p38); (try clear q1); (try clear q12); (try clear q18); (try clear q183); (try clear q189); (try clear q197); (try clear q2); (try clear q27); (try clear q38)
       obtain ⟨kq, x76_45, rfl, HA, HJ45, HO_183003, BK182, HB⟩ := hcut
       cases kq with
       | zero => exact absurd HA.out (by simp [meta_words.j5])
       | succ kj45 =>
        have H := HA.out
        clear HA
        simp only [meta_words.j5] at H
        by_cases c51 : x76_45 = true
        · subst c51
          have H1 : ((meta_Decode.f x183001_5).bind fun bt203 => (if bt203.2 = 0 then (some (x183000_5, bt203.1, x183002_5, x183003_5, true)) else (some (0, (⟨#[]⟩ : ByteArray), 0, ([] : List (S61)), false)))) = some (r1, r2, r3, r4, r5) := by rw [if_pos rfl] at H; exact H
          clear H
          have H := H1
          clear H1
          replace H := Option.bind_eq_some_iff.mp H
          obtain ⟨⟨t203, t204⟩, A520, H⟩ := H
          replace H : (if t204 = 0 then (some (x183000_5, t203, x183002_5, x183003_5, true)) else (some (0, (⟨#[]⟩ : ByteArray), 0, ([] : List (S61)), false))) = some (r1, r2, r3, r4, r5) := H
          have A52 := Aside0.mk A520
          clear A520
          by_cases c53 : t204 = 0
          · rw [if_pos c53] at H
            have c53b0 : (t204 == 0) = true := beq_iff_eq.mpr c53
            have c53b1 : (t204 != 0) = false := bne_eq_false_iff_eq.mpr c53
            clear c53
            simp only [Option.some.injEq, Prod.mk.injEq] at H
            obtain ⟨rfl, rfl, rfl, rfl, rfl⟩ := H
            obtain ⟨hcz54_0, hcz54_1, hcz54_2, hcz54_3, hfz54_0, hfz54_1, hfz54_2, hfz54_3⟩ := blkA4 BK182.out
            go_wp2_with (first | ((with_reducible refine gate_callee (f := 27) rfl ?_); refine goesL_ (some 80) rfl rfl Tryz.func27 (by kernel_rfl) rfl #[.string x183001_5] rfl argA ?_; (with_reducible refine (meta_Decode.calls x183001_5 t203 t204 _ A52.out).mono ?_); rintro e w55 ⟨rfl, hb⟩; refine ⟨_, rfl, ?_⟩; replace HO_183003 := Aside0.mk (Kd.R_below (rdA HO_183003.out) hb); replace BK182 := Aside0.mk (blk_below (g := gb182) (o := .cells #[.int .i64 x183000_5, .string x183001_5, .int .i64 x183002_5, .slice Ao48 x183003_5.length co48] 31 (0, 0)) (rbA BK182.out) hb); replace HB := Aside0.mk (below_step (hbA HB.out) hb); (try clear hb); (try clear hb2); (try clear hk); (try clear hi); obtain ⟨hcz56_0, hcz56_1, hcz56_2, hcz56_3, hfz56_0, hfz56_1, hfz56_2, hfz56_3⟩ := blkA4 BK182.out))
            refine bodyPost_ret (results_ct rfl _ _ gb182 31 #[.int .i64 x183000_5, .string t203, .int .i64 x183002_5, .slice Ao48 x183003_5.length co48] (0, 0) _ rfl (by (with_reducible repeat (first | refine blk_drewN ?_ _ | refine blk_drew ?_ | refine blk_alloc ?_ _)); refine blk_put (cs := #[.int .i64 x183000_5, .string t203, .int .i64 x183002_5, .slice Ao48 x183003_5.length co48]) ?_ 3 _ rfl; (with_reducible repeat (first | refine blk_drewN ?_ _ | refine blk_drew ?_ | refine blk_alloc ?_ _)); refine blk_put (cs := #[.int .i64 x183000_5, .string t203, .int .i64 x183002_5, .slice Ao48 x183003_5.length co48]) ?_ 2 _ rfl; (with_reducible repeat (first | refine blk_drewN ?_ _ | refine blk_drew ?_ | refine blk_alloc ?_ _)); refine blk_put (cs := #[.int .i64 x183000_5, .string t203, .int .i64 x183002_5, .slice Ao48 x183003_5.length co48]) ?_ 1 _ rfl; (with_reducible repeat (first | refine blk_drewN ?_ _ | refine blk_drew ?_ | refine blk_alloc ?_ _)); refine blk_put (cs := #[.int .i64 x183000_5, .string t203, .int .i64 x183002_5, .slice Ao48 x183003_5.length co48]) ?_ 0 _ rfl; (with_reducible repeat (first | refine blk_drewN ?_ _ | refine blk_drew ?_ | refine blk_alloc ?_ _)); refine blk_put (cs := #[.int .i64 x183000_5, .string x183001_5, .int .i64 x183002_5, .slice Ao48 x183003_5.length co48]) ?_ 1 _ rfl; exact rbA BK182.out) Tryz.underlying31 rfl (by kernel_rfl)) rfl ?_
            exact ⟨_, reA, by (with_reducible repeat (first | apply Kd.R_alloc | apply Kd.R_drewN | apply Kd.R_drew)); exact Kd.R_mono (Kd.R_far (p := ⟨gb182, 3, none⟩) (Kd.R_far (p := ⟨gb182, 2, none⟩) (Kd.R_far (p := ⟨gb182, 1, none⟩) (Kd.R_far (p := ⟨gb182, 0, none⟩) (Kd.R_far (p := ⟨gb182, 1, none⟩) (Kd.R_types HO_183003.out BK182.out (by decide)) (fun _ hk => hk.2) (.string t203)) (fun _ hk => hk.2) (.int .i64 x183000_5)) (fun _ hk => hk.2) (.string t203)) (fun _ hk => hk.2) (.int .i64 x183002_5)) (fun _ hk => hk.2) (.slice Ao48 x183003_5.length co48)) (fun _ hk => hk.1), hbA HB.out⟩
          rw [if_neg c53] at H
          have c53b0 : (t204 == 0) = false := beq_eq_false_iff_ne.mpr c53
          have c53b1 : (t204 != 0) = true := bne_iff_ne.mpr c53
          simp only [Option.some.injEq, Prod.mk.injEq] at H
          obtain ⟨rfl, rfl, rfl, rfl, rfl⟩ := H
          obtain ⟨hcz57_0, hcz57_1, hcz57_2, hcz57_3, hfz57_0, hfz57_1, hfz57_2, hfz57_3⟩ := blkA4 BK182.out
          go_wp2_with (first | ((with_reducible refine gate_callee (f := 27) rfl ?_); refine goesL_ (some 80) rfl rfl Tryz.func27 (by kernel_rfl) rfl #[.string x183001_5] rfl argA ?_; (with_reducible refine (meta_Decode.calls x183001_5 t203 t204 _ A52.out).mono ?_); rintro e w58 ⟨rfl, hb⟩; refine ⟨_, rfl, ?_⟩; replace HO_183003 := Aside0.mk (Kd.R_below (rdA HO_183003.out) hb); replace BK182 := Aside0.mk (blk_below (g := gb182) (o := .cells #[.int .i64 x183000_5, .string x183001_5, .int .i64 x183002_5, .slice Ao48 x183003_5.length co48] 31 (0, 0)) (rbA BK182.out) hb); replace HB := Aside0.mk (below_step (hbA HB.out) hb); (try clear hb); (try clear hb2); (try clear hk); (try clear hi); obtain ⟨hcz59_0, hcz59_1, hcz59_2, hcz59_3, hfz59_0, hfz59_1, hfz59_2, hfz59_3⟩ := blkA4 BK182.out))
          refine bodyPost_ret (results_ct rfl _ _ gb182 31 #[.int .i64 0, .string (⟨#[]⟩ : ByteArray), .int .i64 0, .slice none 0 0] (0, 0) _ rfl (by (with_reducible repeat (first | refine blk_drewN ?_ _ | refine blk_drew ?_ | refine blk_alloc ?_ _)); refine blk_put (cs := #[.int .i64 0, .string (⟨#[]⟩ : ByteArray), .int .i64 0, .slice Ao48 x183003_5.length co48]) ?_ 3 _ rfl; (with_reducible repeat (first | refine blk_drewN ?_ _ | refine blk_drew ?_ | refine blk_alloc ?_ _)); refine blk_put (cs := #[.int .i64 0, .string (⟨#[]⟩ : ByteArray), .int .i64 x183002_5, .slice Ao48 x183003_5.length co48]) ?_ 2 _ rfl; (with_reducible repeat (first | refine blk_drewN ?_ _ | refine blk_drew ?_ | refine blk_alloc ?_ _)); refine blk_put (cs := #[.int .i64 0, .string x183001_5, .int .i64 x183002_5, .slice Ao48 x183003_5.length co48]) ?_ 1 _ rfl; (with_reducible repeat (first | refine blk_drewN ?_ _ | refine blk_drew ?_ | refine blk_alloc ?_ _)); refine blk_put (cs := #[.int .i64 x183000_5, .string x183001_5, .int .i64 x183002_5, .slice Ao48 x183003_5.length co48]) ?_ 0 _ rfl; exact rbA BK182.out) Tryz.underlying31 rfl (by kernel_rfl)) rfl ?_
          exact ⟨_, reA, knA, hbA HB.out⟩
        replace c51 := Bool.eq_false_iff.mpr c51
        subst c51
        have H1 : (some (x183000_5, x183001_5, x183002_5, x183003_5, true)) = some (r1, r2, r3, r4, r5) := by rw [if_neg (show ¬ (false = true) by decide)] at H; exact H
        clear H
        have H := H1
        clear H1
        simp only [Option.some.injEq, Prod.mk.injEq] at H
        obtain ⟨rfl, rfl, rfl, rfl, rfl⟩ := H
        obtain ⟨hcz60_0, hcz60_1, hcz60_2, hcz60_3, hfz60_0, hfz60_1, hfz60_2, hfz60_3⟩ := blkA4 BK182.out
        go_wp2
        refine bodyPost_ret (results_ct rfl _ _ gb182 31 #[.int .i64 x183000_5, .string x183001_5, .int .i64 x183002_5, .slice Ao48 x183003_5.length co48] (0, 0) _ rfl (by (with_reducible repeat (first | refine blk_drewN ?_ _ | refine blk_drew ?_ | refine blk_alloc ?_ _)); refine blk_put (cs := #[.int .i64 x183000_5, .string x183001_5, .int .i64 x183002_5, .slice Ao48 x183003_5.length co48]) ?_ 3 _ rfl; (with_reducible repeat (first | refine blk_drewN ?_ _ | refine blk_drew ?_ | refine blk_alloc ?_ _)); refine blk_put (cs := #[.int .i64 x183000_5, .string x183001_5, .int .i64 x183002_5, .slice Ao48 x183003_5.length co48]) ?_ 2 _ rfl; (with_reducible repeat (first | refine blk_drewN ?_ _ | refine blk_drew ?_ | refine blk_alloc ?_ _)); refine blk_put (cs := #[.int .i64 x183000_5, .string x183001_5, .int .i64 x183002_5, .slice Ao48 x183003_5.length co48]) ?_ 1 _ rfl; (with_reducible repeat (first | refine blk_drewN ?_ _ | refine blk_drew ?_ | refine blk_alloc ?_ _)); refine blk_put (cs := #[.int .i64 x183000_5, .string x183001_5, .int .i64 x183002_5, .slice Ao48 x183003_5.length co48]) ?_ 0 _ rfl; exact rbA BK182.out) Tryz.underlying31 rfl (by kernel_rfl)) rfl ?_
        exact ⟨_, reA, by (with_reducible repeat (first | apply Kd.R_alloc | apply Kd.R_drewN | apply Kd.R_drew)); exact Kd.R_mono (Kd.R_far (p := ⟨gb182, 3, none⟩) (Kd.R_far (p := ⟨gb182, 2, none⟩) (Kd.R_far (p := ⟨gb182, 1, none⟩) (Kd.R_far (p := ⟨gb182, 0, none⟩) (Kd.R_types HO_183003.out BK182.out (by decide)) (fun _ hk => hk.2) (.int .i64 x183000_5)) (fun _ hk => hk.2) (.string x183001_5)) (fun _ hk => hk.2) (.int .i64 x183002_5)) (fun _ hk => hk.2) (.slice Ao48 x183003_5.length co48)) (fun _ hk => hk.1), hbA HB.out⟩

end
end Go.Proofs.YtfboejlemnfndaaGreatDoor.XMr
end
section
namespace Go.Proofs.YtfboejlemnfndaaGreatDoor.XMr
open Go.RowKit Go.Proofs.YtfboejlemnfndaaGreatDoorW.PrintWords Go.Proofs.YtfboejlemnfndaaGreatDoorW.PrintLast Go.Proofs.YtfboejlemnfndaaGreatDoorW.PrintMore
attribute [local go_sem] extract_sub max2_int min2_int max_two min_two max_three min_three max_four min_four   -- for this text's walks alone
set_option linter.unusedVariables false
set_option linter.unusedSimpArgs false

noncomputable section
def meta_Parse.f (k : Nat) (a0 : ByteArray) : Option (Int × ByteArray × Int × List S61 × Int) :=
 if a0.size > 160 then some (0, ⟨#[]⟩, 0, [], 7) else (strings_Split.f a0 ⟨#[32]⟩).bind fun ws => match ws with
  | [] => none
  | w0 :: rest => (meta_named.f k w0).bind fun n => if n = 0 then some (0, ⟨#[]⟩, 0, [], 70) else (meta_words.f k n rest).bind fun m => if m.2.2.2.2 = true then (meta_Write.f k m.1 m.2.1 m.2.2.1 m.2.2.2.1).bind fun t => if t.2 = 0 ∧ t.1 = a0 then some (m.1, m.2.1, m.2.2.1, m.2.2.2.1, 0) else some (0, ⟨#[]⟩, 0, [], 6) else some (0, ⟨#[]⟩, 0, [], 6)
theorem meta_Parse.mono : ∀ a0 k, LeO (meta_Parse.f k a0) (meta_Parse.f (k + 1) a0) := by
 intro a0 k
 unfold meta_Parse.f
 refine LeO.ite (LeO.refl _) (LeO.bind (LeO.refl _) (fun ws => ?_))
 cases ws with
 | nil => exact LeO.none _
 | cons w0 rest => exact LeO.bind (meta_named.mono _ _) (fun n => LeO.ite (LeO.refl _) (LeO.bind (meta_words.mono _ _ _) (fun m => LeO.ite (LeO.bind (meta_Write.mono _ _ _ _ _) (fun t => LeO.refl _)) (LeO.refl _))))
def meta_Parse.z : Array Value := #[.int .i64 0, .string ⟨#[]⟩, .int .i64 0, .slice none 0 0]
theorem meta_Parse.zeros {W : World} {g : Nat} {t : TypeId} (h : W.heap[g]? = some (.cells meta_Parse.z t (0, 0))) :
 ((((W.setCell ⟨g, 0, none⟩ (.int .i64 0)).setCell ⟨g, 1, none⟩ (.string ⟨#[]⟩)).setCell ⟨g, 2, none⟩ (.int .i64 0)).setCell ⟨g, 3, none⟩ (.slice none 0 0)).heap[g]? = some (.cells meta_Parse.z t (0, 0)) :=
 blk_put (blk_put (blk_put (blk_put h 0 _ rfl) 1 _ rfl) 2 _ rfl) 3 _ rfl
theorem meta_Parse.zeros_below {B : Nat} {w W : World} (h : Below B w W) (g : Nat) (hg : B ≤ g) (u0 u1 u2 u3 : Value) : Below B w ((((W.setCell ⟨g, 0, none⟩ u0).setCell ⟨g, 1, none⟩ u1).setCell ⟨g, 2, none⟩ u2).setCell ⟨g, 3, none⟩ u3) :=
 (((h.setCell hg _).setCell hg _).setCell hg _).setCell hg _
theorem meta_Parse.ne_toList {a b : ByteArray} (h : a ≠ b) : (a.toList == b.toList) = false ∧ (a.toList != b.toList) = true ∧ a.toList ≠ b.toList := by
 have : a.toList ≠ b.toList := fun e => h (by
  rw [ByteArray.toList_eq, ByteArray.toList_eq] at e
  cases a; cases b
  exact congrArg ByteArray.mk (Array.toList_inj.1 e))
 exact ⟨beq_eq_false_iff_ne.2 this, bne_iff_ne.2 this, this⟩
set_option maxHeartbeats 8000000 in
set_option maxRecDepth 100000 in
theorem meta_Parse.calls (k : Nat) (a0 : ByteArray) (r1 : Int) (r2 : ByteArray) (r3 : Int) (r4 : List S61) (r5 : Int) (w : World) (hv : Vars w) (h : meta_Parse.f k a0 = some (r1, r2, r3, r4, r5)) :
 Calls Tryz.prog 23 #[.string a0] w fun e w' => ∃ v3_ : Value, e = .returned (.tuple #[.agg #[.int .i64 r1, .string r2, .int .i64 r3, v3_], .int .i64 r5]) ∧ Kd.R k61 61 w' w.heap.size (fun _ => True) v3_ r4 ∧ Below w.heap.size w w' := by
 have HV := Aside0.mk hv
 clear hv
 have hb0 : Below w.heap.size w (w.alloc (.cells meta_Parse.z 31)) := (Below.refl _ w).alloc (Nat.le_refl _) _
 have HB0 := Aside0.mk hb0
 clear hb0
 unfold meta_Parse.f at h
 by_cases c0 : a0.size > 160
 · have e := h
   rw [if_pos c0] at e
   simp only [Option.some.injEq, Prod.mk.injEq] at e
   obtain ⟨rfl, rfl, rfl, rfl, rfl⟩ := e
   have c0i : (160 : Int) < (a0.size : Int) := by omega
   clear h
   go_enter Tryz.func23, Tryz.ntmps23
   go_wp2
   exact bodyPost_ret (results_ct rfl _ _ w.heap.size 31 meta_Parse.z (0, 0) _ rfl (Go.heap_alloc_new w _) Tryz.underlying31 rfl (by kernel_rfl)) rfl ⟨_, rfl, Kd.R_nil _ _ _ _ _, HB0.out⟩
 have e := h
 rw [if_neg c0] at e
 have c0i : (a0.size : Int) ≤ 160 := by omega
 obtain ⟨ws, hws, e⟩ := Option.bind_eq_some_iff.1 e
 have HWS := Lib.hid hws
 cases ws with
 | nil => cases e
 | cons w0 rest =>
  obtain ⟨n, hn, e⟩ := Option.bind_eq_some_iff.1 e
  have HN := Lib.hid hn
  have HE := Lib.hid e
  clear h hws hn e
  go_enter Tryz.func23, Tryz.ntmps23
  go_wp2_with fail
  refine (strings_Split.calls a0 ⟨#[32]⟩ (w0 :: rest) _ (HV.out.below HB0.out) HWS.out).mono ?_
  rintro e w1 ⟨v0, rfl, hO, hb1⟩
  obtain ⟨A, c, rfl, hcl, hC⟩ := Kd.R_reads hO
  have hF := Kd.R_F hO
  obtain ⟨ad, cs, rfl, hcs, hK, hcell⟩ := Kd.C_get hC (⟨#[]⟩ : ByteArray) 0 (by omega) (by simp)
  have hK' : cs = [.string w0] := hK
  subst hK'
  have x0 : w1.cell? ad = some (.string w0) := by
   have := hcell 0 _ rfl
   rw [show ad.add ((0 : Int).toNat * Kd.string.sz + 0) = ad from by show ad.add 0 = ad; unfold Addr.add; rw [if_pos rfl]] at this
   exact this
  have hx1 : w1.heap[w.heap.size]? = some (.cells meta_Parse.z 31 (0, 0)) := (hb1.block w.heap.size (by simp)).trans (Go.heap_alloc_new w _)
  have hb01 : Below w.heap.size w w1 := HB0.out.trans (hb1.mono (by simp))
  have hs1 : w.heap.size < w1.heap.size := by have := hb1.size; simp at this; omega
  have HF := Aside0.mk hF
  have HX1 := Lib.hid hx1
  have HB1 := Aside0.mk hb01
  have HCL := Aside0.mk hcl
  clear hO hb1 hC hF hcell hK hcs hx1 hb01 hcl
  go_wp2_with fail
  refine (meta_named.calls k w0 n _ HN.out).mono ?_
  rintro e w2 ⟨rfl, hb2⟩
  have hx2 : w2.heap[w.heap.size]? = _ := (hb2.block _ hs1).trans HX1.out
  have hb02 := HB1.out.trans (hb2.mono HB1.out.size)
  have hF2 := Kd.F_below HF.out hb2
  have hs2 : w.heap.size < w2.heap.size := by have := hb2.size; omega
  have HX2 := Lib.hid hx2
  have HB2 := Aside0.mk hb02
  have HF2 := Aside0.mk hF2
  clear hx2 hb02 hF2 hb2 x0 HX1 HB1 HF hs1
  by_cases hn0 : n = 0
  · have e := HE.out
    rw [if_pos hn0] at e
    simp only [Option.some.injEq, Prod.mk.injEq] at e
    obtain ⟨rfl, rfl, rfl, rfl, rfl⟩ := e
    have c1 : (n == 0) = true := beq_iff_eq.2 hn0
    clear hn0
    have hcz0 : w2.cell? ⟨w.heap.size, 0, none⟩ = some (.int .i64 0) := (blk_cell HX2.out 0).trans rfl
    have hfz0 := blk_frozen HX2.out 0
    have hcz1 : w2.cell? ⟨w.heap.size, 1, none⟩ = some (.string ⟨#[]⟩) := (blk_cell HX2.out 1).trans rfl
    have hfz1 := blk_frozen HX2.out 1
    have hcz2 : w2.cell? ⟨w.heap.size, 2, none⟩ = some (.int .i64 0) := (blk_cell HX2.out 2).trans rfl
    have hfz2 := blk_frozen HX2.out 2
    have hcz3 : w2.cell? ⟨w.heap.size, 3, none⟩ = some (.slice none 0 0) := (blk_cell HX2.out 3).trans rfl
    have hfz3 := blk_frozen HX2.out 3
    go_wp2
    exact bodyPost_ret (results_ct rfl _ _ w.heap.size 31 meta_Parse.z (0, 0) _ rfl (meta_Parse.zeros HX2.out) Tryz.underlying31 rfl (by kernel_rfl)) rfl ⟨_, rfl, Kd.R_nil _ _ _ _ _, meta_Parse.zeros_below HB2.out _ (Nat.le_refl _) _ _ _ _⟩
  have e := HE.out
  rw [if_neg hn0] at e
  have c1 : (n == 0) = false := beq_eq_false_iff_ne.2 hn0
  clear hn0 HE
  obtain ⟨⟨m1, m2, m3, m4, m5⟩, hm, e⟩ := Option.bind_eq_some_iff.1 e
  have HM := Lib.hid hm
  have HE := Lib.hid e
  clear hm e
  obtain ⟨i0, hi0, _, hsz0, _⟩ := info_parts info9
  have hcut := cut_from (P := Tryz.prog) 66 9 .i64 Tryz.underlying66 hi0 1 hsz0 (some ad) (rest.length + 1) c 1 (by omega) (by omega)
  have hF1 := Kd.F_cut (m := 1) (c := c) HF2.out (by simp) HCL.out
  generalize hA1 : (if c = (1 : Int).toNat then (some ad) else (some ad).map (·.add ((1 : Int).toNat * 1))) = A1 at hcut
  have hF1' : Kd.F Kd.string w2 (fun _ => True) A1 rest.length rest := by rw [← hA1]; exact hF1
  rw [show rest.length + 1 - (1 : Int).toNat = rest.length from by simp] at hcut
  generalize hc1 : c - (1 : Int).toNat = c1 at hcut
  have hcl1 : rest.length ≤ c1 := by have := HCL.out; simp at this hc1; omega
  have HV1 := Aside0.mk (Kd.V_mk (e := 9) (base := w2.heap.size) hcl1 hF1')
  clear hA1 hc1 hF1 hF1' hi0 hsz0 hcl1 HF2
  go_wp2_with fail
  refine (meta_words.calls k n (fun _ => True) A1 c1 rest m1 m2 m3 m4 m5 _ HV1.out (HV.out.below HB2.out) HM.out).mono ?_
  rintro e w3 ⟨v3, rfl, hO3, hb3⟩
  have hx3 : w3.heap[w.heap.size]? = some (.cells meta_Parse.z 31 (0, 0)) := (hb3.block _ hs2).trans HX2.out
  have hb03 := HB2.out.trans (hb3.mono HB2.out.size)
  have hs3 : w.heap.size < w3.heap.size := by have := hb3.size; omega
  obtain ⟨A3, c3, rfl, hcl3, hC3⟩ := Kd.R_reads hO3
  obtain ⟨W3, hW3⟩ : ∃ W3, W3 = w3.alloc (.cells #[.int .i64 m1, .string m2, .int .i64 m3, .slice A3 m4.length c3] 31) := ⟨_, rfl⟩
  have hb33 : Below w3.heap.size w3 W3 := by rw [hW3]; exact (Below.refl _ w3).alloc (Nat.le_refl _) _
  have hx33 : W3.heap[w.heap.size]? = some (.cells meta_Parse.z 31 (0, 0)) := (hb33.block _ hs3).trans hx3
  have hy33 : W3.heap[w3.heap.size]? = some (.cells #[.int .i64 m1, .string m2, .int .i64 m3, .slice A3 m4.length c3] 31 (0, 0)) := by rw [hW3]; exact Go.heap_alloc_new w3 _
  have hs33 : w3.heap.size < W3.heap.size := by rw [hW3]; simp
  have hO33 := Kd.R_below hO3 hb33
  have hC33 := Kd.C_below hC3 hb33
  have HX33 := Lib.hid hx33
  have HX3 := Lib.hid hx3
  have hne : w.heap.size ≠ w3.heap.size := by omega
  have HY33 := Lib.hid hy33
  have HB33 := Aside0.mk (hb03.trans (hb33.mono hb03.size))
  have HO33 := Aside0.mk hO33
  have HC33 := Aside0.mk hC33
  have HCL3 := Aside0.mk hcl3
  have HB3 := Aside0.mk hb03
  clear hb3 hO3 hC3 hcl3 hx3 hb03 hb33 hx33 hy33 hO33 hC33 HX2
  subst hW3
  cases m5 with
  | false =>
   have e := HE.out
   simp only [Bool.false_eq_true, if_false, Option.some.injEq, Prod.mk.injEq] at e
   obtain ⟨rfl, rfl, rfl, rfl, rfl⟩ := e
   clear HE
   have hcz0 : w3.cell? ⟨w.heap.size, 0, none⟩ = some (.int .i64 0) := (blk_cell HX3.out 0).trans rfl
   have hfz0 := blk_frozen HX3.out 0
   have hcz1 : w3.cell? ⟨w.heap.size, 1, none⟩ = some (.string ⟨#[]⟩) := (blk_cell HX3.out 1).trans rfl
   have hfz1 := blk_frozen HX3.out 1
   have hcz2 : w3.cell? ⟨w.heap.size, 2, none⟩ = some (.int .i64 0) := (blk_cell HX3.out 2).trans rfl
   have hfz2 := blk_frozen HX3.out 2
   have hcz3 : w3.cell? ⟨w.heap.size, 3, none⟩ = some (.slice none 0 0) := (blk_cell HX3.out 3).trans rfl
   have hfz3 := blk_frozen HX3.out 3
   go_wp2
   exact bodyPost_ret (results_ct rfl _ _ w.heap.size 31 meta_Parse.z (0, 0) _ rfl (blk_alloc (meta_Parse.zeros HX3.out) _) Tryz.underlying31 rfl (by kernel_rfl)) rfl ⟨_, rfl, Kd.R_nil _ _ _ _ _, (meta_Parse.zeros_below HB3.out _ (Nat.le_refl _) _ _ _ _).alloc (by simp; omega) _⟩
  | true =>
   have e := HE.out
   simp only [if_true] at e
   obtain ⟨⟨t1, t2⟩, ht, e⟩ := Option.bind_eq_some_iff.1 e
   have HT := Lib.hid ht
   have HE2 := Lib.hid e
   clear ht e HE
   go_wp2_with fail
   refine (meta_Write.calls k m1 m2 m3 A3 c3 m4 t1 t2 _ HC33.out HCL3.out (HV.out.below HB33.out) HT.out).mono ?_
   rintro e w4 ⟨rfl, hb4⟩
   have hx4 : w4.heap[w.heap.size]? = some (.cells meta_Parse.z 31 (0, 0)) := (hb4.block _ (by simp; omega)).trans HX33.out
   have hy4 : w4.heap[w3.heap.size]? = some (.cells #[.int .i64 m1, .string m2, .int .i64 m3, .slice A3 m4.length c3] 31 (0, 0)) := (hb4.block _ (by simp)).trans HY33.out
   have hO4 := Kd.R_below HO33.out hb4
   have hb04 := HB33.out.trans (hb4.mono HB33.out.size)
   have HX4 := Lib.hid hx4
   have HY4 := Lib.hid hy4
   have HO4 := Aside0.mk hO4
   have HB4 := Aside0.mk hb04
   clear hx4 hy4 hO4 hb04 hb4 HX33 HY33 HO33 HC33 HB33
   have hcz0 : w4.cell? ⟨w.heap.size, 0, none⟩ = some (.int .i64 0) := (blk_cell HX4.out 0).trans rfl
   have hfz0 := blk_frozen HX4.out 0
   have hcz1 : w4.cell? ⟨w.heap.size, 1, none⟩ = some (.string ⟨#[]⟩) := (blk_cell HX4.out 1).trans rfl
   have hfz1 := blk_frozen HX4.out 1
   have hcz2 : w4.cell? ⟨w.heap.size, 2, none⟩ = some (.int .i64 0) := (blk_cell HX4.out 2).trans rfl
   have hfz2 := blk_frozen HX4.out 2
   have hcz3 : w4.cell? ⟨w.heap.size, 3, none⟩ = some (.slice none 0 0) := (blk_cell HX4.out 3).trans rfl
   have hfz3 := blk_frozen HX4.out 3
   have hcm0 : w4.cell? ⟨w3.heap.size, 0, none⟩ = some (.int .i64 m1) := (blk_cell HY4.out 0).trans rfl
   have hfm0 := blk_frozen HY4.out 0
   have hcm1 : w4.cell? ⟨w3.heap.size, 1, none⟩ = some (.string m2) := (blk_cell HY4.out 1).trans rfl
   have hfm1 := blk_frozen HY4.out 1
   have hcm2 : w4.cell? ⟨w3.heap.size, 2, none⟩ = some (.int .i64 m3) := (blk_cell HY4.out 2).trans rfl
   have hfm2 := blk_frozen HY4.out 2
   have hcm3 : w4.cell? ⟨w3.heap.size, 3, none⟩ = some (.slice A3 m4.length c3) := (blk_cell HY4.out 3).trans rfl
   have hfm3 := blk_frozen HY4.out 3
   by_cases he : t2 = 0 ∧ t1 = a0
   · obtain ⟨rfl, rfl⟩ := he
     have e := HE2.out
     simp only [and_self, if_true, Option.some.injEq, Prod.mk.injEq] at e
     obtain ⟨rfl, rfl, rfl, rfl, rfl⟩ := e
     clear HE2
     go_wp2
     refine bodyPost_ret (results_ct rfl _ _ w.heap.size 31 #[.int .i64 m1, .string m2, .int .i64 m3, .slice A3 m4.length c3] (0, 0) _ rfl (blk_put (blk_put (blk_put (blk_put HX4.out 0 _ rfl) 1 _ rfl) 2 _ rfl) 3 _ rfl) Tryz.underlying31 rfl (by kernel_rfl)) rfl ⟨_, rfl, ?_, meta_Parse.zeros_below HB4.out _ (Nat.le_refl _) _ _ _ _⟩
     have hf : ∀ i : Nat, ∀ k_, w2.heap.size ≤ k_ → k_ ≠ (⟨w.heap.size, i, none⟩ : Addr).block := fun i k_ hk => by show k_ ≠ w.heap.size; omega
     exact Kd.R_lower (Kd.R_mono (Kd.R_far (Kd.R_far (Kd.R_far (Kd.R_far HO4.out (hf 0) _) (hf 1) _) (hf 2) _) (hf 3) _) (fun _ _ => trivial)) (by omega)
   have e := HE2.out
   simp only [if_neg he, Option.some.injEq, Prod.mk.injEq] at e
   obtain ⟨rfl, rfl, rfl, rfl, rfl⟩ := e
   clear HE2
   by_cases h2 : t2 = 0
   · have h1 : t1 ≠ a0 := fun q => he ⟨h2, q⟩
     obtain ⟨n1, n2, n3⟩ := meta_Parse.ne_toList h1
     have N3 := Aside0.mk n3
     have b1 : (t2 != 0) = false := bne_eq_false_iff_eq.2 h2
     have b2 : (t2 == 0) = true := beq_iff_eq.2 h2
     clear h1 h2 he n3
     go_wp2
     exact bodyPost_ret (results_ct rfl _ _ w.heap.size 31 meta_Parse.z (0, 0) _ rfl (meta_Parse.zeros HX4.out) Tryz.underlying31 rfl (by kernel_rfl)) rfl ⟨_, rfl, Kd.R_nil _ _ _ _ _, meta_Parse.zeros_below HB4.out _ (Nat.le_refl _) _ _ _ _⟩
   have b1 : (t2 != 0) = true := bne_iff_ne.2 h2
   have b2 : (t2 == 0) = false := beq_eq_false_iff_ne.2 h2
   clear h2 he
   go_wp2
   exact bodyPost_ret (results_ct rfl _ _ w.heap.size 31 meta_Parse.z (0, 0) _ rfl (meta_Parse.zeros HX4.out) Tryz.underlying31 rfl (by kernel_rfl)) rfl ⟨_, rfl, Kd.R_nil _ _ _ _ _, meta_Parse.zeros_below HB4.out _ (Nat.le_refl _) _ _ _ _⟩

end
end Go.Proofs.YtfboejlemnfndaaGreatDoor.XMr
end
section
namespace Go.Proofs.YtfboejlemnfndaaGreatDoor.XMr
open Go.RowKit Go.Proofs.YtfboejlemnfndaaGreatDoorW.PrintWords Go.Proofs.YtfboejlemnfndaaGreatDoorW.PrintLast Go.Proofs.YtfboejlemnfndaaGreatDoorW.PrintMore
attribute [local go_sem] extract_sub max2_int min2_int max_two min_two max_three min_three max_four min_four   -- for this text's walks alone
set_option linter.unusedVariables false
set_option linter.unusedSimpArgs false

noncomputable section
def tallboyref27_Find.l0 : Nat → Int → Int → Int → ByteArray → Int → List (S59) → Option (ByteArray × Bool)
 | 0, _, _, _, _, _, _ => none
 | k + 1, x1, x6, x206000, x206001, x206002, x206003 => if x6 < (x206003.length : Int) then (if 0 ≤ x6 then (if ((rd_T59 x206003 x6).f0) = x1 then (some ((rd_T59 x206003 x6).f1, true)) else (tallboyref27_Find.l0 k x1 (wrap64 (x6 + 1)) x206000 x206001 x206002 x206003)) else (none)) else (some ((⟨#[]⟩ : ByteArray), false))
def tallboyref27_Find.f (k : Nat) (a0_0 : Int) (a0_1 : ByteArray) (a0_2 : Int) (l0_3 : List (S59)) (a1 : Int) : Option (ByteArray × Bool) := tallboyref27_Find.l0 k a1 0 a0_0 a0_1 a0_2 l0_3
theorem tallboyref27_Find.mono_l : ∀ k, (∀ y0 y1 y2 y3 y4 y5, LeO (tallboyref27_Find.l0 k y0 y1 y2 y3 y4 y5) (tallboyref27_Find.l0 (k + 1) y0 y1 y2 y3 y4 y5))
 | 0 => fun _ _ _ _ _ _ r h => by simp [tallboyref27_Find.l0] at h
 | k + 1 => by
  have ih0 := tallboyref27_Find.mono_l k
  · intro y0 y1 y2 y3 y4 y5
    unfold tallboyref27_Find.l0
    repeat' first
    | (with_reducible exact ih0 _ _ _ _ _ _)
    | (with_reducible exact LeO.refl _)
    | (with_reducible exact LeO.none _)
    | (with_reducible refine LeO.ite ?_ ?_)
    | (with_reducible refine LeO.bind ?_ (fun _ => ?_))
    | exact ih0 _ _ _ _ _ _
    | exact LeO.none _
    | refine LeO.ite ?_ ?_
    | refine LeO.bind ?_ (fun _ => ?_)
theorem tallboyref27_Find.mono : ∀ a0 a1 a2 a3 a4 k, LeO (tallboyref27_Find.f k a0 a1 a2 a3 a4) (tallboyref27_Find.f (k + 1) a0 a1 a2 a3 a4) := by
 intro a0 a1 a2 a3 a4 k
 have ih0 := tallboyref27_Find.mono_l k
 unfold tallboyref27_Find.f
 repeat' first
  | (with_reducible exact ih0 _ _ _ _ _ _)
  | (with_reducible exact LeO.refl _)
  | (with_reducible exact LeO.none _)
  | (with_reducible refine LeO.ite ?_ ?_)
  | (with_reducible refine LeO.bind ?_ (fun _ => ?_))
  | exact ih0 _ _ _ _ _ _
  | exact LeO.none _
  | refine LeO.ite ?_ ?_
  | refine LeO.bind ?_ (fun _ => ?_)
set_option maxHeartbeats 8000000 in
set_option maxRecDepth 100000 in
theorem tallboyref27_Find.calls (k : Nat) (a0_0 : Int) (a0_1 : ByteArray) (a0_2 : Int) (A0_3 : Option Addr) (c0_3 : Nat) (l0_3 : List (S59)) (a1 : Int) (r1 : ByteArray) (r2 : Bool) (w : World) (hr0_3 : Kd.C k59 w A0_3 l0_3.length l0_3) (hc0_3 : l0_3.length ≤ c0_3) (h : tallboyref27_Find.f k a0_0 a0_1 a0_2 l0_3 a1 = some (r1, r2)) :
 Calls Tryz.prog 16 #[.agg #[.int .i64 a0_0, .string a0_1, .int .i64 a0_2, .slice A0_3 l0_3.length c0_3], .int .u8 a1] w fun e w' => e = .returned (.tuple #[.string r1, .bool r2]) ∧ Below w.heap.size w w' := by
 have hu24 := Tryz.underlying24
 have HR0_3 := Aside0.mk hr0_3
 have HC0_3 := Aside0.mk hc0_3
 clear hr0_3 hc0_3
 have HB := Aside0.mk (Below.refl w.heap.size w)
 have H : (tallboyref27_Find.l0 k a1 0 a0_0 a0_1 a0_2 l0_3) = some (r1, r2) := h
 clear h
 have H' := Aside0.mk H
 clear H
 go_enter Tryz.func16, Tryz.ntmps16
 go_wp2_with (first | ((with_reducible refine gate_dst (N := 2) rfl ?_); refine box_event ?hg (N := 2) ?hd (cs := #[.int .i64 a0_0, .string a0_1, .int .i64 a0_2, .slice A0_3 l0_3.length c0_3]) (t := 24) ?hr ?_; (case hd => rfl); (case hg => rfl); (case hr => first | (go_simp; done) | (go_simp; rfl)); intro gb205 hg w3 hbox hb; have n0_ := Aside0.mk (below_step (hbA HB.out) hb); have n1_ := Aside0.mk (hbox); have n2_ := Aside0.mk ((by rw [hg]; exact (below_size (hbA HB.out)) : w.heap.size ≤ gb205)); have n3_ := Aside0.mk ((by rw [hg]; exact (below_size (hbA HB.out)) : w.heap.size ≤ gb205)); clear HB; have HB := n0_; have BK205 := n1_; have GW205 := n2_; have GE205 := n3_; clear n0_ n1_ n2_ n3_; clear hb hbox hg))
 go_loopg [6] k (fun kq v6 w' => ∃ (x6_1 : Int), v6 = .int .i64 x6_1 ∧ Aside0 (tallboyref27_Find.l0 kq a1 x6_1 a0_0 a0_1 a0_2 l0_3 = some (r1, r2)) ∧ Aside0 (kq ≤ k) ∧ Aside0 (w'.heap[gb205]? = some (.cells #[.int .i64 a0_0, .string a0_1, .int .i64 a0_2, (.slice A0_3 l0_3.length c0_3)] 24 (0, 0))) ∧ Aside0 (Below w.heap.size w w'))
 case atStart => exact ⟨(0), rsA, H', ⟨Nat.le_refl _⟩, ⟨rbA BK205.out⟩, ⟨hbA HB.out⟩⟩
 case round =>
  clear H'
  (try clear c1); (try clear p2)
  obtain ⟨x6_1, rfl, HA, HK1, BK205, HB⟩ := hrel
  cases gk with
  | zero => exact absurd HA.out (by simp [tallboyref27_Find.l0])
  | succ k1 =>
   have H := HA.out
   clear HA
   simp only [tallboyref27_Find.l0] at H
   by_cases c4 : x6_1 < (l0_3.length : Int)
   · rw [if_pos c4] at H
     have c4b0 : decide (x6_1 < (l0_3.length : Int)) = true := decide_eq_true c4
     clear c4
     by_cases c5 : 0 ≤ x6_1
     · rw [if_pos c5] at H
       have c5b0 : decide (0 ≤ x6_1) = true := decide_eq_true c5
       clear c5
       by_cases c6 : ((rd_T59 l0_3 x6_1).f0) = a1
       · rw [if_pos c6] at H
         have c6b0 : (((rd_T59 l0_3 x6_1).f0) == a1) = true := beq_iff_eq.mpr c6
         have c6b1 : (((rd_T59 l0_3 x6_1).f0) != a1) = false := bne_eq_false_iff_eq.mpr c6
         clear c6
         simp only [Option.some.injEq, Prod.mk.injEq] at H
         obtain ⟨rfl, rfl⟩ := H
         obtain ⟨hcz7_0, hcz7_1, hcz7_2, hcz7_3, hfz7_0, hfz7_1, hfz7_2, hfz7_3⟩ := blkA4 BK205.out
         have p206 : 0 ≤ (x6_1 : Int) := of_decide_eq_true asA
         have q206 : x6_1 < (l0_3.length : Int) := of_decide_eq_true asA
         obtain ⟨ad206, e206, hx206_0, hx206_1⟩ := at_T59 HR0_3.out x6_1 p206 q206
         cases e206
         replace hx206_0 := (HB.out.cell (World.block_lt_of_cell? w _ hx206_0)).trans hx206_0
         replace hx206_1 := (HB.out.cell (World.block_lt_of_cell? w _ hx206_1)).trans hx206_1
         replace p206 := eq_true p206
         replace q206 := eq_true q206
         have p207 : 0 ≤ (x6_1 : Int) := of_decide_eq_true asA
         have q207 : x6_1 < (l0_3.length : Int) := of_decide_eq_true asA
         obtain ⟨ad207, e207, hx207_0, hx207_1⟩ := at_T59 HR0_3.out x6_1 p207 q207
         obtain rfl : ad206 = ad207 := (by injection e207)
         replace hx207_0 := (HB.out.cell (World.block_lt_of_cell? w _ hx207_0)).trans hx207_0
         replace hx207_1 := (HB.out.cell (World.block_lt_of_cell? w _ hx207_1)).trans hx207_1
         replace p207 := eq_true p207
         replace q207 := eq_true q207
         go_wp2
         go_ret2
         exact ⟨reA, hbA HB.out⟩
       rw [if_neg c6] at H
       have c6b0 : (((rd_T59 l0_3 x6_1).f0) == a1) = false := beq_eq_false_iff_ne.mpr c6
       have c6b1 : (((rd_T59 l0_3 x6_1).f0) != a1) = true := bne_iff_ne.mpr c6
       have H' := Aside0.mk H
       clear H
       obtain ⟨hcz8_0, hcz8_1, hcz8_2, hcz8_3, hfz8_0, hfz8_1, hfz8_2, hfz8_3⟩ := blkA4 BK205.out
       have p206 : 0 ≤ (x6_1 : Int) := of_decide_eq_true asA
       have q206 : x6_1 < (l0_3.length : Int) := of_decide_eq_true asA
       obtain ⟨ad206, e206, hx206_0, hx206_1⟩ := at_T59 HR0_3.out x6_1 p206 q206
       cases e206
       replace hx206_0 := (HB.out.cell (World.block_lt_of_cell? w _ hx206_0)).trans hx206_0
       replace hx206_1 := (HB.out.cell (World.block_lt_of_cell? w _ hx206_1)).trans hx206_1
       replace p206 := eq_true p206
       replace q206 := eq_true q206
       go_wp2
       go_roundg k1
       case measure => have := HK1.out; omega
       case rel => exact ⟨(wrap64 (x6_1 + 1)), rsA, H', ⟨by have := HK1.out; omega⟩, ⟨rbA BK205.out⟩, ⟨hbA HB.out⟩⟩
     rw [if_neg c5] at H
     exact absurd H (by simp)
   rw [if_neg c4] at H
   have c4b0 : decide (x6_1 < (l0_3.length : Int)) = false := decide_eq_false c4
   clear c4
   simp only [Option.some.injEq, Prod.mk.injEq] at H
   obtain ⟨rfl, rfl⟩ := H
   obtain ⟨hcz9_0, hcz9_1, hcz9_2, hcz9_3, hfz9_0, hfz9_1, hfz9_2, hfz9_3⟩ := blkA4 BK205.out
   go_wp2
   go_ret2
   exact ⟨reA, hbA HB.out⟩

def tallboyref27_has.l0 : Nat → ByteArray → Int → Int → Option (Bool)
 | 0, _, _, _ => none
 | k + 1, x0, x1, x5 => if x5 < (x0.size : Int) then (if 0 ≤ x5 then (if (bt x0 x5) = x1 then (some true) else (tallboyref27_has.l0 k x0 x1 (wrap64 (x5 + 1)))) else (none)) else (some false)
def tallboyref27_has.f (k : Nat) (a0 : ByteArray) (a1 : Int) : Option (Bool) := tallboyref27_has.l0 k a0 a1 0
theorem tallboyref27_has.mono_l : ∀ k, (∀ y0 y1 y2, LeO (tallboyref27_has.l0 k y0 y1 y2) (tallboyref27_has.l0 (k + 1) y0 y1 y2))
 | 0 => fun _ _ _ r h => by simp [tallboyref27_has.l0] at h
 | k + 1 => by
  have ih0 := tallboyref27_has.mono_l k
  · intro y0 y1 y2
    unfold tallboyref27_has.l0
    repeat' first
    | (with_reducible exact ih0 _ _ _)
    | (with_reducible exact LeO.refl _)
    | (with_reducible exact LeO.none _)
    | (with_reducible refine LeO.ite ?_ ?_)
    | (with_reducible refine LeO.bind ?_ (fun _ => ?_))
    | exact ih0 _ _ _
    | exact LeO.none _
    | refine LeO.ite ?_ ?_
    | refine LeO.bind ?_ (fun _ => ?_)
theorem tallboyref27_has.mono : ∀ a0 a1 k, LeO (tallboyref27_has.f k a0 a1) (tallboyref27_has.f (k + 1) a0 a1) := by
 intro a0 a1 k
 have ih0 := tallboyref27_has.mono_l k
 unfold tallboyref27_has.f
 repeat' first
  | (with_reducible exact ih0 _ _ _)
  | (with_reducible exact LeO.refl _)
  | (with_reducible exact LeO.none _)
  | (with_reducible refine LeO.ite ?_ ?_)
  | (with_reducible refine LeO.bind ?_ (fun _ => ?_))
  | exact ih0 _ _ _
  | exact LeO.none _
  | refine LeO.ite ?_ ?_
  | refine LeO.bind ?_ (fun _ => ?_)
set_option maxHeartbeats 8000000 in
set_option maxRecDepth 100000 in
theorem tallboyref27_has.calls (k : Nat) (a0 : ByteArray) (a1 : Int) (r : Bool) (w : World) (h : tallboyref27_has.f k a0 a1 = some r) :
 Calls Tryz.prog 39 #[.string a0, .int .u8 a1] w fun e w' => e = .returned (.bool r) ∧ Drawn0 w w' := by
 have H : (tallboyref27_has.l0 k a0 a1 0) = some r := h
 clear h
 have H' := Aside0.mk H
 clear H
 go_enter Tryz.func39, Tryz.ntmps39
 go_wp2
 go_loopg [5] k (fun kq v5 w' => ∃ (x5_1 : Int), v5 = .int .i64 x5_1 ∧ Aside0 (tallboyref27_has.l0 kq a0 a1 x5_1 = some r) ∧ Aside0 (kq ≤ k) ∧ Drawn0 w w')
 case atStart => exact ⟨(0), rsA, H', ⟨Nat.le_refl _⟩, drA⟩
 case round =>
  clear H'
  try clear p2
  obtain ⟨x5_1, rfl, HA, HK1, ⟨m1, rfl⟩⟩ := hrel
  cases gk with
  | zero => exact absurd HA.out (by simp [tallboyref27_has.l0])
  | succ k1 =>
   have H := HA.out
   clear HA
   simp only [tallboyref27_has.l0] at H
   by_cases c3 : x5_1 < (a0.size : Int)
   · rw [if_pos c3] at H
     have c3b0 : decide (x5_1 < (a0.size : Int)) = true := decide_eq_true c3
     clear c3
     by_cases c4 : 0 ≤ x5_1
     · rw [if_pos c4] at H
       have c4b0 : decide (0 ≤ x5_1) = true := decide_eq_true c4
       clear c4
       by_cases c6 : (bt a0 x5_1) = a1
       · rw [if_pos c6] at H
         have c6b0 : ((bt a0 x5_1) == a1) = true := beq_iff_eq.mpr c6
         have c6b1 : ((bt a0 x5_1) != a1) = false := bne_eq_false_iff_eq.mpr c6
         clear c6
         obtain rfl := Option.some.inj H
         have p5 : 0 ≤ (x5_1 : Int) := of_decide_eq_true asA
         have q5 : x5_1 < (a0.size : Int) := of_decide_eq_true asA
         have hx5 := bt_at a0 x5_1
         replace p5 := eq_true p5
         replace q5 := eq_true q5
         go_wp2
         go_ret
         exact ⟨rsA, drA⟩
       rw [if_neg c6] at H
       have c6b0 : ((bt a0 x5_1) == a1) = false := beq_eq_false_iff_ne.mpr c6
       have c6b1 : ((bt a0 x5_1) != a1) = true := bne_iff_ne.mpr c6
       have H' := Aside0.mk H
       clear H
       have p5 : 0 ≤ (x5_1 : Int) := of_decide_eq_true asA
       have q5 : x5_1 < (a0.size : Int) := of_decide_eq_true asA
       have hx5 := bt_at a0 x5_1
       replace p5 := eq_true p5
       replace q5 := eq_true q5
       go_wp2
       go_roundg k1
       case measure => have := HK1.out; omega
       case rel => exact ⟨(wrap64 (x5_1 + 1)), rsA, H', ⟨by have := HK1.out; omega⟩, drA⟩
     rw [if_neg c4] at H
     exact absurd H (by simp)
   rw [if_neg c3] at H
   have c3b0 : decide (x5_1 < (a0.size : Int)) = false := decide_eq_false c3
   clear c3
   obtain rfl := Option.some.inj H
   go_wp2
   go_ret
   exact ⟨rsA, drA⟩

mutual
def tallboyref04_Key.j0 : Nat → ByteArray → Bool → Option (Bool)
 | 0, _, _ => none
 | k + 1, x0, x3 => tallboyref04_Key.l0 k x0 x3 0
def tallboyref04_Key.l0 : Nat → ByteArray → Bool → Int → Option (Bool)
 | 0, _, _, _ => none
 | k + 1, x0, x3, x4 => if x4 < (x0.size : Int) then (if x3 = true then (if 0 ≤ x4 then (if (bt x0 x4) ≥ 33 then (tallboyref04_Key.l0 k x0 (decide ((bt x0 x4) ≤ 126)) (wrap64 (x4 + 1))) else (tallboyref04_Key.l0 k x0 false (wrap64 (x4 + 1)))) else (none)) else (some x3)) else (some x3)
end
def tallboyref04_Key.f (k : Nat) (a0 : ByteArray) : Option (Bool) := if (a0.size : Int) ≥ 1 then (tallboyref04_Key.j0 k a0 (decide ((a0.size : Int) ≤ 32))) else (tallboyref04_Key.j0 k a0 false)
theorem tallboyref04_Key.mono_l : ∀ k, (∀ y0 y1, LeO (tallboyref04_Key.j0 k y0 y1) (tallboyref04_Key.j0 (k + 1) y0 y1)) ∧ (∀ y0 y1 y2, LeO (tallboyref04_Key.l0 k y0 y1 y2) (tallboyref04_Key.l0 (k + 1) y0 y1 y2))
 | 0 => ⟨fun _ _ r h => by simp [tallboyref04_Key.j0] at h, fun _ _ _ r h => by simp [tallboyref04_Key.l0] at h⟩
 | k + 1 => by
  obtain ⟨ih0, ih1⟩ := tallboyref04_Key.mono_l k
  refine ⟨?_, ?_⟩
  all_goals
   intros
   first | unfold tallboyref04_Key.j0 | unfold tallboyref04_Key.l0
   repeat' first
   | (with_reducible exact ih0 _ _)
   | (with_reducible exact ih1 _ _ _)
   | (with_reducible exact LeO.refl _)
   | (with_reducible exact LeO.none _)
   | (with_reducible refine LeO.ite ?_ ?_)
   | (with_reducible refine LeO.bind ?_ (fun _ => ?_))
   | exact ih0 _ _
   | exact ih1 _ _ _
   | exact LeO.none _
   | refine LeO.ite ?_ ?_
   | refine LeO.bind ?_ (fun _ => ?_)
theorem tallboyref04_Key.mono : ∀ a0 k, LeO (tallboyref04_Key.f k a0) (tallboyref04_Key.f (k + 1) a0) := by
 intro a0 k
 obtain ⟨ih0, ih1⟩ := tallboyref04_Key.mono_l k
 unfold tallboyref04_Key.f
 repeat' first
  | (with_reducible exact ih0 _ _)
  | (with_reducible exact ih1 _ _ _)
  | (with_reducible exact LeO.refl _)
  | (with_reducible exact LeO.none _)
  | (with_reducible refine LeO.ite ?_ ?_)
  | (with_reducible refine LeO.bind ?_ (fun _ => ?_))
  | exact ih0 _ _
  | exact ih1 _ _ _
  | exact LeO.none _
  | refine LeO.ite ?_ ?_
  | refine LeO.bind ?_ (fun _ => ?_)
set_option maxHeartbeats 8000000 in
set_option maxRecDepth 100000 in
theorem tallboyref04_Key.calls (k : Nat) (a0 : ByteArray) (r : Bool) (w : World) (h : tallboyref04_Key.f k a0 = some r) :
 Calls Tryz.prog 82 #[.string a0] w fun e w' => e = .returned (.bool r) ∧ Drawn0 w w' := by
 have H : (if (a0.size : Int) ≥ 1 then (tallboyref04_Key.j0 k a0 (decide ((a0.size : Int) ≤ 32))) else (tallboyref04_Key.j0 k a0 false)) = some r := h
 clear h
 have HC2 := Aside0.mk H
 clear H
 go_enter Tryz.func82, Tryz.ntmps82
 go_upto_region 1 with (fail)
 go_cut [3] (fun v3 wc => ∃ (kq : Nat) (x3_1 : Bool), v3 = .bool x3_1 ∧ Aside0 (tallboyref04_Key.j0 kq a0 x3_1 = some r) ∧ Aside0 (kq ≤ k) ∧ Drawn0 w wc)
 case first =>
  have H := HC2.out
  clear HC2
  by_cases c3 : (a0.size : Int) ≥ 1
  · rw [if_pos c3] at H
    have c3b0 : decide (1 ≤ (a0.size : Int)) = true := decide_eq_true c3
    have c3b1 : decide (1 ≤ a0.size) = true := decide_eq_true (by omega)
    clear c3
    (first | rw [c3b0] | (simp only [i64_w, i32_w]; rw [c3b0]) | skip)
    have H' := Aside0.mk H
    clear H
    go_wp2
    go_meet
    case rel => exact ⟨_, (decide ((a0.size : Int) ≤ 32)), rsA, H', ⟨by first | omega | exact Nat.le_refl _⟩, drA⟩
  rw [if_neg c3] at H
  have c3b0 : decide (1 ≤ (a0.size : Int)) = false := decide_eq_false c3
  have c3b1 : decide (1 ≤ a0.size) = false := decide_eq_false (by omega)
  clear c3
  (first | rw [c3b0] | (simp only [i64_w, i32_w]; rw [c3b0]) | skip)
  have H' := Aside0.mk H
  clear H
  go_wp2
  go_meet
  case rel => exact ⟨_, (false), rsA, H', ⟨by first | omega | exact Nat.le_refl _⟩, drA⟩
 clear HC2
 (try clear p2); (try clear c3); (try clear c3b0); (try clear c3b1)
 obtain ⟨kq, x3_1, rfl, HA, HJ1, ⟨mc1, rfl⟩⟩ := hcut
 cases kq with
 | zero => exact absurd HA.out (by simp [tallboyref04_Key.j0])
 | succ kj1 =>
  have H := HA.out
  clear HA
  simp only [tallboyref04_Key.j0] at H
  have H' := Aside0.mk H
  clear H
  go_wp2
  go_loopg [3, 4] kj1 (fun kq v3 v4 w' => ∃ (x3_2 : Bool) (x4_2 : Int), v3 = .bool x3_2 ∧ v4 = .int .i64 x4_2 ∧ Aside0 (tallboyref04_Key.l0 kq a0 x3_2 x4_2 = some r) ∧ Aside0 (kq ≤ kj1) ∧ Drawn0 w w')
  case atStart => exact ⟨(x3_1), (0), rsA, rsA, H', ⟨Nat.le_refl _⟩, drA⟩
  case round =>
   clear H'
   (try clear c1); (try clear p2); (try clear c3); (try clear c3b0); (try clear c3b1); (try clear p2)
   obtain ⟨x3_2, x4_2, rfl, rfl, HA, HK2, ⟨m2, rfl⟩⟩ := hrel
   cases gk with
   | zero => exact absurd HA.out (by simp [tallboyref04_Key.l0])
   | succ k2 =>
    have H := HA.out
    clear HA
    simp only [tallboyref04_Key.l0] at H
    by_cases c4 : x4_2 < (a0.size : Int)
    · rw [if_pos c4] at H
      have c4b0 : decide (x4_2 < (a0.size : Int)) = true := decide_eq_true c4
      clear c4
      by_cases c5 : x3_2 = true
      · subst c5
        have H1 : (if 0 ≤ x4_2 then (if (bt a0 x4_2) ≥ 33 then (tallboyref04_Key.l0 k2 a0 (decide ((bt a0 x4_2) ≤ 126)) (wrap64 (x4_2 + 1))) else (tallboyref04_Key.l0 k2 a0 false (wrap64 (x4_2 + 1)))) else (none)) = some r := by rw [if_pos rfl] at H; exact H
        clear H
        have H := H1
        clear H1
        by_cases c6 : 0 ≤ x4_2
        · rw [if_pos c6] at H
          have c6b0 : decide (0 ≤ x4_2) = true := decide_eq_true c6
          clear c6
          by_cases c8 : (bt a0 x4_2) ≥ 33
          · rw [if_pos c8] at H
            have c8b0 : decide (33 ≤ (bt a0 x4_2)) = true := decide_eq_true c8
            clear c8
            have H' := Aside0.mk H
            clear H
            have p7 : 0 ≤ (x4_2 : Int) := of_decide_eq_true asA
            have q7 : x4_2 < (a0.size : Int) := of_decide_eq_true asA
            have hx7 := bt_at a0 x4_2
            replace p7 := eq_true p7
            replace q7 := eq_true q7
            have p9 : 0 ≤ (x4_2 : Int) := of_decide_eq_true asA
            have q9 : x4_2 < (a0.size : Int) := of_decide_eq_true asA
            have hx9 := bt_at a0 x4_2
            replace p9 := eq_true p9
            replace q9 := eq_true q9
            go_wp2
            go_roundg k2
            case measure => have := HJ1.out; have := HK2.out; omega
            case rel => exact ⟨(decide ((bt a0 x4_2) ≤ 126)), (wrap64 (x4_2 + 1)), rsA, rsA, H', ⟨by have := HJ1.out; have := HK2.out; omega⟩, drA⟩
          rw [if_neg c8] at H
          have c8b0 : decide (33 ≤ (bt a0 x4_2)) = false := decide_eq_false c8
          clear c8
          have H' := Aside0.mk H
          clear H
          have p7 : 0 ≤ (x4_2 : Int) := of_decide_eq_true asA
          have q7 : x4_2 < (a0.size : Int) := of_decide_eq_true asA
          have hx7 := bt_at a0 x4_2
          replace p7 := eq_true p7
          replace q7 := eq_true q7
          go_wp2
          go_roundg k2
          case measure => have := HJ1.out; have := HK2.out; omega
          case rel => exact ⟨(false), (wrap64 (x4_2 + 1)), rsA, rsA, H', ⟨by have := HJ1.out; have := HK2.out; omega⟩, drA⟩
        rw [if_neg c6] at H
        exact absurd H (by simp)
      replace c5 := Bool.eq_false_iff.mpr c5
      subst c5
      have H1 : (some false) = some r := by rw [if_neg (show ¬ (false = true) by decide)] at H; exact H
      clear H
      have H := H1
      clear H1
      obtain rfl := Option.some.inj H
      go_wp2
      go_ret
      exact ⟨rsA, drA⟩
    rw [if_neg c4] at H
    have c4b0 : decide (x4_2 < (a0.size : Int)) = false := decide_eq_false c4
    clear c4
    obtain rfl := Option.some.inj H
    go_wp2
    go_ret
    exact ⟨rsA, drA⟩

def tallboyref27_key.f (k : Nat) (a0_0 : Int) (a0_1 : ByteArray) (a0_2 : Int) (l0_3 : List (S59)) : Option (Bool) := (tallboyref27_Find.f k a0_0 a0_1 a0_2 l0_3 98).bind fun bt209 => (if a0_0 = 5 then (some (a0_1.toList == ([] : List UInt8))) else (if bt209.2 = true then (if (a0_1.size : Int) ≥ 1 then (some (decide ((a0_1.size : Int) ≤ 32))) else (some false)) else ((tallboyref04_Key.f k a0_1).bind fun t211 => (some t211))))
theorem tallboyref27_key.mono : ∀ a0 a1 a2 a3 k, LeO (tallboyref27_key.f k a0 a1 a2 a3) (tallboyref27_key.f (k + 1) a0 a1 a2 a3) := by
 intro a0 a1 a2 a3 k
 unfold tallboyref27_key.f
 repeat' first
  | (with_reducible exact tallboyref04_Key.mono _ _)
  | (with_reducible exact tallboyref27_Find.mono _ _ _ _ _ _)
  | (with_reducible exact LeO.refl _)
  | (with_reducible exact LeO.none _)
  | (with_reducible refine LeO.ite ?_ ?_)
  | (with_reducible refine LeO.bind ?_ (fun _ => ?_))
  | exact tallboyref04_Key.mono _ _
  | exact tallboyref27_Find.mono _ _ _ _ _ _
  | exact LeO.none _
  | refine LeO.ite ?_ ?_
  | refine LeO.bind ?_ (fun _ => ?_)
set_option maxHeartbeats 8000000 in
set_option maxRecDepth 100000 in
theorem tallboyref27_key.calls (k : Nat) (a0_0 : Int) (a0_1 : ByteArray) (a0_2 : Int) (A0_3 : Option Addr) (c0_3 : Nat) (l0_3 : List (S59)) (r : Bool) (w : World) (hr0_3 : Kd.C k59 w A0_3 l0_3.length l0_3) (hc0_3 : l0_3.length ≤ c0_3) (h : tallboyref27_key.f k a0_0 a0_1 a0_2 l0_3 = some r) :
 Calls Tryz.prog 64 #[.agg #[.int .i64 a0_0, .string a0_1, .int .i64 a0_2, .slice A0_3 l0_3.length c0_3]] w fun e w' => e = .returned (.bool r) ∧ Below w.heap.size w w' := by
 have hu24 := Tryz.underlying24
 have HR0_3 := Aside0.mk hr0_3
 have HC0_3 := Aside0.mk hc0_3
 clear hr0_3 hc0_3
 have HB := Aside0.mk (Below.refl w.heap.size w)
 have H : ((tallboyref27_Find.f k a0_0 a0_1 a0_2 l0_3 98).bind fun bt209 => (if a0_0 = 5 then (some (a0_1.toList == ([] : List UInt8))) else (if bt209.2 = true then (if (a0_1.size : Int) ≥ 1 then (some (decide ((a0_1.size : Int) ≤ 32))) else (some false)) else ((tallboyref04_Key.f k a0_1).bind fun t211 => (some t211))))) = some r := h
 clear h
 replace H := Option.bind_eq_some_iff.mp H
 obtain ⟨⟨t209, t210⟩, A20, H⟩ := H
 replace H : (if a0_0 = 5 then (some (a0_1.toList == ([] : List UInt8))) else (if t210 = true then (if (a0_1.size : Int) ≥ 1 then (some (decide ((a0_1.size : Int) ≤ 32))) else (some false)) else ((tallboyref04_Key.f k a0_1).bind fun t211 => (some t211)))) = some r := H
 have A2 := Aside0.mk A20
 clear A20
 by_cases c3 : a0_0 = 5
 · rw [if_pos c3] at H
   have c3b0 : (a0_0 == 5) = true := beq_iff_eq.mpr c3
   have c3b1 : (a0_0 != 5) = false := bne_eq_false_iff_eq.mpr c3
   clear c3
   obtain rfl := Option.some.inj H
   go_enter Tryz.func64, Tryz.ntmps64
   go_wp2_with (first | ((with_reducible refine gate_dst (N := 1) rfl ?_); (try (refine gate_guard (by rfl) ?_; dsimp only)); refine box_event ?hg (N := 1) ?hd (cs := #[.int .i64 a0_0, .string a0_1, .int .i64 a0_2, .slice A0_3 l0_3.length c0_3]) (t := 24) ?hr ?_; (case hd => rfl); (case hg => rfl); (case hr => first | (go_simp; done) | (go_simp; rfl)); intro gb208 hg w4 hbox hb; have n0_ := Aside0.mk (below_step (hbA HB.out) hb); have n1_ := Aside0.mk (hbox); have n2_ := Aside0.mk ((by rw [hg]; exact (below_size (hbA HB.out)) : w.heap.size ≤ gb208)); have n3_ := Aside0.mk ((by rw [hg]; exact (below_size (hbA HB.out)) : w.heap.size ≤ gb208)); clear HB; have HB := n0_; have BK208 := n1_; have GW208 := n2_; have GE208 := n3_; clear n0_ n1_ n2_ n3_; clear hb hbox hg; obtain ⟨hcz5_0, hcz5_1, hcz5_2, hcz5_3, hfz5_0, hfz5_1, hfz5_2, hfz5_3⟩ := blkA4 BK208.out) | ((with_reducible refine gate_callee (f := 16) rfl ?_); refine goesL_ (some 7) rfl rfl Tryz.func16 (by kernel_rfl) rfl #[.agg #[.int .i64 a0_0, .string a0_1, .int .i64 a0_2, .slice A0_3 l0_3.length c0_3], .int .u8 98] rfl argA ?_; (with_reducible refine (tallboyref27_Find.calls k a0_0 a0_1 a0_2 _ _ l0_3 98 t209 t210 _ ?side1 ?side2 A2.out).mono ?_); (case side1 => repeat (first | exact (Kd.C_below HR0_3.out HB.out) | (with_reducible refine Kd.C_alloc ?_ _) | (with_reducible refine Kd.C_drewN ?_ _) | (with_reducible refine Kd.C_drew ?_))); (case side2 => exact HC0_3.out); rintro e w6 ⟨rfl, hb⟩; refine ⟨_, rfl, ?_⟩; replace BK208 := Aside0.mk (blk_below (g := gb208) (o := .cells #[.int .i64 a0_0, .string a0_1, .int .i64 a0_2, .slice A0_3 l0_3.length c0_3] 24 (0, 0)) (rbA BK208.out) hb); replace HB := Aside0.mk (below_step (hbA HB.out) hb); (try clear hb); (try clear hb2); (try clear hk); (try clear hi); obtain ⟨hcz7_0, hcz7_1, hcz7_2, hcz7_3, hfz7_0, hfz7_1, hfz7_2, hfz7_3⟩ := blkA4 BK208.out))
   go_ret
   exact ⟨reA, hbA HB.out⟩
 rw [if_neg c3] at H
 have c3b0 : (a0_0 == 5) = false := beq_eq_false_iff_ne.mpr c3
 have c3b1 : (a0_0 != 5) = true := bne_iff_ne.mpr c3
 by_cases c8 : t210 = true
 · subst c8
   have H1 : (if (a0_1.size : Int) ≥ 1 then (some (decide ((a0_1.size : Int) ≤ 32))) else (some false)) = some r := by rw [if_pos rfl] at H; exact H
   clear H
   have H := H1
   clear H1
   by_cases c9 : (a0_1.size : Int) ≥ 1
   · rw [if_pos c9] at H
     have c9b0 : decide (1 ≤ (a0_1.size : Int)) = true := decide_eq_true c9
     have c9b1 : decide (1 ≤ a0_1.size) = true := decide_eq_true (by omega)
     clear c9
     obtain rfl := Option.some.inj H
     go_enter Tryz.func64, Tryz.ntmps64
     go_wp2_with (first | ((with_reducible refine gate_dst (N := 1) rfl ?_); (try (refine gate_guard (by rfl) ?_; dsimp only)); refine box_event ?hg (N := 1) ?hd (cs := #[.int .i64 a0_0, .string a0_1, .int .i64 a0_2, .slice A0_3 l0_3.length c0_3]) (t := 24) ?hr ?_; (case hd => rfl); (case hg => rfl); (case hr => first | (go_simp; done) | (go_simp; rfl)); intro gb208 hg w10 hbox hb; have n0_ := Aside0.mk (below_step (hbA HB.out) hb); have n1_ := Aside0.mk (hbox); have n2_ := Aside0.mk ((by rw [hg]; exact (below_size (hbA HB.out)) : w.heap.size ≤ gb208)); have n3_ := Aside0.mk ((by rw [hg]; exact (below_size (hbA HB.out)) : w.heap.size ≤ gb208)); clear HB; have HB := n0_; have BK208 := n1_; have GW208 := n2_; have GE208 := n3_; clear n0_ n1_ n2_ n3_; clear hb hbox hg; obtain ⟨hcz11_0, hcz11_1, hcz11_2, hcz11_3, hfz11_0, hfz11_1, hfz11_2, hfz11_3⟩ := blkA4 BK208.out) | ((with_reducible refine gate_callee (f := 16) rfl ?_); refine goesL_ (some 7) rfl rfl Tryz.func16 (by kernel_rfl) rfl #[.agg #[.int .i64 a0_0, .string a0_1, .int .i64 a0_2, .slice A0_3 l0_3.length c0_3], .int .u8 98] rfl argA ?_; (with_reducible refine (tallboyref27_Find.calls k a0_0 a0_1 a0_2 _ _ l0_3 98 t209 true _ ?side1 ?side2 A2.out).mono ?_); (case side1 => repeat (first | exact (Kd.C_below HR0_3.out HB.out) | (with_reducible refine Kd.C_alloc ?_ _) | (with_reducible refine Kd.C_drewN ?_ _) | (with_reducible refine Kd.C_drew ?_))); (case side2 => exact HC0_3.out); rintro e w12 ⟨rfl, hb⟩; refine ⟨_, rfl, ?_⟩; replace BK208 := Aside0.mk (blk_below (g := gb208) (o := .cells #[.int .i64 a0_0, .string a0_1, .int .i64 a0_2, .slice A0_3 l0_3.length c0_3] 24 (0, 0)) (rbA BK208.out) hb); replace HB := Aside0.mk (below_step (hbA HB.out) hb); (try clear hb); (try clear hb2); (try clear hk); (try clear hi); obtain ⟨hcz13_0, hcz13_1, hcz13_2, hcz13_3, hfz13_0, hfz13_1, hfz13_2, hfz13_3⟩ := blkA4 BK208.out))
     go_ret
     exact ⟨reA, hbA HB.out⟩
   rw [if_neg c9] at H
   have c9b0 : decide (1 ≤ (a0_1.size : Int)) = false := decide_eq_false c9
   have c9b1 : decide (1 ≤ a0_1.size) = false := decide_eq_false (by omega)
   clear c9
   obtain rfl := Option.some.inj H
   go_enter Tryz.func64, Tryz.ntmps64
   go_wp2_with (first | ((with_reducible refine gate_dst (N := 1) rfl ?_); (try (refine gate_guard (by rfl) ?_; dsimp only)); refine box_event ?hg (N := 1) ?hd (cs := #[.int .i64 a0_0, .string a0_1, .int .i64 a0_2, .slice A0_3 l0_3.length c0_3]) (t := 24) ?hr ?_; (case hd => rfl); (case hg => rfl); (case hr => first | (go_simp; done) | (go_simp; rfl)); intro gb208 hg w14 hbox hb; have n0_ := Aside0.mk (below_step (hbA HB.out) hb); have n1_ := Aside0.mk (hbox); have n2_ := Aside0.mk ((by rw [hg]; exact (below_size (hbA HB.out)) : w.heap.size ≤ gb208)); have n3_ := Aside0.mk ((by rw [hg]; exact (below_size (hbA HB.out)) : w.heap.size ≤ gb208)); clear HB; have HB := n0_; have BK208 := n1_; have GW208 := n2_; have GE208 := n3_; clear n0_ n1_ n2_ n3_; clear hb hbox hg; obtain ⟨hcz15_0, hcz15_1, hcz15_2, hcz15_3, hfz15_0, hfz15_1, hfz15_2, hfz15_3⟩ := blkA4 BK208.out) | ((with_reducible refine gate_callee (f := 16) rfl ?_); refine goesL_ (some 7) rfl rfl Tryz.func16 (by kernel_rfl) rfl #[.agg #[.int .i64 a0_0, .string a0_1, .int .i64 a0_2, .slice A0_3 l0_3.length c0_3], .int .u8 98] rfl argA ?_; (with_reducible refine (tallboyref27_Find.calls k a0_0 a0_1 a0_2 _ _ l0_3 98 t209 true _ ?side1 ?side2 A2.out).mono ?_); (case side1 => repeat (first | exact (Kd.C_below HR0_3.out HB.out) | (with_reducible refine Kd.C_alloc ?_ _) | (with_reducible refine Kd.C_drewN ?_ _) | (with_reducible refine Kd.C_drew ?_))); (case side2 => exact HC0_3.out); rintro e w16 ⟨rfl, hb⟩; refine ⟨_, rfl, ?_⟩; replace BK208 := Aside0.mk (blk_below (g := gb208) (o := .cells #[.int .i64 a0_0, .string a0_1, .int .i64 a0_2, .slice A0_3 l0_3.length c0_3] 24 (0, 0)) (rbA BK208.out) hb); replace HB := Aside0.mk (below_step (hbA HB.out) hb); (try clear hb); (try clear hb2); (try clear hk); (try clear hi); obtain ⟨hcz17_0, hcz17_1, hcz17_2, hcz17_3, hfz17_0, hfz17_1, hfz17_2, hfz17_3⟩ := blkA4 BK208.out))
   go_ret
   exact ⟨reA, hbA HB.out⟩
 replace c8 := Bool.eq_false_iff.mpr c8
 subst c8
 have H1 : ((tallboyref04_Key.f k a0_1).bind fun t211 => (some t211)) = some r := by rw [if_neg (show ¬ (false = true) by decide)] at H; exact H
 clear H
 have H := H1
 clear H1
 replace H := Option.bind_eq_some_iff.mp H
 obtain ⟨t211, A180, H⟩ := H
 replace H : (some t211) = some r := H
 have A18 := Aside0.mk A180
 clear A180
 obtain rfl := Option.some.inj H
 go_enter Tryz.func64, Tryz.ntmps64
 go_wp2_with (first | ((with_reducible refine gate_dst (N := 1) rfl ?_); (try (refine gate_guard (by rfl) ?_; dsimp only)); refine box_event ?hg (N := 1) ?hd (cs := #[.int .i64 a0_0, .string a0_1, .int .i64 a0_2, .slice A0_3 l0_3.length c0_3]) (t := 24) ?hr ?_; (case hd => rfl); (case hg => rfl); (case hr => first | (go_simp; done) | (go_simp; rfl)); intro gb208 hg w19 hbox hb; have n0_ := Aside0.mk (below_step (hbA HB.out) hb); have n1_ := Aside0.mk (hbox); have n2_ := Aside0.mk ((by rw [hg]; exact (below_size (hbA HB.out)) : w.heap.size ≤ gb208)); have n3_ := Aside0.mk ((by rw [hg]; exact (below_size (hbA HB.out)) : w.heap.size ≤ gb208)); clear HB; have HB := n0_; have BK208 := n1_; have GW208 := n2_; have GE208 := n3_; clear n0_ n1_ n2_ n3_; clear hb hbox hg; obtain ⟨hcz20_0, hcz20_1, hcz20_2, hcz20_3, hfz20_0, hfz20_1, hfz20_2, hfz20_3⟩ := blkA4 BK208.out) | ((with_reducible refine gate_callee (f := 16) rfl ?_); refine goesL_ (some 7) rfl rfl Tryz.func16 (by kernel_rfl) rfl #[.agg #[.int .i64 a0_0, .string a0_1, .int .i64 a0_2, .slice A0_3 l0_3.length c0_3], .int .u8 98] rfl argA ?_; (with_reducible refine (tallboyref27_Find.calls k a0_0 a0_1 a0_2 _ _ l0_3 98 t209 false _ ?side1 ?side2 A2.out).mono ?_); (case side1 => repeat (first | exact (Kd.C_below HR0_3.out HB.out) | (with_reducible refine Kd.C_alloc ?_ _) | (with_reducible refine Kd.C_drewN ?_ _) | (with_reducible refine Kd.C_drew ?_))); (case side2 => exact HC0_3.out); rintro e w21 ⟨rfl, hb⟩; refine ⟨_, rfl, ?_⟩; replace BK208 := Aside0.mk (blk_below (g := gb208) (o := .cells #[.int .i64 a0_0, .string a0_1, .int .i64 a0_2, .slice A0_3 l0_3.length c0_3] 24 (0, 0)) (rbA BK208.out) hb); replace HB := Aside0.mk (below_step (hbA HB.out) hb); (try clear hb); (try clear hb2); (try clear hk); (try clear hi); obtain ⟨hcz22_0, hcz22_1, hcz22_2, hcz22_3, hfz22_0, hfz22_1, hfz22_2, hfz22_3⟩ := blkA4 BK208.out) | ((with_reducible refine gate_callee (f := 82) rfl ?_); refine goesL_ (some 31) rfl rfl Tryz.func82 (by kernel_rfl) rfl #[.string a0_1] rfl argA ?_; (with_reducible refine (tallboyref04_Key.calls k a0_1 t211 _ A18.out).mono ?_); rintro e w' ⟨rfl, ⟨nd, rfl⟩⟩; refine ⟨_, rfl, ?_⟩))
 go_ret
 exact ⟨reA, hbA HB.out⟩

def tallboyref27_may.f (a0 : Int) : Option (ByteArray) := if a0 = 1 then (some (⟨#[98, 99, 102, 104, 107, 108, 113, 115, 116, 118, 69, 78, 79, 82, 84]⟩ : ByteArray)) else (if a0 = 2 then (some (⟨#[98, 99, 107, 113, 67, 69, 70, 73, 77, 79, 84]⟩ : ByteArray)) else (if a0 = 3 then (some (⟨#[98, 107, 113, 120, 67, 69, 73, 79, 84]⟩ : ByteArray)) else (if a0 = 4 then (some (⟨#[98, 99, 107, 113, 116, 118, 67, 68, 69, 74, 77, 78, 79, 84]⟩ : ByteArray)) else (if a0 = 6 then (some (⟨#[98]⟩ : ByteArray)) else (some (⟨#[]⟩ : ByteArray))))))
set_option maxHeartbeats 8000000 in
set_option maxRecDepth 100000 in
theorem tallboyref27_may.calls (a0 : Int) (r : ByteArray) (w : World) (h : tallboyref27_may.f a0 = some r) :
 Calls Tryz.prog 65 #[.int .i64 a0] w fun e w' => e = .returned (.string r) ∧ Drawn0 w w' := by
 have H : (if a0 = 1 then (some (⟨#[98, 99, 102, 104, 107, 108, 113, 115, 116, 118, 69, 78, 79, 82, 84]⟩ : ByteArray)) else (if a0 = 2 then (some (⟨#[98, 99, 107, 113, 67, 69, 70, 73, 77, 79, 84]⟩ : ByteArray)) else (if a0 = 3 then (some (⟨#[98, 107, 113, 120, 67, 69, 73, 79, 84]⟩ : ByteArray)) else (if a0 = 4 then (some (⟨#[98, 99, 107, 113, 116, 118, 67, 68, 69, 74, 77, 78, 79, 84]⟩ : ByteArray)) else (if a0 = 6 then (some (⟨#[98]⟩ : ByteArray)) else (some (⟨#[]⟩ : ByteArray))))))) = some r := h
 clear h
 by_cases c2 : a0 = 1
 · rw [if_pos c2] at H
   have c2b0 : (a0 == 1) = true := beq_iff_eq.mpr c2
   have c2b1 : (a0 != 1) = false := bne_eq_false_iff_eq.mpr c2
   clear c2
   obtain rfl := Option.some.inj H
   go_enter Tryz.func65, Tryz.ntmps65
   go_wp2
   go_ret
   exact ⟨rsA, drA⟩
 rw [if_neg c2] at H
 have c2b0 : (a0 == 1) = false := beq_eq_false_iff_ne.mpr c2
 have c2b1 : (a0 != 1) = true := bne_iff_ne.mpr c2
 by_cases c3 : a0 = 2
 · rw [if_pos c3] at H
   have c3b0 : (a0 == 2) = true := beq_iff_eq.mpr c3
   have c3b1 : (a0 != 2) = false := bne_eq_false_iff_eq.mpr c3
   clear c3
   obtain rfl := Option.some.inj H
   go_enter Tryz.func65, Tryz.ntmps65
   go_wp2
   go_ret
   exact ⟨rsA, drA⟩
 rw [if_neg c3] at H
 have c3b0 : (a0 == 2) = false := beq_eq_false_iff_ne.mpr c3
 have c3b1 : (a0 != 2) = true := bne_iff_ne.mpr c3
 by_cases c4 : a0 = 3
 · rw [if_pos c4] at H
   have c4b0 : (a0 == 3) = true := beq_iff_eq.mpr c4
   have c4b1 : (a0 != 3) = false := bne_eq_false_iff_eq.mpr c4
   clear c4
   obtain rfl := Option.some.inj H
   go_enter Tryz.func65, Tryz.ntmps65
   go_wp2
   go_ret
   exact ⟨rsA, drA⟩
 rw [if_neg c4] at H
 have c4b0 : (a0 == 3) = false := beq_eq_false_iff_ne.mpr c4
 have c4b1 : (a0 != 3) = true := bne_iff_ne.mpr c4
 by_cases c5 : a0 = 4
 · rw [if_pos c5] at H
   have c5b0 : (a0 == 4) = true := beq_iff_eq.mpr c5
   have c5b1 : (a0 != 4) = false := bne_eq_false_iff_eq.mpr c5
   clear c5
   obtain rfl := Option.some.inj H
   go_enter Tryz.func65, Tryz.ntmps65
   go_wp2
   go_ret
   exact ⟨rsA, drA⟩
 rw [if_neg c5] at H
 have c5b0 : (a0 == 4) = false := beq_eq_false_iff_ne.mpr c5
 have c5b1 : (a0 != 4) = true := bne_iff_ne.mpr c5
 by_cases c6 : a0 = 6
 · rw [if_pos c6] at H
   have c6b0 : (a0 == 6) = true := beq_iff_eq.mpr c6
   have c6b1 : (a0 != 6) = false := bne_eq_false_iff_eq.mpr c6
   clear c6
   obtain rfl := Option.some.inj H
   go_enter Tryz.func65, Tryz.ntmps65
   go_wp2
   go_ret
   exact ⟨rsA, drA⟩
 rw [if_neg c6] at H
 have c6b0 : (a0 == 6) = false := beq_eq_false_iff_ne.mpr c6
 have c6b1 : (a0 != 6) = true := bne_iff_ne.mpr c6
 obtain rfl := Option.some.inj H
 go_enter Tryz.func65, Tryz.ntmps65
 go_wp2
 go_ret
 exact ⟨rsA, drA⟩

end
end Go.Proofs.YtfboejlemnfndaaGreatDoor.XMr
end
section
namespace Go.Proofs.YtfboejlemnfndaaGreatDoor.XMr
open Go.RowKit Go.Proofs.YtfboejlemnfndaaGreatDoorW.PrintWords Go.Proofs.YtfboejlemnfndaaGreatDoorW.PrintLast Go.Proofs.YtfboejlemnfndaaGreatDoorW.PrintMore
attribute [local go_sem] extract_sub max2_int min2_int max_two min_two max_three min_three max_four min_four   -- for this text's walks alone
set_option linter.unusedVariables false
set_option linter.unusedSimpArgs false

noncomputable section
mutual
def tallboyref02_Parse.j1 : Nat → ByteArray → Bool → Option (Int × Int)
 | 0, _, _ => none
 | k + 1, x0, x4 => if x4 = true then (if (x0.size : Int) > 20 then (some (0, 7)) else (tallboyref02_Parse.l1 k x0 0 0)) else (some (0, 6))
def tallboyref02_Parse.l1 : Nat → ByteArray → Int → Int → Option (Int × Int)
 | 0, _, _, _ => none
 | k + 1, x0, x6, x7 => if x7 < (x0.size : Int) then (if 0 ≤ x7 then (if x6 > ((18446744073709551615 - (((bt x0 x7) - 48) % 256)) / 10) then (some (0, 1)) else (tallboyref02_Parse.l1 k x0 (IntKind.u64.wrap ((IntKind.u64.wrap (10 * x6)) + (((bt x0 x7) - 48) % 256))) (wrap64 (x7 + 1)))) else (none)) else (some (x6, 0))
def tallboyref02_Parse.l0 : Nat → ByteArray → Bool → Int → Option (Int × Int)
 | 0, _, _, _ => none
 | k + 1, x0, x4, x5 => if x5 < (x0.size : Int) then (if x4 = true then (if 0 ≤ x5 then (if (bt x0 x5) ≥ 48 then (tallboyref02_Parse.l0 k x0 (decide ((bt x0 x5) ≤ 57)) (wrap64 (x5 + 1))) else (tallboyref02_Parse.l0 k x0 false (wrap64 (x5 + 1)))) else (none)) else (tallboyref02_Parse.j1 k x0 x4)) else (tallboyref02_Parse.j1 k x0 x4)
end
def tallboyref02_Parse.f (k : Nat) (a0 : ByteArray) : Option (Int × Int) := tallboyref02_Parse.l0 k a0 (decide ((a0.size : Int) > 0)) 0
theorem tallboyref02_Parse.mono_l : ∀ k, (∀ y0 y1, LeO (tallboyref02_Parse.j1 k y0 y1) (tallboyref02_Parse.j1 (k + 1) y0 y1)) ∧ (∀ y0 y1 y2, LeO (tallboyref02_Parse.l1 k y0 y1 y2) (tallboyref02_Parse.l1 (k + 1) y0 y1 y2)) ∧ (∀ y0 y1 y2, LeO (tallboyref02_Parse.l0 k y0 y1 y2) (tallboyref02_Parse.l0 (k + 1) y0 y1 y2))
 | 0 => ⟨fun _ _ r h => by simp [tallboyref02_Parse.j1] at h, fun _ _ _ r h => by simp [tallboyref02_Parse.l1] at h, fun _ _ _ r h => by simp [tallboyref02_Parse.l0] at h⟩
 | k + 1 => by
  obtain ⟨ih0, ih1, ih2⟩ := tallboyref02_Parse.mono_l k
  refine ⟨?_, ?_, ?_⟩
  all_goals
   intros
   first | unfold tallboyref02_Parse.j1 | unfold tallboyref02_Parse.l1 | unfold tallboyref02_Parse.l0
   repeat' first
   | (with_reducible exact ih0 _ _)
   | (with_reducible exact ih1 _ _ _)
   | (with_reducible exact ih2 _ _ _)
   | (with_reducible exact LeO.refl _)
   | (with_reducible exact LeO.none _)
   | (with_reducible refine LeO.ite ?_ ?_)
   | (with_reducible refine LeO.bind ?_ (fun _ => ?_))
   | exact ih0 _ _
   | exact ih1 _ _ _
   | exact ih2 _ _ _
   | exact LeO.none _
   | refine LeO.ite ?_ ?_
   | refine LeO.bind ?_ (fun _ => ?_)
theorem tallboyref02_Parse.mono : ∀ a0 k, LeO (tallboyref02_Parse.f k a0) (tallboyref02_Parse.f (k + 1) a0) := by
 intro a0 k
 obtain ⟨ih0, ih1, ih2⟩ := tallboyref02_Parse.mono_l k
 unfold tallboyref02_Parse.f
 repeat' first
  | (with_reducible exact ih0 _ _)
  | (with_reducible exact ih1 _ _ _)
  | (with_reducible exact ih2 _ _ _)
  | (with_reducible exact LeO.refl _)
  | (with_reducible exact LeO.none _)
  | (with_reducible refine LeO.ite ?_ ?_)
  | (with_reducible refine LeO.bind ?_ (fun _ => ?_))
  | exact ih0 _ _
  | exact ih1 _ _ _
  | exact ih2 _ _ _
  | exact LeO.none _
  | refine LeO.ite ?_ ?_
  | refine LeO.bind ?_ (fun _ => ?_)
set_option maxHeartbeats 8000000 in
set_option maxRecDepth 100000 in
theorem tallboyref02_Parse.calls (k : Nat) (a0 : ByteArray) (r1 : Int) (r2 : Int) (w : World) (h : tallboyref02_Parse.f k a0 = some (r1, r2)) :
 Calls Tryz.prog 41 #[.string a0] w fun e w' => e = .returned (.tuple #[.int .u64 r1, .int .i64 r2]) ∧ Drawn0 w w' := by
 have H : (tallboyref02_Parse.l0 k a0 (decide ((a0.size : Int) > 0)) 0) = some (r1, r2) := h
 clear h
 have HC2 := Aside0.mk H
 clear H
 go_enter Tryz.func41, Tryz.ntmps41
 go_upto_block 0 with (fail)
 go_cut [4] (fun v4 wc => ∃ (kq : Nat) (x4_1 : Bool), v4 = .bool x4_1 ∧ Aside0 (tallboyref02_Parse.j1 kq a0 x4_1 = some (r1, r2)) ∧ Aside0 (kq ≤ k) ∧ Drawn0 w wc)
 case first =>
  have H := HC2.out
  clear HC2
  have H' := Aside0.mk H
  clear H
  go_wp2
  go_loopg [4, 5] k (fun kq v4 v5 w' => ∃ (x4_1 : Bool) (x5_1 : Int), v4 = .bool x4_1 ∧ v5 = .int .i64 x5_1 ∧ Aside0 (tallboyref02_Parse.l0 kq a0 x4_1 x5_1 = some (r1, r2)) ∧ Aside0 (kq ≤ k) ∧ Drawn0 w w')
  case atStart => exact ⟨(decide ((a0.size : Int) > 0)), (0), rsA, rsA, H', ⟨Nat.le_refl _⟩, drA⟩
  case round =>
   clear H'
   try clear p2
   obtain ⟨x4_1, x5_1, rfl, rfl, HA, HK1, ⟨m1, rfl⟩⟩ := hrel
   cases gk with
   | zero => exact absurd HA.out (by simp [tallboyref02_Parse.l0])
   | succ k1 =>
    have H := HA.out
    clear HA
    simp only [tallboyref02_Parse.l0] at H
    by_cases c3 : x5_1 < (a0.size : Int)
    · rw [if_pos c3] at H
      have c3b0 : decide (x5_1 < (a0.size : Int)) = true := decide_eq_true c3
      clear c3
      (first | rw [c3b0] | (simp only [i64_w, i32_w]; rw [c3b0]) | skip)
      by_cases c4 : x4_1 = true
      · subst c4
        have H1 : (if 0 ≤ x5_1 then (if (bt a0 x5_1) ≥ 48 then (tallboyref02_Parse.l0 k1 a0 (decide ((bt a0 x5_1) ≤ 57)) (wrap64 (x5_1 + 1))) else (tallboyref02_Parse.l0 k1 a0 false (wrap64 (x5_1 + 1)))) else (none)) = some (r1, r2) := by rw [if_pos rfl] at H; exact H
        clear H
        have H := H1
        clear H1
        by_cases c5 : 0 ≤ x5_1
        · rw [if_pos c5] at H
          have c5b0 : decide (0 ≤ x5_1) = true := decide_eq_true c5
          clear c5
          by_cases c7 : (bt a0 x5_1) ≥ 48
          · rw [if_pos c7] at H
            have c7b0 : decide (48 ≤ (bt a0 x5_1)) = true := decide_eq_true c7
            clear c7
            have H' := Aside0.mk H
            clear H
            have p6 : 0 ≤ (x5_1 : Int) := of_decide_eq_true asA
            have q6 : x5_1 < (a0.size : Int) := of_decide_eq_true asA
            have hx6 := bt_at a0 x5_1
            replace p6 := eq_true p6
            replace q6 := eq_true q6
            have p8 : 0 ≤ (x5_1 : Int) := of_decide_eq_true asA
            have q8 : x5_1 < (a0.size : Int) := of_decide_eq_true asA
            have hx8 := bt_at a0 x5_1
            replace p8 := eq_true p8
            replace q8 := eq_true q8
            go_wp2
            go_roundg k1
            case measure => have := HK1.out; omega
            case rel => exact ⟨(decide ((bt a0 x5_1) ≤ 57)), (wrap64 (x5_1 + 1)), rsA, rsA, H', ⟨by have := HK1.out; omega⟩, drA⟩
          rw [if_neg c7] at H
          have c7b0 : decide (48 ≤ (bt a0 x5_1)) = false := decide_eq_false c7
          clear c7
          have H' := Aside0.mk H
          clear H
          have p6 : 0 ≤ (x5_1 : Int) := of_decide_eq_true asA
          have q6 : x5_1 < (a0.size : Int) := of_decide_eq_true asA
          have hx6 := bt_at a0 x5_1
          replace p6 := eq_true p6
          replace q6 := eq_true q6
          go_wp2
          go_roundg k1
          case measure => have := HK1.out; omega
          case rel => exact ⟨(false), (wrap64 (x5_1 + 1)), rsA, rsA, H', ⟨by have := HK1.out; omega⟩, drA⟩
        rw [if_neg c5] at H
        exact absurd H (by simp)
      replace c4 := Bool.eq_false_iff.mpr c4
      subst c4
      have H1 : (tallboyref02_Parse.j1 k1 a0 false) = some (r1, r2) := by rw [if_neg (show ¬ (false = true) by decide)] at H; exact H
      clear H
      have H := H1
      clear H1
      have H' := Aside0.mk H
      clear H
      go_wp2
      go_meet
      case rel => exact ⟨_, (false), rsA, H', ⟨by have := HK1.out; first | omega | exact Nat.le_refl _⟩, drA⟩
    rw [if_neg c3] at H
    have c3b0 : decide (x5_1 < (a0.size : Int)) = false := decide_eq_false c3
    clear c3
    (first | rw [c3b0] | (simp only [i64_w, i32_w]; rw [c3b0]) | skip)
    have H' := Aside0.mk H
    clear H
    go_wp2
    go_meet
    case rel => exact ⟨_, (x4_1), rsA, H', ⟨by have := HK1.out; first | omega | exact Nat.le_refl _⟩, drA⟩
 clear HC2
 (try clear p2); (try clear c3); (try clear c3b0); (try clear c4); (try clear c5); (try clear c5b0); (try clear p6); (try clear q6); (try clear hx6); (try clear c7); (try clear c7b0); (try clear p8); (try clear q8); (try clear hx8); (try clear p2); (try clear p6); (try clear p8); (try clear q6); (try clear q8)
 obtain ⟨kq, x4_1, rfl, HA, HJ1, ⟨mc1, rfl⟩⟩ := hcut
 cases kq with
 | zero => exact absurd HA.out (by simp [tallboyref02_Parse.j1])
 | succ kj1 =>
  have H := HA.out
  clear HA
  simp only [tallboyref02_Parse.j1] at H
  by_cases c9 : x4_1 = true
  · subst c9
    have H1 : (if (a0.size : Int) > 20 then (some (0, 7)) else (tallboyref02_Parse.l1 kj1 a0 0 0)) = some (r1, r2) := by rw [if_pos rfl] at H; exact H
    clear H
    have H := H1
    clear H1
    by_cases c10 : (a0.size : Int) > 20
    · rw [if_pos c10] at H
      have c10b0 : decide (20 < (a0.size : Int)) = true := decide_eq_true c10
      have c10b1 : decide (20 < a0.size) = true := decide_eq_true (by omega)
      clear c10
      simp only [Option.some.injEq, Prod.mk.injEq] at H
      obtain ⟨rfl, rfl⟩ := H
      go_wp2
      go_ret2
      exact ⟨rsA, drA⟩
    rw [if_neg c10] at H
    have c10b0 : decide (20 < (a0.size : Int)) = false := decide_eq_false c10
    have c10b1 : decide (20 < a0.size) = false := decide_eq_false (by omega)
    clear c10
    have H' := Aside0.mk H
    clear H
    go_wp2
    go_loopg [6, 7] kj1 (fun kq v6 v7 w' => ∃ (x6_2 : Int) (x7_2 : Int), v6 = .int .u64 x6_2 ∧ v7 = .int .i64 x7_2 ∧ Aside0 (tallboyref02_Parse.l1 kq a0 x6_2 x7_2 = some (r1, r2)) ∧ Aside0 (kq ≤ kj1) ∧ Drawn0 w w')
    case atStart => exact ⟨(0), (0), rsA, rsA, H', ⟨Nat.le_refl _⟩, drA⟩
    case round =>
     clear H'
     (try clear c1); (try clear p2); (try clear c3); (try clear c3b0); (try clear c4); (try clear c5); (try clear c5b0); (try clear p6); (try clear q6); (try clear hx6); (try clear c7); (try clear c7b0); (try clear p8); (try clear q8); (try clear hx8); (try clear c9); (try clear c10); (try clear c10b0); (try clear c10b1); (try clear p2); (try clear p6); (try clear p8); (try clear q6); (try clear q8)
     obtain ⟨x6_2, x7_2, rfl, rfl, HA, HK2, ⟨m2, rfl⟩⟩ := hrel
     cases gk with
     | zero => exact absurd HA.out (by simp [tallboyref02_Parse.l1])
     | succ k2 =>
      have H := HA.out
      clear HA
      simp only [tallboyref02_Parse.l1] at H
      by_cases c11 : x7_2 < (a0.size : Int)
      · rw [if_pos c11] at H
        have c11b0 : decide (x7_2 < (a0.size : Int)) = true := decide_eq_true c11
        clear c11
        by_cases c12 : 0 ≤ x7_2
        · rw [if_pos c12] at H
          have c12b0 : decide (0 ≤ x7_2) = true := decide_eq_true c12
          clear c12
          by_cases c14 : x6_2 > ((18446744073709551615 - (((bt a0 x7_2) - 48) % 256)) / 10)
          · rw [if_pos c14] at H
            have c14b0 : decide (((18446744073709551615 - (((bt a0 x7_2) - 48) % 256)) / 10) < x6_2) = true := decide_eq_true c14
            clear c14
            simp only [Option.some.injEq, Prod.mk.injEq] at H
            obtain ⟨rfl, rfl⟩ := H
            have p13 : 0 ≤ (x7_2 : Int) := of_decide_eq_true asA
            have q13 : x7_2 < (a0.size : Int) := of_decide_eq_true asA
            have hx13 := bt_at a0 x7_2
            replace p13 := eq_true p13
            replace q13 := eq_true q13
            go_wp2
            go_ret2
            exact ⟨rsA, drA⟩
          rw [if_neg c14] at H
          have c14b0 : decide (((18446744073709551615 - (((bt a0 x7_2) - 48) % 256)) / 10) < x6_2) = false := decide_eq_false c14
          clear c14
          have H' := Aside0.mk H
          clear H
          have p13 : 0 ≤ (x7_2 : Int) := of_decide_eq_true asA
          have q13 : x7_2 < (a0.size : Int) := of_decide_eq_true asA
          have hx13 := bt_at a0 x7_2
          replace p13 := eq_true p13
          replace q13 := eq_true q13
          go_wp2
          go_roundg k2
          case measure => have := HJ1.out; have := HK2.out; omega
          case rel => exact ⟨(IntKind.u64.wrap ((IntKind.u64.wrap (10 * x6_2)) + (((bt a0 x7_2) - 48) % 256))), (wrap64 (x7_2 + 1)), rsA, rsA, H', ⟨by have := HJ1.out; have := HK2.out; omega⟩, drA⟩
        rw [if_neg c12] at H
        exact absurd H (by simp)
      rw [if_neg c11] at H
      have c11b0 : decide (x7_2 < (a0.size : Int)) = false := decide_eq_false c11
      clear c11
      simp only [Option.some.injEq, Prod.mk.injEq] at H
      obtain ⟨rfl, rfl⟩ := H
      go_wp2
      go_ret2
      exact ⟨rsA, drA⟩
  replace c9 := Bool.eq_false_iff.mpr c9
  subst c9
  have H1 : (some (0, 6)) = some (r1, r2) := by rw [if_neg (show ¬ (false = true) by decide)] at H; exact H
  clear H
  have H := H1
  clear H1
  simp only [Option.some.injEq, Prod.mk.injEq] at H
  obtain ⟨rfl, rfl⟩ := H
  go_wp2
  go_ret2
  exact ⟨rsA, drA⟩

mutual
def tallboyref02_Signed.j0 : Nat → ByteArray → Bool → Option (Int × Int)
 | 0, _, _ => none
 | k + 1, x0, x15 => if x15 = true then (if 1 ≤ (x0.size : Int) then ((tallboyref02_Parse.f k (sub x0 1 x0.size)).bind fun bt212 => (if bt212.2 = 0 then (tallboyref02_Signed.j1 k bt212.1 bt212.2 (decide (bt212.1 > 9223372036854775808))) else (tallboyref02_Signed.j1 k bt212.1 bt212.2 false))) else (none)) else ((tallboyref02_Parse.f k x0).bind fun bt214 => (if bt214.2 = 0 then (tallboyref02_Signed.j3 k bt214.1 bt214.2 (decide (bt214.1 > 9223372036854775807))) else (tallboyref02_Signed.j3 k bt214.1 bt214.2 false)))
def tallboyref02_Signed.j1 : Nat → Int → Int → Bool → Option (Int × Int)
 | 0, _, _, _ => none
 | k + 1, x4, x5, x27 => if x27 = true then (tallboyref02_Signed.j2 k x4 1) else (tallboyref02_Signed.j2 k x4 x5)
def tallboyref02_Signed.j2 : Nat → Int → Int → Option (Int × Int)
 | 0, _, _ => none
 | k + 1, x4, x5 => if x5 = 0 then (if x4 = 9223372036854775808 then (some ((-9223372036854775808), 0)) else (some (wrap64 (-(wrap64 (x4))), 0))) else (some (0, x5))
def tallboyref02_Signed.j3 : Nat → Int → Int → Bool → Option (Int × Int)
 | 0, _, _, _ => none
 | k + 1, x6, x7, x46 => if x46 = true then (if 1 = 0 then (some (wrap64 (x6), 0)) else (some (0, 1))) else (if x7 = 0 then (some (wrap64 (x6), 0)) else (some (0, x7)))
end
def tallboyref02_Signed.f (k : Nat) (a0 : ByteArray) : Option (Int × Int) := if (a0.size : Int) > 0 then (if 0 < (a0.size : Int) then (tallboyref02_Signed.j0 k a0 ((bt a0 0) == 45)) else (none)) else (tallboyref02_Signed.j0 k a0 false)
theorem tallboyref02_Signed.mono_l : ∀ k, (∀ y0 y1, LeO (tallboyref02_Signed.j0 k y0 y1) (tallboyref02_Signed.j0 (k + 1) y0 y1)) ∧ (∀ y0 y1 y2, LeO (tallboyref02_Signed.j1 k y0 y1 y2) (tallboyref02_Signed.j1 (k + 1) y0 y1 y2)) ∧ (∀ y0 y1, LeO (tallboyref02_Signed.j2 k y0 y1) (tallboyref02_Signed.j2 (k + 1) y0 y1)) ∧ (∀ y0 y1 y2, LeO (tallboyref02_Signed.j3 k y0 y1 y2) (tallboyref02_Signed.j3 (k + 1) y0 y1 y2))
 | 0 => ⟨fun _ _ r h => by simp [tallboyref02_Signed.j0] at h, fun _ _ _ r h => by simp [tallboyref02_Signed.j1] at h, fun _ _ r h => by simp [tallboyref02_Signed.j2] at h, fun _ _ _ r h => by simp [tallboyref02_Signed.j3] at h⟩
 | k + 1 => by
  obtain ⟨ih0, ih1, ih2, ih3⟩ := tallboyref02_Signed.mono_l k
  refine ⟨?_, ?_, ?_, ?_⟩
  all_goals
   intros
   first | unfold tallboyref02_Signed.j0 | unfold tallboyref02_Signed.j1 | unfold tallboyref02_Signed.j2 | unfold tallboyref02_Signed.j3
   repeat' first
   | (with_reducible exact ih0 _ _)
   | (with_reducible exact ih1 _ _ _)
   | (with_reducible exact ih2 _ _)
   | (with_reducible exact ih3 _ _ _)
   | (with_reducible exact tallboyref02_Parse.mono _ _)
   | (with_reducible exact LeO.refl _)
   | (with_reducible exact LeO.none _)
   | (with_reducible refine LeO.ite ?_ ?_)
   | (with_reducible refine LeO.bind ?_ (fun _ => ?_))
   | exact ih0 _ _
   | exact ih1 _ _ _
   | exact ih2 _ _
   | exact ih3 _ _ _
   | exact tallboyref02_Parse.mono _ _
   | exact LeO.none _
   | refine LeO.ite ?_ ?_
   | refine LeO.bind ?_ (fun _ => ?_)
theorem tallboyref02_Signed.mono : ∀ a0 k, LeO (tallboyref02_Signed.f k a0) (tallboyref02_Signed.f (k + 1) a0) := by
 intro a0 k
 obtain ⟨ih0, ih1, ih2, ih3⟩ := tallboyref02_Signed.mono_l k
 unfold tallboyref02_Signed.f
 repeat' first
  | (with_reducible exact ih0 _ _)
  | (with_reducible exact ih1 _ _ _)
  | (with_reducible exact ih2 _ _)
  | (with_reducible exact ih3 _ _ _)
  | (with_reducible exact tallboyref02_Parse.mono _ _)
  | (with_reducible exact LeO.refl _)
  | (with_reducible exact LeO.none _)
  | (with_reducible refine LeO.ite ?_ ?_)
  | (with_reducible refine LeO.bind ?_ (fun _ => ?_))
  | exact ih0 _ _
  | exact ih1 _ _ _
  | exact ih2 _ _
  | exact ih3 _ _ _
  | exact tallboyref02_Parse.mono _ _
  | exact LeO.none _
  | refine LeO.ite ?_ ?_
  | refine LeO.bind ?_ (fun _ => ?_)
set_option maxHeartbeats 8000000 in
set_option maxRecDepth 100000 in
theorem tallboyref02_Signed.calls (k : Nat) (a0 : ByteArray) (r1 : Int) (r2 : Int) (w : World) (h : tallboyref02_Signed.f k a0 = some (r1, r2)) :
 Calls Tryz.prog 40 #[.string a0] w fun e w' => e = .returned (.tuple #[.int .i64 r1, .int .i64 r2]) ∧ Drawn0 w w' := by
 have H : (if (a0.size : Int) > 0 then (if 0 < (a0.size : Int) then (tallboyref02_Signed.j0 k a0 ((bt a0 0) == 45)) else (none)) else (tallboyref02_Signed.j0 k a0 false)) = some (r1, r2) := h
 clear h
 have HC2 := Aside0.mk H
 clear H
 go_enter Tryz.func40, Tryz.ntmps40
 go_upto_region 1 with (fail)
 go_cut [15] (fun v15 wc => ∃ (kq : Nat) (x15_1 : Bool), v15 = .bool x15_1 ∧ Aside0 (tallboyref02_Signed.j0 kq a0 x15_1 = some (r1, r2)) ∧ Aside0 (kq ≤ k) ∧ Drawn0 w wc)
 case first =>
  have H := HC2.out
  clear HC2
  by_cases c3 : (a0.size : Int) > 0
  · rw [if_pos c3] at H
    have c3b0 : decide (0 < (a0.size : Int)) = true := decide_eq_true c3
    have c3b1 : decide (0 < a0.size) = true := decide_eq_true (by omega)
    clear c3
    (first | rw [c3b0] | (simp only [i64_w, i32_w]; rw [c3b0]) | skip)
    by_cases c4 : 0 < (a0.size : Int)
    · rw [if_pos c4] at H
      have c4b0 : decide (0 < (a0.size : Int)) = true := decide_eq_true c4
      have c4b1 : decide (0 < a0.size) = true := decide_eq_true (by omega)
      clear c4
      have H' := Aside0.mk H
      clear H
      have p5 : 0 ≤ (0 : Int) := (by omega)
      have q5 : 0 < a0.size := (by have : (0 : Int) < (a0.size : Int) := of_decide_eq_true asA; omega)
      have hx5 : ∀ h : 0 < a0.size, ((a0[0]'h).toNat : Int) = bt a0 0 := bt_at a0 0
      clear p5
      have qi5 : (0 < (a0.size : Int)) = True := eq_true (of_decide_eq_true asA)
      replace q5 := eq_true q5
      go_wp2
      go_meet
      case rel => exact ⟨_, (((bt a0 0) == 45)), rsA, H', ⟨by first | omega | exact Nat.le_refl _⟩, drA⟩
    rw [if_neg c4] at H
    exact absurd H (by simp)
  rw [if_neg c3] at H
  have c3b0 : decide (0 < (a0.size : Int)) = false := decide_eq_false c3
  have c3b1 : decide (0 < a0.size) = false := decide_eq_false (by omega)
  clear c3
  (first | rw [c3b0] | (simp only [i64_w, i32_w]; rw [c3b0]) | skip)
  have H' := Aside0.mk H
  clear H
  go_wp2
  go_meet
  case rel => exact ⟨_, (false), rsA, H', ⟨by first | omega | exact Nat.le_refl _⟩, drA⟩
 clear HC2
 (try clear p2); (try clear c3); (try clear c3b0); (try clear c3b1); (try clear c4); (try clear c4b0); (try clear c4b1); (try clear p5); (try clear q5); (try clear hx5); (try clear qi5); (try clear p5); (try clear q5)
 obtain ⟨kq, x15_1, rfl, HA, HJ1, ⟨mc1, rfl⟩⟩ := hcut
 cases kq with
 | zero => exact absurd HA.out (by simp [tallboyref02_Signed.j0])
 | succ kj1 =>
  have H := HA.out
  clear HA
  simp only [tallboyref02_Signed.j0] at H
  by_cases c6 : x15_1 = true
  · subst c6
    have H1 : (if 1 ≤ (a0.size : Int) then ((tallboyref02_Parse.f kj1 (sub a0 1 a0.size)).bind fun bt212 => (if bt212.2 = 0 then (tallboyref02_Signed.j1 kj1 bt212.1 bt212.2 (decide (bt212.1 > 9223372036854775808))) else (tallboyref02_Signed.j1 kj1 bt212.1 bt212.2 false))) else (none)) = some (r1, r2) := by rw [if_pos rfl] at H; exact H
    clear H
    have H := H1
    clear H1
    by_cases c7 : 1 ≤ (a0.size : Int)
    · rw [if_pos c7] at H
      have c7b0 := eq_true c7
      have c7b1 : decide (1 ≤ (a0.size : Int)) = true := decide_eq_true c7
      clear c7
      replace H := Option.bind_eq_some_iff.mp H
      obtain ⟨⟨t212, t213⟩, A80, H⟩ := H
      replace H : (if t213 = 0 then (tallboyref02_Signed.j1 kj1 t212 t213 (decide (t212 > 9223372036854775808))) else (tallboyref02_Signed.j1 kj1 t212 t213 false)) = some (r1, r2) := H
      have A8 := Aside0.mk A80
      clear A80
      have HC9 := Aside0.mk H
      clear H
      go_upto_region 3 with (first | ((with_reducible refine gate_callee (f := 41) rfl ?_); refine goesL_ (some 19) rfl rfl Tryz.func41 (by kernel_rfl) rfl #[.string (sub a0 1 a0.size)] rfl argA ?_; (with_reducible refine (tallboyref02_Parse.calls kj1 (sub a0 1 a0.size) t212 t213 _ A8.out).mono ?_); rintro e w' ⟨rfl, ⟨nd, rfl⟩⟩; refine ⟨_, rfl, ?_⟩))
      (try simp only [Act.put, List.setIfInBounds_toArray, List.set_cons_zero, List.set_cons_succ])
      go_cut [27] (fun v27 wc => ∃ (kq : Nat) (x27_8 : Bool), v27 = .bool x27_8 ∧ Aside0 (tallboyref02_Signed.j1 kq t212 t213 x27_8 = some (r1, r2)) ∧ Aside0 (kq ≤ kj1) ∧ Drawn0 w wc)
      case first =>
       have H := HC9.out
       clear HC9
       by_cases c10 : t213 = 0
       · rw [if_pos c10] at H
         have c10b0 : (t213 == 0) = true := beq_iff_eq.mpr c10
         have c10b1 : (t213 != 0) = false := bne_eq_false_iff_eq.mpr c10
         clear c10
         (first | rw [c10b0] | (simp only [i64_w, i32_w]; rw [c10b0]) | skip)
         have H' := Aside0.mk H
         clear H
         go_wp2
         go_meet
         case rel => exact ⟨_, (decide (t212 > 9223372036854775808)), rsA, H', ⟨by have := HJ1.out; first | omega | exact Nat.le_refl _⟩, drA⟩
       rw [if_neg c10] at H
       have c10b0 : (t213 == 0) = false := beq_eq_false_iff_ne.mpr c10
       have c10b1 : (t213 != 0) = true := bne_iff_ne.mpr c10
       (first | rw [c10b0] | (simp only [i64_w, i32_w]; rw [c10b0]) | skip)
       have H' := Aside0.mk H
       clear H
       go_wp2
       go_meet
       case rel => exact ⟨_, (false), rsA, H', ⟨by have := HJ1.out; first | omega | exact Nat.le_refl _⟩, drA⟩
      clear HC9
      (try clear c1); (try clear p2); (try clear c3); (try clear c3b0); (try clear c3b1); (try clear c4); (try clear c4b0); (try clear c4b1); (try clear p5); (try clear q5); (try clear hx5); (try clear qi5); (try clear c6); (try clear c7); (try clear c7b0); (try clear c7b1); (try clear c10); (try clear c10b0); (try clear c10b1); (try clear p2); (try clear p5); (try clear q5)
      obtain ⟨kq, x27_8, rfl, HA, HJ8, ⟨mc8, rfl⟩⟩ := hcut
      cases kq with
      | zero => exact absurd HA.out (by simp [tallboyref02_Signed.j1])
      | succ kj8 =>
       have H := HA.out
       clear HA
       simp only [tallboyref02_Signed.j1] at H
       have HC11 := Aside0.mk H
       clear H
       go_upto_if 27 with (fail)
       go_cut [5] (fun v5 wc => ∃ (kq : Nat) (x5_10 : Int), v5 = .int .i64 x5_10 ∧ Aside0 (tallboyref02_Signed.j2 kq t212 x5_10 = some (r1, r2)) ∧ Aside0 (kq ≤ kj8) ∧ Drawn0 w wc)
       case first =>
        have H := HC11.out
        clear HC11
        by_cases c12 : x27_8 = true
        · subst c12
          have H1 : (tallboyref02_Signed.j2 kj8 t212 1) = some (r1, r2) := by rw [if_pos rfl] at H; exact H
          clear H
          have H := H1
          clear H1
          have H' := Aside0.mk H
          clear H
          go_wp2
          go_meet
          case rel => exact ⟨_, (1), rsA, H', ⟨by have := HJ1.out; have := HJ8.out; first | omega | exact Nat.le_refl _⟩, drA⟩
        replace c12 := Bool.eq_false_iff.mpr c12
        subst c12
        have H1 : (tallboyref02_Signed.j2 kj8 t212 t213) = some (r1, r2) := by rw [if_neg (show ¬ (false = true) by decide)] at H; exact H
        clear H
        have H := H1
        clear H1
        have H' := Aside0.mk H
        clear H
        go_wp2
        go_meet
        case rel => exact ⟨_, (t213), rsA, H', ⟨by have := HJ1.out; have := HJ8.out; first | omega | exact Nat.le_refl _⟩, drA⟩
       clear HC11
       (try clear c1); (try clear p2); (try clear c3); (try clear c3b0); (try clear c3b1); (try clear c4); (try clear c4b0); (try clear c4b1); (try clear p5); (try clear q5); (try clear hx5); (try clear qi5); (try clear c6); (try clear c7); (try clear c7b0); (try clear c7b1); (try clear c8); (try clear c10); (try clear c10b0); (try clear c10b1); (try clear c12); (try clear p2); (try clear p5); (try clear q5)
       obtain ⟨kq, x5_10, rfl, HA, HJ10, ⟨mc10, rfl⟩⟩ := hcut
       cases kq with
       | zero => exact absurd HA.out (by simp [tallboyref02_Signed.j2])
       | succ kj10 =>
        have H := HA.out
        clear HA
        simp only [tallboyref02_Signed.j2] at H
        by_cases c13 : x5_10 = 0
        · rw [if_pos c13] at H
          have c13b0 : (x5_10 == 0) = true := beq_iff_eq.mpr c13
          have c13b1 : (x5_10 != 0) = false := bne_eq_false_iff_eq.mpr c13
          clear c13
          by_cases c14 : t212 = 9223372036854775808
          · rw [if_pos c14] at H
            have c14b0 : (t212 == 9223372036854775808) = true := beq_iff_eq.mpr c14
            have c14b1 : (t212 != 9223372036854775808) = false := bne_eq_false_iff_eq.mpr c14
            clear c14
            simp only [Option.some.injEq, Prod.mk.injEq] at H
            obtain ⟨rfl, rfl⟩ := H
            go_wp2
            go_ret2
            exact ⟨rsA, drA⟩
          rw [if_neg c14] at H
          have c14b0 : (t212 == 9223372036854775808) = false := beq_eq_false_iff_ne.mpr c14
          have c14b1 : (t212 != 9223372036854775808) = true := bne_iff_ne.mpr c14
          simp only [Option.some.injEq, Prod.mk.injEq] at H
          obtain ⟨rfl, rfl⟩ := H
          go_wp2
          go_ret2
          exact ⟨rsA, drA⟩
        rw [if_neg c13] at H
        have c13b0 : (x5_10 == 0) = false := beq_eq_false_iff_ne.mpr c13
        have c13b1 : (x5_10 != 0) = true := bne_iff_ne.mpr c13
        simp only [Option.some.injEq, Prod.mk.injEq] at H
        obtain ⟨rfl, rfl⟩ := H
        go_wp2
        go_ret2
        exact ⟨rsA, drA⟩
    rw [if_neg c7] at H
    exact absurd H (by simp)
  replace c6 := Bool.eq_false_iff.mpr c6
  subst c6
  have H1 : ((tallboyref02_Parse.f kj1 a0).bind fun bt214 => (if bt214.2 = 0 then (tallboyref02_Signed.j3 kj1 bt214.1 bt214.2 (decide (bt214.1 > 9223372036854775807))) else (tallboyref02_Signed.j3 kj1 bt214.1 bt214.2 false))) = some (r1, r2) := by rw [if_neg (show ¬ (false = true) by decide)] at H; exact H
  clear H
  have H := H1
  clear H1
  replace H := Option.bind_eq_some_iff.mp H
  obtain ⟨⟨t214, t215⟩, A150, H⟩ := H
  replace H : (if t215 = 0 then (tallboyref02_Signed.j3 kj1 t214 t215 (decide (t214 > 9223372036854775807))) else (tallboyref02_Signed.j3 kj1 t214 t215 false)) = some (r1, r2) := H
  have A15 := Aside0.mk A150
  clear A150
  have HC16 := Aside0.mk H
  clear H
  go_upto_region 11 with (first | ((with_reducible refine gate_callee (f := 41) rfl ?_); refine goesL_ (some 38) rfl rfl Tryz.func41 (by kernel_rfl) rfl #[.string a0] rfl argA ?_; (with_reducible refine (tallboyref02_Parse.calls kj1 a0 t214 t215 _ A15.out).mono ?_); rintro e w' ⟨rfl, ⟨nd, rfl⟩⟩; refine ⟨_, rfl, ?_⟩))
  (try simp only [Act.put, List.setIfInBounds_toArray, List.set_cons_zero, List.set_cons_succ])
  go_cut [46] (fun v46 wc => ∃ (kq : Nat) (x46_15 : Bool), v46 = .bool x46_15 ∧ Aside0 (tallboyref02_Signed.j3 kq t214 t215 x46_15 = some (r1, r2)) ∧ Aside0 (kq ≤ kj1) ∧ Drawn0 w wc)
  case first =>
   have H := HC16.out
   clear HC16
   by_cases c17 : t215 = 0
   · rw [if_pos c17] at H
     have c17b0 : (t215 == 0) = true := beq_iff_eq.mpr c17
     have c17b1 : (t215 != 0) = false := bne_eq_false_iff_eq.mpr c17
     clear c17
     (first | rw [c17b0] | (simp only [i64_w, i32_w]; rw [c17b0]) | skip)
     have H' := Aside0.mk H
     clear H
     go_wp2
     go_meet
     case rel => exact ⟨_, (decide (t214 > 9223372036854775807)), rsA, H', ⟨by have := HJ1.out; first | omega | exact Nat.le_refl _⟩, drA⟩
   rw [if_neg c17] at H
   have c17b0 : (t215 == 0) = false := beq_eq_false_iff_ne.mpr c17
   have c17b1 : (t215 != 0) = true := bne_iff_ne.mpr c17
   (first | rw [c17b0] | (simp only [i64_w, i32_w]; rw [c17b0]) | skip)
   have H' := Aside0.mk H
   clear H
   go_wp2
   go_meet
   case rel => exact ⟨_, (false), rsA, H', ⟨by have := HJ1.out; first | omega | exact Nat.le_refl _⟩, drA⟩
  clear HC16
  (try clear c1); (try clear p2); (try clear c3); (try clear c3b0); (try clear c3b1); (try clear c4); (try clear c4b0); (try clear c4b1); (try clear p5); (try clear q5); (try clear hx5); (try clear qi5); (try clear c6); (try clear c7); (try clear c7b0); (try clear c7b1); (try clear c8); (try clear c10); (try clear c10b0); (try clear c10b1); (try clear c12); (try clear c13); (try clear c13b0); (try clear c13b1); (try clear c14); (try clear c14b0); (try clear c14b1); (try clear c17); (try clear c17b0); (try clear c17b1); (try clear p2); (try clear p5); (try clear q5)
  obtain ⟨kq, x46_15, rfl, HA, HJ15, ⟨mc15, rfl⟩⟩ := hcut
  cases kq with
  | zero => exact absurd HA.out (by simp [tallboyref02_Signed.j3])
  | succ kj15 =>
   have H := HA.out
   clear HA
   simp only [tallboyref02_Signed.j3] at H
   by_cases c18 : x46_15 = true
   · subst c18
     have H1 : (if 1 = 0 then (some (wrap64 (t214), 0)) else (some (0, 1))) = some (r1, r2) := by rw [if_pos rfl] at H; exact H
     clear H
     have H := H1
     clear H1
     by_cases c19 : 1 = 0
     · exact absurd c19 (by decide)
     rw [if_neg c19] at H
     have c19b0 : (1 == 0) = false := beq_eq_false_iff_ne.mpr c19
     have c19b1 : (1 != 0) = true := bne_iff_ne.mpr c19
     simp only [Option.some.injEq, Prod.mk.injEq] at H
     obtain ⟨rfl, rfl⟩ := H
     go_wp2
     go_ret2
     exact ⟨rsA, drA⟩
   replace c18 := Bool.eq_false_iff.mpr c18
   subst c18
   have H1 : (if t215 = 0 then (some (wrap64 (t214), 0)) else (some (0, t215))) = some (r1, r2) := by rw [if_neg (show ¬ (false = true) by decide)] at H; exact H
   clear H
   have H := H1
   clear H1
   by_cases c20 : t215 = 0
   · rw [if_pos c20] at H
     have c20b0 : (t215 == 0) = true := beq_iff_eq.mpr c20
     have c20b1 : (t215 != 0) = false := bne_eq_false_iff_eq.mpr c20
     clear c20
     simp only [Option.some.injEq, Prod.mk.injEq] at H
     obtain ⟨rfl, rfl⟩ := H
     go_wp2
     go_ret2
     exact ⟨rsA, drA⟩
   rw [if_neg c20] at H
   have c20b0 : (t215 == 0) = false := beq_eq_false_iff_ne.mpr c20
   have c20b1 : (t215 != 0) = true := bne_iff_ne.mpr c20
   simp only [Option.some.injEq, Prod.mk.injEq] at H
   obtain ⟨rfl, rfl⟩ := H
   go_wp2
   go_ret2
   exact ⟨rsA, drA⟩

end
end Go.Proofs.YtfboejlemnfndaaGreatDoor.XMr
end
