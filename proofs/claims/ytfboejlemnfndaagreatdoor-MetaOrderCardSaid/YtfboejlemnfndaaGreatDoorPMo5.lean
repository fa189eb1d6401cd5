/- Put together by wip/pack.py (this session's own program) out of this session's texts; a kit's tool laid the words and the shelf, of which only what is used stands here. Lean checks it. -/
import Derived.Test.YtfboejlemnfndaaGreatDoorPMo4
import Derived.Lib.Hide
section
namespace Go.Proofs.YtfboejlemnfndaaGreatDoor.XMo
open Go.RowKit Go.Proofs.YtfboejlemnfndaaGreatDoorW.PrintWords Go.Proofs.YtfboejlemnfndaaGreatDoorW.PrintLast Go.Proofs.YtfboejlemnfndaaGreatDoorW.PrintMore
attribute [local go_sem] extract_sub max2_int min2_int max_two min_two max_three min_three max_four min_four   -- for this text's walks alone
set_option linter.unusedVariables false
set_option linter.unusedSimpArgs false

noncomputable section
mutual
def meta_words.j0 : Nat → Int → List ByteArray → Bool → Int → ByteArray → Int → Option (Int × ByteArray × Int × (List (S61)) × Bool)
 | 0, _, _, _, _, _, _ => none
 | k + 1, x0, x1, x20, x205000, x205001, x205002 => if x20 = true then (if 0 < (x1.length : Int) then (if 1 ≤ (x1.length : Int) then (meta_words.j1 k x0 (x1.drop 1) x205000 (rdOf ByteArray.empty x1 0) x205002) else (none)) else (none)) else (meta_words.j1 k x0 x1 x205000 x205001 x205002)
def meta_words.j1 : Nat → Int → List ByteArray → Int → ByteArray → Int → Option (Int × ByteArray × Int × (List (S61)) × Bool)
 | 0, _, _, _, _, _ => none
 | k + 1, x0, x1, x205000, x205001, x205002 => if x0 = 2 then (meta_words.j2 k x0 x1 (decide ((x1.length : Int) > 0)) x205000 x205001 x205002) else (meta_words.j2 k x0 x1 false x205000 x205001 x205002)
def meta_words.j2 : Nat → Int → List ByteArray → Bool → Int → ByteArray → Int → Option (Int × ByteArray × Int × (List (S61)) × Bool)
 | 0, _, _, _, _, _, _ => none
 | k + 1, x0, x1, x33, x205000, x205001, x205002 => if x33 = true then (if 0 < (x1.length : Int) then ((meta_size.f (rdOf ByteArray.empty x1 0)).bind fun bt212 => (if bt212.2 = true then (if 1 ≤ (x1.length : Int) then (meta_words.j3 k x0 (x1.drop 1) x205000 x205001 bt212.1) else (none)) else (some (0, (⟨#[]⟩ : ByteArray), 0, ([] : List (S61)), false)))) else (none)) else (meta_words.j3 k x0 x1 x205000 x205001 x205002)
def meta_words.j3 : Nat → Int → List ByteArray → Int → ByteArray → Int → Option (Int × ByteArray × Int × (List (S61)) × Bool)
 | 0, _, _, _, _, _ => none
 | k + 1, x0, x1, x205000, x205001, x205002 => meta_words.l0 k x0 x1 (x1.length : Int) 0 x205000 x205001 x205002 ([] : List (S61))
def meta_words.l0 : Nat → Int → List ByteArray → Int → Int → Int → ByteArray → Int → List (S61) → Option (Int × ByteArray × Int × (List (S61)) × Bool)
 | 0, _, _, _, _, _, _, _, _ => none
 | k + 1, x0, x47, x48, x49, x205000, x205001, x205002, x205003 => if x49 < x48 then (if 0 ≤ x49 then (if x49 < (x47.length : Int) then (if (rdOf ByteArray.empty x47 x49).toList = ([] : List UInt8) then (some (0, (⟨#[]⟩ : ByteArray), 0, ([] : List (S61)), false)) else (if 0 < ((rdOf ByteArray.empty x47 x49).size : Int) then (if 1 ≤ ((rdOf ByteArray.empty x47 x49).size : Int) then (if x205003.length < 5864062014805 then (meta_words.l0 k x0 x47 x48 (wrap64 (x49 + 1)) x205000 x205001 x205002 (x205003 ++ [(⟨bt (rdOf ByteArray.empty x47 x49) 0, sub (rdOf ByteArray.empty x47 x49) 1 (rdOf ByteArray.empty x47 x49).size⟩ : S61)])) else (none)) else (none)) else (none))) else (none)) else (none)) else ((meta_Find.f x205000 x205001 x205002 x205003 98).bind fun bt223 => (if bt223.2 = true then (meta_words.j5 k (x0 != 5) x205000 x205001 x205002 x205003) else (meta_words.j5 k false x205000 x205001 x205002 x205003)))
def meta_words.j5 : Nat → Bool → Int → ByteArray → Int → List (S61) → Option (Int × ByteArray × Int × (List (S61)) × Bool)
 | 0, _, _, _, _, _ => none
 | k + 1, x76, x205000, x205001, x205002, x205003 => if x76 = true then ((meta_Decode.f x205001).bind fun bt225 => (if bt225.2 = 0 then (some (x205000, bt225.1, x205002, x205003, true)) else (some (0, (⟨#[]⟩ : ByteArray), 0, ([] : List (S61)), false)))) else (some (x205000, x205001, x205002, x205003, true))
end
def meta_words.f (k : Nat) (a0 : Int) (l1 : List ByteArray) : Option (Int × ByteArray × Int × (List (S61)) × Bool) := if a0 = 5 then (meta_words.j0 k a0 l1 false a0 (⟨#[]⟩ : ByteArray) 0) else (meta_words.j0 k a0 l1 (decide ((l1.length : Int) > 0)) a0 (⟨#[]⟩ : ByteArray) 0)
theorem meta_words.mono_l : ∀ k, (∀ y0 y1 y2 y3 y4 y5, LeO (meta_words.j0 k y0 y1 y2 y3 y4 y5) (meta_words.j0 (k + 1) y0 y1 y2 y3 y4 y5)) ∧ (∀ y0 y1 y2 y3 y4, LeO (meta_words.j1 k y0 y1 y2 y3 y4) (meta_words.j1 (k + 1) y0 y1 y2 y3 y4)) ∧ (∀ y0 y1 y2 y3 y4 y5, LeO (meta_words.j2 k y0 y1 y2 y3 y4 y5) (meta_words.j2 (k + 1) y0 y1 y2 y3 y4 y5)) ∧ (∀ y0 y1 y2 y3 y4, LeO (meta_words.j3 k y0 y1 y2 y3 y4) (meta_words.j3 (k + 1) y0 y1 y2 y3 y4)) ∧ (∀ y0 y1 y2 y3 y4 y5 y6 y7, LeO (meta_words.l0 k y0 y1 y2 y3 y4 y5 y6 y7) (meta_words.l0 (k + 1) y0 y1 y2 y3 y4 y5 y6 y7)) ∧ (∀ y0 y1 y2 y3 y4, LeO (meta_words.j5 k y0 y1 y2 y3 y4) (meta_words.j5 (k + 1) y0 y1 y2 y3 y4))
 | 0 => ⟨fun _ _ _ _ _ _ r h => by simp [meta_words.j0] at h, fun _ _ _ _ _ r h => by simp [meta_words.j1] at h, fun _ _ _ _ _ _ r h => by simp [meta_words.j2] at h, fun _ _ _ _ _ r h => by simp [meta_words.j3] at h, fun _ _ _ _ _ _ _ _ r h => by simp [meta_words.l0] at h, fun _ _ _ _ _ r h => by simp [meta_words.j5] at h⟩
 | k + 1 => by
  obtain ⟨ih0, ih1, ih2, ih3, ih4, ih5⟩ := meta_words.mono_l k
  refine ⟨?_, ?_, ?_, ?_, ?_, ?_⟩
  all_goals
   intros
   first | unfold meta_words.j0 | unfold meta_words.j1 | unfold meta_words.j2 | unfold meta_words.j3 | unfold meta_words.l0 | unfold meta_words.j5
   repeat' first
   | (with_reducible exact ih0 _ _ _ _ _ _)
   | (with_reducible exact ih1 _ _ _ _ _)
   | (with_reducible exact ih2 _ _ _ _ _ _)
   | (with_reducible exact ih3 _ _ _ _ _)
   | (with_reducible exact ih4 _ _ _ _ _ _ _ _)
   | (with_reducible exact ih5 _ _ _ _ _)
   | (with_reducible exact LeO.refl _)
   | (with_reducible exact LeO.none _)
   | (with_reducible refine LeO.ite ?_ ?_)
   | (with_reducible refine LeO.bind ?_ (fun _ => ?_))
   | exact ih0 _ _ _ _ _ _
   | exact ih1 _ _ _ _ _
   | exact ih2 _ _ _ _ _ _
   | exact ih3 _ _ _ _ _
   | exact ih4 _ _ _ _ _ _ _ _
   | exact ih5 _ _ _ _ _
   | exact LeO.none _
   | refine LeO.ite ?_ ?_
   | refine LeO.bind ?_ (fun _ => ?_)
theorem meta_words.mono : ∀ a0 a1 k, LeO (meta_words.f k a0 a1) (meta_words.f (k + 1) a0 a1) := by
 intro a0 a1 k
 obtain ⟨ih0, ih1, ih2, ih3, ih4, ih5⟩ := meta_words.mono_l k
 unfold meta_words.f
 repeat' first
  | (with_reducible exact ih0 _ _ _ _ _ _)
  | (with_reducible exact ih1 _ _ _ _ _)
  | (with_reducible exact ih2 _ _ _ _ _ _)
  | (with_reducible exact ih3 _ _ _ _ _)
  | (with_reducible exact ih4 _ _ _ _ _ _ _ _)
  | (with_reducible exact ih5 _ _ _ _ _)
  | (with_reducible exact LeO.refl _)
  | (with_reducible exact LeO.none _)
  | (with_reducible refine LeO.ite ?_ ?_)
  | (with_reducible refine LeO.bind ?_ (fun _ => ?_))
  | exact ih0 _ _ _ _ _ _
  | exact ih1 _ _ _ _ _
  | exact ih2 _ _ _ _ _ _
  | exact ih3 _ _ _ _ _
  | exact ih4 _ _ _ _ _ _ _ _
  | exact ih5 _ _ _ _ _
  | exact LeO.none _
  | refine LeO.ite ?_ ?_
  | refine LeO.bind ?_ (fun _ => ?_)
def meta_words.T3 : Bool × List (List Nat × List Nat) := (true, [([], []), ([0], [0]), ([1], [1]), ([], []), ([3], [3]), ([0, 1, 2], []), ([5, 2, 0, 1, 2], [2, 5]), ([4, 6, 0, 1, 2, 3, 4, 5, 6], [0, 3, 4])])
def meta_words.B3 : List Nat := [0, 1, 3, 0, 8, 7, 39, 127]
theorem meta_words.tab3 : rtab .any (opsOf Tryz.f50 3) = meta_words.T3 := by kernel_rfl
theorem meta_words.bits3 : waitsOk meta_words.T3.2 meta_words.B3 = true := by kernel_rfl
def meta_words.T14 : Bool × List (List Nat × List Nat) := (true, [([], []), ([0], [0]), ([], []), ([2], [2]), ([], []), ([4], [4]), ([3, 5], [3, 5]), ([6], [6]), ([1, 7], [1, 7]), ([0, 1, 2, 3, 4, 5, 6, 7, 8], []), ([9, 8, 8, 0, 1, 2, 3, 4, 5, 6, 7, 8], [8, 9])])
def meta_words.B14 : List Nat := [0, 1, 0, 4, 0, 16, 60, 124, 255, 511, 1023]
theorem meta_words.tab14 : rtab .any (opsOf Tryz.f50 14) = meta_words.T14 := by kernel_rfl
theorem meta_words.bits14 : waitsOk meta_words.T14.2 meta_words.B14 = true := by kernel_rfl
set_option maxHeartbeats 8000000 in
set_option maxRecDepth 100000 in
theorem meta_words.calls (k : Nat) (a0 : Int) (P1_ : Nat → Prop) (A1 : Option Addr) (c1 : Nat) (l1 : List ByteArray) (r1 : Int) (r2 : ByteArray) (r3 : Int) (r4 : List (S61)) (r5 : Bool) (w : World) (hs1 : Kd.V Kd.string 9 w w.heap.size (fun k_ => P1_ k_) (.slice A1 l1.length c1) l1) (hv : Vars w) (h : meta_words.f k a0 l1 = some (r1, r2, r3, r4, r5)) :
 Calls Tryz.prog 50 #[.int .i64 a0, .slice A1 l1.length c1] w fun e w' => ∃ v3_ : Value, e = .returned (.tuple #[.agg #[.int .i64 r1, .string r2, .int .i64 r3, v3_], .bool r5]) ∧ Kd.R k61 61 w' w.heap.size (fun k_ => (w.heap.size ≤ k_)) v3_ r4 ∧ Below w.heap.size w w' := by
 have hu31 := Tryz.underlying31
 have hu61 := Tryz.underlying61
 have HV := Aside0.mk hv
 clear hv
 have HO1 := Aside0.mk (show Kd.V Kd.string 9 w w.heap.size (fun k_ => (P1_ k_ ∨ w.heap.size ≤ k_)) (.slice A1 l1.length c1) l1 from Kd.V_mono hs1 (fun k_ hk => .inl hk))
 have HB := Aside0.mk (Below.refl w.heap.size w)
 have H : (if a0 = 5 then (meta_words.j0 k a0 l1 false a0 (⟨#[]⟩ : ByteArray) 0) else (meta_words.j0 k a0 l1 (decide ((l1.length : Int) > 0)) a0 (⟨#[]⟩ : ByteArray) 0)) = some (r1, r2, r3, r4, r5) := h
 clear h
 have HC3 := Aside0.mk H
 clear H
 go_enter Tryz.func50, Tryz.ntmps50
 go_upto_region 2 with (first | ((with_reducible refine gate_dst (N := 4) rfl ?_); (try (refine gate_guard (by rfl) ?_; dsimp only)); refine box_event ?hg (N := 4) ?hd (cs := #[.int .i64 0, .string (⟨#[]⟩ : ByteArray), .int .i64 0, .slice none 0 0]) (t := 31) ?hr ?_; (case hd => rfl); (case hg => rfl); (case hr => first | (go_simp; done) | (go_simp; rfl)); intro gb204 hg w4 hbox hb; have n0_ := Aside0.mk (Kd.V_below (Kd.V_elderB (by (with_reducible repeat (first | apply Kd.V_alloc | apply Kd.V_drewN | apply Kd.V_drew)); exact HO1.out) gb204 (Nat.le_of_eq hg.symm)) hb); have n1_ := Aside0.mk (below_step (hbA HB.out) hb); have n2_ := Aside0.mk (hbox); have n3_ := Aside0.mk ((by rw [hg]; exact (below_size (hbA HB.out)) : w.heap.size ≤ gb204)); have n4_ := Aside0.mk ((by rw [hg]; exact (below_size (hbA HB.out)) : w.heap.size ≤ gb204)); clear HO1; clear HB; have HO1 := n0_; have HB := n1_; have BK204 := n2_; have GW204 := n3_; have GE204 := n4_; clear n0_ n1_ n2_ n3_ n4_; clear hb hbox hg; obtain ⟨hcz5_0, hcz5_1, hcz5_2, hcz5_3, hfz5_0, hfz5_1, hfz5_2, hfz5_3⟩ := blkA4 BK204.out))
 (try simp only [Act.put, List.setIfInBounds_toArray, List.set_cons_zero, List.set_cons_succ])
 go_cut [20] (fun v20 wc => ∃ (kq : Nat) (x20_2 : Bool), v20 = .bool x20_2 ∧ Aside0 (meta_words.j0 kq a0 l1 x20_2 a0 (⟨#[]⟩ : ByteArray) 0 = some (r1, r2, r3, r4, r5)) ∧ Aside0 (kq ≤ k) ∧ Aside0 (Kd.V Kd.string 9 wc w.heap.size (fun k_ => (P1_ k_ ∨ w.heap.size ≤ k_) ∧ k_ ≠ gb204) (.slice A1 l1.length c1) l1) ∧ Aside0 (wc.heap[gb204]? = some (.cells #[.int .i64 a0, .string (⟨#[]⟩ : ByteArray), .int .i64 0, (.slice none 0 0)] 31 (0, 0))) ∧ Aside0 (Below w.heap.size w wc))
 case first =>
  have H := HC3.out
  clear HC3
  by_cases c6 : a0 = 5
  · rw [if_pos c6] at H
    have c6b0 : (a0 == 5) = true := beq_iff_eq.mpr c6
    have c6b1 : (a0 != 5) = false := bne_eq_false_iff_eq.mpr c6
    clear c6
    (first | rw [c6b0] | (simp only [i64_w, i32_w]; rw [c6b0]) | skip)
    have H' := Aside0.mk H
    clear H
    go_wp2
    go_meet
    case rel => exact ⟨_, (false), rsA, H', ⟨by first | omega | exact Nat.le_refl _⟩, ⟨by (with_reducible repeat (first | apply Kd.V_alloc | apply Kd.V_drewN | apply Kd.V_drew)); exact Kd.V_mono (Kd.V_far (p := ⟨gb204, 0, none⟩) (Kd.V_mono HO1.out (fun k_ hk => (⟨hk, hk.2⟩ : _ ∧ k_ ≠ gb204))) (fun _ hk => hk.2) (.int .i64 a0)) (fun _ hk => ⟨hk.1.1, hk.1.2⟩)⟩, ⟨by (with_reducible repeat (first | refine blk_drewN ?_ _ | refine blk_drew ?_ | refine blk_alloc ?_ _)); refine blk_put (cs := #[.int .i64 0, .string (⟨#[]⟩ : ByteArray), .int .i64 0, .slice none 0 0]) ?_ 0 _ rfl; (with_reducible repeat (first | refine blk_drewN ?_ _ | refine blk_drew ?_ | refine blk_alloc ?_ _)); exact BK204.out⟩, ⟨hbA HB.out⟩⟩
  rw [if_neg c6] at H
  have c6b0 : (a0 == 5) = false := beq_eq_false_iff_ne.mpr c6
  have c6b1 : (a0 != 5) = true := bne_iff_ne.mpr c6
  (first | rw [c6b0] | (simp only [i64_w, i32_w]; rw [c6b0]) | skip)
  have H' := Aside0.mk H
  clear H
  go_wp2
  go_meet
  case rel => exact ⟨_, (decide ((l1.length : Int) > 0)), rsA, H', ⟨by first | omega | exact Nat.le_refl _⟩, ⟨by (with_reducible repeat (first | apply Kd.V_alloc | apply Kd.V_drewN | apply Kd.V_drew)); exact Kd.V_mono (Kd.V_far (p := ⟨gb204, 0, none⟩) (Kd.V_mono HO1.out (fun k_ hk => (⟨hk, hk.2⟩ : _ ∧ k_ ≠ gb204))) (fun _ hk => hk.2) (.int .i64 a0)) (fun _ hk => ⟨hk.1.1, hk.1.2⟩)⟩, ⟨by (with_reducible repeat (first | refine blk_drewN ?_ _ | refine blk_drew ?_ | refine blk_alloc ?_ _)); refine blk_put (cs := #[.int .i64 0, .string (⟨#[]⟩ : ByteArray), .int .i64 0, .slice none 0 0]) ?_ 0 _ rfl; (with_reducible repeat (first | refine blk_drewN ?_ _ | refine blk_drew ?_ | refine blk_alloc ?_ _)); exact BK204.out⟩, ⟨hbA HB.out⟩⟩
 clear HC3
 (try clear c1); (try clear p2); (try clear c5); (try clear c6); (try clear c6b0); (try clear c6b1); (try clear hcz5_0); (try clear hcz5_1); (try clear hcz5_2); (try clear hcz5_3); (try clear hfz5_0); (try clear hfz5_1); (try clear hfz5_2); (try clear hfz5_3)
 obtain ⟨kq, x20_2, rfl, HA, HJ2, HO_1, BK204, HB⟩ := hcut
 cases kq with
 | zero => exact absurd HA.out (by simp [meta_words.j0])
 | succ kj2 =>
  have H := HA.out
  clear HA
  simp only [meta_words.j0] at H
  have HC7 := Aside0.mk H
  clear H
  go_upto_if 20 with (fail)
  go_cut [1] (fun v1 wc => ∃ (kq : Nat) (x1_6 : List ByteArray) (x205001_6 : ByteArray), Aside0 (meta_words.j1 kq a0 x1_6 a0 x205001_6 0 = some (r1, r2, r3, r4, r5)) ∧ Aside0 (kq ≤ kj2) ∧ Aside0 (Kd.V Kd.string 9 wc w.heap.size (fun k_ => (P1_ k_ ∨ w.heap.size ≤ k_) ∧ k_ ≠ gb204) v1 x1_6) ∧ Aside0 (wc.heap[gb204]? = some (.cells #[.int .i64 a0, .string x205001_6, .int .i64 0, (.slice none 0 0)] 31 (0, 0))) ∧ Aside0 (Below w.heap.size w wc))
  case first =>
   have H := HC7.out
   clear HC7
   by_cases c8 : x20_2 = true
   · subst c8
     have H1 : (if 0 < (l1.length : Int) then (if 1 ≤ (l1.length : Int) then (meta_words.j1 kj2 a0 (l1.drop 1) a0 (rdOf ByteArray.empty l1 0) 0) else (none)) else (none)) = some (r1, r2, r3, r4, r5) := by rw [if_pos rfl] at H; exact H
     clear H
     have H := H1
     clear H1
     by_cases c9 : 0 < (l1.length : Int)
     · rw [if_pos c9] at H
       have c9b0 : decide (0 < (l1.length : Int)) = true := decide_eq_true c9
       have c9b1 : decide (0 < l1.length) = true := decide_eq_true (by omega)
       clear c9
       (first | rw [c9b0] | (simp only [i64_w, i32_w]; rw [c9b0]) | skip)
       by_cases c10 : 1 ≤ (l1.length : Int)
       · rw [if_pos c10] at H
         have c10b0 := eq_true c10
         have c10b1 : decide (1 ≤ (l1.length : Int)) = true := decide_eq_true c10
         clear c10
         obtain ⟨y206, hy206⟩ : ∃ y_ : List ByteArray, y_ = (l1.drop 1) := ⟨_, rfl⟩
         replace H : (meta_words.j1 kj2 a0 y206 a0 (rdOf ByteArray.empty l1 0) 0) = some (r1, r2, r3, r4, r5) := by first | (rw [hy206]; with_reducible exact H) | (have H2_ := (Option.bind_some _ _).symm.trans H; rw [hy206]; with_reducible exact H2_) | (have H2_ := (Option.bind_some _ _).symm.trans H; with_reducible exact H2_) | with_reducible exact H | (rw [hy206]; exact H) | exact H
         have Ny206 := Aside0.mk hy206
         clear hy206
         have H' := Aside0.mk H
         clear H
         try go_wp2
         replace HO_1 := Aside0.mk (Kd.V_drew HO_1.out)
         replace BK204 := Aside0.mk (blk_drew BK204.out)
         replace HB := Aside0.mk (below_drew1 HB.out)
         have p205 : 0 ≤ (0 : Int) := (by omega)
         have q205 : 0 < (l1.length : Int) := of_decide_eq_true asA
         obtain ⟨ad205, e205, hx205_0⟩ := Kd.at_string (Kd.V_reads' HO_1.out).2.2 0 p205 q205
         cases e205
         have qi205 : (0 < l1.length) = True := eq_true (by omega)
         (try rw [show ((0 : Int)).toNat = 0 from rfl] at hx205_0)
         (try rw [Addr.add_zero'] at hx205_0)
         replace p205 := eq_true p205
         replace q205 := eq_true q205
         have q12 : (1 : Int) ≤ ((l1.length : Int) : Int) := of_decide_eq_true asA
         obtain ⟨i012, hi012, _, hsz12, _⟩ := info_parts info9
         have hroom12 : l1.length ≤ c1 := (Kd.V_reads' HO_1.out).2.1
         have hC12 : Kd.F Kd.string _ _ (some ad205) l1.length l1 := (Kd.V_at (base := w.heap.size) HO_1.out).2.2
         have hcut12 := cut_from (P := Tryz.prog) 66 9 .i64 Tryz.underlying66 hi012 1 hsz12 (some ad205) l1.length c1 1 (by omega) q12
         have hr12 := Kd.F_cut (m := (1 : Int).toNat) (c := c1) hC12 (by omega) hroom12
         obtain ⟨A12, hA12⟩ : ∃ A1_, A1_ = (if c1 = (1 : Int).toNat then (some ad205) else ((some ad205) : Option Addr).map (·.add ((1 : Int).toNat * 1))) := ⟨_, rfl⟩
         obtain ⟨c12, hc12⟩ : ∃ c1_, c1_ = c1 - (1 : Int).toNat := ⟨_, rfl⟩
         have hy12 : y206.length = l1.length - (1 : Int).toNat := (by rw [Ny206.out, List.length_drop] <;> omega)
         rw [show (l1).drop (1 : Int).toNat = y206 from Ny206.out.symm] at hr12
         replace hr12 : Kd.F Kd.string _ _ A12 y206.length y206 := (by rw [hA12]; exact hr12)
         rw [← hy12, ← hA12, ← hc12] at hcut12
         have HO210 := Aside0.mk (show Kd.V Kd.string 9 _ w.heap.size _ (.slice A12 y206.length c12) y206 from Kd.V_mk (by rw [hy12, hc12]; exact Nat.sub_le_sub_right hroom12 _) hr12)
         have HC210 := Aside0.mk (show y206.length ≤ c12 from by rw [hy12, hc12]; exact Nat.sub_le_sub_right hroom12 _)
         clear hr12 hC12 hroom12 hi012 hsz12 hc12
         have KY12 := Aside0.mk hy12
         have KA12 := Aside0.mk hA12
         clear hy12 hA12
         replace q12 := eq_true q12
         refine start_ (n := 8) (S := fun w' => w'.cell? ad205 = some (.string (rdOf ByteArray.empty l1 0))) (ds := []) #[false, false, false, false, false, false, false, false] (by kernel_rfl) rfl rfl (hx205_0) (fun hHeld => ?_); refine with_tabW meta_words.tab3 meta_words.bits3 (fun HT_ HW_ => ?_)
         generalize wc.drew = w11 at HO_1 BK204 HB HO210 hx205_0 hHeld ⊢
         refine pureA_ (i := 0) (N := some 21) #[true, false, false, false, false, false, false, false] rfl rfl ?_ (hc := any_of HT_.out (by kernel_rfl))
         refine pureA_ (i := 1) (N := some 22) #[true, true, false, false, false, false, false, false] rfl rfl ?_ (hc := any_of HT_.out (by kernel_rfl))
         refine pureA_ (i := 3) (N := some 24) #[true, true, false, true, false, false, false, false] rfl rfl ?_ (hc := any_of HT_.out (by kernel_rfl))
         refine pureA_ (i := 4) (N := some 25) #[true, true, false, true, true, false, false, false] rfl rfl ?_ (hc := any_of HT_.out (by kernel_rfl))
         refine takeA_ (i := 2) (N := some 23) #[true, true, true, true, true, false, false, false] rfl rfl hHeld ?_ (hc := take_ofW HT_.out HW_.out (by kernel_rfl))
         refine pureA_ (i := 5) (N := some 26) #[true, true, true, true, true, true, false, false] rfl rfl ?_ (hc := any_of HT_.out (by kernel_rfl))
         refine one_ (i := 6) (N := none) #[true, true, true, true, true, true, true, false] rfl rfl (one_of HT_.out (by kernel_rfl)) (by decide) (fun K hK => ?_)
         have hs13 : w11.cell? ⟨gb204, 1, none⟩ = some (.string (⟨#[]⟩ : ByteArray)) := (blk_cell BK204.out 1).trans rfl
         have hfs13 := blk_frozen BK204.out 1
         refine skip_ (w1 := ?_) (by rfl) rfl ?_ ?_
         rotate_left
         · go_simp
           rfl
         refine hK.out _ _ (((cell_far (p := ⟨gb204, _, none⟩) (by first | exact Kd.V_apart HO_1.out (by decide) (Int.natCast_pos.mp (by first | assumption | exact of_eq_true (by assumption) | exact of_decide_eq_true (by assumption))) (fun _ hk => hk.2) | exact Kd.own_blk (Kd.V_away HO_1.out (fun _ hk => hk.2)) | (rw [add_block]; exact Kd.own_blk (Kd.V_away HO_1.out (fun _ hk => hk.2))) | (show (Addr.add _ _).block ≠ _; rw [add_block]; exact Kd.own_blk (Kd.V_away HO_1.out (fun _ hk => hk.2))) | (dsimp only; exact Kd.own_blk (Kd.V_away HO_1.out (fun _ hk => hk.2)))) _).trans (hHeld))) (fun hHeld => ?_)
         clear hK K
         refine pureA_ (i := 7) (N := some 1) #[true, true, true, true, true, true, true, true] rfl rfl ?_ (hc := any_of HT_.out (by kernel_rfl))
         refine done_ (done_of HT_.out (by kernel_rfl)) ?_
         try go_wp2
         go_meet
         case rel => exact ⟨_, (y206), (rdOf ByteArray.empty l1 0), H', ⟨by have := HJ2.out; first | omega | exact Nat.le_refl _⟩, ⟨by (with_reducible repeat (first | apply Kd.V_alloc | apply Kd.V_drewN | apply Kd.V_drew)); exact Kd.V_mono (Kd.V_far (p := ⟨gb204, 1, none⟩) (Kd.V_mono HO210.out (fun k_ hk => (⟨hk, hk.2⟩ : _ ∧ k_ ≠ gb204))) (fun _ hk => hk.2) (.string (rdOf ByteArray.empty l1 0))) (fun _ hk => ⟨hk.1.1, hk.1.2⟩)⟩, ⟨by (with_reducible repeat (first | refine blk_drewN ?_ _ | refine blk_drew ?_ | refine blk_alloc ?_ _)); refine blk_put (cs := #[.int .i64 a0, .string (⟨#[]⟩ : ByteArray), .int .i64 0, .slice none 0 0]) ?_ 1 _ rfl; (with_reducible repeat (first | refine blk_drewN ?_ _ | refine blk_drew ?_ | refine blk_alloc ?_ _)); exact BK204.out⟩, ⟨hbA HB.out⟩⟩
       rw [if_neg c10] at H
       exact absurd H (by simp)
     rw [if_neg c9] at H
     exact absurd H (by simp)
   replace c8 := Bool.eq_false_iff.mpr c8
   subst c8
   have H1 : (meta_words.j1 kj2 a0 l1 a0 (⟨#[]⟩ : ByteArray) 0) = some (r1, r2, r3, r4, r5) := by rw [if_neg (show ¬ (false = true) by decide)] at H; exact H
   clear H
   have H := H1
   clear H1
   have H' := Aside0.mk H
   clear H
   go_wp2
   go_meet
   case rel => exact ⟨_, (l1), ((⟨#[]⟩ : ByteArray)), H', ⟨by have := HJ2.out; first | omega | exact Nat.le_refl _⟩, ⟨by (with_reducible repeat (first | apply Kd.V_alloc | apply Kd.V_drewN | apply Kd.V_drew)); exact HO_1.out⟩, ⟨rbA BK204.out⟩, ⟨hbA HB.out⟩⟩
  clear HC7
  (try clear c1); (try clear q1); (try clear p2); (try clear q2); (try clear hx2); (try clear qi2); (try clear c5); (try clear c6); (try clear c6b0); (try clear c6b1); (try clear c8); (try clear c9); (try clear c9b0); (try clear c9b1); (try clear c10); (try clear c10b0); (try clear c10b1); (try clear c12); (try clear q12); (try clear hcz5_0); (try clear hcz5_1); (try clear hcz5_2); (try clear hcz5_3); (try clear hfz5_0); (try clear hfz5_1); (try clear hfz5_2); (try clear hfz5_3); (try clear hx205_0); (try clear p2); (try clear p205); (try clear q12); (try clear q205)
  obtain ⟨kq, x1_6, x205001_6, HA, HJ6, HO_1, BK204, HB⟩ := hcut
  cases kq with
  | zero => exact absurd HA.out (by simp [meta_words.j1])
  | succ kj6 =>
   have H := HA.out
   clear HA
   simp only [meta_words.j1] at H
   have HC14 := Aside0.mk H
   clear H
   go_upto_region 4 with (fail)
   go_cut [33] (fun v33 wc => ∃ (kq : Nat) (x33_13 : Bool), v33 = .bool x33_13 ∧ Aside0 (meta_words.j2 kq a0 x1_6 x33_13 a0 x205001_6 0 = some (r1, r2, r3, r4, r5)) ∧ Aside0 (kq ≤ kj6) ∧ Aside0 (Kd.V Kd.string 9 wc w.heap.size (fun k_ => (P1_ k_ ∨ w.heap.size ≤ k_) ∧ k_ ≠ gb204) u1 x1_6) ∧ Aside0 (wc.heap[gb204]? = some (.cells #[.int .i64 a0, .string x205001_6, .int .i64 0, (.slice none 0 0)] 31 (0, 0))) ∧ Aside0 (Below w.heap.size w wc))
   case first =>
    have H := HC14.out
    clear HC14
    by_cases c15 : a0 = 2
    · rw [if_pos c15] at H
      have c15b0 : (a0 == 2) = true := beq_iff_eq.mpr c15
      have c15b1 : (a0 != 2) = false := bne_eq_false_iff_eq.mpr c15
      clear c15
      (first | rw [c15b0] | (simp only [i64_w, i32_w]; rw [c15b0]) | skip)
      have H' := Aside0.mk H
      clear H
      obtain ⟨Ao16, co16, eo16⟩ := Kd.V_slice HO_1.out
      subst eo16
      go_wp2
      go_meet
      case rel => exact ⟨_, (decide ((x1_6.length : Int) > 0)), rsA, H', ⟨by have := HJ2.out; have := HJ6.out; first | omega | exact Nat.le_refl _⟩, ⟨by (with_reducible repeat (first | apply Kd.V_alloc | apply Kd.V_drewN | apply Kd.V_drew)); exact HO_1.out⟩, ⟨rbA BK204.out⟩, ⟨hbA HB.out⟩⟩
    rw [if_neg c15] at H
    have c15b0 : (a0 == 2) = false := beq_eq_false_iff_ne.mpr c15
    have c15b1 : (a0 != 2) = true := bne_iff_ne.mpr c15
    (first | rw [c15b0] | (simp only [i64_w, i32_w]; rw [c15b0]) | skip)
    have H' := Aside0.mk H
    clear H
    go_wp2
    go_meet
    case rel => exact ⟨_, (false), rsA, H', ⟨by have := HJ2.out; have := HJ6.out; first | omega | exact Nat.le_refl _⟩, ⟨by (with_reducible repeat (first | apply Kd.V_alloc | apply Kd.V_drewN | apply Kd.V_drew)); exact HO_1.out⟩, ⟨rbA BK204.out⟩, ⟨hbA HB.out⟩⟩
   clear HC14
   (try clear c1); (try clear q1); (try clear p2); (try clear q2); (try clear hx2); (try clear qi2); (try clear c5); (try clear c6); (try clear c6b0); (try clear c6b1); (try clear c8); (try clear c9); (try clear c9b0); (try clear c9b1); (try clear c10); (try clear c10b0); (try clear c10b1); (try clear c12); (try clear q12); (try clear c15); (try clear c15b0); (try clear c15b1); (try clear hcz5_0); (try clear hcz5_1); (try clear hcz5_2); (try clear hcz5_3); (try clear hfz5_0); (try clear hfz5_1); (try clear hfz5_2); (try clear hfz5_3); (try clear hx205_0); (try clear p2); (try clear p205); (try clear q1); (try clear q12); (try clear q2); (try clear q205)
   obtain ⟨kq, x33_13, rfl, HA, HJ13, HO_1, BK204, HB⟩ := hcut
   cases kq with
   | zero => exact absurd HA.out (by simp [meta_words.j2])
   | succ kj13 =>
    have H := HA.out
    clear HA
    simp only [meta_words.j2] at H
    have HC17 := Aside0.mk H
    clear H
    go_upto_if 33 with (fail)
    go_cut [1] (fun v1 wc => ∃ (kq : Nat) (x1_16 : List ByteArray) (x205000_16 : Int) (x205001_16 : ByteArray) (x205002_16 : Int), Aside0 (meta_words.j3 kq a0 x1_16 x205000_16 x205001_16 x205002_16 = some (r1, r2, r3, r4, r5)) ∧ Aside0 (kq ≤ kj13) ∧ Aside0 (Kd.V Kd.string 9 wc w.heap.size (fun k_ => (P1_ k_ ∨ w.heap.size ≤ k_) ∧ k_ ≠ gb204) v1 x1_16) ∧ Aside0 (wc.heap[gb204]? = some (.cells #[.int .i64 x205000_16, .string x205001_16, .int .i64 x205002_16, (.slice none 0 0)] 31 (0, 0))) ∧ Aside0 (Below w.heap.size w wc))
    case first =>
     have H := HC17.out
     clear HC17
     by_cases c18 : x33_13 = true
     · subst c18
       have H1 : (if 0 < (x1_6.length : Int) then ((meta_size.f (rdOf ByteArray.empty x1_6 0)).bind fun bt212 => (if bt212.2 = true then (if 1 ≤ (x1_6.length : Int) then (meta_words.j3 kj13 a0 (x1_6.drop 1) a0 x205001_6 bt212.1) else (none)) else (some (0, (⟨#[]⟩ : ByteArray), 0, ([] : List (S61)), false)))) else (none)) = some (r1, r2, r3, r4, r5) := by rw [if_pos rfl] at H; exact H
       clear H
       have H := H1
       clear H1
       by_cases c19 : 0 < (x1_6.length : Int)
       · rw [if_pos c19] at H
         have c19b0 : decide (0 < (x1_6.length : Int)) = true := decide_eq_true c19
         have c19b1 : decide (0 < x1_6.length) = true := decide_eq_true (by omega)
         clear c19
         (first | rw [c19b0] | (simp only [i64_w, i32_w]; rw [c19b0]) | skip)
         replace H := Option.bind_eq_some_iff.mp H
         obtain ⟨⟨t212, t213⟩, A200, H⟩ := H
         replace H : (if t213 = true then (if 1 ≤ (x1_6.length : Int) then (meta_words.j3 kj13 a0 (x1_6.drop 1) a0 x205001_6 t212) else (none)) else (some (0, (⟨#[]⟩ : ByteArray), 0, ([] : List (S61)), false))) = some (r1, r2, r3, r4, r5) := H
         have A20 := Aside0.mk A200
         clear A200
         by_cases c21 : t213 = true
         · subst c21
           have H1 : (if 1 ≤ (x1_6.length : Int) then (meta_words.j3 kj13 a0 (x1_6.drop 1) a0 x205001_6 t212) else (none)) = some (r1, r2, r3, r4, r5) := by rw [if_pos rfl] at H; exact H
           clear H
           have H := H1
           clear H1
           by_cases c22 : 1 ≤ (x1_6.length : Int)
           · rw [if_pos c22] at H
             have c22b0 := eq_true c22
             have c22b1 : decide (1 ≤ (x1_6.length : Int)) = true := decide_eq_true c22
             clear c22
             obtain ⟨y214, hy214⟩ : ∃ y_ : List ByteArray, y_ = (x1_6.drop 1) := ⟨_, rfl⟩
             replace H : (meta_words.j3 kj13 a0 y214 a0 x205001_6 t212) = some (r1, r2, r3, r4, r5) := by first | (rw [hy214]; with_reducible exact H) | (have H2_ := (Option.bind_some _ _).symm.trans H; rw [hy214]; with_reducible exact H2_) | (have H2_ := (Option.bind_some _ _).symm.trans H; with_reducible exact H2_) | with_reducible exact H | (rw [hy214]; exact H) | exact H
             have Ny214 := Aside0.mk hy214
             clear hy214
             have H' := Aside0.mk H
             clear H
             obtain ⟨Ao23, co23, eo23⟩ := Kd.V_slice HO_1.out
             subst eo23
             have p211 : 0 ≤ (0 : Int) := (by omega)
             have q211 : 0 < (x1_6.length : Int) := of_decide_eq_true asA
             obtain ⟨ad211, e211, hx211_0⟩ := Kd.at_string (Kd.V_reads' HO_1.out).2.2 0 p211 q211
             cases e211
             have qi211 : (0 < x1_6.length) = True := eq_true (by omega)
             (try rw [show ((0 : Int)).toNat = 0 from rfl] at hx211_0)
             (try rw [Addr.add_zero'] at hx211_0)
             replace p211 := eq_true p211
             replace q211 := eq_true q211
             go_wp2_with (first | ((with_reducible refine gate_callee (f := 73) rfl ?_); refine goesL_ (some 38) rfl rfl Tryz.func73 (by kernel_rfl) rfl #[.string (rdOf ByteArray.empty x1_6 0)] rfl argA ?_; (with_reducible refine (meta_size.calls (rdOf ByteArray.empty x1_6 0) t212 true _ ?side1 A20.out).mono ?_); (case side1 => exact Vars.below HV.out (hbA HB.out)); rintro e w24 ⟨rfl, hb⟩; refine ⟨_, rfl, ?_⟩; have n0_ := Aside0.mk (Kd.V_below (by (with_reducible repeat (first | apply Kd.V_alloc | apply Kd.V_drewN | apply Kd.V_drew)); exact HO_1.out) hb); have n1_ := Aside0.mk (blk_below (g := gb204) (o := .cells #[.int .i64 a0, .string x205001_6, .int .i64 0, .slice none 0 0] 31 (0, 0)) (rbA BK204.out) hb); have n2_ := Aside0.mk (below_step (hbA HB.out) hb); clear HO_1; clear BK204; clear HB; have HO_1 := n0_; have BK204 := n1_; have HB := n2_; clear n0_ n1_ n2_; (try clear hb); (try clear hb2); (try clear hk); (try clear hi); obtain ⟨hcz25_0, hcz25_1, hcz25_2, hcz25_3, hfz25_0, hfz25_1, hfz25_2, hfz25_3⟩ := blkA4 BK204.out) | ((with_reducible refine gate_store (t := 3) (p := 41) rfl ?_); refine store_event (t := 3) (p := 41) (v := ?vo_w26) (w1 := (w24.setCell ⟨gb204, 2, none⟩ (.int .i64 t212))) ?hg ?ho ?hn ?hr ?_; (case ho => rfl); (case hg => rfl); (case hn => rfl); (case hr => first | (go_simp; done) | (go_simp; rfl)); intro w26 hw; have n0_ : Aside0 (Kd.V Kd.string 9 w26 w.heap.size (fun k_ => (P1_ k_ ∨ w.heap.size ≤ k_) ∧ k_ ≠ gb204) (.slice (some ad211) x1_6.length co23) x1_6) := ⟨(by rw [hw]; exact (by (with_reducible repeat (first | apply Kd.V_alloc | apply Kd.V_drewN | apply Kd.V_drew)); exact Kd.V_mono (Kd.V_far (p := ⟨gb204, 2, none⟩) (Kd.V_mono HO_1.out (fun k_ hk => (⟨hk, hk.2⟩ : _ ∧ k_ ≠ gb204))) (fun _ hk => hk.2) (.int .i64 t212)) (fun _ hk => ⟨hk.1.1, hk.1.2⟩)))⟩; have n1_ : Aside0 (w26.heap[gb204]? = some (.cells #[.int .i64 a0, .string x205001_6, .int .i64 t212, .slice none 0 0] 31 (0, 0))) := ⟨(by rw [hw]; exact (by (with_reducible repeat (first | refine blk_drewN ?_ _ | refine blk_drew ?_ | refine blk_alloc ?_ _)); refine blk_put (cs := #[.int .i64 a0, .string x205001_6, .int .i64 0, .slice none 0 0]) ?_ 2 _ rfl; exact rbA BK204.out))⟩; have n2_ : Aside0 (Below w.heap.size w w26) := ⟨(by rw [hw]; exact (hbA HB.out))⟩; clear hw; clear HO_1; clear BK204; clear HB; have HO_1 := n0_; have BK204 := n1_; have HB := n2_; clear n0_ n1_ n2_; have q27 : (1 : Int) ≤ ((x1_6.length : Int) : Int) := of_decide_eq_true asA; obtain ⟨i027, hi027, _, hsz27, _⟩ := info_parts info9; have hroom27 : x1_6.length ≤ co23 := (Kd.V_reads' HO_1.out).2.1; have hC27 : Kd.F Kd.string _ _ (some ad211) x1_6.length x1_6 := (Kd.V_at (base := w.heap.size) HO_1.out).2.2; have hcut27 := cut_from (P := Tryz.prog) 66 9 .i64 Tryz.underlying66 hi027 1 hsz27 (some ad211) x1_6.length co23 1 (by omega) q27; have hr27 := Kd.F_cut (m := (1 : Int).toNat) (c := co23) hC27 (by omega) hroom27; obtain ⟨A27, hA27⟩ : ∃ A1_, A1_ = (if co23 = (1 : Int).toNat then (some ad211) else ((some ad211) : Option Addr).map (·.add ((1 : Int).toNat * 1))) := ⟨_, rfl⟩; obtain ⟨c27, hc27⟩ : ∃ c1_, c1_ = co23 - (1 : Int).toNat := ⟨_, rfl⟩; have hy27 : y214.length = x1_6.length - (1 : Int).toNat := (by rw [Ny214.out, List.length_drop] <;> omega); rw [show (x1_6).drop (1 : Int).toNat = y214 from Ny214.out.symm] at hr27; replace hr27 : Kd.F Kd.string _ _ A27 y214.length y214 := (by rw [hA27]; exact hr27); rw [← hy27, ← hA27, ← hc27] at hcut27; have HO218 := Aside0.mk (show Kd.V Kd.string 9 _ w.heap.size _ (.slice A27 y214.length c27) y214 from Kd.V_mk (by rw [hy27, hc27]; exact Nat.sub_le_sub_right hroom27 _) hr27); have HC218 := Aside0.mk (show y214.length ≤ c27 from by rw [hy27, hc27]; exact Nat.sub_le_sub_right hroom27 _); clear hr27 hC27 hroom27 hi027 hsz27 hc27; have KY27 := Aside0.mk hy27; have KA27 := Aside0.mk hA27; clear hy27 hA27; replace q27 := eq_true q27))
             go_meet
             case rel => exact ⟨_, (y214), (a0), (x205001_6), (t212), H', ⟨by have := HJ2.out; have := HJ6.out; have := HJ13.out; first | omega | exact Nat.le_refl _⟩, ⟨by (with_reducible repeat (first | apply Kd.V_alloc | apply Kd.V_drewN | apply Kd.V_drew)); exact HO218.out⟩, ⟨rbA BK204.out⟩, ⟨hbA HB.out⟩⟩
           rw [if_neg c22] at H
           exact absurd H (by simp)
         replace c21 := Bool.eq_false_iff.mpr c21
         subst c21
         have H1 : (some (0, (⟨#[]⟩ : ByteArray), 0, ([] : List (S61)), false)) = some (r1, r2, r3, r4, r5) := by rw [if_neg (show ¬ (false = true) by decide)] at H; exact H
         clear H
         have H := H1
         clear H1
         simp only [Option.some.injEq, Prod.mk.injEq] at H
         obtain ⟨rfl, rfl, rfl, rfl, rfl⟩ := H
         obtain ⟨Ao28, co28, eo28⟩ := Kd.V_slice HO_1.out
         subst eo28
         have p211 : 0 ≤ (0 : Int) := (by omega)
         have q211 : 0 < (x1_6.length : Int) := of_decide_eq_true asA
         obtain ⟨ad211, e211, hx211_0⟩ := Kd.at_string (Kd.V_reads' HO_1.out).2.2 0 p211 q211
         cases e211
         have qi211 : (0 < x1_6.length) = True := eq_true (by omega)
         (try rw [show ((0 : Int)).toNat = 0 from rfl] at hx211_0)
         (try rw [Addr.add_zero'] at hx211_0)
         replace p211 := eq_true p211
         replace q211 := eq_true q211
         go_wp2_with (first | ((with_reducible refine gate_callee (f := 73) rfl ?_); refine goesL_ (some 38) rfl rfl Tryz.func73 (by kernel_rfl) rfl #[.string (rdOf ByteArray.empty x1_6 0)] rfl argA ?_; (with_reducible refine (meta_size.calls (rdOf ByteArray.empty x1_6 0) t212 false _ ?side1 A20.out).mono ?_); (case side1 => exact Vars.below HV.out (hbA HB.out)); rintro e w29 ⟨rfl, hb⟩; refine ⟨_, rfl, ?_⟩; have n0_ := Aside0.mk (Kd.V_below (by (with_reducible repeat (first | apply Kd.V_alloc | apply Kd.V_drewN | apply Kd.V_drew)); exact HO_1.out) hb); have n1_ := Aside0.mk (blk_below (g := gb204) (o := .cells #[.int .i64 a0, .string x205001_6, .int .i64 0, .slice none 0 0] 31 (0, 0)) (rbA BK204.out) hb); have n2_ := Aside0.mk (below_step (hbA HB.out) hb); clear HO_1; clear BK204; clear HB; have HO_1 := n0_; have BK204 := n1_; have HB := n2_; clear n0_ n1_ n2_; (try clear hb); (try clear hb2); (try clear hk); (try clear hi); obtain ⟨hcz30_0, hcz30_1, hcz30_2, hcz30_3, hfz30_0, hfz30_1, hfz30_2, hfz30_3⟩ := blkA4 BK204.out))
         refine bodyPost_ret (results_ct rfl _ _ gb204 31 #[.int .i64 0, .string (⟨#[]⟩ : ByteArray), .int .i64 0, .slice none 0 0] (0, 0) _ rfl (by (with_reducible repeat (first | refine blk_drewN ?_ _ | refine blk_drew ?_ | refine blk_alloc ?_ _)); refine blk_put (cs := #[.int .i64 0, .string (⟨#[]⟩ : ByteArray), .int .i64 0, .slice none 0 0]) ?_ 3 _ rfl; (with_reducible repeat (first | refine blk_drewN ?_ _ | refine blk_drew ?_ | refine blk_alloc ?_ _)); refine blk_put (cs := #[.int .i64 0, .string (⟨#[]⟩ : ByteArray), .int .i64 t212, .slice none 0 0]) ?_ 2 _ rfl; (with_reducible repeat (first | refine blk_drewN ?_ _ | refine blk_drew ?_ | refine blk_alloc ?_ _)); refine blk_put (cs := #[.int .i64 0, .string x205001_6, .int .i64 t212, .slice none 0 0]) ?_ 1 _ rfl; (with_reducible repeat (first | refine blk_drewN ?_ _ | refine blk_drew ?_ | refine blk_alloc ?_ _)); refine blk_put (cs := #[.int .i64 a0, .string x205001_6, .int .i64 t212, .slice none 0 0]) ?_ 0 _ rfl; (with_reducible repeat (first | refine blk_drewN ?_ _ | refine blk_drew ?_ | refine blk_alloc ?_ _)); refine blk_put (cs := #[.int .i64 a0, .string x205001_6, .int .i64 0, .slice none 0 0]) ?_ 2 _ rfl; exact rbA BK204.out) Tryz.underlying31 rfl (by kernel_rfl)) rfl ?_
         exact ⟨_, reA, knA, hbA HB.out⟩
       rw [if_neg c19] at H
       exact absurd H (by simp)
     replace c18 := Bool.eq_false_iff.mpr c18
     subst c18
     have H1 : (meta_words.j3 kj13 a0 x1_6 a0 x205001_6 0) = some (r1, r2, r3, r4, r5) := by rw [if_neg (show ¬ (false = true) by decide)] at H; exact H
     clear H
     have H := H1
     clear H1
     have H' := Aside0.mk H
     clear H
     go_wp2
     go_meet
     case rel => exact ⟨_, (x1_6), (a0), (x205001_6), (0), H', ⟨by have := HJ2.out; have := HJ6.out; have := HJ13.out; first | omega | exact Nat.le_refl _⟩, ⟨by (with_reducible repeat (first | apply Kd.V_alloc | apply Kd.V_drewN | apply Kd.V_drew)); exact HO_1.out⟩, ⟨rbA BK204.out⟩, ⟨hbA HB.out⟩⟩
    clear HC17
    (try clear c1); (try clear q1); (try clear c2); (try clear p2); (try clear q2); (try clear hx2); (try clear qi2); (try clear c5); (try clear c6); (try clear c6b0); (try clear c6b1); (try clear c7); (try clear c8); (try clear c9); (try clear c9b0); (try clear c9b1); (try clear c10); (try clear c10b0); (try clear c10b1); (try clear c12); (try clear q12); (try clear c15); (try clear c15b0); (try clear c15b1); (try clear c18); (try clear c19); (try clear c19b0); (try clear c19b1); (try clear p20); (try clear q20); (try clear hx20); (try clear qi20); (try clear c21); (try clear p21); (try clear q21); (try clear hx21); (try clear qi21); (try clear c22); (try clear c22b0); (try clear c22b1); (try clear c27); (try clear q27); (try clear hcz25_0); (try clear hcz25_1); (try clear hcz25_2); (try clear hcz25_3); (try clear hcz30_0); (try clear hcz30_1); (try clear hcz30_2); (try clear hcz30_3); (try clear hcz5_0); (try clear hcz5_1); (try clear hcz5_2); (try clear hcz5_3); (try clear hfz25_0); (try clear hfz25_1); (try clear hfz25_2); (try clear hfz25_3); (try clear hfz30_0); (try clear hfz30_1); (try clear hfz30_2); (try clear hfz30_3); (try clear hfz5_0); (try clear hfz5_1); (try clear hfz5_2); (try clear hfz5_3); (try clear hx205_0); (try clear hx211_0); (try clear p2); (try clear p205); (try clear p211); (try clear q1); (try clear q12); (try clear q2); (try clear q205); (try clear q211); (try clear q27)
    obtain ⟨kq, x1_16, x205000_16, x205001_16, x205002_16, HA, HJ16, HO_1, BK204, HB⟩ := hcut
    cases kq with
    | zero => exact absurd HA.out (by simp [meta_words.j3])
    | succ kj16 =>
     have H := HA.out
     clear HA
     simp only [meta_words.j3] at H
     have H' := Aside0.mk H
     clear H
     obtain ⟨Ao31, co31, eo31⟩ := Kd.V_slice HO_1.out
     subst eo31
     go_wp2
     go_loopg [49] kj16 (fun kq v49 w' => ∃ (x49_5 : Int) (x205000_5 : Int) (x205001_5 : ByteArray) (x205002_5 : Int) (x205003_5 : List (S61)) (u205003 : Value), v49 = .int .i64 x49_5 ∧ Aside0 (meta_words.l0 kq a0 x1_16 (x1_16.length : Int) x49_5 x205000_5 x205001_5 x205002_5 x205003_5 = some (r1, r2, r3, r4, r5)) ∧ Aside0 (kq ≤ kj16) ∧ Aside0 (Kd.V Kd.string 9 w' w.heap.size (fun k_ => (P1_ k_ ∨ w.heap.size ≤ k_) ∧ some k_ ≠ (u205003 : Value).ownBlock ∧ k_ ≠ gb204) (.slice Ao31 x1_16.length co31) x1_16) ∧ Aside0 (Kd.R k61 61 w' w.heap.size (fun k_ => (w.heap.size ≤ k_)) u205003 x205003_5) ∧ Aside0 (w'.heap[gb204]? = some (.cells #[.int .i64 x205000_5, .string x205001_5, .int .i64 x205002_5, u205003] 31 (0, 0))) ∧ Aside0 (Below w.heap.size w w'))
     case atStart => exact ⟨(0), (x205000_16), (x205001_16), (x205002_16), (([] : List (S61))), (.slice none 0 0), rsA, H', ⟨Nat.le_refl _⟩, ⟨by (with_reducible repeat (first | apply Kd.V_alloc | apply Kd.V_drewN | apply Kd.V_drew)); exact Kd.V_mono HO_1.out (fun _ hk => ⟨hk.1, ⟨(by simp [Value.ownBlock]), hk.2⟩⟩)⟩, ⟨knA⟩, ⟨rbA BK204.out⟩, ⟨hbA HB.out⟩⟩
     case round =>
      clear H'
      (try clear c1); (try clear q1); (try clear c2); (try clear p2); (try clear q2); (try clear hx2); (try clear qi2); (try clear c5); (try clear c6); (try clear c6b0); (try clear c6b1); (try clear c7); (try clear c8); (try clear c9); (try clear c9b0); (try clear c9b1); (try clear c10); (try clear c10b0); (try clear c10b1); (try clear c12); (try clear q12); (try clear c15); (try clear c15b0); (try clear c15b1); (try clear c18); (try clear c19); (try clear c19b0); (try clear c19b1); (try clear p20); (try clear q20); (try clear hx20); (try clear qi20); (try clear c21); (try clear p21); (try clear q21); (try clear hx21); (try clear qi21); (try clear c22); (try clear c22b0); (try clear c22b1); (try clear c27); (try clear q27); (try clear hcz25_0); (try clear hcz25_1); (try clear hcz25_2); (try clear hcz25_3); (try clear hcz30_0); (try clear hcz30_1); (try clear hcz30_2); (try clear hcz30_3); (try clear hcz5_0); (try clear hcz5_1); (try clear hcz5_2); (try clear hcz5_3); (try clear hfz25_0); (try clear hfz25_1); (try clear hfz25_2); (try clear hfz25_3); (try clear hfz30_0); (try clear hfz30_1); (try clear hfz30_2); (try clear hfz30_3); (try clear hfz5_0); (try clear hfz5_1); (try clear hfz5_2); (try clear hfz5_3); (try clear hx205_0); (try clear hx211_0); (try clear p2); (try clear p20); (try clear p205); (try clear p21); (try clear p211); (try clear q1); (try clear q12); (try clear q2); (try clear q20); (try clear q205); (try clear q21); (try clear q211); (try clear q27)
      obtain ⟨x49_5, x205000_5, x205001_5, x205002_5, x205003_5, u205003, rfl, HA, HK5, HO_47, HO_205003, BK204, HB⟩ := hrel
      cases gk with
      | zero => exact absurd HA.out (by simp [meta_words.l0])
      | succ k5 =>
       have H := HA.out
       clear HA
       simp only [meta_words.l0] at H
       by_cases c32 : x49_5 < (x1_16.length : Int)
       · rw [if_pos c32] at H
         have c32b0 : decide (x49_5 < (x1_16.length : Int)) = true := decide_eq_true c32
         clear c32
         by_cases c33 : 0 ≤ x49_5
         · rw [if_pos c33] at H
           have c33b0 : decide (0 ≤ x49_5) = true := decide_eq_true c33
           clear c33
           by_cases c34 : x49_5 < (x1_16.length : Int)
           · rw [if_pos c34] at H
             have c34b0 : decide (x49_5 < (x1_16.length : Int)) = true := decide_eq_true c34
             clear c34
             by_cases c35 : (rdOf ByteArray.empty x1_16 x49_5).toList = ([] : List UInt8)
             · rw [if_pos c35] at H
               have c35b0 : ((rdOf ByteArray.empty x1_16 x49_5).toList == ([] : List UInt8)) = true := beq_iff_eq.mpr c35
               have c35e0 : (rdOf ByteArray.empty x1_16 x49_5).toList.isEmpty = true := by simpa using c35b0
               have c35b1 : ((rdOf ByteArray.empty x1_16 x49_5).toList != ([] : List UInt8)) = false := bne_eq_false_iff_eq.mpr c35
               clear c35
               simp only [Option.some.injEq, Prod.mk.injEq] at H
               obtain ⟨rfl, rfl, rfl, rfl, rfl⟩ := H
               have p219 : 0 ≤ (x49_5 : Int) := of_decide_eq_true asA
               have q219 : x49_5 < (x1_16.length : Int) := of_decide_eq_true asA
               obtain ⟨ad219, e219, hx219_0⟩ := Kd.at_string (Kd.V_reads' HO_47.out).2.2 x49_5 p219 q219
               cases e219
               replace p219 := eq_true p219
               replace q219 := eq_true q219
               obtain ⟨hcz36_0, hcz36_1, hcz36_2, hcz36_3, hfz36_0, hfz36_1, hfz36_2, hfz36_3⟩ := blkA4 BK204.out
               go_wp2
               refine bodyPost_ret (results_ct rfl _ _ gb204 31 #[.int .i64 0, .string (⟨#[]⟩ : ByteArray), .int .i64 0, .slice none 0 0] (0, 0) _ rfl (by (with_reducible repeat (first | refine blk_drewN ?_ _ | refine blk_drew ?_ | refine blk_alloc ?_ _)); refine blk_put (cs := #[.int .i64 0, .string (⟨#[]⟩ : ByteArray), .int .i64 0, u205003]) ?_ 3 _ rfl; (with_reducible repeat (first | refine blk_drewN ?_ _ | refine blk_drew ?_ | refine blk_alloc ?_ _)); refine blk_put (cs := #[.int .i64 0, .string (⟨#[]⟩ : ByteArray), .int .i64 x205002_5, u205003]) ?_ 2 _ rfl; (with_reducible repeat (first | refine blk_drewN ?_ _ | refine blk_drew ?_ | refine blk_alloc ?_ _)); refine blk_put (cs := #[.int .i64 0, .string x205001_5, .int .i64 x205002_5, u205003]) ?_ 1 _ rfl; (with_reducible repeat (first | refine blk_drewN ?_ _ | refine blk_drew ?_ | refine blk_alloc ?_ _)); refine blk_put (cs := #[.int .i64 x205000_5, .string x205001_5, .int .i64 x205002_5, u205003]) ?_ 0 _ rfl; exact rbA BK204.out) Tryz.underlying31 rfl (by kernel_rfl)) rfl ?_
               exact ⟨_, reA, knA, hbA HB.out⟩
             rw [if_neg c35] at H
             have c35b0 : ((rdOf ByteArray.empty x1_16 x49_5).toList == ([] : List UInt8)) = false := beq_eq_false_iff_ne.mpr c35
             have c35e0 : (rdOf ByteArray.empty x1_16 x49_5).toList.isEmpty = false := by simpa using c35b0
             have c35b1 : ((rdOf ByteArray.empty x1_16 x49_5).toList != ([] : List UInt8)) = true := bne_iff_ne.mpr c35
             by_cases c37 : 0 < ((rdOf ByteArray.empty x1_16 x49_5).size : Int)
             · rw [if_pos c37] at H
               have c37b0 : decide (0 < ((rdOf ByteArray.empty x1_16 x49_5).size : Int)) = true := decide_eq_true c37
               have c37b1 : decide (0 < (rdOf ByteArray.empty x1_16 x49_5).size) = true := decide_eq_true (by omega)
               clear c37
               by_cases c39 : 1 ≤ ((rdOf ByteArray.empty x1_16 x49_5).size : Int)
               · rw [if_pos c39] at H
                 have c39b0 := eq_true c39
                 have c39b1 : decide (1 ≤ ((rdOf ByteArray.empty x1_16 x49_5).size : Int)) = true := decide_eq_true c39
                 clear c39
                 by_cases c40 : x205003_5.length < 5864062014805
                 · rw [if_pos c40] at H
                   have LMc40 := Aside0.mk c40
                   clear c40
                   obtain ⟨y220, hy220⟩ : ∃ y_ : List (S61), y_ = (x205003_5 ++ [(⟨bt (rdOf ByteArray.empty x1_16 x49_5) 0, sub (rdOf ByteArray.empty x1_16 x49_5) 1 (rdOf ByteArray.empty x1_16 x49_5).size⟩ : S61)]) := ⟨_, rfl⟩
                   replace H : (meta_words.l0 k5 a0 x1_16 (x1_16.length : Int) (wrap64 (x49_5 + 1)) x205000_5 x205001_5 x205002_5 y220) = some (r1, r2, r3, r4, r5) := by first | (rw [hy220]; with_reducible exact H) | (have H2_ := (Option.bind_some _ _).symm.trans H; rw [hy220]; with_reducible exact H2_) | (have H2_ := (Option.bind_some _ _).symm.trans H; with_reducible exact H2_) | with_reducible exact H | (rw [hy220]; exact H) | exact H
                   have Ny220 := Aside0.mk hy220
                   clear hy220
                   have H' := Aside0.mk H
                   clear H
                   have p219 : 0 ≤ (x49_5 : Int) := of_decide_eq_true asA
                   have q219 : x49_5 < (x1_16.length : Int) := of_decide_eq_true asA
                   obtain ⟨ad219, e219, hx219_0⟩ := Kd.at_string (Kd.V_reads' HO_47.out).2.2 x49_5 p219 q219
                   cases e219
                   replace p219 := eq_true p219
                   replace q219 := eq_true q219
                   try go_wp2
                   replace HO_47 := Aside0.mk (Kd.V_drew HO_47.out)
                   replace HO_205003 := Aside0.mk (Kd.R_drew HO_205003.out)
                   replace BK204 := Aside0.mk (blk_drew BK204.out)
                   replace HB := Aside0.mk (below_drew1 HB.out)
                   have p38 : 0 ≤ (0 : Int) := (by omega)
                   have q38 : 0 < (rdOf ByteArray.empty x1_16 x49_5).size := (by have : (0 : Int) < ((rdOf ByteArray.empty x1_16 x49_5).size : Int) := of_decide_eq_true asA; omega)
                   have hx38 : ∀ h : 0 < (rdOf ByteArray.empty x1_16 x49_5).size, (((rdOf ByteArray.empty x1_16 x49_5)[0]'h).toNat : Int) = bt (rdOf ByteArray.empty x1_16 x49_5) 0 := bt_at (rdOf ByteArray.empty x1_16 x49_5) 0
                   clear p38
                   have qi38 : (0 < ((rdOf ByteArray.empty x1_16 x49_5).size : Int)) = True := eq_true (of_decide_eq_true asA)
                   replace q38 := eq_true q38
                   refine start_ (n := 11) (S := fun w' => w'.cell? ⟨gb204, 0, none⟩ = some (.int .i64 x205000_5) ∧ w'.cell? ⟨gb204, 1, none⟩ = some (.string x205001_5) ∧ w'.cell? ⟨gb204, 2, none⟩ = some (.int .i64 x205002_5) ∧ w'.cell? ⟨gb204, 3, none⟩ = some (u205003)) (ds := [10]) #[false, false, false, false, false, false, false, false, false, false, false] (by kernel_rfl) rfl rfl ⟨(blk_cell BK204.out 0).trans rfl, (blk_cell BK204.out 1).trans rfl, (blk_cell BK204.out 2).trans rfl, (blk_cell BK204.out 3).trans rfl⟩ (fun hHeld => ?_); refine with_tabW meta_words.tab14 meta_words.bits14 (fun HT_ HW_ => ?_)
                   generalize wr.drew = w41 at HO_47 HO_205003 BK204 HB hHeld ⊢
                   refine pureA_ (i := 0) (N := some 56) #[true, false, false, false, false, false, false, false, false, false, false] rfl rfl ?_ (hc := any_of HT_.out (by kernel_rfl))
                   refine pureA_ (i := 2) (N := some 58) #[true, false, true, false, false, false, false, false, false, false, false] rfl rfl ?_ (hc := any_of HT_.out (by kernel_rfl))
                   refine pureA_ (i := 4) (N := some 60) #[true, false, true, false, true, false, false, false, false, false, false] rfl rfl ?_ (hc := any_of HT_.out (by kernel_rfl))
                   refine pureA_ (i := 5) (N := some 61) #[true, false, true, false, true, true, false, false, false, false, false] rfl rfl ?_ (hc := any_of HT_.out (by kernel_rfl))
                   refine takeA_ (i := 1) (N := some 57) #[true, true, true, false, true, true, false, false, false, false, false] rfl rfl hHeld ?_ (hc := take_ofW HT_.out HW_.out (by kernel_rfl)) (hy := by rintro w' ⟨s0, s1, s2, s3⟩; go_simp; with_reducible rfl)
                   refine takeA_ (i := 3) (N := some 59) #[true, true, true, true, true, true, false, false, false, false, false] rfl rfl hHeld ?_ (hc := take_ofW HT_.out HW_.out (by kernel_rfl)) (hy := by rintro w' ⟨s0, s1, s2, s3⟩; go_simp; with_reducible rfl)
                   refine pureA_ (i := 6) (N := some 62) #[true, true, true, true, true, true, true, false, false, false, false] rfl rfl ?_ (hc := any_of HT_.out (by kernel_rfl))
                   refine one_ (i := 7) (N := some 63) #[true, true, true, true, true, true, true, true, false, false, false] rfl rfl (one_of HT_.out (by kernel_rfl)) (by decide) (fun K hK => ?_)
                   refine value_ (w1 := ?_) (v := ?_) (by rfl) rfl ?_ ?_
                   rotate_left 2
                   · go_simp
                     constructor
                     · rfl
                     rfl
                   refine hK.out _ _ ⟨(blk_cell (blk_alloc BK204.out _) 0).trans rfl, (blk_cell (blk_alloc BK204.out _) 1).trans rfl, (blk_cell (blk_alloc BK204.out _) 2).trans rfl, (blk_cell (blk_alloc BK204.out _) 3).trans rfl⟩ (fun hHeld => ?_)
                   clear hK K
                   refine normA_ ?_
                   refine one_ (i := 8) (N := some 64) #[true, true, true, true, true, true, true, true, true, false, false] rfl rfl (one_of HT_.out (by kernel_rfl)) (by decide) (fun K hK => ?_)
                   refine Kd.R_append_step k61 (w0 := w) w.heap.size (by rfl) (.tmp 57) (.tmp 63) 29 61 (.agg #[(.int .u8 0), (.string ⟨#[]⟩)]) 24 rfl Tryz.underlying29 info61 rfl (by decide) (by omega) u205003 x205003_5 (⟨bt (rdOf ByteArray.empty x1_16 x49_5) 0, sub (rdOf ByteArray.empty x1_16 x49_5) 1 (rdOf ByteArray.empty x1_16 x49_5).size⟩ : S61) [.int .u8 (bt (rdOf ByteArray.empty x1_16 x49_5) 0), .string (sub (rdOf ByteArray.empty x1_16 x49_5) 1 (rdOf ByteArray.empty x1_16 x49_5).size)] (fun k_ => (w.heap.size ≤ k_)) (fun _ => False) rfl rfl ?aP (fun _ hk => hk.elim) ?aF ?aO ?aB ?aS ?aL ?_
                   (case aP => exact k61_mkM _ _ _ (⟨bt (rdOf ByteArray.empty x1_16 x49_5) 0, sub (rdOf ByteArray.empty x1_16 x49_5) 1 (rdOf ByteArray.empty x1_16 x49_5).size⟩ : S61))
                   (case aB => exact (hbA HB.out))
                   (case aF => exact (fun k_ hk => (Nat.le_trans (below_size (hbA HB.out)) hk)))
                   (case aO => exact (rdA HO_205003.out))
                   (case aS => exact (below_size (hbA HB.out)))
                   (case aL => have := LMc40.out; omega)
                   intro v221 w42 ho hb hg hat
                   rw [← Ny220.out] at ho
                   have n0_ := Aside0.mk (Kd.V_afterv (ok := (fun k_ => (P1_ k_ ∨ w.heap.size ≤ k_) ∧ k_ ≠ gb204)) (by (with_reducible repeat (first | apply Kd.V_alloc | apply Kd.V_drewN | apply Kd.V_drew)); exact Kd.V_mono HO_47.out (fun _ hk => ⟨⟨hk.1, hk.2.2⟩, hk.2.1⟩)) hg hat)
                   have n1_ := Aside0.mk (blk_grown (g := gb204) (o := .cells #[.int .i64 x205000_5, .string x205001_5, .int .i64 x205002_5, u205003] 31 (0, 0)) (rbA BK204.out) hg (Kd.R_ne HO_205003.out BK204.out (by decide)))
                   have n2_ := Aside0.mk (hb)
                   have n3_ := Aside0.mk (ho)
                   clear HO_47
                   clear BK204
                   clear HB
                   clear HO_205003
                   have HO_47 := n0_
                   have BK204 := n1_
                   have HB := n2_
                   have HO222 := n3_
                   clear n0_ n1_ n2_ n3_
                   clear ho hb hg hat
                   obtain ⟨Ao43, co43, eo43⟩ := Kd.R_slice HO222.out
                   (first | subst eo43 | (injection eo43 with f1_ f2_ f3_; have f4_ := f1_.symm; have f5_ := f3_.symm; clear f1_ f2_ f3_; subst f4_; subst f5_))
                   refine hK.out _ _ ⟨(blk_cell BK204.out 0).trans rfl, (blk_cell BK204.out 1).trans rfl, (blk_cell BK204.out 2).trans rfl, (blk_cell BK204.out 3).trans rfl⟩ (fun hHeld => ?_)
                   clear hK K
                   refine normA_ ?_
                   refine pureA_ (i := 9) (N := some 65) #[true, true, true, true, true, true, true, true, true, true, false] rfl rfl ?_ (hc := any_of HT_.out (by kernel_rfl))
                   refine last_ (i := 10) (N := none) #[true, true, true, true, true, true, true, true, true, true, true] rfl rfl (one_of HT_.out (by kernel_rfl)) (by decide) (fun K hK => ?_)
                   have hs44 : w42.cell? ⟨gb204, 3, none⟩ = some (u205003) := (blk_cell BK204.out 3).trans rfl
                   have hfs44 := blk_frozen BK204.out 3
                   refine skip_ (w1 := ?_) (by rfl) rfl ?_ ?_
                   rotate_left
                   · go_simp
                     rfl
                   refine hK.out _ _ ?_
                   clear hK K
                   refine done_ (done_of HT_.out (by kernel_rfl)) ?_
                   try go_wp2
                   go_roundg k5
                   case measure => have := HJ2.out; have := HJ6.out; have := HJ13.out; have := HJ16.out; have := HK5.out; omega
                   case rel => exact ⟨(wrap64 (x49_5 + 1)), (x205000_5), (x205001_5), (x205002_5), (y220), (.slice Ao43 y220.length co43), rsA, H', ⟨by have := HJ2.out; have := HJ6.out; have := HJ13.out; have := HJ16.out; have := HK5.out; omega⟩, ⟨by (with_reducible repeat (first | apply Kd.V_alloc | apply Kd.V_drewN | apply Kd.V_drew)); exact Kd.V_mono (Kd.V_far (p := ⟨gb204, 3, none⟩) (Kd.V_mono HO_47.out (fun k_ hk => (⟨hk, hk.1.2⟩ : _ ∧ k_ ≠ gb204))) (fun _ hk => hk.2) (.slice Ao43 y220.length co43)) (fun _ hk => ⟨hk.1.1.1, ⟨hk.1.2, hk.1.1.2⟩⟩)⟩, ⟨by (with_reducible repeat (first | apply Kd.R_alloc | apply Kd.R_drewN | apply Kd.R_drew)); exact Kd.R_mono (Kd.R_far (p := ⟨gb204, 3, none⟩) (Kd.R_types HO222.out BK204.out (by decide)) (fun _ hk => hk.2) (.slice Ao43 y220.length co43)) (fun _ hk => hk.1)⟩, ⟨by (with_reducible repeat (first | refine blk_drewN ?_ _ | refine blk_drew ?_ | refine blk_alloc ?_ _)); refine blk_put (cs := #[.int .i64 x205000_5, .string x205001_5, .int .i64 x205002_5, u205003]) ?_ 3 _ rfl; (with_reducible repeat (first | refine blk_drewN ?_ _ | refine blk_drew ?_ | refine blk_alloc ?_ _)); exact BK204.out⟩, ⟨hbA HB.out⟩⟩
                 rw [if_neg c40] at H
                 exact absurd H (by simp)
               rw [if_neg c39] at H
               exact absurd H (by simp)
             rw [if_neg c37] at H
             exact absurd H (by simp)
           rw [if_neg c34] at H
           exact absurd H (by simp)
         rw [if_neg c33] at H
         exact absurd H (by simp)
       rw [if_neg c32] at H
       have c32b0 : decide (x49_5 < (x1_16.length : Int)) = false := decide_eq_false c32
       clear c32
       replace H := Option.bind_eq_some_iff.mp H
       obtain ⟨⟨t223, t224⟩, A450, H⟩ := H
       replace H : (if t224 = true then (meta_words.j5 k5 (a0 != 5) x205000_5 x205001_5 x205002_5 x205003_5) else (meta_words.j5 k5 false x205000_5 x205001_5 x205002_5 x205003_5)) = some (r1, r2, r3, r4, r5) := H
       have A45 := Aside0.mk A450
       clear A450
       have HC46 := Aside0.mk H
       clear H
       obtain ⟨hcz47_0, hcz47_1, hcz47_2, hcz47_3, hfz47_0, hfz47_1, hfz47_2, hfz47_3⟩ := blkA4 BK204.out
       obtain ⟨Ao48, co48, eo48⟩ := Kd.R_slice HO_205003.out
       subst eo48
       go_upto_region 17 with (first | ((with_reducible refine gate_callee (f := 15) rfl ?_); refine goesL_ (some 69) rfl rfl Tryz.func15 (by kernel_rfl) rfl #[.agg #[.int .i64 x205000_5, .string x205001_5, .int .i64 x205002_5, .slice Ao48 x205003_5.length co48], .int .u8 98] rfl argA ?_; (with_reducible refine (meta_Find.calls x205000_5 x205001_5 x205002_5 _ _ x205003_5 98 t223 t224 _ ?side1 ?side2 A45.out).mono ?_); (case side1 => repeat (first | exact (Kd.R_reads' HO_205003.out).2.2 | (with_reducible refine Kd.C_alloc ?_ _) | (with_reducible refine Kd.C_drewN ?_ _) | (with_reducible refine Kd.C_drew ?_))); (case side2 => exact (Kd.R_reads' HO_205003.out).2.1); rintro e w49 ⟨rfl, hb⟩; refine ⟨_, rfl, ?_⟩; have n0_ := Aside0.mk (Kd.V_below (by (with_reducible repeat (first | apply Kd.V_alloc | apply Kd.V_drewN | apply Kd.V_drew)); exact HO_47.out) hb); have n1_ := Aside0.mk (Kd.R_below (rdA HO_205003.out) hb); have n2_ := Aside0.mk (blk_below (g := gb204) (o := .cells #[.int .i64 x205000_5, .string x205001_5, .int .i64 x205002_5, .slice Ao48 x205003_5.length co48] 31 (0, 0)) (rbA BK204.out) hb); have n3_ := Aside0.mk (below_step (hbA HB.out) hb); clear HO_47; clear HO_205003; clear BK204; clear HB; have HO_47 := n0_; have HO_205003 := n1_; have BK204 := n2_; have HB := n3_; clear n0_ n1_ n2_ n3_; (try clear hb); (try clear hb2); (try clear hk); (try clear hi)))
       (try simp only [Act.put, List.setIfInBounds_toArray, List.set_cons_zero, List.set_cons_succ])
       go_cut [76] (fun v76 wc => ∃ (kq : Nat) (x76_45 : Bool), v76 = .bool x76_45 ∧ Aside0 (meta_words.j5 kq x76_45 x205000_5 x205001_5 x205002_5 x205003_5 = some (r1, r2, r3, r4, r5)) ∧ Aside0 (kq ≤ k5) ∧ Aside0 (Kd.R k61 61 wc w.heap.size (fun k_ => (w.heap.size ≤ k_)) (.slice Ao48 x205003_5.length co48) x205003_5) ∧ Aside0 (wc.heap[gb204]? = some (.cells #[.int .i64 x205000_5, .string x205001_5, .int .i64 x205002_5, (.slice Ao48 x205003_5.length co48)] 31 (0, 0))) ∧ Aside0 (Below w.heap.size w wc))
       case first =>
        have H := HC46.out
        clear HC46
        by_cases c50 : t224 = true
        · subst c50
          have H1 : (meta_words.j5 k5 (a0 != 5) x205000_5 x205001_5 x205002_5 x205003_5) = some (r1, r2, r3, r4, r5) := by rw [if_pos rfl] at H; exact H
          clear H
          have H := H1
          clear H1
          have H' := Aside0.mk H
          clear H
          go_wp2
          go_meet
          case rel => exact ⟨_, ((a0 != 5)), rsA, H', ⟨by have := HJ2.out; have := HJ6.out; have := HJ13.out; have := HJ16.out; have := HK5.out; first | omega | exact Nat.le_refl _⟩, ⟨rdA HO_205003.out⟩, ⟨rbA BK204.out⟩, ⟨hbA HB.out⟩⟩
        replace c50 := Bool.eq_false_iff.mpr c50
        subst c50
        have H1 : (meta_words.j5 k5 false x205000_5 x205001_5 x205002_5 x205003_5) = some (r1, r2, r3, r4, r5) := by rw [if_neg (show ¬ (false = true) by decide)] at H; exact H
        clear H
        have H := H1
        clear H1
        have H' := Aside0.mk H
        clear H
        go_wp2
        go_meet
        case rel => exact ⟨_, (false), rsA, H', ⟨by have := HJ2.out; have := HJ6.out; have := HJ13.out; have := HJ16.out; have := HK5.out; first | omega | exact Nat.le_refl _⟩, ⟨rdA HO_205003.out⟩, ⟨rbA BK204.out⟩, ⟨hbA HB.out⟩⟩
       clear HC46
       (try clear c1); (try clear q1); (try clear c2); (try clear p2); (try clear q2); (try clear hx2); (try clear qi2); (try clear c3); (try clear p3); (try clear q3); (try clear hx3); (try clear qi3); (try clear c4); (try clear c5); (try clear c6); (try clear c6b0); (try clear c6b1); (try clear p6); (try clear c7); (try clear c8); (try clear c9); (try clear c9b0); (try clear c9b1); (try clear c10); (try clear c10b0); (try clear c10b1); (try clear c12); (try clear q12); (try clear c15); (try clear c15b0); (try clear c15b1); (try clear c18); (try clear c19); (try clear c19b0); (try clear c19b1); (try clear p20); (try clear q20); (try clear hx20); (try clear qi20); (try clear c21); (try clear p21); (try clear q21); (try clear hx21); (try clear qi21); (try clear c22); (try clear c22b0); (try clear c22b1); (try clear c27); (try clear q27); (try clear c32); (try clear c32b0); (try clear c33); (try clear c33b0); (try clear c34); (try clear c34b0); (try clear c35); (try clear c35b0); (try clear c35e0); (try clear c35b1); (try clear c37); (try clear c37b0); (try clear c37b1); (try clear p38); (try clear q38); (try clear hx38); (try clear qi38); (try clear c39); (try clear c39b0); (try clear c39b1); (try clear c40); (try clear c50); (try clear hcz25_0); (try clear hcz25_1); (try clear hcz25_2); (try clear hcz25_3); (try clear hcz30_0); (try clear hcz30_1); (try clear hcz30_2); (try clear hcz30_3); (try clear hcz36_0); (try clear hcz36_1); (try clear hcz36_2); (try clear hcz36_3); (try clear hcz47_0); (try clear hcz47_1); (try clear hcz47_2); (try clear hcz47_3); (try clear hcz5_0); (try clear hcz5_1); (try clear hcz5_2); (try clear hcz5_3); (try clear hfz25_0); (try clear hfz25_1); (try clear hfz25_2); (try clear hfz25_3); (try clear hfz30_0); (try clear hfz30_1); (try clear hfz30_2); (try clear hfz30_3); (try clear hfz36_0); (try clear hfz36_1); (try clear hfz36_2); (try clear hfz36_3); (try clear hfz47_0); (try clear hfz47_1); (try clear hfz47_2); (try clear hfz47_3); (try clear hfz5_0); (try clear hfz5_1); (try clear hfz5_2); (try clear hfz5_3); (try clear hx205_0); (try clear hx211_0); (try clear hx219_0); (try clear p2); (try clear p20); (try clear p205); (try clear p21); (try clear p211); (try clear p219); (try clear p38); (try clear q1); (try clear q12); (try clear q2); (try clear q20); (try clear q205); (try clear q21); (try clear q211); (try clear q219); (try clear q27); (try clear q38)
       obtain ⟨kq, x76_45, rfl, HA, HJ45, HO_205003, BK204, HB⟩ := hcut
       cases kq with
       | zero => exact absurd HA.out (by simp [meta_words.j5])
       | succ kj45 =>
        have H := HA.out
        clear HA
        simp only [meta_words.j5] at H
        by_cases c51 : x76_45 = true
        · subst c51
          have H1 : ((meta_Decode.f x205001_5).bind fun bt225 => (if bt225.2 = 0 then (some (x205000_5, bt225.1, x205002_5, x205003_5, true)) else (some (0, (⟨#[]⟩ : ByteArray), 0, ([] : List (S61)), false)))) = some (r1, r2, r3, r4, r5) := by rw [if_pos rfl] at H; exact H
          clear H
          have H := H1
          clear H1
          replace H := Option.bind_eq_some_iff.mp H
          obtain ⟨⟨t225, t226⟩, A520, H⟩ := H
          replace H : (if t226 = 0 then (some (x205000_5, t225, x205002_5, x205003_5, true)) else (some (0, (⟨#[]⟩ : ByteArray), 0, ([] : List (S61)), false))) = some (r1, r2, r3, r4, r5) := H
          have A52 := Aside0.mk A520
          clear A520
          by_cases c53 : t226 = 0
          · rw [if_pos c53] at H
            have c53b0 : (t226 == 0) = true := beq_iff_eq.mpr c53
            have c53b1 : (t226 != 0) = false := bne_eq_false_iff_eq.mpr c53
            clear c53
            simp only [Option.some.injEq, Prod.mk.injEq] at H
            obtain ⟨rfl, rfl, rfl, rfl, rfl⟩ := H
            obtain ⟨hcz54_0, hcz54_1, hcz54_2, hcz54_3, hfz54_0, hfz54_1, hfz54_2, hfz54_3⟩ := blkA4 BK204.out
            go_wp2_with (first | ((with_reducible refine gate_callee (f := 27) rfl ?_); refine goesL_ (some 80) rfl rfl Tryz.func27 (by kernel_rfl) rfl #[.string x205001_5] rfl argA ?_; (with_reducible refine (meta_Decode.calls x205001_5 t225 t226 _ A52.out).mono ?_); rintro e w55 ⟨rfl, hb⟩; refine ⟨_, rfl, ?_⟩; replace HO_205003 := Aside0.mk (Kd.R_below (rdA HO_205003.out) hb); replace BK204 := Aside0.mk (blk_below (g := gb204) (o := .cells #[.int .i64 x205000_5, .string x205001_5, .int .i64 x205002_5, .slice Ao48 x205003_5.length co48] 31 (0, 0)) (rbA BK204.out) hb); replace HB := Aside0.mk (below_step (hbA HB.out) hb); (try clear hb); (try clear hb2); (try clear hk); (try clear hi); obtain ⟨hcz56_0, hcz56_1, hcz56_2, hcz56_3, hfz56_0, hfz56_1, hfz56_2, hfz56_3⟩ := blkA4 BK204.out))
            refine bodyPost_ret (results_ct rfl _ _ gb204 31 #[.int .i64 x205000_5, .string t225, .int .i64 x205002_5, .slice Ao48 x205003_5.length co48] (0, 0) _ rfl (by (with_reducible repeat (first | refine blk_drewN ?_ _ | refine blk_drew ?_ | refine blk_alloc ?_ _)); refine blk_put (cs := #[.int .i64 x205000_5, .string t225, .int .i64 x205002_5, .slice Ao48 x205003_5.length co48]) ?_ 3 _ rfl; (with_reducible repeat (first | refine blk_drewN ?_ _ | refine blk_drew ?_ | refine blk_alloc ?_ _)); refine blk_put (cs := #[.int .i64 x205000_5, .string t225, .int .i64 x205002_5, .slice Ao48 x205003_5.length co48]) ?_ 2 _ rfl; (with_reducible repeat (first | refine blk_drewN ?_ _ | refine blk_drew ?_ | refine blk_alloc ?_ _)); refine blk_put (cs := #[.int .i64 x205000_5, .string t225, .int .i64 x205002_5, .slice Ao48 x205003_5.length co48]) ?_ 1 _ rfl; (with_reducible repeat (first | refine blk_drewN ?_ _ | refine blk_drew ?_ | refine blk_alloc ?_ _)); refine blk_put (cs := #[.int .i64 x205000_5, .string t225, .int .i64 x205002_5, .slice Ao48 x205003_5.length co48]) ?_ 0 _ rfl; (with_reducible repeat (first | refine blk_drewN ?_ _ | refine blk_drew ?_ | refine blk_alloc ?_ _)); refine blk_put (cs := #[.int .i64 x205000_5, .string x205001_5, .int .i64 x205002_5, .slice Ao48 x205003_5.length co48]) ?_ 1 _ rfl; exact rbA BK204.out) Tryz.underlying31 rfl (by kernel_rfl)) rfl ?_
            exact ⟨_, reA, by (with_reducible repeat (first | apply Kd.R_alloc | apply Kd.R_drewN | apply Kd.R_drew)); exact Kd.R_mono (Kd.R_far (p := ⟨gb204, 3, none⟩) (Kd.R_far (p := ⟨gb204, 2, none⟩) (Kd.R_far (p := ⟨gb204, 1, none⟩) (Kd.R_far (p := ⟨gb204, 0, none⟩) (Kd.R_far (p := ⟨gb204, 1, none⟩) (Kd.R_types HO_205003.out BK204.out (by decide)) (fun _ hk => hk.2) (.string t225)) (fun _ hk => hk.2) (.int .i64 x205000_5)) (fun _ hk => hk.2) (.string t225)) (fun _ hk => hk.2) (.int .i64 x205002_5)) (fun _ hk => hk.2) (.slice Ao48 x205003_5.length co48)) (fun _ hk => hk.1), hbA HB.out⟩
          rw [if_neg c53] at H
          have c53b0 : (t226 == 0) = false := beq_eq_false_iff_ne.mpr c53
          have c53b1 : (t226 != 0) = true := bne_iff_ne.mpr c53
          simp only [Option.some.injEq, Prod.mk.injEq] at H
          obtain ⟨rfl, rfl, rfl, rfl, rfl⟩ := H
          obtain ⟨hcz57_0, hcz57_1, hcz57_2, hcz57_3, hfz57_0, hfz57_1, hfz57_2, hfz57_3⟩ := blkA4 BK204.out
          go_wp2_with (first | ((with_reducible refine gate_callee (f := 27) rfl ?_); refine goesL_ (some 80) rfl rfl Tryz.func27 (by kernel_rfl) rfl #[.string x205001_5] rfl argA ?_; (with_reducible refine (meta_Decode.calls x205001_5 t225 t226 _ A52.out).mono ?_); rintro e w58 ⟨rfl, hb⟩; refine ⟨_, rfl, ?_⟩; replace HO_205003 := Aside0.mk (Kd.R_below (rdA HO_205003.out) hb); replace BK204 := Aside0.mk (blk_below (g := gb204) (o := .cells #[.int .i64 x205000_5, .string x205001_5, .int .i64 x205002_5, .slice Ao48 x205003_5.length co48] 31 (0, 0)) (rbA BK204.out) hb); replace HB := Aside0.mk (below_step (hbA HB.out) hb); (try clear hb); (try clear hb2); (try clear hk); (try clear hi); obtain ⟨hcz59_0, hcz59_1, hcz59_2, hcz59_3, hfz59_0, hfz59_1, hfz59_2, hfz59_3⟩ := blkA4 BK204.out))
          refine bodyPost_ret (results_ct rfl _ _ gb204 31 #[.int .i64 0, .string (⟨#[]⟩ : ByteArray), .int .i64 0, .slice none 0 0] (0, 0) _ rfl (by (with_reducible repeat (first | refine blk_drewN ?_ _ | refine blk_drew ?_ | refine blk_alloc ?_ _)); refine blk_put (cs := #[.int .i64 0, .string (⟨#[]⟩ : ByteArray), .int .i64 0, .slice Ao48 x205003_5.length co48]) ?_ 3 _ rfl; (with_reducible repeat (first | refine blk_drewN ?_ _ | refine blk_drew ?_ | refine blk_alloc ?_ _)); refine blk_put (cs := #[.int .i64 0, .string (⟨#[]⟩ : ByteArray), .int .i64 x205002_5, .slice Ao48 x205003_5.length co48]) ?_ 2 _ rfl; (with_reducible repeat (first | refine blk_drewN ?_ _ | refine blk_drew ?_ | refine blk_alloc ?_ _)); refine blk_put (cs := #[.int .i64 0, .string x205001_5, .int .i64 x205002_5, .slice Ao48 x205003_5.length co48]) ?_ 1 _ rfl; (with_reducible repeat (first | refine blk_drewN ?_ _ | refine blk_drew ?_ | refine blk_alloc ?_ _)); refine blk_put (cs := #[.int .i64 x205000_5, .string x205001_5, .int .i64 x205002_5, .slice Ao48 x205003_5.length co48]) ?_ 0 _ rfl; exact rbA BK204.out) Tryz.underlying31 rfl (by kernel_rfl)) rfl ?_
          exact ⟨_, reA, knA, hbA HB.out⟩
        replace c51 := Bool.eq_false_iff.mpr c51
        subst c51
        have H1 : (some (x205000_5, x205001_5, x205002_5, x205003_5, true)) = some (r1, r2, r3, r4, r5) := by rw [if_neg (show ¬ (false = true) by decide)] at H; exact H
        clear H
        have H := H1
        clear H1
        simp only [Option.some.injEq, Prod.mk.injEq] at H
        obtain ⟨rfl, rfl, rfl, rfl, rfl⟩ := H
        obtain ⟨hcz60_0, hcz60_1, hcz60_2, hcz60_3, hfz60_0, hfz60_1, hfz60_2, hfz60_3⟩ := blkA4 BK204.out
        go_wp2
        refine bodyPost_ret (results_ct rfl _ _ gb204 31 #[.int .i64 x205000_5, .string x205001_5, .int .i64 x205002_5, .slice Ao48 x205003_5.length co48] (0, 0) _ rfl (by (with_reducible repeat (first | refine blk_drewN ?_ _ | refine blk_drew ?_ | refine blk_alloc ?_ _)); refine blk_put (cs := #[.int .i64 x205000_5, .string x205001_5, .int .i64 x205002_5, .slice Ao48 x205003_5.length co48]) ?_ 3 _ rfl; (with_reducible repeat (first | refine blk_drewN ?_ _ | refine blk_drew ?_ | refine blk_alloc ?_ _)); refine blk_put (cs := #[.int .i64 x205000_5, .string x205001_5, .int .i64 x205002_5, .slice Ao48 x205003_5.length co48]) ?_ 2 _ rfl; (with_reducible repeat (first | refine blk_drewN ?_ _ | refine blk_drew ?_ | refine blk_alloc ?_ _)); refine blk_put (cs := #[.int .i64 x205000_5, .string x205001_5, .int .i64 x205002_5, .slice Ao48 x205003_5.length co48]) ?_ 1 _ rfl; (with_reducible repeat (first | refine blk_drewN ?_ _ | refine blk_drew ?_ | refine blk_alloc ?_ _)); refine blk_put (cs := #[.int .i64 x205000_5, .string x205001_5, .int .i64 x205002_5, .slice Ao48 x205003_5.length co48]) ?_ 0 _ rfl; exact rbA BK204.out) Tryz.underlying31 rfl (by kernel_rfl)) rfl ?_
        exact ⟨_, reA, by (with_reducible repeat (first | apply Kd.R_alloc | apply Kd.R_drewN | apply Kd.R_drew)); exact Kd.R_mono (Kd.R_far (p := ⟨gb204, 3, none⟩) (Kd.R_far (p := ⟨gb204, 2, none⟩) (Kd.R_far (p := ⟨gb204, 1, none⟩) (Kd.R_far (p := ⟨gb204, 0, none⟩) (Kd.R_types HO_205003.out BK204.out (by decide)) (fun _ hk => hk.2) (.int .i64 x205000_5)) (fun _ hk => hk.2) (.string x205001_5)) (fun _ hk => hk.2) (.int .i64 x205002_5)) (fun _ hk => hk.2) (.slice Ao48 x205003_5.length co48)) (fun _ hk => hk.1), hbA HB.out⟩

end
end Go.Proofs.YtfboejlemnfndaaGreatDoor.XMo
end
section
namespace Go.Proofs.YtfboejlemnfndaaGreatDoor.XMo
open Go.RowKit Go.Proofs.YtfboejlemnfndaaGreatDoorW.PrintWords Go.Proofs.YtfboejlemnfndaaGreatDoorW.PrintLast Go.Proofs.YtfboejlemnfndaaGreatDoorW.PrintMore
attribute [local go_sem] extract_sub max2_int min2_int max_two min_two max_three min_three max_four min_four   -- for this text's walks alone
set_option linter.unusedVariables false
set_option linter.unusedSimpArgs false

noncomputable section
def meta_Parse.f (k : Nat) (a0 : ByteArray) : Option (Int × ByteArray × Int × List S61 × Int) :=
 if a0.size > 160 then some (0, ⟨#[]⟩, 0, [], 7) else (strings_Split.f a0 ⟨#[32]⟩).bind fun ws => match ws with
  | [] => none
  | w0 :: rest => (meta_named.f k w0).bind fun n => if n = 0 then some (0, ⟨#[]⟩, 0, [], 70) else (meta_words.f k n rest).bind fun m => if m.2.2.2.2 = true then (meta_Write.f k m.1 m.2.1 m.2.2.1 m.2.2.2.1).bind fun t => if t.2 = 0 ∧ t.1 = a0 then some (m.1, m.2.1, m.2.2.1, m.2.2.2.1, 0) else some (0, ⟨#[]⟩, 0, [], 6) else some (0, ⟨#[]⟩, 0, [], 6)
theorem meta_Parse.mono : ∀ a0 k, LeO (meta_Parse.f k a0) (meta_Parse.f (k + 1) a0) := by
 intro a0 k
 unfold meta_Parse.f
 refine LeO.ite (LeO.refl _) (LeO.bind (LeO.refl _) (fun ws => ?_))
 cases ws with
 | nil => exact LeO.none _
 | cons w0 rest => exact LeO.bind (meta_named.mono _ _) (fun n => LeO.ite (LeO.refl _) (LeO.bind (meta_words.mono _ _ _) (fun m => LeO.ite (LeO.bind (meta_Write.mono _ _ _ _ _) (fun t => LeO.refl _)) (LeO.refl _))))
def meta_Parse.z : Array Value := #[.int .i64 0, .string ⟨#[]⟩, .int .i64 0, .slice none 0 0]
theorem meta_Parse.zeros {W : World} {g : Nat} {t : TypeId} (h : W.heap[g]? = some (.cells meta_Parse.z t (0, 0))) :
 ((((W.setCell ⟨g, 0, none⟩ (.int .i64 0)).setCell ⟨g, 1, none⟩ (.string ⟨#[]⟩)).setCell ⟨g, 2, none⟩ (.int .i64 0)).setCell ⟨g, 3, none⟩ (.slice none 0 0)).heap[g]? = some (.cells meta_Parse.z t (0, 0)) :=
 blk_put (blk_put (blk_put (blk_put h 0 _ rfl) 1 _ rfl) 2 _ rfl) 3 _ rfl
theorem meta_Parse.zeros_below {B : Nat} {w W : World} (h : Below B w W) (g : Nat) (hg : B ≤ g) (u0 u1 u2 u3 : Value) : Below B w ((((W.setCell ⟨g, 0, none⟩ u0).setCell ⟨g, 1, none⟩ u1).setCell ⟨g, 2, none⟩ u2).setCell ⟨g, 3, none⟩ u3) :=
 (((h.setCell hg _).setCell hg _).setCell hg _).setCell hg _
theorem meta_Parse.ne_toList {a b : ByteArray} (h : a ≠ b) : (a.toList == b.toList) = false ∧ (a.toList != b.toList) = true ∧ a.toList ≠ b.toList := by
 have : a.toList ≠ b.toList := fun e => h (by
  rw [ByteArray.toList_eq, ByteArray.toList_eq] at e
  cases a; cases b
  exact congrArg ByteArray.mk (Array.toList_inj.1 e))
 exact ⟨beq_eq_false_iff_ne.2 this, bne_iff_ne.2 this, this⟩
set_option maxHeartbeats 8000000 in
set_option maxRecDepth 100000 in
theorem meta_Parse.calls (k : Nat) (a0 : ByteArray) (r1 : Int) (r2 : ByteArray) (r3 : Int) (r4 : List S61) (r5 : Int) (w : World) (hv : Vars w) (h : meta_Parse.f k a0 = some (r1, r2, r3, r4, r5)) :
 Calls Tryz.prog 23 #[.string a0] w fun e w' => ∃ v3_ : Value, e = .returned (.tuple #[.agg #[.int .i64 r1, .string r2, .int .i64 r3, v3_], .int .i64 r5]) ∧ Kd.R k61 61 w' w.heap.size (fun _ => True) v3_ r4 ∧ Below w.heap.size w w' := by
 have HV := Aside0.mk hv
 clear hv
 have hb0 : Below w.heap.size w (w.alloc (.cells meta_Parse.z 31)) := (Below.refl _ w).alloc (Nat.le_refl _) _
 have HB0 := Aside0.mk hb0
 clear hb0
 unfold meta_Parse.f at h
 by_cases c0 : a0.size > 160
 · have e := h
   rw [if_pos c0] at e
   simp only [Option.some.injEq, Prod.mk.injEq] at e
   obtain ⟨rfl, rfl, rfl, rfl, rfl⟩ := e
   have c0i : (160 : Int) < (a0.size : Int) := by omega
   clear h
   go_enter Tryz.func23, Tryz.ntmps23
   go_wp2
   exact bodyPost_ret (results_ct rfl _ _ w.heap.size 31 meta_Parse.z (0, 0) _ rfl (Go.heap_alloc_new w _) Tryz.underlying31 rfl (by kernel_rfl)) rfl ⟨_, rfl, Kd.R_nil _ _ _ _ _, HB0.out⟩
 have e := h
 rw [if_neg c0] at e
 have c0i : (a0.size : Int) ≤ 160 := by omega
 obtain ⟨ws, hws, e⟩ := Option.bind_eq_some_iff.1 e
 have HWS := Lib.hid hws
 cases ws with
 | nil => cases e
 | cons w0 rest =>
  obtain ⟨n, hn, e⟩ := Option.bind_eq_some_iff.1 e
  have HN := Lib.hid hn
  have HE := Lib.hid e
  clear h hws hn e
  go_enter Tryz.func23, Tryz.ntmps23
  go_wp2_with fail
  refine (strings_Split.calls a0 ⟨#[32]⟩ (w0 :: rest) _ (HV.out.below HB0.out) HWS.out).mono ?_
  rintro e w1 ⟨v0, rfl, hO, hb1⟩
  obtain ⟨A, c, rfl, hcl, hC⟩ := Kd.R_reads hO
  have hF := Kd.R_F hO
  obtain ⟨ad, cs, rfl, hcs, hK, hcell⟩ := Kd.C_get hC (⟨#[]⟩ : ByteArray) 0 (by omega) (by simp)
  have hK' : cs = [.string w0] := hK
  subst hK'
  have x0 : w1.cell? ad = some (.string w0) := by
   have := hcell 0 _ rfl
   rw [show ad.add ((0 : Int).toNat * Kd.string.sz + 0) = ad from by show ad.add 0 = ad; unfold Addr.add; rw [if_pos rfl]] at this
   exact this
  have hx1 : w1.heap[w.heap.size]? = some (.cells meta_Parse.z 31 (0, 0)) := (hb1.block w.heap.size (by simp)).trans (Go.heap_alloc_new w _)
  have hb01 : Below w.heap.size w w1 := HB0.out.trans (hb1.mono (by simp))
  have hs1 : w.heap.size < w1.heap.size := by have := hb1.size; simp at this; omega
  have HF := Aside0.mk hF
  have HX1 := Lib.hid hx1
  have HB1 := Aside0.mk hb01
  have HCL := Aside0.mk hcl
  clear hO hb1 hC hF hcell hK hcs hx1 hb01 hcl
  go_wp2_with fail
  refine (meta_named.calls k w0 n _ HN.out).mono ?_
  rintro e w2 ⟨rfl, hb2⟩
  have hx2 : w2.heap[w.heap.size]? = _ := (hb2.block _ hs1).trans HX1.out
  have hb02 := HB1.out.trans (hb2.mono HB1.out.size)
  have hF2 := Kd.F_below HF.out hb2
  have hs2 : w.heap.size < w2.heap.size := by have := hb2.size; omega
  have HX2 := Lib.hid hx2
  have HB2 := Aside0.mk hb02
  have HF2 := Aside0.mk hF2
  clear hx2 hb02 hF2 hb2 x0 HX1 HB1 HF hs1
  by_cases hn0 : n = 0
  · have e := HE.out
    rw [if_pos hn0] at e
    simp only [Option.some.injEq, Prod.mk.injEq] at e
    obtain ⟨rfl, rfl, rfl, rfl, rfl⟩ := e
    have c1 : (n == 0) = true := beq_iff_eq.2 hn0
    clear hn0
    have hcz0 : w2.cell? ⟨w.heap.size, 0, none⟩ = some (.int .i64 0) := (blk_cell HX2.out 0).trans rfl
    have hfz0 := blk_frozen HX2.out 0
    have hcz1 : w2.cell? ⟨w.heap.size, 1, none⟩ = some (.string ⟨#[]⟩) := (blk_cell HX2.out 1).trans rfl
    have hfz1 := blk_frozen HX2.out 1
    have hcz2 : w2.cell? ⟨w.heap.size, 2, none⟩ = some (.int .i64 0) := (blk_cell HX2.out 2).trans rfl
    have hfz2 := blk_frozen HX2.out 2
    have hcz3 : w2.cell? ⟨w.heap.size, 3, none⟩ = some (.slice none 0 0) := (blk_cell HX2.out 3).trans rfl
    have hfz3 := blk_frozen HX2.out 3
    go_wp2
    exact bodyPost_ret (results_ct rfl _ _ w.heap.size 31 meta_Parse.z (0, 0) _ rfl (meta_Parse.zeros HX2.out) Tryz.underlying31 rfl (by kernel_rfl)) rfl ⟨_, rfl, Kd.R_nil _ _ _ _ _, meta_Parse.zeros_below HB2.out _ (Nat.le_refl _) _ _ _ _⟩
  have e := HE.out
  rw [if_neg hn0] at e
  have c1 : (n == 0) = false := beq_eq_false_iff_ne.2 hn0
  clear hn0 HE
  obtain ⟨⟨m1, m2, m3, m4, m5⟩, hm, e⟩ := Option.bind_eq_some_iff.1 e
  have HM := Lib.hid hm
  have HE := Lib.hid e
  clear hm e
  obtain ⟨i0, hi0, _, hsz0, _⟩ := info_parts info9
  have hcut := cut_from (P := Tryz.prog) 66 9 .i64 Tryz.underlying66 hi0 1 hsz0 (some ad) (rest.length + 1) c 1 (by omega) (by omega)
  have hF1 := Kd.F_cut (m := 1) (c := c) HF2.out (by simp) HCL.out
  generalize hA1 : (if c = (1 : Int).toNat then (some ad) else (some ad).map (·.add ((1 : Int).toNat * 1))) = A1 at hcut
  have hF1' : Kd.F Kd.string w2 (fun _ => True) A1 rest.length rest := by rw [← hA1]; exact hF1
  rw [show rest.length + 1 - (1 : Int).toNat = rest.length from by simp] at hcut
  generalize hc1 : c - (1 : Int).toNat = c1 at hcut
  have hcl1 : rest.length ≤ c1 := by have := HCL.out; simp at this hc1; omega
  have HV1 := Aside0.mk (Kd.V_mk (e := 9) (base := w2.heap.size) hcl1 hF1')
  clear hA1 hc1 hF1 hF1' hi0 hsz0 hcl1 HF2
  go_wp2_with fail
  refine (meta_words.calls k n (fun _ => True) A1 c1 rest m1 m2 m3 m4 m5 _ HV1.out (HV.out.below HB2.out) HM.out).mono ?_
  rintro e w3 ⟨v3, rfl, hO3, hb3⟩
  have hx3 : w3.heap[w.heap.size]? = some (.cells meta_Parse.z 31 (0, 0)) := (hb3.block _ hs2).trans HX2.out
  have hb03 := HB2.out.trans (hb3.mono HB2.out.size)
  have hs3 : w.heap.size < w3.heap.size := by have := hb3.size; omega
  obtain ⟨A3, c3, rfl, hcl3, hC3⟩ := Kd.R_reads hO3
  obtain ⟨W3, hW3⟩ : ∃ W3, W3 = w3.alloc (.cells #[.int .i64 m1, .string m2, .int .i64 m3, .slice A3 m4.length c3] 31) := ⟨_, rfl⟩
  have hb33 : Below w3.heap.size w3 W3 := by rw [hW3]; exact (Below.refl _ w3).alloc (Nat.le_refl _) _
  have hx33 : W3.heap[w.heap.size]? = some (.cells meta_Parse.z 31 (0, 0)) := (hb33.block _ hs3).trans hx3
  have hy33 : W3.heap[w3.heap.size]? = some (.cells #[.int .i64 m1, .string m2, .int .i64 m3, .slice A3 m4.length c3] 31 (0, 0)) := by rw [hW3]; exact Go.heap_alloc_new w3 _
  have hs33 : w3.heap.size < W3.heap.size := by rw [hW3]; simp
  have hO33 := Kd.R_below hO3 hb33
  have hC33 := Kd.C_below hC3 hb33
  have HX33 := Lib.hid hx33
  have HX3 := Lib.hid hx3
  have hne : w.heap.size ≠ w3.heap.size := by omega
  have HY33 := Lib.hid hy33
  have HB33 := Aside0.mk (hb03.trans (hb33.mono hb03.size))
  have HO33 := Aside0.mk hO33
  have HC33 := Aside0.mk hC33
  have HCL3 := Aside0.mk hcl3
  have HB3 := Aside0.mk hb03
  clear hb3 hO3 hC3 hcl3 hx3 hb03 hb33 hx33 hy33 hO33 hC33 HX2
  subst hW3
  cases m5 with
  | false =>
   have e := HE.out
   simp only [Bool.false_eq_true, if_false, Option.some.injEq, Prod.mk.injEq] at e
   obtain ⟨rfl, rfl, rfl, rfl, rfl⟩ := e
   clear HE
   have hcz0 : w3.cell? ⟨w.heap.size, 0, none⟩ = some (.int .i64 0) := (blk_cell HX3.out 0).trans rfl
   have hfz0 := blk_frozen HX3.out 0
   have hcz1 : w3.cell? ⟨w.heap.size, 1, none⟩ = some (.string ⟨#[]⟩) := (blk_cell HX3.out 1).trans rfl
   have hfz1 := blk_frozen HX3.out 1
   have hcz2 : w3.cell? ⟨w.heap.size, 2, none⟩ = some (.int .i64 0) := (blk_cell HX3.out 2).trans rfl
   have hfz2 := blk_frozen HX3.out 2
   have hcz3 : w3.cell? ⟨w.heap.size, 3, none⟩ = some (.slice none 0 0) := (blk_cell HX3.out 3).trans rfl
   have hfz3 := blk_frozen HX3.out 3
   go_wp2
   exact bodyPost_ret (results_ct rfl _ _ w.heap.size 31 meta_Parse.z (0, 0) _ rfl (blk_alloc (meta_Parse.zeros HX3.out) _) Tryz.underlying31 rfl (by kernel_rfl)) rfl ⟨_, rfl, Kd.R_nil _ _ _ _ _, (meta_Parse.zeros_below HB3.out _ (Nat.le_refl _) _ _ _ _).alloc (by simp; omega) _⟩
  | true =>
   have e := HE.out
   simp only [if_true] at e
   obtain ⟨⟨t1, t2⟩, ht, e⟩ := Option.bind_eq_some_iff.1 e
   have HT := Lib.hid ht
   have HE2 := Lib.hid e
   clear ht e HE
   go_wp2_with fail
   refine (meta_Write.calls k m1 m2 m3 A3 c3 m4 t1 t2 _ HC33.out HCL3.out (HV.out.below HB33.out) HT.out).mono ?_
   rintro e w4 ⟨rfl, hb4⟩
   have hx4 : w4.heap[w.heap.size]? = some (.cells meta_Parse.z 31 (0, 0)) := (hb4.block _ (by simp; omega)).trans HX33.out
   have hy4 : w4.heap[w3.heap.size]? = some (.cells #[.int .i64 m1, .string m2, .int .i64 m3, .slice A3 m4.length c3] 31 (0, 0)) := (hb4.block _ (by simp)).trans HY33.out
   have hO4 := Kd.R_below HO33.out hb4
   have hb04 := HB33.out.trans (hb4.mono HB33.out.size)
   have HX4 := Lib.hid hx4
   have HY4 := Lib.hid hy4
   have HO4 := Aside0.mk hO4
   have HB4 := Aside0.mk hb04
   clear hx4 hy4 hO4 hb04 hb4 HX33 HY33 HO33 HC33 HB33
   have hcz0 : w4.cell? ⟨w.heap.size, 0, none⟩ = some (.int .i64 0) := (blk_cell HX4.out 0).trans rfl
   have hfz0 := blk_frozen HX4.out 0
   have hcz1 : w4.cell? ⟨w.heap.size, 1, none⟩ = some (.string ⟨#[]⟩) := (blk_cell HX4.out 1).trans rfl
   have hfz1 := blk_frozen HX4.out 1
   have hcz2 : w4.cell? ⟨w.heap.size, 2, none⟩ = some (.int .i64 0) := (blk_cell HX4.out 2).trans rfl
   have hfz2 := blk_frozen HX4.out 2
   have hcz3 : w4.cell? ⟨w.heap.size, 3, none⟩ = some (.slice none 0 0) := (blk_cell HX4.out 3).trans rfl
   have hfz3 := blk_frozen HX4.out 3
   have hcm0 : w4.cell? ⟨w3.heap.size, 0, none⟩ = some (.int .i64 m1) := (blk_cell HY4.out 0).trans rfl
   have hfm0 := blk_frozen HY4.out 0
   have hcm1 : w4.cell? ⟨w3.heap.size, 1, none⟩ = some (.string m2) := (blk_cell HY4.out 1).trans rfl
   have hfm1 := blk_frozen HY4.out 1
   have hcm2 : w4.cell? ⟨w3.heap.size, 2, none⟩ = some (.int .i64 m3) := (blk_cell HY4.out 2).trans rfl
   have hfm2 := blk_frozen HY4.out 2
   have hcm3 : w4.cell? ⟨w3.heap.size, 3, none⟩ = some (.slice A3 m4.length c3) := (blk_cell HY4.out 3).trans rfl
   have hfm3 := blk_frozen HY4.out 3
   by_cases he : t2 = 0 ∧ t1 = a0
   · obtain ⟨rfl, rfl⟩ := he
     have e := HE2.out
     simp only [and_self, if_true, Option.some.injEq, Prod.mk.injEq] at e
     obtain ⟨rfl, rfl, rfl, rfl, rfl⟩ := e
     clear HE2
     go_wp2
     refine bodyPost_ret (results_ct rfl _ _ w.heap.size 31 #[.int .i64 m1, .string m2, .int .i64 m3, .slice A3 m4.length c3] (0, 0) _ rfl (blk_put (blk_put (blk_put (blk_put HX4.out 0 _ rfl) 1 _ rfl) 2 _ rfl) 3 _ rfl) Tryz.underlying31 rfl (by kernel_rfl)) rfl ⟨_, rfl, ?_, meta_Parse.zeros_below HB4.out _ (Nat.le_refl _) _ _ _ _⟩
     have hf : ∀ i : Nat, ∀ k_, w2.heap.size ≤ k_ → k_ ≠ (⟨w.heap.size, i, none⟩ : Addr).block := fun i k_ hk => by show k_ ≠ w.heap.size; omega
     exact Kd.R_lower (Kd.R_mono (Kd.R_far (Kd.R_far (Kd.R_far (Kd.R_far HO4.out (hf 0) _) (hf 1) _) (hf 2) _) (hf 3) _) (fun _ _ => trivial)) (by omega)
   have e := HE2.out
   simp only [if_neg he, Option.some.injEq, Prod.mk.injEq] at e
   obtain ⟨rfl, rfl, rfl, rfl, rfl⟩ := e
   clear HE2
   by_cases h2 : t2 = 0
   · have h1 : t1 ≠ a0 := fun q => he ⟨h2, q⟩
     obtain ⟨n1, n2, n3⟩ := meta_Parse.ne_toList h1
     have N3 := Aside0.mk n3
     have b1 : (t2 != 0) = false := bne_eq_false_iff_eq.2 h2
     have b2 : (t2 == 0) = true := beq_iff_eq.2 h2
     clear h1 h2 he n3
     go_wp2
     exact bodyPost_ret (results_ct rfl _ _ w.heap.size 31 meta_Parse.z (0, 0) _ rfl (meta_Parse.zeros HX4.out) Tryz.underlying31 rfl (by kernel_rfl)) rfl ⟨_, rfl, Kd.R_nil _ _ _ _ _, meta_Parse.zeros_below HB4.out _ (Nat.le_refl _) _ _ _ _⟩
   have b1 : (t2 != 0) = true := bne_iff_ne.2 h2
   have b2 : (t2 == 0) = false := beq_eq_false_iff_ne.2 h2
   clear h2 he
   go_wp2
   exact bodyPost_ret (results_ct rfl _ _ w.heap.size 31 meta_Parse.z (0, 0) _ rfl (meta_Parse.zeros HX4.out) Tryz.underlying31 rfl (by kernel_rfl)) rfl ⟨_, rfl, Kd.R_nil _ _ _ _ _, meta_Parse.zeros_below HB4.out _ (Nat.le_refl _) _ _ _ _⟩

end
end Go.Proofs.YtfboejlemnfndaaGreatDoor.XMo
end
section
namespace Go.Proofs.YtfboejlemnfndaaGreatDoor.XMo
open Go.RowKit Go.Proofs.YtfboejlemnfndaaGreatDoorW.PrintWords Go.Proofs.YtfboejlemnfndaaGreatDoorW.PrintLast Go.Proofs.YtfboejlemnfndaaGreatDoorW.PrintMore
attribute [local go_sem] extract_sub max2_int min2_int max_two min_two max_three min_three max_four min_four   -- for this text's walks alone
set_option linter.unusedVariables false
set_option linter.unusedSimpArgs false

noncomputable section
def tallboylaw27_works.f : Option Bool := some true
theorem tallboylaw27_works.e1 : meta_Parse.f 200 ⟨#[109, 103, 32, 102, 111, 111, 32, 118, 32, 116, 32, 84, 51, 48]⟩ = some (1, ⟨#[102, 111, 111]⟩, 0, [⟨118, ⟨#[]⟩⟩, ⟨116, ⟨#[]⟩⟩, ⟨84, ⟨#[51, 48]⟩⟩], 0) := by kernel_rfl
theorem tallboylaw27_works.e3 : meta_Parse.f 200 ⟨#[109, 103, 32, 102, 111, 111, 32, 118, 32, 118]⟩ = some (0, ⟨#[]⟩, 0, [], 6) := by kernel_rfl
theorem tallboylaw27_works.e4 : meta_Parse.f 200 ⟨#[109, 120, 32, 102, 111, 111]⟩ = some (0, ⟨#[]⟩, 0, [], 70) := by kernel_rfl
theorem tallboylaw27_works.d2 : meta_Decode.f ⟨#[89, 81, 61, 61]⟩ = some (⟨#[97]⟩, 0) := by
 unfold meta_Decode.f
 rw [if_pos (by decide), B64.dec_of _ [97] (by kernel_rfl)]
theorem tallboylaw27_works.w2 : meta_words.f 200 2 [⟨#[89, 81, 61, 61]⟩, ⟨#[51]⟩, ⟨#[98]⟩] = (meta_Decode.f ⟨#[89, 81, 61, 61]⟩).bind fun bt => (if bt.2 = 0 then some (2, bt.1, 3, [⟨98, ⟨#[]⟩⟩], true) else some (0, ⟨#[]⟩, 0, [], false)) := by kernel_rfl
theorem tallboylaw27_works.e2 : meta_Parse.f 200 ⟨#[109, 115, 32, 89, 81, 61, 61, 32, 51, 32, 98]⟩ = some (2, ⟨#[97]⟩, 3, [⟨98, ⟨#[]⟩⟩], 0) := by
 have h1 : strings_Split.f ⟨#[109, 115, 32, 89, 81, 61, 61, 32, 51, 32, 98]⟩ ⟨#[32]⟩ = some [⟨#[109, 115]⟩, ⟨#[89, 81, 61, 61]⟩, ⟨#[51]⟩, ⟨#[98]⟩] := by kernel_rfl
 have h2 : meta_named.f 200 ⟨#[109, 115]⟩ = some 2 := by kernel_rfl
 have h3 : meta_Write.f 200 2 ⟨#[97]⟩ 3 [⟨98, ⟨#[]⟩⟩] = some (⟨#[109, 115, 32, 89, 81, 61, 61, 32, 51, 32, 98]⟩, 0) := by kernel_rfl
 have h4 := tallboylaw27_works.w2
 rw [tallboylaw27_works.d2] at h4
 simp only [Option.bind_some, if_true] at h4
 unfold meta_Parse.f
 rw [if_neg (by decide), h1]
 simp only [Option.bind_some]
 rw [h2]
 simp only [Option.bind_some]
 rw [if_neg (by decide), h4]
 simp only [Option.bind_some, if_true]
 rw [h3]
 simp only [Option.bind_some, and_self, if_true]
theorem tallboylaw27_works.e5 : meta_Write.f 200 4 ⟨#[107]⟩ 0 [⟨77, ⟨#[68]⟩⟩, ⟨68, ⟨#[53]⟩⟩] = some (⟨#[109, 97, 32, 107, 32, 77, 68, 32, 68, 53]⟩, 0) := by kernel_rfl
theorem tallboylaw27_works.e6 : meta_Number.f 200 1 ⟨#[102, 111, 111]⟩ 0 [⟨118, ⟨#[]⟩⟩, ⟨116, ⟨#[]⟩⟩, ⟨84, ⟨#[51, 48]⟩⟩] 84 = some (30, 0, true) := by kernel_rfl
theorem tallboylaw27_works.e7 : meta_Encode.f ⟨#[97, 98]⟩ = some ⟨#[89, 87, 73, 61]⟩ := by kernel_rfl
theorem tallboylaw27_works.e8 : meta_Check.f 200 2 ⟨#[107]⟩ 2001 [] = some 1 := by kernel_rfl
def tallboylaw27_works.M (A : Option Addr) (c : Nat) : Obj := .cells #[.int .i64 0, .string ⟨#[]⟩, .int .i64 0, .slice A 0 c] 31
def tallboylaw27_works.F : Obj := .cells #[.int .u8 77, .string ⟨#[68]⟩, .int .u8 68, .string ⟨#[53]⟩] 61
def tallboylaw27_works.L : List S61 := [⟨77, ⟨#[68]⟩⟩, ⟨68, ⟨#[53]⟩⟩]
theorem tallboylaw27_works.C5 (w : World) : Kd.C k61 (w.alloc tallboylaw27_works.F) (some ⟨w.heap.size, 0, none⟩) 2 tallboylaw27_works.L := by
 refine ⟨rfl, by decide, fun _ => ⟨_, rfl, ?_⟩⟩
 intro j p hp
 have hb : (w.alloc tallboylaw27_works.F).heap[w.heap.size]? = some tallboylaw27_works.F := Go.heap_alloc_new w _
 have hcell : ∀ i, (w.alloc tallboylaw27_works.F).cell? ⟨w.heap.size, i, none⟩ = (#[.int .u8 77, .string ⟨#[68]⟩, .int .u8 68, .string ⟨#[53]⟩] : Array Value)[i]? := by
  intro i
  unfold World.cell?
  simp only [hb]
  rfl
 match j with
 | 0 =>
  obtain rfl := Option.some.inj hp
  refine ⟨_, rfl, k61_mk _ _, fun i u hu => ?_⟩
  match i with
  | 0 => obtain rfl := Option.some.inj hu; exact hcell 0
  | 1 => obtain rfl := Option.some.inj hu; exact hcell 1
  | n + 2 => simp at hu
 | 1 =>
  obtain rfl := Option.some.inj hp
  refine ⟨_, rfl, k61_mk _ _, fun i u hu => ?_⟩
  match i with
  | 0 => obtain rfl := Option.some.inj hu; exact hcell 2
  | 1 => obtain rfl := Option.some.inj hu; exact hcell 3
  | n + 2 => simp at hu
 | n + 2 => simp [tallboylaw27_works.L] at hp
set_option maxHeartbeats 16000000 in
set_option maxRecDepth 100000 in
theorem tallboylaw27_works.calls (r : Bool) (w : World) (hv : Vars w) (h : tallboylaw27_works.f = some r) :
 Calls Tryz.prog 25 #[] w fun e w' => e = .returned (.bool r) ∧ Below w.heap.size w w' := by
 obtain rfl : true = r := Option.some.inj h
 have HV := Aside0.mk hv
 clear hv h
 go_enter Tryz.func25, Tryz.ntmps25
 go_wp2_with fail
 refine (meta_Parse.calls 200 _ _ _ _ _ _ _ HV.out tallboylaw27_works.e1).mono ?_
 rintro e w1 ⟨v1, rfl, hO1, hb1⟩
 obtain ⟨A1, c1, rfl, hc1, hC1⟩ := Kd.R_reads hO1
 have HC1 := Aside0.mk hC1
 have HQ1 := Aside0.mk hc1
 have HB1 := Aside0.mk hb1
 clear hO1 hC1 hc1 hb1
 have hx1 : Below w.heap.size w (w1.alloc (.cells #[.int .i64 1, .string ⟨#[102, 111, 111]⟩, .int .i64 0, .slice A1 3 c1] 31)) := HB1.out.alloc HB1.out.size _
 have HX1 := Aside0.mk hx1
 clear hx1
 go_wp2_with fail
 refine (meta_Parse.calls 200 _ _ _ _ _ _ _ (HV.out.below HX1.out) tallboylaw27_works.e2).mono ?_
 rintro e w2 ⟨v2, rfl, hO2, hb2⟩
 obtain ⟨A2, c2, rfl, hc2, -⟩ := Kd.R_reads hO2
 have hB2 : Below w.heap.size w w2 := HX1.out.trans (hb2.mono HX1.out.size)
 have hs2 : w1.heap.size < w2.heap.size := by have := hb2.size; simp at this; omega
 have hk12 : w2.heap[w1.heap.size]? = some (.cells #[.int .i64 1, .string ⟨#[102, 111, 111]⟩, .int .i64 0, .slice A1 3 c1] 31) := (hb2.block _ (by simp)).trans (Go.heap_alloc_new w1 _)
 have hl12 : Below w1.heap.size w1 w2 := ((Below.refl _ w1).alloc (Nat.le_refl _) _).trans (hb2.mono (by simp))
 have HB2 := Aside0.mk hB2
 have HK12 := Lib.hid hk12
 have HL12 := Aside0.mk hl12
 clear hO2 hc2 hb2 hB2 hk12 hl12 HX1
 have hx2 : Below w.heap.size w (w2.alloc (.cells #[.int .i64 2, .string ⟨#[97]⟩, .int .i64 3, .slice A2 1 c2] 31)) := HB2.out.alloc HB2.out.size _
 have HX2 := Aside0.mk hx2
 clear hx2
 go_wp2_with fail
 refine (meta_Parse.calls 200 _ _ _ _ _ _ _ (HV.out.below HX2.out) tallboylaw27_works.e3).mono ?_
 rintro e w3 ⟨v3, rfl, hO3, hb3⟩
 obtain ⟨A3, c3, rfl, hc3, -⟩ := Kd.R_reads hO3
 have hB3 : Below w.heap.size w w3 := HX2.out.trans (hb3.mono HX2.out.size)
 have hs3 : w2.heap.size < w3.heap.size := by have := hb3.size; simp at this; omega
 have hk23 : w3.heap[w2.heap.size]? = some (.cells #[.int .i64 2, .string ⟨#[97]⟩, .int .i64 3, .slice A2 1 c2] 31) := (hb3.block _ (by simp)).trans (Go.heap_alloc_new w2 _)
 have hl23 : Below w2.heap.size w2 w3 := ((Below.refl _ w2).alloc (Nat.le_refl _) _).trans (hb3.mono (by simp))
 have hk13 : w3.heap[w1.heap.size]? = some (.cells #[.int .i64 1, .string ⟨#[102, 111, 111]⟩, .int .i64 0, .slice A1 3 c1] 31) := (hl23.block _ hs2).trans HK12.out
 have hl13 : Below w1.heap.size w1 w3 := HL12.out.trans (hl23.mono (by omega))
 have HB3 := Aside0.mk hB3
 have HK23 := Lib.hid hk23
 have HK13 := Lib.hid hk13
 have HL13 := Aside0.mk hl13
 clear hO3 hc3 hb3 hB3 hk23 hl23 hk13 hl13 HX2 HK12 HL12
 have hx3 : Below w.heap.size w (w3.alloc (.cells #[.int .i64 0, .string ⟨#[]⟩, .int .i64 0, .slice A3 0 c3] 31)) := HB3.out.alloc HB3.out.size _
 have HX3 := Aside0.mk hx3
 clear hx3
 go_wp2_with fail
 refine (meta_Parse.calls 200 _ _ _ _ _ _ _ (HV.out.below HX3.out) tallboylaw27_works.e4).mono ?_
 rintro e w4 ⟨v4, rfl, hO4, hb4⟩
 obtain ⟨A4, c4, rfl, hc4, -⟩ := Kd.R_reads hO4
 have hB4 : Below w.heap.size w w4 := HX3.out.trans (hb4.mono HX3.out.size)
 have hl34 : Below w3.heap.size w3 w4 := ((Below.refl _ w3).alloc (Nat.le_refl _) _).trans (hb4.mono (by simp))
 have hs4 : w3.heap.size < w4.heap.size := by have := hb4.size; simp at this; omega
 have hk14 : w4.heap[w1.heap.size]? = some (.cells #[.int .i64 1, .string ⟨#[102, 111, 111]⟩, .int .i64 0, .slice A1 3 c1] 31) := (hl34.block _ (by omega)).trans HK13.out
 have hk24 : w4.heap[w2.heap.size]? = some (.cells #[.int .i64 2, .string ⟨#[97]⟩, .int .i64 3, .slice A2 1 c2] 31) := (hl34.block _ hs3).trans HK23.out
 have hl14 : Below w1.heap.size w1 w4 := HL13.out.trans (hl34.mono (by omega))
 have HB4 := Aside0.mk hB4
 have HK14 := Lib.hid hk14
 have HK24 := Lib.hid hk24
 have HL14 := Aside0.mk hl14
 clear hO4 hc4 hb4 hB4 hl34 hk14 hk24 hl14 HX3 HK13 HK23 HL13
 go_wp2_with fail
 have hx5 : Below w.heap.size w ((w4.alloc (tallboylaw27_works.M A4 c4)).alloc tallboylaw27_works.F) := below_alloc (below_alloc HB4.out _) _
 have hl45 : Below w4.heap.size w4 ((w4.alloc (tallboylaw27_works.M A4 c4)).alloc tallboylaw27_works.F) := below_alloc (below_alloc (Below.refl _ w4) _) _
 have hC5 : Kd.C k61 ((w4.alloc (tallboylaw27_works.M A4 c4)).alloc tallboylaw27_works.F) (some ⟨w4.heap.size + 1, 0, none⟩) 2 tallboylaw27_works.L := by
  have := tallboylaw27_works.C5 (w4.alloc (tallboylaw27_works.M A4 c4))
  rw [show (w4.alloc (tallboylaw27_works.M A4 c4)).heap.size = w4.heap.size + 1 from by simp] at this
  exact this
 refine (meta_Write.calls 200 4 ⟨#[107]⟩ 0 (some ⟨w4.heap.size + 1, 0, none⟩) 2 tallboylaw27_works.L _ _ ((w4.alloc (tallboylaw27_works.M A4 c4)).alloc tallboylaw27_works.F) hC5 (Nat.le_refl _) (HV.out.below hx5) tallboylaw27_works.e5).mono ?_
 rintro e w5 ⟨rfl, hb5⟩
 have hB5 : Below w.heap.size w w5 := hx5.trans (hb5.mono hx5.size)
 have hl15 : Below w1.heap.size w1 w5 := HL14.out.trans ((hl45.trans (hb5.mono hl45.size)).mono (by omega))
 have hk15 : w5.heap[w1.heap.size]? = some (.cells #[.int .i64 1, .string ⟨#[102, 111, 111]⟩, .int .i64 0, .slice A1 3 c1] 31) := ((hl45.trans (hb5.mono hl45.size)).block _ (by omega)).trans HK14.out
 have hk25 : w5.heap[w2.heap.size]? = some (.cells #[.int .i64 2, .string ⟨#[97]⟩, .int .i64 3, .slice A2 1 c2] 31) := ((hl45.trans (hb5.mono hl45.size)).block _ (by omega)).trans HK24.out
 have hC15 : Kd.C k61 w5 A1 3 [⟨118, ⟨#[]⟩⟩, ⟨116, ⟨#[]⟩⟩, ⟨84, ⟨#[51, 48]⟩⟩] := Kd.C_below HC1.out hl15
 have hs15 : w1.heap.size < w5.heap.size := by have := hb5.size; simp at this; omega
 have hs25 : w2.heap.size < w5.heap.size := by have := hb5.size; simp at this; omega
 have HB5 := Aside0.mk hB5
 have HC15 := Aside0.mk hC15
 have hm0 : w5.cell? ⟨w1.heap.size, 0, none⟩ = some (.int .i64 1) := (blk_cell hk15 0).trans rfl
 have hm1 : w5.cell? ⟨w1.heap.size, 1, none⟩ = some (.string ⟨#[102, 111, 111]⟩) := (blk_cell hk15 1).trans rfl
 have hm2 : w5.cell? ⟨w1.heap.size, 2, none⟩ = some (.int .i64 0) := (blk_cell hk15 2).trans rfl
 have hm3 : w5.cell? ⟨w1.heap.size, 3, none⟩ = some (.slice A1 3 c1) := (blk_cell hk15 3).trans rfl
 have hn0 : w5.cell? ⟨w2.heap.size, 0, none⟩ = some (.int .i64 2) := (blk_cell hk25 0).trans rfl
 have hn1 : w5.cell? ⟨w2.heap.size, 1, none⟩ = some (.string ⟨#[97]⟩) := (blk_cell hk25 1).trans rfl
 have hn2 : w5.cell? ⟨w2.heap.size, 2, none⟩ = some (.int .i64 3) := (blk_cell hk25 2).trans rfl
 have hn3 : w5.cell? ⟨w2.heap.size, 3, none⟩ = some (.slice A2 1 c2) := (blk_cell hk25 3).trans rfl
 have HK15 := Lib.hid hk15
 have HK25 := Lib.hid hk25
 clear hx5 hl45 hC5 hb5 hl15 hC15 hk15 hk25 hB5 HL14 HK14 HK24
 go_wp2_with fail
 refine (meta_Number.calls 200 1 ⟨#[102, 111, 111]⟩ 0 A1 c1 _ 84 _ _ _ w5 HC15.out HQ1.out (HV.out.below HB5.out) tallboylaw27_works.e6).mono ?_
 clear hm0 hm1 hm2 hm3 hn0 hn1 hn2 hn3
 rintro e w6 ⟨rfl, hb6⟩
 have hs16 : w1.heap.size < w6.heap.size := by have := hb6.size; omega
 have hs26 : w2.heap.size < w6.heap.size := by have := hb6.size; omega
 have hB6 : Below w.heap.size w w6 := HB5.out.trans (hb6.mono HB5.out.size)
 have hk16 : w6.heap[w1.heap.size]? = some (.cells #[.int .i64 1, .string ⟨#[102, 111, 111]⟩, .int .i64 0, .slice A1 3 c1] 31) := (hb6.block _ (by omega)).trans HK15.out
 have hk26 : w6.heap[w2.heap.size]? = some (.cells #[.int .i64 2, .string ⟨#[97]⟩, .int .i64 3, .slice A2 1 c2] 31) := (hb6.block _ (by omega)).trans HK25.out
 have hm0 : w6.cell? ⟨w1.heap.size, 0, none⟩ = some (.int .i64 1) := (blk_cell hk16 0).trans rfl
 have hm1 : w6.cell? ⟨w1.heap.size, 1, none⟩ = some (.string ⟨#[102, 111, 111]⟩) := (blk_cell hk16 1).trans rfl
 have hm2 : w6.cell? ⟨w1.heap.size, 2, none⟩ = some (.int .i64 0) := (blk_cell hk16 2).trans rfl
 have hm3 : w6.cell? ⟨w1.heap.size, 3, none⟩ = some (.slice A1 3 c1) := (blk_cell hk16 3).trans rfl
 have hn0 : w6.cell? ⟨w2.heap.size, 0, none⟩ = some (.int .i64 2) := (blk_cell hk26 0).trans rfl
 have hn1 : w6.cell? ⟨w2.heap.size, 1, none⟩ = some (.string ⟨#[97]⟩) := (blk_cell hk26 1).trans rfl
 have hn2 : w6.cell? ⟨w2.heap.size, 2, none⟩ = some (.int .i64 3) := (blk_cell hk26 2).trans rfl
 have hn3 : w6.cell? ⟨w2.heap.size, 3, none⟩ = some (.slice A2 1 c2) := (blk_cell hk26 3).trans rfl
 have HB6 := Aside0.mk hB6
 have HK16 := Lib.hid hk16
 have HK26 := Lib.hid hk26
 clear hb6 hB6 hk16 hk26 HK15 HK25
 go_wp2_with fail
 refine (meta_Encode.calls ⟨#[97, 98]⟩ _ w6 tallboylaw27_works.e7).mono ?_
 clear hm0 hm1 hm2 hm3 hn0 hn1 hn2 hn3
 rintro e w7 ⟨rfl, hb7⟩
 have hs17 : w1.heap.size < w7.heap.size := by have := hb7.size; omega
 have hs27 : w2.heap.size < w7.heap.size := by have := hb7.size; omega
 have hB7 : Below w.heap.size w w7 := HB6.out.trans (hb7.mono HB6.out.size)
 have hk17 : w7.heap[w1.heap.size]? = some (.cells #[.int .i64 1, .string ⟨#[102, 111, 111]⟩, .int .i64 0, .slice A1 3 c1] 31) := (hb7.block _ (by omega)).trans HK16.out
 have hk27 : w7.heap[w2.heap.size]? = some (.cells #[.int .i64 2, .string ⟨#[97]⟩, .int .i64 3, .slice A2 1 c2] 31) := (hb7.block _ (by omega)).trans HK26.out
 have hm0 : w7.cell? ⟨w1.heap.size, 0, none⟩ = some (.int .i64 1) := (blk_cell hk17 0).trans rfl
 have hm1 : w7.cell? ⟨w1.heap.size, 1, none⟩ = some (.string ⟨#[102, 111, 111]⟩) := (blk_cell hk17 1).trans rfl
 have hm2 : w7.cell? ⟨w1.heap.size, 2, none⟩ = some (.int .i64 0) := (blk_cell hk17 2).trans rfl
 have hm3 : w7.cell? ⟨w1.heap.size, 3, none⟩ = some (.slice A1 3 c1) := (blk_cell hk17 3).trans rfl
 have hn0 : w7.cell? ⟨w2.heap.size, 0, none⟩ = some (.int .i64 2) := (blk_cell hk27 0).trans rfl
 have hn1 : w7.cell? ⟨w2.heap.size, 1, none⟩ = some (.string ⟨#[97]⟩) := (blk_cell hk27 1).trans rfl
 have hn2 : w7.cell? ⟨w2.heap.size, 2, none⟩ = some (.int .i64 3) := (blk_cell hk27 2).trans rfl
 have hn3 : w7.cell? ⟨w2.heap.size, 3, none⟩ = some (.slice A2 1 c2) := (blk_cell hk27 3).trans rfl
 have HB7 := Aside0.mk hB7
 have HK17 := Lib.hid hk17
 have HK27 := Lib.hid hk27
 clear hb7 hB7 hk17 hk27 HK16 HK26
 go_wp2_with fail
 have hC0 : Kd.C k61 w7 none 0 [] := ⟨rfl, by decide, fun h => absurd h (by decide)⟩
 refine (meta_Check.calls 200 2 ⟨#[107]⟩ 2001 none 0 [] _ w7 hC0 (Nat.le_refl _) (HV.out.below HB7.out) tallboylaw27_works.e8).mono ?_
 clear hm0 hm1 hm2 hm3 hn0 hn1 hn2 hn3
 rintro e w8 ⟨rfl, hb8⟩
 have hB8 : Below w.heap.size w w8 := HB7.out.trans (hb8.mono HB7.out.size)
 have HB8 := Aside0.mk hB8
 clear hb8 hB8 HK17 HK27
 go_wp2
 go_ret
 exact ⟨rfl, HB8.out⟩

end
end Go.Proofs.YtfboejlemnfndaaGreatDoor.XMo
end
