/- Put together by wip/pack.py (this session's own program) out of this session's texts; a kit's tool laid the words and the shelf, of which only what is used stands here. Lean checks it. -/
import Derived.Test.YtdihoopofhediaaGreatDoorPWp5
import Derived.Deep.RegionHeld3
import Derived.Deep.DeepCutAuto
import Derived.Lib.BufferMore
import Derived.OpenShut
import Derived.ChangeArms
import Derived.DataReads
import Derived.DataElems
import Derived.SizedLaws
import Derived.Test.YtdihoopofhediaaGreatDoorCards
import Derived.Test.YtdihoopofhediaaGreatDoorTie
import Derived.WalkKit
import Derived.ProofKit
import Derived.ShutString
import Derived.ChangeOld
import Derived.Below
import Derived.LaidMore
import Derived.Lay
import Derived.SevenTiedAt
import Derived.Stop.Joined
import Derived.Deep.DeepHandedRow
import Derived.Shelf.Vars
import Derived.Stop.LaidErr
section
namespace Go.Proofs.YtdihoopofhediaaGreatDoor.Wp
open Go.RowKit Go.Proofs.YtdihoopofhediaaGreatDoorW.PrintWords Go.Proofs.YtdihoopofhediaaGreatDoorW.PrintLast Go.Proofs.YtdihoopofhediaaGreatDoorW.PrintMore Go.WideMaps Go.Proofs.YtdihoopofhediaaGreatDoor.XMd Go.Proofs.YtdihoopofhediaaGreatDoor.Mdl
set_option linter.unusedVariables false
set_option linter.unusedSimpArgs false
attribute [local go_sem ↓] Go.wp_at_zero Go.wp_at_succ
attribute [local go_sem high] eqFd
set_option maxHeartbeats 16000000 in
set_option maxRecDepth 100000 in
theorem works_calls (w : World) (hv : Vars w) : Calls Tryz.prog 4 #[] w fun e w' => e = .returned (.bool true) ∧ Below w.heap.size w w' := by
  have HV := Aside0.mk hv
  clear hv
  go_enter Tryz.func4, Tryz.ntmps4
  go_upto_region 2 with fail
  change Code.wp _ _ _ _ ((w.alloc (.cells #[.string ⟨#[107]⟩] 9)).alloc (.cells (cSet w.heap.size) 35))
  have k1 : Aside0 (((w.alloc (.cells #[.string ⟨#[107]⟩] 9)).alloc (.cells (cSet w.heap.size) 35)).heap[w.heap.size]? = some (.cells #[.string ⟨#[107]⟩] 9)) := ⟨(Below.heap_alloc _ _ _ (by rw [size_al]; omega)).trans (heap_alloc_new w _)⟩
  have t1 := Aside0.mk (heap_alloc2 w (.cells #[.string ⟨#[107]⟩] 9) (.cells (cSet w.heap.size) 35))
  have B1 := Aside0.mk (((Below.refl _ w).alloc (Nat.le_refl _) (.cells #[.string ⟨#[107]⟩] 9)).alloc (by rw [size_al]; omega) (.cells (cSet w.heap.size) 35))
  obtain ⟨T1, hT1⟩ : ∃ T1, T1 = w.heap.size + 1 := ⟨_, rfl⟩
  rw [← hT1] at t1 ⊢
  obtain ⟨K1, hK1⟩ : ∃ K1, K1 = w.heap.size := ⟨_, rfl⟩
  rw [← hK1] at k1 t1 B1 ⊢
  generalize (w.alloc (.cells #[.string ⟨#[107]⟩] 9)).alloc (.cells (cSet K1) 35) = W1 at k1 t1 B1 ⊢
  rw [hK1] at B1
  clear hT1 hK1
  go_upto_region 3 with fail
  change Code.wp _ _ _ _ ((W1.alloc (.cells #[.string ⟨#[107]⟩] 9)).alloc (.cells (cGet W1.heap.size) 35))
  have hb2 : Below W1.heap.size W1 ((W1.alloc (.cells #[.string ⟨#[107]⟩] 9)).alloc (.cells (cGet W1.heap.size) 35)) := ((Below.refl _ W1).alloc (Nat.le_refl _) _).alloc (by rw [size_al]; omega) _
  have k2 := Aside0.mk (al1 W1 (.cells #[.string ⟨#[107]⟩] 9) (.cells (cGet W1.heap.size) 35))
  have t2 := Aside0.mk (heap_alloc2 W1 (.cells #[.string ⟨#[107]⟩] 9) (.cells (cGet W1.heap.size) 35))
  have k1b := Aside0.mk ((hb2.block _ (blk_lt k1.out)).trans k1.out)
  have t1b := Aside0.mk ((hb2.block _ (blk_lt t1.out)).trans t1.out)
  have B2 := Aside0.mk (B1.out.trans (hb2.mono B1.out.size))
  obtain ⟨T2, hT2⟩ : ∃ T2, T2 = W1.heap.size + 1 := ⟨_, rfl⟩
  rw [← hT2] at t2 ⊢
  obtain ⟨K2, hK2⟩ : ∃ K2, K2 = W1.heap.size := ⟨_, rfl⟩
  rw [← hK2] at k2 t2 ⊢
  clear hb2 k1 t1 B1
  rw [← hK2] at k1b t1b B2
  generalize (W1.alloc (.cells #[.string ⟨#[107]⟩] 9)).alloc (.cells (cGet K2) 35) = W2 at k2 t2 k1b t1b B2 ⊢
  clear hT2 hK2
  have c0 : W2.cell? ⟨T2, 0, none⟩ = some (.int .i64 1) := fresh_cell t2.out 0
  have c1 : W2.cell? ⟨T2, 1, none⟩ = some (.slice (some ⟨K2, 0, none⟩) 1 1) := fresh_cell t2.out 1
  have c2 : W2.cell? ⟨T2, 2, none⟩ = some (.int .u32 0) := fresh_cell t2.out 2
  have c3 : W2.cell? ⟨T2, 3, none⟩ = some (.int .i64 0) := fresh_cell t2.out 3
  have c4 : W2.cell? ⟨T2, 4, none⟩ = some (.string ⟨#[]⟩) := fresh_cell t2.out 4
  have c5 : W2.cell? ⟨T2, 5, none⟩ = some (.int .u64 0) := fresh_cell t2.out 5
  have c6 : W2.cell? ⟨T2, 6, none⟩ = some (.int .u64 0) := fresh_cell t2.out 6
  have c7 : W2.cell? ⟨T2, 7, none⟩ = some (.bool false) := fresh_cell t2.out 7
  go_wp2_with fail
  refine (event_c W2 1 0 0 0 0 1 ⟨#[]⟩ false (some ⟨K2, 0, none⟩) 1 1).mono ?_
  rintro e w3 ⟨rfl, hb3⟩
  have k1 := Aside0.mk ((hb3.block _ (blk_lt k1b.out)).trans k1b.out)
  have t1 := Aside0.mk ((hb3.block _ (blk_lt t1b.out)).trans t1b.out)
  have k2b := Aside0.mk ((hb3.block _ (blk_lt k2.out)).trans k2.out)
  have B3 := Aside0.mk (B2.out.trans (hb3.mono B2.out.size))
  clear hb3 k1b t1b k2 t2 B2 c0 c1 c2 c3 c4 c5 c6 c7
  go_upto_region 4 with fail
  change Code.wp _ _ _ _ (w3.alloc (.cells (cLie0 K2) 41))
  have hb4 := (Below.refl _ w3).alloc (Nat.le_refl _) (.cells (cLie0 K2) 41)
  have l := Aside0.mk (heap_alloc_new w3 (.cells (cLie0 K2) 41))
  have k1b := Aside0.mk ((hb4.block _ (blk_lt k1.out)).trans k1.out)
  have t1b := Aside0.mk ((hb4.block _ (blk_lt t1.out)).trans t1.out)
  have k2 := Aside0.mk ((hb4.block _ (blk_lt k2b.out)).trans k2b.out)
  have B4 := Aside0.mk (B3.out.trans (hb4.mono B3.out.size))
  have n1 : w3.heap.size ≠ K1 ∧ w3.heap.size ≠ T1 ∧ w3.heap.size ≠ K2 ∧ w.heap.size ≤ w3.heap.size := by
    have h1 := blk_lt k1.out
    have h2 := blk_lt t1.out
    have h3 := blk_lt k2b.out
    have h4 := B3.out.size
    omega
  obtain ⟨L, hL⟩ : ∃ L, L = w3.heap.size := ⟨_, rfl⟩
  rw [← hL] at l n1 ⊢
  clear hb4 k1 t1 k2b B3
  generalize w3.alloc (.cells (cLie0 K2) 41) = W4 at l k1b t1b k2 B4 ⊢
  clear hL
  have c11 : W4.cell? ⟨L, 11, none⟩ = some (.slice none 0 0) := fresh_cell l.out 11
  have f11 := fresh_frozen l.out 11
  have hLH : L ≠ W4.heap.size := Nat.ne_of_lt (blk_lt l.out)
  have cb : (W4.alloc (.cells #[.string ⟨#[107]⟩, .int .u32 0, .string ⟨#[118]⟩, .int .u64 1] 44)).cell? ⟨L, 11, none⟩ = some (.slice none 0 0) := keepC ((Below.refl _ W4).alloc (Nat.le_refl _) _) c11
  have fb : (W4.alloc (.cells #[.string ⟨#[107]⟩, .int .u32 0, .string ⟨#[118]⟩, .int .u64 1] 44)).frozen? ⟨L, 11, none⟩ = false := fresh_frozen ((Below.heap_alloc _ _ _ (blk_lt l.out)).trans l.out) 11
  go_upto_region 5 with fail
  change Code.wp _ _ _ _ ((W4.alloc (.cells #[.string ⟨#[107]⟩, .int .u32 0, .string ⟨#[118]⟩, .int .u64 1] 44)).setCell ⟨L, 11, none⟩ (.slice (some ⟨W4.heap.size, 0, none⟩) 1 1))
  have hk : ∀ i o, W4.heap[i]? = some o → i ≠ L → ((W4.alloc (.cells #[.string ⟨#[107]⟩, .int .u32 0, .string ⟨#[118]⟩, .int .u64 1] 44)).setCell ⟨L, 11, none⟩ (.slice (some ⟨W4.heap.size, 0, none⟩) 1 1)).heap[i]? = some o := fun i o h hne => (Below.heap_setCell _ ⟨L, 11, none⟩ _ i hne).trans ((Below.heap_alloc W4 _ i (blk_lt h)).trans h)
  have k1 := Aside0.mk (hk _ _ k1b.out n1.1.symm)
  have t1 := Aside0.mk (hk _ _ t1b.out n1.2.1.symm)
  have k2b := Aside0.mk (hk _ _ k2.out n1.2.2.1.symm)
  have hh : Aside0 (((W4.alloc (.cells #[.string ⟨#[107]⟩, .int .u32 0, .string ⟨#[118]⟩, .int .u64 1] 44)).setCell ⟨L, 11, none⟩ (.slice (some ⟨W4.heap.size, 0, none⟩) 1 1)).heap[W4.heap.size]? = some (.cells #[.string ⟨#[107]⟩, .int .u32 0, .string ⟨#[118]⟩, .int .u64 1] 44)) := ⟨(Below.heap_setCell _ ⟨L, 11, none⟩ _ _ hLH.symm).trans (heap_alloc_new W4 _)⟩
  have l5 : Aside0 (((W4.alloc (.cells #[.string ⟨#[107]⟩, .int .u32 0, .string ⟨#[118]⟩, .int .u64 1] 44)).setCell ⟨L, 11, none⟩ (.slice (some ⟨W4.heap.size, 0, none⟩) 1 1)).heap[L]? = some (.cells (cLie K2 W4.heap.size) 41)) := ⟨set11 ((Below.heap_alloc _ _ _ (blk_lt l.out)).trans l.out)⟩
  have B5 := Aside0.mk ((B4.out.alloc B4.out.size (.cells #[.string ⟨#[107]⟩, .int .u32 0, .string ⟨#[118]⟩, .int .u64 1] 44)).setCell (p := ⟨L, 11, none⟩) n1.2.2.2 (.slice (some ⟨W4.heap.size, 0, none⟩) 1 1))
  obtain ⟨H, hH⟩ : ∃ H, H = W4.heap.size := ⟨_, rfl⟩
  rw [← hH] at hh l5 k1 t1 k2b B5 ⊢
  generalize (W4.alloc (.cells #[.string ⟨#[107]⟩, .int .u32 0, .string ⟨#[118]⟩, .int .u64 1] 44)).setCell ⟨L, 11, none⟩ (.slice (some ⟨H, 0, none⟩) 1 1) = W5 at hh l5 k1 t1 k2b B5 ⊢
  clear hk hH k1b t1b k2 l B4 n1 c11 f11 hLH cb fb
  go_upto_region 6 with fail
  change Code.wp _ _ _ _ ((W5.alloc (.cells #[.string ⟨#[107]⟩, .int .i64 2] 46)).alloc (.cells (cDrop W5.heap.size) 41))
  have hb6 : Below W5.heap.size W5 ((W5.alloc (.cells #[.string ⟨#[107]⟩, .int .i64 2] 46)).alloc (.cells (cDrop W5.heap.size) 41)) := ((Below.refl _ W5).alloc (Nat.le_refl _) _).alloc (by rw [size_al]; omega) _
  have hsz6 : ((W5.alloc (.cells #[.string ⟨#[107]⟩, .int .i64 2] 46)).alloc (.cells (cDrop W5.heap.size) 41)).heap.size = W5.heap.size + 2 := by rw [size_al, size_al]
  have hlt6 : K1 < W5.heap.size + 2 ∧ T1 < W5.heap.size + 2 ∧ K2 < W5.heap.size + 2 ∧ H < W5.heap.size + 2 ∧ L < W5.heap.size + 2 ∧ W5.heap.size < W5.heap.size + 2 ∧ W5.heap.size + 1 < W5.heap.size + 2 := by
    have h1 := blk_lt k1.out
    have h2 := blk_lt t1.out
    have h3 := blk_lt k2b.out
    have h4 := blk_lt hh.out
    have h5 := blk_lt l5.out
    omega
  have M6 : Aside0 (M w ((W5.alloc (.cells #[.string ⟨#[107]⟩, .int .i64 2] 46)).alloc (.cells (cDrop W5.heap.size) 41)) (W5.heap.size + 2) K1 T1 K2 H L W5.heap.size (W5.heap.size + 1)) :=
    ⟨⟨(hb6.block _ (blk_lt k1.out)).trans k1.out, (hb6.block _ (blk_lt t1.out)).trans t1.out, (hb6.block _ (blk_lt k2b.out)).trans k2b.out, (hb6.block _ (blk_lt hh.out)).trans hh.out, (hb6.block _ (blk_lt l5.out)).trans l5.out, al1 W5 _ _, heap_alloc2 W5 _ _, B5.out.trans (hb6.mono B5.out.size), hlt6, by rw [hsz6]; exact Nat.le_refl _, Nat.le_trans B5.out.size (Nat.le_add_right _ _)⟩⟩
  obtain ⟨s6, hs6⟩ : ∃ s6, s6 = W5.heap.size + 2 := ⟨_, rfl⟩
  have HS6 : Hid (((W5.alloc (.cells #[.string ⟨#[107]⟩, .int .i64 2] 46)).alloc (.cells (cDrop W5.heap.size) 41)).heap.size ≤ s6) := Lib.hid (by rw [hsz6, hs6]; exact Nat.le_refl _)
  rw [← hs6] at M6
  clear hsz6 hlt6
  obtain ⟨D, hD⟩ : ∃ D, D = W5.heap.size + 1 := ⟨_, rfl⟩
  rw [← hD] at M6 ⊢
  obtain ⟨R, hR⟩ : ∃ R, R = W5.heap.size := ⟨_, rfl⟩
  rw [← hR] at M6 HS6 ⊢
  generalize (W5.alloc (.cells #[.string ⟨#[107]⟩, .int .i64 2] 46)).alloc (.cells (cDrop R) 41) = W6 at M6 HS6 ⊢
  clear hb6 hD hR hs6 k1 t1 k2b hh l5 B5

  go_upto_region 6 with fail
  go_cut [5] (fun v5 wc => ∃ B, v5 = .pointer (some ⟨B, 0, none⟩) ∧ Aside0 (wc.heap[B]? = some (.cells #[.int .i64 (-1), .int .i64 0] 27)) ∧ Aside0 (M w wc s6 K1 T1 K2 H L R D) ∧ Aside0 (Below W6.heap.size W6 wc))
  case first =>
    have MW := Aside0.mk (M6.out.below (Below.refl W6.heap.size W6).drew)
    have BN := Aside0.mk (Below.refl W6.heap.size W6).drew
    go_region_held3 (fun w' => w'.cell? ⟨T1, 0, none⟩ = some (.int .i64 5) ∧ w'.cell? ⟨T1, 1, none⟩ = some (.slice (some ⟨K1, 0, none⟩) 1 1) ∧ w'.cell? ⟨T1, 2, none⟩ = some (.int .u32 0) ∧ w'.cell? ⟨T1, 3, none⟩ = some (.int .i64 0) ∧ w'.cell? ⟨T1, 4, none⟩ = some (.string ⟨#[118]⟩) ∧ w'.cell? ⟨T1, 5, none⟩ = some (.int .u64 0) ∧ w'.cell? ⟨T1, 6, none⟩ = some (.int .u64 0) ∧ w'.cell? ⟨T1, 7, none⟩ = some (.bool false) ∧ w'.cell? ⟨L, 0, none⟩ = some (.int .i64 0) ∧ w'.cell? ⟨L, 1, none⟩ = some (.int .i64 1) ∧ w'.cell? ⟨L, 2, none⟩ = some (.slice (some ⟨K2, 0, none⟩) 1 1) ∧ w'.cell? ⟨L, 3, none⟩ = some (.int .u32 0) ∧ w'.cell? ⟨L, 4, none⟩ = some (.int .i64 0) ∧ w'.cell? ⟨L, 5, none⟩ = some (.string ⟨#[]⟩) ∧ w'.cell? ⟨L, 6, none⟩ = some (.int .u64 0) ∧ w'.cell? ⟨L, 7, none⟩ = some (.int .u64 0) ∧ w'.cell? ⟨L, 8, none⟩ = some (.bool false) ∧ w'.cell? ⟨L, 9, none⟩ = some (.int .i64 5) ∧ w'.cell? ⟨L, 10, none⟩ = some (.int .i64 1) ∧ w'.cell? ⟨L, 11, none⟩ = some (.slice (some ⟨H, 0, none⟩) 1 1) ∧ w'.cell? ⟨L, 12, none⟩ = some (.int .u64 0) ∧ w'.cell? ⟨L, 13, none⟩ = some (.slice none 0 0) ∧ w'.cell? ⟨D, 0, none⟩ = some (.int .i64 6) ∧ w'.cell? ⟨D, 1, none⟩ = some (.int .i64 0) ∧ w'.cell? ⟨D, 2, none⟩ = some (.slice none 0 0) ∧ w'.cell? ⟨D, 3, none⟩ = some (.int .u32 0) ∧ w'.cell? ⟨D, 4, none⟩ = some (.int .i64 0) ∧ w'.cell? ⟨D, 5, none⟩ = some (.string ⟨#[]⟩) ∧ w'.cell? ⟨D, 6, none⟩ = some (.int .u64 0) ∧ w'.cell? ⟨D, 7, none⟩ = some (.int .u64 0) ∧ w'.cell? ⟨D, 8, none⟩ = some (.bool false) ∧ w'.cell? ⟨D, 9, none⟩ = some (.int .i64 5) ∧ w'.cell? ⟨D, 10, none⟩ = some (.int .i64 0) ∧ w'.cell? ⟨D, 11, none⟩ = some (.slice none 0 0) ∧ w'.cell? ⟨D, 12, none⟩ = some (.int .u64 0) ∧ w'.cell? ⟨D, 13, none⟩ = some (.slice (some ⟨R, 0, none⟩) 1 1))
      ((first
        | exact MW.out.all
        | exact (MW.out.alloc _).all
        | exact ((MW.out.alloc _).alloc _).all
        | exact ((MW.out.set (p := ⟨_, 0, none⟩) NZ.out _).set (p := ⟨_, 1, none⟩) NZ.out _).all))
      ((first
        | (go_at_call 8; with_reducible refine (event_c _ 5 0 0 0 0 2 ⟨#[118]⟩ false (some ⟨K1, 0, none⟩) 1 1).mono ?_; rintro e wa ⟨rfl, hb⟩; (first | (have MW' := Aside0.mk (MW.out.below hb); have BN' := Aside0.mk (BN.out.trans (hb.mono BN.out.size))) | (have MW' := Aside0.mk (((M6.out.alloc (.cells #[.int .i64 0, .int .i64 0] 27)).below (Below.refl _ _).drew).below hb); have BN' := Aside0.mk ((((Below.refl W6.heap.size W6).alloc (Nat.le_refl _) (.cells #[.int .i64 0, .int .i64 0] 27)).drew).trans (hb.mono (((Below.refl W6.heap.size W6).alloc (Nat.le_refl _) (.cells #[.int .i64 0, .int .i64 0] 27)).drew).size)); have NZ := Lib.hid (show s6 ≤ W6.heap.size from M6.out.sz); have NW := Lib.hid (Nat.le_refl W6.heap.size); have FZ := Aside0.mk ((hb.block W6.heap.size (drew_new W6 (.cells #[.int .i64 0, .int .i64 0] 27)).2).trans (drew_new W6 (.cells #[.int .i64 0, .int .i64 0] 27)).1))); clear MW BN; (have MW := MW'); (have BN := BN'); clear MW' BN' hb)
        | (go_at_call 6; with_reducible refine (M.checkA (w := w) (s := s6) (K1 := K1) (T1 := T1) (K2 := K2) (H := H) (L := L) (R := R) (D := D) (B := _) ?qm ?qb HV.out).mono ?_; (case qm => (first | exact MW.out.alloc _ | exact (MW.out.alloc _).alloc _)); (case qb => (first | exact heap_alloc_new _ _ | exact heap_alloc2 _ _ _ | exact al1 _ _ _)); rintro e wb ⟨rfl, hm, hb⟩; (first | (have FZ' := Aside0.mk ((hb.block _ (by have := blk_lt FZ.out; rw [size_al]; omega)).trans ((Below.heap_alloc wa (.cells #[.int .i64 0, .int .i64 5, .slice (some ⟨K1, 0, none⟩) 1 1, .int .u32 0, .int .i64 0, .string ⟨#[118]⟩, .int .u64 0, .int .u64 0, .bool false, .int .i64 5, .int .i64 2, .slice none 0 0, .int .u64 0, .slice none 0 0, .int .i64 0, .int .i64 1, .slice (some ⟨K2, 0, none⟩) 1 1, .int .u32 0, .int .i64 0, .string ⟨#[]⟩, .int .u64 0, .int .u64 0, .bool false, .int .i64 5, .int .i64 1, .slice (some ⟨H, 0, none⟩) 1 1, .int .u64 0, .slice none 0 0, .int .i64 6, .int .i64 0, .slice none 0 0, .int .u32 0, .int .i64 0, .string ⟨#[]⟩, .int .u64 0, .int .u64 0, .bool false, .int .i64 5, .int .i64 0, .slice none 0 0, .int .u64 0, .slice (some ⟨R, 0, none⟩) 1 1] 41) _ (blk_lt FZ.out)).trans FZ.out)); clear FZ; (have FZ := FZ'); clear FZ'; (have z0 : wb.cell? ⟨_, 0, none⟩ = some (.int .i64 0) := fresh_cell FZ.out 0); (have z1 : wb.cell? ⟨_, 1, none⟩ = some (.int .i64 0) := fresh_cell FZ.out 1); (have zf0 := fresh_frozen FZ.out 0); (have zf1 := fresh_frozen FZ.out 1); (have BN' := Aside0.mk ((BN.out.alloc BN.out.size _).trans (hb.mono (BN.out.alloc BN.out.size _).size)))) | (have FZ := Aside0.mk ((hb.block wa.heap.size (by rw [size_al, size_al]; omega)).trans (al1 wa (.cells #[.int .i64 0, .int .i64 0] 27) (.cells #[.int .i64 0, .int .i64 5, .slice (some ⟨K1, 0, none⟩) 1 1, .int .u32 0, .int .i64 0, .string ⟨#[118]⟩, .int .u64 0, .int .u64 0, .bool false, .int .i64 5, .int .i64 2, .slice none 0 0, .int .u64 0, .slice none 0 0, .int .i64 0, .int .i64 1, .slice (some ⟨K2, 0, none⟩) 1 1, .int .u32 0, .int .i64 0, .string ⟨#[]⟩, .int .u64 0, .int .u64 0, .bool false, .int .i64 5, .int .i64 1, .slice (some ⟨H, 0, none⟩) 1 1, .int .u64 0, .slice none 0 0, .int .i64 6, .int .i64 0, .slice none 0 0, .int .u32 0, .int .i64 0, .string ⟨#[]⟩, .int .u64 0, .int .u64 0, .bool false, .int .i64 5, .int .i64 0, .slice none 0 0, .int .u64 0, .slice (some ⟨R, 0, none⟩) 1 1] 41))); have NZ := Lib.hid (show s6 ≤ wa.heap.size from MW.out.sz); have NW := Lib.hid (show W6.heap.size ≤ wa.heap.size from BN.out.size); (have z0 : wb.cell? ⟨_, 0, none⟩ = some (.int .i64 0) := fresh_cell FZ.out 0); (have z1 : wb.cell? ⟨_, 1, none⟩ = some (.int .i64 0) := fresh_cell FZ.out 1); (have zf0 := fresh_frozen FZ.out 0); (have zf1 := fresh_frozen FZ.out 1); (have BN' := Aside0.mk (((BN.out.alloc BN.out.size _).alloc (BN.out.alloc BN.out.size _).size _).trans (hb.mono ((BN.out.alloc BN.out.size _).alloc (BN.out.alloc BN.out.size _).size _).size)))) | (have FZ := Aside0.mk ((hb.block (wa.heap.size + 1) (by rw [size_al, size_al]; omega)).trans (heap_alloc2 wa (.cells #[.int .i64 0, .int .i64 5, .slice (some ⟨K1, 0, none⟩) 1 1, .int .u32 0, .int .i64 0, .string ⟨#[118]⟩, .int .u64 0, .int .u64 0, .bool false, .int .i64 5, .int .i64 2, .slice none 0 0, .int .u64 0, .slice none 0 0, .int .i64 0, .int .i64 1, .slice (some ⟨K2, 0, none⟩) 1 1, .int .u32 0, .int .i64 0, .string ⟨#[]⟩, .int .u64 0, .int .u64 0, .bool false, .int .i64 5, .int .i64 1, .slice (some ⟨H, 0, none⟩) 1 1, .int .u64 0, .slice none 0 0, .int .i64 6, .int .i64 0, .slice none 0 0, .int .u32 0, .int .i64 0, .string ⟨#[]⟩, .int .u64 0, .int .u64 0, .bool false, .int .i64 5, .int .i64 0, .slice none 0 0, .int .u64 0, .slice (some ⟨R, 0, none⟩) 1 1] 41) (.cells #[.int .i64 0, .int .i64 0] 27))); have NZ := Lib.hid (show s6 ≤ wa.heap.size + 1 from Nat.le_succ_of_le MW.out.sz); have NW := Lib.hid (show W6.heap.size ≤ wa.heap.size + 1 from Nat.le_succ_of_le BN.out.size); (have z0 : wb.cell? ⟨_, 0, none⟩ = some (.int .i64 0) := fresh_cell FZ.out 0); (have z1 : wb.cell? ⟨_, 1, none⟩ = some (.int .i64 0) := fresh_cell FZ.out 1); (have zf0 := fresh_frozen FZ.out 0); (have zf1 := fresh_frozen FZ.out 1); (have BN' := Aside0.mk (((BN.out.alloc BN.out.size _).alloc (BN.out.alloc BN.out.size _).size _).trans (hb.mono ((BN.out.alloc BN.out.size _).alloc (BN.out.alloc BN.out.size _).size _).size)))) | (have BN' := Aside0.mk ((BN.out.alloc BN.out.size _).trans (hb.mono (BN.out.alloc BN.out.size _).size)))); clear MW BN; (have MW := Aside0.mk hm); (have BN := BN'); clear BN' hm hb)))
    all_goals
      go_wp2_with fail
      go_meet
      case rel =>
        first
          | exact ⟨_, rfl, ⟨heap_alloc_new _ _⟩, ⟨MW.out.alloc _⟩, ⟨BN.out.alloc BN.out.size _⟩⟩
          | exact ⟨_, rfl, ⟨set2 FZ.out _ _⟩, ⟨(MW.out.set (p := ⟨_, 0, none⟩) NZ.out _).set (p := ⟨_, 1, none⟩) NZ.out _⟩, ⟨(BN.out.setCell (p := ⟨_, 0, none⟩) NW.out _).setCell (p := ⟨_, 1, none⟩) NW.out _⟩⟩
  case rest =>
    obtain ⟨BA, rfl, FA, M7, BN⟩ := hcut
    obtain ⟨W7, hW⟩ : ∃ W, W = wc := ⟨_, rfl⟩
    rw [← hW] at FA M7 ⊢
    clear hW BN M6 HS6
    obtain ⟨p0, p1, p2, p3, p4, p5, p6, p7, q0, q1, q2, q3, q4, q5, q6, q7, q8, q9, q10, q11, q12, q13, r0, r1, r2, r3, r4, r5, r6, r7, r8, r9, r10, r11, r12, r13⟩ := M7.out.all
    go_wp2_with fail
    refine (M.checkB (M7.out.alloc (.cells #[.int .i64 0, .int .i64 1, .slice (some ⟨K2, 0, none⟩) 1 1, .int .u32 0, .int .i64 0, .string ⟨#[]⟩, .int .u64 0, .int .u64 0, .bool false, .int .i64 5, .int .i64 1, .slice (some ⟨H, 0, none⟩) 1 1, .int .u64 0, .slice none 0 0] 41)) (heap_alloc_new W7 (.cells #[.int .i64 0, .int .i64 1, .slice (some ⟨K2, 0, none⟩) 1 1, .int .u32 0, .int .i64 0, .string ⟨#[]⟩, .int .u64 0, .int .u64 0, .bool false, .int .i64 5, .int .i64 1, .slice (some ⟨H, 0, none⟩) 1 1, .int .u64 0, .slice none 0 0] 41)) HV.out).mono ?_
    rintro e wb ⟨rfl, hm, hb⟩
    have MW := Aside0.mk hm
    have BN := Aside0.mk (((Below.refl W7.heap.size W7).alloc (Nat.le_refl _) (.cells #[.int .i64 0, .int .i64 1, .slice (some ⟨K2, 0, none⟩) 1 1, .int .u32 0, .int .i64 0, .string ⟨#[]⟩, .int .u64 0, .int .u64 0, .bool false, .int .i64 5, .int .i64 1, .slice (some ⟨H, 0, none⟩) 1 1, .int .u64 0, .slice none 0 0] 41)).trans (hb.mono ((Below.refl W7.heap.size W7).alloc (Nat.le_refl _) (.cells #[.int .i64 0, .int .i64 1, .slice (some ⟨K2, 0, none⟩) 1 1, .int .u32 0, .int .i64 0, .string ⟨#[]⟩, .int .u64 0, .int .u64 0, .bool false, .int .i64 5, .int .i64 1, .slice (some ⟨H, 0, none⟩) 1 1, .int .u64 0, .slice none 0 0] 41)).size))
    clear hm hb p0 p1 p2 p3 p4 p5 p6 p7 q0 q1 q2 q3 q4 q5 q6 q7 q8 q9 q10 q11 q12 q13 r0 r1 r2 r3 r4 r5 r6 r7 r8 r9 r10 r11 r12 r13
    go_upto_region 8 with fail
    have M8 := Aside0.mk (MW.out.alloc (.cells #[.int .i64 0, .int .i64 3] 27))
    have FB := Aside0.mk (heap_alloc_new wb (.cells #[.int .i64 0, .int .i64 3] 27))
    have BX := Aside0.mk (BN.out.alloc BN.out.size (.cells #[.int .i64 0, .int .i64 3] 27))
    have FA' := Aside0.mk ((BX.out.block _ (blk_lt FA.out)).trans FA.out)
    clear FA
    have FA := FA'
    clear FA'
    obtain ⟨BB, hB⟩ : ∃ B, B = wb.heap.size := ⟨_, rfl⟩
    rw [← hB] at FB ⊢
    clear BX
    generalize wb.alloc (.cells #[.int .i64 0, .int .i64 3] 27) = W8 at M8 FB FA ⊢
    clear hB MW BN M7
    obtain ⟨p0, p1, p2, p3, p4, p5, p6, p7, q0, q1, q2, q3, q4, q5, q6, q7, q8, q9, q10, q11, q12, q13, r0, r1, r2, r3, r4, r5, r6, r7, r8, r9, r10, r11, r12, r13⟩ := M8.out.all
    go_wp2_with fail
    refine (M.checkC (M8.out.alloc (.cells #[.int .i64 6, .int .i64 0, .slice none 0 0, .int .u32 0, .int .i64 0, .string ⟨#[]⟩, .int .u64 0, .int .u64 0, .bool false, .int .i64 5, .int .i64 0, .slice none 0 0, .int .u64 0, .slice (some ⟨R, 0, none⟩) 1 1] 41)) (heap_alloc_new W8 (.cells #[.int .i64 6, .int .i64 0, .slice none 0 0, .int .u32 0, .int .i64 0, .string ⟨#[]⟩, .int .u64 0, .int .u64 0, .bool false, .int .i64 5, .int .i64 0, .slice none 0 0, .int .u64 0, .slice (some ⟨R, 0, none⟩) 1 1] 41)) HV.out).mono ?_
    rintro e wb ⟨rfl, hm, hb⟩
    have MW := Aside0.mk hm
    have BN := Aside0.mk (((Below.refl W8.heap.size W8).alloc (Nat.le_refl _) (.cells #[.int .i64 6, .int .i64 0, .slice none 0 0, .int .u32 0, .int .i64 0, .string ⟨#[]⟩, .int .u64 0, .int .u64 0, .bool false, .int .i64 5, .int .i64 0, .slice none 0 0, .int .u64 0, .slice (some ⟨R, 0, none⟩) 1 1] 41)).trans (hb.mono ((Below.refl W8.heap.size W8).alloc (Nat.le_refl _) (.cells #[.int .i64 6, .int .i64 0, .slice none 0 0, .int .u32 0, .int .i64 0, .string ⟨#[]⟩, .int .u64 0, .int .u64 0, .bool false, .int .i64 5, .int .i64 0, .slice none 0 0, .int .u64 0, .slice (some ⟨R, 0, none⟩) 1 1] 41)).size))
    clear hm hb p0 p1 p2 p3 p4 p5 p6 p7 q0 q1 q2 q3 q4 q5 q6 q7 q8 q9 q10 q11 q12 q13 r0 r1 r2 r3 r4 r5 r6 r7 r8 r9 r10 r11 r12 r13
    go_upto_region 9 with fail
    have M9 := Aside0.mk (MW.out.alloc (.cells #[.int .i64 0, .int .i64 1] 27))
    have FC := Aside0.mk (heap_alloc_new wb (.cells #[.int .i64 0, .int .i64 1] 27))
    have BX := Aside0.mk (BN.out.alloc BN.out.size (.cells #[.int .i64 0, .int .i64 1] 27))
    have FA' := Aside0.mk ((BX.out.block _ (blk_lt FA.out)).trans FA.out)
    clear FA
    have FA := FA'
    clear FA'
    have FB' := Aside0.mk ((BX.out.block _ (blk_lt FB.out)).trans FB.out)
    clear FB
    have FB := FB'
    clear FB'
    obtain ⟨BC, hB⟩ : ∃ B, B = wb.heap.size := ⟨_, rfl⟩
    rw [← hB] at FC ⊢
    clear BX
    generalize wb.alloc (.cells #[.int .i64 0, .int .i64 1] 27) = W9 at M9 FC FA FB ⊢
    clear hB MW BN M8
    go_upto_region 9 with fail
    go_cut [8] (fun v8 wc => ∃ B, v8 = .pointer (some ⟨B, 0, none⟩) ∧ Aside0 (wc.heap[B]? = some (.cells #[.int .i64 2, .int .i64 3] 27)) ∧ Aside0 (M w wc s6 K1 T1 K2 H L R D) ∧ Aside0 (Below W9.heap.size W9 wc))
    case first =>
      have MW := Aside0.mk (M9.out.below (Below.refl W9.heap.size W9).drew)
      have BN := Aside0.mk (Below.refl W9.heap.size W9).drew
      go_region_held3 (fun w' => w'.cell? ⟨T1, 0, none⟩ = some (.int .i64 5) ∧ w'.cell? ⟨T1, 1, none⟩ = some (.slice (some ⟨K1, 0, none⟩) 1 1) ∧ w'.cell? ⟨T1, 2, none⟩ = some (.int .u32 0) ∧ w'.cell? ⟨T1, 3, none⟩ = some (.int .i64 0) ∧ w'.cell? ⟨T1, 4, none⟩ = some (.string ⟨#[118]⟩) ∧ w'.cell? ⟨T1, 5, none⟩ = some (.int .u64 0) ∧ w'.cell? ⟨T1, 6, none⟩ = some (.int .u64 0) ∧ w'.cell? ⟨T1, 7, none⟩ = some (.bool false) ∧ w'.cell? ⟨L, 0, none⟩ = some (.int .i64 0) ∧ w'.cell? ⟨L, 1, none⟩ = some (.int .i64 1) ∧ w'.cell? ⟨L, 2, none⟩ = some (.slice (some ⟨K2, 0, none⟩) 1 1) ∧ w'.cell? ⟨L, 3, none⟩ = some (.int .u32 0) ∧ w'.cell? ⟨L, 4, none⟩ = some (.int .i64 0) ∧ w'.cell? ⟨L, 5, none⟩ = some (.string ⟨#[]⟩) ∧ w'.cell? ⟨L, 6, none⟩ = some (.int .u64 0) ∧ w'.cell? ⟨L, 7, none⟩ = some (.int .u64 0) ∧ w'.cell? ⟨L, 8, none⟩ = some (.bool false) ∧ w'.cell? ⟨L, 9, none⟩ = some (.int .i64 5) ∧ w'.cell? ⟨L, 10, none⟩ = some (.int .i64 1) ∧ w'.cell? ⟨L, 11, none⟩ = some (.slice (some ⟨H, 0, none⟩) 1 1) ∧ w'.cell? ⟨L, 12, none⟩ = some (.int .u64 0) ∧ w'.cell? ⟨L, 13, none⟩ = some (.slice none 0 0) ∧ w'.cell? ⟨D, 0, none⟩ = some (.int .i64 6) ∧ w'.cell? ⟨D, 1, none⟩ = some (.int .i64 0) ∧ w'.cell? ⟨D, 2, none⟩ = some (.slice none 0 0) ∧ w'.cell? ⟨D, 3, none⟩ = some (.int .u32 0) ∧ w'.cell? ⟨D, 4, none⟩ = some (.int .i64 0) ∧ w'.cell? ⟨D, 5, none⟩ = some (.string ⟨#[]⟩) ∧ w'.cell? ⟨D, 6, none⟩ = some (.int .u64 0) ∧ w'.cell? ⟨D, 7, none⟩ = some (.int .u64 0) ∧ w'.cell? ⟨D, 8, none⟩ = some (.bool false) ∧ w'.cell? ⟨D, 9, none⟩ = some (.int .i64 5) ∧ w'.cell? ⟨D, 10, none⟩ = some (.int .i64 0) ∧ w'.cell? ⟨D, 11, none⟩ = some (.slice none 0 0) ∧ w'.cell? ⟨D, 12, none⟩ = some (.int .u64 0) ∧ w'.cell? ⟨D, 13, none⟩ = some (.slice (some ⟨R, 0, none⟩) 1 1))
        ((first
          | exact MW.out.all
          | exact (MW.out.alloc _).all
          | exact ((MW.out.alloc _).alloc _).all
          | exact ((MW.out.set (p := ⟨_, 0, none⟩) NZ.out _).set (p := ⟨_, 1, none⟩) NZ.out _).all))
        ((first
          | (go_at_call 8; with_reducible refine (event_c _ 5 0 0 0 0 2 ⟨#[118]⟩ false (some ⟨K1, 0, none⟩) 1 1).mono ?_; rintro e wa ⟨rfl, hb⟩; (first | (have MW' := Aside0.mk (MW.out.below hb); have BN' := Aside0.mk (BN.out.trans (hb.mono BN.out.size))) | (have MW' := Aside0.mk (((M9.out.alloc (.cells #[.int .i64 0, .int .i64 0] 27)).below (Below.refl _ _).drew).below hb); have BN' := Aside0.mk ((((Below.refl W9.heap.size W9).alloc (Nat.le_refl _) (.cells #[.int .i64 0, .int .i64 0] 27)).drew).trans (hb.mono (((Below.refl W9.heap.size W9).alloc (Nat.le_refl _) (.cells #[.int .i64 0, .int .i64 0] 27)).drew).size)); have NZ := Lib.hid (show s6 ≤ W9.heap.size from M9.out.sz); have NW := Lib.hid (Nat.le_refl W9.heap.size); have FZ := Aside0.mk ((hb.block W9.heap.size (drew_new W9 (.cells #[.int .i64 0, .int .i64 0] 27)).2).trans (drew_new W9 (.cells #[.int .i64 0, .int .i64 0] 27)).1))); clear MW BN; (have MW := MW'); (have BN := BN'); clear MW' BN' hb)
          | (go_at_call 6; with_reducible refine (M.checkD (w := w) (s := s6) (K1 := K1) (T1 := T1) (K2 := K2) (H := H) (L := L) (R := R) (D := D) (B := _) ?qm ?qb HV.out).mono ?_; (case qm => (first | exact MW.out.alloc _ | exact (MW.out.alloc _).alloc _)); (case qb => (first | exact heap_alloc_new _ _ | exact heap_alloc2 _ _ _ | exact al1 _ _ _)); rintro e wb ⟨rfl, hm, hb⟩; (first | (have FZ' := Aside0.mk ((hb.block _ (by have := blk_lt FZ.out; rw [size_al]; omega)).trans ((Below.heap_alloc wa (.cells #[.int .i64 0, .int .i64 5, .slice (some ⟨K1, 0, none⟩) 1 1, .int .u32 0, .int .i64 0, .string ⟨#[118]⟩, .int .u64 0, .int .u64 0, .bool false, .int .i64 5, .int .i64 2, .slice none 0 0, .int .u64 0, .slice none 0 0, .int .i64 6, .int .i64 0, .slice none 0 0, .int .u32 0, .int .i64 0, .string ⟨#[]⟩, .int .u64 0, .int .u64 0, .bool false, .int .i64 5, .int .i64 0, .slice none 0 0, .int .u64 0, .slice (some ⟨R, 0, none⟩) 1 1, .int .i64 0, .int .i64 1, .slice (some ⟨K2, 0, none⟩) 1 1, .int .u32 0, .int .i64 0, .string ⟨#[]⟩, .int .u64 0, .int .u64 0, .bool false, .int .i64 5, .int .i64 1, .slice (some ⟨H, 0, none⟩) 1 1, .int .u64 0, .slice none 0 0] 41) _ (blk_lt FZ.out)).trans FZ.out)); clear FZ; (have FZ := FZ'); clear FZ'; (have z0 : wb.cell? ⟨_, 0, none⟩ = some (.int .i64 0) := fresh_cell FZ.out 0); (have z1 : wb.cell? ⟨_, 1, none⟩ = some (.int .i64 0) := fresh_cell FZ.out 1); (have zf0 := fresh_frozen FZ.out 0); (have zf1 := fresh_frozen FZ.out 1); (have BN' := Aside0.mk ((BN.out.alloc BN.out.size _).trans (hb.mono (BN.out.alloc BN.out.size _).size)))) | (have FZ := Aside0.mk ((hb.block wa.heap.size (by rw [size_al, size_al]; omega)).trans (al1 wa (.cells #[.int .i64 0, .int .i64 0] 27) (.cells #[.int .i64 0, .int .i64 5, .slice (some ⟨K1, 0, none⟩) 1 1, .int .u32 0, .int .i64 0, .string ⟨#[118]⟩, .int .u64 0, .int .u64 0, .bool false, .int .i64 5, .int .i64 2, .slice none 0 0, .int .u64 0, .slice none 0 0, .int .i64 6, .int .i64 0, .slice none 0 0, .int .u32 0, .int .i64 0, .string ⟨#[]⟩, .int .u64 0, .int .u64 0, .bool false, .int .i64 5, .int .i64 0, .slice none 0 0, .int .u64 0, .slice (some ⟨R, 0, none⟩) 1 1, .int .i64 0, .int .i64 1, .slice (some ⟨K2, 0, none⟩) 1 1, .int .u32 0, .int .i64 0, .string ⟨#[]⟩, .int .u64 0, .int .u64 0, .bool false, .int .i64 5, .int .i64 1, .slice (some ⟨H, 0, none⟩) 1 1, .int .u64 0, .slice none 0 0] 41))); have NZ := Lib.hid (show s6 ≤ wa.heap.size from MW.out.sz); have NW := Lib.hid (show W9.heap.size ≤ wa.heap.size from BN.out.size); (have z0 : wb.cell? ⟨_, 0, none⟩ = some (.int .i64 0) := fresh_cell FZ.out 0); (have z1 : wb.cell? ⟨_, 1, none⟩ = some (.int .i64 0) := fresh_cell FZ.out 1); (have zf0 := fresh_frozen FZ.out 0); (have zf1 := fresh_frozen FZ.out 1); (have BN' := Aside0.mk (((BN.out.alloc BN.out.size _).alloc (BN.out.alloc BN.out.size _).size _).trans (hb.mono ((BN.out.alloc BN.out.size _).alloc (BN.out.alloc BN.out.size _).size _).size)))) | (have FZ := Aside0.mk ((hb.block (wa.heap.size + 1) (by rw [size_al, size_al]; omega)).trans (heap_alloc2 wa (.cells #[.int .i64 0, .int .i64 5, .slice (some ⟨K1, 0, none⟩) 1 1, .int .u32 0, .int .i64 0, .string ⟨#[118]⟩, .int .u64 0, .int .u64 0, .bool false, .int .i64 5, .int .i64 2, .slice none 0 0, .int .u64 0, .slice none 0 0, .int .i64 6, .int .i64 0, .slice none 0 0, .int .u32 0, .int .i64 0, .string ⟨#[]⟩, .int .u64 0, .int .u64 0, .bool false, .int .i64 5, .int .i64 0, .slice none 0 0, .int .u64 0, .slice (some ⟨R, 0, none⟩) 1 1, .int .i64 0, .int .i64 1, .slice (some ⟨K2, 0, none⟩) 1 1, .int .u32 0, .int .i64 0, .string ⟨#[]⟩, .int .u64 0, .int .u64 0, .bool false, .int .i64 5, .int .i64 1, .slice (some ⟨H, 0, none⟩) 1 1, .int .u64 0, .slice none 0 0] 41) (.cells #[.int .i64 0, .int .i64 0] 27))); have NZ := Lib.hid (show s6 ≤ wa.heap.size + 1 from Nat.le_succ_of_le MW.out.sz); have NW := Lib.hid (show W9.heap.size ≤ wa.heap.size + 1 from Nat.le_succ_of_le BN.out.size); (have z0 : wb.cell? ⟨_, 0, none⟩ = some (.int .i64 0) := fresh_cell FZ.out 0); (have z1 : wb.cell? ⟨_, 1, none⟩ = some (.int .i64 0) := fresh_cell FZ.out 1); (have zf0 := fresh_frozen FZ.out 0); (have zf1 := fresh_frozen FZ.out 1); (have BN' := Aside0.mk (((BN.out.alloc BN.out.size _).alloc (BN.out.alloc BN.out.size _).size _).trans (hb.mono ((BN.out.alloc BN.out.size _).alloc (BN.out.alloc BN.out.size _).size _).size)))) | (have BN' := Aside0.mk ((BN.out.alloc BN.out.size _).trans (hb.mono (BN.out.alloc BN.out.size _).size)))); clear MW BN; (have MW := Aside0.mk hm); (have BN := BN'); clear BN' hm hb)))
      all_goals
        go_wp2_with fail
        go_meet
        case rel =>
          first
            | exact ⟨_, rfl, ⟨heap_alloc_new _ _⟩, ⟨MW.out.alloc _⟩, ⟨BN.out.alloc BN.out.size _⟩⟩
            | exact ⟨_, rfl, ⟨set2 FZ.out _ _⟩, ⟨(MW.out.set (p := ⟨_, 0, none⟩) NZ.out _).set (p := ⟨_, 1, none⟩) NZ.out _⟩, ⟨(BN.out.setCell (p := ⟨_, 0, none⟩) NW.out _).setCell (p := ⟨_, 1, none⟩) NW.out _⟩⟩
    case rest =>
      obtain ⟨BD, rfl, FD, M10, BN⟩ := hcut
      have FA' := Aside0.mk ((BN.out.block _ (blk_lt FA.out)).trans FA.out)
      clear FA
      have FA := FA'
      clear FA'
      have FB' := Aside0.mk ((BN.out.block _ (blk_lt FB.out)).trans FB.out)
      clear FB
      have FB := FB'
      clear FB'
      have FC' := Aside0.mk ((BN.out.block _ (blk_lt FC.out)).trans FC.out)
      clear FC
      have FC := FC'
      clear FC'
      obtain ⟨W10, hW⟩ : ∃ W, W = wc := ⟨_, rfl⟩
      rw [← hW] at FD M10 FA FB FC ⊢
      clear hW BN M9
      obtain ⟨p0, p1, p2, p3, p4, p5, p6, p7, q0, q1, q2, q3, q4, q5, q6, q7, q8, q9, q10, q11, q12, q13, r0, r1, r2, r3, r4, r5, r6, r7, r8, r9, r10, r11, r12, r13⟩ := M10.out.all
      go_wp2_with fail
      refine (event_c _ 5 0 0 0 0 2 ⟨#[118]⟩ false (some ⟨K1, 0, none⟩) 1 1).mono ?_
      rintro e wa ⟨rfl, hb⟩
      have MA := Aside0.mk (M10.out.below hb)
      have BN := Aside0.mk hb
      clear hb p0 p1 p2 p3 p4 p5 p6 p7 q0 q1 q2 q3 q4 q5 q6 q7 q8 q9 q10 q11 q12 q13 r0 r1 r2 r3 r4 r5 r6 r7 r8 r9 r10 r11 r12 r13
      go_wp2_with fail
      refine (M.last (MA.out.alloc (.cells #[.int .i64 0, .int .i64 5, .slice (some ⟨K1, 0, none⟩) 1 1, .int .u32 0, .int .i64 0, .string ⟨#[118]⟩, .int .u64 0, .int .u64 0, .bool false, .int .i64 5, .int .i64 2, .slice none 0 0, .int .u64 0, .slice none 0 0] 41)) (heap_alloc_new wa (.cells #[.int .i64 0, .int .i64 5, .slice (some ⟨K1, 0, none⟩) 1 1, .int .u32 0, .int .i64 0, .string ⟨#[118]⟩, .int .u64 0, .int .u64 0, .bool false, .int .i64 5, .int .i64 2, .slice none 0 0, .int .u64 0, .slice none 0 0] 41)) HV.out).mono ?_
      rintro e wb ⟨a, b, ca, cb, rfl, ha, hbb, hm, hb⟩
      have M11 := Aside0.mk hm
      have BX := Aside0.mk ((BN.out.alloc BN.out.size (.cells #[.int .i64 0, .int .i64 5, .slice (some ⟨K1, 0, none⟩) 1 1, .int .u32 0, .int .i64 0, .string ⟨#[118]⟩, .int .u64 0, .int .u64 0, .bool false, .int .i64 5, .int .i64 2, .slice none 0 0, .int .u64 0, .slice none 0 0] 41)).trans (hb.mono (BN.out.alloc BN.out.size (.cells #[.int .i64 0, .int .i64 5, .slice (some ⟨K1, 0, none⟩) 1 1, .int .u32 0, .int .i64 0, .string ⟨#[118]⟩, .int .u64 0, .int .u64 0, .bool false, .int .i64 5, .int .i64 2, .slice none 0 0, .int .u64 0, .slice none 0 0] 41)).size))
      have FA' := Aside0.mk ((BX.out.block _ (blk_lt FA.out)).trans FA.out)
      clear FA
      have FA := FA'
      clear FA'
      have FB' := Aside0.mk ((BX.out.block _ (blk_lt FB.out)).trans FB.out)
      clear FB
      have FB := FB'
      clear FB'
      have FC' := Aside0.mk ((BX.out.block _ (blk_lt FC.out)).trans FC.out)
      clear FC
      have FC := FC'
      clear FC'
      have FD' := Aside0.mk ((BX.out.block _ (blk_lt FD.out)).trans FD.out)
      clear FD
      have FD := FD'
      clear FD'
      have zA0 : wb.cell? ⟨BA, 0, none⟩ = some (.int .i64 (-1)) := fresh_cell FA.out 0
      have zA1 : wb.cell? ⟨BA, 1, none⟩ = some (.int .i64 0) := fresh_cell FA.out 1
      have zB0 : wb.cell? ⟨BB, 0, none⟩ = some (.int .i64 0) := fresh_cell FB.out 0
      have zB1 : wb.cell? ⟨BB, 1, none⟩ = some (.int .i64 3) := fresh_cell FB.out 1
      have zC0 : wb.cell? ⟨BC, 0, none⟩ = some (.int .i64 0) := fresh_cell FC.out 0
      have zC1 : wb.cell? ⟨BC, 1, none⟩ = some (.int .i64 1) := fresh_cell FC.out 1
      have zD0 : wb.cell? ⟨BD, 0, none⟩ = some (.int .i64 2) := fresh_cell FD.out 0
      have zD1 : wb.cell? ⟨BD, 1, none⟩ = some (.int .i64 3) := fresh_cell FD.out 1
      obtain ⟨p0, p1, p2, p3, p4, p5, p6, p7, q0, q1, q2, q3, q4, q5, q6, q7, q8, q9, q10, q11, q12, q13, r0, r1, r2, r3, r4, r5, r6, r7, r8, r9, r10, r11, r12, r13⟩ := M11.out.all
      clear hm hb BX BN MA M10 FA FB FC FD p0 p1 p2 p3 p4 p5 p6 p7 q0 q1 q2 q3 q4 q5 q6 q7 q8 q9 q10 q11 q12 q13
      go_wp2_with fail
      refine (M.total (M11.out.alloc (.cells #[.int .i64 6, .int .i64 0, .slice none 0 0, .int .u32 0, .int .i64 0, .string ⟨#[]⟩, .int .u64 0, .int .u64 0, .bool false, .int .i64 5, .int .i64 0, .slice none 0 0, .int .u64 0, .slice (some ⟨R, 0, none⟩) 1 1] 41)) (heap_alloc_new wb (.cells #[.int .i64 6, .int .i64 0, .slice none 0 0, .int .u32 0, .int .i64 0, .string ⟨#[]⟩, .int .u64 0, .int .u64 0, .bool false, .int .i64 5, .int .i64 0, .slice none 0 0, .int .u64 0, .slice (some ⟨R, 0, none⟩) 1 1] 41))).mono ?_
      rintro e wt ⟨rfl, hm, hb⟩
      have BF := Aside0.mk hm.bel
      clear hm hb M11
      have heq := eqTot wt
      go_wp2
      go_ret
      exact ⟨rfl, BF.out⟩
end Go.Proofs.YtdihoopofhediaaGreatDoor.Wp
end
section
namespace Go.Proofs.YtdihoopofhediaaGreatDoor.Wp
open Go.RowKit Go.Proofs.YtdihoopofhediaaGreatDoorW.PrintWords Go.Proofs.YtdihoopofhediaaGreatDoorW.PrintLast Go.Proofs.YtdihoopofhediaaGreatDoorW.PrintMore Go.WideMaps Go.Proofs.YtdihoopofhediaaGreatDoor.XMd Go.Proofs.YtdihoopofhediaaGreatDoor.Mdl
set_option linter.unusedVariables false
set_option linter.unusedSimpArgs false
attribute [local go_sem ↓] Go.wp_at_zero Go.wp_at_succ
abbrev X := S60
def toY : X → Y := tallboylaw25_To.ev
def toD : S68 → S46 := tallboylaw25_To.drop
def toH : S72 → S44 := tallboylaw25_To.hit
theorem own_is (x : S35) (h : x.f1.length < 8796093022208) : tallboylaw15_Own.f x.f0 x.f1 x.f2 x.f3 x.f4 x.f5 x.f6 x.f7 = some (x.f0, x.f1, x.f2, x.f3, x.f4, x.f5, x.f6, x.f7) := by
  unfold tallboylaw15_Own.f
  simp only [Option.bind_some, List.length_nil, Nat.zero_add, List.nil_append]
  rw [if_pos (by omega)]
theorem to18_loop (code n : Int) (hits : List S72) (hl : hits.length ≤ 2932031007317) : ∀ (d i : Nat), i + d = hits.length → ∀ k, d < k →
    tallboylaw18_To.l0 k (i : Int) code hits n code ((hits.take i).map toH) n = some (code, hits.map toH, n)
  | 0, i, hi, k, hk => by
    obtain ⟨k, rfl⟩ : ∃ m, k = m + 1 := ⟨k - 1, by omega⟩
    unfold tallboylaw18_To.l0
    rw [if_neg (by omega), List.take_of_length_le (by omega)]
  | d + 1, i, hi, k, hk => by
    obtain ⟨k, rfl⟩ : ∃ m, k = m + 1 := ⟨k - 1, by omega⟩
    unfold tallboylaw18_To.l0
    have hlt : i < hits.length := by omega
    rw [if_pos (by omega), if_pos (by omega), if_pos (by rw [List.length_map, List.length_take]; omega)]
    rw [show wrap64 ((i : Int) + 1) = ((i + 1 : Nat) : Int) from by unfold wrap64; omega]
    have e : (hits.take i).map toH ++ [(⟨(rd_T72 hits (i : Int)).f0, (rd_T72 hits (i : Int)).f1, (rd_T72 hits (i : Int)).f2, (rd_T72 hits (i : Int)).f3⟩ : S44)] = (hits.take (i + 1)).map toH := by
      have hr : rd_T72 hits (i : Int) = hits[i] := by
        unfold rd_T72
        rw [Int.toNat_natCast, List.getD_eq_getElem?_getD, List.getElem?_eq_getElem hlt]; rfl
      rw [hr, List.take_add_one, List.getElem?_eq_getElem hlt, List.map_append]
      rfl
    rw [e]
    exact to18_loop code n hits hl d (i + 1) (by omega) k (by omega)
theorem to18_is (x : S57) (hl : x.f1.length ≤ 2932031007317) : tallboylaw18_To.f (x.f1.length + 1) x.f0 x.f1 x.f2 = some (x.f0, x.f1.map toH, x.f2) :=
  to18_loop x.f0 x.f2 x.f1 hl x.f1.length 0 (by omega) _ (by omega)
theorem set14 {w : World} {T : Nat} {x0 x1 x2 x3 x4 x5 x6 x7 x8 x9 x10 x11 x12 x13 a0 a1 a2 a3 a4 a5 a6 a7 a8 a9 a10 a11 a12 a13 : Value} {t : TypeId} (h : w.heap[T]? = some (.cells #[x0, x1, x2, x3, x4, x5, x6, x7, x8, x9, x10, x11, x12, x13] t)) : ((((((((((((((w.setCell ⟨T, 0, none⟩ a0).setCell ⟨T, 1, none⟩ a1).setCell ⟨T, 2, none⟩ a2).setCell ⟨T, 3, none⟩ a3).setCell ⟨T, 4, none⟩ a4).setCell ⟨T, 5, none⟩ a5).setCell ⟨T, 6, none⟩ a6).setCell ⟨T, 7, none⟩ a7).setCell ⟨T, 8, none⟩ a8).setCell ⟨T, 9, none⟩ a9).setCell ⟨T, 10, none⟩ a10).setCell ⟨T, 11, none⟩ a11).setCell ⟨T, 12, none⟩ a12).setCell ⟨T, 13, none⟩ a13).heap[T]? = some (.cells #[a0, a1, a2, a3, a4, a5, a6, a7, a8, a9, a10, a11, a12, a13] t) := by
  have h1 : (w.setCell ⟨T, 0, none⟩ a0).heap[T]? = some (.cells #[a0, x1, x2, x3, x4, x5, x6, x7, x8, x9, x10, x11, x12, x13] t) := Lib.heap_setCell_same (i := 0) h a0
  have h2 : ((w.setCell ⟨T, 0, none⟩ a0).setCell ⟨T, 1, none⟩ a1).heap[T]? = some (.cells #[a0, a1, x2, x3, x4, x5, x6, x7, x8, x9, x10, x11, x12, x13] t) := Lib.heap_setCell_same (i := 1) h1 a1
  have h3 : (((w.setCell ⟨T, 0, none⟩ a0).setCell ⟨T, 1, none⟩ a1).setCell ⟨T, 2, none⟩ a2).heap[T]? = some (.cells #[a0, a1, a2, x3, x4, x5, x6, x7, x8, x9, x10, x11, x12, x13] t) := Lib.heap_setCell_same (i := 2) h2 a2
  have h4 : ((((w.setCell ⟨T, 0, none⟩ a0).setCell ⟨T, 1, none⟩ a1).setCell ⟨T, 2, none⟩ a2).setCell ⟨T, 3, none⟩ a3).heap[T]? = some (.cells #[a0, a1, a2, a3, x4, x5, x6, x7, x8, x9, x10, x11, x12, x13] t) := Lib.heap_setCell_same (i := 3) h3 a3
  have h5 : (((((w.setCell ⟨T, 0, none⟩ a0).setCell ⟨T, 1, none⟩ a1).setCell ⟨T, 2, none⟩ a2).setCell ⟨T, 3, none⟩ a3).setCell ⟨T, 4, none⟩ a4).heap[T]? = some (.cells #[a0, a1, a2, a3, a4, x5, x6, x7, x8, x9, x10, x11, x12, x13] t) := Lib.heap_setCell_same (i := 4) h4 a4
  have h6 : ((((((w.setCell ⟨T, 0, none⟩ a0).setCell ⟨T, 1, none⟩ a1).setCell ⟨T, 2, none⟩ a2).setCell ⟨T, 3, none⟩ a3).setCell ⟨T, 4, none⟩ a4).setCell ⟨T, 5, none⟩ a5).heap[T]? = some (.cells #[a0, a1, a2, a3, a4, a5, x6, x7, x8, x9, x10, x11, x12, x13] t) := Lib.heap_setCell_same (i := 5) h5 a5
  have h7 : (((((((w.setCell ⟨T, 0, none⟩ a0).setCell ⟨T, 1, none⟩ a1).setCell ⟨T, 2, none⟩ a2).setCell ⟨T, 3, none⟩ a3).setCell ⟨T, 4, none⟩ a4).setCell ⟨T, 5, none⟩ a5).setCell ⟨T, 6, none⟩ a6).heap[T]? = some (.cells #[a0, a1, a2, a3, a4, a5, a6, x7, x8, x9, x10, x11, x12, x13] t) := Lib.heap_setCell_same (i := 6) h6 a6
  have h8 : ((((((((w.setCell ⟨T, 0, none⟩ a0).setCell ⟨T, 1, none⟩ a1).setCell ⟨T, 2, none⟩ a2).setCell ⟨T, 3, none⟩ a3).setCell ⟨T, 4, none⟩ a4).setCell ⟨T, 5, none⟩ a5).setCell ⟨T, 6, none⟩ a6).setCell ⟨T, 7, none⟩ a7).heap[T]? = some (.cells #[a0, a1, a2, a3, a4, a5, a6, a7, x8, x9, x10, x11, x12, x13] t) := Lib.heap_setCell_same (i := 7) h7 a7
  have h9 : (((((((((w.setCell ⟨T, 0, none⟩ a0).setCell ⟨T, 1, none⟩ a1).setCell ⟨T, 2, none⟩ a2).setCell ⟨T, 3, none⟩ a3).setCell ⟨T, 4, none⟩ a4).setCell ⟨T, 5, none⟩ a5).setCell ⟨T, 6, none⟩ a6).setCell ⟨T, 7, none⟩ a7).setCell ⟨T, 8, none⟩ a8).heap[T]? = some (.cells #[a0, a1, a2, a3, a4, a5, a6, a7, a8, x9, x10, x11, x12, x13] t) := Lib.heap_setCell_same (i := 8) h8 a8
  have h10 : ((((((((((w.setCell ⟨T, 0, none⟩ a0).setCell ⟨T, 1, none⟩ a1).setCell ⟨T, 2, none⟩ a2).setCell ⟨T, 3, none⟩ a3).setCell ⟨T, 4, none⟩ a4).setCell ⟨T, 5, none⟩ a5).setCell ⟨T, 6, none⟩ a6).setCell ⟨T, 7, none⟩ a7).setCell ⟨T, 8, none⟩ a8).setCell ⟨T, 9, none⟩ a9).heap[T]? = some (.cells #[a0, a1, a2, a3, a4, a5, a6, a7, a8, a9, x10, x11, x12, x13] t) := Lib.heap_setCell_same (i := 9) h9 a9
  have h11 : (((((((((((w.setCell ⟨T, 0, none⟩ a0).setCell ⟨T, 1, none⟩ a1).setCell ⟨T, 2, none⟩ a2).setCell ⟨T, 3, none⟩ a3).setCell ⟨T, 4, none⟩ a4).setCell ⟨T, 5, none⟩ a5).setCell ⟨T, 6, none⟩ a6).setCell ⟨T, 7, none⟩ a7).setCell ⟨T, 8, none⟩ a8).setCell ⟨T, 9, none⟩ a9).setCell ⟨T, 10, none⟩ a10).heap[T]? = some (.cells #[a0, a1, a2, a3, a4, a5, a6, a7, a8, a9, a10, x11, x12, x13] t) := Lib.heap_setCell_same (i := 10) h10 a10
  have h12 : ((((((((((((w.setCell ⟨T, 0, none⟩ a0).setCell ⟨T, 1, none⟩ a1).setCell ⟨T, 2, none⟩ a2).setCell ⟨T, 3, none⟩ a3).setCell ⟨T, 4, none⟩ a4).setCell ⟨T, 5, none⟩ a5).setCell ⟨T, 6, none⟩ a6).setCell ⟨T, 7, none⟩ a7).setCell ⟨T, 8, none⟩ a8).setCell ⟨T, 9, none⟩ a9).setCell ⟨T, 10, none⟩ a10).setCell ⟨T, 11, none⟩ a11).heap[T]? = some (.cells #[a0, a1, a2, a3, a4, a5, a6, a7, a8, a9, a10, a11, x12, x13] t) := Lib.heap_setCell_same (i := 11) h11 a11
  have h13 : (((((((((((((w.setCell ⟨T, 0, none⟩ a0).setCell ⟨T, 1, none⟩ a1).setCell ⟨T, 2, none⟩ a2).setCell ⟨T, 3, none⟩ a3).setCell ⟨T, 4, none⟩ a4).setCell ⟨T, 5, none⟩ a5).setCell ⟨T, 6, none⟩ a6).setCell ⟨T, 7, none⟩ a7).setCell ⟨T, 8, none⟩ a8).setCell ⟨T, 9, none⟩ a9).setCell ⟨T, 10, none⟩ a10).setCell ⟨T, 11, none⟩ a11).setCell ⟨T, 12, none⟩ a12).heap[T]? = some (.cells #[a0, a1, a2, a3, a4, a5, a6, a7, a8, a9, a10, a11, a12, x13] t) := Lib.heap_setCell_same (i := 12) h12 a12
  have h14 : ((((((((((((((w.setCell ⟨T, 0, none⟩ a0).setCell ⟨T, 1, none⟩ a1).setCell ⟨T, 2, none⟩ a2).setCell ⟨T, 3, none⟩ a3).setCell ⟨T, 4, none⟩ a4).setCell ⟨T, 5, none⟩ a5).setCell ⟨T, 6, none⟩ a6).setCell ⟨T, 7, none⟩ a7).setCell ⟨T, 8, none⟩ a8).setCell ⟨T, 9, none⟩ a9).setCell ⟨T, 10, none⟩ a10).setCell ⟨T, 11, none⟩ a11).setCell ⟨T, 12, none⟩ a12).setCell ⟨T, 13, none⟩ a13).heap[T]? = some (.cells #[a0, a1, a2, a3, a4, a5, a6, a7, a8, a9, a10, a11, a12, a13] t) := Lib.heap_setCell_same (i := 13) h13 a13
  exact h14
theorem far14 {w : World} {T : Nat} {a0 a1 a2 a3 a4 a5 a6 a7 a8 a9 a10 a11 a12 a13 : Value} {k : Nat} (h : k ≠ T) : ((((((((((((((w.setCell ⟨T, 0, none⟩ a0).setCell ⟨T, 1, none⟩ a1).setCell ⟨T, 2, none⟩ a2).setCell ⟨T, 3, none⟩ a3).setCell ⟨T, 4, none⟩ a4).setCell ⟨T, 5, none⟩ a5).setCell ⟨T, 6, none⟩ a6).setCell ⟨T, 7, none⟩ a7).setCell ⟨T, 8, none⟩ a8).setCell ⟨T, 9, none⟩ a9).setCell ⟨T, 10, none⟩ a10).setCell ⟨T, 11, none⟩ a11).setCell ⟨T, 12, none⟩ a12).setCell ⟨T, 13, none⟩ a13).heap[k]? = w.heap[k]? :=
  (Below.heap_setCell _ _ _ k h).trans ((Below.heap_setCell _ _ _ k h).trans ((Below.heap_setCell _ _ _ k h).trans ((Below.heap_setCell _ _ _ k h).trans ((Below.heap_setCell _ _ _ k h).trans ((Below.heap_setCell _ _ _ k h).trans ((Below.heap_setCell _ _ _ k h).trans ((Below.heap_setCell _ _ _ k h).trans ((Below.heap_setCell _ _ _ k h).trans ((Below.heap_setCell _ _ _ k h).trans ((Below.heap_setCell _ _ _ k h).trans ((Below.heap_setCell _ _ _ k h).trans ((Below.heap_setCell _ _ _ k h).trans (Below.heap_setCell _ _ _ k h)))))))))))))
theorem below14 {w0 w : World} {B T : Nat} {a0 a1 a2 a3 a4 a5 a6 a7 a8 a9 a10 a11 a12 a13 : Value} (h : Below B w0 w) (hT : B ≤ T) : Below B w0 ((((((((((((((w.setCell ⟨T, 0, none⟩ a0).setCell ⟨T, 1, none⟩ a1).setCell ⟨T, 2, none⟩ a2).setCell ⟨T, 3, none⟩ a3).setCell ⟨T, 4, none⟩ a4).setCell ⟨T, 5, none⟩ a5).setCell ⟨T, 6, none⟩ a6).setCell ⟨T, 7, none⟩ a7).setCell ⟨T, 8, none⟩ a8).setCell ⟨T, 9, none⟩ a9).setCell ⟨T, 10, none⟩ a10).setCell ⟨T, 11, none⟩ a11).setCell ⟨T, 12, none⟩ a12).setCell ⟨T, 13, none⟩ a13) :=
  (((((((((((((h.setCell hT _).setCell hT _).setCell hT _).setCell hT _).setCell hT _).setCell hT _).setCell hT _).setCell hT _).setCell hT _).setCell hT _).setCell hT _).setCell hT _).setCell hT _).setCell hT _
theorem R_up {α : Type} {d : Kd α} {e : Nat} {w : World} {b0 b1 : Nat} {v : Value} {xs : List α} (h : d.R e w b1 (fun _ => True) v xs) (hb : b0 ≤ b1) : d.R e w b0 (fun k => b0 ≤ k) v xs :=
  Kd.R_lower (Kd.R_mono (Kd.R_bound h) (fun k hk => Nat.le_trans hb hk.2.1)) hb
theorem R_new {α : Type} {d : Kd α} {e : Nat} {w : World} {b0 : Nat} {v : Value} {xs : List α} (h : d.R e w b0 (fun k => b0 ≤ k) v xs) (o : Obj) : d.R e (w.alloc o) b0 (fun k => b0 ≤ k ∧ k ≠ w.heap.size) v xs :=
  Kd.R_step (Kd.R_mono (Kd.R_bound h) (fun k hk => ⟨hk.1, by have := hk.2.2.1; omega⟩)) (fun k _ hk => Below.heap_alloc w o k hk)
theorem R_away {α : Type} {d : Kd α} {e : Nat} {w : World} {b0 T : Nat} {ok : Nat → Prop} {v : Value} {xs : List α} {cs : Array Value} {t : TypeId} (h : d.R e w b0 ok v xs) (hT : w.heap[T]? = some (.cells cs t)) (ht : t ∉ e :: d.E) : d.R e w b0 (fun k => ok k ∧ k ≠ T) v xs :=
  Kd.R_mono (Kd.R_bound h) (fun k hk => ⟨hk.1, fun e0 => by
    obtain ⟨_, _, _, q, hq, cs2, hc⟩ := hk
    rw [e0, hT] at hc
    injection hc with hc
    injection hc with _ hc
    exact ht (hc ▸ hq)⟩)
theorem R_put {α : Type} {d : Kd α} {e : Nat} {w : World} {b0 T : Nat} {v : Value} {xs : List α} {cs : Array Value} {t : TypeId} {a0 a1 a2 a3 a4 a5 a6 a7 a8 a9 a10 a11 a12 a13 : Value} (h : d.R e w b0 (fun k => b0 ≤ k) v xs) (hT : w.heap[T]? = some (.cells cs t)) (ht : t ∉ e :: d.E) : d.R e ((((((((((((((w.setCell ⟨T, 0, none⟩ a0).setCell ⟨T, 1, none⟩ a1).setCell ⟨T, 2, none⟩ a2).setCell ⟨T, 3, none⟩ a3).setCell ⟨T, 4, none⟩ a4).setCell ⟨T, 5, none⟩ a5).setCell ⟨T, 6, none⟩ a6).setCell ⟨T, 7, none⟩ a7).setCell ⟨T, 8, none⟩ a8).setCell ⟨T, 9, none⟩ a9).setCell ⟨T, 10, none⟩ a10).setCell ⟨T, 11, none⟩ a11).setCell ⟨T, 12, none⟩ a12).setCell ⟨T, 13, none⟩ a13) b0 (fun k => b0 ≤ k ∧ k ≠ T) v xs :=
  Kd.R_step (R_away h hT ht) (fun k hk _ => far14 hk.2)
abbrev evC (x : X) (v2 v11 v13 : Value) : Array Value := #[.int .i64 x.f0, .int .i64 x.f1.f0, v2, .int .u32 x.f1.f2, .int .i64 x.f1.f3, .string x.f1.f4, .int .u64 x.f1.f5, .int .u64 x.f1.f6, .bool x.f1.f7, .int .i64 x.f2, .int .i64 x.f3.f0, v11, .int .u64 x.f3.f2, v13]
structure Ue (w0 w : World) (x : X) (T : Nat) (v2 v11 v13 : Value) (ds : List S46) : Prop where
  box : w.heap[T]? = some (.cells (evC x v2 v11 v13) 41)
  hT : w0.heap.size ≤ T
  keys : Kd.string.R 9 w w0.heap.size (fun k => w0.heap.size ≤ k ∧ k ≠ T) v2 x.f1.f1
  hits : k44.R 44 w w0.heap.size (fun k => w0.heap.size ≤ k ∧ k ≠ T) v11 (x.f3.f1.map toH)
  drops : k46.R 46 w w0.heap.size (fun k => w0.heap.size ≤ k ∧ k ≠ T) v13 ds
  bel : Below w0.heap.size w0 w
theorem ue_new {wr w : World} {x : X} {v2 v11 : Value} (R2 : Kd.string.R 9 w wr.heap.size (fun k => wr.heap.size ≤ k) v2 x.f1.f1) (R11 : k44.R 44 w wr.heap.size (fun k => wr.heap.size ≤ k) v11 (x.f3.f1.map toH)) (B : Below wr.heap.size wr w) :
    Ue wr (w.alloc (.cells #[Value.int .i64 x.f0, .int .i64 x.f1.f0, v2, .int .u32 x.f1.f2, .int .i64 x.f1.f3, .string x.f1.f4, .int .u64 x.f1.f5, .int .u64 x.f1.f6, .bool x.f1.f7, .int .i64 x.f2, .int .i64 x.f3.f0, v11, .int .u64 x.f3.f2, .slice none 0 0] 41)) x w.heap.size v2 v11 (.slice none 0 0) [] :=
  ⟨heap_alloc_new _ _, B.size, R_new R2 _, R_new R11 _, Kd.R_nil _ _ _ _ _, B.alloc B.size _⟩
theorem ue_set {wr w : World} {x : X} {T : Nat} {v2 v11 : Value} {x0 x1 x2 x3 x4 x5 x6 x7 x8 x9 x10 x11 x12 x13 : Value} (R2 : Kd.string.R 9 w wr.heap.size (fun k => wr.heap.size ≤ k) v2 x.f1.f1) (R11 : k44.R 44 w wr.heap.size (fun k => wr.heap.size ≤ k) v11 (x.f3.f1.map toH)) (B : Below wr.heap.size wr w) (hT : wr.heap.size ≤ T) (hQ : w.heap[T]? = some (.cells #[x0, x1, x2, x3, x4, x5, x6, x7, x8, x9, x10, x11, x12, x13] 41)) :
    Ue wr ((((((((((((((w.setCell ⟨T, 0, none⟩ (Value.int .i64 x.f0)).setCell ⟨T, 1, none⟩ (.int .i64 x.f1.f0)).setCell ⟨T, 2, none⟩ (v2)).setCell ⟨T, 3, none⟩ (.int .u32 x.f1.f2)).setCell ⟨T, 4, none⟩ (.int .i64 x.f1.f3)).setCell ⟨T, 5, none⟩ (.string x.f1.f4)).setCell ⟨T, 6, none⟩ (.int .u64 x.f1.f5)).setCell ⟨T, 7, none⟩ (.int .u64 x.f1.f6)).setCell ⟨T, 8, none⟩ (.bool x.f1.f7)).setCell ⟨T, 9, none⟩ (.int .i64 x.f2)).setCell ⟨T, 10, none⟩ (.int .i64 x.f3.f0)).setCell ⟨T, 11, none⟩ (v11)).setCell ⟨T, 12, none⟩ (.int .u64 x.f3.f2)).setCell ⟨T, 13, none⟩ (.slice none 0 0)) x T v2 v11 (.slice none 0 0) [] :=
  ⟨set14 hQ, hT, R_put R2 hQ (by decide), R_put R11 hQ (by decide), Kd.R_nil _ _ _ _ _, below14 B hT⟩
theorem ue_below {wr w w' : World} {x : X} {T : Nat} {v2 v11 v13 : Value} {ds : List S46} (h : Ue wr w x T v2 v11 v13 ds) (hb : Below w.heap.size w w') : Ue wr w' x T v2 v11 v13 ds :=
  ⟨(hb.block T (blk_lt h.box)).trans h.box, h.hT, Kd.R_below h.keys hb, Kd.R_below h.hits hb, Kd.R_below h.drops hb, h.bel.trans (hb.mono h.bel.size)⟩
theorem R_typed {α : Type} {d : Kd α} {e : Nat} {w w1 : World} {base : Nat} {ok : Nat → Prop} {v : Value} {xs : List α} {row : Option Nat} {t : TypeId} (h : d.R e w base ok v xs) (hg : w.grownBy w1 row) (hrow : ∀ k, row = some k → ∃ cs, w.heap[k]? = some (.cells cs t)) (ht : t ∉ e :: d.E) : d.R e w1 base ok v xs :=
  Kd.R_mono (Kd.R_grown (Kd.R_bound h) hg (fun k hk e0 => by
    obtain ⟨_, _, _, q, hq, cs2, hc⟩ := hk
    obtain ⟨cs, hcs⟩ := hrow k e0.symm
    rw [hcs] at hc
    injection hc with hc
    injection hc with _ hc
    exact ht (hc ▸ hq))) (fun _ hk => hk.1)
theorem ue_next {wr wi w6 : World} {x : X} {T : Nat} {v2 v11 v13 v1 : Value} {ds : List S46} {d : S46} (h : Ue wr wi x T v2 v11 v13 ds) (ho : k46.R 46 w6 wr.heap.size (fun k => wr.heap.size ≤ k ∧ k ≠ T) v1 (ds ++ [d])) (hb : Below wr.heap.size wr w6) (hg : wi.grownBy w6 v13.ownBlock) :
    Ue wr (w6.setCell ⟨T, 13, none⟩ v1) x T v2 v11 v1 (ds ++ [d]) := by
  obtain ⟨inner, hown⟩ := Kd.R_own h.drops
  have hrow : ∀ k, v13.ownBlock = some k → ∃ cs, wi.heap[k]? = some (.cells cs 46) := fun k hk => own_typed hown k hk
  have hne : some T ≠ v13.ownBlock := fun e => (h.drops.1 T e.symm).2 rfl
  have hbox : w6.heap[T]? = some (.cells (evC x v2 v11 v13) 41) := (hg.block T (blk_lt h.box) hne).trans h.box
  refine ⟨Lib.heap_setCell_same (i := 13) hbox v1, h.hT, ?_, ?_, ?_, hb.setCell h.hT _⟩
  · exact Kd.R_far (R_typed h.keys hg hrow (by decide)) (fun k hk => hk.2) _
  · exact Kd.R_far (R_typed h.hits hg hrow (by decide)) (fun k hk => hk.2) _
  · exact Kd.R_far ho (fun k hk => hk.2) _
def cellV (T i : Nat) (w : World) : Value := (w.cell? ⟨T, i, none⟩).getD undef
theorem cellV_is {w : World} {T i : Nat} {v : Value} (h : w.cell? ⟨T, i, none⟩ = some v) : w.cell? ⟨T, i, none⟩ = some (cellV T i w) := by
  unfold cellV
  rw [h]
  rfl
theorem cellV_eq {w : World} {T i : Nat} {v : Value} (h : w.cell? ⟨T, i, none⟩ = some v) : cellV T i w = v := by
  unfold cellV
  rw [h]
  rfl
theorem put13 {w : World} {a : Addr} {v : Value} (h : w.cell? a = some v) (u : Value) : ∃ v', (w.setCell a u).cell? a = some v' := cell?_setCell_some h
theorem keepS {wr w' : World} {T : Nat} {a b : Addr} {b2 : Addr} {u1 u2 u3 : Value} (hT : ∃ v, w'.cell? ⟨T, 13, none⟩ = some v) (h1 : wr.cell? a = some u1) (h2 : wr.cell? b = some u2) (h3 : wr.cell? b2 = some u3) (ha : w'.heap[a.block]? = wr.heap[a.block]?) (hb : w'.heap[b.block]? = wr.heap[b.block]?) (e : b2.block = b.block) :
    w'.cell? ⟨T, 13, none⟩ = some (cellV T 13 w') ∧ w'.cell? a = some u1 ∧ w'.cell? b = some u2 ∧ w'.cell? b2 = some u3 := by
  obtain ⟨v, hv⟩ := hT
  exact ⟨cellV_is hv, (World.cell?_of_block ha).trans h1, (World.cell?_of_block hb).trans h2, (World.cell?_of_block (by rw [e]; exact hb)).trans h3⟩
theorem keep14 {w w' : World} {q : Addr} (hk : ∀ p v, p.block = q.block → w.cell? p = some v → w'.cell? p = some v) {v0 v1 v2 v3 v4 v5 v6 v7 v8 v9 v10 v11 v12 v13 : Value} (h : w.cell? q = some v0 ∧ w.cell? ⟨q.block, q.off + 1, none⟩ = some v1 ∧ w.cell? ⟨q.block, q.off + 2, none⟩ = some v2 ∧ w.cell? ⟨q.block, q.off + 3, none⟩ = some v3 ∧ w.cell? ⟨q.block, q.off + 4, none⟩ = some v4 ∧ w.cell? ⟨q.block, q.off + 5, none⟩ = some v5 ∧ w.cell? ⟨q.block, q.off + 6, none⟩ = some v6 ∧ w.cell? ⟨q.block, q.off + 7, none⟩ = some v7 ∧ w.cell? ⟨q.block, q.off + 8, none⟩ = some v8 ∧ w.cell? ⟨q.block, q.off + 9, none⟩ = some v9 ∧ w.cell? ⟨q.block, q.off + 10, none⟩ = some v10 ∧ w.cell? ⟨q.block, q.off + 11, none⟩ = some v11 ∧ w.cell? ⟨q.block, q.off + 12, none⟩ = some v12 ∧ w.cell? ⟨q.block, q.off + 13, none⟩ = some v13) : w'.cell? q = some v0 ∧ w'.cell? ⟨q.block, q.off + 1, none⟩ = some v1 ∧ w'.cell? ⟨q.block, q.off + 2, none⟩ = some v2 ∧ w'.cell? ⟨q.block, q.off + 3, none⟩ = some v3 ∧ w'.cell? ⟨q.block, q.off + 4, none⟩ = some v4 ∧ w'.cell? ⟨q.block, q.off + 5, none⟩ = some v5 ∧ w'.cell? ⟨q.block, q.off + 6, none⟩ = some v6 ∧ w'.cell? ⟨q.block, q.off + 7, none⟩ = some v7 ∧ w'.cell? ⟨q.block, q.off + 8, none⟩ = some v8 ∧ w'.cell? ⟨q.block, q.off + 9, none⟩ = some v9 ∧ w'.cell? ⟨q.block, q.off + 10, none⟩ = some v10 ∧ w'.cell? ⟨q.block, q.off + 11, none⟩ = some v11 ∧ w'.cell? ⟨q.block, q.off + 12, none⟩ = some v12 ∧ w'.cell? ⟨q.block, q.off + 13, none⟩ = some v13 :=
  ⟨hk _ _ rfl h.1, hk _ _ rfl h.2.1, hk _ _ rfl h.2.2.1, hk _ _ rfl h.2.2.2.1, hk _ _ rfl h.2.2.2.2.1, hk _ _ rfl h.2.2.2.2.2.1, hk _ _ rfl h.2.2.2.2.2.2.1, hk _ _ rfl h.2.2.2.2.2.2.2.1, hk _ _ rfl h.2.2.2.2.2.2.2.2.1, hk _ _ rfl h.2.2.2.2.2.2.2.2.2.1, hk _ _ rfl h.2.2.2.2.2.2.2.2.2.2.1, hk _ _ rfl h.2.2.2.2.2.2.2.2.2.2.2.1, hk _ _ rfl h.2.2.2.2.2.2.2.2.2.2.2.2.1, hk _ _ rfl h.2.2.2.2.2.2.2.2.2.2.2.2.2⟩
theorem keepB {w w' : World} {B : Nat} {q : Addr} (hb : Below B w w') (hq : q.block < B) : ∀ p v, p.block = q.block → w.cell? p = some v → w'.cell? p = some v := fun p v e h => (hb.cell (by rw [e]; exact hq)).trans h
theorem fresh_block {w0 w' : World} {B : Nat} {cs : Array Value} {t : TypeId} (hb : Below (w0.alloc (.cells cs t)).drew.heap.size (w0.alloc (.cells cs t)).drew w') (hB : w0.heap.size = B) : w'.heap[B]? = some (.cells cs t) := by
  subst hB
  exact (hb.block w0.heap.size (by simp)).trans (heap_alloc_new w0 (.cells cs t))
end Go.Proofs.YtdihoopofhediaaGreatDoor.Wp
end
section
namespace Go.Proofs.YtdihoopofhediaaGreatDoor.Wp
open Go.RowKit Go.Proofs.YtdihoopofhediaaGreatDoorW.PrintWords Go.Proofs.YtdihoopofhediaaGreatDoorW.PrintLast Go.Proofs.YtdihoopofhediaaGreatDoorW.PrintMore Go.WideMaps Go.Proofs.YtdihoopofhediaaGreatDoor.XMd Go.Proofs.YtdihoopofhediaaGreatDoor.Mdl
set_option linter.unusedVariables false
set_option linter.unusedSimpArgs false
attribute [local go_sem ↓] Go.wp_at_zero Go.wp_at_succ
structure Ou (w wr : World) (l0 : List X) (j : Nat) (v : Value) : Prop where
  row : Kd.R k41 41 wr w.heap.size (fun _ => True) v ((l0.take j).map toY)
  bel : Below w.heap.size w wr
theorem info_drop : (Tryz.prog.info? 46).map (fun i => (i.zero, i.size, i.bytes)) = some (some (.agg #[(.string ⟨#[]⟩), (.int .i64 0)]), 2, 24) := by kernel_rfl
set_option maxHeartbeats 16000000 in
set_option maxRecDepth 100000 in
theorem To_calls (w : World) (A0 : Option Addr) (l0 : List X) (c0 : Nat) (hC0 : Kd.C k60 w A0 l0.length l0) (hc0 : l0.length ≤ c0) (hl : l0.length ≤ 1000) (hs : ∀ x ∈ l0, x.f1.f1.length ≤ 100000 ∧ x.f3.f1.length ≤ 2932031007317 ∧ x.f4.length ≤ 100000) :
    Calls Tryz.prog 7 #[.slice A0 l0.length c0] w fun e w' => ∃ v, e = .returned v ∧ Kd.R k41 41 w' w.heap.size (fun _ => True) v (l0.map toY) ∧ Below w.heap.size w w' := by
  have HC0 := Aside0.mk hC0
  have HS := Aside0.mk hs
  have O0 : Aside0 (Ou w w l0 0 (.slice none 0 0)) := ⟨⟨Kd.R_nil _ _ _ _ _, Below.refl _ w⟩⟩
  clear hC0 hs
  go_enter Tryz.func7, Tryz.ntmps7
  go_wp2_with fail
  go_loopg [3, 4] l0.length (fun gg v3 v4 wr => ∃ (j : Nat), v4 = .int .i64 j ∧ j ≤ l0.length ∧ l0.length - j ≤ gg ∧ Aside0 (Ou w wr l0 j v3))
  case atStart => exact ⟨0, rfl, Nat.zero_le _, by omega, O0⟩
  case round =>
    clear O0
    obtain ⟨j, rfl, hj, hgj, HO⟩ := hrel
    by_cases hlt : j < l0.length
    · have hji : (j : Int) < (l0.length : Int) := by omega
      have hx : l0[j]? = some (rd_T60 l0 (j : Int)) := by
        unfold rd_T60
        rw [Int.toNat_natCast, List.getD_eq_getElem?_getD, List.getElem?_eq_getElem hlt]; rfl
      obtain ⟨ad, A2, c2, A11, c11, A13, c13, rfl, k0, k1, k2, k3, k4, k5, k6, k7, k8, k9, k10, k11, k12, k13, l2, g2, l11, g11, l13, g13⟩ := at_T60 HC0.out (j : Int) (by omega) hji
      rw [Int.toNat_natCast] at k0 k1 k2 k3 k4 k5 k6 k7 k8 k9 k10 k11 k12 k13
      obtain ⟨x, hxx⟩ : ∃ x, x = rd_T60 l0 (j : Int) := ⟨_, rfl⟩
      rw [← hxx] at hx k0 k1 k2 k3 k4 k5 k6 k7 k8 k9 k10 k11 k12 k13 l2 g2 l11 g11 l13 g13
      have hadl : (ad.add (j * 14)).block < w.heap.size := World.block_lt_of_cell? w _ k0
      have HF := Lib.hid (keep14 (q := ad.add (j * 14)) (keepB HO.out.bel hadl) ⟨k0, k1, k2, k3, k4, k5, k6, k7, k8, k9, k10, k11, k12, k13⟩)
      clear k0 k1 k2 k3 k4 k5 k6 k7 k8 k9 k10 k11 k12 k13
      obtain ⟨k0, k1, k2, k3, k4, k5, k6, k7, k8, k9, k10, k11, k12, k13⟩ := HF.out
      have hsx := HS.out x (List.mem_of_getElem? hx)
      obtain ⟨hs1, hs2, hs3⟩ := hsx
      have HX := Lib.hid hx
      have K2 := Aside0.mk (Kd.C_below g2 HO.out.bel)
      have K11 := Aside0.mk (Kd.C_below g11 HO.out.bel)
      have K13 := Aside0.mk (Kd.C_below g13 HO.out.bel)
      have HOWN := Lib.hid (own_is x.f1 (by omega))
      have HTO := Lib.hid (to18_is x.f3 (by omega))
      clear hx hxx g2 g11 g13
      go_upto_region 5 with fail
      have hadw : (ad.add (j * 14)).block < wr.heap.size := Nat.lt_of_lt_of_le hadl HO.out.bel.size
      have BD := Aside0.mk (Below.refl wr.heap.size wr).drew
      have BA := Aside0.mk ((Below.refl wr.heap.size wr).alloc (Nat.le_refl _) (.cells #[.int .i64 0, .int .i64 0, .slice none 0 0, .int .u32 0, .int .i64 0, .string ⟨#[]⟩, .int .u64 0, .int .u64 0, .bool false, .int .i64 0, .int .i64 0, .slice none 0 0, .int .u64 0, .slice none 0 0] 41)).drew
      clear k0 k1 k2 k3 k4 k5 k6 k7 k8 k9 k10 k11 k12 k13
      have dn9 : 41 ∉ 9 :: Kd.string.E := by decide
      have dn11 : 41 ∉ 44 :: k44.E := by decide
      go_cut [5] (fun v5 wc => ∃ T A3 c3 A4 c4, v5 = .pointer (some ⟨T, 0, none⟩) ∧ Aside0 (Ue wr wc x T (.slice A3 x.f1.f1.length c3) (.slice A4 x.f3.f1.length c4) (.slice none 0 0) []))
      case first =>
        go_region_held3 (fun w' => w'.cell? (ad.add (j * 14)) = some (.int .i64 x.f0) ∧ w'.cell? ⟨(ad.add (j * 14)).block, (ad.add (j * 14)).off + 1, none⟩ = some (.int .i64 x.f1.f0) ∧ w'.cell? ⟨(ad.add (j * 14)).block, (ad.add (j * 14)).off + 2, none⟩ = some (.slice A2 x.f1.f1.length c2) ∧ w'.cell? ⟨(ad.add (j * 14)).block, (ad.add (j * 14)).off + 3, none⟩ = some (.int .u32 x.f1.f2) ∧ w'.cell? ⟨(ad.add (j * 14)).block, (ad.add (j * 14)).off + 4, none⟩ = some (.int .i64 x.f1.f3) ∧ w'.cell? ⟨(ad.add (j * 14)).block, (ad.add (j * 14)).off + 5, none⟩ = some (.string x.f1.f4) ∧ w'.cell? ⟨(ad.add (j * 14)).block, (ad.add (j * 14)).off + 6, none⟩ = some (.int .u64 x.f1.f5) ∧ w'.cell? ⟨(ad.add (j * 14)).block, (ad.add (j * 14)).off + 7, none⟩ = some (.int .u64 x.f1.f6) ∧ w'.cell? ⟨(ad.add (j * 14)).block, (ad.add (j * 14)).off + 8, none⟩ = some (.bool x.f1.f7) ∧ w'.cell? ⟨(ad.add (j * 14)).block, (ad.add (j * 14)).off + 9, none⟩ = some (.int .i64 x.f2) ∧ w'.cell? ⟨(ad.add (j * 14)).block, (ad.add (j * 14)).off + 10, none⟩ = some (.int .i64 x.f3.f0) ∧ w'.cell? ⟨(ad.add (j * 14)).block, (ad.add (j * 14)).off + 11, none⟩ = some (.slice A11 x.f3.f1.length c11) ∧ w'.cell? ⟨(ad.add (j * 14)).block, (ad.add (j * 14)).off + 12, none⟩ = some (.int .u64 x.f3.f2) ∧ w'.cell? ⟨(ad.add (j * 14)).block, (ad.add (j * 14)).off + 13, none⟩ = some (.slice A13 x.f4.length c13))
          ((first | with_reducible exact HF.out | with_reducible exact HF3.out | with_reducible exact HF4.out | with_reducible exact keep14 (keepB BD.out hadw) HF.out | with_reducible exact keep14 (keepB BA.out hadw) HF.out | with_reducible exact keep14 (keepB (BO.out.alloc BO.out.size _) hadw) HF.out | with_reducible exact keep14 (keepB (BT.out.alloc BT.out.size _) hadw) HF.out | with_reducible exact keep14 (keepB (below14 BT.out (Nat.le_refl _)) hadw) HF.out | with_reducible exact keep14 (keepB (below14 BT.out HS3.out) hadw) HF.out | with_reducible exact keep14 (keepB (below14 BT.out HS4.out) hadw) HF.out | with_reducible exact keep14 (keepB (below14 BO.out (Nat.le_refl _)) hadw) HF.out | with_reducible exact keep14 (keepB (below14 BO.out HS3.out) hadw) HF.out | with_reducible exact keep14 (keepB (below14 BO.out HS4.out) hadw) HF.out))
          (first
            | (go_at_call 16; refine (tallboylaw15_Own.calls x.f1.f0 A2 c2 x.f1.f1 x.f1.f2 x.f1.f3 x.f1.f4 x.f1.f5 x.f1.f6 x.f1.f7 _ _ _ _ _ _ _ _ _ (Kd.C_below K2.out (by first | exact BD.out | exact BA.out | exact BT.out | exact BT.out.alloc BT.out.size _)) l2 HOWN.out).mono ?_; rintro e w3 ⟨v2, rfl, hR, hb3⟩; obtain ⟨A3, c3, rfl⟩ := Kd.R_slice hR; (have hB3 : Below wr.heap.size wr w3 := (by first | exact BD.out.trans (hb3.mono BD.out.size) | exact BA.out.trans (hb3.mono BA.out.size) | exact BT.out.trans (hb3.mono BT.out.size) | exact (BT.out.alloc BT.out.size _).trans (hb3.mono (BT.out.alloc BT.out.size (.cells #[.int .i64 0, .int .i64 0, .slice none 0 0, .int .u32 0, .int .i64 0, .string ⟨#[]⟩, .int .u64 0, .int .u64 0, .bool false, .int .i64 0, .int .i64 0, .slice none 0 0, .int .u64 0, .slice none 0 0] 41)).size))); (have R2 := Aside0.mk (R_up hR (by first | exact BD.out.size | exact BA.out.size | exact BT.out.size | exact (BT.out.alloc BT.out.size (.cells #[.int .i64 0, .int .i64 0, .slice none 0 0, .int .u32 0, .int .i64 0, .string ⟨#[]⟩, .int .u64 0, .int .u64 0, .bool false, .int .i64 0, .int .i64 0, .slice none 0 0, .int .u64 0, .slice none 0 0] 41)).size))); (have BO := Aside0.mk hB3); (have HS3 := Lib.hid hB3.size); (have HF3 := Lib.hid (keep14 (keepB hB3 hadw) HF.out)); (first | (have HQ3 := Lib.hid (fresh_block hb3 rfl)) | (have HQ3 := Lib.hid ((hb3.block _ (blk_lt HQ4.out)).trans HQ4.out)) | (have HQ3 := Lib.hid ((hb3.block _ (by rw [size_al]; exact Nat.lt_succ_self _)).trans (heap_alloc_new w4 (.cells #[.int .i64 0, .int .i64 0, .slice none 0 0, .int .u32 0, .int .i64 0, .string ⟨#[]⟩, .int .u64 0, .int .u64 0, .bool false, .int .i64 0, .int .i64 0, .slice none 0 0, .int .u64 0, .slice none 0 0] 41)))) | skip); (first | (have R11' := Aside0.mk (Kd.R_below R11.out hb3)) | (have R11' := Aside0.mk (Kd.R_below (Kd.R_below R11.out ((Below.refl _ w4).alloc (Nat.le_refl _) (.cells #[.int .i64 0, .int .i64 0, .slice none 0 0, .int .u32 0, .int .i64 0, .string ⟨#[]⟩, .int .u64 0, .int .u64 0, .bool false, .int .i64 0, .int .i64 0, .slice none 0 0, .int .u64 0, .slice none 0 0] 41))) hb3)) | skip); (first | (clear R11; have R11 := R11'; clear R11') | skip); (first | (clear BT) | skip); clear hR hb3 hB3; (first | clear q0 q1 q2 q3 q4 q5 q6 q7 q8 q9 q10 q11 q12 q13 f0 f1 f2 f3 f4 f5 f6 f7 f8 f9 f10 f11 f12 f13 | skip); (first | (have q0 := fresh_cell HQ3.out 0; have q1 := fresh_cell HQ3.out 1; have q2 := fresh_cell HQ3.out 2; have q3 := fresh_cell HQ3.out 3; have q4 := fresh_cell HQ3.out 4; have q5 := fresh_cell HQ3.out 5; have q6 := fresh_cell HQ3.out 6; have q7 := fresh_cell HQ3.out 7; have q8 := fresh_cell HQ3.out 8; have q9 := fresh_cell HQ3.out 9; have q10 := fresh_cell HQ3.out 10; have q11 := fresh_cell HQ3.out 11; have q12 := fresh_cell HQ3.out 12; have q13 := fresh_cell HQ3.out 13; have f0 := fresh_frozen HQ3.out 0; have f1 := fresh_frozen HQ3.out 1; have f2 := fresh_frozen HQ3.out 2; have f3 := fresh_frozen HQ3.out 3; have f4 := fresh_frozen HQ3.out 4; have f5 := fresh_frozen HQ3.out 5; have f6 := fresh_frozen HQ3.out 6; have f7 := fresh_frozen HQ3.out 7; have f8 := fresh_frozen HQ3.out 8; have f9 := fresh_frozen HQ3.out 9; have f10 := fresh_frozen HQ3.out 10; have f11 := fresh_frozen HQ3.out 11; have f12 := fresh_frozen HQ3.out 12; have f13 := fresh_frozen HQ3.out 13; simp only [List.getElem?_toArray, List.getElem?_cons_zero, List.getElem?_cons_succ] at q0 q1 q2 q3 q4 q5 q6 q7 q8 q9 q10 q11 q12 q13) | skip))
            | (go_at_call 17; refine (tallboylaw18_To.calls _ x.f3.f0 A11 c11 x.f3.f1 x.f3.f2 _ _ _ _ (Kd.C_below K11.out (by first | exact BD.out | exact BA.out | exact BO.out | exact BO.out.alloc BO.out.size _)) l11 HTO.out).mono ?_; rintro e w4 ⟨v11, rfl, hR, hb4⟩; obtain ⟨A4, c4, rfl⟩ := Kd.R_slice hR; rw [List.length_map] at hR; (have hB4 : Below wr.heap.size wr w4 := (by first | exact BD.out.trans (hb4.mono BD.out.size) | exact BA.out.trans (hb4.mono BA.out.size) | exact BO.out.trans (hb4.mono BO.out.size) | exact (BO.out.alloc BO.out.size _).trans (hb4.mono (BO.out.alloc BO.out.size (.cells #[.int .i64 0, .int .i64 0, .slice none 0 0, .int .u32 0, .int .i64 0, .string ⟨#[]⟩, .int .u64 0, .int .u64 0, .bool false, .int .i64 0, .int .i64 0, .slice none 0 0, .int .u64 0, .slice none 0 0] 41)).size))); (have R11 := Aside0.mk (R_up hR (by first | exact BD.out.size | exact BA.out.size | exact BO.out.size | exact (BO.out.alloc BO.out.size (.cells #[.int .i64 0, .int .i64 0, .slice none 0 0, .int .u32 0, .int .i64 0, .string ⟨#[]⟩, .int .u64 0, .int .u64 0, .bool false, .int .i64 0, .int .i64 0, .slice none 0 0, .int .u64 0, .slice none 0 0] 41)).size))); (have BT := Aside0.mk hB4); (have HS4 := Lib.hid hB4.size); (have HF4 := Lib.hid (keep14 (keepB hB4 hadw) HF.out)); (first | (have HQ4 := Lib.hid (fresh_block hb4 rfl)) | (have HQ4 := Lib.hid ((hb4.block _ (blk_lt HQ3.out)).trans HQ3.out)) | (have HQ4 := Lib.hid ((hb4.block _ (by rw [size_al]; exact Nat.lt_succ_self _)).trans (heap_alloc_new w3 (.cells #[.int .i64 0, .int .i64 0, .slice none 0 0, .int .u32 0, .int .i64 0, .string ⟨#[]⟩, .int .u64 0, .int .u64 0, .bool false, .int .i64 0, .int .i64 0, .slice none 0 0, .int .u64 0, .slice none 0 0] 41)))) | skip); (first | (have R2' := Aside0.mk (Kd.R_below R2.out hb4)) | (have R2' := Aside0.mk (Kd.R_below (Kd.R_below R2.out ((Below.refl _ w3).alloc (Nat.le_refl _) (.cells #[.int .i64 0, .int .i64 0, .slice none 0 0, .int .u32 0, .int .i64 0, .string ⟨#[]⟩, .int .u64 0, .int .u64 0, .bool false, .int .i64 0, .int .i64 0, .slice none 0 0, .int .u64 0, .slice none 0 0] 41))) hb4)) | skip); (first | (clear R2; have R2 := R2'; clear R2') | skip); (first | (clear BO) | skip); clear hR hb4 hB4; (first | clear q0 q1 q2 q3 q4 q5 q6 q7 q8 q9 q10 q11 q12 q13 f0 f1 f2 f3 f4 f5 f6 f7 f8 f9 f10 f11 f12 f13 | skip); (first | (have q0 := fresh_cell HQ4.out 0; have q1 := fresh_cell HQ4.out 1; have q2 := fresh_cell HQ4.out 2; have q3 := fresh_cell HQ4.out 3; have q4 := fresh_cell HQ4.out 4; have q5 := fresh_cell HQ4.out 5; have q6 := fresh_cell HQ4.out 6; have q7 := fresh_cell HQ4.out 7; have q8 := fresh_cell HQ4.out 8; have q9 := fresh_cell HQ4.out 9; have q10 := fresh_cell HQ4.out 10; have q11 := fresh_cell HQ4.out 11; have q12 := fresh_cell HQ4.out 12; have q13 := fresh_cell HQ4.out 13; have f0 := fresh_frozen HQ4.out 0; have f1 := fresh_frozen HQ4.out 1; have f2 := fresh_frozen HQ4.out 2; have f3 := fresh_frozen HQ4.out 3; have f4 := fresh_frozen HQ4.out 4; have f5 := fresh_frozen HQ4.out 5; have f6 := fresh_frozen HQ4.out 6; have f7 := fresh_frozen HQ4.out 7; have f8 := fresh_frozen HQ4.out 8; have f9 := fresh_frozen HQ4.out 9; have f10 := fresh_frozen HQ4.out 10; have f11 := fresh_frozen HQ4.out 11; have f12 := fresh_frozen HQ4.out 12; have f13 := fresh_frozen HQ4.out 13; simp only [List.getElem?_toArray, List.getElem?_cons_zero, List.getElem?_cons_succ] at q0 q1 q2 q3 q4 q5 q6 q7 q8 q9 q10 q11 q12 q13) | skip)))
        all_goals
          (first | clear q0 q1 q2 q3 q4 q5 q6 q7 q8 q9 q10 q11 q12 q13 f0 f1 f2 f3 f4 f5 f6 f7 f8 f9 f10 f11 f12 f13 | skip)
          go_wp2_with fail
          go_meet
          case rel =>
            first
              | with_reducible exact ⟨_, A3, c3, A4, c4, rfl, ⟨ue_new R2.out R11.out BT.out⟩⟩
              | with_reducible exact ⟨_, A3, c3, A4, c4, rfl, ⟨ue_new R2.out R11.out BO.out⟩⟩
              | with_reducible exact ⟨_, A3, c3, A4, c4, rfl, ⟨ue_set R2.out R11.out BT.out (Nat.le_refl _) HQ4.out⟩⟩
              | with_reducible exact ⟨_, A3, c3, A4, c4, rfl, ⟨ue_set R2.out R11.out BT.out HS3.out HQ4.out⟩⟩
              | with_reducible exact ⟨_, A3, c3, A4, c4, rfl, ⟨ue_set R2.out R11.out BO.out (Nat.le_refl _) HQ3.out⟩⟩
              | with_reducible exact ⟨_, A3, c3, A4, c4, rfl, ⟨ue_set R2.out R11.out BO.out HS4.out HQ3.out⟩⟩
      case rest =>
        obtain ⟨T, A3, c3, A4, c4, rfl, HU⟩ := hcut
        obtain ⟨W0, hW0⟩ : ∃ W0, W0 = wr := ⟨_, rfl⟩
        subst hW0
        have U0 : Aside0 (∃ v13, Ue W0 wc x T (.slice A3 x.f1.f1.length c3) (.slice A4 x.f3.f1.length c4) v13 ((x.f4.take 0).map toD)) := ⟨_, HU.out⟩
        clear HU BD BA dn9 dn11 HOWN HTO K2 K11
        go_wp2_with fail
        go_loopg [6] x.f4.length (fun gg v6 wi => ∃ (i : Nat), v6 = .int .i64 i ∧ i ≤ x.f4.length ∧ x.f4.length - i ≤ gg ∧ Aside0 (∃ v13, Ue W0 wi x T (.slice A3 x.f1.f1.length c3) (.slice A4 x.f3.f1.length c4) v13 ((x.f4.take i).map toD)))
        case atStart => exact ⟨0, rfl, Nat.zero_le _, by omega, U0⟩
        case round =>
          clear U0
          obtain ⟨i, rfl, hi, hgi, HI⟩ := hrel
          obtain ⟨v13, hUi⟩ := HI.out
          have UI := Aside0.mk hUi
          clear HI hUi
          have HK13 := Lib.hid (keep14 (keepB UI.out.bel hadw) HF.out).2.2.2.2.2.2.2.2.2.2.2.2.2
          by_cases hil : i < x.f4.length
          · have hii : (i : Int) < (x.f4.length : Int) := by omega
            have hd : x.f4[i]? = some (rd_T68 x.f4 (i : Int)) := by
              unfold rd_T68
              rw [Int.toNat_natCast, List.getD_eq_getElem?_getD, List.getElem?_eq_getElem hil]; rfl
            obtain ⟨ad13, rfl, d0, d1⟩ := at_T68 K13.out (i : Int) (by omega) hii
            rw [Int.toNat_natCast] at d0 d1
            obtain ⟨d, hdd⟩ : ∃ d, d = rd_T68 x.f4 (i : Int) := ⟨_, rfl⟩
            rw [← hdd] at d0 d1 hd
            have htk : (x.f4.take (i + 1)).map toD = (x.f4.take i).map toD ++ [toD d] := by rw [List.take_add_one, hd, List.map_append]; rfl
            have HTK := Lib.hid htk
            have hd13 : (ad13.add (i * 2)).block < W0.heap.size := World.block_lt_of_cell? W0 _ d0
            have e0 := (UI.out.bel.cell hd13).trans d0
            have e1 := (UI.out.bel.cell (p := ⟨(ad13.add (i * 2)).block, (ad13.add (i * 2)).off + 1, none⟩) hd13).trans d1
            have k13 := HK13.out
            have tb := fresh_cell UI.out.box 13
            simp only [List.getElem?_toArray, List.getElem?_cons_zero, List.getElem?_cons_succ] at tb
            have hvv : cellV T 13 wr.drew = v13 := cellV_eq (show wr.drew.cell? ⟨T, 13, none⟩ = some v13 from tb)
            have S0 : Aside0 (wr.cell? ⟨T, 13, none⟩ = some (cellV T 13 wr) ∧ wr.cell? ⟨(ad.add (j * 14)).block, (ad.add (j * 14)).off + 13, none⟩ = some (.slice (some ad13) x.f4.length c13) ∧ wr.cell? (ad13.add (i * 2)) = some (.string d.f0) ∧ wr.cell? ⟨(ad13.add (i * 2)).block, (ad13.add (i * 2)).off + 1, none⟩ = some (.int .i64 d.f1)) := ⟨cellV_is tb, k13, e0, e1⟩
            have HR13 := Aside0.mk (show Kd.R k46 46 wr.drew W0.heap.size (fun k => W0.heap.size ≤ k ∧ k ≠ T) v13 ((x.f4.take i).map toD) from Kd.R_below UI.out.drops (Below.refl _ wr).drew)
            have HBd := Aside0.mk (UI.out.bel.drew)
            have hTlt : T < wr.heap.size := blk_lt UI.out.box
            have hTW := UI.out.hT
            have hlen : ((x.f4.take i).map toD).length ≤ 100000 := by rw [List.length_map, List.length_take]; omega
            have HLEN := Lib.hid hlen
            have S1 := Aside0.mk tb
            have HB1 := Aside0.mk (Nat.lt_of_lt_of_le hadw UI.out.bel.size)
            have HB2 := Aside0.mk (Nat.lt_of_lt_of_le hd13 UI.out.bel.size)
            have HNT : Aside0 (some T ≠ v13.ownBlock) := ⟨fun e => (UI.out.drops.1 T e.symm).2 rfl⟩
            have HN1 : Aside0 (some (ad.add (j * 14)).block ≠ v13.ownBlock) := ⟨fun e => by have := (UI.out.drops.1 _ e.symm).1; omega⟩
            have HN2 : Aside0 (some (ad13.add (i * 2)).block ≠ v13.ownBlock) := ⟨fun e => by have := (UI.out.drops.1 _ e.symm).1; omega⟩
            have HT1 : Aside0 ((ad.add (j * 14)).block ≠ T) := ⟨by omega⟩
            have HT2 : Aside0 ((ad13.add (i * 2)).block ≠ T) := ⟨by omega⟩
            have HFR : Aside0 (∀ k, wr.drew.heap.size ≤ k → W0.heap.size ≤ k ∧ k ≠ T) := ⟨fun k hk => by have hk' : wr.heap.size ≤ k := hk; have := UI.out.bel.size; omega⟩
            have HL24 : Aside0 ((((x.f4.take i).map toD).length + 1) * 24 ≤ 140737488355328) := ⟨by omega⟩
            have HLN := Lib.hid (show ((x.f4.take i).map toD ++ [toD d]).length = i + 1 by rw [List.length_append, List.length_map, List.length_take, List.length_singleton]; omega)
            clear hd hdd htk d0 d1 e0 e1 hlen hvv
            go_upto_region 9 with fail
            clear k13
            refine wp_region_held_drew (S := (fun w' => w'.cell? ⟨(ad.add (j * 14)).block, (ad.add (j * 14)).off + 13, none⟩ = some (.slice (some ad13) x.f4.length c13) ∧ w'.cell? (ad13.add (i * 2)) = some (.string d.f0) ∧ w'.cell? ⟨(ad13.add (i * 2)).block, (ad13.add (i * 2)).off + 1, none⟩ = some (.int .i64 d.f1))) (by kernel_rfl) ?hS0 (fun hHeld => ?_)
            case hS0 => exact And.right (keepS ⟨_, S1.out⟩ S0.out.2.1 S0.out.2.2.1 S0.out.2.2.2 rfl rfl rfl)
            refine wpAnyH_take (i := 0) (v := ?_) rfl (by kernel_rfl) (by kernel_rfl) (by kernel_rfl) (fun _ _ _ h => h) (Or.inl ⟨by rfl, ?_⟩) (by assumption) ?_
            rotate_left
            · intro w hSw; (try dsimp only at hSw); go_simp; (try with_reducible rfl)
            (try simp only [Act.put, List.setIfInBounds_toArray, List.set_cons_zero, List.set_cons_succ])
            refine wpAnyH_take (i := 2) (v := ?_) rfl (by kernel_rfl) (by kernel_rfl) (by kernel_rfl) (fun _ _ _ h => h) (Or.inl ⟨by rfl, ?_⟩) (by assumption) ?_
            rotate_left
            · intro w hSw; (try dsimp only at hSw); go_simp; (try with_reducible rfl)
            (try simp only [Act.put, List.setIfInBounds_toArray, List.set_cons_zero, List.set_cons_succ])
            refine wpAnyH_take (i := 3) (v := ?_) rfl (by kernel_rfl) (by kernel_rfl) (by kernel_rfl) (fun _ _ _ h => h) (Or.inl ⟨by rfl, ?_⟩) (by assumption) ?_
            rotate_left
            · intro w hSw; (try dsimp only at hSw); go_simp; (try with_reducible rfl)
            (try simp only [Act.put, List.setIfInBounds_toArray, List.set_cons_zero, List.set_cons_succ])
            refine wpAnyH_take (i := 4) (v := ?_) rfl (by kernel_rfl) (by kernel_rfl) (by kernel_rfl) (fun _ _ _ h => h) (Or.inl ⟨by rfl, ?_⟩) (by assumption) ?_
            rotate_left
            · intro w hSw; (try dsimp only at hSw); go_simp; (try with_reducible rfl)
            (try simp only [Act.put, List.setIfInBounds_toArray, List.set_cons_zero, List.set_cons_succ])
            refine wpAnyH_take (i := 5) (v := ?_) rfl (by kernel_rfl) (by kernel_rfl) (by kernel_rfl) (fun _ _ _ h => h) (Or.inl ⟨by rfl, ?_⟩) (by assumption) ?_
            rotate_left
            · intro w hSw; (try dsimp only at hSw); go_simp; (try with_reducible rfl)
            (try simp only [Act.put, List.setIfInBounds_toArray, List.set_cons_zero, List.set_cons_succ])
            refine wpAnyH_take (i := 6) (v := ?_) rfl (by kernel_rfl) (by kernel_rfl) (by kernel_rfl) (fun _ _ _ h => h) (Or.inl ⟨by rfl, ?_⟩) (by assumption) ?_
            rotate_left
            · intro w hSw; (try dsimp only at hSw); go_simp; (try with_reducible rfl)
            (try simp only [Act.put, List.setIfInBounds_toArray, List.set_cons_zero, List.set_cons_succ])
            refine wpAnyH_take (i := 7) (v := ?_) rfl (by kernel_rfl) (by kernel_rfl) (by kernel_rfl) (fun _ _ _ h => h) (Or.inl ⟨by rfl, ?_⟩) (by assumption) ?_
            rotate_left
            · intro w hSw; (try dsimp only at hSw); go_simp; (try with_reducible rfl)
            (try simp only [Act.put, List.setIfInBounds_toArray, List.set_cons_zero, List.set_cons_succ])
            refine wpAnyH_take (i := 8) (v := ?_) rfl (by kernel_rfl) (by kernel_rfl) (by kernel_rfl) (fun _ _ _ h => h) (Or.inl ⟨by rfl, ?_⟩) (by assumption) ?_
            rotate_left
            · intro w hSw; (try dsimp only at hSw); go_simp; (try with_reducible rfl)
            (try simp only [Act.put, List.setIfInBounds_toArray, List.set_cons_zero, List.set_cons_succ])
            refine wpAnyH_take (i := 9) (v := ?_) rfl (by kernel_rfl) (by kernel_rfl) (by kernel_rfl) (fun _ _ _ h => h) (Or.inl ⟨by rfl, ?_⟩) (by assumption) ?_
            rotate_left
            · intro w hSw; (try dsimp only at hSw); go_simp; (try with_reducible rfl)
            (try simp only [Act.put, List.setIfInBounds_toArray, List.set_cons_zero, List.set_cons_succ])
            refine wpAnyH_take (i := 10) (v := ?_) rfl (by kernel_rfl) (by kernel_rfl) (by kernel_rfl) (fun _ _ _ h => h) (Or.inl ⟨by rfl, ?_⟩) (by assumption) ?_
            rotate_left
            · intro w hSw; (try dsimp only at hSw); go_simp; (try with_reducible rfl)
            (try simp only [Act.put, List.setIfInBounds_toArray, List.set_cons_zero, List.set_cons_succ])
            refine wpAnyH_take (i := 11) (v := ?_) rfl (by kernel_rfl) (by kernel_rfl) (by kernel_rfl) (fun _ _ _ h => h) (Or.inl ⟨by rfl, ?_⟩) (by assumption) ?_
            rotate_left
            · intro w hSw; (try dsimp only at hSw); go_simp; (try with_reducible rfl)
            (try simp only [Act.put, List.setIfInBounds_toArray, List.set_cons_zero, List.set_cons_succ])
            refine wpAnyH_take (i := 12) (v := ?_) rfl (by kernel_rfl) (by kernel_rfl) (by kernel_rfl) (fun _ _ _ h => h) (Or.inl ⟨by rfl, ?_⟩) (by assumption) ?_
            rotate_left
            · intro w hSw; (try dsimp only at hSw); go_simp; (try with_reducible rfl)
            (try simp only [Act.put, List.setIfInBounds_toArray, List.set_cons_zero, List.set_cons_succ])
            refine wpAnyH_take (i := 13) (v := ?_) rfl (by kernel_rfl) (by kernel_rfl) (by kernel_rfl) (fun _ _ _ h => h) (Or.inl ⟨by rfl, ?_⟩) (by assumption) ?_
            rotate_left
            · intro w hSw; (try dsimp only at hSw); go_simp; (try with_reducible rfl)
            (try simp only [Act.put, List.setIfInBounds_toArray, List.set_cons_zero, List.set_cons_succ])
            refine wpAnyH_take (i := 14) (v := ?_) rfl (by kernel_rfl) (by kernel_rfl) (by kernel_rfl) (fun _ _ _ h => h) (Or.inl ⟨by rfl, ?_⟩) (by assumption) ?_
            rotate_left
            · intro w hSw; (try dsimp only at hSw); go_simp; (try with_reducible rfl)
            (try simp only [Act.put, List.setIfInBounds_toArray, List.set_cons_zero, List.set_cons_succ])
            refine wpAnyH_take (i := 15) (v := ?_) rfl (by kernel_rfl) (by kernel_rfl) (by kernel_rfl) (fun _ _ _ h => h) (Or.inl ⟨by rfl, ?_⟩) (by assumption) ?_
            rotate_left
            · intro w hSw; (try dsimp only at hSw); go_simp; (try with_reducible rfl)
            (try simp only [Act.put, List.setIfInBounds_toArray, List.set_cons_zero, List.set_cons_succ])
            refine wpAnyH_take (i := 16) (v := ?_) rfl (by kernel_rfl) (by kernel_rfl) (by kernel_rfl) (fun _ _ _ h => h) (Or.inl ⟨by rfl, ?_⟩) (by assumption) ?_
            rotate_left
            · intro w hSw; (try dsimp only at hSw); go_simp; (try with_reducible rfl)
            (try simp only [Act.put, List.setIfInBounds_toArray, List.set_cons_zero, List.set_cons_succ])
            refine wpAnyH_take (i := 17) (v := ?_) rfl (by kernel_rfl) (by kernel_rfl) (by kernel_rfl) (fun _ _ _ h => h) (Or.inl ⟨by rfl, ?_⟩) (by assumption) ?_
            rotate_left
            · intro w hSw; (try dsimp only at hSw); go_simp; (try with_reducible rfl)
            (try simp only [Act.put, List.setIfInBounds_toArray, List.set_cons_zero, List.set_cons_succ])
            refine wpAnyH_take (i := 18) (v := ?_) rfl (by kernel_rfl) (by kernel_rfl) (by kernel_rfl) (fun _ _ _ h => h) (Or.inl ⟨by rfl, ?_⟩) (by assumption) ?_
            rotate_left
            · intro w hSw; (try dsimp only at hSw); go_simp; (try with_reducible rfl)
            (try simp only [Act.put, List.setIfInBounds_toArray, List.set_cons_zero, List.set_cons_succ])
            refine wpAnyH_take (i := 19) (v := ?_) rfl (by kernel_rfl) (by kernel_rfl) (by kernel_rfl) (fun _ _ _ h => h) (Or.inl ⟨by rfl, ?_⟩) (by assumption) ?_
            rotate_left
            · intro w hSw; (try dsimp only at hSw); go_simp; (try with_reducible rfl)
            (try simp only [Act.put, List.setIfInBounds_toArray, List.set_cons_zero, List.set_cons_succ])
            refine wpAnyH_take (i := 20) (v := ?_) rfl (by kernel_rfl) (by kernel_rfl) (by kernel_rfl) (fun _ _ _ h => h) (Or.inl ⟨by rfl, ?_⟩) (by assumption) ?_
            rotate_left
            · intro w hSw; (try dsimp only at hSw); go_simp; (try with_reducible rfl)
            (try simp only [Act.put, List.setIfInBounds_toArray, List.set_cons_zero, List.set_cons_succ])
            refine wpAnyH_ready (rs := [1, 21]) (by kernel_rfl) (by simp) ?_
            refine AllReadyH.cons (by simp only [List.getElem?_toArray, List.getElem?_cons_succ, List.getElem?_cons_zero]; rfl) (fun K hK => ?_) (AllReadyH.cons (by simp only [List.getElem?_toArray, List.getElem?_cons_succ, List.getElem?_cons_zero]; rfl) (fun K hK => ?_) AllReadyH.nil)
            · go_simp
              refine hK.out _ _ ?_ (fun hHeld => ?_)
              · (try dsimp only); exact And.right (keepS ⟨_, S1.out⟩ S0.out.2.1 S0.out.2.2.1 S0.out.2.2.2 rfl rfl rfl)
              clear hK K
              (try simp only [Act.put, List.setIfInBounds_toArray, List.set_cons_zero, List.set_cons_succ])
              refine wpAnyH_ready (rs := [21]) (by kernel_rfl) (by simp) ?_
              refine AllReadyH.cons (by simp only [List.getElem?_toArray, List.getElem?_cons_succ, List.getElem?_cons_zero]; rfl) (fun K hK => ?_) AllReadyH.nil
              go_simp
              refine hK.out _ _ ?_ (fun hHeld => ?_)
              · (try dsimp only); exact And.right (keepS ⟨_, (World.cell?_of_block (Below.heap_alloc wr _ T hTlt)).trans S1.out⟩ S0.out.2.1 S0.out.2.2.1 S0.out.2.2.2 (Below.heap_alloc wr _ _ HB1.out) (Below.heap_alloc wr _ _ HB2.out) rfl)
              clear hK K
              (try simp only [Act.put, List.setIfInBounds_toArray, List.set_cons_zero, List.set_cons_succ])
              refine wpAnyH_ready (rs := [22]) (by kernel_rfl) (by simp) ?_
              refine AllReadyH.cons (by simp only [List.getElem?_toArray, List.getElem?_cons_succ, List.getElem?_cons_zero]; rfl) (fun K hK => ?_) AllReadyH.nil
              refine Kd.R_append_step k46 (w0 := W0) W0.heap.size (by rfl) (.tmp 47) (.tmp 67) 39 46 (.agg #[(.string ⟨#[]⟩), (.int .i64 0)]) 24 (by rfl) Tryz.underlying39 info_drop (by rfl) (by decide) (by decide) v13 ((x.f4.take i).map toD) (toD d) [.string d.f0, .int .i64 d.f1] (fun k => W0.heap.size ≤ k ∧ k ≠ T) (fun _ => False) (by rfl) (by rfl) (k46_mkM _ _ _ (toD d)) (fun _ hk => hk.elim) HFR.out HR13.out HBd.out HBd.out.size HL24.out ?_; intro v1 w6 ho6 hb6 hg6 hat6; (have hbx := (hg6.block T hTlt HNT.out).trans UI.out.box); (have t6 := fresh_cell hbx 13); (have fz6 := fresh_frozen hbx 13); simp only [List.getElem?_toArray, List.getElem?_cons_zero, List.getElem?_cons_succ] at t6; (obtain ⟨A6, c6, rfl⟩ := Kd.R_slice ho6)
              refine hK.out _ _ ?_ (fun hHeld => ?_)
              · (try dsimp only); exact And.right (keepS ⟨_, (World.cell?_of_block (hg6.block T hTlt HNT.out)).trans S1.out⟩ S0.out.2.1 S0.out.2.2.1 S0.out.2.2.2 (hg6.block _ HB1.out HN1.out) (hg6.block _ HB2.out HN2.out) rfl)
              clear hK K
              (try simp only [Act.put, List.setIfInBounds_toArray, List.set_cons_zero, List.set_cons_succ])
              refine wpAnyH_take (i := 23) (v := ?_) rfl (by kernel_rfl) (by kernel_rfl) (by kernel_rfl) (fun _ _ _ h => h) (Or.inl ⟨by rfl, ?_⟩) (by assumption) ?_
              rotate_left
              · intro w hSw; (try dsimp only at hSw); go_simp; (try with_reducible rfl)
              (try simp only [Act.put, List.setIfInBounds_toArray, List.set_cons_zero, List.set_cons_succ])
              refine wpAnyH_ready (rs := [24]) (by kernel_rfl) (by simp) ?_
              refine AllReadyH.cons (by simp only [List.getElem?_toArray, List.getElem?_cons_succ, List.getElem?_cons_zero]; rfl) (fun K hK => ?_) AllReadyH.nil
              go_simp
              refine hK.out _ _ ?_ (fun hHeld => ?_)
              · (try dsimp only); exact And.right (keepS (put13 ((World.cell?_of_block (hg6.block T hTlt HNT.out)).trans S1.out) _) S0.out.2.1 S0.out.2.2.1 S0.out.2.2.2 ((Below.heap_setCell _ _ _ _ HT1.out).trans (hg6.block _ HB1.out HN1.out)) ((Below.heap_setCell _ _ _ _ HT2.out).trans (hg6.block _ HB2.out HN2.out)) rfl)
              clear hK K
              (try simp only [Act.put, List.setIfInBounds_toArray, List.set_cons_zero, List.set_cons_succ])
              refine wpAnyH_done (by kernel_rfl) ?_ _
              rw [HLN.out] at ho6
              have UN : Aside0 (∃ v13, Ue W0 (w6.setCell ⟨T, 13, none⟩ (.slice A6 (i + 1) c6)) x T (.slice A3 x.f1.f1.length c3) (.slice A4 x.f3.f1.length c4) v13 ((x.f4.take (i + 1)).map toD)) := ⟨_, by rw [HTK.out]; exact ue_next (ue_below UI.out (Below.refl _ wr).drew) ho6 hb6 hg6⟩
              clear ho6 hb6 hg6 hat6 hbx t6 fz6 tb S0 S1 HR13 HBd UI HK13 HFR HL24 HNT HN1 HN2 HT1 HT2 HB1 HB2 HLEN
              generalize w6.setCell ⟨T, 13, none⟩ (.slice A6 (i + 1) c6) = W7 at UN ⊢
              go_wp2
              go_roundg (x.f4.length - (i + 1))
              case measure => omega
              case rel => exact ⟨i + 1, by go_num, by omega, by omega, UN⟩
            · go_simp
              refine hK.out _ _ ?_ (fun hHeld => ?_)
              · (try dsimp only); exact And.right (keepS ⟨_, (World.cell?_of_block (Below.heap_alloc wr _ T hTlt)).trans S1.out⟩ S0.out.2.1 S0.out.2.2.1 S0.out.2.2.2 (Below.heap_alloc wr _ _ HB1.out) (Below.heap_alloc wr _ _ HB2.out) rfl)
              clear hK K
              (try simp only [Act.put, List.setIfInBounds_toArray, List.set_cons_zero, List.set_cons_succ])
              refine wpAnyH_ready (rs := [1]) (by kernel_rfl) (by simp) ?_
              refine AllReadyH.cons (by simp only [List.getElem?_toArray, List.getElem?_cons_succ, List.getElem?_cons_zero]; rfl) (fun K hK => ?_) AllReadyH.nil
              go_simp
              refine hK.out _ _ ?_ (fun hHeld => ?_)
              · (try dsimp only); exact And.right (keepS ⟨_, (World.cell?_of_block (Below.heap_alloc wr _ T hTlt)).trans S1.out⟩ S0.out.2.1 S0.out.2.2.1 S0.out.2.2.2 (Below.heap_alloc wr _ _ HB1.out) (Below.heap_alloc wr _ _ HB2.out) rfl)
              clear hK K
              (try simp only [Act.put, List.setIfInBounds_toArray, List.set_cons_zero, List.set_cons_succ])
              refine wpAnyH_ready (rs := [22]) (by kernel_rfl) (by simp) ?_
              refine AllReadyH.cons (by simp only [List.getElem?_toArray, List.getElem?_cons_succ, List.getElem?_cons_zero]; rfl) (fun K hK => ?_) AllReadyH.nil
              refine Kd.R_append_step k46 (w0 := W0) W0.heap.size (by rfl) (.tmp 47) (.tmp 67) 39 46 (.agg #[(.string ⟨#[]⟩), (.int .i64 0)]) 24 (by rfl) Tryz.underlying39 info_drop (by rfl) (by decide) (by decide) v13 ((x.f4.take i).map toD) (toD d) [.string d.f0, .int .i64 d.f1] (fun k => W0.heap.size ≤ k ∧ k ≠ T) (fun _ => False) (by rfl) (by rfl) (k46_mkM _ _ _ (toD d)) (fun _ hk => hk.elim) HFR.out HR13.out HBd.out HBd.out.size HL24.out ?_; intro v1 w6 ho6 hb6 hg6 hat6; (have hbx := (hg6.block T hTlt HNT.out).trans UI.out.box); (have t6 := fresh_cell hbx 13); (have fz6 := fresh_frozen hbx 13); simp only [List.getElem?_toArray, List.getElem?_cons_zero, List.getElem?_cons_succ] at t6; (obtain ⟨A6, c6, rfl⟩ := Kd.R_slice ho6)
              refine hK.out _ _ ?_ (fun hHeld => ?_)
              · (try dsimp only); exact And.right (keepS ⟨_, (World.cell?_of_block (hg6.block T hTlt HNT.out)).trans S1.out⟩ S0.out.2.1 S0.out.2.2.1 S0.out.2.2.2 (hg6.block _ HB1.out HN1.out) (hg6.block _ HB2.out HN2.out) rfl)
              clear hK K
              (try simp only [Act.put, List.setIfInBounds_toArray, List.set_cons_zero, List.set_cons_succ])
              refine wpAnyH_take (i := 23) (v := ?_) rfl (by kernel_rfl) (by kernel_rfl) (by kernel_rfl) (fun _ _ _ h => h) (Or.inl ⟨by rfl, ?_⟩) (by assumption) ?_
              rotate_left
              · intro w hSw; (try dsimp only at hSw); go_simp; (try with_reducible rfl)
              (try simp only [Act.put, List.setIfInBounds_toArray, List.set_cons_zero, List.set_cons_succ])
              refine wpAnyH_ready (rs := [24]) (by kernel_rfl) (by simp) ?_
              refine AllReadyH.cons (by simp only [List.getElem?_toArray, List.getElem?_cons_succ, List.getElem?_cons_zero]; rfl) (fun K hK => ?_) AllReadyH.nil
              go_simp
              refine hK.out _ _ ?_ (fun hHeld => ?_)
              · (try dsimp only); exact And.right (keepS (put13 ((World.cell?_of_block (hg6.block T hTlt HNT.out)).trans S1.out) _) S0.out.2.1 S0.out.2.2.1 S0.out.2.2.2 ((Below.heap_setCell _ _ _ _ HT1.out).trans (hg6.block _ HB1.out HN1.out)) ((Below.heap_setCell _ _ _ _ HT2.out).trans (hg6.block _ HB2.out HN2.out)) rfl)
              clear hK K
              (try simp only [Act.put, List.setIfInBounds_toArray, List.set_cons_zero, List.set_cons_succ])
              refine wpAnyH_done (by kernel_rfl) ?_ _
              rw [HLN.out] at ho6
              have UN : Aside0 (∃ v13, Ue W0 (w6.setCell ⟨T, 13, none⟩ (.slice A6 (i + 1) c6)) x T (.slice A3 x.f1.f1.length c3) (.slice A4 x.f3.f1.length c4) v13 ((x.f4.take (i + 1)).map toD)) := ⟨_, by rw [HTK.out]; exact ue_next (ue_below UI.out (Below.refl _ wr).drew) ho6 hb6 hg6⟩
              clear ho6 hb6 hg6 hat6 hbx t6 fz6 tb S0 S1 HR13 HBd UI HK13 HFR HL24 HNT HN1 HN2 HT1 HT2 HB1 HB2 HLEN
              generalize w6.setCell ⟨T, 13, none⟩ (.slice A6 (i + 1) c6) = W7 at UN ⊢
              go_wp2
              go_roundg (x.f4.length - (i + 1))
              case measure => omega
              case rel => exact ⟨i + 1, by go_num, by omega, by omega, UN⟩
          · have hii : ¬ (i : Int) < (x.f4.length : Int) := by omega
            obtain rfl : i = x.f4.length := by omega
            have k13 := HK13.out
            obtain ⟨A5, c5, rfl⟩ := Kd.R_slice UI.out.drops
            have hdl : ((x.f4.take x.f4.length).map toD).length = x.f4.length := by rw [List.length_map, List.take_length]
            rw [hdl] at UI
            have hb := UI.out.box
            have t0 := fresh_cell hb 0
            have t1 := fresh_cell hb 1
            have t2 := fresh_cell hb 2
            have t3 := fresh_cell hb 3
            have t4 := fresh_cell hb 4
            have t5 := fresh_cell hb 5
            have t6 := fresh_cell hb 6
            have t7 := fresh_cell hb 7
            have t8 := fresh_cell hb 8
            have t9 := fresh_cell hb 9
            have t10 := fresh_cell hb 10
            have t11 := fresh_cell hb 11
            have t12 := fresh_cell hb 12
            have t13 := fresh_cell hb 13
            simp only [List.getElem?_toArray, List.getElem?_cons_zero, List.getElem?_cons_succ] at t0 t1 t2 t3 t4 t5 t6 t7 t8 t9 t10 t11 t12 t13
            clear hb
            have hbw : Below w.heap.size w wr := HO.out.bel.trans (UI.out.bel.mono HO.out.bel.size)
            have HBW := Aside0.mk hbw
            have hdrops := UI.out.drops
            rw [List.take_length] at hdrops
            have HDR := Aside0.mk hdrops
            clear hbw hdrops
            go_wp2_with (at_builtin; refine Kd.R_append k41 (w0 := w) w.heap.size (by rfl) (.tmp 70) (.tmp 72) 29 41 (.agg #[(.int .i64 0), (.int .i64 0), (.slice none 0 0), (.int .u32 0), (.int .i64 0), (.string ⟨#[]⟩), (.int .u64 0), (.int .u64 0), (.bool false), (.int .i64 0), (.int .i64 0), (.slice none 0 0), (.int .u64 0), (.slice none 0 0)]) 168 (by rfl) Tryz.underlying29 info41 (by rfl) (by decide) (by decide) u3 ((l0.take j).map toY) (toY x) [.int .i64 x.f0, .int .i64 x.f1.f0, .slice A3 x.f1.f1.length c3, .int .u32 x.f1.f2, .int .i64 x.f1.f3, .string x.f1.f4, .int .u64 x.f1.f5, .int .u64 x.f1.f6, .bool x.f1.f7, .int .i64 x.f2, .int .i64 x.f3.f0, .slice A4 x.f3.f1.length c4, .int .u64 x.f3.f2, .slice A5 x.f4.length c5] (fun _ => True) (fun k => W0.heap.size ≤ k ∧ k ≠ T) (by rfl) (by rfl) ?aP ?aK ?aF ?aO ?aB ?aS ?aL ?_)
            case aP => exact k41_mkM _ _ _ (toY x) (Kd.R_lower UI.out.keys HO.out.bel.size) (Kd.R_lower UI.out.hits HO.out.bel.size) (Kd.R_lower HDR.out HO.out.bel.size)
            case aK =>
              intro k hk _ e
              obtain ⟨inner, ho⟩ := Kd.R_own HO.out.row
              have := own_lt ho k e.symm
              omega
            case aO =>
              first
                | exact Kd.R_below HO.out.row UI.out.bel
                | (rw [← List.map_take]; exact Kd.R_below HO.out.row UI.out.bel)
            case aB => exact HBW.out
            case aS => exact HBW.out.size
            case aL => first | omega | (rw [List.length_map, List.length_take]; omega)
            intro v1 w9 ho9 hb9 hg9 hat9
            have ON : Aside0 (Ou w w9 l0 (j + 1) v1) := ⟨⟨by rw [List.take_add_one, HX.out, List.map_append, List.map_take]; exact ho9, hb9⟩⟩
            clear ho9 hb9 hg9 hat9 t0 t1 t2 t3 t4 t5 t6 t7 t8 t9 t10 t11 t12 t13 UI HDR HBW HK13
            go_wp2
            go_roundg (l0.length - (j + 1))
            case measure => omega
            case rel => exact ⟨j + 1, by go_num, by omega, by omega, ON⟩
    · have hji : ¬ (j : Int) < (l0.length : Int) := by omega
      obtain rfl : j = l0.length := by omega
      go_wp2
      go_ret
      exact ⟨_, rfl, by rw [← List.take_length (l := l0)]; exact HO.out.row, HO.out.bel⟩
end Go.Proofs.YtdihoopofhediaaGreatDoor.Wp
end
section
namespace Go.Proofs.YtdihoopofhediaaGreatDoor.Wp
open Go.RowKit Go.Proofs.YtdihoopofhediaaGreatDoorW.PrintWords Go.Proofs.YtdihoopofhediaaGreatDoorW.PrintLast Go.Proofs.YtdihoopofhediaaGreatDoorW.PrintMore Go.WideMaps Go.Proofs.YtdihoopofhediaaGreatDoor.XMd Go.Proofs.YtdihoopofhediaaGreatDoor.Mdl
set_option linter.unusedVariables false
set_option linter.unusedSimpArgs false
def Small (l : List X) : Prop := l.length ≤ 1000 ∧ ∀ x ∈ l, x.f1.f1.length ≤ 100000 ∧ x.f3.f1.length ≤ 2932031007317 ∧ x.f4.length ≤ 100000
theorem great15 (kind : Int) (l : List ByteArray) (flags exp : Int) (value : ByteArray) (cas delta : Int) (quiet : Bool) (hl : l.length ≤ 4611686018427387904) : ∀ (d i : Nat) (n : Int), i + d = l.length → ∃ r, (∀ k, d < k → tallboylaw15_Great.l0 k n (i : Int) kind l flags exp value cas delta quiet = some r) ∧ (r = false → l.length ≤ 100) := by
  intro d
  induction d with
  | zero =>
    intro i n hi
    refine ⟨if n ≥ 10000 then true else decide ((l.length : Int) > 100), fun k hk => ?_, fun h => ?_⟩
    · obtain ⟨k, rfl⟩ : ∃ m, k = m + 1 := ⟨k - 1, by omega⟩
      unfold tallboylaw15_Great.l0
      rw [if_neg (by omega)]
      split <;> rfl
    · split at h
      · cases h
      · have := of_decide_eq_false h; omega
  | succ d ih =>
    intro i n hi
    by_cases hn : n < 10000
    · obtain ⟨r, h1, h2⟩ := ih (i + 1) (wrap64 (n + ((rdOf ByteArray.empty l (i : Int)).size : Int))) (by omega)
      refine ⟨r, fun k hk => ?_, h2⟩
      obtain ⟨k, rfl⟩ : ∃ m, k = m + 1 := ⟨k - 1, by omega⟩
      unfold tallboylaw15_Great.l0
      rw [if_pos (by omega), if_pos hn, if_pos (by omega), show wrap64 ((i : Int) + 1) = ((i + 1 : Nat) : Int) from by unfold wrap64; omega]
      exact h1 k (by omega)
    · refine ⟨true, fun k hk => ?_, fun h => by cases h⟩
      obtain ⟨k, rfl⟩ : ∃ m, k = m + 1 := ⟨k - 1, by omega⟩
      unfold tallboylaw15_Great.l0
      rw [if_pos (by omega), if_neg hn, if_pos (by omega)]
theorem great18 (code n0 : Int) (l : List S72) (hl : l.length ≤ 4611686018427387904) : ∀ (d i : Nat) (n : Int), i + d = l.length → ∃ r, ∀ k, d < k → tallboylaw18_Great.l0 k n (i : Int) code l n0 = some r := by
  intro d
  induction d with
  | zero =>
    intro i n hi
    refine ⟨decide (n ≥ 20000), fun k hk => ?_⟩
    obtain ⟨k, rfl⟩ : ∃ m, k = m + 1 := ⟨k - 1, by omega⟩
    unfold tallboylaw18_Great.l0
    rw [if_neg (by omega)]
  | succ d ih =>
    intro i n hi
    by_cases hn : n < 20000
    · obtain ⟨r, h1⟩ := ih (i + 1) (wrap64 ((wrap64 ((wrap64 (n + 1)) + (((rd_T72 l (i : Int)).f0).size : Int))) + (((rd_T72 l (i : Int)).f2).size : Int))) (by omega)
      refine ⟨r, fun k hk => ?_⟩
      obtain ⟨k, rfl⟩ : ∃ m, k = m + 1 := ⟨k - 1, by omega⟩
      unfold tallboylaw18_Great.l0
      rw [if_pos (by omega), if_pos hn, if_pos (by omega), show wrap64 ((i : Int) + 1) = ((i + 1 : Nat) : Int) from by unfold wrap64; omega]
      exact h1 k (by omega)
    · refine ⟨decide (n ≥ 20000), fun k hk => ?_⟩
      obtain ⟨k, rfl⟩ : ∃ m, k = m + 1 := ⟨k - 1, by omega⟩
      unfold tallboylaw18_Great.l0
      rw [if_pos (by omega), if_neg hn]
theorem great25 (l0 : List X) (hl : l0.length ≤ 200) (hk : ∀ x ∈ l0, x.f1.f1.length ≤ 4611686018427387904 ∧ x.f3.f1.length ≤ 4611686018427387904) : ∀ (d i : Nat), i + d = l0.length →
    ∃ r K, (∀ k, K ≤ k → tallboylaw25_Great.l0 k l0 (i : Int) = some r) ∧ (r = false → ∀ x ∈ l0.drop i, x.f1.f1.length ≤ 100 ∧ x.f4.length ≤ 100) := by
  intro d
  induction d with
  | zero =>
    intro i hi
    refine ⟨false, 1, fun k hk => ?_, fun _ x hx => ?_⟩
    · obtain ⟨k, rfl⟩ : ∃ m, k = m + 1 := ⟨k - 1, by omega⟩
      unfold tallboylaw25_Great.l0
      rw [if_neg (by omega)]
    · rw [List.drop_of_length_le (by omega)] at hx
      cases hx
  | succ d ih =>
    intro i hi
    have hlt : i < l0.length := by omega
    have hrd : rd_T60 l0 (i : Int) = l0[i] := by
      unfold rd_T60
      rw [Int.toNat_natCast, List.getD_eq_getElem?_getD, List.getElem?_eq_getElem hlt]; rfl
    have hm := hk l0[i] (List.getElem_mem hlt)
    obtain ⟨r1, h1, h1s⟩ := great15 l0[i].f1.f0 l0[i].f1.f1 l0[i].f1.f2 l0[i].f1.f3 l0[i].f1.f4 l0[i].f1.f5 l0[i].f1.f6 l0[i].f1.f7 hm.1 l0[i].f1.f1.length 0 (l0[i].f1.f4.size : Int) (by omega)
    obtain ⟨r2, h2⟩ := great18 l0[i].f3.f0 l0[i].f3.f2 l0[i].f3.f1 hm.2 l0[i].f3.f1.length 0 0 (by omega)
    obtain ⟨r, K, h3, h3s⟩ := ih (i + 1) (by omega)
    refine ⟨if r1 = true then true else if r2 = true then true else if (l0[i].f4.length : Int) > 100 then true else r, K + l0[i].f1.f1.length + l0[i].f3.f1.length + 2, fun k hk => ?_, fun h => ?_⟩
    · obtain ⟨k, rfl⟩ : ∃ m, k = m + 1 := ⟨k - 1, by omega⟩
      unfold tallboylaw25_Great.l0
      rw [if_pos (by omega), if_pos (by omega), hrd]
      rw [show tallboylaw15_Great.f k l0[i].f1.f0 l0[i].f1.f1 l0[i].f1.f2 l0[i].f1.f3 l0[i].f1.f4 l0[i].f1.f5 l0[i].f1.f6 l0[i].f1.f7 = some r1 from h1 k (by omega)]
      rw [show tallboylaw18_Great.f k l0[i].f3.f0 l0[i].f3.f1 l0[i].f3.f2 = some r2 from h2 k (by omega)]
      rw [show wrap64 ((i : Int) + 1) = ((i + 1 : Nat) : Int) from by unfold wrap64; omega, h3 k (by omega)]
      simp only [Option.bind_some]
      split
      · rfl
      · split
        · rfl
        · split <;> rfl
    · split at h
      · cases h
      · rename_i hr1
        split at h
        · cases h
        · split at h
          · cases h
          · rename_i hd
            intro x hx
            rw [List.drop_eq_getElem_cons hlt] at hx
            rcases List.mem_cons.1 hx with rfl | hx
            · exact ⟨h1s (by simpa using hr1), by omega⟩
            · exact h3s h x hx
theorem great_all (l0 : List X) (hk : ∀ x ∈ l0, x.f1.f1.length ≤ 4611686018427387904 ∧ x.f3.f1.length ≤ 2932031007317) : ∃ k r, tallboylaw25_Great.f k l0 = some r ∧ (r = false → Small l0) := by
  by_cases hl : l0.length ≤ 200
  · obtain ⟨r, K, h1, h2⟩ := great25 l0 hl (fun x hx => ⟨(hk x hx).1, by have := (hk x hx).2; omega⟩) l0.length 0 (by omega)
    refine ⟨K, r, ?_, fun h => ⟨by omega, fun x hx => ?_⟩⟩
    · unfold tallboylaw25_Great.f
      rw [if_neg (by omega)]
      exact h1 K (Nat.le_refl _)
    · have h3 := h2 h x (by rw [List.drop_zero]; exact hx)
      exact ⟨by omega, (hk x hx).2, by omega⟩
  · refine ⟨0, true, ?_, fun h => by cases h⟩
    unfold tallboylaw25_Great.f
    rw [if_pos (by omega)]
end Go.Proofs.YtdihoopofhediaaGreatDoor.Wp
end
section
namespace Go.Proofs.YtdihoopofhediaaGreatDoor.Wp
open Go.RowKit Go.Proofs.YtdihoopofhediaaGreatDoorW.PrintWords Go.Proofs.YtdihoopofhediaaGreatDoorW.PrintLast Go.Proofs.YtdihoopofhediaaGreatDoorW.PrintMore Go.WideMaps Go.Proofs.YtdihoopofhediaaGreatDoor.XMd Go.Proofs.YtdihoopofhediaaGreatDoor.Mdl
set_option linter.unusedVariables false
set_option linter.unusedSimpArgs false
attribute [local go_sem ↓] Go.wp_at_zero Go.wp_at_succ
attribute [local go_sem high] eqFd
theorem To_n (w : World) (A0 : Option Addr) (m c0 : Nat) (l0 : List X) (hm : l0.length = m) (hC0 : Kd.C k60 w A0 l0.length l0) (hc0 : l0.length ≤ c0) (hs : Small l0) :
    Calls Tryz.prog 7 #[.slice A0 m c0] w fun e w' => ∃ v, e = .returned v ∧ Kd.R k41 41 w' w.heap.size (fun _ => True) v (l0.map toY) ∧ Below w.heap.size w w' := by
  subst hm
  exact To_calls w A0 l0 c0 hC0 hc0 hs.1 hs.2
theorem small_sub {l k : List X} (h : Small l) (hl : k.length ≤ l.length) (hm : ∀ x ∈ k, x ∈ l) : Small k := ⟨Nat.le_trans hl h.1, fun x hx => h.2 x (hm x hx)⟩
theorem ys_ok {l : List X} (h : Small l) (hd : ∀ x ∈ l, 0 ≤ x.f1.f6) : ∀ y ∈ l.map toY, 0 ≤ y.f1.f6 ∧ y.f1.f1.length ≤ 4611686018427387904 := by
  intro y hy
  obtain ⟨x, hx, rfl⟩ := List.mem_map.1 hy
  exact ⟨hd x hx, Nat.le_trans (h.2 x hx).1 (by decide)⟩
set_option maxHeartbeats 16000000 in
set_option maxRecDepth 100000 in
theorem parts_law (w : World) (hv : Vars w) (A0 : Option Addr) (l0 : List X) (c0 : Nat) (at_ : Int) (hc0 : l0.length ≤ c0) (hC0 : Kd.C k60 w A0 l0.length l0) (hd : ∀ x ∈ l0, 0 ≤ x.f1.f6) (kg : Nat) (gr : Bool) (hgr : tallboylaw25_Great.f kg l0 = some gr) (hsm : gr = false → Small l0) :
    Calls Tryz.prog 3 #[.slice A0 l0.length c0, .int .i64 at_] w fun e w' => e = .returned (.bool true) ∧ Below w.heap.size w w' := by
  have HV := Aside0.mk hv
  have HC0 := Aside0.mk hC0
  have HG := Lib.hid hgr
  have HSM := Lib.hid hsm
  have HD := Lib.hid hd
  clear hv hC0 hgr hsm hd
  go_enter Tryz.func3, Tryz.ntmps3
  go_wp2_with fail
  refine (works_calls w HV.out).mono ?_
  rintro e w1 ⟨rfl, hb1⟩
  have B1 := Aside0.mk hb1
  have C1 := Aside0.mk (Kd.C_below HC0.out hb1)
  clear hb1 HC0
  go_wp2_with fail
  have hX := tallboylaw25_Great.calls kg A0 c0 l0 gr w1 C1.out hc0 HG.out
  refine hX.mono ?_
  clear hX
  rintro e w3 ⟨rfl, hb3⟩
  have B2 := Aside0.mk (B1.out.trans (hb3.mono B1.out.size))
  have C2 := Aside0.mk (Kd.C_below C1.out hb3)
  clear hb3 B1 C1
  cases gr with
  | true =>
    go_wp2
    go_ret
    exact ⟨rfl, B2.out⟩
  | false =>
    have hsmall := HSM.out rfl
    have hlb : l0.length ≤ 1000 := hsmall.1
    have hlbi : (l0.length : Int) ≤ 1000 := by omega
    have HSMALL := Lib.hid hsmall
    clear hsmall
    go_upto_region 6 with fail
    obtain ⟨n, hn, hnl⟩ : ∃ n : Nat, wrap64 ((IntKind.u64.wrap at_).tmod ((l0.length : Int) + 1)) = (n : Int) ∧ n ≤ l0.length := by
      have h1 : 0 ≤ IntKind.u64.wrap at_ := by rw [IntKind.wrap_u64]; exact Int.emod_nonneg _ (by decide)
      have h2 := Int.emod_nonneg (IntKind.u64.wrap at_) (show ((l0.length : Int) + 1) ≠ 0 by omega)
      have h3 := Int.emod_lt_of_pos (IntKind.u64.wrap at_) (show 0 < ((l0.length : Int) + 1) by omega)
      rw [Int.tmod_eq_emod_of_nonneg h1]
      refine ⟨((IntKind.u64.wrap at_) % ((l0.length : Int) + 1)).toNat, ?_, ?_⟩
      · rw [Int.toNat_of_nonneg h2]
        unfold wrap64
        omega
      · omega
    rw [hn]
    have hn0 : (0 : Int) ≤ (n : Int) := by omega
    have hn1 : (n : Int) ≤ (l0.length : Int) := by omega
    have hn2 : (n : Int) ≤ (c0 : Int) := by omega
    have hlc : (l0.length : Int) ≤ (c0 : Int) := by omega
    clear hn HG
    have Ta := Lib.hid (show (l0.take n).length = n by rw [List.length_take]; omega)
    have Ka := Lib.hid (show (l0.take n).length ≤ c0 by rw [Ta.out]; omega)
    have Sa := Lib.hid (small_sub HSMALL.out (by rw [Ta.out]; exact hnl) (fun x hx => List.mem_of_mem_take hx))
    have hch := chk_take (l0.map toY) n 0 none (fun _ => none) 0
    have HCH := Lib.hid hch
    clear hch
    go_wp2_with fail
    have hX := To_n w3 A0 l0.length c0 l0 rfl C2.out hc0 HSMALL.out
    refine hX.mono ?_
    clear hX
    rintro e w4 ⟨v4, rfl, hR, hb⟩
    obtain ⟨P4, q4, rfl, hq4, hC4⟩ := Kd.R_reads hR
    have B4 := Aside0.mk (B2.out.trans (hb.mono B2.out.size))
    have C4 := Aside0.mk (Kd.C_below C2.out hb)
    have E4 := Aside0.mk hC4
    rw [List.length_map] at hq4 ⊢
    clear hR hb hC4 B2 C2
    go_wp2_with fail
    have hX := Check_calls w4 (HV.out.below B4.out) P4 q4 (l0.map toY) E4.out (by rw [List.length_map]; exact hlb) (ys_ok HSMALL.out HD.out)
    rw [List.length_map] at hX
    refine hX.mono ?_
    clear hX
    rintro e w5 ⟨rfl, hb⟩
    obtain ⟨⟨a1, a2⟩, ha⟩ : ∃ a, chk (l0.map toY) = a := ⟨_, rfl⟩
    have HA := Lib.hid ha
    rw [ha]
    have B5 := Aside0.mk (B4.out.trans (hb.mono B4.out.size))
    have C5 := Aside0.mk (Kd.C_below C4.out hb)
    clear hb ha B4 C4 E4
    go_upto_region 7 with fail
    have B6 := Aside0.mk (B5.out.alloc B5.out.size (.cells #[.int .i64 a1, .int .i64 a2] 27))
    have C6 := Aside0.mk (Kd.C_below C5.out ((Below.refl _ w5).alloc (Nat.le_refl _) (.cells #[.int .i64 a1, .int .i64 a2] 27)))
    have X6 := Aside0.mk (heap_alloc_new w5 (.cells #[.int .i64 a1, .int .i64 a2] 27))
    obtain ⟨T, hT⟩ : ∃ T, T = w5.heap.size := ⟨_, rfl⟩
    rw [← hT] at X6 ⊢
    generalize w5.alloc (.cells #[.int .i64 a1, .int .i64 a2] 27) = w6 at B6 C6 X6 ⊢
    clear hT B5 C5
    have Ca := Aside0.mk (Kd.C_take C6.out hnl)
    go_wp2_with fail
    have hX := To_n w6 A0 n c0 (l0.take n) Ta.out Ca.out Ka.out Sa.out
    refine hX.mono ?_
    clear hX
    rintro e w7 ⟨v7, rfl, hR, hb⟩
    obtain ⟨P7, q7, rfl, hq7, hC7⟩ := Kd.R_reads hR
    have B7 := Aside0.mk (B6.out.trans (hb.mono B6.out.size))
    have X7 := Aside0.mk ((hb.block T (blk_lt X6.out)).trans X6.out)
    have E7 := Aside0.mk hC7
    rw [List.length_map, Ta.out] at hq7 ⊢
    clear hR hb hC7 B6 C6 X6 Ca
    go_wp2_with fail
    have hX := Check_calls w7 (HV.out.below B7.out) P7 q7 ((l0.take n).map toY) E7.out (by rw [List.length_map, Ta.out]; omega) (ys_ok Sa.out (fun x hx => HD.out x (List.mem_of_mem_take hx)))
    rw [List.length_map, Ta.out] at hX
    refine hX.mono ?_
    clear hX
    rintro e w8 ⟨rfl, hb⟩
    have B8 := Aside0.mk (B7.out.trans (hb.mono B7.out.size))
    have X8 := Aside0.mk ((hb.block T (blk_lt X7.out)).trans X7.out)
    have HB8 := Lib.hid (show chk ((l0.take n).map toY) = if 0 ≤ a1 ∧ a1 < (n : Int) then (a1, a2) else (-1, 0) by
      have h := HCH.out
      rw [← List.map_take] at h
      have e : chkL (l0.map toY) 0 none (fun _ => none) 0 = (a1, a2) := HA.out
      rw [e] at h
      rw [show chk ((l0.take n).map toY) = chkL ((l0.take n).map toY) 0 none (fun _ => none) 0 from rfl, h]
      simp)
    clear hb B7 X7 E7
    rw [HB8.out]
    by_cases h1 : 0 ≤ a1 ∧ a1 < (n : Int)
    · rw [if_pos h1]
      obtain ⟨h1a, h1b⟩ := h1
      have BX := Aside0.mk (B8.out.alloc B8.out.size (.cells #[.int .i64 a1, .int .i64 a2] 27))
      have X9 := Aside0.mk ((Below.heap_alloc w8 (.cells #[.int .i64 a1, .int .i64 a2] 27) _ (blk_lt X8.out)).trans X8.out)
      have Y9 := Aside0.mk (heap_alloc_new w8 (.cells #[.int .i64 a1, .int .i64 a2] 27))
      clear HB8 HCH HA B8
      go_upto_region 8 with fail
      obtain ⟨T2, hT2⟩ : ∃ T2, T2 = w8.heap.size := ⟨_, rfl⟩
      rw [← hT2] at Y9 ⊢
      generalize w8.alloc (.cells #[.int .i64 a1, .int .i64 a2] 27) = w9 at BX X9 Y9 ⊢
      clear hT2 X8
      have x0 := fresh_cell X9.out 0
      have x1 := fresh_cell X9.out 1
      have y0 := fresh_cell Y9.out 0
      have y1 := fresh_cell Y9.out 1
      simp only [List.getElem?_toArray, List.getElem?_cons_zero, List.getElem?_cons_succ] at x0 x1 y0 y1
      go_wp2
      go_ret
      exact ⟨rfl, BX.out⟩
    · rw [if_neg h1]
      have BX := Aside0.mk (B8.out.alloc B8.out.size (.cells #[.int .i64 (-1), .int .i64 0] 27))
      have X9 := Aside0.mk ((Below.heap_alloc w8 (.cells #[.int .i64 (-1), .int .i64 0] 27) _ (blk_lt X8.out)).trans X8.out)
      have Y9 := Aside0.mk (heap_alloc_new w8 (.cells #[.int .i64 (-1), .int .i64 0] 27))
      clear HB8 HCH HA B8
      go_upto_region 8 with fail
      obtain ⟨T2, hT2⟩ : ∃ T2, T2 = w8.heap.size := ⟨_, rfl⟩
      rw [← hT2] at Y9 ⊢
      generalize w8.alloc (.cells #[.int .i64 (-1), .int .i64 0] 27) = w9 at BX X9 Y9 ⊢
      clear hT2 X8
      have x0 := fresh_cell X9.out 0
      have x1 := fresh_cell X9.out 1
      have y0 := fresh_cell Y9.out 0
      have y1 := fresh_cell Y9.out 1
      simp only [List.getElem?_toArray, List.getElem?_cons_zero, List.getElem?_cons_succ] at x0 x1 y0 y1
      by_cases h2 : 0 ≤ a1
      · have h3 : ¬ a1 < (n : Int) := fun h => h1 ⟨h2, h⟩
        clear h1
        go_wp2
        go_ret
        exact ⟨rfl, BX.out⟩
      · clear h1
        go_wp2
        go_ret
        exact ⟨rfl, BX.out⟩
end Go.Proofs.YtdihoopofhediaaGreatDoor.Wp
end
section
namespace Go.Proofs.YtdihoopofhediaaGreatDoor
open Go.RowKit Go.Proofs.YtdihoopofhediaaGreatDoorW.PrintWords

def Sm (P : Program) (t : TypeId) {H : Type} (d : DataW H) : Prop := ∀ n ∈ DataW.weights P t d, n ≤ reachBytes
theorem weights_mem_all {H : Type} {P : Program} {e : TypeId} {d : DataW H} {n : Nat} (hn : n ∈ d.weights P e) : ∀ {l : List (DataW H)}, d ∈ l → n ∈ DataW.weightsAll P e l
  | x :: l, h => by
    rw [DataW.weightsAll, List.mem_append]
    rcases List.mem_cons.1 h with rfl | h
    · exact Or.inl hn
    · exact Or.inr (weights_mem_all hn h)
def OpensW (P : Program) (t : TypeId) {α : Type} (d : Kd α) (Q : α → Prop) : Prop :=
  ∀ (H : Type) (enc : TypeId × Value → H) (w : World) (base : Nat) (spare : Nat → Bool) (held : Bool) (fuel : Nat) (cs : List Value) (x : DataW H × List MemPlace),
    DataW.trod enc P w base spare held fuel t cs = some x → Sm P t x.1 → ∃ v, d.K w v cs ∧ Q v
def OpensWAt (P : Program) (fs : List Field) (off : Nat) {α : Type} (d : Kd α) (Q : α → Prop) : Prop :=
  ∀ (H : Type) (enc : TypeId × Value → H) (w : World) (base : Nat) (spare : Nat → Bool) (held : Bool) (n : Nat) (cs : List Value), cs.length = off + d.sz →
    (∀ f ∈ fs, ∃ x, DataW.trod enc P w base spare held n f.type ((cs.drop f.offset).take (P.cellsOf f.type)) = some x ∧ Sm P f.type x.1) → ∃ v, d.K w v (cs.drop off) ∧ Q v
section
variable {P : Program} {t e : TypeId} {α β : Type} {d : Kd α} {d0 : Kd α} {d1 : Kd β} {Q : α → Prop} {Q1 : β → Prop}
theorem opensW_int {k : IntKind} (ht : P.underlying t = some (.int k)) : OpensW P t (Kd.int k) (fun n => (Lit.int k n).wf = true) := by
  intro H enc w base spare held fuel cs x h hw_
  obtain ⟨n, rfl, _, hw⟩ := DataW.trod_int ht h
  exact ⟨n, rfl, hw⟩
theorem opensW_bool (ht : P.underlying t = some .bool) : OpensW P t Kd.bool (fun _ => True) := by
  intro H enc w base spare held fuel cs x h hw_
  obtain ⟨n, rfl, _⟩ := DataW.trod_bool ht h
  exact ⟨n, rfl, trivial⟩
theorem opensW_string (ht : P.underlying t = some .string) : OpensW P t Kd.string (fun s => s.size ≤ reachBytes) := by
  intro H enc w base spare held fuel cs x h hw_
  obtain ⟨s, rfl, rfl, _⟩ := DataW.trod_string ht h
  have := hw_ s.data.toList.length (by simp [DataW.weights])
  rw [Array.length_toList] at this
  exact ⟨s, rfl, this⟩
theorem opensW_iso {γ : Type} (h : OpensW P t d Q) (f : γ → α) (g : α → γ) (hg : ∀ a, f (g a) = a) : OpensW P t (Kd.iso d f) (fun b => Q (f b)) := by
  intro H enc w base spare held fuel cs x hx hw_
  obtain ⟨v, hv, hq⟩ := h H enc w base spare held fuel cs x hx hw_
  exact ⟨g v, (show d.K w (f (g v)) cs by rw [hg]; exact hv), show Q (f (g v)) by rw [hg]; exact hq⟩
theorem opensWAt_one {f : Field} {off : Nat} (ho : f.offset = off) (hc : P.cellsOf f.type = d.sz) (h : OpensW P f.type d Q) : OpensWAt P [f] off d Q := by
  intro H enc w base spare held n cs hl hf
  obtain ⟨x, hx, hs_⟩ := hf f List.mem_cons_self
  rw [ho, hc, List.take_of_length_le (by rw [List.length_drop]; omega)] at hx
  exact h H enc w base spare held n _ x hx hs_
theorem opensWAt_cons {f : Field} {fs : List Field} {off : Nat} (ho : f.offset = off) (hc : P.cellsOf f.type = d0.sz) (h0 : OpensW P f.type d0 Q) (h1 : OpensWAt P fs (off + d0.sz) d1 Q1) :
    OpensWAt P (f :: fs) off (Kd.pair d0 d1) (fun v => Q v.1 ∧ Q1 v.2) := by
  intro H enc w base spare held n cs hl hf
  have hsz : (Kd.pair d0 d1).sz = d0.sz + d1.sz := rfl
  obtain ⟨x, hx, hs_⟩ := hf f List.mem_cons_self
  rw [ho, hc] at hx
  obtain ⟨a, ha, hq⟩ := h0 H enc w base spare held n _ x hx hs_
  obtain ⟨b, hb, hq1⟩ := h1 H enc w base spare held n cs (by omega) (fun g hg => hf g (List.mem_cons_of_mem _ hg))
  refine ⟨(a, b), ⟨_, _, ?_, ha, hb⟩, hq, hq1⟩
  rw [← List.drop_drop]
  exact (List.take_append_drop _ _).symm
theorem opensW_struct {fs : List Field} (ht : P.underlying t = some (.struct fs.toArray)) (hc : P.cellsOf t = d.sz) (h : OpensWAt P fs 0 d Q) : OpensW P t d Q := by
  intro H enc w base spare held fuel cs x hx hw_
  obtain ⟨xs, n, _, rfl, hl, hlen, hf⟩ := DataW.trod_struct ht hx
  have := h H enc w base spare held n cs (by omega) (by
    intro f hm
    obtain ⟨i, hi, rfl⟩ := List.mem_iff_getElem.1 hm
    have e := hf i fs[i] (by rw [List.getElem?_toArray, List.getElem?_eq_getElem hi])
    rw [List.size_toArray] at hlen
    rw [List.getElem?_eq_getElem (by omega)] at e
    refine ⟨_, e, fun m hm => hw_ m ?_⟩
    unfold DataW.weights
    simp only [ht]
    exact DataW.weights_mem_each (j := i) (t := fs[i].type) (d := xs[i].1) (by rw [List.getElem?_map, List.getElem?_eq_getElem hi]; rfl) (by rw [List.getElem?_map, List.getElem?_eq_getElem (by omega)]; rfl) m hm)
  simpa using this
theorem listW_of {R : Nat → α → Prop} : ∀ n : Nat, (∀ i, i < n → ∃ v, R i v) → ∃ xs : List α, xs.length = n ∧ ∀ i v, xs[i]? = some v → R i v
  | 0, _ => ⟨[], rfl, fun i v h => by simp at h⟩
  | n + 1, h => by
    obtain ⟨xs, hl, hx⟩ := listW_of n fun i hi => h i (by omega)
    obtain ⟨v, hv⟩ := h n (by omega)
    refine ⟨xs ++ [v], by rw [List.length_append, hl]; rfl, fun i u hu => ?_⟩
    rcases Nat.lt_or_ge i xs.length with hi | hi
    · rw [List.getElem?_append_left hi] at hu; exact hx i u hu
    · rw [List.getElem?_append_right hi] at hu
      rcases Nat.eq_zero_or_pos (i - xs.length) with h0 | h0
      · rw [h0] at hu
        obtain rfl : v = u := by simpa using hu
        rw [show i = n from by omega]; exact hv
      · rw [List.getElem?_eq_none (by simp; omega)] at hu; cases hu
theorem opensW_slice (ht : P.underlying t = some (.slice e)) (hc : P.cellsOf e = d.sz) (h : OpensW P e d Q) : OpensW P t (Kd.slice e d) (fun xs => (∀ x ∈ xs, Q x) ∧ xs.length * P.bytesOf e ≤ reachBytes) := by
  intro H enc w base spare held fuel cs x hx hw_
  rcases DataW.trod_slice ht hx with ⟨rfl, _⟩ | ⟨a, len, cap, elems, rest, n, _, rfl, rfl, hb, hl, hm, hlen, hel, _, _⟩
  · exact ⟨[], ⟨none, 0, rfl, Nat.le_refl _, rfl, Nat.zero_le _, fun h => absurd h (Nat.lt_irrefl 0)⟩, fun x hx => absurd hx List.not_mem_nil, by show 0 * _ ≤ _; omega⟩
  · obtain ⟨xs, hxl, hxs⟩ := listW_of (R := fun i v => (∃ c : List Value, c.length = d.sz ∧ d.K w v c ∧ ∀ j u, c[j]? = some u → w.cell? (a.add (i * d.sz + j)) = some u) ∧ Q v) len (by
      intro i hi
      have e1 := hel i hi
      rw [List.getElem?_eq_getElem (by omega)] at e1
      obtain ⟨c, hcs, hcd⟩ := Option.bind_eq_some_iff.1 e1
      obtain ⟨v, hv, hq⟩ := h H enc w base spare held n c _ hcd (fun m hm => hw_ m (by
        unfold DataW.weights
        simp only [ht]
        rw [List.mem_cons, List.mem_append]
        exact Or.inr (Or.inl (weights_mem_all hm (List.mem_map.2 ⟨_, List.getElem_mem _, rfl⟩)))))
      obtain ⟨q1, q2, q3⟩ := World.cells?_some hcs
      refine ⟨v, ⟨c, by rw [← hc]; exact q2, hv, fun j u hu => ?_⟩, hq⟩
      have hj : j < P.cellsOf e := by
        rcases Nat.lt_or_ge j c.length with h' | h'
        · omega
        · rw [List.getElem?_eq_none h'] at hu; cases hu
      have := q3 j hj
      rw [Addr.add_add, hc] at this
      rw [this, hu])
    refine ⟨xs, ⟨some a, cap, by rw [hxl], by omega, rfl, by rw [hxl]; unfold maxLen at hm; omega, fun _ => ⟨a, rfl, fun j p hp => (hxs j p hp).1⟩⟩, fun x hx => ?_, ?_⟩
    · obtain ⟨i, hi, rfl⟩ := List.mem_iff_getElem.1 hx
      exact (hxs i _ (List.getElem?_eq_getElem hi)).2
    · have := hw_ ((elems.length + rest.length) * P.bytesOf e) (by unfold DataW.weights; simp [ht])
      refine Nat.le_trans (Nat.mul_le_mul_right _ ?_) this
      omega
end
end Go.Proofs.YtdihoopofhediaaGreatDoor
end
section
namespace Go.Proofs.YtdihoopofhediaaGreatDoor.witnessParts
open Go.ChangeShapes Go.WideShapes Go.ChangeAt Go.RowKit
open Go.ChangeMaps (open_string shut_string)

theorem own : ownKnob Tryz.prog.godebug = none := by kernel_rfl
theorem laid_met (os : Os) (args : Array Value) : laidMetH Tryz.prog Rows.witnessPartsRow.laid ((World.laidAll Tryz.prog os Rows.witnessPartsRow.laid).forCall (fun _ _ => 0) ⟨#[], args, []⟩).memory := by
  rw [MakeChecks.laidMetH_plain _ _ _ (by kernel_rfl)]
  exact laidMet_laidAll _ (by kernel_rfl) (by kernel_rfl)
theorem shaped (os : Os) (args : Array Value) : ((World.laidAll Tryz.prog os Rows.witnessPartsRow.laid).forCall (fun _ _ => 0) ⟨#[], args, []⟩).Shaped Tryz.prog :=
  World.shaped_of_ZipB (by kernel_rfl) (by kernel_rfl)

theorem laidOut : laidOutB Tryz.prog = true := by kernel_rfl
theorem star : "*" ++ "errors.errorString" = "*errors.errorString" := by decide
theorem star_row (u : TypeId) (h : Tryz.prog.typeName? 3 u = some "*errors.errorString") : u = 175 :=
  typeName_ptr_named (nm := "errors.errorString") (by rw [star]; kernel_rfl) (by kernel_rfl) (by decide) u (by rw [star]; exact h)
theorem vars_of {W : World} (h : laidMetH Tryz.prog Rows.witnessPartsRow.laid W) (hsh : W.ShapedOpen Tryz.prog) : Vars W := by
  rw [MakeChecks.laidMetH_plain _ _ _ (by kernel_rfl)] at h
  obtain ⟨a0, s0, h0, -, -, -⟩ := laid_sentinel h.tail.tail.tail.tail gRange (ti := 131) (by kernel_rfl) Tryz.underlying131 star_row Tryz.underlying175 Tryz.underlying177 rfl rfl Tryz.underlying9 (by kernel_rfl) (by kernel_rfl)
  obtain ⟨a1, s1, h1, -, -, -⟩ := laid_sentinel h.tail.tail.tail.tail.tail gSyntax (ti := 131) (by kernel_rfl) Tryz.underlying131 star_row Tryz.underlying175 Tryz.underlying177 rfl rfl Tryz.underlying9 (by kernel_rfl) (by kernel_rfl)
  exact ⟨trivial, Lib.tabIs_of_head gPow (by kernel_rfl) Tryz.underlying168 Tryz.underlying25 (by kernel_rfl) (by kernel_rfl) h.tail.tail,
    cell_of_shapedOpen_int (P := Tryz.prog) (g := 0) (t := 3) (zero := #[.int .i64 0]) hsh (of_decide_eq_true (by kernel_rfl)) (by kernel_rfl) rfl (by kernel_rfl) (by kernel_rfl) Tryz.underlying3, ⟨_, _, h1⟩, ⟨_, _, h0⟩⟩
theorem wf_u64 {n : Int} (h : (Lit.int .u64 n).wf = true) : 0 ≤ n ∧ n < 18446744073709551616 := by
  simp [Lit.wf, IntKind.min, IntKind.max, IntKind.signed, IntKind.bits] at h
  omega
open Go.Proofs.YtdihoopofhediaaGreatDoorW.PrintWords
theorem opensW_mono {P : Program} {t : TypeId} {α : Type} {d : Kd α} {Q Q1 : α → Prop} (h : OpensW P t d Q) (hq : ∀ x, Q x → Q1 x) : OpensW P t d Q1 := by
  intro H enc w base spare held fuel cs x hx hs
  obtain ⟨v, hv, hqv⟩ := h H enc w base spare held fuel cs x hx hs
  exact ⟨v, hv, hq v hqv⟩
theorem delta_lo {n : Int} (h : (Lit.int .u64 n).wf = true) : 0 ≤ n := (wf_u64 h).1
theorem opens_cmd : OpensW Tryz.prog 35 XMd.k35 (fun x => x.f1.length * Tryz.prog.bytesOf 9 ≤ reachBytes ∧ 0 ≤ x.f6) :=
  opensW_mono (opensW_iso (opensW_struct Tryz.underlying35 (by kernel_rfl) (opensWAt_cons rfl (by kernel_rfl) (opensW_int Tryz.underlying3) (opensWAt_cons rfl (by kernel_rfl) (opensW_slice Tryz.underlying32 (by kernel_rfl) (opensW_string Tryz.underlying9)) (opensWAt_cons rfl (by kernel_rfl) (opensW_int Tryz.underlying33) (opensWAt_cons rfl (by kernel_rfl) (opensW_int Tryz.underlying2) (opensWAt_cons rfl (by kernel_rfl) (opensW_string Tryz.underlying9) (opensWAt_cons rfl (by kernel_rfl) (opensW_int Tryz.underlying25) (opensWAt_cons rfl (by kernel_rfl) (opensW_int Tryz.underlying25) (opensWAt_one rfl (by kernel_rfl) (opensW_bool Tryz.underlying4))))))))))
    _ (fun a => ⟨a.1, a.2.1, a.2.2.1, a.2.2.2.1, a.2.2.2.2.1, a.2.2.2.2.2.1, a.2.2.2.2.2.2.1, a.2.2.2.2.2.2.2⟩) (fun _ => rfl)) (fun x h => ⟨h.2.1.2, delta_lo h.2.2.2.2.2.2.1⟩)
theorem opens_hit : OpensW Tryz.prog 72 XMd.k72 (fun _ => True) :=
  opensW_mono (opensW_iso (opensW_struct Tryz.underlying72 (by kernel_rfl) (opensWAt_cons rfl (by kernel_rfl) (opensW_string Tryz.underlying9) (opensWAt_cons rfl (by kernel_rfl) (opensW_int Tryz.underlying33) (opensWAt_cons rfl (by kernel_rfl) (opensW_string Tryz.underlying9) (opensWAt_one rfl (by kernel_rfl) (opensW_int Tryz.underlying25))))))
    _ (fun a => ⟨a.1, a.2.1, a.2.2.1, a.2.2.2⟩) (fun _ => rfl)) (fun x h => trivial)
theorem opens_res : OpensW Tryz.prog 57 XMd.k57 (fun x => x.f1.length * Tryz.prog.bytesOf 72 ≤ reachBytes) :=
  opensW_mono (opensW_iso (opensW_struct Tryz.underlying57 (by kernel_rfl) (opensWAt_cons rfl (by kernel_rfl) (opensW_int Tryz.underlying3) (opensWAt_cons rfl (by kernel_rfl) (opensW_slice Tryz.underlying55 (by kernel_rfl) opens_hit) (opensWAt_one rfl (by kernel_rfl) (opensW_int Tryz.underlying25)))))
    _ (fun a => ⟨a.1, a.2.1, a.2.2⟩) (fun _ => rfl)) (fun x h => h.2.1.2)
theorem opens_drop : OpensW Tryz.prog 68 XMd.k68 (fun _ => True) :=
  opensW_mono (opensW_iso (opensW_struct Tryz.underlying68 (by kernel_rfl) (opensWAt_cons rfl (by kernel_rfl) (opensW_string Tryz.underlying9) (opensWAt_one rfl (by kernel_rfl) (opensW_int Tryz.underlying3))))
    _ (fun a => ⟨a.1, a.2⟩) (fun _ => rfl)) (fun x h => trivial)
theorem opens_event : OpensW Tryz.prog 60 XMd.k60 (fun x => x.f1.f1.length * Tryz.prog.bytesOf 9 ≤ reachBytes ∧ x.f3.f1.length * Tryz.prog.bytesOf 72 ≤ reachBytes ∧ 0 ≤ x.f1.f6) :=
  opensW_mono (opensW_iso (opensW_struct Tryz.underlying60 (by kernel_rfl) (opensWAt_cons rfl (by kernel_rfl) (opensW_int Tryz.underlying3) (opensWAt_cons rfl (by kernel_rfl) opens_cmd (opensWAt_cons rfl (by kernel_rfl) (opensW_int Tryz.underlying2) (opensWAt_cons rfl (by kernel_rfl) opens_res (opensWAt_one rfl (by kernel_rfl) (opensW_slice Tryz.underlying58 (by kernel_rfl) opens_drop)))))))
    _ (fun a => ⟨a.1, a.2.1, a.2.2.1, a.2.2.2.1, a.2.2.2.2⟩) (fun _ => rfl)) (fun x h => ⟨h.2.1.1, h.2.2.2.1, h.2.1.2⟩)
theorem opens_arg : OpensW Tryz.prog 22 (Kd.slice 60 XMd.k60) (fun xs => (∀ x ∈ xs, x.f1.f1.length * Tryz.prog.bytesOf 9 ≤ reachBytes ∧ x.f3.f1.length * Tryz.prog.bytesOf 72 ≤ reachBytes ∧ 0 ≤ x.f1.f6) ∧ xs.length * Tryz.prog.bytesOf 60 ≤ reachBytes) :=
  opensW_slice Tryz.underlying22 (by kernel_rfl) opens_event
theorem bytes_string : Tryz.prog.bytesOf 9 = 16 := by kernel_rfl
theorem bytes_hit : Tryz.prog.bytesOf 72 = 48 := by kernel_rfl
theorem fits {l : List (XMd.S60)} (h : ∀ x ∈ l, x.f1.f1.length * Tryz.prog.bytesOf 9 ≤ reachBytes ∧ x.f3.f1.length * Tryz.prog.bytesOf 72 ≤ reachBytes ∧ 0 ≤ x.f1.f6) : ∀ x ∈ l, x.f1.f1.length ≤ 4611686018427387904 ∧ x.f3.f1.length ≤ 2932031007317 := by
  intro x hx
  obtain ⟨h1, h2, -⟩ := h x hx
  rw [bytes_string] at h1
  rw [bytes_hit] at h2
  unfold reachBytes at h1 h2
  omega
set_option maxRecDepth 100000 in
theorem lifted (os : Os) (started : os.Started) (H : Type) (enc : TypeId × Value → H) (F : Stop.Interp) :
    ReturnsInHanded {} Tryz.checked os 3 .any ((OpenSpec.ofChange Rows.witnessPartsSpec).preRow enc Tryz.prog Tryz.f3 Rows.witnessPartsRow.domain false Rows.witnessPartsRow.laid) (((OpenSpec.ofChange Rows.witnessPartsSpec).at F).post enc Tryz.prog Tryz.f3 false true false false) := by
  refine returnsInHanded_of_row (C := Tryz.checked) (s := OpenSpec.ofChange Rows.witnessPartsSpec) own started (by kernel_rfl) Tryz.func3
    (ChangeSpec.witness_shaped (enc := enc) (C := Tryz.checked) (os := os) (s := Rows.witnessPartsSpec) (X := fun w _ => laidMetH Tryz.prog Rows.witnessPartsRow.laid w) false (World.laidAll Tryz.prog os Rows.witnessPartsRow.laid) #[.slice none 0 0, .int .i64 0] 8 (World.laidAll_os _ _ _)
      (shaped os _) (by kernel_rfl) (by kernel_rfl) (by kernel_rfl) (laid_met os _)) ?_
  intro W base args ds gs before hval0 hW _ _ hsz0 hL hsh _
  have hsz : (DataW.weightsEach Tryz.prog (Tryz.f3.params.toList ++ Rows.witnessPartsSpec.plain.varTypes Tryz.prog) (ds ++ gs)).all (· ≤ reachBytes) = true := hsz0
  have hval : ∀ (j : Nat) t v, Tryz.f3.params[j]? = some t → args[j]? = some v → Value.okWide Tryz.prog W .any base t v := hval0
  have hW' := hW
  obtain ⟨p, q, hA0, hV, rfl, hfz, hnd⟩ := hW
  have hA : DataW.TrodAll enc Tryz.prog W 0 (fun _ => true) true Tryz.f3.params.toList args.toList ds p := hA0
  rw [Tryz.params3] at hA hval hsz
  obtain ⟨v0, vs0, d0, ds0, p0, q0, hargs, rfl, rfl, h0, r0⟩ := trodAll_cons hA
  obtain ⟨v1, vs1, d1, ds1, p1, q1, rfl, rfl, rfl, h1, r1⟩ := trodAll_cons r0
  obtain ⟨rfl, rfl, rfl⟩ := trodAll_nil r1
  obtain rfl : args = #[v0, v1] := by cases args; simp_all
  obtain ⟨rfl, rfl⟩ := trodVars_none hV
  have k0 := h0
  have k1 := h1
  have lt0 : ∀ x ∈ p0, x.block < W.heap.size := by obtain ⟨m, hm⟩ := k0; exact DataW.trod_lt m _ _ _ hm
  have lt1 : ∀ x ∈ p1, x.block < W.heap.size := by obtain ⟨m, hm⟩ := k1; exact DataW.trod_lt m _ _ _ hm
  obtain ⟨A, n, c, rfl⟩ := okWide_slice Tryz.underlying22 (hval 0 22 v0 rfl rfl)
  obtain ⟨at_, rfl, rfl, rfl, y1⟩ := open_int Tryz.underlying3 (hval 1 3 v1 rfl rfl) h1
  have hw0 : Sm Tryz.prog 22 d0 := fun m hm => by
    have := List.all_eq_true.1 hsz m (DataW.weights_mem_each (j := 0) (t := 22) (d := d0) rfl rfl m hm)
    simpa using this
  obtain ⟨fuel, hf⟩ := h0
  obtain ⟨l, hK, hfit, -⟩ := opens_arg H enc W 0 _ true fuel _ _ hf hw0
  obtain ⟨A', c', e0, hc, hC⟩ := hK
  have e1 : Value.slice A n c = .slice A' l.length c' := List.head_eq_of_cons_eq e0
  injection e1 with e1 e2 e3
  subst e1 e2 e3
  clear hA0 hval0 hsz0 hsz hf e0 hw0
  have hv : Vars W := vars_of hL hsh
  obtain ⟨kg, gr, hgr, hsm⟩ := Wp.great_all l (fits hfit)
  refine (Wp.parts_law W hv A l c at_ hc hC (fun x hx => (hfit x hx).2.2) kg gr hgr hsm).mono fun e W' ⟨he, bel⟩ => ?_
  subst he
  exact ⟨_, rfl, _, _, _, [], _, [], hW', trodAll_mk1 (shut_bool Tryz.underlying4 _), (trodAll_cons_mk (Below.trod laidOut (by kernel_rfl) (of_decide_eq_true (by kernel_rfl)) k0 bel lt0) (trodAll_cons_mk (Below.trod laidOut (by kernel_rfl) (of_decide_eq_true (by kernel_rfl)) k1 bel lt1) trodAll_mk0)), rfl, bel.frame _, fun h => by cases h⟩

theorem said : Rows.WitnessPartsSaid :=
  OpenClaim.holds_of_cond 3 Tryz.f3 rfl rfl rfl rfl rfl rfl rfl ⟨rfl, rfl, rfl, rfl, rfl⟩ rfl rfl rfl rfl rfl (by kernel_rfl) Tryz.func3 (by kernel_rfl)
    (of_decide_eq_true (by kernel_rfl)) (by unfold Func.isWrapper; first | (rw [if_pos (by decide +kernel)]; kernel_rfl) | (rw [if_neg (by decide +kernel)]; exact ⟨rfl, rfl⟩))
    (fun os started H enc _ F => by rw [OpenClaim.pre_eq_preRow]; exact lifted os started H enc F)

theorem plain (f : FuncId) (fn : Func) (hf : Tryz.pinned.checked.prog.funcNamed "tallboy/tallboylaw25.WitnessParts" = some f) (hfn : Tryz.pinned.checked.prog.funcs[f]? = some fn) :
    true = Tryz.pinned.checked.prog.looks [] ∧ ∀ (j : Nat) t, fn.params[j]? = some t → Tryz.pinned.checked.prog.wantsStandIn t = false := by
  obtain rfl : f = 3 := Option.some.inj ((show Tryz.prog.funcNamed "tallboy/tallboylaw25.WitnessParts" = some 3 by kernel_rfl).symm.trans hf) |>.symm
  obtain rfl : fn = Tryz.f3 := (Option.some.inj (Tryz.func3.symm.trans hfn)).symm
  refine ⟨by kernel_rfl, fun j t ht => ?_⟩
  rw [Tryz.params3] at ht
  have hm := Array.mem_of_getElem? ht
  have hall : (Tryz.f3.params.toList.all fun u => !Tryz.prog.wantsStandIn u) = true := by kernel_rfl
  rw [Tryz.params3] at hall
  exact (show Tryz.prog.wantsStandIn t = false by simpa using List.all_eq_true.1 hall t (by simpa using hm))

theorem card : Rows.WitnessPartsCardSaid :=
  Claim7.holds_tied_plain_at .later [] _ _ _ _ said (fun _ h => by cases h) (by kernel_rfl) (fun _ h => by cases h) witnessParts_row_tie rfl ⟨rfl, rfl⟩ (by kernel_rfl) rfl plain (by kernel_rfl)
end Go.Proofs.YtdihoopofhediaaGreatDoor.witnessParts
namespace Go.Proofs.YtdihoopofhediaaGreatDoor
theorem witnessParts_card : Rows.WitnessPartsCardSaid := witnessParts.card
#print axioms witnessParts_card
end Go.Proofs.YtdihoopofhediaaGreatDoor
end
