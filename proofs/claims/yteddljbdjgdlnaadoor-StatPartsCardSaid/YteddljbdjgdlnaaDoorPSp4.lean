/- Put together by wip/pack.py (this session's own program) out of this session's texts; a kit's tool laid the words and the shelf, of which only what is used stands here. Lean checks it. -/
import Derived.Test.YteddljbdjgdlnaaDoorPSp3
import Derived.Deep.RegionHeld3
import Derived.Deep.DeepCutAuto
import Derived.Lib.TrimByte
import Derived.OpenShut
import Derived.ChangeArms
import Derived.DataReads
import Derived.DataElems
import Derived.SizedLaws
import Derived.Test.YteddljbdjgdlnaaDoorCards
import Derived.Test.YteddljbdjgdlnaaDoorTie
import Derived.WalkKit
import Derived.ProofKit
import Derived.ShutString
import Derived.ChangeOld
import Derived.Below
import Derived.LaidMore
import Derived.Lay
import Derived.SevenTiedAt
import Derived.Stop.Joined
import Derived.Deep.DeepHandedRow
import Derived.Shelf.Vars
import Derived.Stop.LaidErr
section
namespace Go.Proofs.YteddljbdjgdlnaaDoor.St
open Go.RowKit Go.Proofs.YteddljbdjgdlnaaDoorW.PrintWords Go.Proofs.YteddljbdjgdlnaaDoorW.PrintLast Go.Proofs.YteddljbdjgdlnaaDoorW.PrintMore Go.WideMaps Go.Proofs.YteddljbdjgdlnaaDoor.XSb
set_option linter.unusedVariables false
set_option linter.unusedSimpArgs false
attribute [local go_sem ↓] Go.wp_at_zero Go.wp_at_succ
structure Ou (w wr : World) (l0 : List X) (j : Nat) (v : Value) : Prop where
  row : Kd.R k99 99 wr w.heap.size (fun _ => True) v ((l0.take j).map toY)
  bel : Below w.heap.size w wr
theorem info_drop : (Tryd.prog.info? 144).map (fun i => (i.zero, i.size, i.bytes)) = some (some (.agg #[(.string ⟨#[]⟩), (.int .i64 0)]), 2, 24) := by kernel_rfl
set_option maxHeartbeats 16000000 in
set_option maxRecDepth 100000 in
theorem To_calls (w : World) (A0 : Option Addr) (l0 : List X) (c0 : Nat) (hC0 : Kd.C k42 w A0 l0.length l0) (hc0 : l0.length ≤ c0) (hl : l0.length ≤ 1000) (hs : ∀ x ∈ l0, x.f1.f1.length ≤ 100000 ∧ x.f3.f1.length ≤ 2932031007317 ∧ x.f4.length ≤ 100000) :
    Calls Tryd.prog 34 #[.slice A0 l0.length c0] w fun e w' => ∃ v, e = .returned v ∧ Kd.R k99 99 w' w.heap.size (fun _ => True) v (l0.map toY) ∧ Below w.heap.size w w' := by
  have HC0 := Aside0.mk hC0
  have HS := Aside0.mk hs
  have O0 : Aside0 (Ou w w l0 0 (.slice none 0 0)) := ⟨⟨Kd.R_nil _ _ _ _ _, Below.refl _ w⟩⟩
  clear hC0 hs
  go_enter Tryd.func34, Tryd.ntmps34
  go_wp2_with fail
  go_loopg [3, 4] l0.length (fun gg v3 v4 wr => ∃ (j : Nat), v4 = .int .i64 j ∧ j ≤ l0.length ∧ l0.length - j ≤ gg ∧ Aside0 (Ou w wr l0 j v3))
  case atStart => exact ⟨0, rfl, Nat.zero_le _, by omega, O0⟩
  case round =>
    clear O0
    obtain ⟨j, rfl, hj, hgj, HO⟩ := hrel
    by_cases hlt : j < l0.length
    · have hji : (j : Int) < (l0.length : Int) := by omega
      have hx : l0[j]? = some (rd_T42 l0 (j : Int)) := by
        unfold rd_T42
        rw [Int.toNat_natCast, List.getD_eq_getElem?_getD, List.getElem?_eq_getElem hlt]; rfl
      obtain ⟨ad, A2, c2, A11, c11, A13, c13, rfl, k0, k1, k2, k3, k4, k5, k6, k7, k8, k9, k10, k11, k12, k13, l2, g2, l11, g11, l13, g13⟩ := at_T42 HC0.out (j : Int) (by omega) hji
      rw [Int.toNat_natCast] at k0 k1 k2 k3 k4 k5 k6 k7 k8 k9 k10 k11 k12 k13
      obtain ⟨x, hxx⟩ : ∃ x, x = rd_T42 l0 (j : Int) := ⟨_, rfl⟩
      rw [← hxx] at hx k0 k1 k2 k3 k4 k5 k6 k7 k8 k9 k10 k11 k12 k13 l2 g2 l11 g11 l13 g13
      have hadl : (ad.add (j * 14)).block < w.heap.size := World.block_lt_of_cell? w _ k0
      have HF := Lib.hid (keep14 (q := ad.add (j * 14)) (keepB HO.out.bel hadl) ⟨k0, k1, k2, k3, k4, k5, k6, k7, k8, k9, k10, k11, k12, k13⟩)
      clear k0 k1 k2 k3 k4 k5 k6 k7 k8 k9 k10 k11 k12 k13
      obtain ⟨k0, k1, k2, k3, k4, k5, k6, k7, k8, k9, k10, k11, k12, k13⟩ := HF.out
      have hsx := HS.out x (List.mem_of_getElem? hx)
      obtain ⟨hs1, hs2, hs3⟩ := hsx
      have HX := Lib.hid hx
      have K2 := Aside0.mk (Kd.C_below g2 HO.out.bel)
      have K11 := Aside0.mk (Kd.C_below g11 HO.out.bel)
      have K13 := Aside0.mk (Kd.C_below g13 HO.out.bel)
      have HOWN := Lib.hid (own_is x.f1 (by omega))
      have HTO := Lib.hid (to18_is x.f3 (by omega))
      clear hx hxx g2 g11 g13
      go_upto_region 5 with fail
      have hadw : (ad.add (j * 14)).block < wr.heap.size := Nat.lt_of_lt_of_le hadl HO.out.bel.size
      have BD := Aside0.mk (Below.refl wr.heap.size wr).drew
      have BA := Aside0.mk ((Below.refl wr.heap.size wr).alloc (Nat.le_refl _) (.cells #[.int .i64 0, .int .i64 0, .slice none 0 0, .int .u32 0, .int .i64 0, .string ⟨#[]⟩, .int .u64 0, .int .u64 0, .bool false, .int .i64 0, .int .i64 0, .slice none 0 0, .int .u64 0, .slice none 0 0] 99)).drew
      clear k0 k1 k2 k3 k4 k5 k6 k7 k8 k9 k10 k11 k12 k13
      have dn9 : 99 ∉ 9 :: Kd.string.E := by decide
      have dn11 : 99 ∉ 135 :: k135.E := by decide
      go_cut [5] (fun v5 wc => ∃ T A3 c3 A4 c4, v5 = .pointer (some ⟨T, 0, none⟩) ∧ Aside0 (Ue wr wc x T (.slice A3 x.f1.f1.length c3) (.slice A4 x.f3.f1.length c4) (.slice none 0 0) []))
      case first =>
        go_region_held3 (fun w' => w'.cell? (ad.add (j * 14)) = some (.int .i64 x.f0) ∧ w'.cell? ⟨(ad.add (j * 14)).block, (ad.add (j * 14)).off + 1, none⟩ = some (.int .i64 x.f1.f0) ∧ w'.cell? ⟨(ad.add (j * 14)).block, (ad.add (j * 14)).off + 2, none⟩ = some (.slice A2 x.f1.f1.length c2) ∧ w'.cell? ⟨(ad.add (j * 14)).block, (ad.add (j * 14)).off + 3, none⟩ = some (.int .u32 x.f1.f2) ∧ w'.cell? ⟨(ad.add (j * 14)).block, (ad.add (j * 14)).off + 4, none⟩ = some (.int .i64 x.f1.f3) ∧ w'.cell? ⟨(ad.add (j * 14)).block, (ad.add (j * 14)).off + 5, none⟩ = some (.string x.f1.f4) ∧ w'.cell? ⟨(ad.add (j * 14)).block, (ad.add (j * 14)).off + 6, none⟩ = some (.int .u64 x.f1.f5) ∧ w'.cell? ⟨(ad.add (j * 14)).block, (ad.add (j * 14)).off + 7, none⟩ = some (.int .u64 x.f1.f6) ∧ w'.cell? ⟨(ad.add (j * 14)).block, (ad.add (j * 14)).off + 8, none⟩ = some (.bool x.f1.f7) ∧ w'.cell? ⟨(ad.add (j * 14)).block, (ad.add (j * 14)).off + 9, none⟩ = some (.int .i64 x.f2) ∧ w'.cell? ⟨(ad.add (j * 14)).block, (ad.add (j * 14)).off + 10, none⟩ = some (.int .i64 x.f3.f0) ∧ w'.cell? ⟨(ad.add (j * 14)).block, (ad.add (j * 14)).off + 11, none⟩ = some (.slice A11 x.f3.f1.length c11) ∧ w'.cell? ⟨(ad.add (j * 14)).block, (ad.add (j * 14)).off + 12, none⟩ = some (.int .u64 x.f3.f2) ∧ w'.cell? ⟨(ad.add (j * 14)).block, (ad.add (j * 14)).off + 13, none⟩ = some (.slice A13 x.f4.length c13))
          ((first | with_reducible exact HF.out | with_reducible exact HF3.out | with_reducible exact HF4.out | with_reducible exact keep14 (keepB BD.out hadw) HF.out | with_reducible exact keep14 (keepB BA.out hadw) HF.out | with_reducible exact keep14 (keepB (BO.out.alloc BO.out.size _) hadw) HF.out | with_reducible exact keep14 (keepB (BT.out.alloc BT.out.size _) hadw) HF.out | with_reducible exact keep14 (keepB (below14 BT.out (Nat.le_refl _)) hadw) HF.out | with_reducible exact keep14 (keepB (below14 BT.out HS3.out) hadw) HF.out | with_reducible exact keep14 (keepB (below14 BT.out HS4.out) hadw) HF.out | with_reducible exact keep14 (keepB (below14 BO.out (Nat.le_refl _)) hadw) HF.out | with_reducible exact keep14 (keepB (below14 BO.out HS3.out) hadw) HF.out | with_reducible exact keep14 (keepB (below14 BO.out HS4.out) hadw) HF.out))
          (first
            | (go_at_call 63; refine (tallboylaw15_Own.calls x.f1.f0 A2 c2 x.f1.f1 x.f1.f2 x.f1.f3 x.f1.f4 x.f1.f5 x.f1.f6 x.f1.f7 _ _ _ _ _ _ _ _ _ (Kd.C_below K2.out (by first | exact BD.out | exact BA.out | exact BT.out | exact BT.out.alloc BT.out.size _)) l2 HOWN.out).mono ?_; rintro e w3 ⟨v2, rfl, hR, hb3⟩; obtain ⟨A3, c3, rfl⟩ := Kd.R_slice hR; (have hB3 : Below wr.heap.size wr w3 := (by first | exact BD.out.trans (hb3.mono BD.out.size) | exact BA.out.trans (hb3.mono BA.out.size) | exact BT.out.trans (hb3.mono BT.out.size) | exact (BT.out.alloc BT.out.size _).trans (hb3.mono (BT.out.alloc BT.out.size (.cells #[.int .i64 0, .int .i64 0, .slice none 0 0, .int .u32 0, .int .i64 0, .string ⟨#[]⟩, .int .u64 0, .int .u64 0, .bool false, .int .i64 0, .int .i64 0, .slice none 0 0, .int .u64 0, .slice none 0 0] 99)).size))); (have R2 := Aside0.mk (R_up hR (by first | exact BD.out.size | exact BA.out.size | exact BT.out.size | exact (BT.out.alloc BT.out.size (.cells #[.int .i64 0, .int .i64 0, .slice none 0 0, .int .u32 0, .int .i64 0, .string ⟨#[]⟩, .int .u64 0, .int .u64 0, .bool false, .int .i64 0, .int .i64 0, .slice none 0 0, .int .u64 0, .slice none 0 0] 99)).size))); (have BO := Aside0.mk hB3); (have HS3 := Lib.hid hB3.size); (have HF3 := Lib.hid (keep14 (keepB hB3 hadw) HF.out)); (first | (have HQ3 := Lib.hid (fresh_block hb3 rfl)) | (have HQ3 := Lib.hid ((hb3.block _ (blk_lt HQ4.out)).trans HQ4.out)) | (have HQ3 := Lib.hid ((hb3.block _ (by rw [size_al]; exact Nat.lt_succ_self _)).trans (heap_alloc_new w4 (.cells #[.int .i64 0, .int .i64 0, .slice none 0 0, .int .u32 0, .int .i64 0, .string ⟨#[]⟩, .int .u64 0, .int .u64 0, .bool false, .int .i64 0, .int .i64 0, .slice none 0 0, .int .u64 0, .slice none 0 0] 99)))) | skip); (first | (have R11' := Aside0.mk (Kd.R_below R11.out hb3)) | (have R11' := Aside0.mk (Kd.R_below (Kd.R_below R11.out ((Below.refl _ w4).alloc (Nat.le_refl _) (.cells #[.int .i64 0, .int .i64 0, .slice none 0 0, .int .u32 0, .int .i64 0, .string ⟨#[]⟩, .int .u64 0, .int .u64 0, .bool false, .int .i64 0, .int .i64 0, .slice none 0 0, .int .u64 0, .slice none 0 0] 99))) hb3)) | skip); (first | (clear R11; have R11 := R11'; clear R11') | skip); (first | (clear BT) | skip); clear hR hb3 hB3; (first | clear q0 q1 q2 q3 q4 q5 q6 q7 q8 q9 q10 q11 q12 q13 f0 f1 f2 f3 f4 f5 f6 f7 f8 f9 f10 f11 f12 f13 | skip); (first | (have q0 := fresh_cell HQ3.out 0; have q1 := fresh_cell HQ3.out 1; have q2 := fresh_cell HQ3.out 2; have q3 := fresh_cell HQ3.out 3; have q4 := fresh_cell HQ3.out 4; have q5 := fresh_cell HQ3.out 5; have q6 := fresh_cell HQ3.out 6; have q7 := fresh_cell HQ3.out 7; have q8 := fresh_cell HQ3.out 8; have q9 := fresh_cell HQ3.out 9; have q10 := fresh_cell HQ3.out 10; have q11 := fresh_cell HQ3.out 11; have q12 := fresh_cell HQ3.out 12; have q13 := fresh_cell HQ3.out 13; have f0 := fresh_frozen HQ3.out 0; have f1 := fresh_frozen HQ3.out 1; have f2 := fresh_frozen HQ3.out 2; have f3 := fresh_frozen HQ3.out 3; have f4 := fresh_frozen HQ3.out 4; have f5 := fresh_frozen HQ3.out 5; have f6 := fresh_frozen HQ3.out 6; have f7 := fresh_frozen HQ3.out 7; have f8 := fresh_frozen HQ3.out 8; have f9 := fresh_frozen HQ3.out 9; have f10 := fresh_frozen HQ3.out 10; have f11 := fresh_frozen HQ3.out 11; have f12 := fresh_frozen HQ3.out 12; have f13 := fresh_frozen HQ3.out 13; simp only [List.getElem?_toArray, List.getElem?_cons_zero, List.getElem?_cons_succ] at q0 q1 q2 q3 q4 q5 q6 q7 q8 q9 q10 q11 q12 q13) | skip))
            | (go_at_call 64; refine (tallboylaw18_To.calls _ x.f3.f0 A11 c11 x.f3.f1 x.f3.f2 _ _ _ _ (Kd.C_below K11.out (by first | exact BD.out | exact BA.out | exact BO.out | exact BO.out.alloc BO.out.size _)) l11 HTO.out).mono ?_; rintro e w4 ⟨v11, rfl, hR, hb4⟩; obtain ⟨A4, c4, rfl⟩ := Kd.R_slice hR; rw [List.length_map] at hR; (have hB4 : Below wr.heap.size wr w4 := (by first | exact BD.out.trans (hb4.mono BD.out.size) | exact BA.out.trans (hb4.mono BA.out.size) | exact BO.out.trans (hb4.mono BO.out.size) | exact (BO.out.alloc BO.out.size _).trans (hb4.mono (BO.out.alloc BO.out.size (.cells #[.int .i64 0, .int .i64 0, .slice none 0 0, .int .u32 0, .int .i64 0, .string ⟨#[]⟩, .int .u64 0, .int .u64 0, .bool false, .int .i64 0, .int .i64 0, .slice none 0 0, .int .u64 0, .slice none 0 0] 99)).size))); (have R11 := Aside0.mk (R_up hR (by first | exact BD.out.size | exact BA.out.size | exact BO.out.size | exact (BO.out.alloc BO.out.size (.cells #[.int .i64 0, .int .i64 0, .slice none 0 0, .int .u32 0, .int .i64 0, .string ⟨#[]⟩, .int .u64 0, .int .u64 0, .bool false, .int .i64 0, .int .i64 0, .slice none 0 0, .int .u64 0, .slice none 0 0] 99)).size))); (have BT := Aside0.mk hB4); (have HS4 := Lib.hid hB4.size); (have HF4 := Lib.hid (keep14 (keepB hB4 hadw) HF.out)); (first | (have HQ4 := Lib.hid (fresh_block hb4 rfl)) | (have HQ4 := Lib.hid ((hb4.block _ (blk_lt HQ3.out)).trans HQ3.out)) | (have HQ4 := Lib.hid ((hb4.block _ (by rw [size_al]; exact Nat.lt_succ_self _)).trans (heap_alloc_new w3 (.cells #[.int .i64 0, .int .i64 0, .slice none 0 0, .int .u32 0, .int .i64 0, .string ⟨#[]⟩, .int .u64 0, .int .u64 0, .bool false, .int .i64 0, .int .i64 0, .slice none 0 0, .int .u64 0, .slice none 0 0] 99)))) | skip); (first | (have R2' := Aside0.mk (Kd.R_below R2.out hb4)) | (have R2' := Aside0.mk (Kd.R_below (Kd.R_below R2.out ((Below.refl _ w3).alloc (Nat.le_refl _) (.cells #[.int .i64 0, .int .i64 0, .slice none 0 0, .int .u32 0, .int .i64 0, .string ⟨#[]⟩, .int .u64 0, .int .u64 0, .bool false, .int .i64 0, .int .i64 0, .slice none 0 0, .int .u64 0, .slice none 0 0] 99))) hb4)) | skip); (first | (clear R2; have R2 := R2'; clear R2') | skip); (first | (clear BO) | skip); clear hR hb4 hB4; (first | clear q0 q1 q2 q3 q4 q5 q6 q7 q8 q9 q10 q11 q12 q13 f0 f1 f2 f3 f4 f5 f6 f7 f8 f9 f10 f11 f12 f13 | skip); (first | (have q0 := fresh_cell HQ4.out 0; have q1 := fresh_cell HQ4.out 1; have q2 := fresh_cell HQ4.out 2; have q3 := fresh_cell HQ4.out 3; have q4 := fresh_cell HQ4.out 4; have q5 := fresh_cell HQ4.out 5; have q6 := fresh_cell HQ4.out 6; have q7 := fresh_cell HQ4.out 7; have q8 := fresh_cell HQ4.out 8; have q9 := fresh_cell HQ4.out 9; have q10 := fresh_cell HQ4.out 10; have q11 := fresh_cell HQ4.out 11; have q12 := fresh_cell HQ4.out 12; have q13 := fresh_cell HQ4.out 13; have f0 := fresh_frozen HQ4.out 0; have f1 := fresh_frozen HQ4.out 1; have f2 := fresh_frozen HQ4.out 2; have f3 := fresh_frozen HQ4.out 3; have f4 := fresh_frozen HQ4.out 4; have f5 := fresh_frozen HQ4.out 5; have f6 := fresh_frozen HQ4.out 6; have f7 := fresh_frozen HQ4.out 7; have f8 := fresh_frozen HQ4.out 8; have f9 := fresh_frozen HQ4.out 9; have f10 := fresh_frozen HQ4.out 10; have f11 := fresh_frozen HQ4.out 11; have f12 := fresh_frozen HQ4.out 12; have f13 := fresh_frozen HQ4.out 13; simp only [List.getElem?_toArray, List.getElem?_cons_zero, List.getElem?_cons_succ] at q0 q1 q2 q3 q4 q5 q6 q7 q8 q9 q10 q11 q12 q13) | skip)))
        all_goals
          (first | clear q0 q1 q2 q3 q4 q5 q6 q7 q8 q9 q10 q11 q12 q13 f0 f1 f2 f3 f4 f5 f6 f7 f8 f9 f10 f11 f12 f13 | skip)
          go_wp2_with fail
          go_meet
          case rel =>
            first
              | with_reducible exact ⟨_, A3, c3, A4, c4, rfl, ⟨ue_new R2.out R11.out BT.out⟩⟩
              | with_reducible exact ⟨_, A3, c3, A4, c4, rfl, ⟨ue_new R2.out R11.out BO.out⟩⟩
              | with_reducible exact ⟨_, A3, c3, A4, c4, rfl, ⟨ue_set R2.out R11.out BT.out (Nat.le_refl _) HQ4.out⟩⟩
              | with_reducible exact ⟨_, A3, c3, A4, c4, rfl, ⟨ue_set R2.out R11.out BT.out HS3.out HQ4.out⟩⟩
              | with_reducible exact ⟨_, A3, c3, A4, c4, rfl, ⟨ue_set R2.out R11.out BO.out (Nat.le_refl _) HQ3.out⟩⟩
              | with_reducible exact ⟨_, A3, c3, A4, c4, rfl, ⟨ue_set R2.out R11.out BO.out HS4.out HQ3.out⟩⟩
      case rest =>
        obtain ⟨T, A3, c3, A4, c4, rfl, HU⟩ := hcut
        obtain ⟨W0, hW0⟩ : ∃ W0, W0 = wr := ⟨_, rfl⟩
        subst hW0
        have U0 : Aside0 (∃ v13, Ue W0 wc x T (.slice A3 x.f1.f1.length c3) (.slice A4 x.f3.f1.length c4) v13 ((x.f4.take 0).map toD)) := ⟨_, HU.out⟩
        clear HU BD BA dn9 dn11 HOWN HTO K2 K11
        go_wp2_with fail
        go_loopg [6] x.f4.length (fun gg v6 wi => ∃ (i : Nat), v6 = .int .i64 i ∧ i ≤ x.f4.length ∧ x.f4.length - i ≤ gg ∧ Aside0 (∃ v13, Ue W0 wi x T (.slice A3 x.f1.f1.length c3) (.slice A4 x.f3.f1.length c4) v13 ((x.f4.take i).map toD)))
        case atStart => exact ⟨0, rfl, Nat.zero_le _, by omega, U0⟩
        case round =>
          clear U0
          obtain ⟨i, rfl, hi, hgi, HI⟩ := hrel
          obtain ⟨v13, hUi⟩ := HI.out
          have UI := Aside0.mk hUi
          clear HI hUi
          have HK13 := Lib.hid (keep14 (keepB UI.out.bel hadw) HF.out).2.2.2.2.2.2.2.2.2.2.2.2.2
          by_cases hil : i < x.f4.length
          · have hii : (i : Int) < (x.f4.length : Int) := by omega
            have hd : x.f4[i]? = some (rd_T104 x.f4 (i : Int)) := by
              unfold rd_T104
              rw [Int.toNat_natCast, List.getD_eq_getElem?_getD, List.getElem?_eq_getElem hil]; rfl
            obtain ⟨ad13, rfl, d0, d1⟩ := at_T104 K13.out (i : Int) (by omega) hii
            rw [Int.toNat_natCast] at d0 d1
            obtain ⟨d, hdd⟩ : ∃ d, d = rd_T104 x.f4 (i : Int) := ⟨_, rfl⟩
            rw [← hdd] at d0 d1 hd
            have htk : (x.f4.take (i + 1)).map toD = (x.f4.take i).map toD ++ [toD d] := by rw [List.take_add_one, hd, List.map_append]; rfl
            have HTK := Lib.hid htk
            have hd13 : (ad13.add (i * 2)).block < W0.heap.size := World.block_lt_of_cell? W0 _ d0
            have e0 := (UI.out.bel.cell hd13).trans d0
            have e1 := (UI.out.bel.cell (p := ⟨(ad13.add (i * 2)).block, (ad13.add (i * 2)).off + 1, none⟩) hd13).trans d1
            have k13 := HK13.out
            have tb := fresh_cell UI.out.box 13
            simp only [List.getElem?_toArray, List.getElem?_cons_zero, List.getElem?_cons_succ] at tb
            have hvv : cellV T 13 wr.drew = v13 := cellV_eq (show wr.drew.cell? ⟨T, 13, none⟩ = some v13 from tb)
            have S0 : Aside0 (wr.cell? ⟨T, 13, none⟩ = some (cellV T 13 wr) ∧ wr.cell? ⟨(ad.add (j * 14)).block, (ad.add (j * 14)).off + 13, none⟩ = some (.slice (some ad13) x.f4.length c13) ∧ wr.cell? (ad13.add (i * 2)) = some (.string d.f0) ∧ wr.cell? ⟨(ad13.add (i * 2)).block, (ad13.add (i * 2)).off + 1, none⟩ = some (.int .i64 d.f1)) := ⟨cellV_is tb, k13, e0, e1⟩
            have HR13 := Aside0.mk (show Kd.R k144 144 wr.drew W0.heap.size (fun k => W0.heap.size ≤ k ∧ k ≠ T) v13 ((x.f4.take i).map toD) from Kd.R_below UI.out.drops (Below.refl _ wr).drew)
            have HBd := Aside0.mk (UI.out.bel.drew)
            have hTlt : T < wr.heap.size := blk_lt UI.out.box
            have hTW := UI.out.hT
            have hlen : ((x.f4.take i).map toD).length ≤ 100000 := by rw [List.length_map, List.length_take]; omega
            have HLEN := Lib.hid hlen
            have S1 := Aside0.mk tb
            have HB1 := Aside0.mk (Nat.lt_of_lt_of_le hadw UI.out.bel.size)
            have HB2 := Aside0.mk (Nat.lt_of_lt_of_le hd13 UI.out.bel.size)
            have HNT : Aside0 (some T ≠ v13.ownBlock) := ⟨fun e => (UI.out.drops.1 T e.symm).2 rfl⟩
            have HN1 : Aside0 (some (ad.add (j * 14)).block ≠ v13.ownBlock) := ⟨fun e => by have := (UI.out.drops.1 _ e.symm).1; omega⟩
            have HN2 : Aside0 (some (ad13.add (i * 2)).block ≠ v13.ownBlock) := ⟨fun e => by have := (UI.out.drops.1 _ e.symm).1; omega⟩
            have HT1 : Aside0 ((ad.add (j * 14)).block ≠ T) := ⟨by omega⟩
            have HT2 : Aside0 ((ad13.add (i * 2)).block ≠ T) := ⟨by omega⟩
            have HFR : Aside0 (∀ k, wr.drew.heap.size ≤ k → W0.heap.size ≤ k ∧ k ≠ T) := ⟨fun k hk => by have hk' : wr.heap.size ≤ k := hk; have := UI.out.bel.size; omega⟩
            have HL24 : Aside0 ((((x.f4.take i).map toD).length + 1) * 24 ≤ 140737488355328) := ⟨by omega⟩
            have HLN := Lib.hid (show ((x.f4.take i).map toD ++ [toD d]).length = i + 1 by rw [List.length_append, List.length_map, List.length_take, List.length_singleton]; omega)
            clear hd hdd htk d0 d1 e0 e1 hlen hvv
            go_upto_region 9 with fail
            clear k13
            refine wp_region_held_drew (S := (fun w' => w'.cell? ⟨(ad.add (j * 14)).block, (ad.add (j * 14)).off + 13, none⟩ = some (.slice (some ad13) x.f4.length c13) ∧ w'.cell? (ad13.add (i * 2)) = some (.string d.f0) ∧ w'.cell? ⟨(ad13.add (i * 2)).block, (ad13.add (i * 2)).off + 1, none⟩ = some (.int .i64 d.f1))) (by kernel_rfl) ?hS0 (fun hHeld => ?_)
            case hS0 => exact And.right (keepS ⟨_, S1.out⟩ S0.out.2.1 S0.out.2.2.1 S0.out.2.2.2 rfl rfl rfl)
            refine wpAnyH_take (i := 0) (v := ?_) rfl (by kernel_rfl) (by kernel_rfl) (by kernel_rfl) (fun _ _ _ h => h) (Or.inl ⟨by rfl, ?_⟩) (by assumption) ?_
            rotate_left
            · intro w hSw; (try dsimp only at hSw); go_simp; (try with_reducible rfl)
            (try simp only [Act.put, List.setIfInBounds_toArray, List.set_cons_zero, List.set_cons_succ])
            refine wpAnyH_take (i := 2) (v := ?_) rfl (by kernel_rfl) (by kernel_rfl) (by kernel_rfl) (fun _ _ _ h => h) (Or.inl ⟨by rfl, ?_⟩) (by assumption) ?_
            rotate_left
            · intro w hSw; (try dsimp only at hSw); go_simp; (try with_reducible rfl)
            (try simp only [Act.put, List.setIfInBounds_toArray, List.set_cons_zero, List.set_cons_succ])
            refine wpAnyH_take (i := 3) (v := ?_) rfl (by kernel_rfl) (by kernel_rfl) (by kernel_rfl) (fun _ _ _ h => h) (Or.inl ⟨by rfl, ?_⟩) (by assumption) ?_
            rotate_left
            · intro w hSw; (try dsimp only at hSw); go_simp; (try with_reducible rfl)
            (try simp only [Act.put, List.setIfInBounds_toArray, List.set_cons_zero, List.set_cons_succ])
            refine wpAnyH_take (i := 4) (v := ?_) rfl (by kernel_rfl) (by kernel_rfl) (by kernel_rfl) (fun _ _ _ h => h) (Or.inl ⟨by rfl, ?_⟩) (by assumption) ?_
            rotate_left
            · intro w hSw; (try dsimp only at hSw); go_simp; (try with_reducible rfl)
            (try simp only [Act.put, List.setIfInBounds_toArray, List.set_cons_zero, List.set_cons_succ])
            refine wpAnyH_take (i := 5) (v := ?_) rfl (by kernel_rfl) (by kernel_rfl) (by kernel_rfl) (fun _ _ _ h => h) (Or.inl ⟨by rfl, ?_⟩) (by assumption) ?_
            rotate_left
            · intro w hSw; (try dsimp only at hSw); go_simp; (try with_reducible rfl)
            (try simp only [Act.put, List.setIfInBounds_toArray, List.set_cons_zero, List.set_cons_succ])
            refine wpAnyH_take (i := 6) (v := ?_) rfl (by kernel_rfl) (by kernel_rfl) (by kernel_rfl) (fun _ _ _ h => h) (Or.inl ⟨by rfl, ?_⟩) (by assumption) ?_
            rotate_left
            · intro w hSw; (try dsimp only at hSw); go_simp; (try with_reducible rfl)
            (try simp only [Act.put, List.setIfInBounds_toArray, List.set_cons_zero, List.set_cons_succ])
            refine wpAnyH_take (i := 7) (v := ?_) rfl (by kernel_rfl) (by kernel_rfl) (by kernel_rfl) (fun _ _ _ h => h) (Or.inl ⟨by rfl, ?_⟩) (by assumption) ?_
            rotate_left
            · intro w hSw; (try dsimp only at hSw); go_simp; (try with_reducible rfl)
            (try simp only [Act.put, List.setIfInBounds_toArray, List.set_cons_zero, List.set_cons_succ])
            refine wpAnyH_take (i := 8) (v := ?_) rfl (by kernel_rfl) (by kernel_rfl) (by kernel_rfl) (fun _ _ _ h => h) (Or.inl ⟨by rfl, ?_⟩) (by assumption) ?_
            rotate_left
            · intro w hSw; (try dsimp only at hSw); go_simp; (try with_reducible rfl)
            (try simp only [Act.put, List.setIfInBounds_toArray, List.set_cons_zero, List.set_cons_succ])
            refine wpAnyH_take (i := 9) (v := ?_) rfl (by kernel_rfl) (by kernel_rfl) (by kernel_rfl) (fun _ _ _ h => h) (Or.inl ⟨by rfl, ?_⟩) (by assumption) ?_
            rotate_left
            · intro w hSw; (try dsimp only at hSw); go_simp; (try with_reducible rfl)
            (try simp only [Act.put, List.setIfInBounds_toArray, List.set_cons_zero, List.set_cons_succ])
            refine wpAnyH_take (i := 10) (v := ?_) rfl (by kernel_rfl) (by kernel_rfl) (by kernel_rfl) (fun _ _ _ h => h) (Or.inl ⟨by rfl, ?_⟩) (by assumption) ?_
            rotate_left
            · intro w hSw; (try dsimp only at hSw); go_simp; (try with_reducible rfl)
            (try simp only [Act.put, List.setIfInBounds_toArray, List.set_cons_zero, List.set_cons_succ])
            refine wpAnyH_take (i := 11) (v := ?_) rfl (by kernel_rfl) (by kernel_rfl) (by kernel_rfl) (fun _ _ _ h => h) (Or.inl ⟨by rfl, ?_⟩) (by assumption) ?_
            rotate_left
            · intro w hSw; (try dsimp only at hSw); go_simp; (try with_reducible rfl)
            (try simp only [Act.put, List.setIfInBounds_toArray, List.set_cons_zero, List.set_cons_succ])
            refine wpAnyH_take (i := 12) (v := ?_) rfl (by kernel_rfl) (by kernel_rfl) (by kernel_rfl) (fun _ _ _ h => h) (Or.inl ⟨by rfl, ?_⟩) (by assumption) ?_
            rotate_left
            · intro w hSw; (try dsimp only at hSw); go_simp; (try with_reducible rfl)
            (try simp only [Act.put, List.setIfInBounds_toArray, List.set_cons_zero, List.set_cons_succ])
            refine wpAnyH_take (i := 13) (v := ?_) rfl (by kernel_rfl) (by kernel_rfl) (by kernel_rfl) (fun _ _ _ h => h) (Or.inl ⟨by rfl, ?_⟩) (by assumption) ?_
            rotate_left
            · intro w hSw; (try dsimp only at hSw); go_simp; (try with_reducible rfl)
            (try simp only [Act.put, List.setIfInBounds_toArray, List.set_cons_zero, List.set_cons_succ])
            refine wpAnyH_take (i := 14) (v := ?_) rfl (by kernel_rfl) (by kernel_rfl) (by kernel_rfl) (fun _ _ _ h => h) (Or.inl ⟨by rfl, ?_⟩) (by assumption) ?_
            rotate_left
            · intro w hSw; (try dsimp only at hSw); go_simp; (try with_reducible rfl)
            (try simp only [Act.put, List.setIfInBounds_toArray, List.set_cons_zero, List.set_cons_succ])
            refine wpAnyH_take (i := 15) (v := ?_) rfl (by kernel_rfl) (by kernel_rfl) (by kernel_rfl) (fun _ _ _ h => h) (Or.inl ⟨by rfl, ?_⟩) (by assumption) ?_
            rotate_left
            · intro w hSw; (try dsimp only at hSw); go_simp; (try with_reducible rfl)
            (try simp only [Act.put, List.setIfInBounds_toArray, List.set_cons_zero, List.set_cons_succ])
            refine wpAnyH_take (i := 16) (v := ?_) rfl (by kernel_rfl) (by kernel_rfl) (by kernel_rfl) (fun _ _ _ h => h) (Or.inl ⟨by rfl, ?_⟩) (by assumption) ?_
            rotate_left
            · intro w hSw; (try dsimp only at hSw); go_simp; (try with_reducible rfl)
            (try simp only [Act.put, List.setIfInBounds_toArray, List.set_cons_zero, List.set_cons_succ])
            refine wpAnyH_take (i := 17) (v := ?_) rfl (by kernel_rfl) (by kernel_rfl) (by kernel_rfl) (fun _ _ _ h => h) (Or.inl ⟨by rfl, ?_⟩) (by assumption) ?_
            rotate_left
            · intro w hSw; (try dsimp only at hSw); go_simp; (try with_reducible rfl)
            (try simp only [Act.put, List.setIfInBounds_toArray, List.set_cons_zero, List.set_cons_succ])
            refine wpAnyH_take (i := 18) (v := ?_) rfl (by kernel_rfl) (by kernel_rfl) (by kernel_rfl) (fun _ _ _ h => h) (Or.inl ⟨by rfl, ?_⟩) (by assumption) ?_
            rotate_left
            · intro w hSw; (try dsimp only at hSw); go_simp; (try with_reducible rfl)
            (try simp only [Act.put, List.setIfInBounds_toArray, List.set_cons_zero, List.set_cons_succ])
            refine wpAnyH_take (i := 19) (v := ?_) rfl (by kernel_rfl) (by kernel_rfl) (by kernel_rfl) (fun _ _ _ h => h) (Or.inl ⟨by rfl, ?_⟩) (by assumption) ?_
            rotate_left
            · intro w hSw; (try dsimp only at hSw); go_simp; (try with_reducible rfl)
            (try simp only [Act.put, List.setIfInBounds_toArray, List.set_cons_zero, List.set_cons_succ])
            refine wpAnyH_take (i := 20) (v := ?_) rfl (by kernel_rfl) (by kernel_rfl) (by kernel_rfl) (fun _ _ _ h => h) (Or.inl ⟨by rfl, ?_⟩) (by assumption) ?_
            rotate_left
            · intro w hSw; (try dsimp only at hSw); go_simp; (try with_reducible rfl)
            (try simp only [Act.put, List.setIfInBounds_toArray, List.set_cons_zero, List.set_cons_succ])
            refine wpAnyH_ready (rs := [1, 21]) (by kernel_rfl) (by simp) ?_
            refine AllReadyH.cons (by simp only [List.getElem?_toArray, List.getElem?_cons_succ, List.getElem?_cons_zero]; rfl) (fun K hK => ?_) (AllReadyH.cons (by simp only [List.getElem?_toArray, List.getElem?_cons_succ, List.getElem?_cons_zero]; rfl) (fun K hK => ?_) AllReadyH.nil)
            · go_simp
              refine hK.out _ _ ?_ (fun hHeld => ?_)
              · (try dsimp only); exact And.right (keepS ⟨_, S1.out⟩ S0.out.2.1 S0.out.2.2.1 S0.out.2.2.2 rfl rfl rfl)
              clear hK K
              (try simp only [Act.put, List.setIfInBounds_toArray, List.set_cons_zero, List.set_cons_succ])
              refine wpAnyH_ready (rs := [21]) (by kernel_rfl) (by simp) ?_
              refine AllReadyH.cons (by simp only [List.getElem?_toArray, List.getElem?_cons_succ, List.getElem?_cons_zero]; rfl) (fun K hK => ?_) AllReadyH.nil
              go_simp
              refine hK.out _ _ ?_ (fun hHeld => ?_)
              · (try dsimp only); exact And.right (keepS ⟨_, (World.cell?_of_block (Below.heap_alloc wr _ T hTlt)).trans S1.out⟩ S0.out.2.1 S0.out.2.2.1 S0.out.2.2.2 (Below.heap_alloc wr _ _ HB1.out) (Below.heap_alloc wr _ _ HB2.out) rfl)
              clear hK K
              (try simp only [Act.put, List.setIfInBounds_toArray, List.set_cons_zero, List.set_cons_succ])
              refine wpAnyH_ready (rs := [22]) (by kernel_rfl) (by simp) ?_
              refine AllReadyH.cons (by simp only [List.getElem?_toArray, List.getElem?_cons_succ, List.getElem?_cons_zero]; rfl) (fun K hK => ?_) AllReadyH.nil
              refine Kd.R_append_step k144 (w0 := W0) W0.heap.size (by rfl) (.tmp 47) (.tmp 67) 97 144 (.agg #[(.string ⟨#[]⟩), (.int .i64 0)]) 24 (by rfl) Tryd.underlying97 info_drop (by rfl) (by decide) (by decide) v13 ((x.f4.take i).map toD) (toD d) [.string d.f0, .int .i64 d.f1] (fun k => W0.heap.size ≤ k ∧ k ≠ T) (fun _ => False) (by rfl) (by rfl) (k144_mkM _ _ _ (toD d)) (fun _ hk => hk.elim) HFR.out HR13.out HBd.out HBd.out.size HL24.out ?_; intro v1 w6 ho6 hb6 hg6 hat6; (have hbx := (hg6.block T hTlt HNT.out).trans UI.out.box); (have t6 := fresh_cell hbx 13); (have fz6 := fresh_frozen hbx 13); simp only [List.getElem?_toArray, List.getElem?_cons_zero, List.getElem?_cons_succ] at t6; (obtain ⟨A6, c6, rfl⟩ := Kd.R_slice ho6)
              refine hK.out _ _ ?_ (fun hHeld => ?_)
              · (try dsimp only); exact And.right (keepS ⟨_, (World.cell?_of_block (hg6.block T hTlt HNT.out)).trans S1.out⟩ S0.out.2.1 S0.out.2.2.1 S0.out.2.2.2 (hg6.block _ HB1.out HN1.out) (hg6.block _ HB2.out HN2.out) rfl)
              clear hK K
              (try simp only [Act.put, List.setIfInBounds_toArray, List.set_cons_zero, List.set_cons_succ])
              refine wpAnyH_take (i := 23) (v := ?_) rfl (by kernel_rfl) (by kernel_rfl) (by kernel_rfl) (fun _ _ _ h => h) (Or.inl ⟨by rfl, ?_⟩) (by assumption) ?_
              rotate_left
              · intro w hSw; (try dsimp only at hSw); go_simp; (try with_reducible rfl)
              (try simp only [Act.put, List.setIfInBounds_toArray, List.set_cons_zero, List.set_cons_succ])
              refine wpAnyH_ready (rs := [24]) (by kernel_rfl) (by simp) ?_
              refine AllReadyH.cons (by simp only [List.getElem?_toArray, List.getElem?_cons_succ, List.getElem?_cons_zero]; rfl) (fun K hK => ?_) AllReadyH.nil
              go_simp
              refine hK.out _ _ ?_ (fun hHeld => ?_)
              · (try dsimp only); exact And.right (keepS (put13 ((World.cell?_of_block (hg6.block T hTlt HNT.out)).trans S1.out) _) S0.out.2.1 S0.out.2.2.1 S0.out.2.2.2 ((Below.heap_setCell _ _ _ _ HT1.out).trans (hg6.block _ HB1.out HN1.out)) ((Below.heap_setCell _ _ _ _ HT2.out).trans (hg6.block _ HB2.out HN2.out)) rfl)
              clear hK K
              (try simp only [Act.put, List.setIfInBounds_toArray, List.set_cons_zero, List.set_cons_succ])
              refine wpAnyH_done (by kernel_rfl) ?_ _
              rw [HLN.out] at ho6
              have UN : Aside0 (∃ v13, Ue W0 (w6.setCell ⟨T, 13, none⟩ (.slice A6 (i + 1) c6)) x T (.slice A3 x.f1.f1.length c3) (.slice A4 x.f3.f1.length c4) v13 ((x.f4.take (i + 1)).map toD)) := ⟨_, by rw [HTK.out]; exact ue_next (ue_below UI.out (Below.refl _ wr).drew) ho6 hb6 hg6⟩
              clear ho6 hb6 hg6 hat6 hbx t6 fz6 tb S0 S1 HR13 HBd UI HK13 HFR HL24 HNT HN1 HN2 HT1 HT2 HB1 HB2 HLEN
              generalize w6.setCell ⟨T, 13, none⟩ (.slice A6 (i + 1) c6) = W7 at UN ⊢
              go_wp2
              go_roundg (x.f4.length - (i + 1))
              case measure => omega
              case rel => exact ⟨i + 1, by go_num, by omega, by omega, UN⟩
            · go_simp
              refine hK.out _ _ ?_ (fun hHeld => ?_)
              · (try dsimp only); exact And.right (keepS ⟨_, (World.cell?_of_block (Below.heap_alloc wr _ T hTlt)).trans S1.out⟩ S0.out.2.1 S0.out.2.2.1 S0.out.2.2.2 (Below.heap_alloc wr _ _ HB1.out) (Below.heap_alloc wr _ _ HB2.out) rfl)
              clear hK K
              (try simp only [Act.put, List.setIfInBounds_toArray, List.set_cons_zero, List.set_cons_succ])
              refine wpAnyH_ready (rs := [1]) (by kernel_rfl) (by simp) ?_
              refine AllReadyH.cons (by simp only [List.getElem?_toArray, List.getElem?_cons_succ, List.getElem?_cons_zero]; rfl) (fun K hK => ?_) AllReadyH.nil
              go_simp
              refine hK.out _ _ ?_ (fun hHeld => ?_)
              · (try dsimp only); exact And.right (keepS ⟨_, (World.cell?_of_block (Below.heap_alloc wr _ T hTlt)).trans S1.out⟩ S0.out.2.1 S0.out.2.2.1 S0.out.2.2.2 (Below.heap_alloc wr _ _ HB1.out) (Below.heap_alloc wr _ _ HB2.out) rfl)
              clear hK K
              (try simp only [Act.put, List.setIfInBounds_toArray, List.set_cons_zero, List.set_cons_succ])
              refine wpAnyH_ready (rs := [22]) (by kernel_rfl) (by simp) ?_
              refine AllReadyH.cons (by simp only [List.getElem?_toArray, List.getElem?_cons_succ, List.getElem?_cons_zero]; rfl) (fun K hK => ?_) AllReadyH.nil
              refine Kd.R_append_step k144 (w0 := W0) W0.heap.size (by rfl) (.tmp 47) (.tmp 67) 97 144 (.agg #[(.string ⟨#[]⟩), (.int .i64 0)]) 24 (by rfl) Tryd.underlying97 info_drop (by rfl) (by decide) (by decide) v13 ((x.f4.take i).map toD) (toD d) [.string d.f0, .int .i64 d.f1] (fun k => W0.heap.size ≤ k ∧ k ≠ T) (fun _ => False) (by rfl) (by rfl) (k144_mkM _ _ _ (toD d)) (fun _ hk => hk.elim) HFR.out HR13.out HBd.out HBd.out.size HL24.out ?_; intro v1 w6 ho6 hb6 hg6 hat6; (have hbx := (hg6.block T hTlt HNT.out).trans UI.out.box); (have t6 := fresh_cell hbx 13); (have fz6 := fresh_frozen hbx 13); simp only [List.getElem?_toArray, List.getElem?_cons_zero, List.getElem?_cons_succ] at t6; (obtain ⟨A6, c6, rfl⟩ := Kd.R_slice ho6)
              refine hK.out _ _ ?_ (fun hHeld => ?_)
              · (try dsimp only); exact And.right (keepS ⟨_, (World.cell?_of_block (hg6.block T hTlt HNT.out)).trans S1.out⟩ S0.out.2.1 S0.out.2.2.1 S0.out.2.2.2 (hg6.block _ HB1.out HN1.out) (hg6.block _ HB2.out HN2.out) rfl)
              clear hK K
              (try simp only [Act.put, List.setIfInBounds_toArray, List.set_cons_zero, List.set_cons_succ])
              refine wpAnyH_take (i := 23) (v := ?_) rfl (by kernel_rfl) (by kernel_rfl) (by kernel_rfl) (fun _ _ _ h => h) (Or.inl ⟨by rfl, ?_⟩) (by assumption) ?_
              rotate_left
              · intro w hSw; (try dsimp only at hSw); go_simp; (try with_reducible rfl)
              (try simp only [Act.put, List.setIfInBounds_toArray, List.set_cons_zero, List.set_cons_succ])
              refine wpAnyH_ready (rs := [24]) (by kernel_rfl) (by simp) ?_
              refine AllReadyH.cons (by simp only [List.getElem?_toArray, List.getElem?_cons_succ, List.getElem?_cons_zero]; rfl) (fun K hK => ?_) AllReadyH.nil
              go_simp
              refine hK.out _ _ ?_ (fun hHeld => ?_)
              · (try dsimp only); exact And.right (keepS (put13 ((World.cell?_of_block (hg6.block T hTlt HNT.out)).trans S1.out) _) S0.out.2.1 S0.out.2.2.1 S0.out.2.2.2 ((Below.heap_setCell _ _ _ _ HT1.out).trans (hg6.block _ HB1.out HN1.out)) ((Below.heap_setCell _ _ _ _ HT2.out).trans (hg6.block _ HB2.out HN2.out)) rfl)
              clear hK K
              (try simp only [Act.put, List.setIfInBounds_toArray, List.set_cons_zero, List.set_cons_succ])
              refine wpAnyH_done (by kernel_rfl) ?_ _
              rw [HLN.out] at ho6
              have UN : Aside0 (∃ v13, Ue W0 (w6.setCell ⟨T, 13, none⟩ (.slice A6 (i + 1) c6)) x T (.slice A3 x.f1.f1.length c3) (.slice A4 x.f3.f1.length c4) v13 ((x.f4.take (i + 1)).map toD)) := ⟨_, by rw [HTK.out]; exact ue_next (ue_below UI.out (Below.refl _ wr).drew) ho6 hb6 hg6⟩
              clear ho6 hb6 hg6 hat6 hbx t6 fz6 tb S0 S1 HR13 HBd UI HK13 HFR HL24 HNT HN1 HN2 HT1 HT2 HB1 HB2 HLEN
              generalize w6.setCell ⟨T, 13, none⟩ (.slice A6 (i + 1) c6) = W7 at UN ⊢
              go_wp2
              go_roundg (x.f4.length - (i + 1))
              case measure => omega
              case rel => exact ⟨i + 1, by go_num, by omega, by omega, UN⟩
          · have hii : ¬ (i : Int) < (x.f4.length : Int) := by omega
            obtain rfl : i = x.f4.length := by omega
            have k13 := HK13.out
            obtain ⟨A5, c5, rfl⟩ := Kd.R_slice UI.out.drops
            have hdl : ((x.f4.take x.f4.length).map toD).length = x.f4.length := by rw [List.length_map, List.take_length]
            rw [hdl] at UI
            have hb := UI.out.box
            have t0 := fresh_cell hb 0
            have t1 := fresh_cell hb 1
            have t2 := fresh_cell hb 2
            have t3 := fresh_cell hb 3
            have t4 := fresh_cell hb 4
            have t5 := fresh_cell hb 5
            have t6 := fresh_cell hb 6
            have t7 := fresh_cell hb 7
            have t8 := fresh_cell hb 8
            have t9 := fresh_cell hb 9
            have t10 := fresh_cell hb 10
            have t11 := fresh_cell hb 11
            have t12 := fresh_cell hb 12
            have t13 := fresh_cell hb 13
            simp only [List.getElem?_toArray, List.getElem?_cons_zero, List.getElem?_cons_succ] at t0 t1 t2 t3 t4 t5 t6 t7 t8 t9 t10 t11 t12 t13
            clear hb
            have hbw : Below w.heap.size w wr := HO.out.bel.trans (UI.out.bel.mono HO.out.bel.size)
            have HBW := Aside0.mk hbw
            have hdrops := UI.out.drops
            rw [List.take_length] at hdrops
            have HDR := Aside0.mk hdrops
            clear hbw hdrops
            go_wp2_with (at_builtin; refine Kd.R_append k99 (w0 := w) w.heap.size (by rfl) (.tmp 70) (.tmp 72) 91 99 (.agg #[(.int .i64 0), (.int .i64 0), (.slice none 0 0), (.int .u32 0), (.int .i64 0), (.string ⟨#[]⟩), (.int .u64 0), (.int .u64 0), (.bool false), (.int .i64 0), (.int .i64 0), (.slice none 0 0), (.int .u64 0), (.slice none 0 0)]) 168 (by rfl) Tryd.underlying91 info99 (by rfl) (by decide) (by decide) u3 ((l0.take j).map toY) (toY x) [.int .i64 x.f0, .int .i64 x.f1.f0, .slice A3 x.f1.f1.length c3, .int .u32 x.f1.f2, .int .i64 x.f1.f3, .string x.f1.f4, .int .u64 x.f1.f5, .int .u64 x.f1.f6, .bool x.f1.f7, .int .i64 x.f2, .int .i64 x.f3.f0, .slice A4 x.f3.f1.length c4, .int .u64 x.f3.f2, .slice A5 x.f4.length c5] (fun _ => True) (fun k => W0.heap.size ≤ k ∧ k ≠ T) (by rfl) (by rfl) ?aP ?aK ?aF ?aO ?aB ?aS ?aL ?_)
            case aP => exact k99_mkM _ _ _ (toY x) (Kd.R_lower UI.out.keys HO.out.bel.size) (Kd.R_lower UI.out.hits HO.out.bel.size) (Kd.R_lower HDR.out HO.out.bel.size)
            case aK =>
              intro k hk _ e
              obtain ⟨inner, ho⟩ := Kd.R_own HO.out.row
              have := own_lt ho k e.symm
              omega
            case aO =>
              first
                | exact Kd.R_below HO.out.row UI.out.bel
                | (rw [← List.map_take]; exact Kd.R_below HO.out.row UI.out.bel)
            case aB => exact HBW.out
            case aS => exact HBW.out.size
            case aL => first | omega | (rw [List.length_map, List.length_take]; omega)
            intro v1 w9 ho9 hb9 hg9 hat9
            have ON : Aside0 (Ou w w9 l0 (j + 1) v1) := ⟨⟨by rw [List.take_add_one, HX.out, List.map_append, List.map_take]; exact ho9, hb9⟩⟩
            clear ho9 hb9 hg9 hat9 t0 t1 t2 t3 t4 t5 t6 t7 t8 t9 t10 t11 t12 t13 UI HDR HBW HK13
            go_wp2
            go_roundg (l0.length - (j + 1))
            case measure => omega
            case rel => exact ⟨j + 1, by go_num, by omega, by omega, ON⟩
    · have hji : ¬ (j : Int) < (l0.length : Int) := by omega
      obtain rfl : j = l0.length := by omega
      go_wp2
      go_ret
      exact ⟨_, rfl, by rw [← List.take_length (l := l0)]; exact HO.out.row, HO.out.bel⟩
end Go.Proofs.YteddljbdjgdlnaaDoor.St
end
section
namespace Go.Proofs.YteddljbdjgdlnaaDoor.St
open Go.RowKit Go.Proofs.YteddljbdjgdlnaaDoorW.PrintWords Go.Proofs.YteddljbdjgdlnaaDoorW.PrintLast Go.Proofs.YteddljbdjgdlnaaDoorW.PrintMore Go.WideMaps Go.Proofs.YteddljbdjgdlnaaDoor.XSb
set_option linter.unusedVariables false
set_option linter.unusedSimpArgs false
attribute [local go_sem ↓] Go.wp_at_zero Go.wp_at_succ
def noteX (x : X) : Inc := noteI x.f1.f0 x.f1.f1.length x.f3.f1.length x.f3.f0 (x.f4.map (·.f1))
def notesL (l : List X) : Inc := l.flatMap noteX
def Small (l : List X) : Prop := l.length ≤ 1000 ∧ ∀ x ∈ l, x.f1.f1.length ≤ 100000 ∧ x.f3.f1.length ≤ 2932031007317 ∧ x.f4.length ≤ 100000
theorem notes_len : ∀ l : List X, (∀ x ∈ l, x.f1.f1.length ≤ 100000 ∧ x.f3.f1.length ≤ 2932031007317 ∧ x.f4.length ≤ 100000) → (notesL l).length ≤ 100006 * l.length
  | [], _ => Nat.le_refl 0
  | x :: l, h => by
    have h1 := note_len x.f1.f0 x.f1.f1.length x.f3.f1.length x.f3.f0 (x.f4.map (·.f1))
    have h2 := notes_len l (fun y hy => h y (List.mem_cons_of_mem _ hy))
    have h3 := (h x List.mem_cons_self).2.2
    unfold notesL at h2 ⊢
    rw [List.flatMap_cons, List.length_append, List.length_cons]
    rw [List.length_map] at h1
    have e : noteX x = noteI x.f1.f0 x.f1.f1.length x.f3.f1.length x.f3.f0 (x.f4.map (·.f1)) := rfl
    rw [e]
    omega
theorem ev_at {w : World} {base g b : Nat} {ad : Addr} {n cap : Nat} {ys : List Y} (h : Kd.R k99 99 w base (fun k => base ≤ k) (.slice (some ad) n cap) ys) (hg : g < base) (hb : b < base) (j : Nat) (y : Y) (hy : ys[j]? = some y) :
    ∃ e : Ev, e.kind = y.f1.f0 ∧ e.nk = y.f1.f1.length ∧ e.nh = y.f3.f1.length ∧ e.code = y.f3.f0 ∧ e.nd = y.f4.length ∧ DropsAt w g b e.da (y.f4.map (·.f1)) ∧ ∀ i u, e.cells[i]? = some u → w.cell? (ad.add (j * 14 + i)) = some u := by
  have hjl : j < ys.length := (List.getElem?_eq_some_iff.1 hy).1
  have hn : n = ys.length := by
    obtain ⟨_, inner, ho, _⟩ := h
    rcases ho.2 with ⟨hv, _⟩ | ⟨g, cap', cur, hv, _⟩
    · cases hv
    · injection hv
  obtain ⟨c, hcl, hM, hcell⟩ := Kd.R_get h z99 (j : Int) (by omega) (by omega)
  rw [Int.toNat_natCast, List.getD_eq_getElem?_getD, hy] at hM
  rw [Int.toNat_natCast] at hcell
  obtain ⟨v2, v11, v13, rfl, g2, g11, g13⟩ := k99_openM (show k99.M w base _ y c from hM)
  obtain ⟨A2, c2, rfl⟩ := Kd.R_slice g2
  obtain ⟨A11, c11, rfl⟩ := Kd.R_slice g11
  have hok := g13.1
  obtain ⟨A13, c13, e13, _, hC⟩ := Kd.R_reads g13
  subst e13
  refine ⟨⟨y.f0, y.f1.f0, A2, y.f1.f1.length, c2, y.f1.f2, y.f1.f3, y.f1.f4, y.f1.f5, y.f1.f6, y.f1.f7, y.f2, y.f3.f0, A11, y.f3.f1.length, c11, y.f3.f2, A13, y.f4.length, c13⟩, rfl, rfl, rfl, rfl, rfl, fun i d hd => ?_, fun i u hu => ?_⟩
  · obtain ⟨q, hq, rfl⟩ : ∃ q, y.f4[i]? = some q ∧ q.f1 = d := by
      rw [List.getElem?_map] at hd
      cases hq : y.f4[i]? with
      | none => rw [hq] at hd; cases hd
      | some q => rw [hq] at hd; exact ⟨q, rfl, Option.some.inj hd⟩
    have hil : i < y.f4.length := (List.getElem?_eq_some_iff.1 hq).1
    obtain ⟨a13, ea, d0, d1⟩ := at_T144 hC (i : Int) (by omega) (by omega)
    have hr : rd_T144 y.f4 (i : Int) = q := by
      unfold rd_T144
      rw [Int.toNat_natCast, List.getD_eq_getElem?_getD, hq]; rfl
    rw [hr, Int.toNat_natCast] at d0 d1
    subst ea
    have hbk := (hok a13.block rfl).1
    exact ⟨a13, q.f0, rfl, by omega, by omega, d0, d1⟩
  · refine hcell i u ?_
    unfold Ev.cells at hu
    simpa using hu
set_option maxHeartbeats 16000000 in
set_option maxRecDepth 100000 in
theorem noted_calls (w : World) (A0 : Option Addr) (l0 : List X) (c0 : Nat) (hC0 : Kd.C k42 w A0 l0.length l0) (hc0 : l0.length ≤ c0) (hs : Small l0) :
    Calls Tryd.prog 9 #[.slice A0 l0.length c0] w fun e w' => ∃ g b, e = .returned (.pointer (some ⟨g, 0, none⟩)) ∧ At w' g b 200000000 nm24 (app (fun _ => 0) (notesL l0)) ∧ w.heap.size ≤ g ∧ w.heap.size ≤ b ∧ Below w.heap.size w w' := by
  have HC0 := Aside0.mk hC0
  have HS := Aside0.mk hs
  have hlb : l0.length ≤ 1000 := hs.1
  clear hC0 hs
  go_enter Tryd.func9, Tryd.ntmps9
  go_wp2_with fail
  refine (New_calls w).mono ?_
  rintro e w1 ⟨g, b, rfl, hA, hg, hb, hb1⟩
  have A1 := Aside0.mk hA
  have B1 := Aside0.mk hb1
  have C1 := Aside0.mk (Kd.C_below HC0.out hb1)
  clear hA hb1 HC0
  go_wp2_with fail
  have hX := To_calls w1 A0 l0 c0 C1.out hc0 HS.out.1 HS.out.2
  refine hX.mono ?_
  clear hX
  rintro e w2 ⟨v, rfl, hR, hb2⟩
  have A2 := Aside0.mk (A1.out.below hb2)
  have B2 := Aside0.mk (B1.out.trans (hb2.mono B1.out.size))
  have R2 := Aside0.mk (R_up hR (Nat.le_refl _))
  have hg1 := A1.out.lt
  have hb1' := A1.out.ltb
  clear hR hb2 A1 B1 C1
  obtain ⟨A, c, rfl⟩ := Kd.R_slice R2.out
  have hyl : (l0.map toY).length = l0.length := List.length_map _
  rw [hyl] at R2 ⊢
  clear hyl
  have D0 : Aside0 (Did w2 w2 g b 24 (fun _ => 0) (notesL (l0.take 0)) ∧ Kd.R k99 99 w2 w1.heap.size (fun k => w1.heap.size ≤ k) (.slice A l0.length c) (l0.map toY)) := ⟨Did.start A2.out, R2.out⟩
  clear A2 R2
  go_wp2_with fail
  go_loopg [5] l0.length (fun gg v5 wr => ∃ (j : Nat), v5 = .int .i64 j ∧ j ≤ l0.length ∧ l0.length - j ≤ gg ∧ Aside0 (Did w2 wr g b 24 (fun _ => 0) (notesL (l0.take j)) ∧ Kd.R k99 99 wr w1.heap.size (fun k => w1.heap.size ≤ k) (.slice A l0.length c) (l0.map toY)))
  case atStart => exact ⟨0, rfl, Nat.zero_le _, by omega, D0⟩
  case round =>
    clear D0
    obtain ⟨j, rfl, hj, hgj, HD⟩ := hrel
    by_cases hlt : j < l0.length
    · have hji : (j : Int) < (l0.length : Int) := by omega
      obtain ⟨ad, rfl⟩ : ∃ ad, A = some ad := by
        obtain ⟨_, inner, ho, _⟩ := HD.out.2
        rcases ho.2 with ⟨hv, h0⟩ | ⟨q, cap', cur, hv, _⟩
        · rw [List.length_map] at h0
          omega
        · injection hv with hv
          exact ⟨_, hv⟩
      obtain ⟨x, hx⟩ : ∃ x, l0[j]? = some x := ⟨_, List.getElem?_eq_getElem hlt⟩
      obtain ⟨e, he1, he2, he3, he4, he5, hdr, hcell⟩ := ev_at HD.out.2 hg1 hb1' j (toY x) (by rw [List.getElem?_map, hx]; rfl)
      have t0 : wr.cell? (ad.add (j * 14)) = some (.int .i64 e.who) := hcell 0 _ rfl
      have t1 : wr.cell? ⟨(ad.add (j * 14)).block, (ad.add (j * 14)).off + 1, none⟩ = some (.int .i64 e.kind) := by rw [← add_field _ _ 1 (by omega)]; exact hcell 1 _ rfl
      have t2 : wr.cell? ⟨(ad.add (j * 14)).block, (ad.add (j * 14)).off + 2, none⟩ = some (.slice e.ka e.nk e.kc) := by rw [← add_field _ _ 2 (by omega)]; exact hcell 2 _ rfl
      have t3 : wr.cell? ⟨(ad.add (j * 14)).block, (ad.add (j * 14)).off + 3, none⟩ = some (.int .u32 e.flags) := by rw [← add_field _ _ 3 (by omega)]; exact hcell 3 _ rfl
      have t4 : wr.cell? ⟨(ad.add (j * 14)).block, (ad.add (j * 14)).off + 4, none⟩ = some (.int .i64 e.exp) := by rw [← add_field _ _ 4 (by omega)]; exact hcell 4 _ rfl
      have t5 : wr.cell? ⟨(ad.add (j * 14)).block, (ad.add (j * 14)).off + 5, none⟩ = some (.string e.value) := by rw [← add_field _ _ 5 (by omega)]; exact hcell 5 _ rfl
      have t6 : wr.cell? ⟨(ad.add (j * 14)).block, (ad.add (j * 14)).off + 6, none⟩ = some (.int .u64 e.cas) := by rw [← add_field _ _ 6 (by omega)]; exact hcell 6 _ rfl
      have t7 : wr.cell? ⟨(ad.add (j * 14)).block, (ad.add (j * 14)).off + 7, none⟩ = some (.int .u64 e.delta) := by rw [← add_field _ _ 7 (by omega)]; exact hcell 7 _ rfl
      have t8 : wr.cell? ⟨(ad.add (j * 14)).block, (ad.add (j * 14)).off + 8, none⟩ = some (.bool e.quiet) := by rw [← add_field _ _ 8 (by omega)]; exact hcell 8 _ rfl
      have t9 : wr.cell? ⟨(ad.add (j * 14)).block, (ad.add (j * 14)).off + 9, none⟩ = some (.int .i64 e.now) := by rw [← add_field _ _ 9 (by omega)]; exact hcell 9 _ rfl
      have t10 : wr.cell? ⟨(ad.add (j * 14)).block, (ad.add (j * 14)).off + 10, none⟩ = some (.int .i64 e.code) := by rw [← add_field _ _ 10 (by omega)]; exact hcell 10 _ rfl
      have t11 : wr.cell? ⟨(ad.add (j * 14)).block, (ad.add (j * 14)).off + 11, none⟩ = some (.slice e.ha e.nh e.hc) := by rw [← add_field _ _ 11 (by omega)]; exact hcell 11 _ rfl
      have t12 : wr.cell? ⟨(ad.add (j * 14)).block, (ad.add (j * 14)).off + 12, none⟩ = some (.int .u64 e.n) := by rw [← add_field _ _ 12 (by omega)]; exact hcell 12 _ rfl
      have t13 : wr.cell? ⟨(ad.add (j * 14)).block, (ad.add (j * 14)).off + 13, none⟩ = some (.slice e.da e.nd e.dc) := by rw [← add_field _ _ 13 (by omega)]; exact hcell 13 _ rfl
      have hsx := HS.out.2 x (List.mem_of_getElem? hx)
      have hnx : noteI e.kind e.nk e.nh e.code ((toY x).f4.map (·.f1)) = noteX x := by
        rw [he1, he2, he3, he4]
        unfold noteX
        show noteI x.f1.f0 (x.f1.f1.length : Int) ((x.f3.f1.map toH).length : Int) x.f3.f0 ((x.f4.map toD).map (·.f1)) = _
        rw [List.length_map, List.map_map]
        rfl
      have hwl : ((toY x).f4.map (·.f1)).length = e.nd := by rw [List.length_map, he5]
      have hnl : (notesL (l0.take j)).length ≤ 100006 * 1000 := by
        have h := notes_len (l0.take j) (fun y hy => HS.out.2 y (List.mem_of_mem_take hy))
        have h2 : (l0.take j).length ≤ 1000 := by rw [List.length_take]; have := HS.out.1; omega
        exact Nat.le_trans h (Nat.mul_le_mul_left _ h2)
      have hwb : ((toY x).f4.map (·.f1)).length ≤ 100000 := by
        show ((x.f4.map toD).map (·.f1)).length ≤ 100000
        rw [List.length_map, List.length_map]
        exact hsx.2.2
      have hnk : e.nk ≤ maxLen := by rw [he2]; exact Nat.le_trans hsx.1 (by decide)
      have hnh : e.nh ≤ maxLen := by
        rw [he3]
        show (x.f3.f1.map toH).length ≤ maxLen
        rw [List.length_map]
        exact Nat.le_trans hsx.2.1 (by decide)
      have hcb : 24 + (notesL (l0.take j)).length + 2000 + ((toY x).f4.map (·.f1)).length < maxLen := by unfold maxLen; omega
      have HNX := Lib.hid hnx
      have HX := Lib.hid hx
      have HWL := Lib.hid hwl
      have HDR := Aside0.mk hdr
      have HCB := Lib.hid hcb
      clear hnx hx hwl hdr hcell hsx he1 he2 he3 he4 he5 hnl hwb hcb
      go_wp2_with fail
      have hX := Note_calls wr g b (24 + (notesL (l0.take j)).length) (app (fun _ => 0) (notesL (l0.take j))) e ((toY x).f4.map (·.f1)) HD.out.1.at_ HWL.out HDR.out HCB.out hnk hnh
      refine hX.mono ?_
      clear hX
      rintro z w3 ⟨rfl, hD⟩
      rw [HNX.out] at hD
      have DN : Aside0 (Did w2 w3 g b 24 (fun _ => 0) (notesL (l0.take (j + 1))) ∧ Kd.R k99 99 w3 w1.heap.size (fun k => w1.heap.size ≤ k) (.slice (some ad) l0.length c) (l0.map toY)) := by
        refine ⟨⟨?_, Kd.R_step HD.out.2 (fun k hk hlt => hD.mov.block k hlt (by omega) (by omega))⟩⟩
        have e1 : notesL (l0.take (j + 1)) = notesL (l0.take j) ++ noteX x := by
          unfold notesL
          rw [List.take_add_one, HX.out, List.flatMap_append]
          simp
        rw [e1]
        exact HD.out.1.then hD
      clear hD HD t0 t1 t2 t3 t4 t5 t6 t7 t8 t9 t10 t11 t12 t13 hnk hnh
      go_wp2
      go_roundg (l0.length - (j + 1))
      case measure => omega
      case rel => exact ⟨j + 1, by go_num, by omega, by omega, DN⟩
    · have hji : ¬ (j : Int) < (l0.length : Int) := by omega
      have hjn : j = l0.length := by omega
      have hfin : At wr g b 200000000 nm24 (app (fun _ => 0) (notesL l0)) := by
        have h := HD.out.1.at_
        rw [List.take_of_length_le (by omega)] at h
        refine h.more ?_
        have h1 := notes_len l0 HS.out.2
        have h2 := HS.out.1
        have := Nat.mul_le_mul_left 100006 h2
        omega
      have HFIN := Aside0.mk hfin
      have BF := Aside0.mk (B2.out.trans (HD.out.1.mov.below hg hb B2.out.size))
      clear hfin hjn HD
      go_wp2
      go_ret
      first
        | exact ⟨g, rfl, b, HFIN.out, hg, hb, BF.out⟩
        | exact ⟨g, b, rfl, HFIN.out, hg, hb, BF.out⟩
end Go.Proofs.YteddljbdjgdlnaaDoor.St
end
section
namespace Go.Proofs.YteddljbdjgdlnaaDoor.St
open Go.RowKit Go.Proofs.YteddljbdjgdlnaaDoorW.PrintWords Go.Proofs.YteddljbdjgdlnaaDoorW.PrintLast Go.Proofs.YteddljbdjgdlnaaDoorW.PrintMore Go.WideMaps Go.Proofs.YteddljbdjgdlnaaDoor.XSb
set_option linter.unusedVariables false
set_option linter.unusedSimpArgs false
def sumAt (s : ByteArray) : Inc → Int
  | [] => 0
  | p :: l => (if s = p.1 then (if 0 < p.2 then p.2 else 0) else 0) + sumAt s l
theorem sum_cons (s : ByteArray) (p : ByteArray × Int) (l : Inc) : sumAt s (p :: l) = (if s = p.1 then (if 0 < p.2 then p.2 else 0) else 0) + sumAt s l := rfl
theorem sum_append (s : ByteArray) : ∀ a b : Inc, sumAt s (a ++ b) = sumAt s a + sumAt s b
  | [], b => by simp [sumAt]
  | p :: a, b => by
    rw [List.cons_append]
    rw [sum_cons, sum_cons, sum_append s a b]
    omega
theorem app_at (s : ByteArray) : ∀ (l : Inc) (f : Figs), Okf f → app f l s = (f s + sumAt s l) % 18446744073709551616
  | [], f, h => by
    show f s = _
    have := h s
    unfold sumAt
    omega
  | p :: l, f, h => by
    show app (addF f p.1 p.2) l s = _
    rw [app_at s l _ (ok_add h p.1 p.2)]
    rw [sum_cons]
    unfold addF upd
    by_cases e : s = p.1
    · rw [if_pos e, if_pos e, ← e]
      omega
    · rw [if_neg e, if_neg e]
      omega
theorem notes_append (a b : List X) : notesL (a ++ b) = notesL a ++ notesL b := List.flatMap_append
theorem part_at (a b : List X) {s : ByteArray} (hs : has s nm24 = true) : addsF (app (fun _ => 0) (notesL a)) (app (fun _ => 0) (notesL b)) nm24 s = app (fun _ => 0) (notesL (a ++ b)) s := by
  unfold addsF
  rw [if_pos hs, app_at s _ _ ok_zero, app_at s _ _ ok_zero, app_at s _ _ ok_zero, notes_append, sum_append]
  omega
theorem twice_at {f : Figs} {s : ByteArray} (hs : has s nm24 = true) : addsF f f nm24 s = (2 * f s) % 18446744073709551616 := by
  unfold addsF
  rw [if_pos hs]
  omega
theorem gen_eq {f h : Figs} (e : ∀ s, has s nm24 = true → f s = h s) : genL f nm24 = genL h nm24 := by
  unfold genL
  refine List.map_congr_left fun s hs => ?_
  rw [e s (mem_has hs)]
theorem new_row {α : Type} {d : Kd α} {e m c c' : Nat} {w w1 : World} {A : Option Addr} {xs : List α} {ok : Nat → Prop} {g b : Nat} {ks : List ByteArray} {f : Figs} (h : d.R e w1 w.heap.size ok (.slice A m c) xs) (hA : At w g b c' ks f) : ∀ ad, A = some ad → ad.block < w1.heap.size ∧ ad.block ≠ g ∧ ad.block ≠ b := fun ad e0 => by
  subst e0
  obtain ⟨inner, ho⟩ := Kd.R_own h
  have h1 := own_base ho ad.block rfl
  have h2 := own_lt ho ad.block rfl
  have := hA.lt
  have := hA.ltb
  exact ⟨h2, by omega, by omega⟩
theorem C_same {w w' : World} {A : Option Addr} {n : Nat} {xs : List S52} (h : Kd.C k52 w A n xs) (hb : ∀ ad, A = some ad → w'.heap[ad.block]? = w.heap[ad.block]?) : Kd.C k52 w' A n xs :=
  ⟨h.1, h.2.1, fun hn => by
    obtain ⟨ad, e, hc⟩ := h.2.2 hn
    refine ⟨ad, e, fun j p hj => ?_⟩
    obtain ⟨c, hs, hr, hcell⟩ := hc j p hj
    exact ⟨c, hs, by rw [k52_open hr]; exact k52_mk _ _, fun i u hu => (World.cell?_of_block (by rw [add_block]; exact hb ad e)).trans (hcell i u hu)⟩⟩
theorem C_same83 {w w' : World} {A : Option Addr} {n : Nat} {xs : List S83} (h : Kd.C k83 w A n xs) (hb : ∀ ad, A = some ad → w'.heap[ad.block]? = w.heap[ad.block]?) : Kd.C k83 w' A n xs :=
  ⟨h.1, h.2.1, fun hn => by
    obtain ⟨ad, e, hc⟩ := h.2.2 hn
    refine ⟨ad, e, fun j p hj => ?_⟩
    obtain ⟨c, hs, hr, hcell⟩ := hc j p hj
    exact ⟨c, hs, by rw [k83_open hr]; exact k83_mk _ _, fun i u hu => (World.cell?_of_block (by rw [add_block]; exact hb ad e)).trans (hcell i u hu)⟩⟩
end Go.Proofs.YteddljbdjgdlnaaDoor.St
end
section
namespace Go.Proofs.YteddljbdjgdlnaaDoor.XSb
open Go.RowKit Go.Proofs.YteddljbdjgdlnaaDoorW.PrintWords Go.Proofs.YteddljbdjgdlnaaDoorW.PrintLast Go.Proofs.YteddljbdjgdlnaaDoorW.PrintMore
abbrev L (b : ByteArray) : List UInt8 := b.data.toList
abbrev ba (l : List UInt8) : ByteArray := ⟨l.toArray⟩
theorem ext {x y : ByteArray} (h : L x = L y) : x = y := by
  cases x; cases y
  exact congrArg ByteArray.mk (Array.toList_inj.1 h)
theorem L_append (a b : ByteArray) : L (a ++ b) = L a ++ L b := by
  show (a ++ b).data.toList = _
  rw [ByteArray.data_append, Array.toList_append]
theorem L_size (a : ByteArray) : a.size = (L a).length := (Array.length_toList).symm
theorem wrap_succ (a : Nat) (h : a < 4611686018427387904) : wrap64 ((a : Int) + 1) = ((a + 1 : Nat) : Int) := by unfold wrap64; omega
theorem bt_list (s : ByteArray) (i : Nat) (c : UInt8) (h : (L s)[i]? = some c) : bt s (i : Int) = (c.toNat : Int) := by
  have hi : i < s.size := by
    rcases Nat.lt_or_ge i s.size with h' | h'
    · exact h'
    · rw [List.getElem?_eq_none (by rw [← L_size]; exact h')] at h; cases h
  unfold bt
  rw [Int.toNat_natCast, dif_pos hi]
  have e : (L s)[i]? = some s[i] := by
    rw [List.getElem?_eq_getElem (by rw [← L_size]; exact hi)]; rfl
  rw [e] at h
  injection h with h
  rw [h]
def inR (lo hi : Nat) (l : List UInt8) : Bool := l.all fun c => decide (lo ≤ c.toNat) && decide (c.toNat ≤ hi)
theorem inR_cons (lo hi : Nat) (c : UInt8) (l : List UInt8) : inR lo hi (c :: l) = (decide (lo ≤ c.toNat) && decide (c.toNat ≤ hi) && inR lo hi l) := rfl
theorem within_loop (a : ByteArray) (ha : a.size ≤ 1099511627776) (lo hi : Nat) (d : Nat) : ∀ i, i + d = a.size → Ev (fun k => stat_within.l0 k a (lo : Int) (hi : Int) (a.size : Int) (i : Int)) (inR lo hi ((L a).drop i)) := by
  induction d with
  | zero =>
    intro i hi'
    rw [List.drop_of_length_le (by rw [← L_size]; omega)]
    refine ⟨1, fun k hk => ?_⟩
    obtain ⟨k, rfl⟩ : ∃ m, k = m + 1 := ⟨k - 1, by omega⟩
    simp only [stat_within.l0]
    rw [if_neg (by omega)]; rfl
  | succ d ih =>
    intro i hi'
    have hl : i < (L a).length := by rw [← L_size]; omega
    have hc := List.getElem?_eq_getElem hl
    rw [List.drop_eq_getElem_cons hl, inR_cons]
    generalize (L a)[i] = c at hc
    have e : ∀ k, stat_within.l0 (k + 1) a (lo : Int) (hi : Int) (a.size : Int) (i : Int) = (if (c.toNat : Int) < lo then some false else if (c.toNat : Int) > hi then some false else stat_within.l0 k a (lo : Int) (hi : Int) (a.size : Int) ((i + 1 : Nat) : Int)) := by
      intro k
      simp only [stat_within.l0]
      rw [if_pos (by omega), if_pos (by omega), if_pos (by omega), bt_list a i c hc, wrap_succ i (by omega)]
    by_cases h1 : lo ≤ c.toNat
    · by_cases h2 : c.toNat ≤ hi
      · rw [decide_eq_true h1, decide_eq_true h2]
        refine Ev.step (fun k => ?_) (ih (i + 1) (by omega))
        rw [e, if_neg (by omega), if_neg (by omega)]
      · rw [decide_eq_false h2, Bool.and_false, Bool.false_and]
        refine ⟨1, fun k hk => ?_⟩
        obtain ⟨k, rfl⟩ : ∃ m, k = m + 1 := ⟨k - 1, by omega⟩
        show stat_within.l0 (k + 1) _ _ _ _ _ = _
        rw [e, if_neg (by omega), if_pos (by omega)]
    · rw [decide_eq_false h1, Bool.false_and, Bool.false_and]
      refine ⟨1, fun k hk => ?_⟩
      obtain ⟨k, rfl⟩ : ∃ m, k = m + 1 := ⟨k - 1, by omega⟩
      show stat_within.l0 (k + 1) _ _ _ _ _ = _
      rw [e, if_pos (by omega)]
def ends (l : List UInt8) : Bool := decide (l.head? ≠ some 32) && decide (l.getLast? ≠ some 32)
def mayB (n v : ByteArray) : Bool := decide (1 ≤ n.size) && decide (n.size ≤ 64) && decide (1 ≤ v.size) && decide (v.size ≤ 200) && inR 33 126 (L n) && inR 32 126 (L v) && ends (L v)
theorem dropWhile_le (p : UInt8 → Bool) (l : List UInt8) : (l.dropWhile p).length ≤ l.length := by
  induction l with
  | nil => exact Nat.le_refl _
  | cons x l ih =>
    rw [List.dropWhile_cons]
    split
    · rw [List.length_cons]; omega
    · exact Nat.le_refl _
theorem trim_ends (l : List UInt8) : (Lib.trimB l 32 == l) = ends l := by
  have hr : ∀ m : List UInt8, m.head? ≠ some 32 → m.dropWhile (· == (32 : UInt8)) = m := by
    intro m hm
    cases m with
    | nil => rfl
    | cons x m =>
      have : ¬ x = 32 := fun e => hm (by rw [e]; rfl)
      rw [List.dropWhile_cons, if_neg (by simpa using this)]
  have hs : ∀ m : List UInt8, m.head? = some 32 → (m.dropWhile (· == (32 : UInt8))).length < m.length := by
    intro m hm
    cases m with
    | nil => cases hm
    | cons x m =>
      have : x = 32 := by simpa using hm
      rw [List.dropWhile_cons, if_pos (by simpa using this), List.length_cons]
      have := dropWhile_le (· == (32 : UInt8)) m
      omega
  have hlast : l.getLast? = l.reverse.head? := by rw [List.head?_reverse]
  unfold ends
  by_cases h2 : l.getLast? = some 32
  · rw [show decide (l.getLast? ≠ some 32) = false from decide_eq_false (fun hh => hh h2), Bool.and_false]
    apply beq_eq_false_iff_ne.2
    intro e
    have h3 := hs l.reverse (by rw [← hlast]; exact h2)
    have h4 := congrArg List.length e
    unfold Lib.trimB Lib.trimLeftB Lib.trimRightB at h4
    have h5 := dropWhile_le (· == (32 : UInt8)) (l.reverse.dropWhile (· == (32 : UInt8))).reverse
    rw [List.length_reverse] at h5 h3
    omega
  · rw [show decide (l.getLast? ≠ some 32) = true from decide_eq_true h2, Bool.and_true]
    have e1 : Lib.trimRightB l 32 = l := by
      unfold Lib.trimRightB
      rw [hr l.reverse (by rw [← hlast]; exact h2), List.reverse_reverse]
    unfold Lib.trimB
    rw [e1]
    unfold Lib.trimLeftB
    by_cases h1 : l.head? = some 32
    · rw [show decide (l.head? ≠ some 32) = false from decide_eq_false (fun hh => hh h1)]
      apply beq_eq_false_iff_ne.2
      intro e
      have := hs l h1
      rw [e] at this
      omega
    · rw [show decide (l.head? ≠ some 32) = true from decide_eq_true h1, hr l h1]
      exact beq_self_eq_true l
theorem prog_may (n v : ByteArray) (hn : n.size ≤ 1099511627776) (hv : v.size ≤ 1099511627776) : Ev (fun k => stat_may.f k n v) (mayB n v) := by
  have no : ∀ {b : Bool}, b = true → Ev (fun k => stat_may.j0 k b n v) false := by
    rintro b rfl
    refine ⟨1, fun k hk => ?_⟩
    obtain ⟨k, rfl⟩ : ∃ m, k = m + 1 := ⟨k - 1, by omega⟩
    simp only [stat_may.j0]
    rw [if_pos trivial]
  have e0 : ∀ a : ByteArray, (a.toList = ([] : List UInt8)) ↔ a.size = 0 := by
    intro a
    rw [ByteArray.toList_eq, L_size, List.length_eq_zero_iff]
  unfold mayB
  by_cases c1 : n.size = 0
  · rw [decide_eq_false (by omega : ¬ 1 ≤ n.size)]
    simp only [Bool.false_and]
    refine Ev.congr (fun k => ?_) (no (b := n.toList == ([] : List UInt8)) (beq_iff_eq.2 ((e0 n).2 c1)))
    unfold stat_may.f
    rw [if_pos ((e0 n).2 c1)]
  · rw [decide_eq_true (by omega : 1 ≤ n.size), Bool.true_and]
    by_cases c2 : n.size ≤ 64
    · rw [decide_eq_true c2, Bool.true_and]
      by_cases c3 : v.size = 0
      · rw [decide_eq_false (by omega : ¬ 1 ≤ v.size)]
        simp only [Bool.false_and]
        refine Ev.congr (fun k => ?_) (no (b := v.toList == ([] : List UInt8)) (beq_iff_eq.2 ((e0 v).2 c3)))
        unfold stat_may.f
        rw [if_neg (fun h => c1 ((e0 n).1 h)), if_neg (by omega), if_pos ((e0 v).2 c3)]
      · rw [decide_eq_true (by omega : 1 ≤ v.size), Bool.true_and]
        by_cases c4 : v.size ≤ 200
        · rw [decide_eq_true c4, Bool.true_and]
          have hf : ∀ k, stat_may.f k n v = stat_may.j0 k false n v := by
            intro k
            unfold stat_may.f
            rw [if_neg (fun h => c1 ((e0 n).1 h)), if_neg (by omega), if_neg (fun h => c3 ((e0 v).1 h)), decide_eq_false (by omega)]
          refine Ev.congr hf ?_
          have w1 := within_loop n hn 33 126 n.size 0 (by omega)
          have w2 := within_loop v hv 32 126 v.size 0 (by omega)
          rw [List.drop_zero] at w1 w2
          have ht : strings_Trim.f v (⟨#[32]⟩ : ByteArray) = some ⟨(Lib.trimB (L v) 32).toArray⟩ := by
            unfold strings_Trim.f
            show (if _ then _ else _) = _
            rw [if_pos ⟨by decide, by omega⟩]
          have h := Ev.bind (f := fun k t111 => (if t111 = true then ((stat_within.f k v 32 126).bind fun t112 => (if t112 = true then ((strings_Trim.f v (⟨#[32]⟩ : ByteArray)).bind fun t113 => (some (t113.toList == v.toList))) else (some false))) else (some false))) (r := inR 33 126 (L n) && inR 32 126 (L v) && ends (L v)) (show Ev (fun k => stat_within.f k n 33 126) _ from w1) (by
            cases inR 33 126 (L n) with
            | false => exact Ev.now _
            | true =>
              rw [Bool.true_and]
              refine Ev.bind (f := fun k t112 => (if t112 = true then ((strings_Trim.f v (⟨#[32]⟩ : ByteArray)).bind fun t113 => (some (t113.toList == v.toList))) else (some false))) (show Ev (fun k => stat_within.f k v 32 126) _ from w2) ?_
              cases inR 32 126 (L v) with
              | false => exact Ev.now _
              | true =>
                refine ⟨0, fun k _ => ?_⟩
                show (if true = true then _ else _) = _
                rw [if_pos rfl, ht, Option.bind_some, Bool.true_and, ← trim_ends (L v), ByteArray.toList_eq, ByteArray.toList_eq])
          refine Ev.step (fun k => ?_) h
          simp only [stat_may.j0]
          rw [if_neg Bool.false_ne_true]
        · rw [decide_eq_false c4]
          simp only [Bool.false_and]
          refine Ev.congr (fun k => ?_) (no (b := decide ((v.size : Int) > 200)) (decide_eq_true (by omega)))
          unfold stat_may.f
          rw [if_neg (fun h => c1 ((e0 n).1 h)), if_neg (by omega), if_neg (fun h => c3 ((e0 v).1 h))]
    · rw [decide_eq_false c2]
      simp only [Bool.false_and]
      refine Ev.congr (fun k => ?_) (no (b := decide ((n.size : Int) > 64)) (decide_eq_true (by omega)))
      unfold stat_may.f
      rw [if_neg (fun h => c1 ((e0 n).1 h)), if_pos (by omega)]
end Go.Proofs.YteddljbdjgdlnaaDoor.XSb
end
section
namespace Go.Proofs.YteddljbdjgdlnaaDoor.XSb
open Go.RowKit Go.Proofs.YteddljbdjgdlnaaDoorW.PrintWords Go.Proofs.YteddljbdjgdlnaaDoorW.PrintLast Go.Proofs.YteddljbdjgdlnaaDoorW.PrintMore
abbrev F := S52
abbrev G := S83
def conv (p : F) : G := ⟨p.f0, p.f1⟩
def back (p : G) : F := ⟨p.f0, p.f1⟩
theorem L_ba (l : List UInt8) : L (ba l) = l := by simp
theorem rd_at (l : List F) (i : Nat) (hi : i < l.length) : rd_T52 l (i : Int) = l[i] := by
  unfold rd_T52
  rw [Int.toNat_natCast, List.getD_eq_getElem?_getD, List.getElem?_eq_getElem hi]; rfl
theorem rd_atG (l : List G) (i : Nat) (hi : i < l.length) : rd_T83 l (i : Int) = l[i] := by
  unfold rd_T83
  rw [Int.toNat_natCast, List.getD_eq_getElem?_getD, List.getElem?_eq_getElem hi]; rfl
def tot (l : List F) : Nat := (l.map fun p => p.f0.size + p.f1.size).sum
theorem tot_cons (p : F) (l : List F) : tot (p :: l) = p.f0.size + p.f1.size + tot l := by simp [tot]
theorem tot_append (a b : List F) : tot (a ++ b) = tot a + tot b := by simp [tot]
theorem tot_take (l : List F) (i : Nat) : tot (l.take i) ≤ tot l := by
  have := tot_append (l.take i) (l.drop i)
  rw [List.take_append_drop] at this
  omega
def Fit (l : List F) : Prop := ∀ p ∈ l, p.f0.size ≤ 140737488351232 ∧ p.f1.size ≤ 140737488351232
theorem great_loop (l : List F) (hf : Fit l) (hl : l.length ≤ 1100) (d : Nat) : ∀ i, i + d = l.length → Ev (fun k => tallboylaw32_Great.l0 k l ((tot (l.take i) : Nat) : Int) (i : Int)) (decide (50000 ≤ tot l)) := by
  induction d with
  | zero =>
    intro i hi
    rw [List.take_of_length_le (by omega)]
    refine ⟨1, fun k hk => ?_⟩
    obtain ⟨k, rfl⟩ : ∃ m, k = m + 1 := ⟨k - 1, by omega⟩
    simp only [tallboylaw32_Great.l0]
    rw [if_neg (by omega)]
    congr 1
    by_cases h : 50000 ≤ tot l
    · rw [decide_eq_true h, decide_eq_true (by omega)]
    · rw [decide_eq_false h, decide_eq_false (by omega)]
  | succ d ih =>
    intro i hi
    have hil : i < l.length := by omega
    by_cases h : tot (l.take i) < 50000
    · have h1 := ih (i + 1) (by omega)
      have hp := hf l[i] (List.getElem_mem hil)
      rw [List.take_add_one, List.getElem?_eq_getElem hil, tot_append, show tot (some l[i]).toList = l[i].f0.size + l[i].f1.size from by simp [tot]] at h1
      refine Ev.step (fun k => ?_) h1
      simp only [tallboylaw32_Great.l0]
      rw [if_pos (by omega), if_pos (by omega), if_pos (by omega), rd_at l i hil, wrap_succ i (by omega)]
      have w1 : wrap64 (((tot (l.take i) : Nat) : Int) + (l[i].f0.size : Int)) = ((tot (l.take i) + l[i].f0.size : Nat) : Int) := by unfold wrap64; omega
      have w2 : wrap64 (((tot (l.take i) + l[i].f0.size : Nat) : Int) + (l[i].f1.size : Int)) = ((tot (l.take i) + (l[i].f0.size + l[i].f1.size) : Nat) : Int) := by unfold wrap64; omega
      rw [w1, w2]
    · have := tot_take l i
      refine ⟨1, fun k hk => ?_⟩
      obtain ⟨k, rfl⟩ : ∃ m, k = m + 1 := ⟨k - 1, by omega⟩
      simp only [tallboylaw32_Great.l0]
      rw [if_pos (by omega), if_neg (by omega), decide_eq_true (by omega), decide_eq_true (by omega)]
theorem great (l : List F) (hf : Fit l) (hl : l.length ≤ 1100) : Ev (fun k => tallboylaw32_Great.f k l) (decide (50000 ≤ tot l)) := by
  refine Ev.congr (fun k => ?_) (great_loop l hf hl l.length 0 (by omega))
  unfold tallboylaw32_Great.f
  rw [if_neg (by omega)]; rfl
theorem to_pairs (l : List F) (hl : l.length ≤ 4398046511100) : Ev (fun k => tallboylaw32_To.f k l) (l.map conv) := by
  have loop : ∀ d i, i + d = l.length → Ev (fun k => tallboylaw32_To.l0 k l ((l.take i).map conv) (i : Int)) (l.map conv) := by
    intro d
    induction d with
    | zero =>
      intro i hi
      rw [List.take_of_length_le (by omega)]
      refine ⟨1, fun k hk => ?_⟩
      obtain ⟨k, rfl⟩ : ∃ m, k = m + 1 := ⟨k - 1, by omega⟩
      simp only [tallboylaw32_To.l0]
      rw [if_neg (by omega)]
    | succ d ih =>
      intro i hi
      have hil : i < l.length := by omega
      refine Ev.step (fun k => ?_) (ih (i + 1) (by omega))
      simp only [tallboylaw32_To.l0]
      rw [if_pos (by omega), if_pos (by omega), if_pos (by rw [List.length_map, List.length_take]; omega), rd_at l i hil, wrap_succ i (by omega), List.take_add_one, List.getElem?_eq_getElem hil, List.map_append]
      rfl
  exact loop l.length 0 (by omega)
theorem from_pairs (l : List G) (hl : l.length ≤ 4398046511100) : Ev (fun k => tallboylaw32_From.f k l) (l.map back) := by
  have loop : ∀ d i, i + d = l.length → Ev (fun k => tallboylaw32_From.l0 k l ((l.take i).map back) (i : Int)) (l.map back) := by
    intro d
    induction d with
    | zero =>
      intro i hi
      rw [List.take_of_length_le (by omega)]
      refine ⟨1, fun k hk => ?_⟩
      obtain ⟨k, rfl⟩ : ∃ m, k = m + 1 := ⟨k - 1, by omega⟩
      simp only [tallboylaw32_From.l0]
      rw [if_neg (by omega)]
    | succ d ih =>
      intro i hi
      have hil : i < l.length := by omega
      refine Ev.step (fun k => ?_) (ih (i + 1) (by omega))
      simp only [tallboylaw32_From.l0]
      rw [if_pos (by omega), if_pos (by omega), if_pos (by rw [List.length_map, List.length_take]; omega), rd_atG l i hil, wrap_succ i (by omega), List.take_add_one, List.getElem?_eq_getElem hil, List.map_append]
      rfl
  exact loop l.length 0 (by omega)
theorem same_same (l : List F) (hl : l.length ≤ 4398046511100) : Ev (fun k => tallboyref32_Same.f k l l) true := by
  have loop : ∀ d i, i + d = l.length → Ev (fun k => tallboyref32_Same.l0 k l l (i : Int)) true := by
    intro d
    induction d with
    | zero =>
      intro i hi
      refine ⟨1, fun k hk => ?_⟩
      obtain ⟨k, rfl⟩ : ∃ m, k = m + 1 := ⟨k - 1, by omega⟩
      simp only [tallboyref32_Same.l0]
      rw [if_neg (by omega)]
    | succ d ih =>
      intro i hi
      refine Ev.step (fun k => ?_) (ih (i + 1) (by omega))
      simp only [tallboyref32_Same.l0]
      rw [if_pos (by omega), if_pos (by omega), if_pos (by omega), wrap_succ i (by omega), if_neg (by simp)]
  refine Ev.congr (fun k => ?_) (loop l.length 0 (by omega))
  unfold tallboyref32_Same.f
  rw [if_pos rfl]; rfl

def lineL (p : F) : List UInt8 := [83, 84, 65, 84, 32] ++ L p.f0 ++ [32] ++ L p.f1 ++ [13, 10]
def wrT : List F → List UInt8 → ByteArray × Int
  | [], acc => (ba (acc ++ [69, 78, 68, 13, 10]), 0)
  | p :: l, acc => if mayB p.f0 p.f1 = true then wrT l (acc ++ lineL p) else (⟨#[]⟩, 6)
theorem line_L (p : F) : L (stat_Write.line p.f0 p.f1) = lineL p := by
  unfold stat_Write.line lineL
  rw [L_append, L_append, L_append, L_append]
theorem lineL_length (p : F) : (lineL p).length = p.f0.size + p.f1.size + 8 := by
  rw [← line_L, ← L_size, stat_Write.line_size]
theorem prog_write (l : List F) : ∀ acc : List UInt8, acc.length + tot l + 8 * l.length ≤ 1099511627776 → stat_Write.go (l.map conv) acc = some (wrT l acc) := by
  induction l with
  | nil =>
    intro acc h
    simp only [List.map_nil, stat_Write.go, wrT]
    rw [if_pos (by simp [tot] at h; omega)]
  | cons p l ih =>
    intro acc h
    rw [tot_cons, List.length_cons] at h
    simp only [List.map_cons, stat_Write.go, wrT]
    rw [if_pos (by show acc.length + p.f0.size + p.f1.size ≤ _; omega), show stat_Write.mayO (conv p).f0 (conv p).f1 = some (mayB p.f0 p.f1) from stat_Write.mayO_of _ _ _ (prog_may p.f0 p.f1 (by omega) (by omega)), Option.bind_some]
    cases mayB p.f0 p.f1 with
    | false => rfl
    | true =>
      rw [if_pos rfl, if_pos rfl]
      have := ih (acc ++ lineL p) (by rw [List.length_append, lineL_length]; omega)
      rw [← this]
      show stat_Write.go _ (acc ++ L (stat_Write.line p.f0 p.f1)) = _
      rw [line_L]
end Go.Proofs.YteddljbdjgdlnaaDoor.XSb
end
section
namespace Go.Proofs.YteddljbdjgdlnaaDoor.XSb
open Go.RowKit Go.Proofs.YteddljbdjgdlnaaDoorW.PrintWords Go.Proofs.YteddljbdjgdlnaaDoorW.PrintLast Go.Proofs.YteddljbdjgdlnaaDoorW.PrintMore
theorem L_sub (s : ByteArray) (a b : Nat) : L (sub s a b) = ((L s).drop a).take (b - a) := by
  show (s.extract a b).data.toList = _
  rw [Lib.extract_data]
theorem index_room (l q : List UInt8) (h : 0 ≤ Lib.index l q) : (Lib.index l q).toNat + q.length ≤ l.length := by
  induction l with
  | nil =>
    unfold Lib.index at h ⊢
    by_cases hq : q.isEmpty = true
    · rw [if_pos hq]; rw [List.isEmpty_iff.1 hq]; simp
    · rw [if_neg hq] at h; omega
  | cons b l ih =>
    unfold Lib.index at h ⊢
    by_cases hp : q.isPrefixOf (b :: l) = true
    · rw [if_pos hp]
      have := (List.isPrefixOf_iff_prefix.1 hp).length_le
      simpa using this
    · rw [if_neg hp] at h ⊢
      by_cases h1 : (Lib.index l q == -1) = true
      · rw [if_pos h1] at h; omega
      · rw [if_neg h1] at h ⊢
        have hg := Lib.index_ge l q
        have h2 : Lib.index l q ≠ -1 := by simpa using h1
        have := ih (by omega)
        rw [List.length_cons]; omega
abbrev ix (l : List UInt8) : Int := Lib.index l [13, 10]
abbrev sp (l : List UInt8) : Int := Lib.index l [32]
theorem ix_one (c : UInt8) : ix [c] = -1 := by
  show (if ([13, 10] : List UInt8).isPrefixOf [c] then (0 : Int) else if Lib.index [] [13, 10] == -1 then -1 else Lib.index [] [13, 10] + 1) = -1
  rw [if_neg (by simp [List.isPrefixOf])]; rfl
theorem ix_two (c e : UInt8) (l : List UInt8) : ix (c :: e :: l) = if c = 13 ∧ e = 10 then 0 else if ix (e :: l) = -1 then -1 else ix (e :: l) + 1 := by
  show (if ([13, 10] : List UInt8).isPrefixOf (c :: e :: l) then (0 : Int) else if Lib.index (e :: l) [13, 10] == -1 then -1 else Lib.index (e :: l) [13, 10] + 1) = _
  have hp : (([13, 10] : List UInt8).isPrefixOf (c :: e :: l) = true) ↔ (c = 13 ∧ e = 10) := by
    show ((13 : UInt8) == c && ((10 : UInt8) == e && true)) = true ↔ _
    rw [Bool.and_true, Bool.and_eq_true, beq_iff_eq, beq_iff_eq]
    exact ⟨fun h => ⟨h.1.symm, h.2.symm⟩, fun h => ⟨h.1.symm, h.2.symm⟩⟩
  by_cases h : c = 13 ∧ e = 10
  · rw [if_pos (hp.2 h), if_pos h]
  · rw [if_neg (fun q => h (hp.1 q)), if_neg h]
    by_cases h1 : Lib.index (e :: l) [13, 10] = -1
    · rw [if_pos (by simpa using h1), if_pos h1]
    · rw [if_neg (by simpa using h1), if_neg h1]
def posn : List UInt8 → Nat
  | [] => 0
  | c :: l => if c = 32 then 0 else posn l + 1
theorem posn_le : ∀ l, posn l ≤ l.length
  | [] => Nat.le_refl _
  | c :: l => by
    unfold posn
    have := posn_le l
    split
    · exact Nat.zero_le _
    · rw [List.length_cons]; omega
theorem sp_posn : ∀ l, sp l = if posn l < l.length then (posn l : Int) else -1
  | [] => rfl
  | c :: l => by
    show (if ([32] : List UInt8).isPrefixOf (c :: l) then (0 : Int) else if Lib.index l [32] == -1 then -1 else Lib.index l [32] + 1) = _
    have ih : Lib.index l [32] = if posn l < l.length then (posn l : Int) else -1 := sp_posn l
    have hp : (([32] : List UInt8).isPrefixOf (c :: l) = true) ↔ c = 32 := by
      show ((32 : UInt8) == c && true) = true ↔ _
      rw [Bool.and_true, beq_iff_eq]
      exact eq_comm
    unfold posn
    by_cases h : c = 32
    · rw [if_pos (hp.2 h), if_pos h, if_pos (by rw [List.length_cons]; omega)]; rfl
    · rw [if_neg (fun q => h (hp.1 q)), if_neg h, ih]
      by_cases h1 : posn l < l.length
      · rw [if_pos h1, if_neg (by rw [beq_iff_eq]; omega), if_pos (by rw [List.length_cons]; omega)]; rfl
      · rw [if_neg h1, if_pos (by rfl), if_neg (by rw [List.length_cons]; omega)]
def pairB (t : List UInt8) : Option F :=
  if t.take 5 = [83, 84, 65, 84, 32] then (if posn (t.drop 5) < (t.drop 5).length then (if mayB (ba ((t.drop 5).take (posn (t.drop 5)))) (ba ((t.drop 5).drop (posn (t.drop 5) + 1))) = true then some ⟨ba ((t.drop 5).take (posn (t.drop 5))), ba ((t.drop 5).drop (posn (t.drop 5) + 1))⟩ else none) else none) else none
def rdT (N : Nat) : Nat → List UInt8 → List F → List F × Int × Int
  | 0, _, _ => ([], 0, 6)
  | d + 1, rest, acc => if ix rest < 0 then ([], 0, 6) else
    if rest.take (ix rest).toNat = [69, 78, 68] then (if 1000 < acc.length then ([], 0, 7) else (acc, ((N - (rest.length - ((ix rest).toNat + 2)) : Nat) : Int), 0))
    else match pairB (rest.take (ix rest).toNat) with
      | none => ([], 0, 6)
      | some p => rdT N d (rest.drop ((ix rest).toNat + 2)) (acc ++ [p])
def cv (x : List F × Int × Int) : List G × Int × Int := (x.1.map conv, x.2.1, x.2.2)
theorem ba_size (l : List UInt8) : (ba l).size = l.length := by rw [L_size, L_ba]
theorem cut_f (l q : List UInt8) (h : l.length < 4294967281) : strings_Cut.f (ba l) (ba q) = some (ba (Lib.cut l q).1, ba (Lib.cut l q).2.1, (Lib.cut l q).2.2) := by
  unfold strings_Cut.f
  rw [if_pos (by rw [ba_size]; exact h)]
theorem cut_prefix (t : List UInt8) (ht : t.length ≤ 1099511627776) : strings_CutPrefix.f (ba t) (⟨#[83, 84, 65, 84, 32]⟩ : ByteArray) = some (if t.take 5 = [83, 84, 65, 84, 32] then ba (t.drop 5) else ba t, decide (t.take 5 = [83, 84, 65, 84, 32])) := by
  unfold strings_CutPrefix.f stringslite_CutPrefix.f stringslite_HasPrefix.f
  have hsz : ((⟨#[83, 84, 65, 84, 32]⟩ : ByteArray).size : Int) = 5 := rfl
  rw [hsz, ba_size]
  by_cases h5 : 5 ≤ t.length
  · rw [if_pos (by omega), if_pos (by omega), if_pos (by omega)]
    have e : (sub (ba t) 0 (5 : Int).toNat).toList = t.take 5 := by
      rw [ByteArray.toList_eq]
      show L (sub (ba t) 0 5) = _
      rw [L_sub, L_ba]; rfl
    have e2 : (⟨#[83, 84, 65, 84, 32]⟩ : ByteArray).toList = [83, 84, 65, 84, 32] := by rw [ByteArray.toList_eq]
    have e3 : sub (ba t) (5 : Int).toNat t.length = ba (t.drop 5) := by
      apply ext
      rw [L_sub, L_ba, L_ba]
      show (t.drop 5).take (t.length - 5) = _
      rw [List.take_of_length_le (by rw [List.length_drop]; omega)]
    rw [e, e2]
    simp only [Option.bind_some]
    by_cases hp : t.take 5 = [83, 84, 65, 84, 32]
    · rw [if_pos (by rw [hp]; rfl), if_pos (by omega), if_pos (by omega), if_pos hp, decide_eq_true hp]
      simp only [Option.bind_some]
      rw [e3]
    · rw [if_neg (by rw [beq_iff_eq]; exact hp), if_neg hp, decide_eq_false hp]
      rfl
  · have hp : ¬ t.take 5 = [83, 84, 65, 84, 32] := fun q => by
      have := congrArg List.length q
      rw [List.length_take] at this
      simp at this
      omega
    rw [if_neg (by omega), if_neg hp, decide_eq_false hp]
    rfl
theorem cut_ix (l : List UInt8) : Lib.cut l [13, 10] = if ix l < 0 then (l, [], false) else (l.take (ix l).toNat, l.drop ((ix l).toNat + 2), true) := by
  unfold Lib.cut
  by_cases h : ix l < 0
  · rw [if_neg (by show ¬ 0 ≤ ix l; omega), if_pos h]
  · rw [if_pos (by show 0 ≤ ix l; omega), if_neg h]; rfl
theorem cut_sp (l : List UInt8) : Lib.cut l [32] = if posn l < l.length then (l.take (posn l), l.drop (posn l + 1), true) else (l, [], false) := by
  unfold Lib.cut
  have h := sp_posn l
  by_cases h1 : posn l < l.length
  · rw [if_pos h1] at h
    rw [if_pos (by show 0 ≤ sp l; omega), if_pos h1, show (Lib.index l [32]).toNat = posn l from by show (sp l).toNat = _; omega]; rfl
  · rw [if_neg h1] at h
    rw [if_neg (by show ¬ 0 ≤ sp l; omega), if_neg h1]
theorem ix_room (l : List UInt8) (h : ¬ ix l < 0) : (ix l).toNat + 2 ≤ l.length := index_room l [13, 10] (by show 0 ≤ ix l; omega)
theorem prog_read (s : ByteArray) (hs : s.size ≤ 1000000) : ∀ (d : Nat) (rest : List UInt8) (acc : List F), rest.length < d → rest.length ≤ s.size → acc.length + rest.length ≤ 2000000 →
    Ev (fun k => stat_Read.l0 k s (acc.map conv) (ba rest)) (cv (rdT s.size d rest acc)) := by
  intro d
  induction d with
  | zero => intro rest acc h; omega
  | succ d ih =>
    intro rest acc hd hr ha
    have hc := cut_f rest [13, 10] (by omega)
    rw [cut_ix] at hc
    unfold rdT
    by_cases h0 : ix rest < 0
    · rw [if_pos h0] at hc ⊢
      refine ⟨1, fun k hk => ?_⟩
      obtain ⟨k, rfl⟩ : ∃ m, k = m + 1 := ⟨k - 1, by omega⟩
      simp only [stat_Read.l0]
      rw [show (⟨#[13, 10]⟩ : ByteArray) = ba [13, 10] from rfl, hc]
      rfl
    · rw [if_neg h0] at hc ⊢
      have hroom := ix_room rest h0
      generalize (ix rest).toNat = i at *
      have ht : (rest.take i).length ≤ 1000000 := by rw [List.length_take]; omega
      have hp := cut_prefix (rest.take i) (by omega)
      have hmore : (rest.drop (i + 2)).length = rest.length - (i + 2) := List.length_drop
      have ihm := ih (rest.drop (i + 2))
      generalize rest.take i = t at *
      generalize rest.drop (i + 2) = more at *
      have hml : more.length = rest.length - (i + 2) := hmore
      by_cases he : t = [69, 78, 68]
      · rw [if_pos he]
        refine ⟨1, fun k hk => ?_⟩
        obtain ⟨k, rfl⟩ : ∃ m, k = m + 1 := ⟨k - 1, by omega⟩
        simp only [stat_Read.l0]
        rw [show (⟨#[13, 10]⟩ : ByteArray) = ba [13, 10] from rfl, hc]
        simp only [Option.bind_some]
        rw [if_pos trivial, if_pos (by rw [ByteArray.toList_eq]; exact he), List.length_map, ba_size more]
        by_cases hl : 1000 < acc.length
        · rw [if_pos hl, if_pos (by omega)]; rfl
        · rw [if_neg hl, if_neg (by omega)]
          unfold cv
          congr 3
          show _ = ((s.size - (rest.length - (i + 2)) : Nat) : Int)
          unfold wrap64
          omega
      · rw [if_neg he]
        have hstep : ∀ k, stat_Read.l0 (k + 1) s (acc.map conv) (ba rest) = (strings_CutPrefix.f (ba t) (⟨#[83, 84, 65, 84, 32]⟩ : ByteArray)).bind fun bt130 => ((strings_Cut.f bt130.1 (⟨#[32]⟩ : ByteArray)).bind fun bt132 => (if bt130.2 = true then (if bt132.2.2 = true then ((stat_may.f k bt132.1 bt132.2.1).bind fun t136 => (if t136 = true then (if (acc.map conv).length < 4398046511104 then (stat_Read.l0 k s (acc.map conv ++ [(⟨bt132.1, bt132.2.1⟩ : G)]) (ba more)) else (none)) else (some (([] : List G), 0, 6)))) else (some (([] : List G), 0, 6))) else (some (([] : List G), 0, 6)))) := by
          intro k
          simp only [stat_Read.l0]
          rw [show (⟨#[13, 10]⟩ : ByteArray) = ba [13, 10] from rfl, hc]
          simp only [Option.bind_some]
          rw [if_pos trivial, if_neg (by rw [ByteArray.toList_eq]; exact he)]
        unfold pairB
        have hbad : ∀ b : List UInt8, b.length < 4294967281 → ∃ y, strings_Cut.f (ba b) (⟨#[32]⟩ : ByteArray) = some y := fun b hb => ⟨_, cut_f b [32] hb⟩
        by_cases hpre : t.take 5 = [83, 84, 65, 84, 32]
        · rw [if_pos hpre] at hp ⊢
          rw [decide_eq_true hpre] at hp
          have hu : (t.drop 5).length ≤ 1000000 := by rw [List.length_drop]; omega
          have hc2 := cut_f (t.drop 5) [32] (by omega)
          rw [cut_sp] at hc2
          generalize t.drop 5 = u at *
          by_cases hsp : posn u < u.length
          · rw [if_pos hsp] at hc2 ⊢
            have hmay := prog_may (ba (u.take (posn u))) (ba (u.drop (posn u + 1))) (by rw [ba_size, List.length_take]; omega) (by rw [ba_size, List.length_drop]; omega)
            have hstep2 : ∀ k, stat_Read.l0 (k + 1) s (acc.map conv) (ba rest) = (stat_may.f k (ba (u.take (posn u))) (ba (u.drop (posn u + 1)))).bind fun t136 => (if t136 = true then (stat_Read.l0 k s ((acc ++ [(⟨ba (u.take (posn u)), ba (u.drop (posn u + 1))⟩ : F)]).map conv) (ba more)) else (some (([] : List G), 0, 6))) := by
              intro k
              rw [hstep, hp]
              simp only [Option.bind_some]
              rw [show (⟨#[32]⟩ : ByteArray) = ba [32] from rfl, hc2]
              simp only [Option.bind_some]
              rw [if_pos trivial, if_pos trivial, if_pos (by rw [List.length_map]; omega), List.map_append]
              rfl
            refine Ev.step hstep2 ?_
            refine Ev.bind (f := fun k t136 => (if t136 = true then (stat_Read.l0 k s ((acc ++ [(⟨ba (u.take (posn u)), ba (u.drop (posn u + 1))⟩ : F)]).map conv) (ba more)) else (some (([] : List G), 0, 6)))) hmay ?_
            cases mayB (ba (u.take (posn u))) (ba (u.drop (posn u + 1))) with
            | false => exact Ev.now _
            | true => exact ihm (acc ++ [⟨ba (u.take (posn u)), ba (u.drop (posn u + 1))⟩]) (by omega) (by omega) (by rw [List.length_append, List.length_singleton]; omega)
          · rw [if_neg hsp] at hc2 ⊢
            refine Ev.step (f := fun _ => some (([] : List G), (0 : Int), (6 : Int))) (fun k => ?_) (Ev.now _)
            rw [hstep, hp]
            simp only [Option.bind_some]
            rw [show (⟨#[32]⟩ : ByteArray) = ba [32] from rfl, hc2]
            rfl
        · rw [if_neg hpre] at hp ⊢
          rw [decide_eq_false hpre] at hp
          refine Ev.step (f := fun _ => some (([] : List G), (0 : Int), (6 : Int))) (fun k => ?_) (Ev.now _)
          obtain ⟨y, hy⟩ := hbad t (by omega)
          rw [hstep, hp]
          simp only [Option.bind_some]
          rw [hy]
          rfl
theorem Ev.via {α β : Type} {g : Nat → Option α} {F f : Nat → Option β} {a : α} {r : β} (hg : Ev g a) (h : ∀ k, g k = some a → F (k + 1) = f k) (hf : Ev f r) : Ev F r := by
  obtain ⟨K1, h1⟩ := hg
  obtain ⟨K2, h2⟩ := hf
  refine ⟨max K1 K2 + 1, fun k hk => ?_⟩
  obtain ⟨k, rfl⟩ : ∃ m, k = m + 1 := ⟨k - 1, by omega⟩
  rw [h k (h1 k (by omega)), h2 k (by omega)]
theorem rd_len (N : Nat) : ∀ (d : Nat) (rest : List UInt8) (acc : List F), (rdT N d rest acc).1.length ≤ 1000
  | 0, _, _ => Nat.zero_le _
  | d + 1, rest, acc => by
    unfold rdT
    split
    · exact Nat.zero_le _
    · split
      · split
        · exact Nat.zero_le _
        · show acc.length ≤ 1000
          omega
      · split
        · exact Nat.zero_le _
        · exact rd_len N d _ _
theorem back_conv (l : List F) : (l.map conv).map back = l := by
  rw [List.map_map]
  exact (List.map_congr_left (fun x _ => rfl)).trans (List.map_id _)
end Go.Proofs.YteddljbdjgdlnaaDoor.XSb
end
section
namespace Go.Proofs.YteddljbdjgdlnaaDoor.XSb
open Go.RowKit Go.Proofs.YteddljbdjgdlnaaDoorW.PrintWords Go.Proofs.YteddljbdjgdlnaaDoorW.PrintLast Go.Proofs.YteddljbdjgdlnaaDoorW.PrintMore
def allMay (l : List F) : Bool := l.all fun p => mayB p.f0 p.f1
theorem wr_all : ∀ (l : List F) (acc : List UInt8), allMay l = true → wrT l acc = (ba (acc ++ l.flatMap lineL ++ [69, 78, 68, 13, 10]), 0)
  | [], acc, _ => by simp [wrT]
  | p :: l, acc, h => by
    unfold allMay at h
    rw [List.all_cons, Bool.and_eq_true] at h
    unfold wrT
    rw [if_pos h.1, wr_all l _ h.2, List.flatMap_cons, List.append_assoc acc]
theorem wr_not : ∀ (l : List F) (acc : List UInt8), allMay l = false → wrT l acc = (⟨#[]⟩, 6)
  | [], acc, h => by cases h
  | p :: l, acc, h => by
    unfold wrT
    cases hp : mayB p.f0 p.f1 with
    | false => rfl
    | true =>
      unfold allMay at h
      rw [List.all_cons, hp, Bool.true_and] at h
      rw [if_pos rfl]
      exact wr_not l _ h
theorem ix_at (r : List UInt8) : ∀ x : List UInt8, (13 : UInt8) ∉ x → ix (x ++ 13 :: 10 :: r) = (x.length : Int)
  | [], _ => by
    show ix (13 :: 10 :: r) = 0
    rw [ix_two, if_pos ⟨rfl, rfl⟩]
  | c :: x, h => by
    have hc : c ≠ 13 := fun e => h (by rw [e]; exact List.mem_cons_self)
    have ih := ix_at r x (fun m => h (List.mem_cons_of_mem _ m))
    rw [List.cons_append]
    obtain ⟨e, y, hy⟩ : ∃ e y, x ++ 13 :: 10 :: r = e :: y := by
      cases x with
      | nil => exact ⟨_, _, rfl⟩
      | cons a b => exact ⟨_, _, rfl⟩
    rw [hy] at ih ⊢
    rw [ix_two, if_neg (fun h => hc h.1), ih, if_neg (by omega), List.length_cons]
    omega
theorem posn_at (r : List UInt8) : ∀ x : List UInt8, (32 : UInt8) ∉ x → posn (x ++ 32 :: r) = x.length
  | [], _ => by simp [posn]
  | c :: x, h => by
    have hc : c ≠ 32 := fun e => h (by rw [e]; exact List.mem_cons_self)
    rw [List.cons_append]
    unfold posn
    rw [if_neg hc, posn_at r x (fun m => h (List.mem_cons_of_mem _ m)), List.length_cons]
theorem inR_mem {lo hi : Nat} {l : List UInt8} (h : inR lo hi l = true) {c : UInt8} (hc : c ∈ l) : lo ≤ c.toNat ∧ c.toNat ≤ hi := by
  have := List.all_eq_true.1 h c hc
  simpa using this
theorem may_parts {n v : ByteArray} (h : mayB n v = true) : 1 ≤ n.size ∧ n.size ≤ 64 ∧ v.size ≤ 200 ∧ inR 33 126 (L n) = true ∧ inR 32 126 (L v) = true := by
  unfold mayB at h
  simp only [Bool.and_eq_true, decide_eq_true_eq] at h
  exact ⟨h.1.1.1.1.1.1, h.1.1.1.1.1.2, h.1.1.1.2, h.1.1.2, h.1.2⟩
def headL (p : F) : List UInt8 := [83, 84, 65, 84, 32] ++ (L p.f0 ++ 32 :: L p.f1)
theorem line_head (p : F) (r : List UInt8) : lineL p ++ r = headL p ++ 13 :: 10 :: r := by simp [lineL, headL]
theorem head_13 {p : F} (h : mayB p.f0 p.f1 = true) : (13 : UInt8) ∉ headL p := fun m => by
  obtain ⟨_, _, _, h1, h2⟩ := may_parts h
  unfold headL at m
  rcases List.mem_append.1 m with m | m
  · revert m; decide
  · rcases List.mem_append.1 m with m | m
    · have := (inR_mem h1 m).1
      revert this; decide
    · rcases List.mem_cons.1 m with m | m
      · revert m; decide
      · have := (inR_mem h2 m).1
        revert this; decide
theorem pair_head {p : F} (h : mayB p.f0 p.f1 = true) : pairB (headL p) = some p := by
  obtain ⟨h0, _, _, h1, h2⟩ := may_parts h
  have h32 : (32 : UInt8) ∉ L p.f0 := fun m => by
    have := (inR_mem h1 m).1
    revert this; decide
  have e1 : (headL p).take 5 = [83, 84, 65, 84, 32] := rfl
  have e2 : (headL p).drop 5 = L p.f0 ++ 32 :: L p.f1 := rfl
  have e3 : posn (L p.f0 ++ 32 :: L p.f1) = (L p.f0).length := posn_at _ _ h32
  have b : ∀ x : ByteArray, ba (L x) = x := fun x => ext (L_ba _)
  unfold pairB
  rw [e1, if_pos rfl, e2, e3, if_pos (by simp), List.take_left' rfl, show (L p.f0 ++ 32 :: L p.f1).drop ((L p.f0).length + 1) = L p.f1 by rw [← List.drop_drop, List.drop_left' rfl]; rfl, b, b, if_pos h]
theorem head_end (p : F) : headL p ≠ [69, 78, 68] := fun h => by
  have : (headL p).head? = some 69 := by rw [h]; rfl
  cases this
theorem drop_two (x r : List UInt8) : (x ++ 13 :: 10 :: r).drop (x.length + 2) = r := by
  rw [List.drop_append, List.drop_of_length_le (by omega), show x.length + 2 - x.length = 2 by omega]
  rfl
theorem read_back (N : Nat) (more : List UInt8) : ∀ (l : List F) (d : Nat) (acc : List F), allMay l = true → l.length < d → acc.length + l.length ≤ 1000 →
    rdT N d (l.flatMap lineL ++ [69, 78, 68, 13, 10] ++ more) acc = (acc ++ l, ((N - more.length : Nat) : Int), 0)
  | [], d, acc, _, hd, hl => by
    obtain ⟨d, rfl⟩ : ∃ m, d = m + 1 := ⟨d - 1, by simp at hd; omega⟩
    have e : ([] : List F).flatMap lineL ++ [69, 78, 68, 13, 10] ++ more = [69, 78, 68] ++ 13 :: 10 :: more := rfl
    have hix := ix_at more [69, 78, 68] (by decide)
    rw [e]
    unfold rdT
    rw [hix, if_neg (by decide), show ((([69, 78, 68] : List UInt8).length : Int)).toNat = 3 from rfl, if_pos (show List.take 3 ([69, 78, 68] ++ 13 :: 10 :: more) = [69, 78, 68] from rfl), if_neg (by simp at hl; omega), List.append_nil]
    congr 3
  | p :: l, d, acc, h, hd, hl => by
    obtain ⟨d, rfl⟩ : ∃ m, d = m + 1 := ⟨d - 1, by simp at hd; omega⟩
    unfold allMay at h
    rw [List.all_cons, Bool.and_eq_true] at h
    have e : (p :: l).flatMap lineL ++ [69, 78, 68, 13, 10] ++ more = headL p ++ 13 :: 10 :: (l.flatMap lineL ++ [69, 78, 68, 13, 10] ++ more) := by
      rw [List.flatMap_cons, List.append_assoc, List.append_assoc, line_head, List.append_assoc]
    have hix := ix_at (l.flatMap lineL ++ [69, 78, 68, 13, 10] ++ more) (headL p) (head_13 h.1)
    rw [e]
    unfold rdT
    rw [hix, if_neg (by omega), Int.toNat_natCast, List.take_left' rfl, if_neg (head_end p), pair_head h.1]
    simp only
    rw [drop_two]
    rw [List.length_cons] at hd hl
    rw [read_back N more l d (acc ++ [p]) h.2 (by omega) (by rw [List.length_append, List.length_singleton]; omega), List.append_assoc]
    rfl
theorem lines_len : ∀ l : List F, (l.flatMap lineL).length = tot l + 8 * l.length
  | [] => rfl
  | p :: l => by
    rw [List.flatMap_cons, List.length_append, lineL_length, lines_len l, tot_cons, List.length_cons]
    omega
def bytesL (l : List F) : ByteArray := ba (l.flatMap lineL ++ [69, 78, 68, 13, 10])
theorem bytes_size (l : List F) : (bytesL l).size = tot l + 8 * l.length + 5 := by
  rw [bytesL, ba_size, List.length_append, lines_len]
  rfl
theorem write_all (l : List F) (h : allMay l = true) (hs : tot l + 8 * l.length ≤ 1099511627776) : stat_Write.f (l.map conv) = some (bytesL l, 0) := by
  show stat_Write.go (l.map conv) [] = _
  rw [prog_write l [] (by show 0 + _ + _ ≤ _; omega), wr_all l [] h]
  rfl
theorem write_not (l : List F) (h : allMay l = false) (hs : tot l + 8 * l.length ≤ 1099511627776) : stat_Write.f (l.map conv) = some (⟨#[]⟩, 6) := by
  show stat_Write.go (l.map conv) [] = _
  rw [prog_write l [] (by show 0 + _ + _ ≤ _; omega), wr_not l [] h]
theorem back_all (l : List F) (h : allMay l = true) (hl : l.length ≤ 1000) (more : ByteArray) (hs : tot l + 8 * l.length + more.size ≤ 900000) : ∃ k, stat_Read.f k (bytesL l ++ more) = some (l.map conv, ((bytesL l).size : Int), 0) := by
  have hsz : (bytesL l ++ more).size = tot l + 8 * l.length + 5 + more.size := by rw [ByteArray.size_append, bytes_size]
  have hL : L (bytesL l ++ more) = l.flatMap lineL ++ [69, 78, 68, 13, 10] ++ L more := by rw [L_append]; unfold bytesL; rw [L_ba]
  have e := prog_read (bytesL l ++ more) (by omega) ((bytesL l ++ more).size + 1) (L (bytesL l ++ more)) [] (by rw [← L_size]; omega) (by rw [← L_size]; omega) (by rw [← L_size]; show 0 + _ ≤ _; omega)
  have hr := read_back (bytesL l ++ more).size (L more) l ((bytesL l ++ more).size + 1) [] h (by rw [hsz]; omega) (by show 0 + _ ≤ _; omega)
  rw [← hL] at hr
  rw [hr] at e
  obtain ⟨k, hk⟩ := e.rounds
  refine ⟨k, (show stat_Read.f k _ = _ from hk).trans ?_⟩
  show some (l.map conv, (((bytesL l ++ more).size - (L more).length : Nat) : Int), (0 : Int)) = _
  rw [← L_size, ByteArray.size_append, Nat.add_sub_cancel]
end Go.Proofs.YteddljbdjgdlnaaDoor.XSb
end
section
namespace Go.Proofs.YteddljbdjgdlnaaDoor.St
open Go.RowKit Go.Proofs.YteddljbdjgdlnaaDoorW.PrintWords Go.Proofs.YteddljbdjgdlnaaDoorW.PrintLast Go.Proofs.YteddljbdjgdlnaaDoorW.PrintMore Go.WideMaps Go.Proofs.YteddljbdjgdlnaaDoor.XSb
set_option linter.unusedVariables false
set_option linter.unusedSimpArgs false
attribute [local go_sem ↓] Go.wp_at_zero Go.wp_at_succ
namespace Wk
def f0 : Figs := app (fun _ => 0) (noteI 1 2 1 1 [])
theorem v1 : valF nm24 f0 Nm.cmd_get = 2 := by kernel_rfl
theorem v2 : valF nm24 f0 Nm.get_hits = 1 := by kernel_rfl
theorem v3 : valF nm24 f0 Nm.get_misses = 1 := by kernel_rfl
theorem h1 : has Nm.cmd_get nm24 = true := by kernel_rfl
theorem h2 : has Nm.get_hits nm24 = true := by kernel_rfl
theorem h3 : has Nm.get_misses nm24 = true := by kernel_rfl
def what : ByteArray := ⟨#[119, 104, 97, 116]⟩
theorem h4 : has what nm24 = false := by kernel_rfl
def p1 : F := ⟨⟨#[97]⟩, ⟨#[98, 32, 99]⟩⟩
def p2 : F := ⟨⟨#[97, 32, 98]⟩, ⟨#[99]⟩⟩
theorem m1 : allMay [p1] = true := by kernel_rfl
theorem m2 : allMay [p2] = false := by kernel_rfl
theorem t1 : tot [p1] = 4 := by kernel_rfl
theorem t2 : tot [p2] = 4 := by kernel_rfl
theorem b1 : bytesL [p1] = ⟨#[83, 84, 65, 84, 32, 97, 32, 98, 32, 99, 13, 10, 69, 78, 68, 13, 10]⟩ := by kernel_rfl
def ev (A B : Nat) : Ev := ⟨0, 1, some ⟨A, 0, none⟩, 2, 2, 0, 0, ⟨#[]⟩, 0, 0, false, 0, 1, some ⟨B, 0, none⟩, 1, 1, 0, none, 0, 0⟩
end Wk
theorem row_one (w : World) (a b : ByteArray) : Kd.C k83 (w.alloc (.cells #[.string a, .string b] 83)) (some ⟨w.heap.size, 0, none⟩) 1 [⟨a, b⟩] := by
  refine ⟨rfl, by decide, fun _ => ⟨_, rfl, ?_⟩⟩
  intro j p hp
  have hb : (w.alloc (.cells #[.string a, .string b] 83)).heap[w.heap.size]? = some (.cells #[.string a, .string b] 83) := heap_alloc_new w _
  match j with
  | 0 =>
    obtain rfl := Option.some.inj hp
    refine ⟨_, rfl, k83_mk _ _, fun i u hu => ?_⟩
    match i with
    | 0 => obtain rfl := Option.some.inj hu; exact fresh_cell hb 0
    | 1 => obtain rfl := Option.some.inj hu; exact fresh_cell hb 1
    | n + 2 => simp at hu
  | n + 1 => simp at hp
set_option maxHeartbeats 16000000 in
set_option maxRecDepth 100000 in
theorem works_calls (w : World) (hv : Vars w) : Calls Tryd.prog 25 #[] w fun e w' => e = .returned (.bool true) ∧ Below w.heap.size w w' := by
  have HV := Aside0.mk hv
  clear hv
  go_enter Tryd.func25, Tryd.ntmps25
  go_wp2_with fail
  refine (New_calls w).mono ?_
  rintro e w1 ⟨g, b, rfl, hA, hg, hb, hb1⟩
  have A1 := Aside0.mk hA
  have B1 := Aside0.mk hb1
  clear hA hb1
  go_wp2_with fail
  have hb2 := (((Below.refl w1.heap.size w1).alloc (Nat.le_refl _) (.cells #[.string ⟨#[97]⟩, .string ⟨#[98]⟩] 9)).alloc (by rw [size_al]; omega) (.cells #[.string ⟨#[97]⟩, .int .u32 0, .string ⟨#[]⟩, .int .u64 0] 135))
  have A2 := Aside0.mk (A1.out.below hb2)
  have B2 := Aside0.mk (B1.out.trans (hb2.mono B1.out.size))
  clear hb2
  refine (Note_calls _ g b 24 (fun _ => 0) (Wk.ev w1.heap.size (w1.heap.size + 1)) [] A2.out rfl (fun j y h => by cases h) (by decide) (show (2 : Nat) ≤ maxLen by decide) (show (1 : Nat) ≤ maxLen by decide)).mono ?_
  rintro e w3 ⟨rfl, hD⟩
  have A3 : Aside0 (At w3 g b 100 nm24 Wk.f0) := ⟨hD.at_.more (by have := note_len (Wk.ev w1.heap.size (w1.heap.size + 1)).kind (Wk.ev w1.heap.size (w1.heap.size + 1)).nk (Wk.ev w1.heap.size (w1.heap.size + 1)).nh (Wk.ev w1.heap.size (w1.heap.size + 1)).code []; simp only [List.length_nil] at this; omega)⟩
  have B3 := Aside0.mk (B2.out.trans (hD.mov.below hg hb B2.out.size))
  clear hD A2 B2 A1 B1
  go_wp2_with fail
  refine (Get_calls w3 g b 100 nm24 Wk.f0 Nm.cmd_get A3.out (by decide)).mono ?_
  rintro e w4 ⟨rfl, rfl⟩
  rw [Wk.v1, Wk.h1]
  go_wp2_with fail
  refine (Get_calls w4 g b 100 nm24 Wk.f0 Nm.get_hits A3.out (by decide)).mono ?_
  rintro e w5 ⟨rfl, rfl⟩
  rw [Wk.v2, Wk.h2]
  go_wp2_with fail
  refine (Get_calls w5 g b 100 nm24 Wk.f0 Nm.get_misses A3.out (by decide)).mono ?_
  rintro e w6 ⟨rfl, rfl⟩
  rw [Wk.v3, Wk.h3]
  go_wp2_with fail
  refine (Get_calls w6 g b 100 nm24 Wk.f0 Wk.what A3.out (by decide)).mono ?_
  rintro e w7 ⟨rfl, rfl⟩
  rw [Wk.h4]
  generalize valF nm24 Wk.f0 Wk.what = x0
  go_wp2_with fail
  have hb8 := (Below.refl w7.heap.size w7).alloc (Nat.le_refl _) (.cells #[.string ⟨#[97]⟩, .string ⟨#[98, 32, 99]⟩] 83)
  have A8 := Aside0.mk (A3.out.below hb8)
  have B8 := Aside0.mk (B3.out.trans (hb8.mono B3.out.size))
  clear hb8
  refine (stat_Write.calls (some ⟨w7.heap.size, 0, none⟩) 1 [⟨⟨#[97]⟩, ⟨#[98, 32, 99]⟩⟩] (bytesL [Wk.p1]) 0 _ (row_one w7 _ _) (Nat.le_refl 1) (write_all [Wk.p1] Wk.m1 (by rw [Wk.t1]; decide))).mono ?_
  rintro e w9 ⟨rfl, hb9⟩
  have A9 := Aside0.mk (A8.out.below hb9)
  have B9 := Aside0.mk (B8.out.trans (hb9.mono B8.out.size))
  clear hb9 A8 B8 A3 B3
  obtain ⟨kr, hkr⟩ := back_all [Wk.p1] Wk.m1 (by decide) ⟨#[109, 111, 114, 101]⟩ (by rw [Wk.t1]; decide)
  have HKR := Lib.hid hkr
  obtain ⟨T, hT⟩ : ∃ T, T = bytesL [Wk.p1] := ⟨_, rfl⟩
  rw [← hT] at HKR ⊢
  have hsz : T.size = 17 := by rw [hT, Wk.b1]; rfl
  have hTl : (T.toList == [83, 84, 65, 84, 32, 97, 32, 98, 32, 99, 13, 10, 69, 78, 68, 13, 10]) = true := by rw [hT, Wk.b1]; kernel_rfl
  have HT := Lib.hid hT
  have HTL := Lib.hid hTl
  clear hT hkr hTl
  go_wp2_with fail
  have hX := stat_Read.calls kr (T ++ ⟨#[109, 111, 114, 101]⟩) ([Wk.p1].map conv) (T.size : Int) 0 w9 (HV.out.below B9.out) HKR.out
  refine hX.mono ?_
  clear hX
  rintro e w10 ⟨v, rfl, hR, hb10⟩
  obtain ⟨Av, cv, rfl, hcv, hC⟩ := Kd.R_reads hR
  have A10 := Aside0.mk (A9.out.below hb10)
  have B10 := Aside0.mk (B9.out.trans (hb10.mono B9.out.size))
  have HC := Aside0.mk hC
  clear hR hb10 hC A9 B9
  go_wp2_with fail
  have hb11 := (Below.refl w10.heap.size w10).alloc (Nat.le_refl _) (.cells #[.string ⟨#[97, 32, 98]⟩, .string ⟨#[99]⟩] 83)
  have A11 := Aside0.mk (A10.out.below hb11)
  have B11 := Aside0.mk (B10.out.trans (hb11.mono B10.out.size))
  have HC11 := Aside0.mk (Kd.C_below HC.out hb11)
  clear hb11 A10 B10 HC
  refine (stat_Write.calls (some ⟨w10.heap.size, 0, none⟩) 1 [⟨⟨#[97, 32, 98]⟩, ⟨#[99]⟩⟩] ⟨#[]⟩ 6 _ (row_one w10 _ _) (Nat.le_refl 1) (write_not [Wk.p2] Wk.m2 (by rw [Wk.t2]; decide))).mono ?_
  rintro e w12 ⟨rfl, hb12⟩
  have A12 := Aside0.mk (A11.out.below hb12)
  have B12 := Aside0.mk (B11.out.trans (hb12.mono B11.out.size))
  have HC12 := Aside0.mk (Kd.C_below HC11.out hb12)
  clear hb12 A11 B11 HC11
  obtain ⟨adv, hadv, c0, c1⟩ := at_T83 HC12.out 0 (by decide) (by decide)
  subst hadv
  have c0a : w12.cell? (adv.add 0) = some (.string ⟨#[97]⟩) := c0
  have c1a : w12.cell? ⟨(adv.add 0).block, (adv.add 0).off + 1, none⟩ = some (.string ⟨#[98, 32, 99]⟩) := c1
  have c0' : w12.cell? adv = some (.string ⟨#[97]⟩) := by simpa [Addr.add] using c0a
  have c1' : w12.cell? ⟨adv.block, adv.off + 1, none⟩ = some (.string ⟨#[98, 32, 99]⟩) := by simpa [Addr.add] using c1a
  clear c0 c1 c0a c1a
  have hTl : T.toList = [83, 84, 65, 84, 32, 97, 32, 98, 32, 99, 13, 10, 69, 78, 68, 13, 10] := beq_iff_eq.1 HTL.out
  go_wp2_with fail
  have hY := General_calls w12 g b 100 Wk.f0 (HV.out.below B12.out) A12.out (ok_app ok_zero)
  refine hY.mono ?_
  clear hY
  rintro e w13 ⟨v13, rfl, hR13, hb13⟩
  obtain ⟨A13, c13, rfl, -, -⟩ := Kd.R_reads hR13
  have B13 := Aside0.mk (B12.out.trans (hb13.mono B12.out.size))
  have hgl : (genL Wk.f0 nm24).length = 24 := by unfold genL; rw [List.length_map]; rfl
  rw [hgl]
  clear hR13 hb13 hgl c0' c1'
  go_wp2
  go_ret
  exact ⟨rfl, B13.out⟩
end Go.Proofs.YteddljbdjgdlnaaDoor.St
end
section
namespace Go.Proofs.YteddljbdjgdlnaaDoor.St
open Go.RowKit Go.Proofs.YteddljbdjgdlnaaDoorW.PrintWords Go.Proofs.YteddljbdjgdlnaaDoorW.PrintLast Go.Proofs.YteddljbdjgdlnaaDoorW.PrintMore Go.WideMaps Go.Proofs.YteddljbdjgdlnaaDoor.XSb
set_option linter.unusedVariables false
set_option linter.unusedSimpArgs false
attribute [local go_sem ↓] Go.wp_at_zero Go.wp_at_succ
theorem noted_n (w : World) (A0 : Option Addr) (m : Nat) (c0 : Nat) (l0 : List X) (hm : l0.length = m) (hC0 : Kd.C k42 w A0 l0.length l0) (hc0 : l0.length ≤ c0) (hs : Small l0) :
    Calls Tryd.prog 9 #[.slice A0 m c0] w fun e w' => ∃ g b, e = .returned (.pointer (some ⟨g, 0, none⟩)) ∧ At w' g b 200000000 nm24 (app (fun _ => 0) (notesL l0)) ∧ w.heap.size ≤ g ∧ w.heap.size ≤ b ∧ Below w.heap.size w w' := by
  subst hm
  exact noted_calls w A0 l0 c0 hC0 hc0 hs
theorem small_sub {l k : List X} (h : Small l) (hl : k.length ≤ l.length) (hm : ∀ x ∈ k, x ∈ l) : Small k := ⟨Nat.le_trans hl h.1, fun x hx => h.2 x (hm x hx)⟩
noncomputable def bk (f : Figs) : List F := (genL f nm24).map XSb.back
theorem gen_len (f : Figs) : (genL f nm24).length = 24 := by unfold genL; rw [List.length_map]; rfl
theorem from_gen (f : Figs) : ∃ k, tallboylaw32_From.f k (genL f nm24) = some (bk f) := (from_pairs (genL f nm24) (by rw [gen_len]; omega)).rounds
theorem same_bk (f : Figs) : ∃ k, tallboyref32_Same.f k (bk f) (bk f) = some true := (same_same (bk f) (by unfold bk; rw [List.length_map, gen_len]; omega)).rounds
theorem below_drawn {w w' : World} (h : Drawn0 w w') : Below w.heap.size w w' := by
  obtain ⟨n, rfl⟩ := h
  exact below_drewN _ _
structure Apart (g b g' b' : Nat) : Prop where
  p1 : g ≠ g'
  p2 : g ≠ b'
  p3 : b ≠ g'
  p4 : b ≠ b'
theorem apart_of {w : World} {g b c g' b' : Nat} {f : Figs} (h : At w g b c nm24 f) (h1 : w.heap.size ≤ g') (h2 : w.heap.size ≤ b') : Apart g b g' b' :=
  ⟨Nat.ne_of_lt (Nat.lt_of_lt_of_le h.lt h1), Nat.ne_of_lt (Nat.lt_of_lt_of_le h.lt h2), Nat.ne_of_lt (Nat.lt_of_lt_of_le h.ltb h1), Nat.ne_of_lt (Nat.lt_of_lt_of_le h.ltb h2)⟩
theorem Apart.symm {g b g' b' : Nat} (h : Apart g b g' b') : Apart g' b' g b := ⟨h.p1.symm, h.p3.symm, h.p2.symm, h.p4.symm⟩
set_option maxHeartbeats 16000000 in
set_option maxRecDepth 100000 in
theorem parts_calls (w : World) (hv : Vars w) (A0 : Option Addr) (l0 : List X) (c0 : Nat) (at_ : Int) (hc0 : l0.length ≤ c0) (hC0 : Kd.C k42 w A0 l0.length l0) (kg : Nat) (gr : Bool) (hgr : tallboylaw25_Great.f kg l0 = some gr) (hsm : gr = false → Small l0) :
    Calls Tryd.prog 6 #[.slice A0 l0.length c0, .int .i64 at_] w fun e w' => e = .returned (.bool true) ∧ Below w.heap.size w w' := by
  have HV := Aside0.mk hv
  have HC0 := Aside0.mk hC0
  have HG := Lib.hid hgr
  have HSM := Lib.hid hsm
  clear hv hC0 hgr hsm
  go_enter Tryd.func6, Tryd.ntmps6
  go_wp2_with fail
  refine (works_calls w HV.out).mono ?_
  rintro e w1 ⟨rfl, hb1⟩
  have B1 := Aside0.mk hb1
  have C1 := Aside0.mk (Kd.C_below HC0.out hb1)
  clear hb1 HC0
  go_wp2_with fail
  have hX := tallboylaw25_Great.calls kg A0 c0 l0 gr w1 C1.out hc0 HG.out
  refine hX.mono ?_
  clear hX
  rintro e w3 ⟨rfl, hb3⟩
  have B2 := Aside0.mk (B1.out.trans (hb3.mono B1.out.size))
  have C2 := Aside0.mk (Kd.C_below C1.out hb3)
  clear hb3 B1 C1
  cases gr with
  | true =>
    go_wp2
    go_ret
    exact ⟨rfl, B2.out⟩
  | false =>
    have hsmall := HSM.out rfl
    have hlb : l0.length ≤ 1000 := hsmall.1
    have hlbi : (l0.length : Int) ≤ 1000 := by omega
    have HSMALL := Lib.hid hsmall
    clear hsmall
    go_upto_region 6 with fail
    obtain ⟨n, hn, hnl⟩ : ∃ n : Nat, wrap64 ((IntKind.u64.wrap at_).tmod ((l0.length : Int) + 1)) = (n : Int) ∧ n ≤ l0.length := by
      have h1 : 0 ≤ IntKind.u64.wrap at_ := by rw [IntKind.wrap_u64]; exact Int.emod_nonneg _ (by decide)
      have h2 := Int.emod_nonneg (IntKind.u64.wrap at_) (show ((l0.length : Int) + 1) ≠ 0 by omega)
      have h3 := Int.emod_lt_of_pos (IntKind.u64.wrap at_) (show 0 < ((l0.length : Int) + 1) by omega)
      rw [Int.tmod_eq_emod_of_nonneg h1]
      refine ⟨((IntKind.u64.wrap at_) % ((l0.length : Int) + 1)).toNat, ?_, ?_⟩
      · rw [Int.toNat_of_nonneg h2]
        unfold wrap64
        omega
      · omega
    rw [hn]
    have hn0 : (0 : Int) ≤ (n : Int) := by omega
    have hn1 : (n : Int) ≤ (l0.length : Int) := by omega
    have hn2 : (n : Int) ≤ (c0 : Int) := by omega
    have hlc : (l0.length : Int) ≤ (c0 : Int) := by omega
    clear hn HG
    have BN := Aside0.mk (Below.refl w3.heap.size w3).drew
    have Ta := Lib.hid (show (l0.take n).length = n by rw [List.length_take]; omega)
    have Tb := Lib.hid (show (l0.drop n).length = l0.length - n from List.length_drop)
    have Ca := Aside0.mk (Kd.C_take C2.out hnl)
    obtain ⟨AB, hAB⟩ : ∃ AB, (if c0 = n then A0 else Option.map (fun x => x.add (n * 14)) A0) = AB := ⟨_, rfl⟩
    have Cb : Aside0 (Kd.C k42 w3 AB (l0.drop n).length (l0.drop n)) := ⟨by rw [← hAB]; exact Kd.C_drop C2.out hnl hc0⟩
    have Ka := Lib.hid (show (l0.take n).length ≤ c0 by rw [Ta.out]; omega)
    have Kb := Lib.hid (show (l0.drop n).length ≤ c0 - n by rw [Tb.out]; omega)
    have Kc := Lib.hid hc0
    have Sa := Lib.hid (small_sub HSMALL.out (by rw [Ta.out]; exact hnl) (fun x hx => List.mem_of_mem_take hx))
    have Sb := Lib.hid (small_sub HSMALL.out (by rw [Tb.out]; omega) (fun x hx => List.mem_of_mem_drop hx))
    go_cut [6, 7, 8] (fun v6 v7 v8 wc => ∃ ga ba gb bb gc bc, v6 = .pointer (some ⟨ga, 0, none⟩) ∧ v7 = .pointer (some ⟨gb, 0, none⟩) ∧ v8 = .pointer (some ⟨gc, 0, none⟩) ∧
      Aside0 (At wc ga ba 200000000 nm24 (app (fun _ => 0) (notesL (l0.take n)))) ∧ Aside0 (At wc gb bb 200000000 nm24 (app (fun _ => 0) (notesL (l0.drop n)))) ∧ Aside0 (At wc gc bc 200000000 nm24 (app (fun _ => 0) (notesL l0))) ∧ Aside0 (Apart ga ba gb bb) ∧ Aside0 (Apart ga ba gc bc) ∧
      Hid (w3.heap.size ≤ ga ∧ w3.heap.size ≤ ba) ∧ Hid (w3.heap.size ≤ gc ∧ w3.heap.size ≤ bc) ∧ Aside0 (Below w3.heap.size w3 wc))
    case first =>
      go_region_held3 (fun w' => True) (trivial)
        (first
          | (go_at_call 9; with_reducible refine (noted_n _ A0 n c0 (l0.take n) Ta.out (Kd.C_below Ca.out BN.out) Ka.out Sa.out).mono ?_; rintro e wa ⟨ga, ba, rfl, hA, hg, hb, hbw⟩; (first | (have Dba := Aside0.mk (apart_of Ab.out hg hb); have Ab' := Aside0.mk (Ab.out.below hbw); clear Ab; have Ab := Ab'; clear Ab') | skip); (first | (have Dca := Aside0.mk (apart_of Ac.out hg hb); have Ac' := Aside0.mk (Ac.out.below hbw); clear Ac; have Ac := Ac'; clear Ac') | skip); (have Aa := Aside0.mk hA); (have La := Lib.hid (show w3.heap.size ≤ ga ∧ w3.heap.size ≤ ba from ⟨Nat.le_trans BN.out.size hg, Nat.le_trans BN.out.size hb⟩)); (have BN' := Aside0.mk (BN.out.trans (hbw.mono BN.out.size))); clear BN; (have BN := BN'); clear BN' hA hg hb hbw)
          | (go_at_call 9; with_reducible refine (noted_n _ AB (l0.length - n) (c0 - n) (l0.drop n) Tb.out (Kd.C_below Cb.out BN.out) Kb.out Sb.out).mono ?_; rintro e wb ⟨gb, bb, rfl, hA, hg, hb, hbw⟩; (first | (have Dab := Aside0.mk (apart_of Aa.out hg hb); have Aa' := Aside0.mk (Aa.out.below hbw); clear Aa; have Aa := Aa'; clear Aa') | skip); (first | (have Dcb := Aside0.mk (apart_of Ac.out hg hb); have Ac' := Aside0.mk (Ac.out.below hbw); clear Ac; have Ac := Ac'; clear Ac') | skip); (have Ab := Aside0.mk hA); (have Lb := Lib.hid (show w3.heap.size ≤ gb ∧ w3.heap.size ≤ bb from ⟨Nat.le_trans BN.out.size hg, Nat.le_trans BN.out.size hb⟩)); (have BN' := Aside0.mk (BN.out.trans (hbw.mono BN.out.size))); clear BN; (have BN := BN'); clear BN' hA hg hb hbw)
          | (go_at_call 9; with_reducible refine (noted_n _ A0 l0.length c0 l0 rfl (Kd.C_below C2.out BN.out) Kc.out HSMALL.out).mono ?_; rintro e wc ⟨gc, bc, rfl, hA, hg, hb, hbw⟩; (first | (have Dac := Aside0.mk (apart_of Aa.out hg hb); have Aa' := Aside0.mk (Aa.out.below hbw); clear Aa; have Aa := Aa'; clear Aa') | skip); (first | (have Dbc := Aside0.mk (apart_of Ab.out hg hb); have Ab' := Aside0.mk (Ab.out.below hbw); clear Ab; have Ab := Ab'; clear Ab') | skip); (have Ac := Aside0.mk hA); (have Lc := Lib.hid (show w3.heap.size ≤ gc ∧ w3.heap.size ≤ bc from ⟨Nat.le_trans BN.out.size hg, Nat.le_trans BN.out.size hb⟩)); (have BN' := Aside0.mk (BN.out.trans (hbw.mono BN.out.size))); clear BN; (have BN := BN'); clear BN' hA hg hb hbw))
      all_goals
        go_wp2_with fail
        go_meet
        case rel =>
          first
            | exact ⟨ga, ba, gb, bb, gc, bc, rfl, rfl, rfl, Aa, Ab, Ac, Dab, Dac, La, Lc, BN⟩
            | exact ⟨ga, ba, gb, bb, gc, bc, rfl, rfl, rfl, Aa, Ab, Ac, ⟨Dba.out.symm⟩, Dac, La, Lc, BN⟩
            | exact ⟨ga, ba, gb, bb, gc, bc, rfl, rfl, rfl, Aa, Ab, Ac, Dab, ⟨Dca.out.symm⟩, La, Lc, BN⟩
            | exact ⟨ga, ba, gb, bb, gc, bc, rfl, rfl, rfl, Aa, Ab, Ac, ⟨Dba.out.symm⟩, ⟨Dca.out.symm⟩, La, Lc, BN⟩
    case rest =>
      obtain ⟨ga, ba, gb, bb, gc, bc, rfl, rfl, rfl, Aa, Ab, Ac, Dab, Dac, La, Lc, BN3⟩ := hcut
      have BW := Aside0.mk (B2.out.trans (BN3.out.mono B2.out.size))
      have La' := Lib.hid (show w.heap.size ≤ ga ∧ w.heap.size ≤ ba from ⟨Nat.le_trans B2.out.size La.out.1, Nat.le_trans B2.out.size La.out.2⟩)
      have Lc' := Lib.hid (show w.heap.size ≤ gc ∧ w.heap.size ≤ bc from ⟨Nat.le_trans B2.out.size Lc.out.1, Nat.le_trans B2.out.size Lc.out.2⟩)
      have OKfa := Aside0.mk (ok_app ok_zero (l := notesL (l0.take n)))
      have OKfb := Aside0.mk (ok_app ok_zero (l := notesL (l0.drop n)))
      have OKfc := Aside0.mk (ok_app ok_zero (l := notesL l0))
      have hsum := fun (s : ByteArray) (hs : has s nm24 = true) => part_at (l0.take n) (l0.drop n) hs
      obtain ⟨fa, hfa⟩ : ∃ f, f = app (fun _ => 0) (notesL (l0.take n)) := ⟨_, rfl⟩
      obtain ⟨fb, hfb⟩ : ∃ f, f = app (fun _ => 0) (notesL (l0.drop n)) := ⟨_, rfl⟩
      obtain ⟨fc, hfc⟩ : ∃ f, f = app (fun _ => 0) (notesL l0) := ⟨_, rfl⟩
      rw [List.take_append_drop, ← hfa, ← hfb, ← hfc] at hsum
      rw [← hfa] at Aa OKfa
      rw [← hfb] at Ab OKfb
      rw [← hfc] at Ac OKfc
      have HSUM := Aside0.mk hsum
      clear hsum hfa hfb hfc B2 C2 BN BN3 Ca Cb Ta Tb Ka Kb Kc Sa Sb hAB La Lc HSM HSMALL
      go_wp2_with fail
      have hX := General_calls _ gb bb _ fb (HV.out.below BW.out) Ab.out OKfb.out
      refine hX.mono ?_
      clear hX
      rintro e w11 ⟨v11, rfl, hR, hb⟩
      obtain ⟨R11, q11, rfl, hq11, hC⟩ := Kd.R_reads hR
      have N11 := Aside0.mk (new_row hR Ac.out)
      have Aa' := Aside0.mk (Aa.out.below hb)
      clear Aa
      have Aa := Aa'
      clear Aa'
      have Ab' := Aside0.mk (Ab.out.below hb)
      clear Ab
      have Ab := Ab'
      clear Ab'
      have Ac' := Aside0.mk (Ac.out.below hb)
      clear Ac
      have Ac := Ac'
      clear Ac'
      have BW' := Aside0.mk (BW.out.trans (hb.mono BW.out.size))
      clear BW
      have BW := BW'
      clear BW'
      have G11 := Aside0.mk hC
      clear hC hR hb
      go_wp2_with fail
      obtain ⟨k12, hk12⟩ := from_gen fb
      have hX := tallboylaw32_From.calls k12 R11 q11 (genL fb nm24) (bk fb) _ G11.out hq11 hk12
      refine hX.mono ?_
      clear hX hk12
      rintro e w12 ⟨v12, rfl, hR, hb⟩
      obtain ⟨R12, q12, rfl, hq12, hC⟩ := Kd.R_reads hR
      have N12 := Aside0.mk (new_row hR Aa.out)
      clear G11
      have Aa' := Aside0.mk (Aa.out.below hb)
      clear Aa
      have Aa := Aa'
      clear Aa'
      have Ab' := Aside0.mk (Ab.out.below hb)
      clear Ab
      have Ab := Ab'
      clear Ab'
      have Ac' := Aside0.mk (Ac.out.below hb)
      clear Ac
      have Ac := Ac'
      clear Ac'
      have BW' := Aside0.mk (BW.out.trans (hb.mono BW.out.size))
      clear BW
      have BW := BW'
      clear BW'
      have F12 := Aside0.mk hC
      clear hC hR hb
      go_wp2_with fail
      have hX := Add_other _ ga ba 200000000 gb bb 200000000 fa fb Aa.out Ab.out (by decide) Dab.out.p1.symm Dab.out.p3.symm Dab.out.p2.symm Dab.out.p4.symm
      refine hX.mono ?_
      clear hX
      rintro e w20 ⟨rfl, ⟨hA, hB⟩, hM⟩
      have hA' : At w20 ga ba 300000000 nm24 fc := (hA.eq (fun _ => rfl) (fun s hs => (HSUM.out s hs).symm)).more (by decide)
      have Ac' := Aside0.mk (Ac.out.mut hM Dac.out.p1.symm Dac.out.p3.symm Dac.out.p2.symm Dac.out.p4.symm)
      have BW' := Aside0.mk (BW.out.trans (hM.below La'.out.1 La'.out.2 BW.out.size))
      have FW' := Aside0.mk (C_same F12.out (fun ad e => hM.block ad.block (N12.out ad e).1 (N12.out ad e).2.1 (N12.out ad e).2.2))
      clear Aa Ab Ac BW F12
      have Aa := Aside0.mk hA'
      have Ab := Aside0.mk hB
      have Ac := Ac'
      have BW := BW'
      have F12 := FW'
      clear hA hA' hB hM Ac' BW' FW' N12
      go_wp2_with fail
      have hX := General_calls _ ga ba _ fc (HV.out.below BW.out) Aa.out OKfc.out
      refine hX.mono ?_
      clear hX
      rintro e w13 ⟨v13, rfl, hR, hb⟩
      obtain ⟨R13, q13, rfl, hq13, hC⟩ := Kd.R_reads hR
      have N13 := Aside0.mk (new_row hR Ac.out)
      have Aa' := Aside0.mk (Aa.out.below hb)
      clear Aa
      have Aa := Aa'
      clear Aa'
      have Ab' := Aside0.mk (Ab.out.below hb)
      clear Ab
      have Ab := Ab'
      clear Ab'
      have Ac' := Aside0.mk (Ac.out.below hb)
      clear Ac
      have Ac := Ac'
      clear Ac'
      have BW' := Aside0.mk (BW.out.trans (hb.mono BW.out.size))
      clear BW
      have BW := BW'
      clear BW'
      have F12' := Aside0.mk (Kd.C_below F12.out hb)
      clear F12
      have F12 := F12'
      clear F12'
      have G13 := Aside0.mk hC
      clear hC hR hb
      go_wp2_with fail
      obtain ⟨k14, hk14⟩ := from_gen fc
      have hX := tallboylaw32_From.calls k14 R13 q13 (genL fc nm24) (bk fc) _ G13.out hq13 hk14
      refine hX.mono ?_
      clear hX hk14
      rintro e w14 ⟨v14, rfl, hR, hb⟩
      obtain ⟨R14, q14, rfl, hq14, hC⟩ := Kd.R_reads hR
      have N14 := Aside0.mk (new_row hR Aa.out)
      clear G13
      have Aa' := Aside0.mk (Aa.out.below hb)
      clear Aa
      have Aa := Aa'
      clear Aa'
      have Ab' := Aside0.mk (Ab.out.below hb)
      clear Ab
      have Ab := Ab'
      clear Ab'
      have Ac' := Aside0.mk (Ac.out.below hb)
      clear Ac
      have Ac := Ac'
      clear Ac'
      have BW' := Aside0.mk (BW.out.trans (hb.mono BW.out.size))
      clear BW
      have BW := BW'
      clear BW'
      have F12' := Aside0.mk (Kd.C_below F12.out hb)
      clear F12
      have F12 := F12'
      clear F12'
      have F14 := Aside0.mk hC
      clear hC hR hb
      go_wp2_with fail
      have hX := General_calls _ gc bc _ fc (HV.out.below BW.out) Ac.out OKfc.out
      refine hX.mono ?_
      clear hX
      rintro e w15 ⟨v15, rfl, hR, hb⟩
      obtain ⟨R15, q15, rfl, hq15, hC⟩ := Kd.R_reads hR
      have N15 := Aside0.mk (new_row hR Ac.out)
      have Aa' := Aside0.mk (Aa.out.below hb)
      clear Aa
      have Aa := Aa'
      clear Aa'
      have Ab' := Aside0.mk (Ab.out.below hb)
      clear Ab
      have Ab := Ab'
      clear Ab'
      have Ac' := Aside0.mk (Ac.out.below hb)
      clear Ac
      have Ac := Ac'
      clear Ac'
      have BW' := Aside0.mk (BW.out.trans (hb.mono BW.out.size))
      clear BW
      have BW := BW'
      clear BW'
      have F12' := Aside0.mk (Kd.C_below F12.out hb)
      clear F12
      have F12 := F12'
      clear F12'
      have F14' := Aside0.mk (Kd.C_below F14.out hb)
      clear F14
      have F14 := F14'
      clear F14'
      have G15 := Aside0.mk hC
      clear hC hR hb
      go_wp2_with fail
      obtain ⟨k16, hk16⟩ := from_gen fc
      have hX := tallboylaw32_From.calls k16 R15 q15 (genL fc nm24) (bk fc) _ G15.out hq15 hk16
      refine hX.mono ?_
      clear hX hk16
      rintro e w16 ⟨v16, rfl, hR, hb⟩
      obtain ⟨R16, q16, rfl, hq16, hC⟩ := Kd.R_reads hR
      have N16 := Aside0.mk (new_row hR Aa.out)
      clear G15
      have Aa' := Aside0.mk (Aa.out.below hb)
      clear Aa
      have Aa := Aa'
      clear Aa'
      have Ab' := Aside0.mk (Ab.out.below hb)
      clear Ab
      have Ab := Ab'
      clear Ab'
      have Ac' := Aside0.mk (Ac.out.below hb)
      clear Ac
      have Ac := Ac'
      clear Ac'
      have BW' := Aside0.mk (BW.out.trans (hb.mono BW.out.size))
      clear BW
      have BW := BW'
      clear BW'
      have F12' := Aside0.mk (Kd.C_below F12.out hb)
      clear F12
      have F12 := F12'
      clear F12'
      have F14' := Aside0.mk (Kd.C_below F14.out hb)
      clear F14
      have F14 := F14'
      clear F14'
      have F16 := Aside0.mk hC
      clear hC hR hb
      go_wp2_with fail
      obtain ⟨k17, hk17⟩ := same_bk fc
      have hX := tallboyref32_Same.calls k17 R14 q14 (bk fc) R16 q16 (bk fc) true _ F14.out hq14 F16.out hq16 hk17
      refine hX.mono ?_
      clear hX hk17
      rintro e w17 ⟨rfl, hd⟩
      have hb := below_drawn hd
      have Aa' := Aside0.mk (Aa.out.below hb)
      clear Aa
      have Aa := Aa'
      clear Aa'
      have Ab' := Aside0.mk (Ab.out.below hb)
      clear Ab
      have Ab := Ab'
      clear Ab'
      have Ac' := Aside0.mk (Ac.out.below hb)
      clear Ac
      have Ac := Ac'
      clear Ac'
      have BW' := Aside0.mk (BW.out.trans (hb.mono BW.out.size))
      clear BW
      have BW := BW'
      clear BW'
      have F12' := Aside0.mk (Kd.C_below F12.out hb)
      clear F12
      have F12 := F12'
      clear F12'
      have F14' := Aside0.mk (Kd.C_below F14.out hb)
      clear F14
      have F14 := F14'
      clear F14'
      have F16' := Aside0.mk (Kd.C_below F16.out hb)
      clear F16
      have F16 := F16'
      clear F16'
      clear hb hd
      go_wp2_with fail
      have hX := General_calls _ gb bb _ fb (HV.out.below BW.out) Ab.out OKfb.out
      refine hX.mono ?_
      clear hX
      rintro e w18 ⟨v18, rfl, hR, hb⟩
      obtain ⟨R18, q18, rfl, hq18, hC⟩ := Kd.R_reads hR
      have N18 := Aside0.mk (new_row hR Ac.out)
      have Aa' := Aside0.mk (Aa.out.below hb)
      clear Aa
      have Aa := Aa'
      clear Aa'
      have Ab' := Aside0.mk (Ab.out.below hb)
      clear Ab
      have Ab := Ab'
      clear Ab'
      have Ac' := Aside0.mk (Ac.out.below hb)
      clear Ac
      have Ac := Ac'
      clear Ac'
      have BW' := Aside0.mk (BW.out.trans (hb.mono BW.out.size))
      clear BW
      have BW := BW'
      clear BW'
      have F12' := Aside0.mk (Kd.C_below F12.out hb)
      clear F12
      have F12 := F12'
      clear F12'
      have F14' := Aside0.mk (Kd.C_below F14.out hb)
      clear F14
      have F14 := F14'
      clear F14'
      have F16' := Aside0.mk (Kd.C_below F16.out hb)
      clear F16
      have F16 := F16'
      clear F16'
      have G18 := Aside0.mk hC
      clear hC hR hb
      go_wp2_with fail
      obtain ⟨k19, hk19⟩ := from_gen fb
      have hX := tallboylaw32_From.calls k19 R18 q18 (genL fb nm24) (bk fb) _ G18.out hq18 hk19
      refine hX.mono ?_
      clear hX hk19
      rintro e w19 ⟨v19, rfl, hR, hb⟩
      obtain ⟨R19, q19, rfl, hq19, hC⟩ := Kd.R_reads hR
      have N19 := Aside0.mk (new_row hR Aa.out)
      clear G18
      have Aa' := Aside0.mk (Aa.out.below hb)
      clear Aa
      have Aa := Aa'
      clear Aa'
      have Ab' := Aside0.mk (Ab.out.below hb)
      clear Ab
      have Ab := Ab'
      clear Ab'
      have Ac' := Aside0.mk (Ac.out.below hb)
      clear Ac
      have Ac := Ac'
      clear Ac'
      have BW' := Aside0.mk (BW.out.trans (hb.mono BW.out.size))
      clear BW
      have BW := BW'
      clear BW'
      have F12' := Aside0.mk (Kd.C_below F12.out hb)
      clear F12
      have F12 := F12'
      clear F12'
      have F14' := Aside0.mk (Kd.C_below F14.out hb)
      clear F14
      have F14 := F14'
      clear F14'
      have F16' := Aside0.mk (Kd.C_below F16.out hb)
      clear F16
      have F16 := F16'
      clear F16'
      have F19 := Aside0.mk hC
      clear hC hR hb
      go_wp2_with fail
      obtain ⟨k20, hk20⟩ := same_bk fb
      have hX := tallboyref32_Same.calls k20 R19 q19 (bk fb) R12 q12 (bk fb) true _ F19.out hq19 F12.out hq12 hk20
      refine hX.mono ?_
      clear hX hk20
      rintro e w20 ⟨rfl, hd⟩
      have hb := below_drawn hd
      have Aa' := Aside0.mk (Aa.out.below hb)
      clear Aa
      have Aa := Aa'
      clear Aa'
      have Ab' := Aside0.mk (Ab.out.below hb)
      clear Ab
      have Ab := Ab'
      clear Ab'
      have Ac' := Aside0.mk (Ac.out.below hb)
      clear Ac
      have Ac := Ac'
      clear Ac'
      have BW' := Aside0.mk (BW.out.trans (hb.mono BW.out.size))
      clear BW
      have BW := BW'
      clear BW'
      have F12' := Aside0.mk (Kd.C_below F12.out hb)
      clear F12
      have F12 := F12'
      clear F12'
      have F14' := Aside0.mk (Kd.C_below F14.out hb)
      clear F14
      have F14 := F14'
      clear F14'
      have F16' := Aside0.mk (Kd.C_below F16.out hb)
      clear F16
      have F16 := F16'
      clear F16'
      have F19' := Aside0.mk (Kd.C_below F19.out hb)
      clear F19
      have F19 := F19'
      clear F19'
      clear hb hd
      go_wp2_with fail
      have hX := General_calls _ gc bc _ fc (HV.out.below BW.out) Ac.out OKfc.out
      refine hX.mono ?_
      clear hX
      rintro e w21 ⟨v21, rfl, hR, hb⟩
      obtain ⟨R21, q21, rfl, hq21, hC⟩ := Kd.R_reads hR
      have N21 := Aside0.mk (new_row hR Ac.out)
      have Aa' := Aside0.mk (Aa.out.below hb)
      clear Aa
      have Aa := Aa'
      clear Aa'
      have Ab' := Aside0.mk (Ab.out.below hb)
      clear Ab
      have Ab := Ab'
      clear Ab'
      have Ac' := Aside0.mk (Ac.out.below hb)
      clear Ac
      have Ac := Ac'
      clear Ac'
      have BW' := Aside0.mk (BW.out.trans (hb.mono BW.out.size))
      clear BW
      have BW := BW'
      clear BW'
      have F12' := Aside0.mk (Kd.C_below F12.out hb)
      clear F12
      have F12 := F12'
      clear F12'
      have F14' := Aside0.mk (Kd.C_below F14.out hb)
      clear F14
      have F14 := F14'
      clear F14'
      have F16' := Aside0.mk (Kd.C_below F16.out hb)
      clear F16
      have F16 := F16'
      clear F16'
      have F19' := Aside0.mk (Kd.C_below F19.out hb)
      clear F19
      have F19 := F19'
      clear F19'
      have G21 := Aside0.mk hC
      clear hC hR hb
      go_wp2_with fail
      have hX := Add_self _ gc bc _ fc Ac.out (by decide)
      refine hX.mono ?_
      clear hX
      rintro e w40 ⟨rfl, hA, hM⟩
      have Aa' := Aside0.mk (Aa.out.mut hM Dac.out.p1 Dac.out.p2 Dac.out.p3 Dac.out.p4)
      have BW' := Aside0.mk (BW.out.trans (hM.below Lc'.out.1 Lc'.out.2 BW.out.size))
      have GL := Aside0.mk (C_same83 G21.out (fun ad e => hM.block ad.block (N21.out ad e).1 (N21.out ad e).2.1 (N21.out ad e).2.2))
      clear Aa Ab Ac BW
      have Aa := Aa'
      have Ac := Aside0.mk hA
      have BW := BW'
      clear hA hM Aa' BW' G21 N21
      rw [gen_len] at GL
      rw [gen_len]
      go_wp2_with fail
      go_loopg [11] 24 (fun gg v11 wr => ∃ (j : Nat), v11 = .int .i64 j ∧ j ≤ 24 ∧ 24 - j ≤ gg ∧ wr = w40)
      case atStart => exact ⟨0, rfl, Nat.zero_le _, by omega, rfl⟩
      case round =>
        obtain ⟨j, rfl, hj, hgj, rfl⟩ := hrel
        by_cases hlt : j < 24
        · have hji : (j : Int) < 24 := by omega
          obtain ⟨s, hs⟩ := nm_at hlt
          obtain ⟨adl, rfl, d0, d1⟩ := at_T83 GL.out (j : Int) (by omega) hji
          have hrd : rd_T83 (genL fc nm24) (j : Int) = ⟨s, dec (fc s)⟩ := by
            have h : (genL fc nm24)[j]? = some ⟨s, dec (fc s)⟩ := by unfold genL; rw [List.getElem?_map, hs]; rfl
            unfold rd_T83
            rw [Int.toNat_natCast, List.getD_eq_getElem?_getD, h]; rfl
          rw [hrd, Int.toNat_natCast] at d0
          have hX := Get_calls wr gc bc _ nm24 (addsF fc fc nm24) s Ac.out (nm_small hs)
          have hY := Get_calls wr ga ba _ nm24 fc s Aa.out (nm_small hs)
          rw [val_in hs, nm_has hs, twice_at (nm_has hs)] at hX
          rw [val_in hs, nm_has hs] at hY
          have HX := Aside0.mk hX
          have HY := Aside0.mk hY
          have hw2 : IntKind.u64.wrap (2 * fc s) = (2 * fc s) % 18446744073709551616 := IntKind.wrap_u64 _
          clear hX hY hrd d1 hs
          go_wp2_with fail
          refine HX.out.mono ?_
          rintro e w41 ⟨rfl, rfl⟩
          go_wp2_with fail
          refine HY.out.mono ?_
          rintro e w42 ⟨rfl, rfl⟩
          go_wp2
          go_roundg (24 - (j + 1))
          case measure => omega
          case rel => exact ⟨j + 1, by go_num, by omega, by omega, rfl⟩
        · have hji : ¬ (j : Int) < 24 := by omega
          go_wp2
          go_ret
          exact ⟨rfl, BW.out⟩
end Go.Proofs.YteddljbdjgdlnaaDoor.St
end
section
namespace Go.Proofs.YteddljbdjgdlnaaDoor.St
open Go.RowKit Go.Proofs.YteddljbdjgdlnaaDoorW.PrintWords Go.Proofs.YteddljbdjgdlnaaDoorW.PrintLast Go.Proofs.YteddljbdjgdlnaaDoorW.PrintMore Go.WideMaps Go.Proofs.YteddljbdjgdlnaaDoor.XSb
set_option linter.unusedVariables false
set_option linter.unusedSimpArgs false
theorem great15 (kind : Int) (l : List ByteArray) (flags exp : Int) (value : ByteArray) (cas delta : Int) (quiet : Bool) (hl : l.length ≤ 4611686018427387904) : ∀ (d i : Nat) (n : Int), i + d = l.length → ∃ r, (∀ k, d < k → tallboylaw15_Great.l0 k n (i : Int) kind l flags exp value cas delta quiet = some r) ∧ (r = false → l.length ≤ 100) := by
  intro d
  induction d with
  | zero =>
    intro i n hi
    refine ⟨if n ≥ 10000 then true else decide ((l.length : Int) > 100), fun k hk => ?_, fun h => ?_⟩
    · obtain ⟨k, rfl⟩ : ∃ m, k = m + 1 := ⟨k - 1, by omega⟩
      unfold tallboylaw15_Great.l0
      rw [if_neg (by omega)]
      split <;> rfl
    · split at h
      · cases h
      · have := of_decide_eq_false h; omega
  | succ d ih =>
    intro i n hi
    by_cases hn : n < 10000
    · obtain ⟨r, h1, h2⟩ := ih (i + 1) (wrap64 (n + ((rdOf ByteArray.empty l (i : Int)).size : Int))) (by omega)
      refine ⟨r, fun k hk => ?_, h2⟩
      obtain ⟨k, rfl⟩ : ∃ m, k = m + 1 := ⟨k - 1, by omega⟩
      unfold tallboylaw15_Great.l0
      rw [if_pos (by omega), if_pos hn, if_pos (by omega), show wrap64 ((i : Int) + 1) = ((i + 1 : Nat) : Int) from by unfold wrap64; omega]
      exact h1 k (by omega)
    · refine ⟨true, fun k hk => ?_, fun h => by cases h⟩
      obtain ⟨k, rfl⟩ : ∃ m, k = m + 1 := ⟨k - 1, by omega⟩
      unfold tallboylaw15_Great.l0
      rw [if_pos (by omega), if_neg hn, if_pos (by omega)]
theorem great18 (code n0 : Int) (l : List S141) (hl : l.length ≤ 4611686018427387904) : ∀ (d i : Nat) (n : Int), i + d = l.length → ∃ r, ∀ k, d < k → tallboylaw18_Great.l0 k n (i : Int) code l n0 = some r := by
  intro d
  induction d with
  | zero =>
    intro i n hi
    refine ⟨decide (n ≥ 20000), fun k hk => ?_⟩
    obtain ⟨k, rfl⟩ : ∃ m, k = m + 1 := ⟨k - 1, by omega⟩
    unfold tallboylaw18_Great.l0
    rw [if_neg (by omega)]
  | succ d ih =>
    intro i n hi
    by_cases hn : n < 20000
    · obtain ⟨r, h1⟩ := ih (i + 1) (wrap64 ((wrap64 ((wrap64 (n + 1)) + (((rd_T141 l (i : Int)).f0).size : Int))) + (((rd_T141 l (i : Int)).f2).size : Int))) (by omega)
      refine ⟨r, fun k hk => ?_⟩
      obtain ⟨k, rfl⟩ : ∃ m, k = m + 1 := ⟨k - 1, by omega⟩
      unfold tallboylaw18_Great.l0
      rw [if_pos (by omega), if_pos hn, if_pos (by omega), show wrap64 ((i : Int) + 1) = ((i + 1 : Nat) : Int) from by unfold wrap64; omega]
      exact h1 k (by omega)
    · refine ⟨decide (n ≥ 20000), fun k hk => ?_⟩
      obtain ⟨k, rfl⟩ : ∃ m, k = m + 1 := ⟨k - 1, by omega⟩
      unfold tallboylaw18_Great.l0
      rw [if_pos (by omega), if_neg hn]
theorem great25 (l0 : List X) (hl : l0.length ≤ 200) (hk : ∀ x ∈ l0, x.f1.f1.length ≤ 4611686018427387904 ∧ x.f3.f1.length ≤ 4611686018427387904) : ∀ (d i : Nat), i + d = l0.length →
    ∃ r K, (∀ k, K ≤ k → tallboylaw25_Great.l0 k l0 (i : Int) = some r) ∧ (r = false → ∀ x ∈ l0.drop i, x.f1.f1.length ≤ 100 ∧ x.f4.length ≤ 100) := by
  intro d
  induction d with
  | zero =>
    intro i hi
    refine ⟨false, 1, fun k hk => ?_, fun _ x hx => ?_⟩
    · obtain ⟨k, rfl⟩ : ∃ m, k = m + 1 := ⟨k - 1, by omega⟩
      unfold tallboylaw25_Great.l0
      rw [if_neg (by omega)]
    · rw [List.drop_of_length_le (by omega)] at hx
      cases hx
  | succ d ih =>
    intro i hi
    have hlt : i < l0.length := by omega
    have hrd : rd_T42 l0 (i : Int) = l0[i] := by
      unfold rd_T42
      rw [Int.toNat_natCast, List.getD_eq_getElem?_getD, List.getElem?_eq_getElem hlt]; rfl
    have hm := hk l0[i] (List.getElem_mem hlt)
    obtain ⟨r1, h1, h1s⟩ := great15 l0[i].f1.f0 l0[i].f1.f1 l0[i].f1.f2 l0[i].f1.f3 l0[i].f1.f4 l0[i].f1.f5 l0[i].f1.f6 l0[i].f1.f7 hm.1 l0[i].f1.f1.length 0 (l0[i].f1.f4.size : Int) (by omega)
    obtain ⟨r2, h2⟩ := great18 l0[i].f3.f0 l0[i].f3.f2 l0[i].f3.f1 hm.2 l0[i].f3.f1.length 0 0 (by omega)
    obtain ⟨r, K, h3, h3s⟩ := ih (i + 1) (by omega)
    refine ⟨if r1 = true then true else if r2 = true then true else if (l0[i].f4.length : Int) > 100 then true else r, K + l0[i].f1.f1.length + l0[i].f3.f1.length + 2, fun k hk => ?_, fun h => ?_⟩
    · obtain ⟨k, rfl⟩ : ∃ m, k = m + 1 := ⟨k - 1, by omega⟩
      unfold tallboylaw25_Great.l0
      rw [if_pos (by omega), if_pos (by omega), hrd]
      rw [show tallboylaw15_Great.f k l0[i].f1.f0 l0[i].f1.f1 l0[i].f1.f2 l0[i].f1.f3 l0[i].f1.f4 l0[i].f1.f5 l0[i].f1.f6 l0[i].f1.f7 = some r1 from h1 k (by omega)]
      rw [show tallboylaw18_Great.f k l0[i].f3.f0 l0[i].f3.f1 l0[i].f3.f2 = some r2 from h2 k (by omega)]
      rw [show wrap64 ((i : Int) + 1) = ((i + 1 : Nat) : Int) from by unfold wrap64; omega, h3 k (by omega)]
      simp only [Option.bind_some]
      split
      · rfl
      · split
        · rfl
        · split <;> rfl
    · split at h
      · cases h
      · rename_i hr1
        split at h
        · cases h
        · split at h
          · cases h
          · rename_i hd
            intro x hx
            rw [List.drop_eq_getElem_cons hlt] at hx
            rcases List.mem_cons.1 hx with rfl | hx
            · exact ⟨h1s (by simpa using hr1), by omega⟩
            · exact h3s h x hx
theorem great_all (l0 : List X) (hk : ∀ x ∈ l0, x.f1.f1.length ≤ 4611686018427387904 ∧ x.f3.f1.length ≤ 2932031007317) : ∃ k r, tallboylaw25_Great.f k l0 = some r ∧ (r = false → Small l0) := by
  by_cases hl : l0.length ≤ 200
  · obtain ⟨r, K, h1, h2⟩ := great25 l0 hl (fun x hx => ⟨(hk x hx).1, by have := (hk x hx).2; omega⟩) l0.length 0 (by omega)
    refine ⟨K, r, ?_, fun h => ⟨by omega, fun x hx => ?_⟩⟩
    · unfold tallboylaw25_Great.f
      rw [if_neg (by omega)]
      exact h1 K (Nat.le_refl _)
    · have h3 := h2 h x (by rw [List.drop_zero]; exact hx)
      exact ⟨by omega, (hk x hx).2, by omega⟩
  · refine ⟨0, true, ?_, fun h => by cases h⟩
    unfold tallboylaw25_Great.f
    rw [if_pos (by omega)]
end Go.Proofs.YteddljbdjgdlnaaDoor.St
end
section
namespace Go.Proofs.YteddljbdjgdlnaaDoor
open Go.RowKit Go.Proofs.YteddljbdjgdlnaaDoorW.PrintWords

def Sm (P : Program) (t : TypeId) {H : Type} (d : DataW H) : Prop := ∀ n ∈ DataW.weights P t d, n ≤ reachBytes
theorem weights_mem_all {H : Type} {P : Program} {e : TypeId} {d : DataW H} {n : Nat} (hn : n ∈ d.weights P e) : ∀ {l : List (DataW H)}, d ∈ l → n ∈ DataW.weightsAll P e l
  | x :: l, h => by
    rw [DataW.weightsAll, List.mem_append]
    rcases List.mem_cons.1 h with rfl | h
    · exact Or.inl hn
    · exact Or.inr (weights_mem_all hn h)
def OpensW (P : Program) (t : TypeId) {α : Type} (d : Kd α) (Q : α → Prop) : Prop :=
  ∀ (H : Type) (enc : TypeId × Value → H) (w : World) (base : Nat) (spare : Nat → Bool) (held : Bool) (fuel : Nat) (cs : List Value) (x : DataW H × List MemPlace),
    DataW.trod enc P w base spare held fuel t cs = some x → Sm P t x.1 → ∃ v, d.K w v cs ∧ Q v
def OpensWAt (P : Program) (fs : List Field) (off : Nat) {α : Type} (d : Kd α) (Q : α → Prop) : Prop :=
  ∀ (H : Type) (enc : TypeId × Value → H) (w : World) (base : Nat) (spare : Nat → Bool) (held : Bool) (n : Nat) (cs : List Value), cs.length = off + d.sz →
    (∀ f ∈ fs, ∃ x, DataW.trod enc P w base spare held n f.type ((cs.drop f.offset).take (P.cellsOf f.type)) = some x ∧ Sm P f.type x.1) → ∃ v, d.K w v (cs.drop off) ∧ Q v
section
variable {P : Program} {t e : TypeId} {α β : Type} {d : Kd α} {d0 : Kd α} {d1 : Kd β} {Q : α → Prop} {Q1 : β → Prop}
theorem opensW_int {k : IntKind} (ht : P.underlying t = some (.int k)) : OpensW P t (Kd.int k) (fun n => (Lit.int k n).wf = true) := by
  intro H enc w base spare held fuel cs x h hw_
  obtain ⟨n, rfl, _, hw⟩ := DataW.trod_int ht h
  exact ⟨n, rfl, hw⟩
theorem opensW_bool (ht : P.underlying t = some .bool) : OpensW P t Kd.bool (fun _ => True) := by
  intro H enc w base spare held fuel cs x h hw_
  obtain ⟨n, rfl, _⟩ := DataW.trod_bool ht h
  exact ⟨n, rfl, trivial⟩
theorem opensW_string (ht : P.underlying t = some .string) : OpensW P t Kd.string (fun s => s.size ≤ reachBytes) := by
  intro H enc w base spare held fuel cs x h hw_
  obtain ⟨s, rfl, rfl, _⟩ := DataW.trod_string ht h
  have := hw_ s.data.toList.length (by simp [DataW.weights])
  rw [Array.length_toList] at this
  exact ⟨s, rfl, this⟩
theorem opensW_iso {γ : Type} (h : OpensW P t d Q) (f : γ → α) (g : α → γ) (hg : ∀ a, f (g a) = a) : OpensW P t (Kd.iso d f) (fun b => Q (f b)) := by
  intro H enc w base spare held fuel cs x hx hw_
  obtain ⟨v, hv, hq⟩ := h H enc w base spare held fuel cs x hx hw_
  exact ⟨g v, (show d.K w (f (g v)) cs by rw [hg]; exact hv), show Q (f (g v)) by rw [hg]; exact hq⟩
theorem opensWAt_one {f : Field} {off : Nat} (ho : f.offset = off) (hc : P.cellsOf f.type = d.sz) (h : OpensW P f.type d Q) : OpensWAt P [f] off d Q := by
  intro H enc w base spare held n cs hl hf
  obtain ⟨x, hx, hs_⟩ := hf f List.mem_cons_self
  rw [ho, hc, List.take_of_length_le (by rw [List.length_drop]; omega)] at hx
  exact h H enc w base spare held n _ x hx hs_
theorem opensWAt_cons {f : Field} {fs : List Field} {off : Nat} (ho : f.offset = off) (hc : P.cellsOf f.type = d0.sz) (h0 : OpensW P f.type d0 Q) (h1 : OpensWAt P fs (off + d0.sz) d1 Q1) :
    OpensWAt P (f :: fs) off (Kd.pair d0 d1) (fun v => Q v.1 ∧ Q1 v.2) := by
  intro H enc w base spare held n cs hl hf
  have hsz : (Kd.pair d0 d1).sz = d0.sz + d1.sz := rfl
  obtain ⟨x, hx, hs_⟩ := hf f List.mem_cons_self
  rw [ho, hc] at hx
  obtain ⟨a, ha, hq⟩ := h0 H enc w base spare held n _ x hx hs_
  obtain ⟨b, hb, hq1⟩ := h1 H enc w base spare held n cs (by omega) (fun g hg => hf g (List.mem_cons_of_mem _ hg))
  refine ⟨(a, b), ⟨_, _, ?_, ha, hb⟩, hq, hq1⟩
  rw [← List.drop_drop]
  exact (List.take_append_drop _ _).symm
theorem opensW_struct {fs : List Field} (ht : P.underlying t = some (.struct fs.toArray)) (hc : P.cellsOf t = d.sz) (h : OpensWAt P fs 0 d Q) : OpensW P t d Q := by
  intro H enc w base spare held fuel cs x hx hw_
  obtain ⟨xs, n, _, rfl, hl, hlen, hf⟩ := DataW.trod_struct ht hx
  have := h H enc w base spare held n cs (by omega) (by
    intro f hm
    obtain ⟨i, hi, rfl⟩ := List.mem_iff_getElem.1 hm
    have e := hf i fs[i] (by rw [List.getElem?_toArray, List.getElem?_eq_getElem hi])
    rw [List.size_toArray] at hlen
    rw [List.getElem?_eq_getElem (by omega)] at e
    refine ⟨_, e, fun m hm => hw_ m ?_⟩
    unfold DataW.weights
    simp only [ht]
    exact DataW.weights_mem_each (j := i) (t := fs[i].type) (d := xs[i].1) (by rw [List.getElem?_map, List.getElem?_eq_getElem hi]; rfl) (by rw [List.getElem?_map, List.getElem?_eq_getElem (by omega)]; rfl) m hm)
  simpa using this
theorem listW_of {R : Nat → α → Prop} : ∀ n : Nat, (∀ i, i < n → ∃ v, R i v) → ∃ xs : List α, xs.length = n ∧ ∀ i v, xs[i]? = some v → R i v
  | 0, _ => ⟨[], rfl, fun i v h => by simp at h⟩
  | n + 1, h => by
    obtain ⟨xs, hl, hx⟩ := listW_of n fun i hi => h i (by omega)
    obtain ⟨v, hv⟩ := h n (by omega)
    refine ⟨xs ++ [v], by rw [List.length_append, hl]; rfl, fun i u hu => ?_⟩
    rcases Nat.lt_or_ge i xs.length with hi | hi
    · rw [List.getElem?_append_left hi] at hu; exact hx i u hu
    · rw [List.getElem?_append_right hi] at hu
      rcases Nat.eq_zero_or_pos (i - xs.length) with h0 | h0
      · rw [h0] at hu
        obtain rfl : v = u := by simpa using hu
        rw [show i = n from by omega]; exact hv
      · rw [List.getElem?_eq_none (by simp; omega)] at hu; cases hu
theorem opensW_slice (ht : P.underlying t = some (.slice e)) (hc : P.cellsOf e = d.sz) (h : OpensW P e d Q) : OpensW P t (Kd.slice e d) (fun xs => (∀ x ∈ xs, Q x) ∧ xs.length * P.bytesOf e ≤ reachBytes) := by
  intro H enc w base spare held fuel cs x hx hw_
  rcases DataW.trod_slice ht hx with ⟨rfl, _⟩ | ⟨a, len, cap, elems, rest, n, _, rfl, rfl, hb, hl, hm, hlen, hel, _, _⟩
  · exact ⟨[], ⟨none, 0, rfl, Nat.le_refl _, rfl, Nat.zero_le _, fun h => absurd h (Nat.lt_irrefl 0)⟩, fun x hx => absurd hx List.not_mem_nil, by show 0 * _ ≤ _; omega⟩
  · obtain ⟨xs, hxl, hxs⟩ := listW_of (R := fun i v => (∃ c : List Value, c.length = d.sz ∧ d.K w v c ∧ ∀ j u, c[j]? = some u → w.cell? (a.add (i * d.sz + j)) = some u) ∧ Q v) len (by
      intro i hi
      have e1 := hel i hi
      rw [List.getElem?_eq_getElem (by omega)] at e1
      obtain ⟨c, hcs, hcd⟩ := Option.bind_eq_some_iff.1 e1
      obtain ⟨v, hv, hq⟩ := h H enc w base spare held n c _ hcd (fun m hm => hw_ m (by
        unfold DataW.weights
        simp only [ht]
        rw [List.mem_cons, List.mem_append]
        exact Or.inr (Or.inl (weights_mem_all hm (List.mem_map.2 ⟨_, List.getElem_mem _, rfl⟩)))))
      obtain ⟨q1, q2, q3⟩ := World.cells?_some hcs
      refine ⟨v, ⟨c, by rw [← hc]; exact q2, hv, fun j u hu => ?_⟩, hq⟩
      have hj : j < P.cellsOf e := by
        rcases Nat.lt_or_ge j c.length with h' | h'
        · omega
        · rw [List.getElem?_eq_none h'] at hu; cases hu
      have := q3 j hj
      rw [Addr.add_add, hc] at this
      rw [this, hu])
    refine ⟨xs, ⟨some a, cap, by rw [hxl], by omega, rfl, by rw [hxl]; unfold maxLen at hm; omega, fun _ => ⟨a, rfl, fun j p hp => (hxs j p hp).1⟩⟩, fun x hx => ?_, ?_⟩
    · obtain ⟨i, hi, rfl⟩ := List.mem_iff_getElem.1 hx
      exact (hxs i _ (List.getElem?_eq_getElem hi)).2
    · have := hw_ ((elems.length + rest.length) * P.bytesOf e) (by unfold DataW.weights; simp [ht])
      refine Nat.le_trans (Nat.mul_le_mul_right _ ?_) this
      omega
end
end Go.Proofs.YteddljbdjgdlnaaDoor
end
section
namespace Go.Proofs.YteddljbdjgdlnaaDoor.statParts
open Go.ChangeShapes Go.WideShapes Go.ChangeAt Go.RowKit
open Go.ChangeMaps (open_string shut_string)

theorem own : ownKnob Tryd.prog.godebug = none := by kernel_rfl
theorem laid_met (os : Os) (args : Array Value) : laidMetH Tryd.prog Rows.statPartsRow.laid ((World.laidAll Tryd.prog os Rows.statPartsRow.laid).forCall (fun _ _ => 0) ⟨#[], args, []⟩).memory := by
  rw [MakeChecks.laidMetH_plain _ _ _ (by kernel_rfl)]
  exact laidMet_laidAll _ (by kernel_rfl) (by kernel_rfl)
theorem shaped (os : Os) (args : Array Value) : ((World.laidAll Tryd.prog os Rows.statPartsRow.laid).forCall (fun _ _ => 0) ⟨#[], args, []⟩).Shaped Tryd.prog :=
  World.shaped_of_ZipB (by kernel_rfl) (by kernel_rfl)

theorem laidOut : laidOutB Tryd.prog = true := by kernel_rfl
theorem vars_of {W : World} (h : laidMetH Tryd.prog Rows.statPartsRow.laid W) (hsh : W.ShapedOpen Tryd.prog) : Vars W := by
  rw [MakeChecks.laidMetH_plain _ _ _ (by kernel_rfl)] at h
  exact ⟨trivial, Lib.tabIs_of_head gPow (by kernel_rfl) Tryd.underlying188 Tryd.underlying28 (by kernel_rfl) (by kernel_rfl) h.tail.tail,
    cell_of_shapedOpen_int (P := Tryd.prog) (g := 0) (t := 3) (zero := #[.int .i64 0]) hsh (of_decide_eq_true (by kernel_rfl)) (by kernel_rfl) rfl (by kernel_rfl) (by kernel_rfl) Tryd.underlying3⟩
open Go.Proofs.YteddljbdjgdlnaaDoorW.PrintWords
theorem opensW_mono {P : Program} {t : TypeId} {α : Type} {d : Kd α} {Q Q1 : α → Prop} (h : OpensW P t d Q) (hq : ∀ x, Q x → Q1 x) : OpensW P t d Q1 := by
  intro H enc w base spare held fuel cs x hx hs
  obtain ⟨v, hv, hqv⟩ := h H enc w base spare held fuel cs x hx hs
  exact ⟨v, hv, hq v hqv⟩
theorem opens_cmd : OpensW Tryd.prog 36 XSb.k36 (fun x => x.f1.length * Tryd.prog.bytesOf 9 ≤ reachBytes) :=
  opensW_mono (opensW_iso (opensW_struct Tryd.underlying36 (by kernel_rfl) (opensWAt_cons rfl (by kernel_rfl) (opensW_int Tryd.underlying3) (opensWAt_cons rfl (by kernel_rfl) (opensW_slice Tryd.underlying33 (by kernel_rfl) (opensW_string Tryd.underlying9)) (opensWAt_cons rfl (by kernel_rfl) (opensW_int Tryd.underlying34) (opensWAt_cons rfl (by kernel_rfl) (opensW_int Tryd.underlying2) (opensWAt_cons rfl (by kernel_rfl) (opensW_string Tryd.underlying9) (opensWAt_cons rfl (by kernel_rfl) (opensW_int Tryd.underlying28) (opensWAt_cons rfl (by kernel_rfl) (opensW_int Tryd.underlying28) (opensWAt_one rfl (by kernel_rfl) (opensW_bool Tryd.underlying4))))))))))
    _ (fun a => ⟨a.1, a.2.1, a.2.2.1, a.2.2.2.1, a.2.2.2.2.1, a.2.2.2.2.2.1, a.2.2.2.2.2.2.1, a.2.2.2.2.2.2.2⟩) (fun _ => rfl)) (fun x h => h.2.1.2)
theorem opens_hit : OpensW Tryd.prog 141 XSb.k141 (fun _ => True) :=
  opensW_mono (opensW_iso (opensW_struct Tryd.underlying141 (by kernel_rfl) (opensWAt_cons rfl (by kernel_rfl) (opensW_string Tryd.underlying9) (opensWAt_cons rfl (by kernel_rfl) (opensW_int Tryd.underlying34) (opensWAt_cons rfl (by kernel_rfl) (opensW_string Tryd.underlying9) (opensWAt_one rfl (by kernel_rfl) (opensW_int Tryd.underlying28))))))
    _ (fun a => ⟨a.1, a.2.1, a.2.2.1, a.2.2.2⟩) (fun _ => rfl)) (fun x h => trivial)
theorem opens_res : OpensW Tryd.prog 39 XSb.k39 (fun x => x.f1.length * Tryd.prog.bytesOf 141 ≤ reachBytes) :=
  opensW_mono (opensW_iso (opensW_struct Tryd.underlying39 (by kernel_rfl) (opensWAt_cons rfl (by kernel_rfl) (opensW_int Tryd.underlying3) (opensWAt_cons rfl (by kernel_rfl) (opensW_slice Tryd.underlying37 (by kernel_rfl) opens_hit) (opensWAt_one rfl (by kernel_rfl) (opensW_int Tryd.underlying28)))))
    _ (fun a => ⟨a.1, a.2.1, a.2.2⟩) (fun _ => rfl)) (fun x h => h.2.1.2)
theorem opens_drop : OpensW Tryd.prog 104 XSb.k104 (fun _ => True) :=
  opensW_mono (opensW_iso (opensW_struct Tryd.underlying104 (by kernel_rfl) (opensWAt_cons rfl (by kernel_rfl) (opensW_string Tryd.underlying9) (opensWAt_one rfl (by kernel_rfl) (opensW_int Tryd.underlying3))))
    _ (fun a => ⟨a.1, a.2⟩) (fun _ => rfl)) (fun x h => trivial)
theorem opens_event : OpensW Tryd.prog 42 XSb.k42 (fun x => x.f1.f1.length * Tryd.prog.bytesOf 9 ≤ reachBytes ∧ x.f3.f1.length * Tryd.prog.bytesOf 141 ≤ reachBytes) :=
  opensW_mono (opensW_iso (opensW_struct Tryd.underlying42 (by kernel_rfl) (opensWAt_cons rfl (by kernel_rfl) (opensW_int Tryd.underlying3) (opensWAt_cons rfl (by kernel_rfl) opens_cmd (opensWAt_cons rfl (by kernel_rfl) (opensW_int Tryd.underlying2) (opensWAt_cons rfl (by kernel_rfl) opens_res (opensWAt_one rfl (by kernel_rfl) (opensW_slice Tryd.underlying40 (by kernel_rfl) opens_drop)))))))
    _ (fun a => ⟨a.1, a.2.1, a.2.2.1, a.2.2.2.1, a.2.2.2.2⟩) (fun _ => rfl)) (fun x h => ⟨h.2.1, h.2.2.2.1⟩)
theorem opens_arg : OpensW Tryd.prog 22 (Kd.slice 42 XSb.k42) (fun xs => (∀ x ∈ xs, x.f1.f1.length * Tryd.prog.bytesOf 9 ≤ reachBytes ∧ x.f3.f1.length * Tryd.prog.bytesOf 141 ≤ reachBytes) ∧ xs.length * Tryd.prog.bytesOf 42 ≤ reachBytes) :=
  opensW_slice Tryd.underlying22 (by kernel_rfl) opens_event
theorem bytes_string : Tryd.prog.bytesOf 9 = 16 := by kernel_rfl
theorem bytes_hit : Tryd.prog.bytesOf 141 = 48 := by kernel_rfl
theorem fits {l : List (XSb.S42)} (h : ∀ x ∈ l, x.f1.f1.length * Tryd.prog.bytesOf 9 ≤ reachBytes ∧ x.f3.f1.length * Tryd.prog.bytesOf 141 ≤ reachBytes) : ∀ x ∈ l, x.f1.f1.length ≤ 4611686018427387904 ∧ x.f3.f1.length ≤ 2932031007317 := by
  intro x hx
  obtain ⟨h1, h2⟩ := h x hx
  rw [bytes_string] at h1
  rw [bytes_hit] at h2
  unfold reachBytes at h1 h2
  omega
set_option maxRecDepth 100000 in
theorem lifted (os : Os) (started : os.Started) (H : Type) (enc : TypeId × Value → H) (F : Stop.Interp) :
    ReturnsInHanded {} Tryd.checked os 6 .any ((OpenSpec.ofChange Rows.statPartsSpec).preRow enc Tryd.prog Tryd.f6 Rows.statPartsRow.domain false Rows.statPartsRow.laid) (((OpenSpec.ofChange Rows.statPartsSpec).at F).post enc Tryd.prog Tryd.f6 false true false false) := by
  refine returnsInHanded_of_row (C := Tryd.checked) (s := OpenSpec.ofChange Rows.statPartsSpec) own started (by kernel_rfl) Tryd.func6
    (ChangeSpec.witness_shaped (enc := enc) (C := Tryd.checked) (os := os) (s := Rows.statPartsSpec) (X := fun w _ => laidMetH Tryd.prog Rows.statPartsRow.laid w) false (World.laidAll Tryd.prog os Rows.statPartsRow.laid) #[.slice none 0 0, .int .i64 0] 8 (World.laidAll_os _ _ _)
      (shaped os _) (by kernel_rfl) (by kernel_rfl) (by kernel_rfl) (laid_met os _)) ?_
  intro W base args ds gs before hval0 hW _ _ hsz0 hL hsh _
  have hsz : (DataW.weightsEach Tryd.prog (Tryd.f6.params.toList ++ Rows.statPartsSpec.plain.varTypes Tryd.prog) (ds ++ gs)).all (· ≤ reachBytes) = true := hsz0
  have hval : ∀ (j : Nat) t v, Tryd.f6.params[j]? = some t → args[j]? = some v → Value.okWide Tryd.prog W .any base t v := hval0
  have hW' := hW
  obtain ⟨p, q, hA0, hV, rfl, hfz, hnd⟩ := hW
  have hA : DataW.TrodAll enc Tryd.prog W 0 (fun _ => true) true Tryd.f6.params.toList args.toList ds p := hA0
  rw [Tryd.params6] at hA hval hsz
  obtain ⟨v0, vs0, d0, ds0, p0, q0, hargs, rfl, rfl, h0, r0⟩ := trodAll_cons hA
  obtain ⟨v1, vs1, d1, ds1, p1, q1, rfl, rfl, rfl, h1, r1⟩ := trodAll_cons r0
  obtain ⟨rfl, rfl, rfl⟩ := trodAll_nil r1
  obtain rfl : args = #[v0, v1] := by cases args; simp_all
  obtain ⟨rfl, rfl⟩ := trodVars_none hV
  have k0 := h0
  have k1 := h1
  have lt0 : ∀ x ∈ p0, x.block < W.heap.size := by obtain ⟨m, hm⟩ := k0; exact DataW.trod_lt m _ _ _ hm
  have lt1 : ∀ x ∈ p1, x.block < W.heap.size := by obtain ⟨m, hm⟩ := k1; exact DataW.trod_lt m _ _ _ hm
  obtain ⟨A, n, c, rfl⟩ := okWide_slice Tryd.underlying22 (hval 0 22 v0 rfl rfl)
  obtain ⟨at_, rfl, rfl, rfl, y1⟩ := open_int Tryd.underlying3 (hval 1 3 v1 rfl rfl) h1
  have hw0 : Sm Tryd.prog 22 d0 := fun m hm => by
    have := List.all_eq_true.1 hsz m (DataW.weights_mem_each (j := 0) (t := 22) (d := d0) rfl rfl m hm)
    simpa using this
  obtain ⟨fuel, hf⟩ := h0
  obtain ⟨l, hK, hfit, -⟩ := opens_arg H enc W 0 _ true fuel _ _ hf hw0
  obtain ⟨A', c', e0, hc, hC⟩ := hK
  have e1 : Value.slice A n c = .slice A' l.length c' := List.head_eq_of_cons_eq e0
  injection e1 with e1 e2 e3
  subst e1 e2 e3
  clear hA0 hval0 hsz0 hsz hf e0 hw0
  have hv : Vars W := vars_of hL hsh
  obtain ⟨kg, gr, hgr, hsm⟩ := St.great_all l (fits hfit)
  refine (St.parts_calls W hv A l c at_ hc hC kg gr hgr hsm).mono fun e W' ⟨he, bel⟩ => ?_
  subst he
  exact ⟨_, rfl, _, _, _, [], _, [], hW', trodAll_mk1 (shut_bool Tryd.underlying4 _), (trodAll_cons_mk (Below.trod laidOut (by kernel_rfl) (of_decide_eq_true (by kernel_rfl)) k0 bel lt0) (trodAll_cons_mk (Below.trod laidOut (by kernel_rfl) (of_decide_eq_true (by kernel_rfl)) k1 bel lt1) trodAll_mk0)), rfl, bel.frame _, fun h => by cases h⟩

theorem said : Rows.StatPartsSaid :=
  OpenClaim.holds_of_cond 6 Tryd.f6 rfl rfl rfl rfl rfl rfl rfl ⟨rfl, rfl, rfl, rfl, rfl⟩ rfl rfl rfl rfl rfl (by kernel_rfl) Tryd.func6 (by kernel_rfl)
    (of_decide_eq_true (by kernel_rfl)) (by unfold Func.isWrapper; first | (rw [if_pos (by decide +kernel)]; kernel_rfl) | (rw [if_neg (by decide +kernel)]; exact ⟨rfl, rfl⟩))
    (fun os started H enc _ F => by rw [OpenClaim.pre_eq_preRow]; exact lifted os started H enc F)

theorem plain (f : FuncId) (fn : Func) (hf : Tryd.pinned.checked.prog.funcNamed "tallboy/tallboylaw32.StatParts" = some f) (hfn : Tryd.pinned.checked.prog.funcs[f]? = some fn) :
    false = Tryd.pinned.checked.prog.looks [] ∧ ∀ (j : Nat) t, fn.params[j]? = some t → Tryd.pinned.checked.prog.wantsStandIn t = false := by
  obtain rfl : f = 6 := Option.some.inj ((show Tryd.prog.funcNamed "tallboy/tallboylaw32.StatParts" = some 6 by kernel_rfl).symm.trans hf) |>.symm
  obtain rfl : fn = Tryd.f6 := (Option.some.inj (Tryd.func6.symm.trans hfn)).symm
  refine ⟨by kernel_rfl, fun j t ht => ?_⟩
  rw [Tryd.params6] at ht
  have hm := Array.mem_of_getElem? ht
  have hall : (Tryd.f6.params.toList.all fun u => !Tryd.prog.wantsStandIn u) = true := by kernel_rfl
  rw [Tryd.params6] at hall
  exact (show Tryd.prog.wantsStandIn t = false by simpa using List.all_eq_true.1 hall t (by simpa using hm))

theorem card : Rows.StatPartsCardSaid :=
  Claim7.holds_tied_plain_at .later [] _ _ _ _ said (fun _ h => by cases h) (by kernel_rfl) (fun _ h => by cases h) statParts_row_tie rfl ⟨rfl, rfl⟩ (by kernel_rfl) rfl plain (by kernel_rfl)
end Go.Proofs.YteddljbdjgdlnaaDoor.statParts
namespace Go.Proofs.YteddljbdjgdlnaaDoor
theorem statParts_card : Rows.StatPartsCardSaid := statParts.card
#print axioms statParts_card
end Go.Proofs.YteddljbdjgdlnaaDoor
end
