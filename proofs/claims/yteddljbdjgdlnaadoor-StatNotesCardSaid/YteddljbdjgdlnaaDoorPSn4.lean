/- Put together by wip/pack.py (this session's own program) out of this session's texts; a kit's tool laid the words and the shelf, of which only what is used stands here. Lean checks it. -/
import Derived.Test.YteddljbdjgdlnaaDoorPSn3
import Derived.Deep.RegionHeld3
import Derived.Deep.DeepCutAuto
import Derived.Deep.CutBlock
import Derived.Lib.TrimByte
section
namespace Go.Proofs.YteddljbdjgdlnaaDoor.St
open Go.RowKit Go.Proofs.YteddljbdjgdlnaaDoorW.PrintWords Go.Proofs.YteddljbdjgdlnaaDoorW.PrintLast Go.Proofs.YteddljbdjgdlnaaDoorW.PrintMore Go.WideMaps Go.Proofs.YteddljbdjgdlnaaDoor.XSb
set_option linter.unusedVariables false
set_option linter.unusedSimpArgs false
attribute [local go_sem ↓] Go.wp_at_zero Go.wp_at_succ
structure Ou (w wr : World) (l0 : List X) (j : Nat) (v : Value) : Prop where
  row : Kd.R k99 99 wr w.heap.size (fun _ => True) v ((l0.take j).map toY)
  bel : Below w.heap.size w wr
theorem info_drop : (Tryd.prog.info? 144).map (fun i => (i.zero, i.size, i.bytes)) = some (some (.agg #[(.string ⟨#[]⟩), (.int .i64 0)]), 2, 24) := by kernel_rfl
set_option maxHeartbeats 16000000 in
set_option maxRecDepth 100000 in
theorem To_calls (w : World) (A0 : Option Addr) (l0 : List X) (c0 : Nat) (hC0 : Kd.C k42 w A0 l0.length l0) (hc0 : l0.length ≤ c0) (hl : l0.length ≤ 1000) (hs : ∀ x ∈ l0, x.f1.f1.length ≤ 100000 ∧ x.f3.f1.length ≤ 2932031007317 ∧ x.f4.length ≤ 100000) :
    Calls Tryd.prog 34 #[.slice A0 l0.length c0] w fun e w' => ∃ v, e = .returned v ∧ Kd.R k99 99 w' w.heap.size (fun _ => True) v (l0.map toY) ∧ Below w.heap.size w w' := by
  have HC0 := Aside0.mk hC0
  have HS := Aside0.mk hs
  have O0 : Aside0 (Ou w w l0 0 (.slice none 0 0)) := ⟨⟨Kd.R_nil _ _ _ _ _, Below.refl _ w⟩⟩
  clear hC0 hs
  go_enter Tryd.func34, Tryd.ntmps34
  go_wp2_with fail
  go_loopg [3, 4] l0.length (fun gg v3 v4 wr => ∃ (j : Nat), v4 = .int .i64 j ∧ j ≤ l0.length ∧ l0.length - j ≤ gg ∧ Aside0 (Ou w wr l0 j v3))
  case atStart => exact ⟨0, rfl, Nat.zero_le _, by omega, O0⟩
  case round =>
    clear O0
    obtain ⟨j, rfl, hj, hgj, HO⟩ := hrel
    by_cases hlt : j < l0.length
    · have hji : (j : Int) < (l0.length : Int) := by omega
      have hx : l0[j]? = some (rd_T42 l0 (j : Int)) := by
        unfold rd_T42
        rw [Int.toNat_natCast, List.getD_eq_getElem?_getD, List.getElem?_eq_getElem hlt]; rfl
      obtain ⟨ad, A2, c2, A11, c11, A13, c13, rfl, k0, k1, k2, k3, k4, k5, k6, k7, k8, k9, k10, k11, k12, k13, l2, g2, l11, g11, l13, g13⟩ := at_T42 HC0.out (j : Int) (by omega) hji
      rw [Int.toNat_natCast] at k0 k1 k2 k3 k4 k5 k6 k7 k8 k9 k10 k11 k12 k13
      obtain ⟨x, hxx⟩ : ∃ x, x = rd_T42 l0 (j : Int) := ⟨_, rfl⟩
      rw [← hxx] at hx k0 k1 k2 k3 k4 k5 k6 k7 k8 k9 k10 k11 k12 k13 l2 g2 l11 g11 l13 g13
      have hadl : (ad.add (j * 14)).block < w.heap.size := World.block_lt_of_cell? w _ k0
      have HF := Lib.hid (keep14 (q := ad.add (j * 14)) (keepB HO.out.bel hadl) ⟨k0, k1, k2, k3, k4, k5, k6, k7, k8, k9, k10, k11, k12, k13⟩)
      clear k0 k1 k2 k3 k4 k5 k6 k7 k8 k9 k10 k11 k12 k13
      obtain ⟨k0, k1, k2, k3, k4, k5, k6, k7, k8, k9, k10, k11, k12, k13⟩ := HF.out
      have hsx := HS.out x (List.mem_of_getElem? hx)
      obtain ⟨hs1, hs2, hs3⟩ := hsx
      have HX := Lib.hid hx
      have K2 := Aside0.mk (Kd.C_below g2 HO.out.bel)
      have K11 := Aside0.mk (Kd.C_below g11 HO.out.bel)
      have K13 := Aside0.mk (Kd.C_below g13 HO.out.bel)
      have HOWN := Lib.hid (own_is x.f1 (by omega))
      have HTO := Lib.hid (to18_is x.f3 (by omega))
      clear hx hxx g2 g11 g13
      go_upto_region 5 with fail
      have hadw : (ad.add (j * 14)).block < wr.heap.size := Nat.lt_of_lt_of_le hadl HO.out.bel.size
      have BD := Aside0.mk (Below.refl wr.heap.size wr).drew
      have BA := Aside0.mk ((Below.refl wr.heap.size wr).alloc (Nat.le_refl _) (.cells #[.int .i64 0, .int .i64 0, .slice none 0 0, .int .u32 0, .int .i64 0, .string ⟨#[]⟩, .int .u64 0, .int .u64 0, .bool false, .int .i64 0, .int .i64 0, .slice none 0 0, .int .u64 0, .slice none 0 0] 99)).drew
      clear k0 k1 k2 k3 k4 k5 k6 k7 k8 k9 k10 k11 k12 k13
      have dn9 : 99 ∉ 9 :: Kd.string.E := by decide
      have dn11 : 99 ∉ 135 :: k135.E := by decide
      go_cut [5] (fun v5 wc => ∃ T A3 c3 A4 c4, v5 = .pointer (some ⟨T, 0, none⟩) ∧ Aside0 (Ue wr wc x T (.slice A3 x.f1.f1.length c3) (.slice A4 x.f3.f1.length c4) (.slice none 0 0) []))
      case first =>
        go_region_held3 (fun w' => w'.cell? (ad.add (j * 14)) = some (.int .i64 x.f0) ∧ w'.cell? ⟨(ad.add (j * 14)).block, (ad.add (j * 14)).off + 1, none⟩ = some (.int .i64 x.f1.f0) ∧ w'.cell? ⟨(ad.add (j * 14)).block, (ad.add (j * 14)).off + 2, none⟩ = some (.slice A2 x.f1.f1.length c2) ∧ w'.cell? ⟨(ad.add (j * 14)).block, (ad.add (j * 14)).off + 3, none⟩ = some (.int .u32 x.f1.f2) ∧ w'.cell? ⟨(ad.add (j * 14)).block, (ad.add (j * 14)).off + 4, none⟩ = some (.int .i64 x.f1.f3) ∧ w'.cell? ⟨(ad.add (j * 14)).block, (ad.add (j * 14)).off + 5, none⟩ = some (.string x.f1.f4) ∧ w'.cell? ⟨(ad.add (j * 14)).block, (ad.add (j * 14)).off + 6, none⟩ = some (.int .u64 x.f1.f5) ∧ w'.cell? ⟨(ad.add (j * 14)).block, (ad.add (j * 14)).off + 7, none⟩ = some (.int .u64 x.f1.f6) ∧ w'.cell? ⟨(ad.add (j * 14)).block, (ad.add (j * 14)).off + 8, none⟩ = some (.bool x.f1.f7) ∧ w'.cell? ⟨(ad.add (j * 14)).block, (ad.add (j * 14)).off + 9, none⟩ = some (.int .i64 x.f2) ∧ w'.cell? ⟨(ad.add (j * 14)).block, (ad.add (j * 14)).off + 10, none⟩ = some (.int .i64 x.f3.f0) ∧ w'.cell? ⟨(ad.add (j * 14)).block, (ad.add (j * 14)).off + 11, none⟩ = some (.slice A11 x.f3.f1.length c11) ∧ w'.cell? ⟨(ad.add (j * 14)).block, (ad.add (j * 14)).off + 12, none⟩ = some (.int .u64 x.f3.f2) ∧ w'.cell? ⟨(ad.add (j * 14)).block, (ad.add (j * 14)).off + 13, none⟩ = some (.slice A13 x.f4.length c13))
          ((first | with_reducible exact HF.out | with_reducible exact HF3.out | with_reducible exact HF4.out | with_reducible exact keep14 (keepB BD.out hadw) HF.out | with_reducible exact keep14 (keepB BA.out hadw) HF.out | with_reducible exact keep14 (keepB (BO.out.alloc BO.out.size _) hadw) HF.out | with_reducible exact keep14 (keepB (BT.out.alloc BT.out.size _) hadw) HF.out | with_reducible exact keep14 (keepB (below14 BT.out (Nat.le_refl _)) hadw) HF.out | with_reducible exact keep14 (keepB (below14 BT.out HS3.out) hadw) HF.out | with_reducible exact keep14 (keepB (below14 BT.out HS4.out) hadw) HF.out | with_reducible exact keep14 (keepB (below14 BO.out (Nat.le_refl _)) hadw) HF.out | with_reducible exact keep14 (keepB (below14 BO.out HS3.out) hadw) HF.out | with_reducible exact keep14 (keepB (below14 BO.out HS4.out) hadw) HF.out))
          (first
            | (go_at_call 63; refine (tallboylaw15_Own.calls x.f1.f0 A2 c2 x.f1.f1 x.f1.f2 x.f1.f3 x.f1.f4 x.f1.f5 x.f1.f6 x.f1.f7 _ _ _ _ _ _ _ _ _ (Kd.C_below K2.out (by first | exact BD.out | exact BA.out | exact BT.out | exact BT.out.alloc BT.out.size _)) l2 HOWN.out).mono ?_; rintro e w3 ⟨v2, rfl, hR, hb3⟩; obtain ⟨A3, c3, rfl⟩ := Kd.R_slice hR; (have hB3 : Below wr.heap.size wr w3 := (by first | exact BD.out.trans (hb3.mono BD.out.size) | exact BA.out.trans (hb3.mono BA.out.size) | exact BT.out.trans (hb3.mono BT.out.size) | exact (BT.out.alloc BT.out.size _).trans (hb3.mono (BT.out.alloc BT.out.size (.cells #[.int .i64 0, .int .i64 0, .slice none 0 0, .int .u32 0, .int .i64 0, .string ⟨#[]⟩, .int .u64 0, .int .u64 0, .bool false, .int .i64 0, .int .i64 0, .slice none 0 0, .int .u64 0, .slice none 0 0] 99)).size))); (have R2 := Aside0.mk (R_up hR (by first | exact BD.out.size | exact BA.out.size | exact BT.out.size | exact (BT.out.alloc BT.out.size (.cells #[.int .i64 0, .int .i64 0, .slice none 0 0, .int .u32 0, .int .i64 0, .string ⟨#[]⟩, .int .u64 0, .int .u64 0, .bool false, .int .i64 0, .int .i64 0, .slice none 0 0, .int .u64 0, .slice none 0 0] 99)).size))); (have BO := Aside0.mk hB3); (have HS3 := Lib.hid hB3.size); (have HF3 := Lib.hid (keep14 (keepB hB3 hadw) HF.out)); (first | (have HQ3 := Lib.hid (fresh_block hb3 rfl)) | (have HQ3 := Lib.hid ((hb3.block _ (blk_lt HQ4.out)).trans HQ4.out)) | (have HQ3 := Lib.hid ((hb3.block _ (by rw [size_al]; exact Nat.lt_succ_self _)).trans (heap_alloc_new w4 (.cells #[.int .i64 0, .int .i64 0, .slice none 0 0, .int .u32 0, .int .i64 0, .string ⟨#[]⟩, .int .u64 0, .int .u64 0, .bool false, .int .i64 0, .int .i64 0, .slice none 0 0, .int .u64 0, .slice none 0 0] 99)))) | skip); (first | (have R11' := Aside0.mk (Kd.R_below R11.out hb3)) | (have R11' := Aside0.mk (Kd.R_below (Kd.R_below R11.out ((Below.refl _ w4).alloc (Nat.le_refl _) (.cells #[.int .i64 0, .int .i64 0, .slice none 0 0, .int .u32 0, .int .i64 0, .string ⟨#[]⟩, .int .u64 0, .int .u64 0, .bool false, .int .i64 0, .int .i64 0, .slice none 0 0, .int .u64 0, .slice none 0 0] 99))) hb3)) | skip); (first | (clear R11; have R11 := R11'; clear R11') | skip); (first | (clear BT) | skip); clear hR hb3 hB3; (first | clear q0 q1 q2 q3 q4 q5 q6 q7 q8 q9 q10 q11 q12 q13 f0 f1 f2 f3 f4 f5 f6 f7 f8 f9 f10 f11 f12 f13 | skip); (first | (have q0 := fresh_cell HQ3.out 0; have q1 := fresh_cell HQ3.out 1; have q2 := fresh_cell HQ3.out 2; have q3 := fresh_cell HQ3.out 3; have q4 := fresh_cell HQ3.out 4; have q5 := fresh_cell HQ3.out 5; have q6 := fresh_cell HQ3.out 6; have q7 := fresh_cell HQ3.out 7; have q8 := fresh_cell HQ3.out 8; have q9 := fresh_cell HQ3.out 9; have q10 := fresh_cell HQ3.out 10; have q11 := fresh_cell HQ3.out 11; have q12 := fresh_cell HQ3.out 12; have q13 := fresh_cell HQ3.out 13; have f0 := fresh_frozen HQ3.out 0; have f1 := fresh_frozen HQ3.out 1; have f2 := fresh_frozen HQ3.out 2; have f3 := fresh_frozen HQ3.out 3; have f4 := fresh_frozen HQ3.out 4; have f5 := fresh_frozen HQ3.out 5; have f6 := fresh_frozen HQ3.out 6; have f7 := fresh_frozen HQ3.out 7; have f8 := fresh_frozen HQ3.out 8; have f9 := fresh_frozen HQ3.out 9; have f10 := fresh_frozen HQ3.out 10; have f11 := fresh_frozen HQ3.out 11; have f12 := fresh_frozen HQ3.out 12; have f13 := fresh_frozen HQ3.out 13; simp only [List.getElem?_toArray, List.getElem?_cons_zero, List.getElem?_cons_succ] at q0 q1 q2 q3 q4 q5 q6 q7 q8 q9 q10 q11 q12 q13) | skip))
            | (go_at_call 64; refine (tallboylaw18_To.calls _ x.f3.f0 A11 c11 x.f3.f1 x.f3.f2 _ _ _ _ (Kd.C_below K11.out (by first | exact BD.out | exact BA.out | exact BO.out | exact BO.out.alloc BO.out.size _)) l11 HTO.out).mono ?_; rintro e w4 ⟨v11, rfl, hR, hb4⟩; obtain ⟨A4, c4, rfl⟩ := Kd.R_slice hR; rw [List.length_map] at hR; (have hB4 : Below wr.heap.size wr w4 := (by first | exact BD.out.trans (hb4.mono BD.out.size) | exact BA.out.trans (hb4.mono BA.out.size) | exact BO.out.trans (hb4.mono BO.out.size) | exact (BO.out.alloc BO.out.size _).trans (hb4.mono (BO.out.alloc BO.out.size (.cells #[.int .i64 0, .int .i64 0, .slice none 0 0, .int .u32 0, .int .i64 0, .string ⟨#[]⟩, .int .u64 0, .int .u64 0, .bool false, .int .i64 0, .int .i64 0, .slice none 0 0, .int .u64 0, .slice none 0 0] 99)).size))); (have R11 := Aside0.mk (R_up hR (by first | exact BD.out.size | exact BA.out.size | exact BO.out.size | exact (BO.out.alloc BO.out.size (.cells #[.int .i64 0, .int .i64 0, .slice none 0 0, .int .u32 0, .int .i64 0, .string ⟨#[]⟩, .int .u64 0, .int .u64 0, .bool false, .int .i64 0, .int .i64 0, .slice none 0 0, .int .u64 0, .slice none 0 0] 99)).size))); (have BT := Aside0.mk hB4); (have HS4 := Lib.hid hB4.size); (have HF4 := Lib.hid (keep14 (keepB hB4 hadw) HF.out)); (first | (have HQ4 := Lib.hid (fresh_block hb4 rfl)) | (have HQ4 := Lib.hid ((hb4.block _ (blk_lt HQ3.out)).trans HQ3.out)) | (have HQ4 := Lib.hid ((hb4.block _ (by rw [size_al]; exact Nat.lt_succ_self _)).trans (heap_alloc_new w3 (.cells #[.int .i64 0, .int .i64 0, .slice none 0 0, .int .u32 0, .int .i64 0, .string ⟨#[]⟩, .int .u64 0, .int .u64 0, .bool false, .int .i64 0, .int .i64 0, .slice none 0 0, .int .u64 0, .slice none 0 0] 99)))) | skip); (first | (have R2' := Aside0.mk (Kd.R_below R2.out hb4)) | (have R2' := Aside0.mk (Kd.R_below (Kd.R_below R2.out ((Below.refl _ w3).alloc (Nat.le_refl _) (.cells #[.int .i64 0, .int .i64 0, .slice none 0 0, .int .u32 0, .int .i64 0, .string ⟨#[]⟩, .int .u64 0, .int .u64 0, .bool false, .int .i64 0, .int .i64 0, .slice none 0 0, .int .u64 0, .slice none 0 0] 99))) hb4)) | skip); (first | (clear R2; have R2 := R2'; clear R2') | skip); (first | (clear BO) | skip); clear hR hb4 hB4; (first | clear q0 q1 q2 q3 q4 q5 q6 q7 q8 q9 q10 q11 q12 q13 f0 f1 f2 f3 f4 f5 f6 f7 f8 f9 f10 f11 f12 f13 | skip); (first | (have q0 := fresh_cell HQ4.out 0; have q1 := fresh_cell HQ4.out 1; have q2 := fresh_cell HQ4.out 2; have q3 := fresh_cell HQ4.out 3; have q4 := fresh_cell HQ4.out 4; have q5 := fresh_cell HQ4.out 5; have q6 := fresh_cell HQ4.out 6; have q7 := fresh_cell HQ4.out 7; have q8 := fresh_cell HQ4.out 8; have q9 := fresh_cell HQ4.out 9; have q10 := fresh_cell HQ4.out 10; have q11 := fresh_cell HQ4.out 11; have q12 := fresh_cell HQ4.out 12; have q13 := fresh_cell HQ4.out 13; have f0 := fresh_frozen HQ4.out 0; have f1 := fresh_frozen HQ4.out 1; have f2 := fresh_frozen HQ4.out 2; have f3 := fresh_frozen HQ4.out 3; have f4 := fresh_frozen HQ4.out 4; have f5 := fresh_frozen HQ4.out 5; have f6 := fresh_frozen HQ4.out 6; have f7 := fresh_frozen HQ4.out 7; have f8 := fresh_frozen HQ4.out 8; have f9 := fresh_frozen HQ4.out 9; have f10 := fresh_frozen HQ4.out 10; have f11 := fresh_frozen HQ4.out 11; have f12 := fresh_frozen HQ4.out 12; have f13 := fresh_frozen HQ4.out 13; simp only [List.getElem?_toArray, List.getElem?_cons_zero, List.getElem?_cons_succ] at q0 q1 q2 q3 q4 q5 q6 q7 q8 q9 q10 q11 q12 q13) | skip)))
        all_goals
          (first | clear q0 q1 q2 q3 q4 q5 q6 q7 q8 q9 q10 q11 q12 q13 f0 f1 f2 f3 f4 f5 f6 f7 f8 f9 f10 f11 f12 f13 | skip)
          go_wp2_with fail
          go_meet
          case rel =>
            first
              | with_reducible exact ⟨_, A3, c3, A4, c4, rfl, ⟨ue_new R2.out R11.out BT.out⟩⟩
              | with_reducible exact ⟨_, A3, c3, A4, c4, rfl, ⟨ue_new R2.out R11.out BO.out⟩⟩
              | with_reducible exact ⟨_, A3, c3, A4, c4, rfl, ⟨ue_set R2.out R11.out BT.out (Nat.le_refl _) HQ4.out⟩⟩
              | with_reducible exact ⟨_, A3, c3, A4, c4, rfl, ⟨ue_set R2.out R11.out BT.out HS3.out HQ4.out⟩⟩
              | with_reducible exact ⟨_, A3, c3, A4, c4, rfl, ⟨ue_set R2.out R11.out BO.out (Nat.le_refl _) HQ3.out⟩⟩
              | with_reducible exact ⟨_, A3, c3, A4, c4, rfl, ⟨ue_set R2.out R11.out BO.out HS4.out HQ3.out⟩⟩
      case rest =>
        obtain ⟨T, A3, c3, A4, c4, rfl, HU⟩ := hcut
        obtain ⟨W0, hW0⟩ : ∃ W0, W0 = wr := ⟨_, rfl⟩
        subst hW0
        have U0 : Aside0 (∃ v13, Ue W0 wc x T (.slice A3 x.f1.f1.length c3) (.slice A4 x.f3.f1.length c4) v13 ((x.f4.take 0).map toD)) := ⟨_, HU.out⟩
        clear HU BD BA dn9 dn11 HOWN HTO K2 K11
        go_wp2_with fail
        go_loopg [6] x.f4.length (fun gg v6 wi => ∃ (i : Nat), v6 = .int .i64 i ∧ i ≤ x.f4.length ∧ x.f4.length - i ≤ gg ∧ Aside0 (∃ v13, Ue W0 wi x T (.slice A3 x.f1.f1.length c3) (.slice A4 x.f3.f1.length c4) v13 ((x.f4.take i).map toD)))
        case atStart => exact ⟨0, rfl, Nat.zero_le _, by omega, U0⟩
        case round =>
          clear U0
          obtain ⟨i, rfl, hi, hgi, HI⟩ := hrel
          obtain ⟨v13, hUi⟩ := HI.out
          have UI := Aside0.mk hUi
          clear HI hUi
          have HK13 := Lib.hid (keep14 (keepB UI.out.bel hadw) HF.out).2.2.2.2.2.2.2.2.2.2.2.2.2
          by_cases hil : i < x.f4.length
          · have hii : (i : Int) < (x.f4.length : Int) := by omega
            have hd : x.f4[i]? = some (rd_T104 x.f4 (i : Int)) := by
              unfold rd_T104
              rw [Int.toNat_natCast, List.getD_eq_getElem?_getD, List.getElem?_eq_getElem hil]; rfl
            obtain ⟨ad13, rfl, d0, d1⟩ := at_T104 K13.out (i : Int) (by omega) hii
            rw [Int.toNat_natCast] at d0 d1
            obtain ⟨d, hdd⟩ : ∃ d, d = rd_T104 x.f4 (i : Int) := ⟨_, rfl⟩
            rw [← hdd] at d0 d1 hd
            have htk : (x.f4.take (i + 1)).map toD = (x.f4.take i).map toD ++ [toD d] := by rw [List.take_add_one, hd, List.map_append]; rfl
            have HTK := Lib.hid htk
            have hd13 : (ad13.add (i * 2)).block < W0.heap.size := World.block_lt_of_cell? W0 _ d0
            have e0 := (UI.out.bel.cell hd13).trans d0
            have e1 := (UI.out.bel.cell (p := ⟨(ad13.add (i * 2)).block, (ad13.add (i * 2)).off + 1, none⟩) hd13).trans d1
            have k13 := HK13.out
            have tb := fresh_cell UI.out.box 13
            simp only [List.getElem?_toArray, List.getElem?_cons_zero, List.getElem?_cons_succ] at tb
            have hvv : cellV T 13 wr.drew = v13 := cellV_eq (show wr.drew.cell? ⟨T, 13, none⟩ = some v13 from tb)
            have S0 : Aside0 (wr.cell? ⟨T, 13, none⟩ = some (cellV T 13 wr) ∧ wr.cell? ⟨(ad.add (j * 14)).block, (ad.add (j * 14)).off + 13, none⟩ = some (.slice (some ad13) x.f4.length c13) ∧ wr.cell? (ad13.add (i * 2)) = some (.string d.f0) ∧ wr.cell? ⟨(ad13.add (i * 2)).block, (ad13.add (i * 2)).off + 1, none⟩ = some (.int .i64 d.f1)) := ⟨cellV_is tb, k13, e0, e1⟩
            have HR13 := Aside0.mk (show Kd.R k144 144 wr.drew W0.heap.size (fun k => W0.heap.size ≤ k ∧ k ≠ T) v13 ((x.f4.take i).map toD) from Kd.R_below UI.out.drops (Below.refl _ wr).drew)
            have HBd := Aside0.mk (UI.out.bel.drew)
            have hTlt : T < wr.heap.size := blk_lt UI.out.box
            have hTW := UI.out.hT
            have hlen : ((x.f4.take i).map toD).length ≤ 100000 := by rw [List.length_map, List.length_take]; omega
            have HLEN := Lib.hid hlen
            have S1 := Aside0.mk tb
            have HB1 := Aside0.mk (Nat.lt_of_lt_of_le hadw UI.out.bel.size)
            have HB2 := Aside0.mk (Nat.lt_of_lt_of_le hd13 UI.out.bel.size)
            have HNT : Aside0 (some T ≠ v13.ownBlock) := ⟨fun e => (UI.out.drops.1 T e.symm).2 rfl⟩
            have HN1 : Aside0 (some (ad.add (j * 14)).block ≠ v13.ownBlock) := ⟨fun e => by have := (UI.out.drops.1 _ e.symm).1; omega⟩
            have HN2 : Aside0 (some (ad13.add (i * 2)).block ≠ v13.ownBlock) := ⟨fun e => by have := (UI.out.drops.1 _ e.symm).1; omega⟩
            have HT1 : Aside0 ((ad.add (j * 14)).block ≠ T) := ⟨by omega⟩
            have HT2 : Aside0 ((ad13.add (i * 2)).block ≠ T) := ⟨by omega⟩
            have HFR : Aside0 (∀ k, wr.drew.heap.size ≤ k → W0.heap.size ≤ k ∧ k ≠ T) := ⟨fun k hk => by have hk' : wr.heap.size ≤ k := hk; have := UI.out.bel.size; omega⟩
            have HL24 : Aside0 ((((x.f4.take i).map toD).length + 1) * 24 ≤ 140737488355328) := ⟨by omega⟩
            have HLN := Lib.hid (show ((x.f4.take i).map toD ++ [toD d]).length = i + 1 by rw [List.length_append, List.length_map, List.length_take, List.length_singleton]; omega)
            clear hd hdd htk d0 d1 e0 e1 hlen hvv
            go_upto_region 9 with fail
            clear k13
            refine wp_region_held_drew (S := (fun w' => w'.cell? ⟨(ad.add (j * 14)).block, (ad.add (j * 14)).off + 13, none⟩ = some (.slice (some ad13) x.f4.length c13) ∧ w'.cell? (ad13.add (i * 2)) = some (.string d.f0) ∧ w'.cell? ⟨(ad13.add (i * 2)).block, (ad13.add (i * 2)).off + 1, none⟩ = some (.int .i64 d.f1))) (by kernel_rfl) ?hS0 (fun hHeld => ?_)
            case hS0 => exact And.right (keepS ⟨_, S1.out⟩ S0.out.2.1 S0.out.2.2.1 S0.out.2.2.2 rfl rfl rfl)
            refine wpAnyH_take (i := 0) (v := ?_) rfl (by kernel_rfl) (by kernel_rfl) (by kernel_rfl) (fun _ _ _ h => h) (Or.inl ⟨by rfl, ?_⟩) (by assumption) ?_
            rotate_left
            · intro w hSw; (try dsimp only at hSw); go_simp; (try with_reducible rfl)
            (try simp only [Act.put, List.setIfInBounds_toArray, List.set_cons_zero, List.set_cons_succ])
            refine wpAnyH_take (i := 2) (v := ?_) rfl (by kernel_rfl) (by kernel_rfl) (by kernel_rfl) (fun _ _ _ h => h) (Or.inl ⟨by rfl, ?_⟩) (by assumption) ?_
            rotate_left
            · intro w hSw; (try dsimp only at hSw); go_simp; (try with_reducible rfl)
            (try simp only [Act.put, List.setIfInBounds_toArray, List.set_cons_zero, List.set_cons_succ])
            refine wpAnyH_take (i := 3) (v := ?_) rfl (by kernel_rfl) (by kernel_rfl) (by kernel_rfl) (fun _ _ _ h => h) (Or.inl ⟨by rfl, ?_⟩) (by assumption) ?_
            rotate_left
            · intro w hSw; (try dsimp only at hSw); go_simp; (try with_reducible rfl)
            (try simp only [Act.put, List.setIfInBounds_toArray, List.set_cons_zero, List.set_cons_succ])
            refine wpAnyH_take (i := 4) (v := ?_) rfl (by kernel_rfl) (by kernel_rfl) (by kernel_rfl) (fun _ _ _ h => h) (Or.inl ⟨by rfl, ?_⟩) (by assumption) ?_
            rotate_left
            · intro w hSw; (try dsimp only at hSw); go_simp; (try with_reducible rfl)
            (try simp only [Act.put, List.setIfInBounds_toArray, List.set_cons_zero, List.set_cons_succ])
            refine wpAnyH_take (i := 5) (v := ?_) rfl (by kernel_rfl) (by kernel_rfl) (by kernel_rfl) (fun _ _ _ h => h) (Or.inl ⟨by rfl, ?_⟩) (by assumption) ?_
            rotate_left
            · intro w hSw; (try dsimp only at hSw); go_simp; (try with_reducible rfl)
            (try simp only [Act.put, List.setIfInBounds_toArray, List.set_cons_zero, List.set_cons_succ])
            refine wpAnyH_take (i := 6) (v := ?_) rfl (by kernel_rfl) (by kernel_rfl) (by kernel_rfl) (fun _ _ _ h => h) (Or.inl ⟨by rfl, ?_⟩) (by assumption) ?_
            rotate_left
            · intro w hSw; (try dsimp only at hSw); go_simp; (try with_reducible rfl)
            (try simp only [Act.put, List.setIfInBounds_toArray, List.set_cons_zero, List.set_cons_succ])
            refine wpAnyH_take (i := 7) (v := ?_) rfl (by kernel_rfl) (by kernel_rfl) (by kernel_rfl) (fun _ _ _ h => h) (Or.inl ⟨by rfl, ?_⟩) (by assumption) ?_
            rotate_left
            · intro w hSw; (try dsimp only at hSw); go_simp; (try with_reducible rfl)
            (try simp only [Act.put, List.setIfInBounds_toArray, List.set_cons_zero, List.set_cons_succ])
            refine wpAnyH_take (i := 8) (v := ?_) rfl (by kernel_rfl) (by kernel_rfl) (by kernel_rfl) (fun _ _ _ h => h) (Or.inl ⟨by rfl, ?_⟩) (by assumption) ?_
            rotate_left
            · intro w hSw; (try dsimp only at hSw); go_simp; (try with_reducible rfl)
            (try simp only [Act.put, List.setIfInBounds_toArray, List.set_cons_zero, List.set_cons_succ])
            refine wpAnyH_take (i := 9) (v := ?_) rfl (by kernel_rfl) (by kernel_rfl) (by kernel_rfl) (fun _ _ _ h => h) (Or.inl ⟨by rfl, ?_⟩) (by assumption) ?_
            rotate_left
            · intro w hSw; (try dsimp only at hSw); go_simp; (try with_reducible rfl)
            (try simp only [Act.put, List.setIfInBounds_toArray, List.set_cons_zero, List.set_cons_succ])
            refine wpAnyH_take (i := 10) (v := ?_) rfl (by kernel_rfl) (by kernel_rfl) (by kernel_rfl) (fun _ _ _ h => h) (Or.inl ⟨by rfl, ?_⟩) (by assumption) ?_
            rotate_left
            · intro w hSw; (try dsimp only at hSw); go_simp; (try with_reducible rfl)
            (try simp only [Act.put, List.setIfInBounds_toArray, List.set_cons_zero, List.set_cons_succ])
            refine wpAnyH_take (i := 11) (v := ?_) rfl (by kernel_rfl) (by kernel_rfl) (by kernel_rfl) (fun _ _ _ h => h) (Or.inl ⟨by rfl, ?_⟩) (by assumption) ?_
            rotate_left
            · intro w hSw; (try dsimp only at hSw); go_simp; (try with_reducible rfl)
            (try simp only [Act.put, List.setIfInBounds_toArray, List.set_cons_zero, List.set_cons_succ])
            refine wpAnyH_take (i := 12) (v := ?_) rfl (by kernel_rfl) (by kernel_rfl) (by kernel_rfl) (fun _ _ _ h => h) (Or.inl ⟨by rfl, ?_⟩) (by assumption) ?_
            rotate_left
            · intro w hSw; (try dsimp only at hSw); go_simp; (try with_reducible rfl)
            (try simp only [Act.put, List.setIfInBounds_toArray, List.set_cons_zero, List.set_cons_succ])
            refine wpAnyH_take (i := 13) (v := ?_) rfl (by kernel_rfl) (by kernel_rfl) (by kernel_rfl) (fun _ _ _ h => h) (Or.inl ⟨by rfl, ?_⟩) (by assumption) ?_
            rotate_left
            · intro w hSw; (try dsimp only at hSw); go_simp; (try with_reducible rfl)
            (try simp only [Act.put, List.setIfInBounds_toArray, List.set_cons_zero, List.set_cons_succ])
            refine wpAnyH_take (i := 14) (v := ?_) rfl (by kernel_rfl) (by kernel_rfl) (by kernel_rfl) (fun _ _ _ h => h) (Or.inl ⟨by rfl, ?_⟩) (by assumption) ?_
            rotate_left
            · intro w hSw; (try dsimp only at hSw); go_simp; (try with_reducible rfl)
            (try simp only [Act.put, List.setIfInBounds_toArray, List.set_cons_zero, List.set_cons_succ])
            refine wpAnyH_take (i := 15) (v := ?_) rfl (by kernel_rfl) (by kernel_rfl) (by kernel_rfl) (fun _ _ _ h => h) (Or.inl ⟨by rfl, ?_⟩) (by assumption) ?_
            rotate_left
            · intro w hSw; (try dsimp only at hSw); go_simp; (try with_reducible rfl)
            (try simp only [Act.put, List.setIfInBounds_toArray, List.set_cons_zero, List.set_cons_succ])
            refine wpAnyH_take (i := 16) (v := ?_) rfl (by kernel_rfl) (by kernel_rfl) (by kernel_rfl) (fun _ _ _ h => h) (Or.inl ⟨by rfl, ?_⟩) (by assumption) ?_
            rotate_left
            · intro w hSw; (try dsimp only at hSw); go_simp; (try with_reducible rfl)
            (try simp only [Act.put, List.setIfInBounds_toArray, List.set_cons_zero, List.set_cons_succ])
            refine wpAnyH_take (i := 17) (v := ?_) rfl (by kernel_rfl) (by kernel_rfl) (by kernel_rfl) (fun _ _ _ h => h) (Or.inl ⟨by rfl, ?_⟩) (by assumption) ?_
            rotate_left
            · intro w hSw; (try dsimp only at hSw); go_simp; (try with_reducible rfl)
            (try simp only [Act.put, List.setIfInBounds_toArray, List.set_cons_zero, List.set_cons_succ])
            refine wpAnyH_take (i := 18) (v := ?_) rfl (by kernel_rfl) (by kernel_rfl) (by kernel_rfl) (fun _ _ _ h => h) (Or.inl ⟨by rfl, ?_⟩) (by assumption) ?_
            rotate_left
            · intro w hSw; (try dsimp only at hSw); go_simp; (try with_reducible rfl)
            (try simp only [Act.put, List.setIfInBounds_toArray, List.set_cons_zero, List.set_cons_succ])
            refine wpAnyH_take (i := 19) (v := ?_) rfl (by kernel_rfl) (by kernel_rfl) (by kernel_rfl) (fun _ _ _ h => h) (Or.inl ⟨by rfl, ?_⟩) (by assumption) ?_
            rotate_left
            · intro w hSw; (try dsimp only at hSw); go_simp; (try with_reducible rfl)
            (try simp only [Act.put, List.setIfInBounds_toArray, List.set_cons_zero, List.set_cons_succ])
            refine wpAnyH_take (i := 20) (v := ?_) rfl (by kernel_rfl) (by kernel_rfl) (by kernel_rfl) (fun _ _ _ h => h) (Or.inl ⟨by rfl, ?_⟩) (by assumption) ?_
            rotate_left
            · intro w hSw; (try dsimp only at hSw); go_simp; (try with_reducible rfl)
            (try simp only [Act.put, List.setIfInBounds_toArray, List.set_cons_zero, List.set_cons_succ])
            refine wpAnyH_ready (rs := [1, 21]) (by kernel_rfl) (by simp) ?_
            refine AllReadyH.cons (by simp only [List.getElem?_toArray, List.getElem?_cons_succ, List.getElem?_cons_zero]; rfl) (fun K hK => ?_) (AllReadyH.cons (by simp only [List.getElem?_toArray, List.getElem?_cons_succ, List.getElem?_cons_zero]; rfl) (fun K hK => ?_) AllReadyH.nil)
            · go_simp
              refine hK.out _ _ ?_ (fun hHeld => ?_)
              · (try dsimp only); exact And.right (keepS ⟨_, S1.out⟩ S0.out.2.1 S0.out.2.2.1 S0.out.2.2.2 rfl rfl rfl)
              clear hK K
              (try simp only [Act.put, List.setIfInBounds_toArray, List.set_cons_zero, List.set_cons_succ])
              refine wpAnyH_ready (rs := [21]) (by kernel_rfl) (by simp) ?_
              refine AllReadyH.cons (by simp only [List.getElem?_toArray, List.getElem?_cons_succ, List.getElem?_cons_zero]; rfl) (fun K hK => ?_) AllReadyH.nil
              go_simp
              refine hK.out _ _ ?_ (fun hHeld => ?_)
              · (try dsimp only); exact And.right (keepS ⟨_, (World.cell?_of_block (Below.heap_alloc wr _ T hTlt)).trans S1.out⟩ S0.out.2.1 S0.out.2.2.1 S0.out.2.2.2 (Below.heap_alloc wr _ _ HB1.out) (Below.heap_alloc wr _ _ HB2.out) rfl)
              clear hK K
              (try simp only [Act.put, List.setIfInBounds_toArray, List.set_cons_zero, List.set_cons_succ])
              refine wpAnyH_ready (rs := [22]) (by kernel_rfl) (by simp) ?_
              refine AllReadyH.cons (by simp only [List.getElem?_toArray, List.getElem?_cons_succ, List.getElem?_cons_zero]; rfl) (fun K hK => ?_) AllReadyH.nil
              refine Kd.R_append_step k144 (w0 := W0) W0.heap.size (by rfl) (.tmp 47) (.tmp 67) 97 144 (.agg #[(.string ⟨#[]⟩), (.int .i64 0)]) 24 (by rfl) Tryd.underlying97 info_drop (by rfl) (by decide) (by decide) v13 ((x.f4.take i).map toD) (toD d) [.string d.f0, .int .i64 d.f1] (fun k => W0.heap.size ≤ k ∧ k ≠ T) (fun _ => False) (by rfl) (by rfl) (k144_mkM _ _ _ (toD d)) (fun _ hk => hk.elim) HFR.out HR13.out HBd.out HBd.out.size HL24.out ?_; intro v1 w6 ho6 hb6 hg6 hat6; (have hbx := (hg6.block T hTlt HNT.out).trans UI.out.box); (have t6 := fresh_cell hbx 13); (have fz6 := fresh_frozen hbx 13); simp only [List.getElem?_toArray, List.getElem?_cons_zero, List.getElem?_cons_succ] at t6; (obtain ⟨A6, c6, rfl⟩ := Kd.R_slice ho6)
              refine hK.out _ _ ?_ (fun hHeld => ?_)
              · (try dsimp only); exact And.right (keepS ⟨_, (World.cell?_of_block (hg6.block T hTlt HNT.out)).trans S1.out⟩ S0.out.2.1 S0.out.2.2.1 S0.out.2.2.2 (hg6.block _ HB1.out HN1.out) (hg6.block _ HB2.out HN2.out) rfl)
              clear hK K
              (try simp only [Act.put, List.setIfInBounds_toArray, List.set_cons_zero, List.set_cons_succ])
              refine wpAnyH_take (i := 23) (v := ?_) rfl (by kernel_rfl) (by kernel_rfl) (by kernel_rfl) (fun _ _ _ h => h) (Or.inl ⟨by rfl, ?_⟩) (by assumption) ?_
              rotate_left
              · intro w hSw; (try dsimp only at hSw); go_simp; (try with_reducible rfl)
              (try simp only [Act.put, List.setIfInBounds_toArray, List.set_cons_zero, List.set_cons_succ])
              refine wpAnyH_ready (rs := [24]) (by kernel_rfl) (by simp) ?_
              refine AllReadyH.cons (by simp only [List.getElem?_toArray, List.getElem?_cons_succ, List.getElem?_cons_zero]; rfl) (fun K hK => ?_) AllReadyH.nil
              go_simp
              refine hK.out _ _ ?_ (fun hHeld => ?_)
              · (try dsimp only); exact And.right (keepS (put13 ((World.cell?_of_block (hg6.block T hTlt HNT.out)).trans S1.out) _) S0.out.2.1 S0.out.2.2.1 S0.out.2.2.2 ((Below.heap_setCell _ _ _ _ HT1.out).trans (hg6.block _ HB1.out HN1.out)) ((Below.heap_setCell _ _ _ _ HT2.out).trans (hg6.block _ HB2.out HN2.out)) rfl)
              clear hK K
              (try simp only [Act.put, List.setIfInBounds_toArray, List.set_cons_zero, List.set_cons_succ])
              refine wpAnyH_done (by kernel_rfl) ?_ _
              rw [HLN.out] at ho6
              have UN : Aside0 (∃ v13, Ue W0 (w6.setCell ⟨T, 13, none⟩ (.slice A6 (i + 1) c6)) x T (.slice A3 x.f1.f1.length c3) (.slice A4 x.f3.f1.length c4) v13 ((x.f4.take (i + 1)).map toD)) := ⟨_, by rw [HTK.out]; exact ue_next (ue_below UI.out (Below.refl _ wr).drew) ho6 hb6 hg6⟩
              clear ho6 hb6 hg6 hat6 hbx t6 fz6 tb S0 S1 HR13 HBd UI HK13 HFR HL24 HNT HN1 HN2 HT1 HT2 HB1 HB2 HLEN
              generalize w6.setCell ⟨T, 13, none⟩ (.slice A6 (i + 1) c6) = W7 at UN ⊢
              go_wp2
              go_roundg (x.f4.length - (i + 1))
              case measure => omega
              case rel => exact ⟨i + 1, by go_num, by omega, by omega, UN⟩
            · go_simp
              refine hK.out _ _ ?_ (fun hHeld => ?_)
              · (try dsimp only); exact And.right (keepS ⟨_, (World.cell?_of_block (Below.heap_alloc wr _ T hTlt)).trans S1.out⟩ S0.out.2.1 S0.out.2.2.1 S0.out.2.2.2 (Below.heap_alloc wr _ _ HB1.out) (Below.heap_alloc wr _ _ HB2.out) rfl)
              clear hK K
              (try simp only [Act.put, List.setIfInBounds_toArray, List.set_cons_zero, List.set_cons_succ])
              refine wpAnyH_ready (rs := [1]) (by kernel_rfl) (by simp) ?_
              refine AllReadyH.cons (by simp only [List.getElem?_toArray, List.getElem?_cons_succ, List.getElem?_cons_zero]; rfl) (fun K hK => ?_) AllReadyH.nil
              go_simp
              refine hK.out _ _ ?_ (fun hHeld => ?_)
              · (try dsimp only); exact And.right (keepS ⟨_, (World.cell?_of_block (Below.heap_alloc wr _ T hTlt)).trans S1.out⟩ S0.out.2.1 S0.out.2.2.1 S0.out.2.2.2 (Below.heap_alloc wr _ _ HB1.out) (Below.heap_alloc wr _ _ HB2.out) rfl)
              clear hK K
              (try simp only [Act.put, List.setIfInBounds_toArray, List.set_cons_zero, List.set_cons_succ])
              refine wpAnyH_ready (rs := [22]) (by kernel_rfl) (by simp) ?_
              refine AllReadyH.cons (by simp only [List.getElem?_toArray, List.getElem?_cons_succ, List.getElem?_cons_zero]; rfl) (fun K hK => ?_) AllReadyH.nil
              refine Kd.R_append_step k144 (w0 := W0) W0.heap.size (by rfl) (.tmp 47) (.tmp 67) 97 144 (.agg #[(.string ⟨#[]⟩), (.int .i64 0)]) 24 (by rfl) Tryd.underlying97 info_drop (by rfl) (by decide) (by decide) v13 ((x.f4.take i).map toD) (toD d) [.string d.f0, .int .i64 d.f1] (fun k => W0.heap.size ≤ k ∧ k ≠ T) (fun _ => False) (by rfl) (by rfl) (k144_mkM _ _ _ (toD d)) (fun _ hk => hk.elim) HFR.out HR13.out HBd.out HBd.out.size HL24.out ?_; intro v1 w6 ho6 hb6 hg6 hat6; (have hbx := (hg6.block T hTlt HNT.out).trans UI.out.box); (have t6 := fresh_cell hbx 13); (have fz6 := fresh_frozen hbx 13); simp only [List.getElem?_toArray, List.getElem?_cons_zero, List.getElem?_cons_succ] at t6; (obtain ⟨A6, c6, rfl⟩ := Kd.R_slice ho6)
              refine hK.out _ _ ?_ (fun hHeld => ?_)
              · (try dsimp only); exact And.right (keepS ⟨_, (World.cell?_of_block (hg6.block T hTlt HNT.out)).trans S1.out⟩ S0.out.2.1 S0.out.2.2.1 S0.out.2.2.2 (hg6.block _ HB1.out HN1.out) (hg6.block _ HB2.out HN2.out) rfl)
              clear hK K
              (try simp only [Act.put, List.setIfInBounds_toArray, List.set_cons_zero, List.set_cons_succ])
              refine wpAnyH_take (i := 23) (v := ?_) rfl (by kernel_rfl) (by kernel_rfl) (by kernel_rfl) (fun _ _ _ h => h) (Or.inl ⟨by rfl, ?_⟩) (by assumption) ?_
              rotate_left
              · intro w hSw; (try dsimp only at hSw); go_simp; (try with_reducible rfl)
              (try simp only [Act.put, List.setIfInBounds_toArray, List.set_cons_zero, List.set_cons_succ])
              refine wpAnyH_ready (rs := [24]) (by kernel_rfl) (by simp) ?_
              refine AllReadyH.cons (by simp only [List.getElem?_toArray, List.getElem?_cons_succ, List.getElem?_cons_zero]; rfl) (fun K hK => ?_) AllReadyH.nil
              go_simp
              refine hK.out _ _ ?_ (fun hHeld => ?_)
              · (try dsimp only); exact And.right (keepS (put13 ((World.cell?_of_block (hg6.block T hTlt HNT.out)).trans S1.out) _) S0.out.2.1 S0.out.2.2.1 S0.out.2.2.2 ((Below.heap_setCell _ _ _ _ HT1.out).trans (hg6.block _ HB1.out HN1.out)) ((Below.heap_setCell _ _ _ _ HT2.out).trans (hg6.block _ HB2.out HN2.out)) rfl)
              clear hK K
              (try simp only [Act.put, List.setIfInBounds_toArray, List.set_cons_zero, List.set_cons_succ])
              refine wpAnyH_done (by kernel_rfl) ?_ _
              rw [HLN.out] at ho6
              have UN : Aside0 (∃ v13, Ue W0 (w6.setCell ⟨T, 13, none⟩ (.slice A6 (i + 1) c6)) x T (.slice A3 x.f1.f1.length c3) (.slice A4 x.f3.f1.length c4) v13 ((x.f4.take (i + 1)).map toD)) := ⟨_, by rw [HTK.out]; exact ue_next (ue_below UI.out (Below.refl _ wr).drew) ho6 hb6 hg6⟩
              clear ho6 hb6 hg6 hat6 hbx t6 fz6 tb S0 S1 HR13 HBd UI HK13 HFR HL24 HNT HN1 HN2 HT1 HT2 HB1 HB2 HLEN
              generalize w6.setCell ⟨T, 13, none⟩ (.slice A6 (i + 1) c6) = W7 at UN ⊢
              go_wp2
              go_roundg (x.f4.length - (i + 1))
              case measure => omega
              case rel => exact ⟨i + 1, by go_num, by omega, by omega, UN⟩
          · have hii : ¬ (i : Int) < (x.f4.length : Int) := by omega
            obtain rfl : i = x.f4.length := by omega
            have k13 := HK13.out
            obtain ⟨A5, c5, rfl⟩ := Kd.R_slice UI.out.drops
            have hdl : ((x.f4.take x.f4.length).map toD).length = x.f4.length := by rw [List.length_map, List.take_length]
            rw [hdl] at UI
            have hb := UI.out.box
            have t0 := fresh_cell hb 0
            have t1 := fresh_cell hb 1
            have t2 := fresh_cell hb 2
            have t3 := fresh_cell hb 3
            have t4 := fresh_cell hb 4
            have t5 := fresh_cell hb 5
            have t6 := fresh_cell hb 6
            have t7 := fresh_cell hb 7
            have t8 := fresh_cell hb 8
            have t9 := fresh_cell hb 9
            have t10 := fresh_cell hb 10
            have t11 := fresh_cell hb 11
            have t12 := fresh_cell hb 12
            have t13 := fresh_cell hb 13
            simp only [List.getElem?_toArray, List.getElem?_cons_zero, List.getElem?_cons_succ] at t0 t1 t2 t3 t4 t5 t6 t7 t8 t9 t10 t11 t12 t13
            clear hb
            have hbw : Below w.heap.size w wr := HO.out.bel.trans (UI.out.bel.mono HO.out.bel.size)
            have HBW := Aside0.mk hbw
            have hdrops := UI.out.drops
            rw [List.take_length] at hdrops
            have HDR := Aside0.mk hdrops
            clear hbw hdrops
            go_wp2_with (at_builtin; refine Kd.R_append k99 (w0 := w) w.heap.size (by rfl) (.tmp 70) (.tmp 72) 91 99 (.agg #[(.int .i64 0), (.int .i64 0), (.slice none 0 0), (.int .u32 0), (.int .i64 0), (.string ⟨#[]⟩), (.int .u64 0), (.int .u64 0), (.bool false), (.int .i64 0), (.int .i64 0), (.slice none 0 0), (.int .u64 0), (.slice none 0 0)]) 168 (by rfl) Tryd.underlying91 info99 (by rfl) (by decide) (by decide) u3 ((l0.take j).map toY) (toY x) [.int .i64 x.f0, .int .i64 x.f1.f0, .slice A3 x.f1.f1.length c3, .int .u32 x.f1.f2, .int .i64 x.f1.f3, .string x.f1.f4, .int .u64 x.f1.f5, .int .u64 x.f1.f6, .bool x.f1.f7, .int .i64 x.f2, .int .i64 x.f3.f0, .slice A4 x.f3.f1.length c4, .int .u64 x.f3.f2, .slice A5 x.f4.length c5] (fun _ => True) (fun k => W0.heap.size ≤ k ∧ k ≠ T) (by rfl) (by rfl) ?aP ?aK ?aF ?aO ?aB ?aS ?aL ?_)
            case aP => exact k99_mkM _ _ _ (toY x) (Kd.R_lower UI.out.keys HO.out.bel.size) (Kd.R_lower UI.out.hits HO.out.bel.size) (Kd.R_lower HDR.out HO.out.bel.size)
            case aK =>
              intro k hk _ e
              obtain ⟨inner, ho⟩ := Kd.R_own HO.out.row
              have := own_lt ho k e.symm
              omega
            case aO =>
              first
                | exact Kd.R_below HO.out.row UI.out.bel
                | (rw [← List.map_take]; exact Kd.R_below HO.out.row UI.out.bel)
            case aB => exact HBW.out
            case aS => exact HBW.out.size
            case aL => first | omega | (rw [List.length_map, List.length_take]; omega)
            intro v1 w9 ho9 hb9 hg9 hat9
            have ON : Aside0 (Ou w w9 l0 (j + 1) v1) := ⟨⟨by rw [List.take_add_one, HX.out, List.map_append, List.map_take]; exact ho9, hb9⟩⟩
            clear ho9 hb9 hg9 hat9 t0 t1 t2 t3 t4 t5 t6 t7 t8 t9 t10 t11 t12 t13 UI HDR HBW HK13
            go_wp2
            go_roundg (l0.length - (j + 1))
            case measure => omega
            case rel => exact ⟨j + 1, by go_num, by omega, by omega, ON⟩
    · have hji : ¬ (j : Int) < (l0.length : Int) := by omega
      obtain rfl : j = l0.length := by omega
      go_wp2
      go_ret
      exact ⟨_, rfl, by rw [← List.take_length (l := l0)]; exact HO.out.row, HO.out.bel⟩
end Go.Proofs.YteddljbdjgdlnaaDoor.St
end
section
namespace Go.Proofs.YteddljbdjgdlnaaDoor.St
open Go.RowKit Go.Proofs.YteddljbdjgdlnaaDoorW.PrintWords Go.Proofs.YteddljbdjgdlnaaDoorW.PrintLast Go.Proofs.YteddljbdjgdlnaaDoorW.PrintMore Go.WideMaps Go.Proofs.YteddljbdjgdlnaaDoor.XSb
set_option linter.unusedVariables false
set_option linter.unusedSimpArgs false
attribute [local go_sem ↓] Go.wp_at_zero Go.wp_at_succ
def noteX (x : X) : Inc := noteI x.f1.f0 x.f1.f1.length x.f3.f1.length x.f3.f0 (x.f4.map (·.f1))
def notesL (l : List X) : Inc := l.flatMap noteX
def Small (l : List X) : Prop := l.length ≤ 1000 ∧ ∀ x ∈ l, x.f1.f1.length ≤ 100000 ∧ x.f3.f1.length ≤ 2932031007317 ∧ x.f4.length ≤ 100000
theorem notes_len : ∀ l : List X, (∀ x ∈ l, x.f1.f1.length ≤ 100000 ∧ x.f3.f1.length ≤ 2932031007317 ∧ x.f4.length ≤ 100000) → (notesL l).length ≤ 100006 * l.length
  | [], _ => Nat.le_refl 0
  | x :: l, h => by
    have h1 := note_len x.f1.f0 x.f1.f1.length x.f3.f1.length x.f3.f0 (x.f4.map (·.f1))
    have h2 := notes_len l (fun y hy => h y (List.mem_cons_of_mem _ hy))
    have h3 := (h x List.mem_cons_self).2.2
    unfold notesL at h2 ⊢
    rw [List.flatMap_cons, List.length_append, List.length_cons]
    rw [List.length_map] at h1
    have e : noteX x = noteI x.f1.f0 x.f1.f1.length x.f3.f1.length x.f3.f0 (x.f4.map (·.f1)) := rfl
    rw [e]
    omega
theorem ev_at {w : World} {base g b : Nat} {ad : Addr} {n cap : Nat} {ys : List Y} (h : Kd.R k99 99 w base (fun k => base ≤ k) (.slice (some ad) n cap) ys) (hg : g < base) (hb : b < base) (j : Nat) (y : Y) (hy : ys[j]? = some y) :
    ∃ e : Ev, e.kind = y.f1.f0 ∧ e.nk = y.f1.f1.length ∧ e.nh = y.f3.f1.length ∧ e.code = y.f3.f0 ∧ e.nd = y.f4.length ∧ DropsAt w g b e.da (y.f4.map (·.f1)) ∧ ∀ i u, e.cells[i]? = some u → w.cell? (ad.add (j * 14 + i)) = some u := by
  have hjl : j < ys.length := (List.getElem?_eq_some_iff.1 hy).1
  have hn : n = ys.length := by
    obtain ⟨_, inner, ho, _⟩ := h
    rcases ho.2 with ⟨hv, _⟩ | ⟨g, cap', cur, hv, _⟩
    · cases hv
    · injection hv
  obtain ⟨c, hcl, hM, hcell⟩ := Kd.R_get h z99 (j : Int) (by omega) (by omega)
  rw [Int.toNat_natCast, List.getD_eq_getElem?_getD, hy] at hM
  rw [Int.toNat_natCast] at hcell
  obtain ⟨v2, v11, v13, rfl, g2, g11, g13⟩ := k99_openM (show k99.M w base _ y c from hM)
  obtain ⟨A2, c2, rfl⟩ := Kd.R_slice g2
  obtain ⟨A11, c11, rfl⟩ := Kd.R_slice g11
  have hok := g13.1
  obtain ⟨A13, c13, e13, _, hC⟩ := Kd.R_reads g13
  subst e13
  refine ⟨⟨y.f0, y.f1.f0, A2, y.f1.f1.length, c2, y.f1.f2, y.f1.f3, y.f1.f4, y.f1.f5, y.f1.f6, y.f1.f7, y.f2, y.f3.f0, A11, y.f3.f1.length, c11, y.f3.f2, A13, y.f4.length, c13⟩, rfl, rfl, rfl, rfl, rfl, fun i d hd => ?_, fun i u hu => ?_⟩
  · obtain ⟨q, hq, rfl⟩ : ∃ q, y.f4[i]? = some q ∧ q.f1 = d := by
      rw [List.getElem?_map] at hd
      cases hq : y.f4[i]? with
      | none => rw [hq] at hd; cases hd
      | some q => rw [hq] at hd; exact ⟨q, rfl, Option.some.inj hd⟩
    have hil : i < y.f4.length := (List.getElem?_eq_some_iff.1 hq).1
    obtain ⟨a13, ea, d0, d1⟩ := at_T144 hC (i : Int) (by omega) (by omega)
    have hr : rd_T144 y.f4 (i : Int) = q := by
      unfold rd_T144
      rw [Int.toNat_natCast, List.getD_eq_getElem?_getD, hq]; rfl
    rw [hr, Int.toNat_natCast] at d0 d1
    subst ea
    have hbk := (hok a13.block rfl).1
    exact ⟨a13, q.f0, rfl, by omega, by omega, d0, d1⟩
  · refine hcell i u ?_
    unfold Ev.cells at hu
    simpa using hu
set_option maxHeartbeats 16000000 in
set_option maxRecDepth 100000 in
theorem noted_calls (w : World) (A0 : Option Addr) (l0 : List X) (c0 : Nat) (hC0 : Kd.C k42 w A0 l0.length l0) (hc0 : l0.length ≤ c0) (hs : Small l0) :
    Calls Tryd.prog 9 #[.slice A0 l0.length c0] w fun e w' => ∃ g b, e = .returned (.pointer (some ⟨g, 0, none⟩)) ∧ At w' g b 200000000 nm24 (app (fun _ => 0) (notesL l0)) ∧ w.heap.size ≤ g ∧ w.heap.size ≤ b ∧ Below w.heap.size w w' := by
  have HC0 := Aside0.mk hC0
  have HS := Aside0.mk hs
  have hlb : l0.length ≤ 1000 := hs.1
  clear hC0 hs
  go_enter Tryd.func9, Tryd.ntmps9
  go_wp2_with fail
  refine (New_calls w).mono ?_
  rintro e w1 ⟨g, b, rfl, hA, hg, hb, hb1⟩
  have A1 := Aside0.mk hA
  have B1 := Aside0.mk hb1
  have C1 := Aside0.mk (Kd.C_below HC0.out hb1)
  clear hA hb1 HC0
  go_wp2_with fail
  have hX := To_calls w1 A0 l0 c0 C1.out hc0 HS.out.1 HS.out.2
  refine hX.mono ?_
  clear hX
  rintro e w2 ⟨v, rfl, hR, hb2⟩
  have A2 := Aside0.mk (A1.out.below hb2)
  have B2 := Aside0.mk (B1.out.trans (hb2.mono B1.out.size))
  have R2 := Aside0.mk (R_up hR (Nat.le_refl _))
  have hg1 := A1.out.lt
  have hb1' := A1.out.ltb
  clear hR hb2 A1 B1 C1
  obtain ⟨A, c, rfl⟩ := Kd.R_slice R2.out
  have hyl : (l0.map toY).length = l0.length := List.length_map _
  rw [hyl] at R2 ⊢
  clear hyl
  have D0 : Aside0 (Did w2 w2 g b 24 (fun _ => 0) (notesL (l0.take 0)) ∧ Kd.R k99 99 w2 w1.heap.size (fun k => w1.heap.size ≤ k) (.slice A l0.length c) (l0.map toY)) := ⟨Did.start A2.out, R2.out⟩
  clear A2 R2
  go_wp2_with fail
  go_loopg [5] l0.length (fun gg v5 wr => ∃ (j : Nat), v5 = .int .i64 j ∧ j ≤ l0.length ∧ l0.length - j ≤ gg ∧ Aside0 (Did w2 wr g b 24 (fun _ => 0) (notesL (l0.take j)) ∧ Kd.R k99 99 wr w1.heap.size (fun k => w1.heap.size ≤ k) (.slice A l0.length c) (l0.map toY)))
  case atStart => exact ⟨0, rfl, Nat.zero_le _, by omega, D0⟩
  case round =>
    clear D0
    obtain ⟨j, rfl, hj, hgj, HD⟩ := hrel
    by_cases hlt : j < l0.length
    · have hji : (j : Int) < (l0.length : Int) := by omega
      obtain ⟨ad, rfl⟩ : ∃ ad, A = some ad := by
        obtain ⟨_, inner, ho, _⟩ := HD.out.2
        rcases ho.2 with ⟨hv, h0⟩ | ⟨q, cap', cur, hv, _⟩
        · rw [List.length_map] at h0
          omega
        · injection hv with hv
          exact ⟨_, hv⟩
      obtain ⟨x, hx⟩ : ∃ x, l0[j]? = some x := ⟨_, List.getElem?_eq_getElem hlt⟩
      obtain ⟨e, he1, he2, he3, he4, he5, hdr, hcell⟩ := ev_at HD.out.2 hg1 hb1' j (toY x) (by rw [List.getElem?_map, hx]; rfl)
      have t0 : wr.cell? (ad.add (j * 14)) = some (.int .i64 e.who) := hcell 0 _ rfl
      have t1 : wr.cell? ⟨(ad.add (j * 14)).block, (ad.add (j * 14)).off + 1, none⟩ = some (.int .i64 e.kind) := by rw [← add_field _ _ 1 (by omega)]; exact hcell 1 _ rfl
      have t2 : wr.cell? ⟨(ad.add (j * 14)).block, (ad.add (j * 14)).off + 2, none⟩ = some (.slice e.ka e.nk e.kc) := by rw [← add_field _ _ 2 (by omega)]; exact hcell 2 _ rfl
      have t3 : wr.cell? ⟨(ad.add (j * 14)).block, (ad.add (j * 14)).off + 3, none⟩ = some (.int .u32 e.flags) := by rw [← add_field _ _ 3 (by omega)]; exact hcell 3 _ rfl
      have t4 : wr.cell? ⟨(ad.add (j * 14)).block, (ad.add (j * 14)).off + 4, none⟩ = some (.int .i64 e.exp) := by rw [← add_field _ _ 4 (by omega)]; exact hcell 4 _ rfl
      have t5 : wr.cell? ⟨(ad.add (j * 14)).block, (ad.add (j * 14)).off + 5, none⟩ = some (.string e.value) := by rw [← add_field _ _ 5 (by omega)]; exact hcell 5 _ rfl
      have t6 : wr.cell? ⟨(ad.add (j * 14)).block, (ad.add (j * 14)).off + 6, none⟩ = some (.int .u64 e.cas) := by rw [← add_field _ _ 6 (by omega)]; exact hcell 6 _ rfl
      have t7 : wr.cell? ⟨(ad.add (j * 14)).block, (ad.add (j * 14)).off + 7, none⟩ = some (.int .u64 e.delta) := by rw [← add_field _ _ 7 (by omega)]; exact hcell 7 _ rfl
      have t8 : wr.cell? ⟨(ad.add (j * 14)).block, (ad.add (j * 14)).off + 8, none⟩ = some (.bool e.quiet) := by rw [← add_field _ _ 8 (by omega)]; exact hcell 8 _ rfl
      have t9 : wr.cell? ⟨(ad.add (j * 14)).block, (ad.add (j * 14)).off + 9, none⟩ = some (.int .i64 e.now) := by rw [← add_field _ _ 9 (by omega)]; exact hcell 9 _ rfl
      have t10 : wr.cell? ⟨(ad.add (j * 14)).block, (ad.add (j * 14)).off + 10, none⟩ = some (.int .i64 e.code) := by rw [← add_field _ _ 10 (by omega)]; exact hcell 10 _ rfl
      have t11 : wr.cell? ⟨(ad.add (j * 14)).block, (ad.add (j * 14)).off + 11, none⟩ = some (.slice e.ha e.nh e.hc) := by rw [← add_field _ _ 11 (by omega)]; exact hcell 11 _ rfl
      have t12 : wr.cell? ⟨(ad.add (j * 14)).block, (ad.add (j * 14)).off + 12, none⟩ = some (.int .u64 e.n) := by rw [← add_field _ _ 12 (by omega)]; exact hcell 12 _ rfl
      have t13 : wr.cell? ⟨(ad.add (j * 14)).block, (ad.add (j * 14)).off + 13, none⟩ = some (.slice e.da e.nd e.dc) := by rw [← add_field _ _ 13 (by omega)]; exact hcell 13 _ rfl
      have hsx := HS.out.2 x (List.mem_of_getElem? hx)
      have hnx : noteI e.kind e.nk e.nh e.code ((toY x).f4.map (·.f1)) = noteX x := by
        rw [he1, he2, he3, he4]
        unfold noteX
        show noteI x.f1.f0 (x.f1.f1.length : Int) ((x.f3.f1.map toH).length : Int) x.f3.f0 ((x.f4.map toD).map (·.f1)) = _
        rw [List.length_map, List.map_map]
        rfl
      have hwl : ((toY x).f4.map (·.f1)).length = e.nd := by rw [List.length_map, he5]
      have hnl : (notesL (l0.take j)).length ≤ 100006 * 1000 := by
        have h := notes_len (l0.take j) (fun y hy => HS.out.2 y (List.mem_of_mem_take hy))
        have h2 : (l0.take j).length ≤ 1000 := by rw [List.length_take]; have := HS.out.1; omega
        exact Nat.le_trans h (Nat.mul_le_mul_left _ h2)
      have hwb : ((toY x).f4.map (·.f1)).length ≤ 100000 := by
        show ((x.f4.map toD).map (·.f1)).length ≤ 100000
        rw [List.length_map, List.length_map]
        exact hsx.2.2
      have hnk : e.nk ≤ maxLen := by rw [he2]; exact Nat.le_trans hsx.1 (by decide)
      have hnh : e.nh ≤ maxLen := by
        rw [he3]
        show (x.f3.f1.map toH).length ≤ maxLen
        rw [List.length_map]
        exact Nat.le_trans hsx.2.1 (by decide)
      have hcb : 24 + (notesL (l0.take j)).length + 2000 + ((toY x).f4.map (·.f1)).length < maxLen := by unfold maxLen; omega
      have HNX := Lib.hid hnx
      have HX := Lib.hid hx
      have HWL := Lib.hid hwl
      have HDR := Aside0.mk hdr
      have HCB := Lib.hid hcb
      clear hnx hx hwl hdr hcell hsx he1 he2 he3 he4 he5 hnl hwb hcb
      go_wp2_with fail
      have hX := Note_calls wr g b (24 + (notesL (l0.take j)).length) (app (fun _ => 0) (notesL (l0.take j))) e ((toY x).f4.map (·.f1)) HD.out.1.at_ HWL.out HDR.out HCB.out hnk hnh
      refine hX.mono ?_
      clear hX
      rintro z w3 ⟨rfl, hD⟩
      rw [HNX.out] at hD
      have DN : Aside0 (Did w2 w3 g b 24 (fun _ => 0) (notesL (l0.take (j + 1))) ∧ Kd.R k99 99 w3 w1.heap.size (fun k => w1.heap.size ≤ k) (.slice (some ad) l0.length c) (l0.map toY)) := by
        refine ⟨⟨?_, Kd.R_step HD.out.2 (fun k hk hlt => hD.mov.block k hlt (by omega) (by omega))⟩⟩
        have e1 : notesL (l0.take (j + 1)) = notesL (l0.take j) ++ noteX x := by
          unfold notesL
          rw [List.take_add_one, HX.out, List.flatMap_append]
          simp
        rw [e1]
        exact HD.out.1.then hD
      clear hD HD t0 t1 t2 t3 t4 t5 t6 t7 t8 t9 t10 t11 t12 t13 hnk hnh
      go_wp2
      go_roundg (l0.length - (j + 1))
      case measure => omega
      case rel => exact ⟨j + 1, by go_num, by omega, by omega, DN⟩
    · have hji : ¬ (j : Int) < (l0.length : Int) := by omega
      have hjn : j = l0.length := by omega
      have hfin : At wr g b 200000000 nm24 (app (fun _ => 0) (notesL l0)) := by
        have h := HD.out.1.at_
        rw [List.take_of_length_le (by omega)] at h
        refine h.more ?_
        have h1 := notes_len l0 HS.out.2
        have h2 := HS.out.1
        have := Nat.mul_le_mul_left 100006 h2
        omega
      have HFIN := Aside0.mk hfin
      have BF := Aside0.mk (B2.out.trans (HD.out.1.mov.below hg hb B2.out.size))
      clear hfin hjn HD
      go_wp2
      go_ret
      first
        | exact ⟨g, rfl, b, HFIN.out, hg, hb, BF.out⟩
        | exact ⟨g, b, rfl, HFIN.out, hg, hb, BF.out⟩
end Go.Proofs.YteddljbdjgdlnaaDoor.St
end
section
namespace Go.Proofs.YteddljbdjgdlnaaDoor.St
open Go.RowKit Go.Proofs.YteddljbdjgdlnaaDoorW.PrintWords Go.Proofs.YteddljbdjgdlnaaDoorW.PrintLast Go.Proofs.YteddljbdjgdlnaaDoorW.PrintMore Go.WideMaps Go.Proofs.YteddljbdjgdlnaaDoor.XSb
set_option linter.unusedVariables false
set_option linter.unusedSimpArgs false
attribute [local go_sem ↓] Go.wp_at_zero Go.wp_at_succ
def row24 (f : Figs) : Array Value := (nm24.map fun s => Value.int .u64 (f s)).toArray
structure RAt (w : World) (g : Nat) (f : Figs) : Prop where
  cell : w.heap[g]? = some (.cells (row24 f) 31)
section
variable {w w' : World} {g : Nat} {f : Figs}
theorem RAt.lt (h : RAt w g f) : g < w.heap.size := blk_lt h.cell
theorem RAt.below (h : RAt w g f) (hb : Below w.heap.size w w') : RAt w' g f := ⟨(hb.block g h.lt).trans h.cell⟩
theorem RAt.mut {p q : Nat} (h : RAt w g f) (m : Mut p q w w') (h1 : g ≠ p) (h2 : g ≠ q) : RAt w' g f := ⟨(m.block g h.lt h1 h2).trans h.cell⟩
theorem RAt.get (h : RAt w g f) {j : Nat} {s : ByteArray} (hs : nm24[j]? = some s) : w.cell? ⟨g, j, none⟩ = some (.int .u64 (f s)) := by
  rw [fresh_cell h.cell]
  unfold row24
  rw [List.getElem?_toArray, List.getElem?_map, hs]
  rfl
theorem nm_inj : ∀ (j : Nat) (s : ByteArray) (k : Nat), nm24[j]? = some s → nm24[k]? = some s → j = k := by
  have h : ((List.range 24).all fun j => (List.range 24).all fun k => match nm24[j]?, nm24[k]? with | some s, some t => !(s.data.toList == t.data.toList) || decide (j = k) | _, _ => true) = true := by kernel_rfl
  intro j s k hj hk
  have h1 : j < 24 := (List.getElem?_eq_some_iff.1 hj).1
  have h2 : k < 24 := (List.getElem?_eq_some_iff.1 hk).1
  have h3 := List.all_eq_true.1 (List.all_eq_true.1 h j (List.mem_range.2 h1)) k (List.mem_range.2 h2)
  rw [hj, hk] at h3
  simpa using h3
theorem RAt.set (h : RAt w g f) {j : Nat} {s : ByteArray} (hs : nm24[j]? = some s) (n : Int) : RAt (w.setCell ⟨g, j, none⟩ (.int .u64 n)) g (upd f s n) := by
  refine ⟨?_⟩
  have e := h.cell
  have hh : (w.setCell ⟨g, j, none⟩ (.int .u64 n)).heap[g]? = some (.cells ((row24 f).setIfInBounds j (.int .u64 n)) 31) := by
    simp only [World.setCell]
    rw [Array.getElem?_modify, if_pos rfl, e]
    rfl
  rw [hh]
  have hr : (row24 f).setIfInBounds j (.int .u64 n) = row24 (upd f s n) := by
    unfold row24
    apply Array.ext'
    rw [List.setIfInBounds_toArray]
    apply List.ext_getElem?
    intro i
    show ((nm24.map fun s => Value.int .u64 (f s)).set j (.int .u64 n))[i]? = (nm24.map fun s' => Value.int .u64 (upd f s n s'))[i]?
    rw [List.getElem?_map, List.getElem?_set, List.getElem?_map]
    by_cases hij : j = i
    · subst hij
      have hlt : j < nm24.length := (List.getElem?_eq_some_iff.1 hs).1
      rw [if_pos rfl, if_pos (by rw [List.length_map]; exact hlt), hs]
      simp [upd_same]
    · rw [if_neg hij]
      cases hi : nm24[i]? with
      | none => rfl
      | some x =>
        have hx : x ≠ s := fun e => hij (nm_inj j s i hs (e ▸ hi))
        simp [upd_other _ _ hx]
  rw [hr]
end
theorem list_same (s : ByteArray) : (s.toList == s.toList) = true := beq_self_eq_true _
theorem list_ne {a b : ByteArray} (h : a ≠ b) : (a.toList == b.toList) = false := beq_eq_false_iff_ne.2 fun e => h (ba_ext (by rw [ByteArray.toList_eq, ByteArray.toList_eq] at e; exact e))
theorem names_r (w : World) : Calls Tryd.prog 40 #[] w fun e w' => ∃ ad c, e = .returned (.slice (some ad) 24 c) ∧ 24 ≤ c ∧ w.heap.size ≤ ad.block ∧ Names w' ad ∧ Below w.heap.size w w' :=
  (tallboyref32_Names.calls nm24 w rfl).mono fun e w' h => by
    obtain ⟨v, rfl, hR, hb⟩ := h
    obtain ⟨A, c, rfl, hc, hC⟩ := Kd.R_reads hR
    obtain ⟨inner, ho⟩ := Kd.R_own hR
    obtain ⟨ad, rfl, h0⟩ := at_str hC 0 Nm.cmd_get rfl
    refine ⟨ad, c, rfl, hc, own_base ho _ rfl, fun j s hs => ?_, hb⟩
    obtain ⟨ad', e, h1⟩ := at_str hC j s hs
    injection e with e
    rw [e]
    exact h1
set_option maxHeartbeats 4000000 in
set_option maxRecDepth 100000 in
theorem place_calls (w : World) (g j : Nat) (s : ByteArray) (hs : nm24[j]? = some s) :
    Calls Tryd.prog 67 #[.pointer (some ⟨g, 0, none⟩), .string s] w fun e w' => e = .returned (.int .i64 j) ∧ Below w.heap.size w w' := by
  have hj : j < 24 := (List.getElem?_eq_some_iff.1 hs).1
  have HS := Lib.hid hs
  clear hs
  go_enter Tryd.func67, Tryd.ntmps67
  go_wp2_with fail
  refine (names_r w).mono ?_
  rintro e w1 ⟨ad, c, rfl, hc, had, hN, hb1⟩
  have HN := Aside0.mk hN
  have HB := Aside0.mk hb1
  clear hN hb1 had
  go_wp2_with fail
  go_loopg [6] 24 (fun gg v6 wr => ∃ (i : Nat), v6 = .int .i64 i ∧ i ≤ j ∧ 24 - i ≤ gg ∧ wr = w1)
  case atStart => exact ⟨0, rfl, Nat.zero_le _, by omega, rfl⟩
  case round =>
    obtain ⟨i, rfl, hi, hgi, rfl⟩ := hrel
    have hii : (i : Int) < 24 := by omega
    by_cases h : i = j
    · subst h
      have hcell := HN.out i s HS.out
      have hq := list_same s
      go_wp2
      go_ret
      exact ⟨rfl, HB.out⟩
    · obtain ⟨s2, hs2⟩ := nm_at (show i < 24 by omega)
      have hcell := HN.out i s2 hs2
      have hq : (s2.toList == s.toList) = false := list_ne (fun e => h (nm_inj i s j (e ▸ hs2) HS.out))
      clear hs2
      go_wp2
      go_roundg (24 - (i + 1))
      case measure => omega
      case rel => exact ⟨i + 1, by go_num, by omega, by omega, rfl⟩
set_option maxHeartbeats 8000000 in
set_option maxRecDepth 100000 in
theorem rmore_calls (w : World) (g : Nat) (f : Figs) (s : ByteArray) (n : Int) (hA : RAt w g f) (hf : Okf f) (hin : has s nm24 = true) (hn : n ≤ 9223372036854775807) :
    Calls Tryd.prog 37 #[.pointer (some ⟨g, 0, none⟩), .string s, .int .i64 n] w fun e w' => e = .returned (.tuple #[]) ∧ RAt w' g (addF f s n) ∧ Mut g g w w' := by
  obtain ⟨j, hs⟩ := List.getElem?_of_mem (has_mem hin)
  have hj : j < 24 := (List.getElem?_eq_some_iff.1 hs).1
  have HS := Lib.hid hs
  have HA := Aside0.mk hA
  clear hA hin hs
  by_cases h0 : 0 < n
  · obtain ⟨m, hm⟩ : ∃ m, m = f s := ⟨_, rfl⟩
    have C0 : Aside0 (w.cell? ⟨g, j, none⟩ = some (.int .u64 m)) := ⟨by rw [hm]; exact HA.out.get HS.out⟩
    have hxw : (IntKind.u64.wrap n) = n := by rw [IntKind.wrap_u64]; omega
    have hmw : (IntKind.u64.wrap (m + n)) = (m + n) % 18446744073709551616 := by rw [IntKind.wrap_u64]
    have HM := Lib.hid hm
    have BN := Aside0.mk (Below.refl w.heap.size w).drew
    have hji : (j : Int) < 24 := by omega
    clear hm
    go_enter Tryd.func37, Tryd.ntmps37
    go_upto_region 1 with fail
    go_region_with (go_at_call 67; with_reducible refine (place_calls _ g j s HS.out).mono ?_; rintro e wa ⟨rfl, hb⟩; (have BN' := Aside0.mk (BN.out.trans (hb.mono BN.out.size))); clear BN; (have BN := BN'); clear BN' hb; (have cN := keepC BN.out C0.out); (have fN := fresh_frozen (HA.out.below BN.out).cell j))
    all_goals
      have RN := Aside0.mk ((HA.out.below BN.out).set HS.out ((m + n) % 18446744073709551616))
      have MN := Aside0.mk ((Mut.of_below (g := g) (b := g) BN.out).setCell (p := ⟨g, j, none⟩) (.inr (.inl rfl)) (.int .u64 ((m + n) % 18446744073709551616)))
      go_wp2
      go_end0
      refine ⟨rfl, ?_, MN.out⟩
      have e : addF f s n = upd f s ((m + n) % 18446744073709551616) := by
        unfold addF
        rw [if_pos h0, HM.out]
      rw [e]
      exact RN.out
  · have e : addF f s n = f := by
      unfold addF
      rw [if_neg h0]
      funext x
      unfold upd
      split
      · rename_i hx
        rw [hx]
        have := hf s
        omega
      · rfl
    have HE := Lib.hid e
    clear e
    go_enter Tryd.func37, Tryd.ntmps37
    go_wp2
    go_end0
    rw [HE.out]
    exact ⟨rfl, HA.out, Mut.refl g g w⟩
structure RDid (w0 w : World) (g : Nat) (f : Figs) (l : Inc) : Prop where
  at_ : RAt w g (app f l)
  mov : Mut g g w0 w
theorem RDid.start {w : World} {g : Nat} {f : Figs} (h : RAt w g f) : RDid w w g f [] := ⟨h, Mut.refl g g w⟩
theorem RDid.below {w0 w w' : World} {g : Nat} {f : Figs} {l : Inc} (h : RDid w0 w g f l) (hb : Below w.heap.size w w') : RDid w0 w' g f l := ⟨h.at_.below hb, h.mov.then_below hb⟩
theorem RDid.then {w0 w w' : World} {g : Nat} {f : Figs} {l k : Inc} (h : RDid w0 w g f l) (d : RDid w w' g (app f l) k) : RDid w0 w' g f (l ++ k) := ⟨by rw [app_append]; exact d.at_, h.mov.trans d.mov⟩
theorem RDid.from {w0 w1 w : World} {g : Nat} {f : Figs} {l : Inc} (h : RDid w1 w g f l) (hb : Below w0.heap.size w0 w1) : RDid w0 w g f l := ⟨h.at_, (Mut.of_below hb).trans h.mov⟩
structure RBx (W0 w : World) (g : Nat) (f : Figs) (l : Inc) (T : Nat) (e : Ev) : Prop where
  did : RDid W0 w g f l
  box : w.heap[T]? = some (.cells e.cells 42)
  ne : T ≠ g
  ok : Okf f
section
variable {W0 w w' : World} {g : Nat} {f : Figs} {l k : Inc} {T : Nat} {e : Ev}
theorem RBx.start (h : RAt w g f) (hf : Okf f) (e : Ev) : RBx (w.alloc (.cells e.cells 42)) (w.alloc (.cells e.cells 42)) g f [] w.heap.size e :=
  ⟨RDid.start (h.below ((Below.refl _ w).alloc (Nat.le_refl _) _)), heap_alloc_new _ _, Nat.ne_of_gt h.lt, hf⟩
theorem RBx.then (h : RBx W0 w g f l T e) (d : RDid w w' g (app f l) k) : RBx W0 w' g f (l ++ k) T e := ⟨h.did.then d, d.mov.heap h.box h.ne h.ne, h.ne, h.ok⟩
theorem RBx.below (h : RBx W0 w g f l T e) (hb : Below w.heap.size w w') : RBx W0 w' g f l T e := ⟨h.did.below hb, (hb.block T (blk_lt h.box)).trans h.box, h.ne, h.ok⟩
theorem RBx.cells (h : RBx W0 w g f l T e) :
    w.cell? ⟨T, 0, none⟩ = some (.int .i64 e.who) ∧ w.cell? ⟨T, 1, none⟩ = some (.int .i64 e.kind) ∧ w.cell? ⟨T, 2, none⟩ = some (.slice e.ka e.nk e.kc) ∧ w.cell? ⟨T, 10, none⟩ = some (.int .i64 e.code) ∧ w.cell? ⟨T, 11, none⟩ = some (.slice e.ha e.nh e.hc) ∧ w.cell? ⟨T, 13, none⟩ = some (.slice e.da e.nd e.dc) :=
  ⟨fresh_cell h.box 0, fresh_cell h.box 1, fresh_cell h.box 2, fresh_cell h.box 10, fresh_cell h.box 11, fresh_cell h.box 13⟩
theorem rmore_b (h : RBx W0 w g f l T e) (s : ByteArray) (n : Int) (hin : has s nm24 = true) (hn : n ≤ 9223372036854775807) :
    Calls Tryd.prog 37 #[.pointer (some ⟨g, 0, none⟩), .string s, .int .i64 n] w fun x w' => x = .returned (.tuple #[]) ∧ RBx W0 w' g f (l ++ [(s, n)]) T e ∧ Mut g g w w' :=
  (rmore_calls w g _ s n h.did.at_ (ok_app h.ok) hin hn).mono fun e w' h' => ⟨h'.1, h.then ⟨h'.2.1, h'.2.2⟩, h'.2.2⟩
end
def toldI (code good : Int) (hit miss : ByteArray) : Inc := if code = good then [(hit, 1)] else if code = 5 then [(miss, 1)] else []
set_option maxHeartbeats 2000000 in
theorem told_calls (w : World) (g : Nat) (f : Figs) (code good : Int) (hit miss : ByteArray) (hA : RAt w g f) (hf : Okf f) (h1 : has hit nm24 = true) (h2 : has miss nm24 = true) :
    Calls Tryd.prog 39 #[.pointer (some ⟨g, 0, none⟩), .int .i64 code, .int .i64 good, .string hit, .string miss] w fun x w' => x = .returned (.tuple #[]) ∧ RDid w w' g f (toldI code good hit miss) := by
  have HA := Aside0.mk hA
  have HF := Aside0.mk hf
  have H1 := Aside0.mk h1
  have H2 := Aside0.mk h2
  clear hA hf h1 h2
  go_enter Tryd.func39, Tryd.ntmps39
  by_cases h : code = good
  · have HI := Lib.hid (show toldI code good hit miss = [(hit, 1)] from if_pos h)
    have e1 : (code == good) = true := beq_iff_eq.2 h
    clear h
    go_wp2_with fail
    refine (rmore_calls w g f hit 1 HA.out HF.out H1.out (by decide)).mono ?_
    rintro x w1 ⟨rfl, hB, hM⟩
    have B1 := Aside0.mk (RDid.mk (l := [(hit, 1)]) hB hM)
    clear hB hM
    go_wp2
    go_end0
    rw [HI.out]
    exact ⟨rfl, B1.out⟩
  · have e1 : (code == good) = false := beq_eq_false_iff_ne.2 h
    by_cases h5 : code = 5
    · have HI := Lib.hid (show toldI code good hit miss = [(miss, 1)] from (if_neg h).trans (if_pos h5))
      have e2 : (code == 5) = true := beq_iff_eq.2 h5
      clear h h5
      go_wp2_with fail
      refine (rmore_calls w g f miss 1 HA.out HF.out H2.out (by decide)).mono ?_
      rintro x w1 ⟨rfl, hB, hM⟩
      have B1 := Aside0.mk (RDid.mk (l := [(miss, 1)]) hB hM)
      clear hB hM
      go_wp2
      go_end0
      rw [HI.out]
      exact ⟨rfl, B1.out⟩
    · have HI := Lib.hid (show toldI code good hit miss = [] from (if_neg h).trans (if_neg h5))
      have e2 : (code == 5) = false := beq_eq_false_iff_ne.2 h5
      clear h h5
      go_wp2
      go_end0
      rw [HI.out]
      exact ⟨rfl, RDid.start HA.out⟩
theorem told_b {W0 w : World} {g : Nat} {f : Figs} {l : Inc} {T : Nat} {e : Ev} (h : RBx W0 w g f l T e) (code good : Int) (hit miss : ByteArray) (h1 : has hit nm24 = true) (h2 : has miss nm24 = true) :
    Calls Tryd.prog 39 #[.pointer (some ⟨g, 0, none⟩), .int .i64 code, .int .i64 good, .string hit, .string miss] w fun x w' => x = .returned (.tuple #[]) ∧ RBx W0 w' g f (l ++ toldI code good hit miss) T e :=
  (told_calls w g _ code good hit miss h.did.at_ (ok_app h.ok) h1 h2).mono fun e w' h' => ⟨h'.1, h.then h'.2⟩
theorem told_found (what : ByteArray) {hit miss : ByteArray} (code good : Int) (e1 : what ++ hits = hit) (e2 : what ++ misses = miss) : foundI what code good = toldI code good hit miss := by
  subst e1 e2
  rfl
end Go.Proofs.YteddljbdjgdlnaaDoor.St
end
section
namespace Go.Proofs.YteddljbdjgdlnaaDoor.St
open Go.RowKit Go.Proofs.YteddljbdjgdlnaaDoorW.PrintWords Go.Proofs.YteddljbdjgdlnaaDoorW.PrintLast Go.Proofs.YteddljbdjgdlnaaDoorW.PrintMore Go.WideMaps Go.Proofs.YteddljbdjgdlnaaDoor.XSb
set_option linter.unusedVariables false
set_option linter.unusedSimpArgs false
attribute [local go_sem ↓] Go.wp_at_zero Go.wp_at_succ
theorem below_d {w w' : World} (h : Drawn0 w w') : Below w.heap.size w w' := by
  obtain ⟨n, rfl⟩ := h
  exact below_drewN _ _
theorem told_m {W0 w : World} {g : Nat} {f : Figs} {l : Inc} {T : Nat} {e : Ev} (h : RBx W0 w g f l T e) (code good : Int) (hit miss : ByteArray) (h1 : has hit nm24 = true) (h2 : has miss nm24 = true) :
    Calls Tryd.prog 39 #[.pointer (some ⟨g, 0, none⟩), .int .i64 code, .int .i64 good, .string hit, .string miss] w fun x w' => x = .returned (.tuple #[]) ∧ RBx W0 w' g f (l ++ toldI code good hit miss) T e ∧ Mut g g w w' :=
  (told_calls w g _ code good hit miss h.did.at_ (ok_app h.ok) h1 h2).mono fun e w' h' => ⟨h'.1, h.then h'.2, h'.2.mov⟩
theorem reads_none {k : Int} (h : ¬ (1 ≤ k ∧ k ≤ 15)) : tallboyref15_Reads.f k = some false := by
  unfold tallboyref15_Reads.f
  split
  · rw [show decide (k ≤ 4) = false from decide_eq_false (by omega)]
  · rfl
theorem stores_none {k : Int} (h : ¬ (1 ≤ k ∧ k ≤ 15)) : tallboyref15_Stores.f k = some false := by
  unfold tallboyref15_Stores.f
  split
  · rw [show decide (k ≤ 10) = false from decide_eq_false (by omega)]
  · rfl
theorem reads_some (k : Int) : ∃ r, tallboyref15_Reads.f k = some r := by
  unfold tallboyref15_Reads.f
  split
  · exact ⟨_, rfl⟩
  · exact ⟨_, rfl⟩
theorem foundI_cas (code : Int) : foundI Wt.cas code 2 = toldI code 2 Nm.cas_hits Nm.cas_misses := told_found _ _ _ (by kernel_rfl) (by kernel_rfl)
theorem foundI_delete (code : Int) : foundI Wt.delete code 6 = toldI code 6 Nm.delete_hits Nm.delete_misses := told_found _ _ _ (by kernel_rfl) (by kernel_rfl)
theorem foundI_incr (code : Int) : foundI Wt.incr code 7 = toldI code 7 Nm.incr_hits Nm.incr_misses := told_found _ _ _ (by kernel_rfl) (by kernel_rfl)
theorem foundI_decr (code : Int) : foundI Wt.decr code 7 = toldI code 7 Nm.decr_hits Nm.decr_misses := told_found _ _ _ (by kernel_rfl) (by kernel_rfl)
theorem foundI_touch (code : Int) : foundI Wt.touch code 9 = toldI code 9 Nm.touch_hits Nm.touch_misses := told_found _ _ _ (by kernel_rfl) (by kernel_rfl)
set_option maxHeartbeats 16000000 in
set_option maxRecDepth 100000 in
theorem RNote_calls (w : World) (g : Nat) (f : Figs) (e : Ev) (whys : List Int) (hA : RAt w g f) (hf : Okf f) (hl : whys.length = e.nd) (hD : DropsAt w g g e.da whys) (hw : whys.length ≤ maxLen) (hk : e.nk ≤ maxLen) (hh : e.nh ≤ maxLen) :
    Calls Tryd.prog 10 #[.pointer (some ⟨g, 0, none⟩), .agg e.cells] w fun x w' => x = .returned (.tuple #[]) ∧ RDid w w' g f (noteI e.kind e.nk e.nh e.code whys) := by
  have B0 := Aside0.mk (RBx.start hA hf e)
  have HB := Aside0.mk ((Below.refl w.heap.size w).alloc (Nat.le_refl _) (.cells e.cells 42))
  have HD := Aside0.mk (hD.below HB.out)
  obtain ⟨t0, t1, t2, t10, t11, t13⟩ := B0.out.cells
  have hndm : (e.nd : Int) ≤ 9223372036854775807 := by unfold maxLen at hw; omega
  have hnkm : (e.nk : Int) ≤ 9223372036854775807 := by unfold maxLen at hk; omega
  have hnhm : (e.nh : Int) ≤ 9223372036854775807 := by unfold maxLen at hh; omega
  have HL := Lib.hid hl
  clear hA hf hD hl hk hh hw
  unfold Ev.cells
  go_enter Tryd.func10, Tryd.ntmps10
  go_upto_region 1 with fail
  change Code.wp _ _ _ _ (w.alloc (.cells e.cells 42))
  obtain ⟨W0, hW0⟩ : ∃ W0, W0 = w.alloc (.cells e.cells 42) := ⟨_, rfl⟩
  obtain ⟨T, hT⟩ : ∃ T, T = w.heap.size := ⟨_, rfl⟩
  rw [← hW0] at B0 HB HD t0 t1 t2 t10 t11 t13 ⊢
  rw [← hT] at B0 t0 t1 t2 t10 t11 t13 ⊢
  clear hW0 hT
  go_quiet (fail)
  go_upto_block 0 with fail
  go_cut [15] (fun v15 wc => Aside0 (RBx W0 wc g f ([] ++ commandI e.kind e.nk e.nh e.code) T e) ∧ Aside0 (DropsAt wc g g e.da whys))
  case first =>
    obtain ⟨rd, hrd⟩ : ∃ rd, tallboyref15_Reads.f e.kind = some rd := reads_some e.kind
    go_wp2_with fail
    refine (tallboyref15_Reads.calls e.kind rd _ hrd).mono ?_
    rintro x w1 ⟨rfl, hd⟩
    have B1 := Aside0.mk ((B0.out.below (below_drewN _ _)).below (below_d hd))
    have HD1 := Aside0.mk ((HD.out.below (below_drewN _ _)).below (below_d hd))
    have HRD := Lib.hid hrd
    clear hd hrd B0 HD t0 t1 t2 t10 t11 t13
    obtain ⟨t0, t1, t2, t10, t11, t13⟩ := B1.out.cells
    clear t0 t1 t10 t13
    have hcase : e.kind = 1 ∨ e.kind = 2 ∨ e.kind = 3 ∨ e.kind = 4 ∨ e.kind = 5 ∨ e.kind = 6 ∨ e.kind = 7 ∨ e.kind = 8 ∨ e.kind = 9 ∨ e.kind = 10 ∨ e.kind = 11 ∨ e.kind = 12 ∨ e.kind = 13 ∨ e.kind = 14 ∨ e.kind = 15 ∨ ¬ (1 ≤ e.kind ∧ e.kind ≤ 15) := by omega
    rcases hcase with h | h | h | h | h | h | h | h | h | h | h | h | h | h | h | h
    · have HI := Lib.hid (show commandI e.kind e.nk e.nh e.code = [(Nm.cmd_get, (e.nk : Int)), (Nm.get_hits, (e.nh : Int)), (Nm.get_misses, (e.nk : Int) - e.nh)] by unfold commandI; rw [h]; rfl)
      obtain rfl : rd = true := Option.some.inj (HRD.out.symm.trans (show tallboyref15_Reads.f e.kind = some true by rw [h]; rfl))
      have q3 : (e.kind == 3) = false := by rw [h]; rfl
      have q4 : (e.kind == 4) = false := by rw [h]; rfl
      clear h
      go_wp2_with fail
      go_quiet (fail)
      have HD1q : ∀ n, DropsAt (w1.drewN n) g g e.da whys := fun n => HD1.out.below (below_drewN _ _)
      go_wp2_with fail
      refine (rmore_b (RBx.below B1.out (below_drewN _ _)) Nm.cmd_get e.nk (by kernel_rfl) (by omega)).mono ?_
      rintro x w2 ⟨rfl, hB, hM⟩
      have B2 := Aside0.mk hB
      have HD2 := Aside0.mk ((HD1.out.below (below_drewN _ _)).mov hM)
      clear hB hM B1 HD1 HD1q t2 t11
      go_wp2_with fail
      refine (rmore_b B2.out Nm.get_hits e.nh (by kernel_rfl) (by omega)).mono ?_
      rintro x w3 ⟨rfl, hB, hM⟩
      have B3 := Aside0.mk hB
      have HD3 := Aside0.mk (HD2.out.mov hM)
      clear hB hM B2 HD2
      go_wp2_with fail
      refine (rmore_b B3.out Nm.get_misses (e.nk - e.nh) (by kernel_rfl) (by omega)).mono ?_
      rintro x w4 ⟨rfl, hB, hM⟩
      have B4 := Aside0.mk hB
      have HD4 := Aside0.mk (HD3.out.mov hM)
      clear hB hM B3 HD3
      go_wp2_with fail
      go_meet
      case rel =>
        rw [HI.out]
        exact ⟨B4, HD4⟩
    · have HI := Lib.hid (show commandI e.kind e.nk e.nh e.code = [(Nm.cmd_get, (e.nk : Int)), (Nm.get_hits, (e.nh : Int)), (Nm.get_misses, (e.nk : Int) - e.nh)] by unfold commandI; rw [h]; rfl)
      obtain rfl : rd = true := Option.some.inj (HRD.out.symm.trans (show tallboyref15_Reads.f e.kind = some true by rw [h]; rfl))
      have q3 : (e.kind == 3) = false := by rw [h]; rfl
      have q4 : (e.kind == 4) = false := by rw [h]; rfl
      clear h
      go_wp2_with fail
      go_quiet (fail)
      have HD1q : ∀ n, DropsAt (w1.drewN n) g g e.da whys := fun n => HD1.out.below (below_drewN _ _)
      go_wp2_with fail
      refine (rmore_b (RBx.below B1.out (below_drewN _ _)) Nm.cmd_get e.nk (by kernel_rfl) (by omega)).mono ?_
      rintro x w2 ⟨rfl, hB, hM⟩
      have B2 := Aside0.mk hB
      have HD2 := Aside0.mk ((HD1.out.below (below_drewN _ _)).mov hM)
      clear hB hM B1 HD1 HD1q t2 t11
      go_wp2_with fail
      refine (rmore_b B2.out Nm.get_hits e.nh (by kernel_rfl) (by omega)).mono ?_
      rintro x w3 ⟨rfl, hB, hM⟩
      have B3 := Aside0.mk hB
      have HD3 := Aside0.mk (HD2.out.mov hM)
      clear hB hM B2 HD2
      go_wp2_with fail
      refine (rmore_b B3.out Nm.get_misses (e.nk - e.nh) (by kernel_rfl) (by omega)).mono ?_
      rintro x w4 ⟨rfl, hB, hM⟩
      have B4 := Aside0.mk hB
      have HD4 := Aside0.mk (HD3.out.mov hM)
      clear hB hM B3 HD3
      go_wp2_with fail
      go_meet
      case rel =>
        rw [HI.out]
        exact ⟨B4, HD4⟩
    · have HI := Lib.hid (show commandI e.kind e.nk e.nh e.code = [(Nm.cmd_get, (e.nk : Int)), (Nm.get_hits, (e.nh : Int)), (Nm.get_misses, (e.nk : Int) - e.nh), (Nm.cmd_touch, (e.nh : Int)), (Nm.touch_hits, (e.nh : Int))] by unfold commandI; rw [h]; rfl)
      obtain rfl : rd = true := Option.some.inj (HRD.out.symm.trans (show tallboyref15_Reads.f e.kind = some true by rw [h]; rfl))
      have q3 : (e.kind == 3) = true := by rw [h]; rfl
      clear h
      go_wp2_with fail
      go_quiet (fail)
      have HD1q : ∀ n, DropsAt (w1.drewN n) g g e.da whys := fun n => HD1.out.below (below_drewN _ _)
      go_wp2_with fail
      refine (rmore_b (RBx.below B1.out (below_drewN _ _)) Nm.cmd_get e.nk (by kernel_rfl) (by omega)).mono ?_
      rintro x w2 ⟨rfl, hB, hM⟩
      have B2 := Aside0.mk hB
      have HD2 := Aside0.mk ((HD1.out.below (below_drewN _ _)).mov hM)
      clear hB hM B1 HD1 HD1q t2 t11
      go_wp2_with fail
      refine (rmore_b B2.out Nm.get_hits e.nh (by kernel_rfl) (by omega)).mono ?_
      rintro x w3 ⟨rfl, hB, hM⟩
      have B3 := Aside0.mk hB
      have HD3 := Aside0.mk (HD2.out.mov hM)
      clear hB hM B2 HD2
      go_wp2_with fail
      refine (rmore_b B3.out Nm.get_misses (e.nk - e.nh) (by kernel_rfl) (by omega)).mono ?_
      rintro x w4 ⟨rfl, hB, hM⟩
      have B4 := Aside0.mk hB
      have HD4 := Aside0.mk (HD3.out.mov hM)
      clear hB hM B3 HD3
      go_wp2_with fail
      refine (rmore_b B4.out Nm.cmd_touch e.nh (by kernel_rfl) (by omega)).mono ?_
      rintro x w5 ⟨rfl, hB, hM⟩
      have B5 := Aside0.mk hB
      have HD5 := Aside0.mk (HD4.out.mov hM)
      clear hB hM B4 HD4
      go_wp2_with fail
      refine (rmore_b B5.out Nm.touch_hits e.nh (by kernel_rfl) (by omega)).mono ?_
      rintro x w6 ⟨rfl, hB, hM⟩
      have B6 := Aside0.mk hB
      have HD6 := Aside0.mk (HD5.out.mov hM)
      clear hB hM B5 HD5
      go_wp2_with fail
      go_meet
      case rel =>
        rw [HI.out]
        exact ⟨B6, HD6⟩
    · have HI := Lib.hid (show commandI e.kind e.nk e.nh e.code = [(Nm.cmd_get, (e.nk : Int)), (Nm.get_hits, (e.nh : Int)), (Nm.get_misses, (e.nk : Int) - e.nh), (Nm.cmd_touch, (e.nh : Int)), (Nm.touch_hits, (e.nh : Int))] by unfold commandI; rw [h]; rfl)
      obtain rfl : rd = true := Option.some.inj (HRD.out.symm.trans (show tallboyref15_Reads.f e.kind = some true by rw [h]; rfl))
      have q3 : (e.kind == 3) = false := by rw [h]; rfl
      have q4 : (e.kind == 4) = true := by rw [h]; rfl
      clear h
      go_wp2_with fail
      go_quiet (fail)
      have HD1q : ∀ n, DropsAt (w1.drewN n) g g e.da whys := fun n => HD1.out.below (below_drewN _ _)
      go_wp2_with fail
      refine (rmore_b (RBx.below B1.out (below_drewN _ _)) Nm.cmd_get e.nk (by kernel_rfl) (by omega)).mono ?_
      rintro x w2 ⟨rfl, hB, hM⟩
      have B2 := Aside0.mk hB
      have HD2 := Aside0.mk ((HD1.out.below (below_drewN _ _)).mov hM)
      clear hB hM B1 HD1 HD1q t2 t11
      go_wp2_with fail
      refine (rmore_b B2.out Nm.get_hits e.nh (by kernel_rfl) (by omega)).mono ?_
      rintro x w3 ⟨rfl, hB, hM⟩
      have B3 := Aside0.mk hB
      have HD3 := Aside0.mk (HD2.out.mov hM)
      clear hB hM B2 HD2
      go_wp2_with fail
      refine (rmore_b B3.out Nm.get_misses (e.nk - e.nh) (by kernel_rfl) (by omega)).mono ?_
      rintro x w4 ⟨rfl, hB, hM⟩
      have B4 := Aside0.mk hB
      have HD4 := Aside0.mk (HD3.out.mov hM)
      clear hB hM B3 HD3
      go_wp2_with fail
      refine (rmore_b B4.out Nm.cmd_touch e.nh (by kernel_rfl) (by omega)).mono ?_
      rintro x w5 ⟨rfl, hB, hM⟩
      have B5 := Aside0.mk hB
      have HD5 := Aside0.mk (HD4.out.mov hM)
      clear hB hM B4 HD4
      go_wp2_with fail
      refine (rmore_b B5.out Nm.touch_hits e.nh (by kernel_rfl) (by omega)).mono ?_
      rintro x w6 ⟨rfl, hB, hM⟩
      have B6 := Aside0.mk hB
      have HD6 := Aside0.mk (HD5.out.mov hM)
      clear hB hM B5 HD5
      go_wp2_with fail
      go_meet
      case rel =>
        rw [HI.out]
        exact ⟨B6, HD6⟩
    · have HI := Lib.hid (show commandI e.kind e.nk e.nh e.code = [(Nm.cmd_set, 1)] by unfold commandI; rw [h]; rfl)
      obtain rfl : rd = false := Option.some.inj (HRD.out.symm.trans (show tallboyref15_Reads.f e.kind = some false by rw [h]; rfl))
      have q10 : (e.kind == 10) = false := by rw [h]; rfl
      have HST := Lib.hid (show tallboyref15_Stores.f e.kind = some true by rw [h]; rfl)
      clear h
      go_wp2_with fail
      refine (tallboyref15_Stores.calls e.kind true _ HST.out).mono ?_
      rintro x w2 ⟨rfl, hd⟩
      have B2 := Aside0.mk (B1.out.below (below_d hd))
      have HD2 := Aside0.mk (HD1.out.below (below_d hd))
      clear hd B1 HD1
      go_wp2_with fail
      refine (rmore_b B2.out Nm.cmd_set 1 (by kernel_rfl) (by decide)).mono ?_
      rintro x w3 ⟨rfl, hB, hM⟩
      have B3 := Aside0.mk hB
      have HD3 := Aside0.mk (HD2.out.mov hM)
      clear hB hM B2 HD2
      go_wp2_with fail
      go_meet
      case rel =>
        rw [HI.out]
        exact ⟨B3, HD3⟩
    · have HI := Lib.hid (show commandI e.kind e.nk e.nh e.code = [(Nm.cmd_set, 1)] by unfold commandI; rw [h]; rfl)
      obtain rfl : rd = false := Option.some.inj (HRD.out.symm.trans (show tallboyref15_Reads.f e.kind = some false by rw [h]; rfl))
      have q10 : (e.kind == 10) = false := by rw [h]; rfl
      have HST := Lib.hid (show tallboyref15_Stores.f e.kind = some true by rw [h]; rfl)
      clear h
      go_wp2_with fail
      refine (tallboyref15_Stores.calls e.kind true _ HST.out).mono ?_
      rintro x w2 ⟨rfl, hd⟩
      have B2 := Aside0.mk (B1.out.below (below_d hd))
      have HD2 := Aside0.mk (HD1.out.below (below_d hd))
      clear hd B1 HD1
      go_wp2_with fail
      refine (rmore_b B2.out Nm.cmd_set 1 (by kernel_rfl) (by decide)).mono ?_
      rintro x w3 ⟨rfl, hB, hM⟩
      have B3 := Aside0.mk hB
      have HD3 := Aside0.mk (HD2.out.mov hM)
      clear hB hM B2 HD2
      go_wp2_with fail
      go_meet
      case rel =>
        rw [HI.out]
        exact ⟨B3, HD3⟩
    · have HI := Lib.hid (show commandI e.kind e.nk e.nh e.code = [(Nm.cmd_set, 1)] by unfold commandI; rw [h]; rfl)
      obtain rfl : rd = false := Option.some.inj (HRD.out.symm.trans (show tallboyref15_Reads.f e.kind = some false by rw [h]; rfl))
      have q10 : (e.kind == 10) = false := by rw [h]; rfl
      have HST := Lib.hid (show tallboyref15_Stores.f e.kind = some true by rw [h]; rfl)
      clear h
      go_wp2_with fail
      refine (tallboyref15_Stores.calls e.kind true _ HST.out).mono ?_
      rintro x w2 ⟨rfl, hd⟩
      have B2 := Aside0.mk (B1.out.below (below_d hd))
      have HD2 := Aside0.mk (HD1.out.below (below_d hd))
      clear hd B1 HD1
      go_wp2_with fail
      refine (rmore_b B2.out Nm.cmd_set 1 (by kernel_rfl) (by decide)).mono ?_
      rintro x w3 ⟨rfl, hB, hM⟩
      have B3 := Aside0.mk hB
      have HD3 := Aside0.mk (HD2.out.mov hM)
      clear hB hM B2 HD2
      go_wp2_with fail
      go_meet
      case rel =>
        rw [HI.out]
        exact ⟨B3, HD3⟩
    · have HI := Lib.hid (show commandI e.kind e.nk e.nh e.code = [(Nm.cmd_set, 1)] by unfold commandI; rw [h]; rfl)
      obtain rfl : rd = false := Option.some.inj (HRD.out.symm.trans (show tallboyref15_Reads.f e.kind = some false by rw [h]; rfl))
      have q10 : (e.kind == 10) = false := by rw [h]; rfl
      have HST := Lib.hid (show tallboyref15_Stores.f e.kind = some true by rw [h]; rfl)
      clear h
      go_wp2_with fail
      refine (tallboyref15_Stores.calls e.kind true _ HST.out).mono ?_
      rintro x w2 ⟨rfl, hd⟩
      have B2 := Aside0.mk (B1.out.below (below_d hd))
      have HD2 := Aside0.mk (HD1.out.below (below_d hd))
      clear hd B1 HD1
      go_wp2_with fail
      refine (rmore_b B2.out Nm.cmd_set 1 (by kernel_rfl) (by decide)).mono ?_
      rintro x w3 ⟨rfl, hB, hM⟩
      have B3 := Aside0.mk hB
      have HD3 := Aside0.mk (HD2.out.mov hM)
      clear hB hM B2 HD2
      go_wp2_with fail
      go_meet
      case rel =>
        rw [HI.out]
        exact ⟨B3, HD3⟩
    · have HI := Lib.hid (show commandI e.kind e.nk e.nh e.code = [(Nm.cmd_set, 1)] by unfold commandI; rw [h]; rfl)
      obtain rfl : rd = false := Option.some.inj (HRD.out.symm.trans (show tallboyref15_Reads.f e.kind = some false by rw [h]; rfl))
      have q10 : (e.kind == 10) = false := by rw [h]; rfl
      have HST := Lib.hid (show tallboyref15_Stores.f e.kind = some true by rw [h]; rfl)
      clear h
      go_wp2_with fail
      refine (tallboyref15_Stores.calls e.kind true _ HST.out).mono ?_
      rintro x w2 ⟨rfl, hd⟩
      have B2 := Aside0.mk (B1.out.below (below_d hd))
      have HD2 := Aside0.mk (HD1.out.below (below_d hd))
      clear hd B1 HD1
      go_wp2_with fail
      refine (rmore_b B2.out Nm.cmd_set 1 (by kernel_rfl) (by decide)).mono ?_
      rintro x w3 ⟨rfl, hB, hM⟩
      have B3 := Aside0.mk hB
      have HD3 := Aside0.mk (HD2.out.mov hM)
      clear hB hM B2 HD2
      go_wp2_with fail
      go_meet
      case rel =>
        rw [HI.out]
        exact ⟨B3, HD3⟩
    · have HI := Lib.hid (show commandI e.kind e.nk e.nh e.code = [(Nm.cmd_set, 1)] ++ toldI e.code 2 Nm.cas_hits Nm.cas_misses ++ if e.code = 4 then [(Nm.cas_badval, 1)] else [] by unfold commandI; rw [h, foundI_cas]; rfl)
      obtain rfl : rd = false := Option.some.inj (HRD.out.symm.trans (show tallboyref15_Reads.f e.kind = some false by rw [h]; rfl))
      have q10 : (e.kind == 10) = true := by rw [h]; rfl
      have HST := Lib.hid (show tallboyref15_Stores.f e.kind = some true by rw [h]; rfl)
      clear h
      go_wp2_with fail
      refine (tallboyref15_Stores.calls e.kind true _ HST.out).mono ?_
      rintro x w2 ⟨rfl, hd⟩
      have B2 := Aside0.mk (B1.out.below (below_d hd))
      have HD2 := Aside0.mk (HD1.out.below (below_d hd))
      clear hd B1 HD1
      go_wp2_with fail
      refine (rmore_b B2.out Nm.cmd_set 1 (by kernel_rfl) (by decide)).mono ?_
      rintro x w3 ⟨rfl, hB, hM⟩
      have B3 := Aside0.mk hB
      have HD3 := Aside0.mk (HD2.out.mov hM)
      clear hB hM B2 HD2
      go_wp2_with fail
      refine (told_m B3.out e.code 2 Nm.cas_hits Nm.cas_misses (by kernel_rfl) (by kernel_rfl)).mono ?_
      rintro x w4 ⟨rfl, hB, hM⟩
      have B4 := Aside0.mk hB
      have HD4 := Aside0.mk (HD3.out.mov hM)
      clear hB hM B3 HD3
      by_cases h4 : e.code = 4
      · have r4 : (e.code == 4) = true := beq_iff_eq.2 h4
        rw [if_pos h4] at HI
        clear h4
        go_wp2_with fail
        refine (rmore_b B4.out Nm.cas_badval 1 (by kernel_rfl) (by decide)).mono ?_
        rintro x w5 ⟨rfl, hB, hM⟩
        have B5 := Aside0.mk hB
        have HD5 := Aside0.mk (HD4.out.mov hM)
        clear hB hM B4 HD4
        go_wp2_with fail
        go_meet
        case rel =>
          rw [HI.out]
          exact ⟨B5, HD5⟩
      · have r4 : (e.code == 4) = false := beq_eq_false_iff_ne.2 h4
        rw [if_neg h4, List.append_nil] at HI
        clear h4
        go_wp2_with fail
        go_meet
        case rel =>
          rw [HI.out]
          exact ⟨B4, HD4⟩
    · have HI := Lib.hid (show commandI e.kind e.nk e.nh e.code = toldI e.code 6 Nm.delete_hits Nm.delete_misses by unfold commandI; rw [h]; exact foundI_delete e.code)
      obtain rfl : rd = false := Option.some.inj (HRD.out.symm.trans (show tallboyref15_Reads.f e.kind = some false by rw [h]; rfl))
      have q11 : (e.kind == 11) = true := by rw [h]; rfl
      have HST := Lib.hid (show tallboyref15_Stores.f e.kind = some false by rw [h]; rfl)
      clear h
      go_wp2_with fail
      refine (tallboyref15_Stores.calls e.kind false _ HST.out).mono ?_
      rintro x w2 ⟨rfl, hd⟩
      have B2 := Aside0.mk (B1.out.below (below_d hd))
      have HD2 := Aside0.mk (HD1.out.below (below_d hd))
      clear hd B1 HD1
      go_wp2_with fail
      refine (told_m B2.out e.code 6 Nm.delete_hits Nm.delete_misses (by kernel_rfl) (by kernel_rfl)).mono ?_
      rintro x w3 ⟨rfl, hB, hM⟩
      have B3 := Aside0.mk hB
      have HD3 := Aside0.mk (HD2.out.mov hM)
      clear hB hM B2 HD2
      go_wp2_with fail
      go_meet
      case rel =>
        rw [HI.out]
        exact ⟨B3, HD3⟩
    · have HI := Lib.hid (show commandI e.kind e.nk e.nh e.code = toldI e.code 7 Nm.incr_hits Nm.incr_misses by unfold commandI; rw [h]; exact foundI_incr e.code)
      obtain rfl : rd = false := Option.some.inj (HRD.out.symm.trans (show tallboyref15_Reads.f e.kind = some false by rw [h]; rfl))
      have q11 : (e.kind == 11) = false := by rw [h]; rfl
      have q12 : (e.kind == 12) = true := by rw [h]; rfl
      have HST := Lib.hid (show tallboyref15_Stores.f e.kind = some false by rw [h]; rfl)
      clear h
      go_wp2_with fail
      refine (tallboyref15_Stores.calls e.kind false _ HST.out).mono ?_
      rintro x w2 ⟨rfl, hd⟩
      have B2 := Aside0.mk (B1.out.below (below_d hd))
      have HD2 := Aside0.mk (HD1.out.below (below_d hd))
      clear hd B1 HD1
      go_wp2_with fail
      refine (told_m B2.out e.code 7 Nm.incr_hits Nm.incr_misses (by kernel_rfl) (by kernel_rfl)).mono ?_
      rintro x w3 ⟨rfl, hB, hM⟩
      have B3 := Aside0.mk hB
      have HD3 := Aside0.mk (HD2.out.mov hM)
      clear hB hM B2 HD2
      go_wp2_with fail
      go_meet
      case rel =>
        rw [HI.out]
        exact ⟨B3, HD3⟩
    · have HI := Lib.hid (show commandI e.kind e.nk e.nh e.code = toldI e.code 7 Nm.decr_hits Nm.decr_misses by unfold commandI; rw [h]; exact foundI_decr e.code)
      obtain rfl : rd = false := Option.some.inj (HRD.out.symm.trans (show tallboyref15_Reads.f e.kind = some false by rw [h]; rfl))
      have q11 : (e.kind == 11) = false := by rw [h]; rfl
      have q12 : (e.kind == 12) = false := by rw [h]; rfl
      have q13 : (e.kind == 13) = true := by rw [h]; rfl
      have HST := Lib.hid (show tallboyref15_Stores.f e.kind = some false by rw [h]; rfl)
      clear h
      go_wp2_with fail
      refine (tallboyref15_Stores.calls e.kind false _ HST.out).mono ?_
      rintro x w2 ⟨rfl, hd⟩
      have B2 := Aside0.mk (B1.out.below (below_d hd))
      have HD2 := Aside0.mk (HD1.out.below (below_d hd))
      clear hd B1 HD1
      go_wp2_with fail
      refine (told_m B2.out e.code 7 Nm.decr_hits Nm.decr_misses (by kernel_rfl) (by kernel_rfl)).mono ?_
      rintro x w3 ⟨rfl, hB, hM⟩
      have B3 := Aside0.mk hB
      have HD3 := Aside0.mk (HD2.out.mov hM)
      clear hB hM B2 HD2
      go_wp2_with fail
      go_meet
      case rel =>
        rw [HI.out]
        exact ⟨B3, HD3⟩
    · have HI := Lib.hid (show commandI e.kind e.nk e.nh e.code = [(Nm.cmd_touch, 1)] ++ toldI e.code 9 Nm.touch_hits Nm.touch_misses by unfold commandI; rw [h, foundI_touch]; rfl)
      obtain rfl : rd = false := Option.some.inj (HRD.out.symm.trans (show tallboyref15_Reads.f e.kind = some false by rw [h]; rfl))
      have q11 : (e.kind == 11) = false := by rw [h]; rfl
      have q12 : (e.kind == 12) = false := by rw [h]; rfl
      have q13 : (e.kind == 13) = false := by rw [h]; rfl
      have q14 : (e.kind == 14) = true := by rw [h]; rfl
      have HST := Lib.hid (show tallboyref15_Stores.f e.kind = some false by rw [h]; rfl)
      clear h
      go_wp2_with fail
      refine (tallboyref15_Stores.calls e.kind false _ HST.out).mono ?_
      rintro x w2 ⟨rfl, hd⟩
      have B2 := Aside0.mk (B1.out.below (below_d hd))
      have HD2 := Aside0.mk (HD1.out.below (below_d hd))
      clear hd B1 HD1
      go_wp2_with fail
      refine (rmore_b B2.out Nm.cmd_touch 1 (by kernel_rfl) (by decide)).mono ?_
      rintro x w3 ⟨rfl, hB, hM⟩
      have B3 := Aside0.mk hB
      have HD3 := Aside0.mk (HD2.out.mov hM)
      clear hB hM B2 HD2
      go_wp2_with fail
      refine (told_m B3.out e.code 9 Nm.touch_hits Nm.touch_misses (by kernel_rfl) (by kernel_rfl)).mono ?_
      rintro x w4 ⟨rfl, hB, hM⟩
      have B4 := Aside0.mk hB
      have HD4 := Aside0.mk (HD3.out.mov hM)
      clear hB hM B3 HD3
      go_wp2_with fail
      go_meet
      case rel =>
        rw [HI.out]
        exact ⟨B4, HD4⟩
    · have HI := Lib.hid (show commandI e.kind e.nk e.nh e.code = [(Nm.cmd_flush, 1)] by unfold commandI; rw [h]; rfl)
      obtain rfl : rd = false := Option.some.inj (HRD.out.symm.trans (show tallboyref15_Reads.f e.kind = some false by rw [h]; rfl))
      have q11 : (e.kind == 11) = false := by rw [h]; rfl
      have q12 : (e.kind == 12) = false := by rw [h]; rfl
      have q13 : (e.kind == 13) = false := by rw [h]; rfl
      have q14 : (e.kind == 14) = false := by rw [h]; rfl
      have q15 : (e.kind == 15) = true := by rw [h]; rfl
      have HST := Lib.hid (show tallboyref15_Stores.f e.kind = some false by rw [h]; rfl)
      clear h
      go_wp2_with fail
      refine (tallboyref15_Stores.calls e.kind false _ HST.out).mono ?_
      rintro x w2 ⟨rfl, hd⟩
      have B2 := Aside0.mk (B1.out.below (below_d hd))
      have HD2 := Aside0.mk (HD1.out.below (below_d hd))
      clear hd B1 HD1
      go_wp2_with fail
      refine (rmore_b B2.out Nm.cmd_flush 1 (by kernel_rfl) (by decide)).mono ?_
      rintro x w3 ⟨rfl, hB, hM⟩
      have B3 := Aside0.mk hB
      have HD3 := Aside0.mk (HD2.out.mov hM)
      clear hB hM B2 HD2
      go_wp2_with fail
      go_meet
      case rel =>
        rw [HI.out]
        exact ⟨B3, HD3⟩
    · have HI := Lib.hid (show commandI e.kind e.nk e.nh e.code = [] by unfold commandI; rw [if_neg (by omega), if_neg (by omega), if_neg (by omega), if_neg (by omega), if_neg (by omega), if_neg (by omega), if_neg (by omega), if_neg (by omega)])
      obtain rfl : rd = false := Option.some.inj (HRD.out.symm.trans (show tallboyref15_Reads.f e.kind = some false by exact reads_none h))
      have q11 : (e.kind == 11) = false := beq_eq_false_iff_ne.2 (by omega)
      have q12 : (e.kind == 12) = false := beq_eq_false_iff_ne.2 (by omega)
      have q13 : (e.kind == 13) = false := beq_eq_false_iff_ne.2 (by omega)
      have q14 : (e.kind == 14) = false := beq_eq_false_iff_ne.2 (by omega)
      have q15 : (e.kind == 15) = false := beq_eq_false_iff_ne.2 (by omega)
      have HST := Lib.hid (show tallboyref15_Stores.f e.kind = some false by exact stores_none h)
      clear h
      go_wp2_with fail
      refine (tallboyref15_Stores.calls e.kind false _ HST.out).mono ?_
      rintro x w2 ⟨rfl, hd⟩
      have B2 := Aside0.mk (B1.out.below (below_d hd))
      have HD2 := Aside0.mk (HD1.out.below (below_d hd))
      clear hd B1 HD1
      go_wp2_with fail
      go_meet
      case rel =>
        rw [HI.out, List.append_nil]
        exact ⟨B2, HD2⟩
  case rest =>
    obtain ⟨B2, HD2⟩ := hcut
    clear B0 HD t0 t1 t2 t10 t11 t13
    go_upto_region 27 with fail
    go_cut [99] (fun v99 w2 => v99 = .bool (isCmd e.kind) ∧ w2 = wc)
    case first =>
      rcases (show (1 ≤ e.kind ∧ e.kind ≤ 15) ∨ ¬ 1 ≤ e.kind ∨ (1 ≤ e.kind ∧ ¬ e.kind ≤ 15) by omega) with ⟨hk1, hk2⟩ | hk1 | ⟨hk1, hk2⟩
      · have HK := Lib.hid (show isCmd e.kind = true from decide_eq_true ⟨hk1, hk2⟩)
        go_wp2_with fail
        go_meet
        case rel =>
          rw [HK.out]
          exact ⟨rfl, rfl⟩
      · have HK := Lib.hid (show isCmd e.kind = false from decide_eq_false (fun h => hk1 h.1))
        go_wp2_with fail
        go_meet
        case rel =>
          rw [HK.out]
          exact ⟨rfl, rfl⟩
      · have HK := Lib.hid (show isCmd e.kind = false from decide_eq_false (fun h => hk2 h.2))
        go_wp2_with fail
        go_meet
        case rel =>
          rw [HK.out]
          exact ⟨rfl, rfl⟩
    case rest =>
     obtain ⟨rfl, rfl⟩ := hcut
     go_upto_if 99 with fail
     go_cut [99] (fun v99 wc => Aside0 (RBx W0 wc g f ([] ++ commandI e.kind e.nk e.nh e.code ++ tellI e.kind e.code) T e) ∧ Aside0 (DropsAt wc g g e.da whys))
     case first =>
      cases hq : isCmd e.kind with
      | false =>
        have HI := Lib.hid (show tellI e.kind e.code = [] by unfold tellI; rw [hq]; rfl)
        clear hq
        go_wp2_with fail
        go_meet
        case rel =>
          rw [HI.out, List.append_nil]
          exact ⟨B2, HD2⟩
      | true =>
        have HI := Lib.hid (show tellI e.kind e.code = codeI e.code by unfold tellI; rw [hq]; rfl)
        clear hq
        have hcase : e.code = 3 ∨ e.code = 12 ∨ e.code = 11 ∨ e.code = 8 ∨ ¬ (e.code = 3 ∨ e.code = 12 ∨ e.code = 11 ∨ e.code = 8) := by omega
        rcases hcase with h | h | h | h | h
        · have HJ := Lib.hid (show codeI e.code = [(Nm.not_stored, 1)] by unfold codeI; rw [h]; rfl)
          have q3 : (e.code == 3) = true := by rw [h]; rfl
          clear h
          go_wp2_with fail
          refine (rmore_b B2.out Nm.not_stored 1 (by kernel_rfl) (by decide)).mono ?_
          rintro x w2 ⟨rfl, hB, hM⟩
          have B3 := Aside0.mk hB
          have HD3 := Aside0.mk (HD2.out.mov hM)
          clear hB hM
          go_wp2_with fail
          go_meet
          case rel =>
            rw [HI.out, HJ.out]
            exact ⟨B3, HD3⟩
        · have HJ := Lib.hid (show codeI e.code = [(Nm.too_large, 1)] by unfold codeI; rw [h]; rfl)
          have q3 : (e.code == 3) = false := by rw [h]; rfl
          have q12 : (e.code == 12) = true := by rw [h]; rfl
          clear h
          go_wp2_with fail
          refine (rmore_b B2.out Nm.too_large 1 (by kernel_rfl) (by decide)).mono ?_
          rintro x w2 ⟨rfl, hB, hM⟩
          have B3 := Aside0.mk hB
          have HD3 := Aside0.mk (HD2.out.mov hM)
          clear hB hM
          go_wp2_with fail
          go_meet
          case rel =>
            rw [HI.out, HJ.out]
            exact ⟨B3, HD3⟩
        · have HJ := Lib.hid (show codeI e.code = [(Nm.no_memory, 1)] by unfold codeI; rw [h]; rfl)
          have q3 : (e.code == 3) = false := by rw [h]; rfl
          have q12 : (e.code == 12) = false := by rw [h]; rfl
          have q11 : (e.code == 11) = true := by rw [h]; rfl
          clear h
          go_wp2_with fail
          refine (rmore_b B2.out Nm.no_memory 1 (by kernel_rfl) (by decide)).mono ?_
          rintro x w2 ⟨rfl, hB, hM⟩
          have B3 := Aside0.mk hB
          have HD3 := Aside0.mk (HD2.out.mov hM)
          clear hB hM
          go_wp2_with fail
          go_meet
          case rel =>
            rw [HI.out, HJ.out]
            exact ⟨B3, HD3⟩
        · have HJ := Lib.hid (show codeI e.code = [(Nm.no_number, 1)] by unfold codeI; rw [h]; rfl)
          have q3 : (e.code == 3) = false := by rw [h]; rfl
          have q12 : (e.code == 12) = false := by rw [h]; rfl
          have q11 : (e.code == 11) = false := by rw [h]; rfl
          have q8 : (e.code == 8) = true := by rw [h]; rfl
          clear h
          go_wp2_with fail
          refine (rmore_b B2.out Nm.no_number 1 (by kernel_rfl) (by decide)).mono ?_
          rintro x w2 ⟨rfl, hB, hM⟩
          have B3 := Aside0.mk hB
          have HD3 := Aside0.mk (HD2.out.mov hM)
          clear hB hM
          go_wp2_with fail
          go_meet
          case rel =>
            rw [HI.out, HJ.out]
            exact ⟨B3, HD3⟩
        · have HJ := Lib.hid (show codeI e.code = [] by unfold codeI; rw [if_neg (by omega), if_neg (by omega), if_neg (by omega), if_neg (by omega)])
          have q3 : (e.code == 3) = false := beq_eq_false_iff_ne.2 (by omega)
          have q12 : (e.code == 12) = false := beq_eq_false_iff_ne.2 (by omega)
          have q11 : (e.code == 11) = false := beq_eq_false_iff_ne.2 (by omega)
          have q8 : (e.code == 8) = false := beq_eq_false_iff_ne.2 (by omega)
          clear h
          go_wp2_with fail
          go_meet
          case rel =>
            rw [HI.out, HJ.out, List.append_nil]
            exact ⟨B2, HD2⟩
     case rest =>
      obtain ⟨B3, HD3⟩ := hcut
      clear B2 HD2
      obtain ⟨base, hbase⟩ : ∃ base, base = [] ++ commandI e.kind e.nk e.nh e.code ++ tellI e.kind e.code := ⟨_, rfl⟩
      have HBASE := Lib.hid hbase
      rw [← hbase] at B3
      clear hbase
      have B3' : Aside0 (RBx W0 wc g f (base ++ (whys.take 0).flatMap whyI) T e) := ⟨by rw [List.take_zero, List.flatMap_nil, List.append_nil]; exact B3.out⟩
      clear B3
      obtain ⟨A, hda⟩ : ∃ A, A = e.da := ⟨_, rfl⟩
      rw [← hda] at HD3
      have HDA := Lib.hid hda
      clear hda
      go_wp2_with fail
      go_loopg [8] e.nd (fun gg v8 wr => ∃ (j : Nat), v8 = .int .i64 j ∧ j ≤ e.nd ∧ e.nd - j ≤ gg ∧ Aside0 (RBx W0 wr g f (base ++ (whys.take j).flatMap whyI) T e) ∧ Aside0 (DropsAt wr g g A whys))
      case atStart => exact ⟨0, rfl, Nat.zero_le _, by omega, B3', HD3⟩
      case round =>
        clear B3' HD3
        obtain ⟨j, rfl, hj, hgj, BR, HDR⟩ := hrel
        obtain ⟨t0, t1, t2, t10, t11, t13⟩ := BR.out.cells
        rw [← HDA.out] at t13
        clear t0 t1 t2 t10 t11
        by_cases hlt : j < e.nd
        · have hji : (j : Int) < (e.nd : Int) := by omega
          obtain ⟨y, hy⟩ : ∃ y, whys[j]? = some y := ⟨_, List.getElem?_eq_getElem (by rw [HL.out]; exact hlt)⟩
          obtain ⟨ad, key, rfl, hn1, hn2, k0, k1⟩ := HDR.out j y hy
          have HFL := Lib.hid (take_flat hy)
          have hcase : y = 1 ∨ y = 2 ∨ y = 3 ∨ ¬ (y = 1 ∨ y = 2 ∨ y = 3) := by omega
          clear hy
          rcases hcase with h | h | h | h
          · have HJ := Lib.hid (show whyI y = [(Nm.evictions, 1)] by unfold whyI; rw [h]; rfl)
            have q1 : (y == 1) = true := by rw [h]; rfl
            clear h
            go_wp2_with fail
            refine (rmore_b BR.out Nm.evictions 1 (by kernel_rfl) (by decide)).mono ?_
            rintro x w2 ⟨rfl, hB, hM⟩
            have BN : Aside0 (RBx W0 w2 g f (base ++ (whys.take (j + 1)).flatMap whyI) T e) := ⟨by rw [HFL.out, HJ.out, ← List.append_assoc]; exact hB⟩
            have HDN := Aside0.mk (HDR.out.mov hM)
            clear hB hM k0 k1 t13 BR HDR
            go_wp2
            go_roundg (e.nd - (j + 1))
            case measure => omega
            case rel => exact ⟨j + 1, by go_num, by omega, by omega, BN, HDN⟩
          · have HJ := Lib.hid (show whyI y = [(Nm.moved, 1)] by unfold whyI; rw [h]; rfl)
            have q1 : (y == 1) = false := by rw [h]; rfl
            have q2 : (y == 2) = true := by rw [h]; rfl
            clear h
            go_wp2_with fail
            refine (rmore_b BR.out Nm.moved 1 (by kernel_rfl) (by decide)).mono ?_
            rintro x w2 ⟨rfl, hB, hM⟩
            have BN : Aside0 (RBx W0 w2 g f (base ++ (whys.take (j + 1)).flatMap whyI) T e) := ⟨by rw [HFL.out, HJ.out, ← List.append_assoc]; exact hB⟩
            have HDN := Aside0.mk (HDR.out.mov hM)
            clear hB hM k0 k1 t13 BR HDR
            go_wp2
            go_roundg (e.nd - (j + 1))
            case measure => omega
            case rel => exact ⟨j + 1, by go_num, by omega, by omega, BN, HDN⟩
          · have HJ := Lib.hid (show whyI y = [(Nm.failed, 1)] by unfold whyI; rw [h]; rfl)
            have q1 : (y == 1) = false := by rw [h]; rfl
            have q2 : (y == 2) = false := by rw [h]; rfl
            have q3 : (y == 3) = true := by rw [h]; rfl
            clear h
            go_wp2_with fail
            refine (rmore_b BR.out Nm.failed 1 (by kernel_rfl) (by decide)).mono ?_
            rintro x w2 ⟨rfl, hB, hM⟩
            have BN : Aside0 (RBx W0 w2 g f (base ++ (whys.take (j + 1)).flatMap whyI) T e) := ⟨by rw [HFL.out, HJ.out, ← List.append_assoc]; exact hB⟩
            have HDN := Aside0.mk (HDR.out.mov hM)
            clear hB hM k0 k1 t13 BR HDR
            go_wp2
            go_roundg (e.nd - (j + 1))
            case measure => omega
            case rel => exact ⟨j + 1, by go_num, by omega, by omega, BN, HDN⟩
          · have HJ := Lib.hid (show whyI y = [] by unfold whyI; rw [if_neg (by omega), if_neg (by omega), if_neg (by omega)])
            have q1 : (y == 1) = false := beq_eq_false_iff_ne.2 (by omega)
            have q2 : (y == 2) = false := beq_eq_false_iff_ne.2 (by omega)
            have q3 : (y == 3) = false := beq_eq_false_iff_ne.2 (by omega)
            have BN : Aside0 (RBx W0 wr g f (base ++ (whys.take (j + 1)).flatMap whyI) T e) := ⟨by rw [HFL.out, HJ.out, List.append_nil]; exact BR.out⟩
            clear h
            go_wp2
            go_roundg (e.nd - (j + 1))
            case measure => omega
            case rel => exact ⟨j + 1, by go_num, by omega, by omega, BN, HDR⟩
        · have hji : ¬ (j : Int) < (e.nd : Int) := by omega
          have hjn : j = e.nd := by omega
          have hfin : base ++ (whys.take j).flatMap whyI = noteI e.kind e.nk e.nh e.code whys := by
            rw [List.take_of_length_le (by rw [HL.out]; omega), HBASE.out]
            rfl
          have HFIN := Lib.hid hfin
          clear hfin
          go_wp2
          go_end0
          rw [← HFIN.out]
          exact ⟨rfl, BR.out.did.from HB.out⟩
end Go.Proofs.YteddljbdjgdlnaaDoor.St
end
section
namespace Go.Proofs.YteddljbdjgdlnaaDoor.St
open Go.RowKit Go.Proofs.YteddljbdjgdlnaaDoorW.PrintWords Go.Proofs.YteddljbdjgdlnaaDoorW.PrintLast Go.Proofs.YteddljbdjgdlnaaDoorW.PrintMore Go.WideMaps Go.Proofs.YteddljbdjgdlnaaDoor.XSb
set_option linter.unusedVariables false
set_option linter.unusedSimpArgs false
attribute [local go_sem ↓] Go.wp_at_zero Go.wp_at_succ
theorem dig_one (u : Nat) (hu : u < 18446744073709551616) : strOfNums [(IntKind.u64.wrap (48 + Int.tmod (u : Int) 10)) % 256] = ⟨#[UInt8.ofNat (48 + u % 10)]⟩ := by
  unfold strOfNums
  have e : ((IntKind.u64.wrap (48 + Int.tmod (u : Int) 10)) % 256).toNat = 48 + u % 10 := by
    rw [IntKind.wrap_u64, Int.tmod_eq_emod_of_nonneg (by omega)]
    omega
  simp only [List.map_cons, List.map_nil, e]
theorem div_ten (u : Nat) (hu : u < 18446744073709551616) : IntKind.u64.wrap (Int.tdiv (u : Int) 10) = ((u / 10 : Nat) : Int) := by
  rw [IntKind.wrap_u64, Int.tdiv_eq_ediv_of_nonneg (by omega)]
  omega
def decD (u : Nat) : List UInt8 := if u = 0 then [] else Lib.decDigits u
theorem decD_step (u : Nat) (h : 0 < u) : decD u = decD (u / 10) ++ [UInt8.ofNat (48 + u % 10)] := by
  unfold decD
  rw [if_neg (by omega)]
  by_cases h10 : u < 10
  · rw [if_pos (by omega), Text.dec_small u h10, Nat.mod_eq_of_lt h10]
    rfl
  · rw [if_neg (by omega), Text.dec_big u h10]
theorem rtext_l0 : ∀ (k u : Nat) (s : ByteArray), u < 10 ^ k → u < 18446744073709551616 → s.size + k ≤ 1000 → tallboyref02_Text.l0 (k + 1) (u : Int) s = some (⟨(decD u).toArray⟩ ++ s)
  | k, 0, s, _, _, _ => by
    unfold tallboyref02_Text.l0
    rw [if_neg (by omega)]
    congr 1
  | 0, u + 1, s, h, _, _ => by simp at h
  | k + 1, u + 1, s, h, h64, hs => by
    unfold tallboyref02_Text.l0
    rw [if_pos (by omega)]
    simp only [Option.bind_some]
    rw [dig_one (u + 1) h64, div_ten (u + 1) h64, if_pos (by
      have : (⟨#[UInt8.ofNat (48 + (u + 1) % 10)]⟩ : ByteArray).size = 1 := rfl
      omega), rtext_l0 k ((u + 1) / 10) _ (by rw [Nat.pow_succ] at h; omega) (by omega) (by
      rw [ByteArray.size_append]
      have : (⟨#[UInt8.ofNat (48 + (u + 1) % 10)]⟩ : ByteArray).size = 1 := rfl
      omega)]
    congr 1
    rw [decD_step (u + 1) (by omega)]
    apply ByteArray.ext
    simp
theorem rtext_dec (m : Int) (h0 : 0 ≤ m) (h1 : m < 18446744073709551616) : tallboyref02_Text.f 21 m = some (dec m) := by
  obtain ⟨u, rfl⟩ := Int.eq_ofNat_of_zero_le h0
  have hu : u < 18446744073709551616 := by omega
  unfold tallboyref02_Text.f dec
  rw [dig_one u hu, div_ten u hu, rtext_l0 20 (u / 10) _ (by have : (10 : Nat) ^ 20 = 100000000000000000000 := (by decide); omega) (by omega) (by
    have : (⟨#[UInt8.ofNat (48 + u % 10)]⟩ : ByteArray).size = 1 := rfl
    omega), Int.toNat_natCast]
  congr 1
  apply ByteArray.ext
  by_cases h : u = 0
  · subst h
    simp [decD, Text.dec_small]
  · have e := decD_step u (by omega)
    have e2 : decD u = Lib.decDigits u := by unfold decD; rw [if_neg h]
    rw [e2] at e
    simp [e]
noncomputable def refL (f : Figs) (l : List ByteArray) : List S52 := l.map fun s => ⟨s, dec (f s)⟩
theorem ref_next {f : Figs} {j : Nat} {s : ByteArray} (h : nm24[j]? = some s) : refL f (nm24.take (j + 1)) = refL f (nm24.take j) ++ [⟨s, dec (f s)⟩] := by
  unfold refL
  rw [List.take_add_one, h, List.map_append]
  rfl
theorem info_pair : (Tryd.prog.info? 52).map (fun i => (i.zero, i.size, i.bytes)) = some (some (.agg #[(.string ⟨#[]⟩), (.string ⟨#[]⟩)]), 2, 32) := by kernel_rfl
theorem keepG {w w2 w3 : World} {own : Option Nat} {a b : Addr} {u v : Value} (hb : Below w.heap.size w w2) (hg : w2.grownBy w3 own) (h1 : w.cell? a = some u) (h2 : w.cell? b = some v) (n1 : some a.block ≠ own) (n2 : some b.block ≠ own) : Aside0 (w3.cell? a = some u ∧ w3.cell? b = some v) := by
  have k1 := keepC hb h1
  have k2 := keepC hb h2
  exact ⟨(World.cell?_of_block (hg.block _ (World.block_lt_of_cell? _ _ k1) n1)).trans k1, (World.cell?_of_block (hg.block _ (World.block_lt_of_cell? _ _ k2) n2)).trans k2⟩
structure Rg (w wr : World) (g : Nat) (f : Figs) (j : Nat) (v : Value) (ad : Addr) : Prop where
  row : Kd.R k52 52 wr w.heap.size (fun _ => True) v (refL f (nm24.take j))
  bel : Below w.heap.size w wr
  names : Names wr ad
  away : w.heap.size ≤ ad.block
  kept : ∀ k, v.ownBlock = some k → k ≠ ad.block
  far : ∀ k, v.ownBlock = some k → w.heap.size ≤ k
set_option maxHeartbeats 8000000 in
set_option maxRecDepth 100000 in
theorem RGeneral_calls (w : World) (g : Nat) (f : Figs) (hA : RAt w g f) (hf : Okf f) :
    Calls Tryd.prog 11 #[.pointer (some ⟨g, 0, none⟩)] w fun e w' => ∃ v, e = .returned v ∧ Kd.R k52 52 w' w.heap.size (fun _ => True) v (refL f nm24) ∧ Below w.heap.size w w' := by
  have HA := Aside0.mk hA
  have HF := Aside0.mk hf
  clear hA hf
  go_enter Tryd.func11, Tryd.ntmps11
  go_wp2_with fail
  refine (names_r w).mono ?_
  rintro e w1 ⟨ad, c1, rfl, hc1, had, hN, hb1⟩
  have G0 : Aside0 (Rg w w1 g f 0 (.slice none 0 0) ad) := ⟨⟨Kd.R_nil _ _ _ _ _, hb1, hN, had, (fun k hk => by cases hk), (fun k hk => by cases hk)⟩⟩
  clear hN hb1 had
  go_wp2_with fail
  go_loopg [3, 5] 24 (fun gg v3 v5 wr => ∃ (j : Nat), v5 = .int .i64 j ∧ j ≤ 24 ∧ 24 - j ≤ gg ∧ Aside0 (Rg w wr g f j v3 ad))
  case atStart => exact ⟨0, rfl, Nat.zero_le _, by omega, G0⟩
  case round =>
    clear G0
    obtain ⟨j, rfl, hj, hgj, GR⟩ := hrel
    by_cases hlt : j < 24
    · have hji : (j : Int) < 24 := by omega
      have hj0 : (0 : Int) ≤ (j : Int) := by omega
      obtain ⟨s, hs⟩ := nm_at hlt
      obtain ⟨m, hm⟩ : ∃ m, m = f s := ⟨_, rfl⟩
      have HAr := Aside0.mk (HA.out.below GR.out.bel)
      have c1 : Aside0 (wr.cell? (ad.add j) = some (.string s)) := ⟨GR.out.names j s hs⟩
      have c2 : Aside0 (wr.cell? ⟨g, j, none⟩ = some (.int .u64 m)) := ⟨by rw [hm]; exact HAr.out.get hs⟩
      have HD := Lib.hid (show tallboyref02_Text.f 21 m = some (dec m) by rw [hm]; exact rtext_dec (f s) (HF.out s).1 (HF.out s).2)
      have HNX := Lib.hid (show refL f (nm24.take (j + 1)) = refL f (nm24.take j) ++ [⟨s, dec m⟩] by rw [hm]; exact ref_next hs)
      have hgw : g < wr.heap.size := HAr.out.lt
      have hgw0 : g < w.heap.size := HA.out.lt
      have hadw : ad.block < wr.heap.size := by
        have h := World.block_lt_of_cell? _ _ c1.out
        rw [add_block] at h
        exact h
      have HLEN := Lib.hid (show ((refL f (nm24.take j)).length + 1) * 32 ≤ 140737488355328 by
        have : (refL f (nm24.take j)).length ≤ 24 := by unfold refL; rw [List.length_map, List.length_take]; exact Nat.le_trans (Nat.min_le_left _ _) (by omega)
        omega)
      have KF := Aside0.mk GR.out.far
      have KK := Aside0.mk GR.out.kept
      have BN := Aside0.mk (Below.refl wr.heap.size wr).drew
      clear hs hm
      go_upto_region 6 with fail
      go_region_held3 (fun w' => w'.cell? (ad.add j) = some (.string s) ∧ w'.cell? ⟨g, j, none⟩ = some (.int .u64 m))
        ((first
          | exact ⟨keepC BN.out c1.out, keepC BN.out c2.out⟩
          | exact ⟨keepC (BN.out.alloc BN.out.size _) c1.out, keepC (BN.out.alloc BN.out.size _) c2.out⟩
          | exact cS.out))
        ((first
          | (refine Kd.R_append_step k52 (w0 := w) w.heap.size (by rfl) (.tmp 17) (.tmp 30) 43 52 (.agg #[(.string ⟨#[]⟩), (.string ⟨#[]⟩)]) 32 (by rfl) Tryd.underlying43 info_pair (by rfl) (by decide) (by decide) u3 (refL f (nm24.take j)) (⟨s, dec m⟩ : S52) [.string s, .string (dec m)] (fun _ => True) (fun _ => False) (by rfl) (by rfl) (k52_mkM _ _ _ (⟨s, dec m⟩ : S52)) (fun _ hk => hk.elim) (fun _ _ => trivial) (Kd.R_below GR.out.row BN.out) (GR.out.bel.trans (BN.out.mono GR.out.bel.size)) (GR.out.bel.trans (BN.out.mono GR.out.bel.size)).size HLEN.out ?_; intro v1 w6 ho6 hb6 hg6 hat6; (have cS := keepG BN.out hg6 c1.out c2.out (fun e => KK.out _ e.symm (add_block ad j)) (fun e => absurd (KF.out _ e.symm) (Nat.not_le.2 hgw0))))
          | (go_at_call 16; with_reducible refine (tallboyref02_Text.calls 21 m (dec m) _ HD.out).mono ?_; rintro e wa ⟨rfl, hb⟩; (have BN' := Aside0.mk (BN.out.trans (hb.mono BN.out.size))); clear BN; (have BN := BN'); clear BN' hb)))
      all_goals
        have hN6 : Names w6 ad := fun i x hx => by
          have h := GR.out.names i x hx
          have h2 := keepC BN.out h
          exact (World.cell?_of_block (hg6.block _ (World.block_lt_of_cell? _ _ h2) (fun e => KK.out _ e.symm (add_block ad i)))).trans h2
        have hk6 : ∀ k, v1.ownBlock = some k → k ≠ ad.block ∧ w.heap.size ≤ k := fun k hk => by
          rcases hat6 with h | ⟨q, h, hq⟩
          · exact ⟨KK.out k (h.symm.trans hk), KF.out k (h.symm.trans hk)⟩
          · rw [h] at hk
            injection hk with hk
            have := BN.out.size
            have h3 := GR.out.bel.size
            exact ⟨by omega, by omega⟩
        have GN : Aside0 (Rg w w6 g f (j + 1) v1 ad) := ⟨⟨by rw [HNX.out]; exact ho6, hb6, hN6, GR.out.away, fun k hk => (hk6 k hk).1, fun k hk => (hk6 k hk).2⟩⟩
        clear ho6 hb6 hg6 hat6 hN6 hk6 KF KK BN HAr c1 c2 HD HNX GR
        go_wp2
        go_roundg (24 - (j + 1))
        case measure => omega
        case rel => exact ⟨j + 1, by go_num, by omega, by omega, GN⟩
    · have hji : ¬ (j : Int) < 24 := by omega
      obtain rfl : j = 24 := by omega
      go_wp2
      go_ret
      exact ⟨_, rfl, GR.out.row, GR.out.bel⟩
end Go.Proofs.YteddljbdjgdlnaaDoor.St
end
section
namespace Go.Proofs.YteddljbdjgdlnaaDoor.St
open Go.RowKit Go.Proofs.YteddljbdjgdlnaaDoorW.PrintWords Go.Proofs.YteddljbdjgdlnaaDoorW.PrintLast Go.Proofs.YteddljbdjgdlnaaDoorW.PrintMore Go.WideMaps Go.Proofs.YteddljbdjgdlnaaDoor.XSb
set_option linter.unusedVariables false
set_option linter.unusedSimpArgs false
def sumAt (s : ByteArray) : Inc → Int
  | [] => 0
  | p :: l => (if s = p.1 then (if 0 < p.2 then p.2 else 0) else 0) + sumAt s l
theorem sum_cons (s : ByteArray) (p : ByteArray × Int) (l : Inc) : sumAt s (p :: l) = (if s = p.1 then (if 0 < p.2 then p.2 else 0) else 0) + sumAt s l := rfl
theorem sum_append (s : ByteArray) : ∀ a b : Inc, sumAt s (a ++ b) = sumAt s a + sumAt s b
  | [], b => by simp [sumAt]
  | p :: a, b => by
    rw [List.cons_append]
    rw [sum_cons, sum_cons, sum_append s a b]
    omega
theorem app_at (s : ByteArray) : ∀ (l : Inc) (f : Figs), Okf f → app f l s = (f s + sumAt s l) % 18446744073709551616
  | [], f, h => by
    show f s = _
    have := h s
    unfold sumAt
    omega
  | p :: l, f, h => by
    show app (addF f p.1 p.2) l s = _
    rw [app_at s l _ (ok_add h p.1 p.2)]
    rw [sum_cons]
    unfold addF upd
    by_cases e : s = p.1
    · rw [if_pos e, if_pos e, ← e]
      omega
    · rw [if_neg e, if_neg e]
      omega
theorem notes_append (a b : List X) : notesL (a ++ b) = notesL a ++ notesL b := List.flatMap_append
theorem part_at (a b : List X) {s : ByteArray} (hs : has s nm24 = true) : addsF (app (fun _ => 0) (notesL a)) (app (fun _ => 0) (notesL b)) nm24 s = app (fun _ => 0) (notesL (a ++ b)) s := by
  unfold addsF
  rw [if_pos hs, app_at s _ _ ok_zero, app_at s _ _ ok_zero, app_at s _ _ ok_zero, notes_append, sum_append]
  omega
theorem twice_at {f : Figs} {s : ByteArray} (hs : has s nm24 = true) : addsF f f nm24 s = (2 * f s) % 18446744073709551616 := by
  unfold addsF
  rw [if_pos hs]
  omega
theorem gen_eq {f h : Figs} (e : ∀ s, has s nm24 = true → f s = h s) : genL f nm24 = genL h nm24 := by
  unfold genL
  refine List.map_congr_left fun s hs => ?_
  rw [e s (mem_has hs)]
theorem new_row {α : Type} {d : Kd α} {e m c c' : Nat} {w w1 : World} {A : Option Addr} {xs : List α} {ok : Nat → Prop} {g b : Nat} {ks : List ByteArray} {f : Figs} (h : d.R e w1 w.heap.size ok (.slice A m c) xs) (hA : At w g b c' ks f) : ∀ ad, A = some ad → ad.block < w1.heap.size ∧ ad.block ≠ g ∧ ad.block ≠ b := fun ad e0 => by
  subst e0
  obtain ⟨inner, ho⟩ := Kd.R_own h
  have h1 := own_base ho ad.block rfl
  have h2 := own_lt ho ad.block rfl
  have := hA.lt
  have := hA.ltb
  exact ⟨h2, by omega, by omega⟩
theorem C_same {w w' : World} {A : Option Addr} {n : Nat} {xs : List S52} (h : Kd.C k52 w A n xs) (hb : ∀ ad, A = some ad → w'.heap[ad.block]? = w.heap[ad.block]?) : Kd.C k52 w' A n xs :=
  ⟨h.1, h.2.1, fun hn => by
    obtain ⟨ad, e, hc⟩ := h.2.2 hn
    refine ⟨ad, e, fun j p hj => ?_⟩
    obtain ⟨c, hs, hr, hcell⟩ := hc j p hj
    exact ⟨c, hs, by rw [k52_open hr]; exact k52_mk _ _, fun i u hu => (World.cell?_of_block (by rw [add_block]; exact hb ad e)).trans (hcell i u hu)⟩⟩
theorem C_same83 {w w' : World} {A : Option Addr} {n : Nat} {xs : List S83} (h : Kd.C k83 w A n xs) (hb : ∀ ad, A = some ad → w'.heap[ad.block]? = w.heap[ad.block]?) : Kd.C k83 w' A n xs :=
  ⟨h.1, h.2.1, fun hn => by
    obtain ⟨ad, e, hc⟩ := h.2.2 hn
    refine ⟨ad, e, fun j p hj => ?_⟩
    obtain ⟨c, hs, hr, hcell⟩ := hc j p hj
    exact ⟨c, hs, by rw [k83_open hr]; exact k83_mk _ _, fun i u hu => (World.cell?_of_block (by rw [add_block]; exact hb ad e)).trans (hcell i u hu)⟩⟩
end Go.Proofs.YteddljbdjgdlnaaDoor.St
end
section
namespace Go.Proofs.YteddljbdjgdlnaaDoor.XSb
open Go.RowKit Go.Proofs.YteddljbdjgdlnaaDoorW.PrintWords Go.Proofs.YteddljbdjgdlnaaDoorW.PrintLast Go.Proofs.YteddljbdjgdlnaaDoorW.PrintMore
abbrev L (b : ByteArray) : List UInt8 := b.data.toList
abbrev ba (l : List UInt8) : ByteArray := ⟨l.toArray⟩
theorem ext {x y : ByteArray} (h : L x = L y) : x = y := by
  cases x; cases y
  exact congrArg ByteArray.mk (Array.toList_inj.1 h)
theorem L_append (a b : ByteArray) : L (a ++ b) = L a ++ L b := by
  show (a ++ b).data.toList = _
  rw [ByteArray.data_append, Array.toList_append]
theorem L_size (a : ByteArray) : a.size = (L a).length := (Array.length_toList).symm
theorem wrap_succ (a : Nat) (h : a < 4611686018427387904) : wrap64 ((a : Int) + 1) = ((a + 1 : Nat) : Int) := by unfold wrap64; omega
theorem bt_list (s : ByteArray) (i : Nat) (c : UInt8) (h : (L s)[i]? = some c) : bt s (i : Int) = (c.toNat : Int) := by
  have hi : i < s.size := by
    rcases Nat.lt_or_ge i s.size with h' | h'
    · exact h'
    · rw [List.getElem?_eq_none (by rw [← L_size]; exact h')] at h; cases h
  unfold bt
  rw [Int.toNat_natCast, dif_pos hi]
  have e : (L s)[i]? = some s[i] := by
    rw [List.getElem?_eq_getElem (by rw [← L_size]; exact hi)]; rfl
  rw [e] at h
  injection h with h
  rw [h]
def inR (lo hi : Nat) (l : List UInt8) : Bool := l.all fun c => decide (lo ≤ c.toNat) && decide (c.toNat ≤ hi)
theorem inR_cons (lo hi : Nat) (c : UInt8) (l : List UInt8) : inR lo hi (c :: l) = (decide (lo ≤ c.toNat) && decide (c.toNat ≤ hi) && inR lo hi l) := rfl
theorem within_loop (a : ByteArray) (ha : a.size ≤ 1099511627776) (lo hi : Nat) (d : Nat) : ∀ i, i + d = a.size → Ev (fun k => stat_within.l0 k a (lo : Int) (hi : Int) (a.size : Int) (i : Int)) (inR lo hi ((L a).drop i)) := by
  induction d with
  | zero =>
    intro i hi'
    rw [List.drop_of_length_le (by rw [← L_size]; omega)]
    refine ⟨1, fun k hk => ?_⟩
    obtain ⟨k, rfl⟩ : ∃ m, k = m + 1 := ⟨k - 1, by omega⟩
    simp only [stat_within.l0]
    rw [if_neg (by omega)]; rfl
  | succ d ih =>
    intro i hi'
    have hl : i < (L a).length := by rw [← L_size]; omega
    have hc := List.getElem?_eq_getElem hl
    rw [List.drop_eq_getElem_cons hl, inR_cons]
    generalize (L a)[i] = c at hc
    have e : ∀ k, stat_within.l0 (k + 1) a (lo : Int) (hi : Int) (a.size : Int) (i : Int) = (if (c.toNat : Int) < lo then some false else if (c.toNat : Int) > hi then some false else stat_within.l0 k a (lo : Int) (hi : Int) (a.size : Int) ((i + 1 : Nat) : Int)) := by
      intro k
      simp only [stat_within.l0]
      rw [if_pos (by omega), if_pos (by omega), if_pos (by omega), bt_list a i c hc, wrap_succ i (by omega)]
    by_cases h1 : lo ≤ c.toNat
    · by_cases h2 : c.toNat ≤ hi
      · rw [decide_eq_true h1, decide_eq_true h2]
        refine Ev.step (fun k => ?_) (ih (i + 1) (by omega))
        rw [e, if_neg (by omega), if_neg (by omega)]
      · rw [decide_eq_false h2, Bool.and_false, Bool.false_and]
        refine ⟨1, fun k hk => ?_⟩
        obtain ⟨k, rfl⟩ : ∃ m, k = m + 1 := ⟨k - 1, by omega⟩
        show stat_within.l0 (k + 1) _ _ _ _ _ = _
        rw [e, if_neg (by omega), if_pos (by omega)]
    · rw [decide_eq_false h1, Bool.false_and, Bool.false_and]
      refine ⟨1, fun k hk => ?_⟩
      obtain ⟨k, rfl⟩ : ∃ m, k = m + 1 := ⟨k - 1, by omega⟩
      show stat_within.l0 (k + 1) _ _ _ _ _ = _
      rw [e, if_pos (by omega)]
def ends (l : List UInt8) : Bool := decide (l.head? ≠ some 32) && decide (l.getLast? ≠ some 32)
def mayB (n v : ByteArray) : Bool := decide (1 ≤ n.size) && decide (n.size ≤ 64) && decide (1 ≤ v.size) && decide (v.size ≤ 200) && inR 33 126 (L n) && inR 32 126 (L v) && ends (L v)
theorem dropWhile_le (p : UInt8 → Bool) (l : List UInt8) : (l.dropWhile p).length ≤ l.length := by
  induction l with
  | nil => exact Nat.le_refl _
  | cons x l ih =>
    rw [List.dropWhile_cons]
    split
    · rw [List.length_cons]; omega
    · exact Nat.le_refl _
theorem trim_ends (l : List UInt8) : (Lib.trimB l 32 == l) = ends l := by
  have hr : ∀ m : List UInt8, m.head? ≠ some 32 → m.dropWhile (· == (32 : UInt8)) = m := by
    intro m hm
    cases m with
    | nil => rfl
    | cons x m =>
      have : ¬ x = 32 := fun e => hm (by rw [e]; rfl)
      rw [List.dropWhile_cons, if_neg (by simpa using this)]
  have hs : ∀ m : List UInt8, m.head? = some 32 → (m.dropWhile (· == (32 : UInt8))).length < m.length := by
    intro m hm
    cases m with
    | nil => cases hm
    | cons x m =>
      have : x = 32 := by simpa using hm
      rw [List.dropWhile_cons, if_pos (by simpa using this), List.length_cons]
      have := dropWhile_le (· == (32 : UInt8)) m
      omega
  have hlast : l.getLast? = l.reverse.head? := by rw [List.head?_reverse]
  unfold ends
  by_cases h2 : l.getLast? = some 32
  · rw [show decide (l.getLast? ≠ some 32) = false from decide_eq_false (fun hh => hh h2), Bool.and_false]
    apply beq_eq_false_iff_ne.2
    intro e
    have h3 := hs l.reverse (by rw [← hlast]; exact h2)
    have h4 := congrArg List.length e
    unfold Lib.trimB Lib.trimLeftB Lib.trimRightB at h4
    have h5 := dropWhile_le (· == (32 : UInt8)) (l.reverse.dropWhile (· == (32 : UInt8))).reverse
    rw [List.length_reverse] at h5 h3
    omega
  · rw [show decide (l.getLast? ≠ some 32) = true from decide_eq_true h2, Bool.and_true]
    have e1 : Lib.trimRightB l 32 = l := by
      unfold Lib.trimRightB
      rw [hr l.reverse (by rw [← hlast]; exact h2), List.reverse_reverse]
    unfold Lib.trimB
    rw [e1]
    unfold Lib.trimLeftB
    by_cases h1 : l.head? = some 32
    · rw [show decide (l.head? ≠ some 32) = false from decide_eq_false (fun hh => hh h1)]
      apply beq_eq_false_iff_ne.2
      intro e
      have := hs l h1
      rw [e] at this
      omega
    · rw [show decide (l.head? ≠ some 32) = true from decide_eq_true h1, hr l h1]
      exact beq_self_eq_true l
theorem prog_may (n v : ByteArray) (hn : n.size ≤ 1099511627776) (hv : v.size ≤ 1099511627776) : Ev (fun k => stat_may.f k n v) (mayB n v) := by
  have no : ∀ {b : Bool}, b = true → Ev (fun k => stat_may.j0 k b n v) false := by
    rintro b rfl
    refine ⟨1, fun k hk => ?_⟩
    obtain ⟨k, rfl⟩ : ∃ m, k = m + 1 := ⟨k - 1, by omega⟩
    simp only [stat_may.j0]
    rw [if_pos trivial]
  have e0 : ∀ a : ByteArray, (a.toList = ([] : List UInt8)) ↔ a.size = 0 := by
    intro a
    rw [ByteArray.toList_eq, L_size, List.length_eq_zero_iff]
  unfold mayB
  by_cases c1 : n.size = 0
  · rw [decide_eq_false (by omega : ¬ 1 ≤ n.size)]
    simp only [Bool.false_and]
    refine Ev.congr (fun k => ?_) (no (b := n.toList == ([] : List UInt8)) (beq_iff_eq.2 ((e0 n).2 c1)))
    unfold stat_may.f
    rw [if_pos ((e0 n).2 c1)]
  · rw [decide_eq_true (by omega : 1 ≤ n.size), Bool.true_and]
    by_cases c2 : n.size ≤ 64
    · rw [decide_eq_true c2, Bool.true_and]
      by_cases c3 : v.size = 0
      · rw [decide_eq_false (by omega : ¬ 1 ≤ v.size)]
        simp only [Bool.false_and]
        refine Ev.congr (fun k => ?_) (no (b := v.toList == ([] : List UInt8)) (beq_iff_eq.2 ((e0 v).2 c3)))
        unfold stat_may.f
        rw [if_neg (fun h => c1 ((e0 n).1 h)), if_neg (by omega), if_pos ((e0 v).2 c3)]
      · rw [decide_eq_true (by omega : 1 ≤ v.size), Bool.true_and]
        by_cases c4 : v.size ≤ 200
        · rw [decide_eq_true c4, Bool.true_and]
          have hf : ∀ k, stat_may.f k n v = stat_may.j0 k false n v := by
            intro k
            unfold stat_may.f
            rw [if_neg (fun h => c1 ((e0 n).1 h)), if_neg (by omega), if_neg (fun h => c3 ((e0 v).1 h)), decide_eq_false (by omega)]
          refine Ev.congr hf ?_
          have w1 := within_loop n hn 33 126 n.size 0 (by omega)
          have w2 := within_loop v hv 32 126 v.size 0 (by omega)
          rw [List.drop_zero] at w1 w2
          have ht : strings_Trim.f v (⟨#[32]⟩ : ByteArray) = some ⟨(Lib.trimB (L v) 32).toArray⟩ := by
            unfold strings_Trim.f
            show (if _ then _ else _) = _
            rw [if_pos ⟨by decide, by omega⟩]
          have h := Ev.bind (f := fun k t111 => (if t111 = true then ((stat_within.f k v 32 126).bind fun t112 => (if t112 = true then ((strings_Trim.f v (⟨#[32]⟩ : ByteArray)).bind fun t113 => (some (t113.toList == v.toList))) else (some false))) else (some false))) (r := inR 33 126 (L n) && inR 32 126 (L v) && ends (L v)) (show Ev (fun k => stat_within.f k n 33 126) _ from w1) (by
            cases inR 33 126 (L n) with
            | false => exact Ev.now _
            | true =>
              rw [Bool.true_and]
              refine Ev.bind (f := fun k t112 => (if t112 = true then ((strings_Trim.f v (⟨#[32]⟩ : ByteArray)).bind fun t113 => (some (t113.toList == v.toList))) else (some false))) (show Ev (fun k => stat_within.f k v 32 126) _ from w2) ?_
              cases inR 32 126 (L v) with
              | false => exact Ev.now _
              | true =>
                refine ⟨0, fun k _ => ?_⟩
                show (if true = true then _ else _) = _
                rw [if_pos rfl, ht, Option.bind_some, Bool.true_and, ← trim_ends (L v), ByteArray.toList_eq, ByteArray.toList_eq])
          refine Ev.step (fun k => ?_) h
          simp only [stat_may.j0]
          rw [if_neg Bool.false_ne_true]
        · rw [decide_eq_false c4]
          simp only [Bool.false_and]
          refine Ev.congr (fun k => ?_) (no (b := decide ((v.size : Int) > 200)) (decide_eq_true (by omega)))
          unfold stat_may.f
          rw [if_neg (fun h => c1 ((e0 n).1 h)), if_neg (by omega), if_neg (fun h => c3 ((e0 v).1 h))]
    · rw [decide_eq_false c2]
      simp only [Bool.false_and]
      refine Ev.congr (fun k => ?_) (no (b := decide ((n.size : Int) > 64)) (decide_eq_true (by omega)))
      unfold stat_may.f
      rw [if_neg (fun h => c1 ((e0 n).1 h)), if_pos (by omega)]
end Go.Proofs.YteddljbdjgdlnaaDoor.XSb
end
section
namespace Go.Proofs.YteddljbdjgdlnaaDoor.XSb
open Go.RowKit Go.Proofs.YteddljbdjgdlnaaDoorW.PrintWords Go.Proofs.YteddljbdjgdlnaaDoorW.PrintLast Go.Proofs.YteddljbdjgdlnaaDoorW.PrintMore
abbrev F := S52
abbrev G := S83
def conv (p : F) : G := ⟨p.f0, p.f1⟩
def back (p : G) : F := ⟨p.f0, p.f1⟩
theorem L_ba (l : List UInt8) : L (ba l) = l := by simp
theorem rd_at (l : List F) (i : Nat) (hi : i < l.length) : rd_T52 l (i : Int) = l[i] := by
  unfold rd_T52
  rw [Int.toNat_natCast, List.getD_eq_getElem?_getD, List.getElem?_eq_getElem hi]; rfl
theorem rd_atG (l : List G) (i : Nat) (hi : i < l.length) : rd_T83 l (i : Int) = l[i] := by
  unfold rd_T83
  rw [Int.toNat_natCast, List.getD_eq_getElem?_getD, List.getElem?_eq_getElem hi]; rfl
def tot (l : List F) : Nat := (l.map fun p => p.f0.size + p.f1.size).sum
theorem tot_cons (p : F) (l : List F) : tot (p :: l) = p.f0.size + p.f1.size + tot l := by simp [tot]
theorem tot_append (a b : List F) : tot (a ++ b) = tot a + tot b := by simp [tot]
theorem tot_take (l : List F) (i : Nat) : tot (l.take i) ≤ tot l := by
  have := tot_append (l.take i) (l.drop i)
  rw [List.take_append_drop] at this
  omega
def Fit (l : List F) : Prop := ∀ p ∈ l, p.f0.size ≤ 140737488351232 ∧ p.f1.size ≤ 140737488351232
theorem great_loop (l : List F) (hf : Fit l) (hl : l.length ≤ 1100) (d : Nat) : ∀ i, i + d = l.length → Ev (fun k => tallboylaw32_Great.l0 k l ((tot (l.take i) : Nat) : Int) (i : Int)) (decide (50000 ≤ tot l)) := by
  induction d with
  | zero =>
    intro i hi
    rw [List.take_of_length_le (by omega)]
    refine ⟨1, fun k hk => ?_⟩
    obtain ⟨k, rfl⟩ : ∃ m, k = m + 1 := ⟨k - 1, by omega⟩
    simp only [tallboylaw32_Great.l0]
    rw [if_neg (by omega)]
    congr 1
    by_cases h : 50000 ≤ tot l
    · rw [decide_eq_true h, decide_eq_true (by omega)]
    · rw [decide_eq_false h, decide_eq_false (by omega)]
  | succ d ih =>
    intro i hi
    have hil : i < l.length := by omega
    by_cases h : tot (l.take i) < 50000
    · have h1 := ih (i + 1) (by omega)
      have hp := hf l[i] (List.getElem_mem hil)
      rw [List.take_add_one, List.getElem?_eq_getElem hil, tot_append, show tot (some l[i]).toList = l[i].f0.size + l[i].f1.size from by simp [tot]] at h1
      refine Ev.step (fun k => ?_) h1
      simp only [tallboylaw32_Great.l0]
      rw [if_pos (by omega), if_pos (by omega), if_pos (by omega), rd_at l i hil, wrap_succ i (by omega)]
      have w1 : wrap64 (((tot (l.take i) : Nat) : Int) + (l[i].f0.size : Int)) = ((tot (l.take i) + l[i].f0.size : Nat) : Int) := by unfold wrap64; omega
      have w2 : wrap64 (((tot (l.take i) + l[i].f0.size : Nat) : Int) + (l[i].f1.size : Int)) = ((tot (l.take i) + (l[i].f0.size + l[i].f1.size) : Nat) : Int) := by unfold wrap64; omega
      rw [w1, w2]
    · have := tot_take l i
      refine ⟨1, fun k hk => ?_⟩
      obtain ⟨k, rfl⟩ : ∃ m, k = m + 1 := ⟨k - 1, by omega⟩
      simp only [tallboylaw32_Great.l0]
      rw [if_pos (by omega), if_neg (by omega), decide_eq_true (by omega), decide_eq_true (by omega)]
theorem great (l : List F) (hf : Fit l) (hl : l.length ≤ 1100) : Ev (fun k => tallboylaw32_Great.f k l) (decide (50000 ≤ tot l)) := by
  refine Ev.congr (fun k => ?_) (great_loop l hf hl l.length 0 (by omega))
  unfold tallboylaw32_Great.f
  rw [if_neg (by omega)]; rfl
theorem to_pairs (l : List F) (hl : l.length ≤ 4398046511100) : Ev (fun k => tallboylaw32_To.f k l) (l.map conv) := by
  have loop : ∀ d i, i + d = l.length → Ev (fun k => tallboylaw32_To.l0 k l ((l.take i).map conv) (i : Int)) (l.map conv) := by
    intro d
    induction d with
    | zero =>
      intro i hi
      rw [List.take_of_length_le (by omega)]
      refine ⟨1, fun k hk => ?_⟩
      obtain ⟨k, rfl⟩ : ∃ m, k = m + 1 := ⟨k - 1, by omega⟩
      simp only [tallboylaw32_To.l0]
      rw [if_neg (by omega)]
    | succ d ih =>
      intro i hi
      have hil : i < l.length := by omega
      refine Ev.step (fun k => ?_) (ih (i + 1) (by omega))
      simp only [tallboylaw32_To.l0]
      rw [if_pos (by omega), if_pos (by omega), if_pos (by rw [List.length_map, List.length_take]; omega), rd_at l i hil, wrap_succ i (by omega), List.take_add_one, List.getElem?_eq_getElem hil, List.map_append]
      rfl
  exact loop l.length 0 (by omega)
theorem from_pairs (l : List G) (hl : l.length ≤ 4398046511100) : Ev (fun k => tallboylaw32_From.f k l) (l.map back) := by
  have loop : ∀ d i, i + d = l.length → Ev (fun k => tallboylaw32_From.l0 k l ((l.take i).map back) (i : Int)) (l.map back) := by
    intro d
    induction d with
    | zero =>
      intro i hi
      rw [List.take_of_length_le (by omega)]
      refine ⟨1, fun k hk => ?_⟩
      obtain ⟨k, rfl⟩ : ∃ m, k = m + 1 := ⟨k - 1, by omega⟩
      simp only [tallboylaw32_From.l0]
      rw [if_neg (by omega)]
    | succ d ih =>
      intro i hi
      have hil : i < l.length := by omega
      refine Ev.step (fun k => ?_) (ih (i + 1) (by omega))
      simp only [tallboylaw32_From.l0]
      rw [if_pos (by omega), if_pos (by omega), if_pos (by rw [List.length_map, List.length_take]; omega), rd_atG l i hil, wrap_succ i (by omega), List.take_add_one, List.getElem?_eq_getElem hil, List.map_append]
      rfl
  exact loop l.length 0 (by omega)
theorem same_same (l : List F) (hl : l.length ≤ 4398046511100) : Ev (fun k => tallboyref32_Same.f k l l) true := by
  have loop : ∀ d i, i + d = l.length → Ev (fun k => tallboyref32_Same.l0 k l l (i : Int)) true := by
    intro d
    induction d with
    | zero =>
      intro i hi
      refine ⟨1, fun k hk => ?_⟩
      obtain ⟨k, rfl⟩ : ∃ m, k = m + 1 := ⟨k - 1, by omega⟩
      simp only [tallboyref32_Same.l0]
      rw [if_neg (by omega)]
    | succ d ih =>
      intro i hi
      refine Ev.step (fun k => ?_) (ih (i + 1) (by omega))
      simp only [tallboyref32_Same.l0]
      rw [if_pos (by omega), if_pos (by omega), if_pos (by omega), wrap_succ i (by omega), if_neg (by simp)]
  refine Ev.congr (fun k => ?_) (loop l.length 0 (by omega))
  unfold tallboyref32_Same.f
  rw [if_pos rfl]; rfl

def lineL (p : F) : List UInt8 := [83, 84, 65, 84, 32] ++ L p.f0 ++ [32] ++ L p.f1 ++ [13, 10]
def wrT : List F → List UInt8 → ByteArray × Int
  | [], acc => (ba (acc ++ [69, 78, 68, 13, 10]), 0)
  | p :: l, acc => if mayB p.f0 p.f1 = true then wrT l (acc ++ lineL p) else (⟨#[]⟩, 6)
theorem line_L (p : F) : L (stat_Write.line p.f0 p.f1) = lineL p := by
  unfold stat_Write.line lineL
  rw [L_append, L_append, L_append, L_append]
theorem lineL_length (p : F) : (lineL p).length = p.f0.size + p.f1.size + 8 := by
  rw [← line_L, ← L_size, stat_Write.line_size]
theorem prog_write (l : List F) : ∀ acc : List UInt8, acc.length + tot l + 8 * l.length ≤ 1099511627776 → stat_Write.go (l.map conv) acc = some (wrT l acc) := by
  induction l with
  | nil =>
    intro acc h
    simp only [List.map_nil, stat_Write.go, wrT]
    rw [if_pos (by simp [tot] at h; omega)]
  | cons p l ih =>
    intro acc h
    rw [tot_cons, List.length_cons] at h
    simp only [List.map_cons, stat_Write.go, wrT]
    rw [if_pos (by show acc.length + p.f0.size + p.f1.size ≤ _; omega), show stat_Write.mayO (conv p).f0 (conv p).f1 = some (mayB p.f0 p.f1) from stat_Write.mayO_of _ _ _ (prog_may p.f0 p.f1 (by omega) (by omega)), Option.bind_some]
    cases mayB p.f0 p.f1 with
    | false => rfl
    | true =>
      rw [if_pos rfl, if_pos rfl]
      have := ih (acc ++ lineL p) (by rw [List.length_append, lineL_length]; omega)
      rw [← this]
      show stat_Write.go _ (acc ++ L (stat_Write.line p.f0 p.f1)) = _
      rw [line_L]
end Go.Proofs.YteddljbdjgdlnaaDoor.XSb
end
section
namespace Go.Proofs.YteddljbdjgdlnaaDoor.XSb
open Go.RowKit Go.Proofs.YteddljbdjgdlnaaDoorW.PrintWords Go.Proofs.YteddljbdjgdlnaaDoorW.PrintLast Go.Proofs.YteddljbdjgdlnaaDoorW.PrintMore
theorem L_sub (s : ByteArray) (a b : Nat) : L (sub s a b) = ((L s).drop a).take (b - a) := by
  show (s.extract a b).data.toList = _
  rw [Lib.extract_data]
theorem index_room (l q : List UInt8) (h : 0 ≤ Lib.index l q) : (Lib.index l q).toNat + q.length ≤ l.length := by
  induction l with
  | nil =>
    unfold Lib.index at h ⊢
    by_cases hq : q.isEmpty = true
    · rw [if_pos hq]; rw [List.isEmpty_iff.1 hq]; simp
    · rw [if_neg hq] at h; omega
  | cons b l ih =>
    unfold Lib.index at h ⊢
    by_cases hp : q.isPrefixOf (b :: l) = true
    · rw [if_pos hp]
      have := (List.isPrefixOf_iff_prefix.1 hp).length_le
      simpa using this
    · rw [if_neg hp] at h ⊢
      by_cases h1 : (Lib.index l q == -1) = true
      · rw [if_pos h1] at h; omega
      · rw [if_neg h1] at h ⊢
        have hg := Lib.index_ge l q
        have h2 : Lib.index l q ≠ -1 := by simpa using h1
        have := ih (by omega)
        rw [List.length_cons]; omega
abbrev ix (l : List UInt8) : Int := Lib.index l [13, 10]
abbrev sp (l : List UInt8) : Int := Lib.index l [32]
theorem ix_one (c : UInt8) : ix [c] = -1 := by
  show (if ([13, 10] : List UInt8).isPrefixOf [c] then (0 : Int) else if Lib.index [] [13, 10] == -1 then -1 else Lib.index [] [13, 10] + 1) = -1
  rw [if_neg (by simp [List.isPrefixOf])]; rfl
theorem ix_two (c e : UInt8) (l : List UInt8) : ix (c :: e :: l) = if c = 13 ∧ e = 10 then 0 else if ix (e :: l) = -1 then -1 else ix (e :: l) + 1 := by
  show (if ([13, 10] : List UInt8).isPrefixOf (c :: e :: l) then (0 : Int) else if Lib.index (e :: l) [13, 10] == -1 then -1 else Lib.index (e :: l) [13, 10] + 1) = _
  have hp : (([13, 10] : List UInt8).isPrefixOf (c :: e :: l) = true) ↔ (c = 13 ∧ e = 10) := by
    show ((13 : UInt8) == c && ((10 : UInt8) == e && true)) = true ↔ _
    rw [Bool.and_true, Bool.and_eq_true, beq_iff_eq, beq_iff_eq]
    exact ⟨fun h => ⟨h.1.symm, h.2.symm⟩, fun h => ⟨h.1.symm, h.2.symm⟩⟩
  by_cases h : c = 13 ∧ e = 10
  · rw [if_pos (hp.2 h), if_pos h]
  · rw [if_neg (fun q => h (hp.1 q)), if_neg h]
    by_cases h1 : Lib.index (e :: l) [13, 10] = -1
    · rw [if_pos (by simpa using h1), if_pos h1]
    · rw [if_neg (by simpa using h1), if_neg h1]
def posn : List UInt8 → Nat
  | [] => 0
  | c :: l => if c = 32 then 0 else posn l + 1
theorem posn_le : ∀ l, posn l ≤ l.length
  | [] => Nat.le_refl _
  | c :: l => by
    unfold posn
    have := posn_le l
    split
    · exact Nat.zero_le _
    · rw [List.length_cons]; omega
theorem sp_posn : ∀ l, sp l = if posn l < l.length then (posn l : Int) else -1
  | [] => rfl
  | c :: l => by
    show (if ([32] : List UInt8).isPrefixOf (c :: l) then (0 : Int) else if Lib.index l [32] == -1 then -1 else Lib.index l [32] + 1) = _
    have ih : Lib.index l [32] = if posn l < l.length then (posn l : Int) else -1 := sp_posn l
    have hp : (([32] : List UInt8).isPrefixOf (c :: l) = true) ↔ c = 32 := by
      show ((32 : UInt8) == c && true) = true ↔ _
      rw [Bool.and_true, beq_iff_eq]
      exact eq_comm
    unfold posn
    by_cases h : c = 32
    · rw [if_pos (hp.2 h), if_pos h, if_pos (by rw [List.length_cons]; omega)]; rfl
    · rw [if_neg (fun q => h (hp.1 q)), if_neg h, ih]
      by_cases h1 : posn l < l.length
      · rw [if_pos h1, if_neg (by rw [beq_iff_eq]; omega), if_pos (by rw [List.length_cons]; omega)]; rfl
      · rw [if_neg h1, if_pos (by rfl), if_neg (by rw [List.length_cons]; omega)]
def pairB (t : List UInt8) : Option F :=
  if t.take 5 = [83, 84, 65, 84, 32] then (if posn (t.drop 5) < (t.drop 5).length then (if mayB (ba ((t.drop 5).take (posn (t.drop 5)))) (ba ((t.drop 5).drop (posn (t.drop 5) + 1))) = true then some ⟨ba ((t.drop 5).take (posn (t.drop 5))), ba ((t.drop 5).drop (posn (t.drop 5) + 1))⟩ else none) else none) else none
def rdT (N : Nat) : Nat → List UInt8 → List F → List F × Int × Int
  | 0, _, _ => ([], 0, 6)
  | d + 1, rest, acc => if ix rest < 0 then ([], 0, 6) else
    if rest.take (ix rest).toNat = [69, 78, 68] then (if 1000 < acc.length then ([], 0, 7) else (acc, ((N - (rest.length - ((ix rest).toNat + 2)) : Nat) : Int), 0))
    else match pairB (rest.take (ix rest).toNat) with
      | none => ([], 0, 6)
      | some p => rdT N d (rest.drop ((ix rest).toNat + 2)) (acc ++ [p])
def cv (x : List F × Int × Int) : List G × Int × Int := (x.1.map conv, x.2.1, x.2.2)
theorem ba_size (l : List UInt8) : (ba l).size = l.length := by rw [L_size, L_ba]
theorem cut_f (l q : List UInt8) (h : l.length < 4294967281) : strings_Cut.f (ba l) (ba q) = some (ba (Lib.cut l q).1, ba (Lib.cut l q).2.1, (Lib.cut l q).2.2) := by
  unfold strings_Cut.f
  rw [if_pos (by rw [ba_size]; exact h)]
theorem cut_prefix (t : List UInt8) (ht : t.length ≤ 1099511627776) : strings_CutPrefix.f (ba t) (⟨#[83, 84, 65, 84, 32]⟩ : ByteArray) = some (if t.take 5 = [83, 84, 65, 84, 32] then ba (t.drop 5) else ba t, decide (t.take 5 = [83, 84, 65, 84, 32])) := by
  unfold strings_CutPrefix.f stringslite_CutPrefix.f stringslite_HasPrefix.f
  have hsz : ((⟨#[83, 84, 65, 84, 32]⟩ : ByteArray).size : Int) = 5 := rfl
  rw [hsz, ba_size]
  by_cases h5 : 5 ≤ t.length
  · rw [if_pos (by omega), if_pos (by omega), if_pos (by omega)]
    have e : (sub (ba t) 0 (5 : Int).toNat).toList = t.take 5 := by
      rw [ByteArray.toList_eq]
      show L (sub (ba t) 0 5) = _
      rw [L_sub, L_ba]; rfl
    have e2 : (⟨#[83, 84, 65, 84, 32]⟩ : ByteArray).toList = [83, 84, 65, 84, 32] := by rw [ByteArray.toList_eq]
    have e3 : sub (ba t) (5 : Int).toNat t.length = ba (t.drop 5) := by
      apply ext
      rw [L_sub, L_ba, L_ba]
      show (t.drop 5).take (t.length - 5) = _
      rw [List.take_of_length_le (by rw [List.length_drop]; omega)]
    rw [e, e2]
    simp only [Option.bind_some]
    by_cases hp : t.take 5 = [83, 84, 65, 84, 32]
    · rw [if_pos (by rw [hp]; rfl), if_pos (by omega), if_pos (by omega), if_pos hp, decide_eq_true hp]
      simp only [Option.bind_some]
      rw [e3]
    · rw [if_neg (by rw [beq_iff_eq]; exact hp), if_neg hp, decide_eq_false hp]
      rfl
  · have hp : ¬ t.take 5 = [83, 84, 65, 84, 32] := fun q => by
      have := congrArg List.length q
      rw [List.length_take] at this
      simp at this
      omega
    rw [if_neg (by omega), if_neg hp, decide_eq_false hp]
    rfl
theorem cut_ix (l : List UInt8) : Lib.cut l [13, 10] = if ix l < 0 then (l, [], false) else (l.take (ix l).toNat, l.drop ((ix l).toNat + 2), true) := by
  unfold Lib.cut
  by_cases h : ix l < 0
  · rw [if_neg (by show ¬ 0 ≤ ix l; omega), if_pos h]
  · rw [if_pos (by show 0 ≤ ix l; omega), if_neg h]; rfl
theorem cut_sp (l : List UInt8) : Lib.cut l [32] = if posn l < l.length then (l.take (posn l), l.drop (posn l + 1), true) else (l, [], false) := by
  unfold Lib.cut
  have h := sp_posn l
  by_cases h1 : posn l < l.length
  · rw [if_pos h1] at h
    rw [if_pos (by show 0 ≤ sp l; omega), if_pos h1, show (Lib.index l [32]).toNat = posn l from by show (sp l).toNat = _; omega]; rfl
  · rw [if_neg h1] at h
    rw [if_neg (by show ¬ 0 ≤ sp l; omega), if_neg h1]
theorem ix_room (l : List UInt8) (h : ¬ ix l < 0) : (ix l).toNat + 2 ≤ l.length := index_room l [13, 10] (by show 0 ≤ ix l; omega)
theorem prog_read (s : ByteArray) (hs : s.size ≤ 1000000) : ∀ (d : Nat) (rest : List UInt8) (acc : List F), rest.length < d → rest.length ≤ s.size → acc.length + rest.length ≤ 2000000 →
    Ev (fun k => stat_Read.l0 k s (acc.map conv) (ba rest)) (cv (rdT s.size d rest acc)) := by
  intro d
  induction d with
  | zero => intro rest acc h; omega
  | succ d ih =>
    intro rest acc hd hr ha
    have hc := cut_f rest [13, 10] (by omega)
    rw [cut_ix] at hc
    unfold rdT
    by_cases h0 : ix rest < 0
    · rw [if_pos h0] at hc ⊢
      refine ⟨1, fun k hk => ?_⟩
      obtain ⟨k, rfl⟩ : ∃ m, k = m + 1 := ⟨k - 1, by omega⟩
      simp only [stat_Read.l0]
      rw [show (⟨#[13, 10]⟩ : ByteArray) = ba [13, 10] from rfl, hc]
      rfl
    · rw [if_neg h0] at hc ⊢
      have hroom := ix_room rest h0
      generalize (ix rest).toNat = i at *
      have ht : (rest.take i).length ≤ 1000000 := by rw [List.length_take]; omega
      have hp := cut_prefix (rest.take i) (by omega)
      have hmore : (rest.drop (i + 2)).length = rest.length - (i + 2) := List.length_drop
      have ihm := ih (rest.drop (i + 2))
      generalize rest.take i = t at *
      generalize rest.drop (i + 2) = more at *
      have hml : more.length = rest.length - (i + 2) := hmore
      by_cases he : t = [69, 78, 68]
      · rw [if_pos he]
        refine ⟨1, fun k hk => ?_⟩
        obtain ⟨k, rfl⟩ : ∃ m, k = m + 1 := ⟨k - 1, by omega⟩
        simp only [stat_Read.l0]
        rw [show (⟨#[13, 10]⟩ : ByteArray) = ba [13, 10] from rfl, hc]
        simp only [Option.bind_some]
        rw [if_pos trivial, if_pos (by rw [ByteArray.toList_eq]; exact he), List.length_map, ba_size more]
        by_cases hl : 1000 < acc.length
        · rw [if_pos hl, if_pos (by omega)]; rfl
        · rw [if_neg hl, if_neg (by omega)]
          unfold cv
          congr 3
          show _ = ((s.size - (rest.length - (i + 2)) : Nat) : Int)
          unfold wrap64
          omega
      · rw [if_neg he]
        have hstep : ∀ k, stat_Read.l0 (k + 1) s (acc.map conv) (ba rest) = (strings_CutPrefix.f (ba t) (⟨#[83, 84, 65, 84, 32]⟩ : ByteArray)).bind fun bt130 => ((strings_Cut.f bt130.1 (⟨#[32]⟩ : ByteArray)).bind fun bt132 => (if bt130.2 = true then (if bt132.2.2 = true then ((stat_may.f k bt132.1 bt132.2.1).bind fun t136 => (if t136 = true then (if (acc.map conv).length < 4398046511104 then (stat_Read.l0 k s (acc.map conv ++ [(⟨bt132.1, bt132.2.1⟩ : G)]) (ba more)) else (none)) else (some (([] : List G), 0, 6)))) else (some (([] : List G), 0, 6))) else (some (([] : List G), 0, 6)))) := by
          intro k
          simp only [stat_Read.l0]
          rw [show (⟨#[13, 10]⟩ : ByteArray) = ba [13, 10] from rfl, hc]
          simp only [Option.bind_some]
          rw [if_pos trivial, if_neg (by rw [ByteArray.toList_eq]; exact he)]
        unfold pairB
        have hbad : ∀ b : List UInt8, b.length < 4294967281 → ∃ y, strings_Cut.f (ba b) (⟨#[32]⟩ : ByteArray) = some y := fun b hb => ⟨_, cut_f b [32] hb⟩
        by_cases hpre : t.take 5 = [83, 84, 65, 84, 32]
        · rw [if_pos hpre] at hp ⊢
          rw [decide_eq_true hpre] at hp
          have hu : (t.drop 5).length ≤ 1000000 := by rw [List.length_drop]; omega
          have hc2 := cut_f (t.drop 5) [32] (by omega)
          rw [cut_sp] at hc2
          generalize t.drop 5 = u at *
          by_cases hsp : posn u < u.length
          · rw [if_pos hsp] at hc2 ⊢
            have hmay := prog_may (ba (u.take (posn u))) (ba (u.drop (posn u + 1))) (by rw [ba_size, List.length_take]; omega) (by rw [ba_size, List.length_drop]; omega)
            have hstep2 : ∀ k, stat_Read.l0 (k + 1) s (acc.map conv) (ba rest) = (stat_may.f k (ba (u.take (posn u))) (ba (u.drop (posn u + 1)))).bind fun t136 => (if t136 = true then (stat_Read.l0 k s ((acc ++ [(⟨ba (u.take (posn u)), ba (u.drop (posn u + 1))⟩ : F)]).map conv) (ba more)) else (some (([] : List G), 0, 6))) := by
              intro k
              rw [hstep, hp]
              simp only [Option.bind_some]
              rw [show (⟨#[32]⟩ : ByteArray) = ba [32] from rfl, hc2]
              simp only [Option.bind_some]
              rw [if_pos trivial, if_pos trivial, if_pos (by rw [List.length_map]; omega), List.map_append]
              rfl
            refine Ev.step hstep2 ?_
            refine Ev.bind (f := fun k t136 => (if t136 = true then (stat_Read.l0 k s ((acc ++ [(⟨ba (u.take (posn u)), ba (u.drop (posn u + 1))⟩ : F)]).map conv) (ba more)) else (some (([] : List G), 0, 6)))) hmay ?_
            cases mayB (ba (u.take (posn u))) (ba (u.drop (posn u + 1))) with
            | false => exact Ev.now _
            | true => exact ihm (acc ++ [⟨ba (u.take (posn u)), ba (u.drop (posn u + 1))⟩]) (by omega) (by omega) (by rw [List.length_append, List.length_singleton]; omega)
          · rw [if_neg hsp] at hc2 ⊢
            refine Ev.step (f := fun _ => some (([] : List G), (0 : Int), (6 : Int))) (fun k => ?_) (Ev.now _)
            rw [hstep, hp]
            simp only [Option.bind_some]
            rw [show (⟨#[32]⟩ : ByteArray) = ba [32] from rfl, hc2]
            rfl
        · rw [if_neg hpre] at hp ⊢
          rw [decide_eq_false hpre] at hp
          refine Ev.step (f := fun _ => some (([] : List G), (0 : Int), (6 : Int))) (fun k => ?_) (Ev.now _)
          obtain ⟨y, hy⟩ := hbad t (by omega)
          rw [hstep, hp]
          simp only [Option.bind_some]
          rw [hy]
          rfl
theorem Ev.via {α β : Type} {g : Nat → Option α} {F f : Nat → Option β} {a : α} {r : β} (hg : Ev g a) (h : ∀ k, g k = some a → F (k + 1) = f k) (hf : Ev f r) : Ev F r := by
  obtain ⟨K1, h1⟩ := hg
  obtain ⟨K2, h2⟩ := hf
  refine ⟨max K1 K2 + 1, fun k hk => ?_⟩
  obtain ⟨k, rfl⟩ : ∃ m, k = m + 1 := ⟨k - 1, by omega⟩
  rw [h k (h1 k (by omega)), h2 k (by omega)]
theorem rd_len (N : Nat) : ∀ (d : Nat) (rest : List UInt8) (acc : List F), (rdT N d rest acc).1.length ≤ 1000
  | 0, _, _ => Nat.zero_le _
  | d + 1, rest, acc => by
    unfold rdT
    split
    · exact Nat.zero_le _
    · split
      · split
        · exact Nat.zero_le _
        · show acc.length ≤ 1000
          omega
      · split
        · exact Nat.zero_le _
        · exact rd_len N d _ _
theorem back_conv (l : List F) : (l.map conv).map back = l := by
  rw [List.map_map]
  exact (List.map_congr_left (fun x _ => rfl)).trans (List.map_id _)
end Go.Proofs.YteddljbdjgdlnaaDoor.XSb
end
section
namespace Go.Proofs.YteddljbdjgdlnaaDoor.XSb
open Go.RowKit Go.Proofs.YteddljbdjgdlnaaDoorW.PrintWords Go.Proofs.YteddljbdjgdlnaaDoorW.PrintLast Go.Proofs.YteddljbdjgdlnaaDoorW.PrintMore
def allMay (l : List F) : Bool := l.all fun p => mayB p.f0 p.f1
theorem wr_all : ∀ (l : List F) (acc : List UInt8), allMay l = true → wrT l acc = (ba (acc ++ l.flatMap lineL ++ [69, 78, 68, 13, 10]), 0)
  | [], acc, _ => by simp [wrT]
  | p :: l, acc, h => by
    unfold allMay at h
    rw [List.all_cons, Bool.and_eq_true] at h
    unfold wrT
    rw [if_pos h.1, wr_all l _ h.2, List.flatMap_cons, List.append_assoc acc]
theorem wr_not : ∀ (l : List F) (acc : List UInt8), allMay l = false → wrT l acc = (⟨#[]⟩, 6)
  | [], acc, h => by cases h
  | p :: l, acc, h => by
    unfold wrT
    cases hp : mayB p.f0 p.f1 with
    | false => rfl
    | true =>
      unfold allMay at h
      rw [List.all_cons, hp, Bool.true_and] at h
      rw [if_pos rfl]
      exact wr_not l _ h
theorem ix_at (r : List UInt8) : ∀ x : List UInt8, (13 : UInt8) ∉ x → ix (x ++ 13 :: 10 :: r) = (x.length : Int)
  | [], _ => by
    show ix (13 :: 10 :: r) = 0
    rw [ix_two, if_pos ⟨rfl, rfl⟩]
  | c :: x, h => by
    have hc : c ≠ 13 := fun e => h (by rw [e]; exact List.mem_cons_self)
    have ih := ix_at r x (fun m => h (List.mem_cons_of_mem _ m))
    rw [List.cons_append]
    obtain ⟨e, y, hy⟩ : ∃ e y, x ++ 13 :: 10 :: r = e :: y := by
      cases x with
      | nil => exact ⟨_, _, rfl⟩
      | cons a b => exact ⟨_, _, rfl⟩
    rw [hy] at ih ⊢
    rw [ix_two, if_neg (fun h => hc h.1), ih, if_neg (by omega), List.length_cons]
    omega
theorem posn_at (r : List UInt8) : ∀ x : List UInt8, (32 : UInt8) ∉ x → posn (x ++ 32 :: r) = x.length
  | [], _ => by simp [posn]
  | c :: x, h => by
    have hc : c ≠ 32 := fun e => h (by rw [e]; exact List.mem_cons_self)
    rw [List.cons_append]
    unfold posn
    rw [if_neg hc, posn_at r x (fun m => h (List.mem_cons_of_mem _ m)), List.length_cons]
theorem inR_mem {lo hi : Nat} {l : List UInt8} (h : inR lo hi l = true) {c : UInt8} (hc : c ∈ l) : lo ≤ c.toNat ∧ c.toNat ≤ hi := by
  have := List.all_eq_true.1 h c hc
  simpa using this
theorem may_parts {n v : ByteArray} (h : mayB n v = true) : 1 ≤ n.size ∧ n.size ≤ 64 ∧ v.size ≤ 200 ∧ inR 33 126 (L n) = true ∧ inR 32 126 (L v) = true := by
  unfold mayB at h
  simp only [Bool.and_eq_true, decide_eq_true_eq] at h
  exact ⟨h.1.1.1.1.1.1, h.1.1.1.1.1.2, h.1.1.1.2, h.1.1.2, h.1.2⟩
def headL (p : F) : List UInt8 := [83, 84, 65, 84, 32] ++ (L p.f0 ++ 32 :: L p.f1)
theorem line_head (p : F) (r : List UInt8) : lineL p ++ r = headL p ++ 13 :: 10 :: r := by simp [lineL, headL]
theorem head_13 {p : F} (h : mayB p.f0 p.f1 = true) : (13 : UInt8) ∉ headL p := fun m => by
  obtain ⟨_, _, _, h1, h2⟩ := may_parts h
  unfold headL at m
  rcases List.mem_append.1 m with m | m
  · revert m; decide
  · rcases List.mem_append.1 m with m | m
    · have := (inR_mem h1 m).1
      revert this; decide
    · rcases List.mem_cons.1 m with m | m
      · revert m; decide
      · have := (inR_mem h2 m).1
        revert this; decide
theorem pair_head {p : F} (h : mayB p.f0 p.f1 = true) : pairB (headL p) = some p := by
  obtain ⟨h0, _, _, h1, h2⟩ := may_parts h
  have h32 : (32 : UInt8) ∉ L p.f0 := fun m => by
    have := (inR_mem h1 m).1
    revert this; decide
  have e1 : (headL p).take 5 = [83, 84, 65, 84, 32] := rfl
  have e2 : (headL p).drop 5 = L p.f0 ++ 32 :: L p.f1 := rfl
  have e3 : posn (L p.f0 ++ 32 :: L p.f1) = (L p.f0).length := posn_at _ _ h32
  have b : ∀ x : ByteArray, ba (L x) = x := fun x => ext (L_ba _)
  unfold pairB
  rw [e1, if_pos rfl, e2, e3, if_pos (by simp), List.take_left' rfl, show (L p.f0 ++ 32 :: L p.f1).drop ((L p.f0).length + 1) = L p.f1 by rw [← List.drop_drop, List.drop_left' rfl]; rfl, b, b, if_pos h]
theorem head_end (p : F) : headL p ≠ [69, 78, 68] := fun h => by
  have : (headL p).head? = some 69 := by rw [h]; rfl
  cases this
theorem drop_two (x r : List UInt8) : (x ++ 13 :: 10 :: r).drop (x.length + 2) = r := by
  rw [List.drop_append, List.drop_of_length_le (by omega), show x.length + 2 - x.length = 2 by omega]
  rfl
theorem read_back (N : Nat) (more : List UInt8) : ∀ (l : List F) (d : Nat) (acc : List F), allMay l = true → l.length < d → acc.length + l.length ≤ 1000 →
    rdT N d (l.flatMap lineL ++ [69, 78, 68, 13, 10] ++ more) acc = (acc ++ l, ((N - more.length : Nat) : Int), 0)
  | [], d, acc, _, hd, hl => by
    obtain ⟨d, rfl⟩ : ∃ m, d = m + 1 := ⟨d - 1, by simp at hd; omega⟩
    have e : ([] : List F).flatMap lineL ++ [69, 78, 68, 13, 10] ++ more = [69, 78, 68] ++ 13 :: 10 :: more := rfl
    have hix := ix_at more [69, 78, 68] (by decide)
    rw [e]
    unfold rdT
    rw [hix, if_neg (by decide), show ((([69, 78, 68] : List UInt8).length : Int)).toNat = 3 from rfl, if_pos (show List.take 3 ([69, 78, 68] ++ 13 :: 10 :: more) = [69, 78, 68] from rfl), if_neg (by simp at hl; omega), List.append_nil]
    congr 3
  | p :: l, d, acc, h, hd, hl => by
    obtain ⟨d, rfl⟩ : ∃ m, d = m + 1 := ⟨d - 1, by simp at hd; omega⟩
    unfold allMay at h
    rw [List.all_cons, Bool.and_eq_true] at h
    have e : (p :: l).flatMap lineL ++ [69, 78, 68, 13, 10] ++ more = headL p ++ 13 :: 10 :: (l.flatMap lineL ++ [69, 78, 68, 13, 10] ++ more) := by
      rw [List.flatMap_cons, List.append_assoc, List.append_assoc, line_head, List.append_assoc]
    have hix := ix_at (l.flatMap lineL ++ [69, 78, 68, 13, 10] ++ more) (headL p) (head_13 h.1)
    rw [e]
    unfold rdT
    rw [hix, if_neg (by omega), Int.toNat_natCast, List.take_left' rfl, if_neg (head_end p), pair_head h.1]
    simp only
    rw [drop_two]
    rw [List.length_cons] at hd hl
    rw [read_back N more l d (acc ++ [p]) h.2 (by omega) (by rw [List.length_append, List.length_singleton]; omega), List.append_assoc]
    rfl
theorem lines_len : ∀ l : List F, (l.flatMap lineL).length = tot l + 8 * l.length
  | [] => rfl
  | p :: l => by
    rw [List.flatMap_cons, List.length_append, lineL_length, lines_len l, tot_cons, List.length_cons]
    omega
def bytesL (l : List F) : ByteArray := ba (l.flatMap lineL ++ [69, 78, 68, 13, 10])
theorem bytes_size (l : List F) : (bytesL l).size = tot l + 8 * l.length + 5 := by
  rw [bytesL, ba_size, List.length_append, lines_len]
  rfl
theorem write_all (l : List F) (h : allMay l = true) (hs : tot l + 8 * l.length ≤ 1099511627776) : stat_Write.f (l.map conv) = some (bytesL l, 0) := by
  show stat_Write.go (l.map conv) [] = _
  rw [prog_write l [] (by show 0 + _ + _ ≤ _; omega), wr_all l [] h]
  rfl
theorem write_not (l : List F) (h : allMay l = false) (hs : tot l + 8 * l.length ≤ 1099511627776) : stat_Write.f (l.map conv) = some (⟨#[]⟩, 6) := by
  show stat_Write.go (l.map conv) [] = _
  rw [prog_write l [] (by show 0 + _ + _ ≤ _; omega), wr_not l [] h]
theorem back_all (l : List F) (h : allMay l = true) (hl : l.length ≤ 1000) (more : ByteArray) (hs : tot l + 8 * l.length + more.size ≤ 900000) : ∃ k, stat_Read.f k (bytesL l ++ more) = some (l.map conv, ((bytesL l).size : Int), 0) := by
  have hsz : (bytesL l ++ more).size = tot l + 8 * l.length + 5 + more.size := by rw [ByteArray.size_append, bytes_size]
  have hL : L (bytesL l ++ more) = l.flatMap lineL ++ [69, 78, 68, 13, 10] ++ L more := by rw [L_append]; unfold bytesL; rw [L_ba]
  have e := prog_read (bytesL l ++ more) (by omega) ((bytesL l ++ more).size + 1) (L (bytesL l ++ more)) [] (by rw [← L_size]; omega) (by rw [← L_size]; omega) (by rw [← L_size]; show 0 + _ ≤ _; omega)
  have hr := read_back (bytesL l ++ more).size (L more) l ((bytesL l ++ more).size + 1) [] h (by rw [hsz]; omega) (by show 0 + _ ≤ _; omega)
  rw [← hL] at hr
  rw [hr] at e
  obtain ⟨k, hk⟩ := e.rounds
  refine ⟨k, (show stat_Read.f k _ = _ from hk).trans ?_⟩
  show some (l.map conv, (((bytesL l ++ more).size - (L more).length : Nat) : Int), (0 : Int)) = _
  rw [← L_size, ByteArray.size_append, Nat.add_sub_cancel]
end Go.Proofs.YteddljbdjgdlnaaDoor.XSb
end
