/- Put together by wip/pack.py (this session's own program) out of this session's texts; a kit's tool laid the words and the shelf, of which only what is used stands here. Lean checks it. -/
import Derived.Test.YteddljbdjgdlnaaDoorPSn4
import Derived.OpenShut
import Derived.ChangeArms
import Derived.DataReads
import Derived.DataElems
import Derived.SizedLaws
import Derived.Test.YteddljbdjgdlnaaDoorCards
import Derived.Test.YteddljbdjgdlnaaDoorTie
import Derived.WalkKit
import Derived.ProofKit
import Derived.ShutString
import Derived.ChangeOld
import Derived.Below
import Derived.LaidMore
import Derived.Lay
import Derived.SevenTiedAt
import Derived.Stop.Joined
import Derived.Deep.DeepHandedRow
import Derived.Shelf.Vars
import Derived.Stop.LaidErr
section
namespace Go.Proofs.YteddljbdjgdlnaaDoor.St
open Go.RowKit Go.Proofs.YteddljbdjgdlnaaDoorW.PrintWords Go.Proofs.YteddljbdjgdlnaaDoorW.PrintLast Go.Proofs.YteddljbdjgdlnaaDoorW.PrintMore Go.WideMaps Go.Proofs.YteddljbdjgdlnaaDoor.XSb
set_option linter.unusedVariables false
set_option linter.unusedSimpArgs false
attribute [local go_sem ↓] Go.wp_at_zero Go.wp_at_succ
namespace Wk
def f0 : Figs := app (fun _ => 0) (noteI 1 2 1 1 [])
theorem v1 : valF nm24 f0 Nm.cmd_get = 2 := by kernel_rfl
theorem v2 : valF nm24 f0 Nm.get_hits = 1 := by kernel_rfl
theorem v3 : valF nm24 f0 Nm.get_misses = 1 := by kernel_rfl
theorem h1 : has Nm.cmd_get nm24 = true := by kernel_rfl
theorem h2 : has Nm.get_hits nm24 = true := by kernel_rfl
theorem h3 : has Nm.get_misses nm24 = true := by kernel_rfl
def what : ByteArray := ⟨#[119, 104, 97, 116]⟩
theorem h4 : has what nm24 = false := by kernel_rfl
def p1 : F := ⟨⟨#[97]⟩, ⟨#[98, 32, 99]⟩⟩
def p2 : F := ⟨⟨#[97, 32, 98]⟩, ⟨#[99]⟩⟩
theorem m1 : allMay [p1] = true := by kernel_rfl
theorem m2 : allMay [p2] = false := by kernel_rfl
theorem t1 : tot [p1] = 4 := by kernel_rfl
theorem t2 : tot [p2] = 4 := by kernel_rfl
theorem b1 : bytesL [p1] = ⟨#[83, 84, 65, 84, 32, 97, 32, 98, 32, 99, 13, 10, 69, 78, 68, 13, 10]⟩ := by kernel_rfl
def ev (A B : Nat) : Ev := ⟨0, 1, some ⟨A, 0, none⟩, 2, 2, 0, 0, ⟨#[]⟩, 0, 0, false, 0, 1, some ⟨B, 0, none⟩, 1, 1, 0, none, 0, 0⟩
end Wk
theorem row_one (w : World) (a b : ByteArray) : Kd.C k83 (w.alloc (.cells #[.string a, .string b] 83)) (some ⟨w.heap.size, 0, none⟩) 1 [⟨a, b⟩] := by
  refine ⟨rfl, by decide, fun _ => ⟨_, rfl, ?_⟩⟩
  intro j p hp
  have hb : (w.alloc (.cells #[.string a, .string b] 83)).heap[w.heap.size]? = some (.cells #[.string a, .string b] 83) := heap_alloc_new w _
  match j with
  | 0 =>
    obtain rfl := Option.some.inj hp
    refine ⟨_, rfl, k83_mk _ _, fun i u hu => ?_⟩
    match i with
    | 0 => obtain rfl := Option.some.inj hu; exact fresh_cell hb 0
    | 1 => obtain rfl := Option.some.inj hu; exact fresh_cell hb 1
    | n + 2 => simp at hu
  | n + 1 => simp at hp
set_option maxHeartbeats 16000000 in
set_option maxRecDepth 100000 in
theorem works_calls (w : World) (hv : Vars w) : Calls Tryd.prog 25 #[] w fun e w' => e = .returned (.bool true) ∧ Below w.heap.size w w' := by
  have HV := Aside0.mk hv
  clear hv
  go_enter Tryd.func25, Tryd.ntmps25
  go_wp2_with fail
  refine (New_calls w).mono ?_
  rintro e w1 ⟨g, b, rfl, hA, hg, hb, hb1⟩
  have A1 := Aside0.mk hA
  have B1 := Aside0.mk hb1
  clear hA hb1
  go_wp2_with fail
  have hb2 := (((Below.refl w1.heap.size w1).alloc (Nat.le_refl _) (.cells #[.string ⟨#[97]⟩, .string ⟨#[98]⟩] 9)).alloc (by rw [size_al]; omega) (.cells #[.string ⟨#[97]⟩, .int .u32 0, .string ⟨#[]⟩, .int .u64 0] 135))
  have A2 := Aside0.mk (A1.out.below hb2)
  have B2 := Aside0.mk (B1.out.trans (hb2.mono B1.out.size))
  clear hb2
  refine (Note_calls _ g b 24 (fun _ => 0) (Wk.ev w1.heap.size (w1.heap.size + 1)) [] A2.out rfl (fun j y h => by cases h) (by decide) (show (2 : Nat) ≤ maxLen by decide) (show (1 : Nat) ≤ maxLen by decide)).mono ?_
  rintro e w3 ⟨rfl, hD⟩
  have A3 : Aside0 (At w3 g b 100 nm24 Wk.f0) := ⟨hD.at_.more (by have := note_len (Wk.ev w1.heap.size (w1.heap.size + 1)).kind (Wk.ev w1.heap.size (w1.heap.size + 1)).nk (Wk.ev w1.heap.size (w1.heap.size + 1)).nh (Wk.ev w1.heap.size (w1.heap.size + 1)).code []; simp only [List.length_nil] at this; omega)⟩
  have B3 := Aside0.mk (B2.out.trans (hD.mov.below hg hb B2.out.size))
  clear hD A2 B2 A1 B1
  go_wp2_with fail
  refine (Get_calls w3 g b 100 nm24 Wk.f0 Nm.cmd_get A3.out (by decide)).mono ?_
  rintro e w4 ⟨rfl, rfl⟩
  rw [Wk.v1, Wk.h1]
  go_wp2_with fail
  refine (Get_calls w4 g b 100 nm24 Wk.f0 Nm.get_hits A3.out (by decide)).mono ?_
  rintro e w5 ⟨rfl, rfl⟩
  rw [Wk.v2, Wk.h2]
  go_wp2_with fail
  refine (Get_calls w5 g b 100 nm24 Wk.f0 Nm.get_misses A3.out (by decide)).mono ?_
  rintro e w6 ⟨rfl, rfl⟩
  rw [Wk.v3, Wk.h3]
  go_wp2_with fail
  refine (Get_calls w6 g b 100 nm24 Wk.f0 Wk.what A3.out (by decide)).mono ?_
  rintro e w7 ⟨rfl, rfl⟩
  rw [Wk.h4]
  generalize valF nm24 Wk.f0 Wk.what = x0
  go_wp2_with fail
  have hb8 := (Below.refl w7.heap.size w7).alloc (Nat.le_refl _) (.cells #[.string ⟨#[97]⟩, .string ⟨#[98, 32, 99]⟩] 83)
  have A8 := Aside0.mk (A3.out.below hb8)
  have B8 := Aside0.mk (B3.out.trans (hb8.mono B3.out.size))
  clear hb8
  refine (stat_Write.calls (some ⟨w7.heap.size, 0, none⟩) 1 [⟨⟨#[97]⟩, ⟨#[98, 32, 99]⟩⟩] (bytesL [Wk.p1]) 0 _ (row_one w7 _ _) (Nat.le_refl 1) (write_all [Wk.p1] Wk.m1 (by rw [Wk.t1]; decide))).mono ?_
  rintro e w9 ⟨rfl, hb9⟩
  have A9 := Aside0.mk (A8.out.below hb9)
  have B9 := Aside0.mk (B8.out.trans (hb9.mono B8.out.size))
  clear hb9 A8 B8 A3 B3
  obtain ⟨kr, hkr⟩ := back_all [Wk.p1] Wk.m1 (by decide) ⟨#[109, 111, 114, 101]⟩ (by rw [Wk.t1]; decide)
  have HKR := Lib.hid hkr
  obtain ⟨T, hT⟩ : ∃ T, T = bytesL [Wk.p1] := ⟨_, rfl⟩
  rw [← hT] at HKR ⊢
  have hsz : T.size = 17 := by rw [hT, Wk.b1]; rfl
  have hTl : (T.toList == [83, 84, 65, 84, 32, 97, 32, 98, 32, 99, 13, 10, 69, 78, 68, 13, 10]) = true := by rw [hT, Wk.b1]; kernel_rfl
  have HT := Lib.hid hT
  have HTL := Lib.hid hTl
  clear hT hkr hTl
  go_wp2_with fail
  have hX := stat_Read.calls kr (T ++ ⟨#[109, 111, 114, 101]⟩) ([Wk.p1].map conv) (T.size : Int) 0 w9 (HV.out.below B9.out) HKR.out
  refine hX.mono ?_
  clear hX
  rintro e w10 ⟨v, rfl, hR, hb10⟩
  obtain ⟨Av, cv, rfl, hcv, hC⟩ := Kd.R_reads hR
  have A10 := Aside0.mk (A9.out.below hb10)
  have B10 := Aside0.mk (B9.out.trans (hb10.mono B9.out.size))
  have HC := Aside0.mk hC
  clear hR hb10 hC A9 B9
  go_wp2_with fail
  have hb11 := (Below.refl w10.heap.size w10).alloc (Nat.le_refl _) (.cells #[.string ⟨#[97, 32, 98]⟩, .string ⟨#[99]⟩] 83)
  have A11 := Aside0.mk (A10.out.below hb11)
  have B11 := Aside0.mk (B10.out.trans (hb11.mono B10.out.size))
  have HC11 := Aside0.mk (Kd.C_below HC.out hb11)
  clear hb11 A10 B10 HC
  refine (stat_Write.calls (some ⟨w10.heap.size, 0, none⟩) 1 [⟨⟨#[97, 32, 98]⟩, ⟨#[99]⟩⟩] ⟨#[]⟩ 6 _ (row_one w10 _ _) (Nat.le_refl 1) (write_not [Wk.p2] Wk.m2 (by rw [Wk.t2]; decide))).mono ?_
  rintro e w12 ⟨rfl, hb12⟩
  have A12 := Aside0.mk (A11.out.below hb12)
  have B12 := Aside0.mk (B11.out.trans (hb12.mono B11.out.size))
  have HC12 := Aside0.mk (Kd.C_below HC11.out hb12)
  clear hb12 A11 B11 HC11
  obtain ⟨adv, hadv, c0, c1⟩ := at_T83 HC12.out 0 (by decide) (by decide)
  subst hadv
  have c0a : w12.cell? (adv.add 0) = some (.string ⟨#[97]⟩) := c0
  have c1a : w12.cell? ⟨(adv.add 0).block, (adv.add 0).off + 1, none⟩ = some (.string ⟨#[98, 32, 99]⟩) := c1
  have c0' : w12.cell? adv = some (.string ⟨#[97]⟩) := by simpa [Addr.add] using c0a
  have c1' : w12.cell? ⟨adv.block, adv.off + 1, none⟩ = some (.string ⟨#[98, 32, 99]⟩) := by simpa [Addr.add] using c1a
  clear c0 c1 c0a c1a
  have hTl : T.toList = [83, 84, 65, 84, 32, 97, 32, 98, 32, 99, 13, 10, 69, 78, 68, 13, 10] := beq_iff_eq.1 HTL.out
  go_wp2_with fail
  have hY := General_calls w12 g b 100 Wk.f0 (HV.out.below B12.out) A12.out (ok_app ok_zero)
  refine hY.mono ?_
  clear hY
  rintro e w13 ⟨v13, rfl, hR13, hb13⟩
  obtain ⟨A13, c13, rfl, -, -⟩ := Kd.R_reads hR13
  have B13 := Aside0.mk (B12.out.trans (hb13.mono B12.out.size))
  have hgl : (genL Wk.f0 nm24).length = 24 := by unfold genL; rw [List.length_map]; rfl
  rw [hgl]
  clear hR13 hb13 hgl c0' c1'
  go_wp2
  go_ret
  exact ⟨rfl, B13.out⟩
end Go.Proofs.YteddljbdjgdlnaaDoor.St
end
section
namespace Go.Proofs.YteddljbdjgdlnaaDoor.St
open Go.RowKit Go.Proofs.YteddljbdjgdlnaaDoorW.PrintWords Go.Proofs.YteddljbdjgdlnaaDoorW.PrintLast Go.Proofs.YteddljbdjgdlnaaDoorW.PrintMore Go.WideMaps Go.Proofs.YteddljbdjgdlnaaDoor.XSb
set_option linter.unusedVariables false
set_option linter.unusedSimpArgs false
attribute [local go_sem ↓] Go.wp_at_zero Go.wp_at_succ
theorem noted_n (w : World) (A0 : Option Addr) (m : Nat) (c0 : Nat) (l0 : List X) (hm : l0.length = m) (hC0 : Kd.C k42 w A0 l0.length l0) (hc0 : l0.length ≤ c0) (hs : Small l0) :
    Calls Tryd.prog 9 #[.slice A0 m c0] w fun e w' => ∃ g b, e = .returned (.pointer (some ⟨g, 0, none⟩)) ∧ At w' g b 200000000 nm24 (app (fun _ => 0) (notesL l0)) ∧ w.heap.size ≤ g ∧ w.heap.size ≤ b ∧ Below w.heap.size w w' := by
  subst hm
  exact noted_calls w A0 l0 c0 hC0 hc0 hs
theorem small_sub {l k : List X} (h : Small l) (hl : k.length ≤ l.length) (hm : ∀ x ∈ k, x ∈ l) : Small k := ⟨Nat.le_trans hl h.1, fun x hx => h.2 x (hm x hx)⟩
noncomputable def bk (f : Figs) : List F := (genL f nm24).map XSb.back
theorem gen_len (f : Figs) : (genL f nm24).length = 24 := by unfold genL; rw [List.length_map]; rfl
theorem from_gen (f : Figs) : ∃ k, tallboylaw32_From.f k (genL f nm24) = some (bk f) := (from_pairs (genL f nm24) (by rw [gen_len]; omega)).rounds
theorem same_bk (f : Figs) : ∃ k, tallboyref32_Same.f k (bk f) (bk f) = some true := (same_same (bk f) (by unfold bk; rw [List.length_map, gen_len]; omega)).rounds
theorem below_drawn {w w' : World} (h : Drawn0 w w') : Below w.heap.size w w' := by
  obtain ⟨n, rfl⟩ := h
  exact below_drewN _ _
structure Apart (g b g' b' : Nat) : Prop where
  p1 : g ≠ g'
  p2 : g ≠ b'
  p3 : b ≠ g'
  p4 : b ≠ b'
theorem apart_of {w : World} {g b c g' b' : Nat} {f : Figs} (h : At w g b c nm24 f) (h1 : w.heap.size ≤ g') (h2 : w.heap.size ≤ b') : Apart g b g' b' :=
  ⟨Nat.ne_of_lt (Nat.lt_of_lt_of_le h.lt h1), Nat.ne_of_lt (Nat.lt_of_lt_of_le h.lt h2), Nat.ne_of_lt (Nat.lt_of_lt_of_le h.ltb h1), Nat.ne_of_lt (Nat.lt_of_lt_of_le h.ltb h2)⟩
theorem Apart.symm {g b g' b' : Nat} (h : Apart g b g' b') : Apart g' b' g b := ⟨h.p1.symm, h.p3.symm, h.p2.symm, h.p4.symm⟩
set_option maxHeartbeats 16000000 in
set_option maxRecDepth 100000 in
theorem parts_calls (w : World) (hv : Vars w) (A0 : Option Addr) (l0 : List X) (c0 : Nat) (at_ : Int) (hc0 : l0.length ≤ c0) (hC0 : Kd.C k42 w A0 l0.length l0) (kg : Nat) (gr : Bool) (hgr : tallboylaw25_Great.f kg l0 = some gr) (hsm : gr = false → Small l0) :
    Calls Tryd.prog 6 #[.slice A0 l0.length c0, .int .i64 at_] w fun e w' => e = .returned (.bool true) ∧ Below w.heap.size w w' := by
  have HV := Aside0.mk hv
  have HC0 := Aside0.mk hC0
  have HG := Lib.hid hgr
  have HSM := Lib.hid hsm
  clear hv hC0 hgr hsm
  go_enter Tryd.func6, Tryd.ntmps6
  go_wp2_with fail
  refine (works_calls w HV.out).mono ?_
  rintro e w1 ⟨rfl, hb1⟩
  have B1 := Aside0.mk hb1
  have C1 := Aside0.mk (Kd.C_below HC0.out hb1)
  clear hb1 HC0
  go_wp2_with fail
  have hX := tallboylaw25_Great.calls kg A0 c0 l0 gr w1 C1.out hc0 HG.out
  refine hX.mono ?_
  clear hX
  rintro e w3 ⟨rfl, hb3⟩
  have B2 := Aside0.mk (B1.out.trans (hb3.mono B1.out.size))
  have C2 := Aside0.mk (Kd.C_below C1.out hb3)
  clear hb3 B1 C1
  cases gr with
  | true =>
    go_wp2
    go_ret
    exact ⟨rfl, B2.out⟩
  | false =>
    have hsmall := HSM.out rfl
    have hlb : l0.length ≤ 1000 := hsmall.1
    have hlbi : (l0.length : Int) ≤ 1000 := by omega
    have HSMALL := Lib.hid hsmall
    clear hsmall
    go_upto_region 6 with fail
    obtain ⟨n, hn, hnl⟩ : ∃ n : Nat, wrap64 ((IntKind.u64.wrap at_).tmod ((l0.length : Int) + 1)) = (n : Int) ∧ n ≤ l0.length := by
      have h1 : 0 ≤ IntKind.u64.wrap at_ := by rw [IntKind.wrap_u64]; exact Int.emod_nonneg _ (by decide)
      have h2 := Int.emod_nonneg (IntKind.u64.wrap at_) (show ((l0.length : Int) + 1) ≠ 0 by omega)
      have h3 := Int.emod_lt_of_pos (IntKind.u64.wrap at_) (show 0 < ((l0.length : Int) + 1) by omega)
      rw [Int.tmod_eq_emod_of_nonneg h1]
      refine ⟨((IntKind.u64.wrap at_) % ((l0.length : Int) + 1)).toNat, ?_, ?_⟩
      · rw [Int.toNat_of_nonneg h2]
        unfold wrap64
        omega
      · omega
    rw [hn]
    have hn0 : (0 : Int) ≤ (n : Int) := by omega
    have hn1 : (n : Int) ≤ (l0.length : Int) := by omega
    have hn2 : (n : Int) ≤ (c0 : Int) := by omega
    have hlc : (l0.length : Int) ≤ (c0 : Int) := by omega
    clear hn HG
    have BN := Aside0.mk (Below.refl w3.heap.size w3).drew
    have Ta := Lib.hid (show (l0.take n).length = n by rw [List.length_take]; omega)
    have Tb := Lib.hid (show (l0.drop n).length = l0.length - n from List.length_drop)
    have Ca := Aside0.mk (Kd.C_take C2.out hnl)
    obtain ⟨AB, hAB⟩ : ∃ AB, (if c0 = n then A0 else Option.map (fun x => x.add (n * 14)) A0) = AB := ⟨_, rfl⟩
    have Cb : Aside0 (Kd.C k42 w3 AB (l0.drop n).length (l0.drop n)) := ⟨by rw [← hAB]; exact Kd.C_drop C2.out hnl hc0⟩
    have Ka := Lib.hid (show (l0.take n).length ≤ c0 by rw [Ta.out]; omega)
    have Kb := Lib.hid (show (l0.drop n).length ≤ c0 - n by rw [Tb.out]; omega)
    have Kc := Lib.hid hc0
    have Sa := Lib.hid (small_sub HSMALL.out (by rw [Ta.out]; exact hnl) (fun x hx => List.mem_of_mem_take hx))
    have Sb := Lib.hid (small_sub HSMALL.out (by rw [Tb.out]; omega) (fun x hx => List.mem_of_mem_drop hx))
    go_cut [6, 7, 8] (fun v6 v7 v8 wc => ∃ ga ba gb bb gc bc, v6 = .pointer (some ⟨ga, 0, none⟩) ∧ v7 = .pointer (some ⟨gb, 0, none⟩) ∧ v8 = .pointer (some ⟨gc, 0, none⟩) ∧
      Aside0 (At wc ga ba 200000000 nm24 (app (fun _ => 0) (notesL (l0.take n)))) ∧ Aside0 (At wc gb bb 200000000 nm24 (app (fun _ => 0) (notesL (l0.drop n)))) ∧ Aside0 (At wc gc bc 200000000 nm24 (app (fun _ => 0) (notesL l0))) ∧ Aside0 (Apart ga ba gb bb) ∧ Aside0 (Apart ga ba gc bc) ∧
      Hid (w3.heap.size ≤ ga ∧ w3.heap.size ≤ ba) ∧ Hid (w3.heap.size ≤ gc ∧ w3.heap.size ≤ bc) ∧ Aside0 (Below w3.heap.size w3 wc))
    case first =>
      go_region_held3 (fun w' => True) (trivial)
        (first
          | (go_at_call 9; with_reducible refine (noted_n _ A0 n c0 (l0.take n) Ta.out (Kd.C_below Ca.out BN.out) Ka.out Sa.out).mono ?_; rintro e wa ⟨ga, ba, rfl, hA, hg, hb, hbw⟩; (first | (have Dba := Aside0.mk (apart_of Ab.out hg hb); have Ab' := Aside0.mk (Ab.out.below hbw); clear Ab; have Ab := Ab'; clear Ab') | skip); (first | (have Dca := Aside0.mk (apart_of Ac.out hg hb); have Ac' := Aside0.mk (Ac.out.below hbw); clear Ac; have Ac := Ac'; clear Ac') | skip); (have Aa := Aside0.mk hA); (have La := Lib.hid (show w3.heap.size ≤ ga ∧ w3.heap.size ≤ ba from ⟨Nat.le_trans BN.out.size hg, Nat.le_trans BN.out.size hb⟩)); (have BN' := Aside0.mk (BN.out.trans (hbw.mono BN.out.size))); clear BN; (have BN := BN'); clear BN' hA hg hb hbw)
          | (go_at_call 9; with_reducible refine (noted_n _ AB (l0.length - n) (c0 - n) (l0.drop n) Tb.out (Kd.C_below Cb.out BN.out) Kb.out Sb.out).mono ?_; rintro e wb ⟨gb, bb, rfl, hA, hg, hb, hbw⟩; (first | (have Dab := Aside0.mk (apart_of Aa.out hg hb); have Aa' := Aside0.mk (Aa.out.below hbw); clear Aa; have Aa := Aa'; clear Aa') | skip); (first | (have Dcb := Aside0.mk (apart_of Ac.out hg hb); have Ac' := Aside0.mk (Ac.out.below hbw); clear Ac; have Ac := Ac'; clear Ac') | skip); (have Ab := Aside0.mk hA); (have Lb := Lib.hid (show w3.heap.size ≤ gb ∧ w3.heap.size ≤ bb from ⟨Nat.le_trans BN.out.size hg, Nat.le_trans BN.out.size hb⟩)); (have BN' := Aside0.mk (BN.out.trans (hbw.mono BN.out.size))); clear BN; (have BN := BN'); clear BN' hA hg hb hbw)
          | (go_at_call 9; with_reducible refine (noted_n _ A0 l0.length c0 l0 rfl (Kd.C_below C2.out BN.out) Kc.out HSMALL.out).mono ?_; rintro e wc ⟨gc, bc, rfl, hA, hg, hb, hbw⟩; (first | (have Dac := Aside0.mk (apart_of Aa.out hg hb); have Aa' := Aside0.mk (Aa.out.below hbw); clear Aa; have Aa := Aa'; clear Aa') | skip); (first | (have Dbc := Aside0.mk (apart_of Ab.out hg hb); have Ab' := Aside0.mk (Ab.out.below hbw); clear Ab; have Ab := Ab'; clear Ab') | skip); (have Ac := Aside0.mk hA); (have Lc := Lib.hid (show w3.heap.size ≤ gc ∧ w3.heap.size ≤ bc from ⟨Nat.le_trans BN.out.size hg, Nat.le_trans BN.out.size hb⟩)); (have BN' := Aside0.mk (BN.out.trans (hbw.mono BN.out.size))); clear BN; (have BN := BN'); clear BN' hA hg hb hbw))
      all_goals
        go_wp2_with fail
        go_meet
        case rel =>
          first
            | exact ⟨ga, ba, gb, bb, gc, bc, rfl, rfl, rfl, Aa, Ab, Ac, Dab, Dac, La, Lc, BN⟩
            | exact ⟨ga, ba, gb, bb, gc, bc, rfl, rfl, rfl, Aa, Ab, Ac, ⟨Dba.out.symm⟩, Dac, La, Lc, BN⟩
            | exact ⟨ga, ba, gb, bb, gc, bc, rfl, rfl, rfl, Aa, Ab, Ac, Dab, ⟨Dca.out.symm⟩, La, Lc, BN⟩
            | exact ⟨ga, ba, gb, bb, gc, bc, rfl, rfl, rfl, Aa, Ab, Ac, ⟨Dba.out.symm⟩, ⟨Dca.out.symm⟩, La, Lc, BN⟩
    case rest =>
      obtain ⟨ga, ba, gb, bb, gc, bc, rfl, rfl, rfl, Aa, Ab, Ac, Dab, Dac, La, Lc, BN3⟩ := hcut
      have BW := Aside0.mk (B2.out.trans (BN3.out.mono B2.out.size))
      have La' := Lib.hid (show w.heap.size ≤ ga ∧ w.heap.size ≤ ba from ⟨Nat.le_trans B2.out.size La.out.1, Nat.le_trans B2.out.size La.out.2⟩)
      have Lc' := Lib.hid (show w.heap.size ≤ gc ∧ w.heap.size ≤ bc from ⟨Nat.le_trans B2.out.size Lc.out.1, Nat.le_trans B2.out.size Lc.out.2⟩)
      have OKfa := Aside0.mk (ok_app ok_zero (l := notesL (l0.take n)))
      have OKfb := Aside0.mk (ok_app ok_zero (l := notesL (l0.drop n)))
      have OKfc := Aside0.mk (ok_app ok_zero (l := notesL l0))
      have hsum := fun (s : ByteArray) (hs : has s nm24 = true) => part_at (l0.take n) (l0.drop n) hs
      obtain ⟨fa, hfa⟩ : ∃ f, f = app (fun _ => 0) (notesL (l0.take n)) := ⟨_, rfl⟩
      obtain ⟨fb, hfb⟩ : ∃ f, f = app (fun _ => 0) (notesL (l0.drop n)) := ⟨_, rfl⟩
      obtain ⟨fc, hfc⟩ : ∃ f, f = app (fun _ => 0) (notesL l0) := ⟨_, rfl⟩
      rw [List.take_append_drop, ← hfa, ← hfb, ← hfc] at hsum
      rw [← hfa] at Aa OKfa
      rw [← hfb] at Ab OKfb
      rw [← hfc] at Ac OKfc
      have HSUM := Aside0.mk hsum
      clear hsum hfa hfb hfc B2 C2 BN BN3 Ca Cb Ta Tb Ka Kb Kc Sa Sb hAB La Lc HSM HSMALL
      go_wp2_with fail
      have hX := General_calls _ gb bb _ fb (HV.out.below BW.out) Ab.out OKfb.out
      refine hX.mono ?_
      clear hX
      rintro e w11 ⟨v11, rfl, hR, hb⟩
      obtain ⟨R11, q11, rfl, hq11, hC⟩ := Kd.R_reads hR
      have N11 := Aside0.mk (new_row hR Ac.out)
      have Aa' := Aside0.mk (Aa.out.below hb)
      clear Aa
      have Aa := Aa'
      clear Aa'
      have Ab' := Aside0.mk (Ab.out.below hb)
      clear Ab
      have Ab := Ab'
      clear Ab'
      have Ac' := Aside0.mk (Ac.out.below hb)
      clear Ac
      have Ac := Ac'
      clear Ac'
      have BW' := Aside0.mk (BW.out.trans (hb.mono BW.out.size))
      clear BW
      have BW := BW'
      clear BW'
      have G11 := Aside0.mk hC
      clear hC hR hb
      go_wp2_with fail
      obtain ⟨k12, hk12⟩ := from_gen fb
      have hX := tallboylaw32_From.calls k12 R11 q11 (genL fb nm24) (bk fb) _ G11.out hq11 hk12
      refine hX.mono ?_
      clear hX hk12
      rintro e w12 ⟨v12, rfl, hR, hb⟩
      obtain ⟨R12, q12, rfl, hq12, hC⟩ := Kd.R_reads hR
      have N12 := Aside0.mk (new_row hR Aa.out)
      clear G11
      have Aa' := Aside0.mk (Aa.out.below hb)
      clear Aa
      have Aa := Aa'
      clear Aa'
      have Ab' := Aside0.mk (Ab.out.below hb)
      clear Ab
      have Ab := Ab'
      clear Ab'
      have Ac' := Aside0.mk (Ac.out.below hb)
      clear Ac
      have Ac := Ac'
      clear Ac'
      have BW' := Aside0.mk (BW.out.trans (hb.mono BW.out.size))
      clear BW
      have BW := BW'
      clear BW'
      have F12 := Aside0.mk hC
      clear hC hR hb
      go_wp2_with fail
      have hX := Add_other _ ga ba 200000000 gb bb 200000000 fa fb Aa.out Ab.out (by decide) Dab.out.p1.symm Dab.out.p3.symm Dab.out.p2.symm Dab.out.p4.symm
      refine hX.mono ?_
      clear hX
      rintro e w20 ⟨rfl, ⟨hA, hB⟩, hM⟩
      have hA' : At w20 ga ba 300000000 nm24 fc := (hA.eq (fun _ => rfl) (fun s hs => (HSUM.out s hs).symm)).more (by decide)
      have Ac' := Aside0.mk (Ac.out.mut hM Dac.out.p1.symm Dac.out.p3.symm Dac.out.p2.symm Dac.out.p4.symm)
      have BW' := Aside0.mk (BW.out.trans (hM.below La'.out.1 La'.out.2 BW.out.size))
      have FW' := Aside0.mk (C_same F12.out (fun ad e => hM.block ad.block (N12.out ad e).1 (N12.out ad e).2.1 (N12.out ad e).2.2))
      clear Aa Ab Ac BW F12
      have Aa := Aside0.mk hA'
      have Ab := Aside0.mk hB
      have Ac := Ac'
      have BW := BW'
      have F12 := FW'
      clear hA hA' hB hM Ac' BW' FW' N12
      go_wp2_with fail
      have hX := General_calls _ ga ba _ fc (HV.out.below BW.out) Aa.out OKfc.out
      refine hX.mono ?_
      clear hX
      rintro e w13 ⟨v13, rfl, hR, hb⟩
      obtain ⟨R13, q13, rfl, hq13, hC⟩ := Kd.R_reads hR
      have N13 := Aside0.mk (new_row hR Ac.out)
      have Aa' := Aside0.mk (Aa.out.below hb)
      clear Aa
      have Aa := Aa'
      clear Aa'
      have Ab' := Aside0.mk (Ab.out.below hb)
      clear Ab
      have Ab := Ab'
      clear Ab'
      have Ac' := Aside0.mk (Ac.out.below hb)
      clear Ac
      have Ac := Ac'
      clear Ac'
      have BW' := Aside0.mk (BW.out.trans (hb.mono BW.out.size))
      clear BW
      have BW := BW'
      clear BW'
      have F12' := Aside0.mk (Kd.C_below F12.out hb)
      clear F12
      have F12 := F12'
      clear F12'
      have G13 := Aside0.mk hC
      clear hC hR hb
      go_wp2_with fail
      obtain ⟨k14, hk14⟩ := from_gen fc
      have hX := tallboylaw32_From.calls k14 R13 q13 (genL fc nm24) (bk fc) _ G13.out hq13 hk14
      refine hX.mono ?_
      clear hX hk14
      rintro e w14 ⟨v14, rfl, hR, hb⟩
      obtain ⟨R14, q14, rfl, hq14, hC⟩ := Kd.R_reads hR
      have N14 := Aside0.mk (new_row hR Aa.out)
      clear G13
      have Aa' := Aside0.mk (Aa.out.below hb)
      clear Aa
      have Aa := Aa'
      clear Aa'
      have Ab' := Aside0.mk (Ab.out.below hb)
      clear Ab
      have Ab := Ab'
      clear Ab'
      have Ac' := Aside0.mk (Ac.out.below hb)
      clear Ac
      have Ac := Ac'
      clear Ac'
      have BW' := Aside0.mk (BW.out.trans (hb.mono BW.out.size))
      clear BW
      have BW := BW'
      clear BW'
      have F12' := Aside0.mk (Kd.C_below F12.out hb)
      clear F12
      have F12 := F12'
      clear F12'
      have F14 := Aside0.mk hC
      clear hC hR hb
      go_wp2_with fail
      have hX := General_calls _ gc bc _ fc (HV.out.below BW.out) Ac.out OKfc.out
      refine hX.mono ?_
      clear hX
      rintro e w15 ⟨v15, rfl, hR, hb⟩
      obtain ⟨R15, q15, rfl, hq15, hC⟩ := Kd.R_reads hR
      have N15 := Aside0.mk (new_row hR Ac.out)
      have Aa' := Aside0.mk (Aa.out.below hb)
      clear Aa
      have Aa := Aa'
      clear Aa'
      have Ab' := Aside0.mk (Ab.out.below hb)
      clear Ab
      have Ab := Ab'
      clear Ab'
      have Ac' := Aside0.mk (Ac.out.below hb)
      clear Ac
      have Ac := Ac'
      clear Ac'
      have BW' := Aside0.mk (BW.out.trans (hb.mono BW.out.size))
      clear BW
      have BW := BW'
      clear BW'
      have F12' := Aside0.mk (Kd.C_below F12.out hb)
      clear F12
      have F12 := F12'
      clear F12'
      have F14' := Aside0.mk (Kd.C_below F14.out hb)
      clear F14
      have F14 := F14'
      clear F14'
      have G15 := Aside0.mk hC
      clear hC hR hb
      go_wp2_with fail
      obtain ⟨k16, hk16⟩ := from_gen fc
      have hX := tallboylaw32_From.calls k16 R15 q15 (genL fc nm24) (bk fc) _ G15.out hq15 hk16
      refine hX.mono ?_
      clear hX hk16
      rintro e w16 ⟨v16, rfl, hR, hb⟩
      obtain ⟨R16, q16, rfl, hq16, hC⟩ := Kd.R_reads hR
      have N16 := Aside0.mk (new_row hR Aa.out)
      clear G15
      have Aa' := Aside0.mk (Aa.out.below hb)
      clear Aa
      have Aa := Aa'
      clear Aa'
      have Ab' := Aside0.mk (Ab.out.below hb)
      clear Ab
      have Ab := Ab'
      clear Ab'
      have Ac' := Aside0.mk (Ac.out.below hb)
      clear Ac
      have Ac := Ac'
      clear Ac'
      have BW' := Aside0.mk (BW.out.trans (hb.mono BW.out.size))
      clear BW
      have BW := BW'
      clear BW'
      have F12' := Aside0.mk (Kd.C_below F12.out hb)
      clear F12
      have F12 := F12'
      clear F12'
      have F14' := Aside0.mk (Kd.C_below F14.out hb)
      clear F14
      have F14 := F14'
      clear F14'
      have F16 := Aside0.mk hC
      clear hC hR hb
      go_wp2_with fail
      obtain ⟨k17, hk17⟩ := same_bk fc
      have hX := tallboyref32_Same.calls k17 R14 q14 (bk fc) R16 q16 (bk fc) true _ F14.out hq14 F16.out hq16 hk17
      refine hX.mono ?_
      clear hX hk17
      rintro e w17 ⟨rfl, hd⟩
      have hb := below_drawn hd
      have Aa' := Aside0.mk (Aa.out.below hb)
      clear Aa
      have Aa := Aa'
      clear Aa'
      have Ab' := Aside0.mk (Ab.out.below hb)
      clear Ab
      have Ab := Ab'
      clear Ab'
      have Ac' := Aside0.mk (Ac.out.below hb)
      clear Ac
      have Ac := Ac'
      clear Ac'
      have BW' := Aside0.mk (BW.out.trans (hb.mono BW.out.size))
      clear BW
      have BW := BW'
      clear BW'
      have F12' := Aside0.mk (Kd.C_below F12.out hb)
      clear F12
      have F12 := F12'
      clear F12'
      have F14' := Aside0.mk (Kd.C_below F14.out hb)
      clear F14
      have F14 := F14'
      clear F14'
      have F16' := Aside0.mk (Kd.C_below F16.out hb)
      clear F16
      have F16 := F16'
      clear F16'
      clear hb hd
      go_wp2_with fail
      have hX := General_calls _ gb bb _ fb (HV.out.below BW.out) Ab.out OKfb.out
      refine hX.mono ?_
      clear hX
      rintro e w18 ⟨v18, rfl, hR, hb⟩
      obtain ⟨R18, q18, rfl, hq18, hC⟩ := Kd.R_reads hR
      have N18 := Aside0.mk (new_row hR Ac.out)
      have Aa' := Aside0.mk (Aa.out.below hb)
      clear Aa
      have Aa := Aa'
      clear Aa'
      have Ab' := Aside0.mk (Ab.out.below hb)
      clear Ab
      have Ab := Ab'
      clear Ab'
      have Ac' := Aside0.mk (Ac.out.below hb)
      clear Ac
      have Ac := Ac'
      clear Ac'
      have BW' := Aside0.mk (BW.out.trans (hb.mono BW.out.size))
      clear BW
      have BW := BW'
      clear BW'
      have F12' := Aside0.mk (Kd.C_below F12.out hb)
      clear F12
      have F12 := F12'
      clear F12'
      have F14' := Aside0.mk (Kd.C_below F14.out hb)
      clear F14
      have F14 := F14'
      clear F14'
      have F16' := Aside0.mk (Kd.C_below F16.out hb)
      clear F16
      have F16 := F16'
      clear F16'
      have G18 := Aside0.mk hC
      clear hC hR hb
      go_wp2_with fail
      obtain ⟨k19, hk19⟩ := from_gen fb
      have hX := tallboylaw32_From.calls k19 R18 q18 (genL fb nm24) (bk fb) _ G18.out hq18 hk19
      refine hX.mono ?_
      clear hX hk19
      rintro e w19 ⟨v19, rfl, hR, hb⟩
      obtain ⟨R19, q19, rfl, hq19, hC⟩ := Kd.R_reads hR
      have N19 := Aside0.mk (new_row hR Aa.out)
      clear G18
      have Aa' := Aside0.mk (Aa.out.below hb)
      clear Aa
      have Aa := Aa'
      clear Aa'
      have Ab' := Aside0.mk (Ab.out.below hb)
      clear Ab
      have Ab := Ab'
      clear Ab'
      have Ac' := Aside0.mk (Ac.out.below hb)
      clear Ac
      have Ac := Ac'
      clear Ac'
      have BW' := Aside0.mk (BW.out.trans (hb.mono BW.out.size))
      clear BW
      have BW := BW'
      clear BW'
      have F12' := Aside0.mk (Kd.C_below F12.out hb)
      clear F12
      have F12 := F12'
      clear F12'
      have F14' := Aside0.mk (Kd.C_below F14.out hb)
      clear F14
      have F14 := F14'
      clear F14'
      have F16' := Aside0.mk (Kd.C_below F16.out hb)
      clear F16
      have F16 := F16'
      clear F16'
      have F19 := Aside0.mk hC
      clear hC hR hb
      go_wp2_with fail
      obtain ⟨k20, hk20⟩ := same_bk fb
      have hX := tallboyref32_Same.calls k20 R19 q19 (bk fb) R12 q12 (bk fb) true _ F19.out hq19 F12.out hq12 hk20
      refine hX.mono ?_
      clear hX hk20
      rintro e w20 ⟨rfl, hd⟩
      have hb := below_drawn hd
      have Aa' := Aside0.mk (Aa.out.below hb)
      clear Aa
      have Aa := Aa'
      clear Aa'
      have Ab' := Aside0.mk (Ab.out.below hb)
      clear Ab
      have Ab := Ab'
      clear Ab'
      have Ac' := Aside0.mk (Ac.out.below hb)
      clear Ac
      have Ac := Ac'
      clear Ac'
      have BW' := Aside0.mk (BW.out.trans (hb.mono BW.out.size))
      clear BW
      have BW := BW'
      clear BW'
      have F12' := Aside0.mk (Kd.C_below F12.out hb)
      clear F12
      have F12 := F12'
      clear F12'
      have F14' := Aside0.mk (Kd.C_below F14.out hb)
      clear F14
      have F14 := F14'
      clear F14'
      have F16' := Aside0.mk (Kd.C_below F16.out hb)
      clear F16
      have F16 := F16'
      clear F16'
      have F19' := Aside0.mk (Kd.C_below F19.out hb)
      clear F19
      have F19 := F19'
      clear F19'
      clear hb hd
      go_wp2_with fail
      have hX := General_calls _ gc bc _ fc (HV.out.below BW.out) Ac.out OKfc.out
      refine hX.mono ?_
      clear hX
      rintro e w21 ⟨v21, rfl, hR, hb⟩
      obtain ⟨R21, q21, rfl, hq21, hC⟩ := Kd.R_reads hR
      have N21 := Aside0.mk (new_row hR Ac.out)
      have Aa' := Aside0.mk (Aa.out.below hb)
      clear Aa
      have Aa := Aa'
      clear Aa'
      have Ab' := Aside0.mk (Ab.out.below hb)
      clear Ab
      have Ab := Ab'
      clear Ab'
      have Ac' := Aside0.mk (Ac.out.below hb)
      clear Ac
      have Ac := Ac'
      clear Ac'
      have BW' := Aside0.mk (BW.out.trans (hb.mono BW.out.size))
      clear BW
      have BW := BW'
      clear BW'
      have F12' := Aside0.mk (Kd.C_below F12.out hb)
      clear F12
      have F12 := F12'
      clear F12'
      have F14' := Aside0.mk (Kd.C_below F14.out hb)
      clear F14
      have F14 := F14'
      clear F14'
      have F16' := Aside0.mk (Kd.C_below F16.out hb)
      clear F16
      have F16 := F16'
      clear F16'
      have F19' := Aside0.mk (Kd.C_below F19.out hb)
      clear F19
      have F19 := F19'
      clear F19'
      have G21 := Aside0.mk hC
      clear hC hR hb
      go_wp2_with fail
      have hX := Add_self _ gc bc _ fc Ac.out (by decide)
      refine hX.mono ?_
      clear hX
      rintro e w40 ⟨rfl, hA, hM⟩
      have Aa' := Aside0.mk (Aa.out.mut hM Dac.out.p1 Dac.out.p2 Dac.out.p3 Dac.out.p4)
      have BW' := Aside0.mk (BW.out.trans (hM.below Lc'.out.1 Lc'.out.2 BW.out.size))
      have GL := Aside0.mk (C_same83 G21.out (fun ad e => hM.block ad.block (N21.out ad e).1 (N21.out ad e).2.1 (N21.out ad e).2.2))
      clear Aa Ab Ac BW
      have Aa := Aa'
      have Ac := Aside0.mk hA
      have BW := BW'
      clear hA hM Aa' BW' G21 N21
      rw [gen_len] at GL
      rw [gen_len]
      go_wp2_with fail
      go_loopg [11] 24 (fun gg v11 wr => ∃ (j : Nat), v11 = .int .i64 j ∧ j ≤ 24 ∧ 24 - j ≤ gg ∧ wr = w40)
      case atStart => exact ⟨0, rfl, Nat.zero_le _, by omega, rfl⟩
      case round =>
        obtain ⟨j, rfl, hj, hgj, rfl⟩ := hrel
        by_cases hlt : j < 24
        · have hji : (j : Int) < 24 := by omega
          obtain ⟨s, hs⟩ := nm_at hlt
          obtain ⟨adl, rfl, d0, d1⟩ := at_T83 GL.out (j : Int) (by omega) hji
          have hrd : rd_T83 (genL fc nm24) (j : Int) = ⟨s, dec (fc s)⟩ := by
            have h : (genL fc nm24)[j]? = some ⟨s, dec (fc s)⟩ := by unfold genL; rw [List.getElem?_map, hs]; rfl
            unfold rd_T83
            rw [Int.toNat_natCast, List.getD_eq_getElem?_getD, h]; rfl
          rw [hrd, Int.toNat_natCast] at d0
          have hX := Get_calls wr gc bc _ nm24 (addsF fc fc nm24) s Ac.out (nm_small hs)
          have hY := Get_calls wr ga ba _ nm24 fc s Aa.out (nm_small hs)
          rw [val_in hs, nm_has hs, twice_at (nm_has hs)] at hX
          rw [val_in hs, nm_has hs] at hY
          have HX := Aside0.mk hX
          have HY := Aside0.mk hY
          have hw2 : IntKind.u64.wrap (2 * fc s) = (2 * fc s) % 18446744073709551616 := IntKind.wrap_u64 _
          clear hX hY hrd d1 hs
          go_wp2_with fail
          refine HX.out.mono ?_
          rintro e w41 ⟨rfl, rfl⟩
          go_wp2_with fail
          refine HY.out.mono ?_
          rintro e w42 ⟨rfl, rfl⟩
          go_wp2
          go_roundg (24 - (j + 1))
          case measure => omega
          case rel => exact ⟨j + 1, by go_num, by omega, by omega, rfl⟩
        · have hji : ¬ (j : Int) < 24 := by omega
          go_wp2
          go_ret
          exact ⟨rfl, BW.out⟩
end Go.Proofs.YteddljbdjgdlnaaDoor.St
end
section
namespace Go.Proofs.YteddljbdjgdlnaaDoor.St
open Go.RowKit Go.Proofs.YteddljbdjgdlnaaDoorW.PrintWords Go.Proofs.YteddljbdjgdlnaaDoorW.PrintLast Go.Proofs.YteddljbdjgdlnaaDoorW.PrintMore Go.WideMaps Go.Proofs.YteddljbdjgdlnaaDoor.XSb
set_option linter.unusedVariables false
set_option linter.unusedSimpArgs false
attribute [local go_sem ↓] Go.wp_at_zero Go.wp_at_succ
def EvCells (w : World) (q : Addr) (e : Ev) : Prop :=
  w.cell? q = some (.int .i64 e.who) ∧ w.cell? ⟨q.block, q.off + 1, none⟩ = some (.int .i64 e.kind) ∧ w.cell? ⟨q.block, q.off + 2, none⟩ = some (.slice e.ka e.nk e.kc) ∧ w.cell? ⟨q.block, q.off + 3, none⟩ = some (.int .u32 e.flags) ∧ w.cell? ⟨q.block, q.off + 4, none⟩ = some (.int .i64 e.exp) ∧ w.cell? ⟨q.block, q.off + 5, none⟩ = some (.string e.value) ∧ w.cell? ⟨q.block, q.off + 6, none⟩ = some (.int .u64 e.cas) ∧ w.cell? ⟨q.block, q.off + 7, none⟩ = some (.int .u64 e.delta) ∧ w.cell? ⟨q.block, q.off + 8, none⟩ = some (.bool e.quiet) ∧ w.cell? ⟨q.block, q.off + 9, none⟩ = some (.int .i64 e.now) ∧ w.cell? ⟨q.block, q.off + 10, none⟩ = some (.int .i64 e.code) ∧ w.cell? ⟨q.block, q.off + 11, none⟩ = some (.slice e.ha e.nh e.hc) ∧ w.cell? ⟨q.block, q.off + 12, none⟩ = some (.int .u64 e.n) ∧ w.cell? ⟨q.block, q.off + 13, none⟩ = some (.slice e.da e.nd e.dc)
theorem EvCells.below {w w' : World} {q : Addr} {e : Ev} (h : EvCells w q e) (hb : Below w.heap.size w w') : EvCells w' q e := by
  obtain ⟨k0, k1, k2, k3, k4, k5, k6, k7, k8, k9, k10, k11, k12, k13⟩ := h
  exact ⟨keepC hb k0, keepC hb k1, keepC hb k2, keepC hb k3, keepC hb k4, keepC hb k5, keepC hb k6, keepC hb k7, keepC hb k8, keepC hb k9, keepC hb k10, keepC hb k11, keepC hb k12, keepC hb k13⟩
theorem ev_arg {w : World} {A : Option Addr} {l : List X} (h : Kd.C k42 w A l.length l) {g : Nat} (hg : w.heap.size ≤ g) (j : Nat) (x : X) (hx : l[j]? = some x) :
    ∃ (ad : Addr) (e : Ev), A = some ad ∧ e.kind = x.f1.f0 ∧ e.nk = x.f1.f1.length ∧ e.nh = x.f3.f1.length ∧ e.code = x.f3.f0 ∧ e.nd = x.f4.length ∧ DropsAt w g g e.da (x.f4.map (·.f1)) ∧ EvCells w (ad.add (j * 14)) e := by
  have hj : j < l.length := (List.getElem?_eq_some_iff.1 hx).1
  obtain ⟨ad, A2, c2, A11, c11, A13, c13, rfl, k0, k1, k2, k3, k4, k5, k6, k7, k8, k9, k10, k11, k12, k13, l2, g2, l11, g11, l13, g13⟩ := at_T42 h (j : Int) (by omega) (by omega)
  have hr : rd_T42 l (j : Int) = x := by
    unfold rd_T42
    rw [Int.toNat_natCast, List.getD_eq_getElem?_getD, hx]; rfl
  rw [hr] at k0 k1 k2 k3 k4 k5 k6 k7 k8 k9 k10 k11 k12 k13 g13
  rw [Int.toNat_natCast] at k0 k1 k2 k3 k4 k5 k6 k7 k8 k9 k10 k11 k12 k13
  refine ⟨ad, ⟨x.f0, x.f1.f0, A2, x.f1.f1.length, c2, x.f1.f2, x.f1.f3, x.f1.f4, x.f1.f5, x.f1.f6, x.f1.f7, x.f2, x.f3.f0, A11, x.f3.f1.length, c11, x.f3.f2, A13, x.f4.length, c13⟩, rfl, rfl, rfl, rfl, rfl, rfl, fun i d hd => ?_, ⟨k0, k1, k2, k3, k4, k5, k6, k7, k8, k9, k10, k11, k12, k13⟩⟩
  obtain ⟨q, hq, rfl⟩ : ∃ q, x.f4[i]? = some q ∧ q.f1 = d := by
    rw [List.getElem?_map] at hd
    cases hq : x.f4[i]? with
    | none => rw [hq] at hd; cases hd
    | some q => rw [hq] at hd; exact ⟨q, rfl, Option.some.inj hd⟩
  have hil : i < x.f4.length := (List.getElem?_eq_some_iff.1 hq).1
  obtain ⟨a13, ea, d0, d1⟩ := at_T104 g13 (i : Int) (by omega) (by omega)
  have hr2 : rd_T104 x.f4 (i : Int) = q := by
    unfold rd_T104
    rw [Int.toNat_natCast, List.getD_eq_getElem?_getD, hq]; rfl
  rw [hr2, Int.toNat_natCast] at d0 d1
  have hlt := World.block_lt_of_cell? _ _ d0
  rw [add_block] at hlt
  exact ⟨a13, q.f0, ea, by omega, by omega, d0, d1⟩
theorem ref_bk (f : Figs) : refL f nm24 = bk f := by
  unfold refL bk genL
  rw [List.map_map]
  rfl
theorem rat_zero {w : World} {g : Nat} (h : w.heap[g]? = some (.cells (List.replicate 24 (Value.int .u64 0)).toArray 31)) : RAt w g (fun _ => 0) := ⟨h⟩
theorem notes_snoc {l : List X} {j : Nat} {x : X} (h : l[j]? = some x) : notesL (l.take (j + 1)) = notesL (l.take j) ++ noteX x := by
  unfold notesL
  rw [List.take_add_one, h, List.flatMap_append]
  simp
set_option maxHeartbeats 16000000 in
set_option maxRecDepth 100000 in
theorem notes_law (w : World) (hv : Vars w) (A0 : Option Addr) (l0 : List X) (c0 : Nat) (name : ByteArray) (hname : name.size ≤ maxLen) (hc0 : l0.length ≤ c0) (hC0 : Kd.C k42 w A0 l0.length l0) (kg : Nat) (gr : Bool) (hgr : tallboylaw25_Great.f kg l0 = some gr) (hsm : gr = false → Small l0) :
    Calls Tryd.prog 3 #[.slice A0 l0.length c0, .string name] w fun e w' => e = .returned (.bool true) ∧ Below w.heap.size w w' := by
  have HV := Aside0.mk hv
  have HC0 := Aside0.mk hC0
  have HG := Lib.hid hgr
  have HSM := Lib.hid hsm
  clear hv hC0 hgr hsm
  go_enter Tryd.func3, Tryd.ntmps3
  cases gr with
  | true =>
    go_wp2_with fail
    have hX := tallboylaw25_Great.calls kg A0 c0 l0 true w HC0.out hc0 HG.out
    refine hX.mono ?_
    clear hX
    rintro e w1 ⟨rfl, hb1⟩
    have B1 := Aside0.mk hb1
    clear hb1
    go_wp2_with fail
    refine (New_calls w1).mono ?_
    rintro e w2 ⟨g, b, rfl, hA, hg, hb, hb2⟩
    have B2 := Aside0.mk (B1.out.trans (hb2.mono B1.out.size))
    clear hA hg hb hb2
    go_wp2
    go_ret
    exact ⟨rfl, B2.out⟩
  | false =>
    have hsmall := HSM.out rfl
    have hlb : l0.length ≤ 1000 := hsmall.1
    have hlbi : (l0.length : Int) ≤ 1000 := by omega
    have HSMALL := Lib.hid hsmall
    clear hsmall
    go_wp2_with fail
    have hX := tallboylaw25_Great.calls kg A0 c0 l0 false w HC0.out hc0 HG.out
    refine hX.mono ?_
    clear hX
    rintro e w1 ⟨rfl, hb1⟩
    have B1 := Aside0.mk hb1
    clear hb1
    go_wp2_with fail
    refine (New_calls w1).mono ?_
    rintro e w2 ⟨g, b, rfl, hA, hg, hb, hb2⟩
    have B2 := Aside0.mk (B1.out.trans (hb2.mono B1.out.size))
    have C2 := Aside0.mk (Kd.C_below HC0.out B2.out)
    clear hA hg hb hb2 B1
    go_wp2_with fail
    have hX := noted_calls w2 A0 l0 c0 C2.out hc0 HSMALL.out
    refine hX.mono ?_
    clear hX
    rintro e w3 ⟨gs, bs, rfl, hA, hg, hb, hb3⟩
    have A3 := Aside0.mk hA
    have B3 := Aside0.mk (B2.out.trans (hb3.mono B2.out.size))
    have L3 := Lib.hid (show w.heap.size ≤ gs ∧ w.heap.size ≤ bs from ⟨Nat.le_trans B2.out.size hg, Nat.le_trans B2.out.size hb⟩)
    clear hA hg hb hb3 B2 C2
    go_upto_region 4 with fail
    change Code.wp _ _ _ _ (w3.alloc (.cells (List.replicate 24 (Value.int .u64 0)).toArray 31))
    have R4 := Aside0.mk (rat_zero (heap_alloc_new w3 (.cells (List.replicate 24 (Value.int .u64 0)).toArray 31)))
    have hal := Aside0.mk ((Below.refl w3.heap.size w3).alloc (Nat.le_refl _) (.cells (List.replicate 24 (Value.int .u64 0)).toArray 31))
    have A4 := Aside0.mk (A3.out.below hal.out)
    have B4 := Aside0.mk (B3.out.trans (hal.out.mono B3.out.size))
    obtain ⟨r, hr⟩ : ∃ r, r = w3.heap.size := ⟨_, rfl⟩
    have hrw : w.heap.size ≤ r := by rw [hr]; exact B3.out.size
    have hrg : gs ≠ r := by have := A3.out.lt; omega
    have hrb : bs ≠ r := by have := A3.out.ltb; omega
    rw [← hr] at R4 ⊢
    generalize w3.alloc (.cells (List.replicate 24 (Value.int .u64 0)).toArray 31) = W4 at R4 A4 B4 ⊢
    clear hal hr A3 B3
    have D0 : Aside0 (RDid W4 W4 r (fun _ => 0) (notesL (l0.take 0))) := ⟨RDid.start R4.out⟩
    clear R4
    go_wp2_with fail
    go_loopg [7] l0.length (fun gg v7 wr => ∃ (j : Nat), v7 = .int .i64 j ∧ j ≤ l0.length ∧ l0.length - j ≤ gg ∧ Aside0 (RDid W4 wr r (fun _ => 0) (notesL (l0.take j))))
    case atStart => exact ⟨0, rfl, Nat.zero_le _, by omega, D0⟩
    case round =>
      clear D0
      obtain ⟨j, rfl, hj, hgj, HR⟩ := hrel
      by_cases hlt : j < l0.length
      · have hji : (j : Int) < (l0.length : Int) := by omega
        obtain ⟨x, hx⟩ : ∃ x, l0[j]? = some x := ⟨_, List.getElem?_eq_getElem hlt⟩
        obtain ⟨ad, e, rfl, he1, he2, he3, he4, he5, hdr, hcells⟩ := ev_arg HC0.out hrw j x hx
        have BR := Aside0.mk (HR.out.mov.after B4.out hrw hrw (Nat.le_refl _))
        obtain ⟨t0, t1, t2, t3, t4, t5, t6, t7, t8, t9, t10, t11, t12, t13⟩ := hcells.below BR.out
        have HDR := Aside0.mk (hdr.below BR.out)
        have hsx := HSMALL.out.2 x (List.mem_of_getElem? hx)
        have HNX := Lib.hid (show noteI e.kind e.nk e.nh e.code (x.f4.map (·.f1)) = noteX x by rw [he1, he2, he3, he4]; rfl)
        have HWL := Lib.hid (show (x.f4.map (·.f1)).length = e.nd by rw [List.length_map, he5])
        have HWM := Lib.hid (show (x.f4.map (·.f1)).length ≤ maxLen by rw [List.length_map]; exact Nat.le_trans hsx.2.2 (by decide))
        have hnk : e.nk ≤ maxLen := by rw [he2]; exact Nat.le_trans hsx.1 (by decide)
        have hnh : e.nh ≤ maxLen := by rw [he3]; exact Nat.le_trans hsx.2.1 (by decide)
        have HSN := Lib.hid (notes_snoc hx)
        clear hx hdr hcells hsx he1 he2 he3 he4 he5
        go_wp2_with fail
        have hX := RNote_calls wr r (app (fun _ => 0) (notesL (l0.take j))) e (x.f4.map (·.f1)) HR.out.at_ (ok_app ok_zero) HWL.out HDR.out HWM.out hnk hnh
        refine hX.mono ?_
        clear hX
        rintro z w5 ⟨rfl, hD⟩
        rw [HNX.out] at hD
        have DN : Aside0 (RDid W4 w5 r (fun _ => 0) (notesL (l0.take (j + 1)))) := ⟨by rw [HSN.out]; exact HR.out.then hD⟩
        clear hD HR BR HDR t0 t1 t2 t3 t4 t5 t6 t7 t8 t9 t10 t11 t12 t13 hnk hnh HNX HWL HWM HSN
        go_wp2
        go_roundg (l0.length - (j + 1))
        case measure => omega
        case rel => exact ⟨j + 1, by go_num, by omega, by omega, DN⟩
      · have hji : ¬ (j : Int) < (l0.length : Int) := by omega
        obtain rfl : j = l0.length := by omega
        rw [List.take_length] at HR
        have A5 := Aside0.mk (A4.out.mut HR.out.mov hrg hrg hrb hrb)
        have B5 := Aside0.mk (HR.out.mov.after B4.out hrw hrw (Nat.le_refl _))
        have R5 := Aside0.mk HR.out.at_
        have OK := Aside0.mk (ok_app ok_zero (l := notesL l0))
        obtain ⟨f, hf⟩ : ∃ f, f = app (fun _ => 0) (notesL l0) := ⟨_, rfl⟩
        rw [← hf] at A5 R5 OK
        clear hf HR A4 B4 HSMALL HSM HC0 HG
        go_wp2_with fail
        have hX := RGeneral_calls wr r f R5.out OK.out
        refine hX.mono ?_
        clear hX
        rintro z w6 ⟨v6, rfl, hR, hb⟩
        obtain ⟨P8, q8, rfl, hq8, hC⟩ := Kd.R_reads hR
        rw [ref_bk] at hC hq8 ⊢
        have G8 := Aside0.mk hC
        have A6 := Aside0.mk (A5.out.below hb)
        have B6 := Aside0.mk (B5.out.trans (hb.mono B5.out.size))
        clear hC hR hb A5 B5 R5
        go_wp2_with fail
        have hX := General_calls w6 gs bs _ f (HV.out.below B6.out) A6.out OK.out
        refine hX.mono ?_
        clear hX
        rintro z w7 ⟨v7, rfl, hR, hb⟩
        obtain ⟨P9, q9, rfl, hq9, hC⟩ := Kd.R_reads hR
        have G9 := Aside0.mk hC
        have A7 := Aside0.mk (A6.out.below hb)
        have B7 := Aside0.mk (B6.out.trans (hb.mono B6.out.size))
        have G8' := Aside0.mk (Kd.C_below G8.out hb)
        clear hC hR hb A6 B6 G8
        go_wp2_with fail
        obtain ⟨k10, hk10⟩ := from_gen f
        have hX := tallboylaw32_From.calls k10 P9 q9 (genL f nm24) (bk f) w7 G9.out hq9 hk10
        refine hX.mono ?_
        clear hX hk10
        rintro z w8 ⟨v8, rfl, hR, hb⟩
        obtain ⟨P10, q10, rfl, hq10, hC⟩ := Kd.R_reads hR
        have G10 := Aside0.mk hC
        have A8 := Aside0.mk (A7.out.below hb)
        have B8 := Aside0.mk (B7.out.trans (hb.mono B7.out.size))
        have H8 := Aside0.mk (Kd.C_below G8'.out hb)
        clear hC hR hb A7 B7 G8' G9
        go_wp2_with fail
        obtain ⟨k11, hk11⟩ := same_bk f
        have hX := tallboyref32_Same.calls k11 P10 q10 (bk f) P8 q8 (bk f) true w8 G10.out hq10 H8.out hq8 hk11
        refine hX.mono ?_
        clear hX hk11
        rintro z w9 ⟨rfl, hd⟩
        have A9 := Aside0.mk (A8.out.below (below_d hd))
        have B9 := Aside0.mk (B8.out.trans ((below_d hd).mono B8.out.size))
        have H9 := Aside0.mk (Kd.C_below H8.out (below_d hd))
        have bkl : (bk f).length = 24 := by unfold bk; rw [List.length_map, gen_len]
        clear hd A8 B8 H8 G10
        rw [bkl] at H9 ⊢
        clear hq8 hq9 hq10 bkl
        go_wp2_with fail
        go_loopg [9, 10, 11, 12] 24 (fun gg v9 v10 v11 v12 wr => ∃ (j : Nat), v9 = .bool (has name (nm24.take j)) ∧ v10 = .int .i64 j ∧ j ≤ 24 ∧ 24 - j ≤ gg ∧ Aside0 (Below w9.heap.size w9 wr))
        case atStart => exact ⟨0, rfl, rfl, Nat.zero_le _, by omega, ⟨Below.refl _ _⟩⟩
        case round =>
          obtain ⟨j, rfl, rfl, hj, hgj, BR⟩ := hrel
          by_cases hlt : j < 24
          · have hji : (j : Int) < 24 := by omega
            obtain ⟨s, hs⟩ := nm_at hlt
            obtain ⟨adl, rfl, d0, d1⟩ := at_T52 (Kd.C_below H9.out BR.out) (j : Int) (by omega) hji
            obtain ⟨m, hm⟩ : ∃ m, m = f s := ⟨_, rfl⟩
            have hrd : rd_T52 (bk f) (j : Int) = ⟨s, dec m⟩ := by
              have h : (bk f)[j]? = some ⟨s, dec m⟩ := by rw [← ref_bk, hm]; unfold refL; rw [List.getElem?_map, hs]; rfl
              unfold rd_T52
              rw [Int.toNat_natCast, List.getD_eq_getElem?_getD, h]; rfl
            rw [hrd, Int.toNat_natCast] at d0 d1
            have hX := Get_calls wr gs bs _ nm24 f s (A9.out.below BR.out) (nm_small hs)
            rw [val_in hs, nm_has hs, ← hm] at hX
            have HX := Aside0.mk hX
            have HDC := Lib.hid (show tallboyref02_Text.f 21 m = some (dec m) by rw [hm]; exact rtext_dec (f s) (OK.out s).1 (OK.out s).2)
            obtain ⟨q, hq⟩ : ∃ q, (s.toList == name.toList) = q := ⟨_, rfl⟩
            have HNX := Lib.hid (show has name (nm24.take (j + 1)) = (has name (nm24.take j) || q) by
              rw [take_next hs, ← hq]
              unfold has
              rw [List.any_cons, ByteArray.toList_eq, ByteArray.toList_eq, Bool.or_comm])
            obtain ⟨p, hp⟩ : ∃ p, has name (nm24.take j) = p := ⟨_, rfl⟩
            rw [hp] at HNX ⊢
            have hdd := list_same (dec m)
            have D1 := Aside0.mk d1
            have D0 := Aside0.mk d0
            clear hX hrd hs hm hp d1
            go_wp2_with fail
            refine HX.out.mono ?_
            rintro z w10 ⟨rfl, rfl⟩
            have BN := Aside0.mk (Below.refl w10.heap.size w10).drew
            clear HX
            go_upto_region 16 with fail
            clear d0
            go_region_held3 (fun w' => w'.cell? ⟨(adl.add (j * 2)).block, (adl.add (j * 2)).off + 1, none⟩ = some (.string (dec m)))
              (exact keepC BN.out D1.out)
              ((first
                | (go_at_call 16; with_reducible refine (tallboyref02_Text.calls 21 m (dec m) _ HDC.out).mono ?_; rintro e wa ⟨rfl, hb⟩; (have BN' := Aside0.mk (BN.out.trans (hb.mono BN.out.size))); clear BN; (have BN := BN'); clear BN' hb)))
            have BX := Aside0.mk (BR.out.trans (BN.out.mono BR.out.size))
            have d0 := keepC BN.out D0.out
            clear BN D0 D1 BR HDC
            cases p with
            | true =>
              go_wp2
              go_roundg (24 - (j + 1))
              case measure => omega
              case rel => exact ⟨j + 1, by rw [HNX.out]; rfl, by go_num, by omega, by omega, BX⟩
            | false =>
              go_wp2
              go_roundg (24 - (j + 1))
              case measure => omega
              case rel => exact ⟨j + 1, by rw [HNX.out]; rfl, by go_num, by omega, by omega, BX⟩
          · have hji : ¬ (j : Int) < 24 := by omega
            obtain rfl : j = 24 := by omega
            have e24 : nm24.take 24 = nm24 := rfl
            rw [e24]
            have hX := Get_calls wr gs bs _ nm24 f name (A9.out.below BR.out) hname
            have BF := Aside0.mk (B9.out.trans (BR.out.mono B9.out.size))
            cases hh : has name nm24 with
            | true =>
              obtain ⟨m, hm⟩ : ∃ m, valF nm24 f name = m := ⟨_, rfl⟩
              rw [hh, hm] at hX
              have HX := Aside0.mk hX
              clear hX hh hm BR A9 B9 e24
              go_wp2_with fail
              refine HX.out.mono ?_
              rintro z w10 ⟨rfl, rfl⟩
              go_wp2
              go_ret
              exact ⟨rfl, BF.out⟩
            | false =>
              have hm : valF nm24 f name = 0 := if_neg (by rw [hh]; exact Bool.false_ne_true)
              rw [hh, hm] at hX
              have HX := Aside0.mk hX
              clear hX hh hm BR A9 B9 e24
              go_wp2_with fail
              refine HX.out.mono ?_
              rintro z w10 ⟨rfl, rfl⟩
              go_wp2
              go_ret
              exact ⟨rfl, BF.out⟩
end Go.Proofs.YteddljbdjgdlnaaDoor.St
end
section
namespace Go.Proofs.YteddljbdjgdlnaaDoor.St
open Go.RowKit Go.Proofs.YteddljbdjgdlnaaDoorW.PrintWords Go.Proofs.YteddljbdjgdlnaaDoorW.PrintLast Go.Proofs.YteddljbdjgdlnaaDoorW.PrintMore Go.WideMaps Go.Proofs.YteddljbdjgdlnaaDoor.XSb
set_option linter.unusedVariables false
set_option linter.unusedSimpArgs false
theorem great15 (kind : Int) (l : List ByteArray) (flags exp : Int) (value : ByteArray) (cas delta : Int) (quiet : Bool) (hl : l.length ≤ 4611686018427387904) : ∀ (d i : Nat) (n : Int), i + d = l.length → ∃ r, (∀ k, d < k → tallboylaw15_Great.l0 k n (i : Int) kind l flags exp value cas delta quiet = some r) ∧ (r = false → l.length ≤ 100) := by
  intro d
  induction d with
  | zero =>
    intro i n hi
    refine ⟨if n ≥ 10000 then true else decide ((l.length : Int) > 100), fun k hk => ?_, fun h => ?_⟩
    · obtain ⟨k, rfl⟩ : ∃ m, k = m + 1 := ⟨k - 1, by omega⟩
      unfold tallboylaw15_Great.l0
      rw [if_neg (by omega)]
      split <;> rfl
    · split at h
      · cases h
      · have := of_decide_eq_false h; omega
  | succ d ih =>
    intro i n hi
    by_cases hn : n < 10000
    · obtain ⟨r, h1, h2⟩ := ih (i + 1) (wrap64 (n + ((rdOf ByteArray.empty l (i : Int)).size : Int))) (by omega)
      refine ⟨r, fun k hk => ?_, h2⟩
      obtain ⟨k, rfl⟩ : ∃ m, k = m + 1 := ⟨k - 1, by omega⟩
      unfold tallboylaw15_Great.l0
      rw [if_pos (by omega), if_pos hn, if_pos (by omega), show wrap64 ((i : Int) + 1) = ((i + 1 : Nat) : Int) from by unfold wrap64; omega]
      exact h1 k (by omega)
    · refine ⟨true, fun k hk => ?_, fun h => by cases h⟩
      obtain ⟨k, rfl⟩ : ∃ m, k = m + 1 := ⟨k - 1, by omega⟩
      unfold tallboylaw15_Great.l0
      rw [if_pos (by omega), if_neg hn, if_pos (by omega)]
theorem great18 (code n0 : Int) (l : List S141) (hl : l.length ≤ 4611686018427387904) : ∀ (d i : Nat) (n : Int), i + d = l.length → ∃ r, ∀ k, d < k → tallboylaw18_Great.l0 k n (i : Int) code l n0 = some r := by
  intro d
  induction d with
  | zero =>
    intro i n hi
    refine ⟨decide (n ≥ 20000), fun k hk => ?_⟩
    obtain ⟨k, rfl⟩ : ∃ m, k = m + 1 := ⟨k - 1, by omega⟩
    unfold tallboylaw18_Great.l0
    rw [if_neg (by omega)]
  | succ d ih =>
    intro i n hi
    by_cases hn : n < 20000
    · obtain ⟨r, h1⟩ := ih (i + 1) (wrap64 ((wrap64 ((wrap64 (n + 1)) + (((rd_T141 l (i : Int)).f0).size : Int))) + (((rd_T141 l (i : Int)).f2).size : Int))) (by omega)
      refine ⟨r, fun k hk => ?_⟩
      obtain ⟨k, rfl⟩ : ∃ m, k = m + 1 := ⟨k - 1, by omega⟩
      unfold tallboylaw18_Great.l0
      rw [if_pos (by omega), if_pos hn, if_pos (by omega), show wrap64 ((i : Int) + 1) = ((i + 1 : Nat) : Int) from by unfold wrap64; omega]
      exact h1 k (by omega)
    · refine ⟨decide (n ≥ 20000), fun k hk => ?_⟩
      obtain ⟨k, rfl⟩ : ∃ m, k = m + 1 := ⟨k - 1, by omega⟩
      unfold tallboylaw18_Great.l0
      rw [if_pos (by omega), if_neg hn]
theorem great25 (l0 : List X) (hl : l0.length ≤ 200) (hk : ∀ x ∈ l0, x.f1.f1.length ≤ 4611686018427387904 ∧ x.f3.f1.length ≤ 4611686018427387904) : ∀ (d i : Nat), i + d = l0.length →
    ∃ r K, (∀ k, K ≤ k → tallboylaw25_Great.l0 k l0 (i : Int) = some r) ∧ (r = false → ∀ x ∈ l0.drop i, x.f1.f1.length ≤ 100 ∧ x.f4.length ≤ 100) := by
  intro d
  induction d with
  | zero =>
    intro i hi
    refine ⟨false, 1, fun k hk => ?_, fun _ x hx => ?_⟩
    · obtain ⟨k, rfl⟩ : ∃ m, k = m + 1 := ⟨k - 1, by omega⟩
      unfold tallboylaw25_Great.l0
      rw [if_neg (by omega)]
    · rw [List.drop_of_length_le (by omega)] at hx
      cases hx
  | succ d ih =>
    intro i hi
    have hlt : i < l0.length := by omega
    have hrd : rd_T42 l0 (i : Int) = l0[i] := by
      unfold rd_T42
      rw [Int.toNat_natCast, List.getD_eq_getElem?_getD, List.getElem?_eq_getElem hlt]; rfl
    have hm := hk l0[i] (List.getElem_mem hlt)
    obtain ⟨r1, h1, h1s⟩ := great15 l0[i].f1.f0 l0[i].f1.f1 l0[i].f1.f2 l0[i].f1.f3 l0[i].f1.f4 l0[i].f1.f5 l0[i].f1.f6 l0[i].f1.f7 hm.1 l0[i].f1.f1.length 0 (l0[i].f1.f4.size : Int) (by omega)
    obtain ⟨r2, h2⟩ := great18 l0[i].f3.f0 l0[i].f3.f2 l0[i].f3.f1 hm.2 l0[i].f3.f1.length 0 0 (by omega)
    obtain ⟨r, K, h3, h3s⟩ := ih (i + 1) (by omega)
    refine ⟨if r1 = true then true else if r2 = true then true else if (l0[i].f4.length : Int) > 100 then true else r, K + l0[i].f1.f1.length + l0[i].f3.f1.length + 2, fun k hk => ?_, fun h => ?_⟩
    · obtain ⟨k, rfl⟩ : ∃ m, k = m + 1 := ⟨k - 1, by omega⟩
      unfold tallboylaw25_Great.l0
      rw [if_pos (by omega), if_pos (by omega), hrd]
      rw [show tallboylaw15_Great.f k l0[i].f1.f0 l0[i].f1.f1 l0[i].f1.f2 l0[i].f1.f3 l0[i].f1.f4 l0[i].f1.f5 l0[i].f1.f6 l0[i].f1.f7 = some r1 from h1 k (by omega)]
      rw [show tallboylaw18_Great.f k l0[i].f3.f0 l0[i].f3.f1 l0[i].f3.f2 = some r2 from h2 k (by omega)]
      rw [show wrap64 ((i : Int) + 1) = ((i + 1 : Nat) : Int) from by unfold wrap64; omega, h3 k (by omega)]
      simp only [Option.bind_some]
      split
      · rfl
      · split
        · rfl
        · split <;> rfl
    · split at h
      · cases h
      · rename_i hr1
        split at h
        · cases h
        · split at h
          · cases h
          · rename_i hd
            intro x hx
            rw [List.drop_eq_getElem_cons hlt] at hx
            rcases List.mem_cons.1 hx with rfl | hx
            · exact ⟨h1s (by simpa using hr1), by omega⟩
            · exact h3s h x hx
theorem great_all (l0 : List X) (hk : ∀ x ∈ l0, x.f1.f1.length ≤ 4611686018427387904 ∧ x.f3.f1.length ≤ 2932031007317) : ∃ k r, tallboylaw25_Great.f k l0 = some r ∧ (r = false → Small l0) := by
  by_cases hl : l0.length ≤ 200
  · obtain ⟨r, K, h1, h2⟩ := great25 l0 hl (fun x hx => ⟨(hk x hx).1, by have := (hk x hx).2; omega⟩) l0.length 0 (by omega)
    refine ⟨K, r, ?_, fun h => ⟨by omega, fun x hx => ?_⟩⟩
    · unfold tallboylaw25_Great.f
      rw [if_neg (by omega)]
      exact h1 K (Nat.le_refl _)
    · have h3 := h2 h x (by rw [List.drop_zero]; exact hx)
      exact ⟨by omega, (hk x hx).2, by omega⟩
  · refine ⟨0, true, ?_, fun h => by cases h⟩
    unfold tallboylaw25_Great.f
    rw [if_pos (by omega)]
end Go.Proofs.YteddljbdjgdlnaaDoor.St
end
section
namespace Go.Proofs.YteddljbdjgdlnaaDoor
open Go.RowKit Go.Proofs.YteddljbdjgdlnaaDoorW.PrintWords

def Sm (P : Program) (t : TypeId) {H : Type} (d : DataW H) : Prop := ∀ n ∈ DataW.weights P t d, n ≤ reachBytes
theorem weights_mem_all {H : Type} {P : Program} {e : TypeId} {d : DataW H} {n : Nat} (hn : n ∈ d.weights P e) : ∀ {l : List (DataW H)}, d ∈ l → n ∈ DataW.weightsAll P e l
  | x :: l, h => by
    rw [DataW.weightsAll, List.mem_append]
    rcases List.mem_cons.1 h with rfl | h
    · exact Or.inl hn
    · exact Or.inr (weights_mem_all hn h)
def OpensW (P : Program) (t : TypeId) {α : Type} (d : Kd α) (Q : α → Prop) : Prop :=
  ∀ (H : Type) (enc : TypeId × Value → H) (w : World) (base : Nat) (spare : Nat → Bool) (held : Bool) (fuel : Nat) (cs : List Value) (x : DataW H × List MemPlace),
    DataW.trod enc P w base spare held fuel t cs = some x → Sm P t x.1 → ∃ v, d.K w v cs ∧ Q v
def OpensWAt (P : Program) (fs : List Field) (off : Nat) {α : Type} (d : Kd α) (Q : α → Prop) : Prop :=
  ∀ (H : Type) (enc : TypeId × Value → H) (w : World) (base : Nat) (spare : Nat → Bool) (held : Bool) (n : Nat) (cs : List Value), cs.length = off + d.sz →
    (∀ f ∈ fs, ∃ x, DataW.trod enc P w base spare held n f.type ((cs.drop f.offset).take (P.cellsOf f.type)) = some x ∧ Sm P f.type x.1) → ∃ v, d.K w v (cs.drop off) ∧ Q v
section
variable {P : Program} {t e : TypeId} {α β : Type} {d : Kd α} {d0 : Kd α} {d1 : Kd β} {Q : α → Prop} {Q1 : β → Prop}
theorem opensW_int {k : IntKind} (ht : P.underlying t = some (.int k)) : OpensW P t (Kd.int k) (fun n => (Lit.int k n).wf = true) := by
  intro H enc w base spare held fuel cs x h hw_
  obtain ⟨n, rfl, _, hw⟩ := DataW.trod_int ht h
  exact ⟨n, rfl, hw⟩
theorem opensW_bool (ht : P.underlying t = some .bool) : OpensW P t Kd.bool (fun _ => True) := by
  intro H enc w base spare held fuel cs x h hw_
  obtain ⟨n, rfl, _⟩ := DataW.trod_bool ht h
  exact ⟨n, rfl, trivial⟩
theorem opensW_string (ht : P.underlying t = some .string) : OpensW P t Kd.string (fun s => s.size ≤ reachBytes) := by
  intro H enc w base spare held fuel cs x h hw_
  obtain ⟨s, rfl, rfl, _⟩ := DataW.trod_string ht h
  have := hw_ s.data.toList.length (by simp [DataW.weights])
  rw [Array.length_toList] at this
  exact ⟨s, rfl, this⟩
theorem opensW_iso {γ : Type} (h : OpensW P t d Q) (f : γ → α) (g : α → γ) (hg : ∀ a, f (g a) = a) : OpensW P t (Kd.iso d f) (fun b => Q (f b)) := by
  intro H enc w base spare held fuel cs x hx hw_
  obtain ⟨v, hv, hq⟩ := h H enc w base spare held fuel cs x hx hw_
  exact ⟨g v, (show d.K w (f (g v)) cs by rw [hg]; exact hv), show Q (f (g v)) by rw [hg]; exact hq⟩
theorem opensWAt_one {f : Field} {off : Nat} (ho : f.offset = off) (hc : P.cellsOf f.type = d.sz) (h : OpensW P f.type d Q) : OpensWAt P [f] off d Q := by
  intro H enc w base spare held n cs hl hf
  obtain ⟨x, hx, hs_⟩ := hf f List.mem_cons_self
  rw [ho, hc, List.take_of_length_le (by rw [List.length_drop]; omega)] at hx
  exact h H enc w base spare held n _ x hx hs_
theorem opensWAt_cons {f : Field} {fs : List Field} {off : Nat} (ho : f.offset = off) (hc : P.cellsOf f.type = d0.sz) (h0 : OpensW P f.type d0 Q) (h1 : OpensWAt P fs (off + d0.sz) d1 Q1) :
    OpensWAt P (f :: fs) off (Kd.pair d0 d1) (fun v => Q v.1 ∧ Q1 v.2) := by
  intro H enc w base spare held n cs hl hf
  have hsz : (Kd.pair d0 d1).sz = d0.sz + d1.sz := rfl
  obtain ⟨x, hx, hs_⟩ := hf f List.mem_cons_self
  rw [ho, hc] at hx
  obtain ⟨a, ha, hq⟩ := h0 H enc w base spare held n _ x hx hs_
  obtain ⟨b, hb, hq1⟩ := h1 H enc w base spare held n cs (by omega) (fun g hg => hf g (List.mem_cons_of_mem _ hg))
  refine ⟨(a, b), ⟨_, _, ?_, ha, hb⟩, hq, hq1⟩
  rw [← List.drop_drop]
  exact (List.take_append_drop _ _).symm
theorem opensW_struct {fs : List Field} (ht : P.underlying t = some (.struct fs.toArray)) (hc : P.cellsOf t = d.sz) (h : OpensWAt P fs 0 d Q) : OpensW P t d Q := by
  intro H enc w base spare held fuel cs x hx hw_
  obtain ⟨xs, n, _, rfl, hl, hlen, hf⟩ := DataW.trod_struct ht hx
  have := h H enc w base spare held n cs (by omega) (by
    intro f hm
    obtain ⟨i, hi, rfl⟩ := List.mem_iff_getElem.1 hm
    have e := hf i fs[i] (by rw [List.getElem?_toArray, List.getElem?_eq_getElem hi])
    rw [List.size_toArray] at hlen
    rw [List.getElem?_eq_getElem (by omega)] at e
    refine ⟨_, e, fun m hm => hw_ m ?_⟩
    unfold DataW.weights
    simp only [ht]
    exact DataW.weights_mem_each (j := i) (t := fs[i].type) (d := xs[i].1) (by rw [List.getElem?_map, List.getElem?_eq_getElem hi]; rfl) (by rw [List.getElem?_map, List.getElem?_eq_getElem (by omega)]; rfl) m hm)
  simpa using this
theorem listW_of {R : Nat → α → Prop} : ∀ n : Nat, (∀ i, i < n → ∃ v, R i v) → ∃ xs : List α, xs.length = n ∧ ∀ i v, xs[i]? = some v → R i v
  | 0, _ => ⟨[], rfl, fun i v h => by simp at h⟩
  | n + 1, h => by
    obtain ⟨xs, hl, hx⟩ := listW_of n fun i hi => h i (by omega)
    obtain ⟨v, hv⟩ := h n (by omega)
    refine ⟨xs ++ [v], by rw [List.length_append, hl]; rfl, fun i u hu => ?_⟩
    rcases Nat.lt_or_ge i xs.length with hi | hi
    · rw [List.getElem?_append_left hi] at hu; exact hx i u hu
    · rw [List.getElem?_append_right hi] at hu
      rcases Nat.eq_zero_or_pos (i - xs.length) with h0 | h0
      · rw [h0] at hu
        obtain rfl : v = u := by simpa using hu
        rw [show i = n from by omega]; exact hv
      · rw [List.getElem?_eq_none (by simp; omega)] at hu; cases hu
theorem opensW_slice (ht : P.underlying t = some (.slice e)) (hc : P.cellsOf e = d.sz) (h : OpensW P e d Q) : OpensW P t (Kd.slice e d) (fun xs => (∀ x ∈ xs, Q x) ∧ xs.length * P.bytesOf e ≤ reachBytes) := by
  intro H enc w base spare held fuel cs x hx hw_
  rcases DataW.trod_slice ht hx with ⟨rfl, _⟩ | ⟨a, len, cap, elems, rest, n, _, rfl, rfl, hb, hl, hm, hlen, hel, _, _⟩
  · exact ⟨[], ⟨none, 0, rfl, Nat.le_refl _, rfl, Nat.zero_le _, fun h => absurd h (Nat.lt_irrefl 0)⟩, fun x hx => absurd hx List.not_mem_nil, by show 0 * _ ≤ _; omega⟩
  · obtain ⟨xs, hxl, hxs⟩ := listW_of (R := fun i v => (∃ c : List Value, c.length = d.sz ∧ d.K w v c ∧ ∀ j u, c[j]? = some u → w.cell? (a.add (i * d.sz + j)) = some u) ∧ Q v) len (by
      intro i hi
      have e1 := hel i hi
      rw [List.getElem?_eq_getElem (by omega)] at e1
      obtain ⟨c, hcs, hcd⟩ := Option.bind_eq_some_iff.1 e1
      obtain ⟨v, hv, hq⟩ := h H enc w base spare held n c _ hcd (fun m hm => hw_ m (by
        unfold DataW.weights
        simp only [ht]
        rw [List.mem_cons, List.mem_append]
        exact Or.inr (Or.inl (weights_mem_all hm (List.mem_map.2 ⟨_, List.getElem_mem _, rfl⟩)))))
      obtain ⟨q1, q2, q3⟩ := World.cells?_some hcs
      refine ⟨v, ⟨c, by rw [← hc]; exact q2, hv, fun j u hu => ?_⟩, hq⟩
      have hj : j < P.cellsOf e := by
        rcases Nat.lt_or_ge j c.length with h' | h'
        · omega
        · rw [List.getElem?_eq_none h'] at hu; cases hu
      have := q3 j hj
      rw [Addr.add_add, hc] at this
      rw [this, hu])
    refine ⟨xs, ⟨some a, cap, by rw [hxl], by omega, rfl, by rw [hxl]; unfold maxLen at hm; omega, fun _ => ⟨a, rfl, fun j p hp => (hxs j p hp).1⟩⟩, fun x hx => ?_, ?_⟩
    · obtain ⟨i, hi, rfl⟩ := List.mem_iff_getElem.1 hx
      exact (hxs i _ (List.getElem?_eq_getElem hi)).2
    · have := hw_ ((elems.length + rest.length) * P.bytesOf e) (by unfold DataW.weights; simp [ht])
      refine Nat.le_trans (Nat.mul_le_mul_right _ ?_) this
      omega
end
end Go.Proofs.YteddljbdjgdlnaaDoor
end
section
namespace Go.Proofs.YteddljbdjgdlnaaDoor.statNotes
open Go.ChangeShapes Go.WideShapes Go.ChangeAt Go.RowKit
open Go.ChangeMaps (open_string shut_string)

theorem own : ownKnob Tryd.prog.godebug = none := by kernel_rfl
theorem laid_met (os : Os) (args : Array Value) : laidMetH Tryd.prog Rows.statNotesRow.laid ((World.laidAll Tryd.prog os Rows.statNotesRow.laid).forCall (fun _ _ => 0) ⟨#[], args, []⟩).memory := by
  rw [MakeChecks.laidMetH_plain _ _ _ (by kernel_rfl)]
  exact laidMet_laidAll _ (by kernel_rfl) (by kernel_rfl)
theorem shaped (os : Os) (args : Array Value) : ((World.laidAll Tryd.prog os Rows.statNotesRow.laid).forCall (fun _ _ => 0) ⟨#[], args, []⟩).Shaped Tryd.prog :=
  World.shaped_of_ZipB (by kernel_rfl) (by kernel_rfl)

theorem laidOut : laidOutB Tryd.prog = true := by kernel_rfl
theorem vars_of {W : World} (h : laidMetH Tryd.prog Rows.statNotesRow.laid W) (hsh : W.ShapedOpen Tryd.prog) : Vars W := by
  rw [MakeChecks.laidMetH_plain _ _ _ (by kernel_rfl)] at h
  exact ⟨trivial, Lib.tabIs_of_head gPow (by kernel_rfl) Tryd.underlying188 Tryd.underlying28 (by kernel_rfl) (by kernel_rfl) h.tail.tail,
    cell_of_shapedOpen_int (P := Tryd.prog) (g := 0) (t := 3) (zero := #[.int .i64 0]) hsh (of_decide_eq_true (by kernel_rfl)) (by kernel_rfl) rfl (by kernel_rfl) (by kernel_rfl) Tryd.underlying3⟩
open Go.Proofs.YteddljbdjgdlnaaDoorW.PrintWords
theorem opensW_mono {P : Program} {t : TypeId} {α : Type} {d : Kd α} {Q Q1 : α → Prop} (h : OpensW P t d Q) (hq : ∀ x, Q x → Q1 x) : OpensW P t d Q1 := by
  intro H enc w base spare held fuel cs x hx hs
  obtain ⟨v, hv, hqv⟩ := h H enc w base spare held fuel cs x hx hs
  exact ⟨v, hv, hq v hqv⟩
theorem opens_cmd : OpensW Tryd.prog 36 XSb.k36 (fun x => x.f1.length * Tryd.prog.bytesOf 9 ≤ reachBytes) :=
  opensW_mono (opensW_iso (opensW_struct Tryd.underlying36 (by kernel_rfl) (opensWAt_cons rfl (by kernel_rfl) (opensW_int Tryd.underlying3) (opensWAt_cons rfl (by kernel_rfl) (opensW_slice Tryd.underlying33 (by kernel_rfl) (opensW_string Tryd.underlying9)) (opensWAt_cons rfl (by kernel_rfl) (opensW_int Tryd.underlying34) (opensWAt_cons rfl (by kernel_rfl) (opensW_int Tryd.underlying2) (opensWAt_cons rfl (by kernel_rfl) (opensW_string Tryd.underlying9) (opensWAt_cons rfl (by kernel_rfl) (opensW_int Tryd.underlying28) (opensWAt_cons rfl (by kernel_rfl) (opensW_int Tryd.underlying28) (opensWAt_one rfl (by kernel_rfl) (opensW_bool Tryd.underlying4))))))))))
    _ (fun a => ⟨a.1, a.2.1, a.2.2.1, a.2.2.2.1, a.2.2.2.2.1, a.2.2.2.2.2.1, a.2.2.2.2.2.2.1, a.2.2.2.2.2.2.2⟩) (fun _ => rfl)) (fun x h => h.2.1.2)
theorem opens_hit : OpensW Tryd.prog 141 XSb.k141 (fun _ => True) :=
  opensW_mono (opensW_iso (opensW_struct Tryd.underlying141 (by kernel_rfl) (opensWAt_cons rfl (by kernel_rfl) (opensW_string Tryd.underlying9) (opensWAt_cons rfl (by kernel_rfl) (opensW_int Tryd.underlying34) (opensWAt_cons rfl (by kernel_rfl) (opensW_string Tryd.underlying9) (opensWAt_one rfl (by kernel_rfl) (opensW_int Tryd.underlying28))))))
    _ (fun a => ⟨a.1, a.2.1, a.2.2.1, a.2.2.2⟩) (fun _ => rfl)) (fun x h => trivial)
theorem opens_res : OpensW Tryd.prog 39 XSb.k39 (fun x => x.f1.length * Tryd.prog.bytesOf 141 ≤ reachBytes) :=
  opensW_mono (opensW_iso (opensW_struct Tryd.underlying39 (by kernel_rfl) (opensWAt_cons rfl (by kernel_rfl) (opensW_int Tryd.underlying3) (opensWAt_cons rfl (by kernel_rfl) (opensW_slice Tryd.underlying37 (by kernel_rfl) opens_hit) (opensWAt_one rfl (by kernel_rfl) (opensW_int Tryd.underlying28)))))
    _ (fun a => ⟨a.1, a.2.1, a.2.2⟩) (fun _ => rfl)) (fun x h => h.2.1.2)
theorem opens_drop : OpensW Tryd.prog 104 XSb.k104 (fun _ => True) :=
  opensW_mono (opensW_iso (opensW_struct Tryd.underlying104 (by kernel_rfl) (opensWAt_cons rfl (by kernel_rfl) (opensW_string Tryd.underlying9) (opensWAt_one rfl (by kernel_rfl) (opensW_int Tryd.underlying3))))
    _ (fun a => ⟨a.1, a.2⟩) (fun _ => rfl)) (fun x h => trivial)
theorem opens_event : OpensW Tryd.prog 42 XSb.k42 (fun x => x.f1.f1.length * Tryd.prog.bytesOf 9 ≤ reachBytes ∧ x.f3.f1.length * Tryd.prog.bytesOf 141 ≤ reachBytes) :=
  opensW_mono (opensW_iso (opensW_struct Tryd.underlying42 (by kernel_rfl) (opensWAt_cons rfl (by kernel_rfl) (opensW_int Tryd.underlying3) (opensWAt_cons rfl (by kernel_rfl) opens_cmd (opensWAt_cons rfl (by kernel_rfl) (opensW_int Tryd.underlying2) (opensWAt_cons rfl (by kernel_rfl) opens_res (opensWAt_one rfl (by kernel_rfl) (opensW_slice Tryd.underlying40 (by kernel_rfl) opens_drop)))))))
    _ (fun a => ⟨a.1, a.2.1, a.2.2.1, a.2.2.2.1, a.2.2.2.2⟩) (fun _ => rfl)) (fun x h => ⟨h.2.1, h.2.2.2.1⟩)
theorem opens_arg : OpensW Tryd.prog 22 (Kd.slice 42 XSb.k42) (fun xs => (∀ x ∈ xs, x.f1.f1.length * Tryd.prog.bytesOf 9 ≤ reachBytes ∧ x.f3.f1.length * Tryd.prog.bytesOf 141 ≤ reachBytes) ∧ xs.length * Tryd.prog.bytesOf 42 ≤ reachBytes) :=
  opensW_slice Tryd.underlying22 (by kernel_rfl) opens_event
theorem bytes_string : Tryd.prog.bytesOf 9 = 16 := by kernel_rfl
theorem bytes_hit : Tryd.prog.bytesOf 141 = 48 := by kernel_rfl
theorem fits {l : List (XSb.S42)} (h : ∀ x ∈ l, x.f1.f1.length * Tryd.prog.bytesOf 9 ≤ reachBytes ∧ x.f3.f1.length * Tryd.prog.bytesOf 141 ≤ reachBytes) : ∀ x ∈ l, x.f1.f1.length ≤ 4611686018427387904 ∧ x.f3.f1.length ≤ 2932031007317 := by
  intro x hx
  obtain ⟨h1, h2⟩ := h x hx
  rw [bytes_string] at h1
  rw [bytes_hit] at h2
  unfold reachBytes at h1 h2
  omega
set_option maxRecDepth 100000 in
theorem lifted (os : Os) (started : os.Started) (H : Type) (enc : TypeId × Value → H) (F : Stop.Interp) :
    ReturnsInHanded {} Tryd.checked os 3 .any ((OpenSpec.ofChange Rows.statNotesSpec).preRow enc Tryd.prog Tryd.f3 Rows.statNotesRow.domain false Rows.statNotesRow.laid) (((OpenSpec.ofChange Rows.statNotesSpec).at F).post enc Tryd.prog Tryd.f3 false true false false) := by
  refine returnsInHanded_of_row (C := Tryd.checked) (s := OpenSpec.ofChange Rows.statNotesSpec) own started (by kernel_rfl) Tryd.func3
    (ChangeSpec.witness_shaped (enc := enc) (C := Tryd.checked) (os := os) (s := Rows.statNotesSpec) (X := fun w _ => laidMetH Tryd.prog Rows.statNotesRow.laid w) false (World.laidAll Tryd.prog os Rows.statNotesRow.laid) #[.slice none 0 0, .string ByteArray.empty] 8 (World.laidAll_os _ _ _)
      (shaped os _) (by kernel_rfl) (by kernel_rfl) (by kernel_rfl) (laid_met os _)) ?_
  intro W base args ds gs before hval0 hW _ _ hsz0 hL hsh _
  have hsz : (DataW.weightsEach Tryd.prog (Tryd.f3.params.toList ++ Rows.statNotesSpec.plain.varTypes Tryd.prog) (ds ++ gs)).all (· ≤ reachBytes) = true := hsz0
  have hval : ∀ (j : Nat) t v, Tryd.f3.params[j]? = some t → args[j]? = some v → Value.okWide Tryd.prog W .any base t v := hval0
  have hW' := hW
  obtain ⟨p, q, hA0, hV, rfl, hfz, hnd⟩ := hW
  have hA : DataW.TrodAll enc Tryd.prog W 0 (fun _ => true) true Tryd.f3.params.toList args.toList ds p := hA0
  rw [Tryd.params3] at hA hval hsz
  obtain ⟨v0, vs0, d0, ds0, p0, q0, hargs, rfl, rfl, h0, r0⟩ := trodAll_cons hA
  obtain ⟨v1, vs1, d1, ds1, p1, q1, rfl, rfl, rfl, h1, r1⟩ := trodAll_cons r0
  obtain ⟨rfl, rfl, rfl⟩ := trodAll_nil r1
  obtain rfl : args = #[v0, v1] := by cases args; simp_all
  obtain ⟨rfl, rfl⟩ := trodVars_none hV
  have k0 := h0
  have lt0 : ∀ x ∈ p0, x.block < W.heap.size := by obtain ⟨m, hm⟩ := k0; exact DataW.trod_lt m _ _ _ hm
  obtain ⟨A, n, c, rfl⟩ := okWide_slice Tryd.underlying22 (hval 0 22 v0 rfl rfl)
  obtain ⟨s, rfl, rfl, rfl, y1⟩ := open_string Tryd.underlying9 (hval 1 9 v1 rfl rfl) h1
  have hw0 : Sm Tryd.prog 22 d0 := fun m hm => by
    have := List.all_eq_true.1 hsz m (DataW.weights_mem_each (j := 0) (t := 22) (d := d0) rfl rfl m hm)
    simpa using this
  obtain ⟨fuel, hf⟩ := h0
  obtain ⟨l, hK, hfit, -⟩ := opens_arg H enc W 0 _ true fuel _ _ hf hw0
  obtain ⟨A', c', e0, hc, hC⟩ := hK
  have e1 : Value.slice A n c = .slice A' l.length c' := List.head_eq_of_cons_eq e0
  injection e1 with e1 e2 e3
  subst e1 e2 e3
  clear hA0 hval0 hsz0 hsz hf e0 hw0
  have hv : Vars W := vars_of hL hsh
  obtain ⟨kg, gr, hgr, hsm⟩ := St.great_all l (fits hfit)
  refine (St.notes_law W hv A l c s y1 hc hC kg gr hgr hsm).mono fun e W' ⟨he, bel⟩ => ?_
  subst he
  exact ⟨_, rfl, _, _, _, [], _, [], hW', trodAll_mk1 (shut_bool Tryd.underlying4 _), (trodAll_cons_mk (Below.trod laidOut (by kernel_rfl) (of_decide_eq_true (by kernel_rfl)) k0 bel lt0) (trodAll_cons_mk (shut_string Tryd.underlying9 y1) trodAll_mk0)), rfl, bel.frame _, fun h => by cases h⟩

theorem said : Rows.StatNotesSaid :=
  OpenClaim.holds_of_cond 3 Tryd.f3 rfl rfl rfl rfl rfl rfl rfl ⟨rfl, rfl, rfl, rfl, rfl⟩ rfl rfl rfl rfl rfl (by kernel_rfl) Tryd.func3 (by kernel_rfl)
    (of_decide_eq_true (by kernel_rfl)) (by unfold Func.isWrapper; first | (rw [if_pos (by decide +kernel)]; kernel_rfl) | (rw [if_neg (by decide +kernel)]; exact ⟨rfl, rfl⟩))
    (fun os started H enc _ F => by rw [OpenClaim.pre_eq_preRow]; exact lifted os started H enc F)

theorem plain (f : FuncId) (fn : Func) (hf : Tryd.pinned.checked.prog.funcNamed "tallboy/tallboylaw32.StatNotes" = some f) (hfn : Tryd.pinned.checked.prog.funcs[f]? = some fn) :
    false = Tryd.pinned.checked.prog.looks [] ∧ ∀ (j : Nat) t, fn.params[j]? = some t → Tryd.pinned.checked.prog.wantsStandIn t = false := by
  obtain rfl : f = 3 := Option.some.inj ((show Tryd.prog.funcNamed "tallboy/tallboylaw32.StatNotes" = some 3 by kernel_rfl).symm.trans hf) |>.symm
  obtain rfl : fn = Tryd.f3 := (Option.some.inj (Tryd.func3.symm.trans hfn)).symm
  refine ⟨by kernel_rfl, fun j t ht => ?_⟩
  rw [Tryd.params3] at ht
  have hm := Array.mem_of_getElem? ht
  have hall : (Tryd.f3.params.toList.all fun u => !Tryd.prog.wantsStandIn u) = true := by kernel_rfl
  rw [Tryd.params3] at hall
  exact (show Tryd.prog.wantsStandIn t = false by simpa using List.all_eq_true.1 hall t (by simpa using hm))

theorem card : Rows.StatNotesCardSaid :=
  Claim7.holds_tied_plain_at .later [] _ _ _ _ said (fun _ h => by cases h) (by kernel_rfl) (fun _ h => by cases h) statNotes_row_tie rfl ⟨rfl, rfl⟩ (by kernel_rfl) rfl plain (by kernel_rfl)
end Go.Proofs.YteddljbdjgdlnaaDoor.statNotes
namespace Go.Proofs.YteddljbdjgdlnaaDoor
theorem statNotes_card : Rows.StatNotesCardSaid := statNotes.card
#print axioms statNotes_card
end Go.Proofs.YteddljbdjgdlnaaDoor
end
