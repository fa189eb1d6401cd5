/- Put together by wip/pack.py (this session's own program) out of this session's texts; a kit's tool laid the words and the shelf, of which only what is used stands here. Lean checks it. -/
import Derived.Test.YtaolblgmpiobeaaDoorPMr3
import Derived.Test.YtaolblgmpiobeaaDoorCards
import Derived.Test.YtaolblgmpiobeaaDoorTie
import Derived.WalkKit
import Derived.ProofKit
import Derived.OpenShut
import Derived.ShutString
import Derived.ChangeOld
import Derived.Below
import Derived.SizedLaws
import Derived.LaidMore
import Derived.Lay
import Derived.SevenTiedAt
import Derived.Stop.Joined
import Derived.Deep.DeepHandedRow
import Derived.Shelf.Vars
import Derived.Stop.LaidErr
section
namespace Go.Proofs.YtaolblgmpiobeaaDoor.Mdl
open Go.RowKit Go.Proofs.YtaolblgmpiobeaaDoorW.PrintWords Go.Proofs.YtaolblgmpiobeaaDoorW.PrintLast Go.Proofs.YtaolblgmpiobeaaDoorW.PrintMore Go.WideMaps Go.Proofs.YtaolblgmpiobeaaDoor.XMd
set_option linter.unusedVariables false
set_option linter.unusedSimpArgs false
attribute [local go_sem ↓] Go.wp_at_zero Go.wp_at_succ
namespace Alone
def al : ByteArray := ⟨#[97, 108, 111, 110, 101, 126]⟩
theorem good_al : Good al := ⟨by kernel_rfl, by kernel_rfl⟩
def val : ByteArray := ⟨#[118]⟩
def wasE : Ent := ⟨val, 0, 0, 1⟩
def E1 : Tab := putT (fun _ => none) (nm al) (some wasE)
theorem o1_is : doP ⟨5, [al], 0, 0, val, 0, 0, false⟩ 1000 false (fun _ => none) 0 = ⟨2, [], 0, 0, E1, 1⟩ :=
  (do_set good_al 0 0 val 1000 (by unfold sec; omega) (by decide) _ _).trans (by rw [ends_nought (show sec 1000 by unfold sec; omega)]; rfl)
theorem get1 : get E1 al 1000 = some wasE := by
  unfold E1
  rw [get_same _ good_al, gone_nought _ rfl, if_pos rfl]
structure Rd (w wr : World) (g b B j : Nat) : Prop where
  st : ∃ E laid, Lw w wr g b (100 * (j + 1)) E laid ∧ get E al 1000 = some wasE
  was : wr.heap[B]? = some (.cells #[.string val, .int .u32 0, .int .i64 0, .int .u64 1] 39)
theorem Rd.next {w wr W : World} {g b B j : Nat} (h : Rd w wr g b B j) (hb : Below wr.heap.size wr W) : Rd w W g b B (j + 1) := by
  obtain ⟨E, laid, hL, hg⟩ := h.st
  exact ⟨⟨E, laid, ⟨(hL.at_.below hb).more (by omega), (hL.below hb).bel, hL.hg, hL.hb⟩, hg⟩, (hb.block _ (blk_lt h.was)).trans h.was⟩
def isAl (s : ByteArray) : Bool := s.toList == [97, 108, 111, 110, 101, 126]
def mine (l : List ByteArray) : Bool := l.any fun s => isAl s || decide (1000 < s.size)
theorem mine_snoc {l : List ByteArray} {k : Nat} {s : ByteArray} (h : l[k]? = some s) : mine (l.take (k + 1)) = (mine (l.take k) || (isAl s || decide (1000 < s.size))) := by
  unfold mine
  rw [List.take_add_one, h, List.any_append]
  simp
theorem al_is : isAl al = true := by kernel_rfl
theorem mine_not {l : List ByteArray} (h : mine l = false) : ∀ x ∈ l, x ≠ al := by
  intro x hx e
  unfold mine at h
  have := List.any_eq_false.1 h x hx
  rw [e, al_is] at this
  exact this rfl
end Alone
theorem keysAt_of {w : World} {g b : Nat} {A : Option Addr} {l : List ByteArray} (h : Kd.string.C w A l.length l) (hg : w.heap.size ≤ g) (hb : w.heap.size ≤ b) : KeysAt w g b A l := fun j p hp => by
  obtain ⟨ad, e, hc⟩ := slices_ContainsFunc_string_string.cell h (Below.refl _ _) j p hp
  have := World.block_lt_of_cell? w _ hc
  rw [add_block] at this
  exact ⟨ad, e, by omega, by omega, hc⟩
theorem KeysAt.below {w w' : World} {g b : Nat} {A : Option Addr} {ks : List ByteArray} (h : KeysAt w g b A ks) (hb : Below w.heap.size w w') : KeysAt w' g b A ks := h.mut (Mut.of_below hb)
set_option maxHeartbeats 8000000 in
set_option maxRecDepth 100000 in
theorem alone_calls (w : World) (hv : Vars w) (A0 : Option Addr) (l0 : List ActT) (c0 : Nat) (hc0 : l0.length ≤ c0) (hC0 : kAct.C w A0 l0.length l0) (hQ : ∀ x ∈ l0, actQ x) :
    Calls Tryd.prog 6 #[.slice A0 l0.length c0] w fun e w' => e = .returned (.bool true) ∧ Below w.heap.size w w' := by
  have HV := Aside0.mk hv
  have HC0 := Aside0.mk hC0
  have HQ := Aside0.mk hQ
  clear hv hC0 hQ
  go_enter Tryd.func6, Tryd.ntmps6
  go_wp2_with fail
  refine (works_calls w HV.out).mono ?_
  rintro e v ⟨rfl, hb⟩
  have BV := Aside0.mk hb
  clear hb
  go_wp2_with fail
  refine (New_calls v).mono ?_
  rintro e v0 ⟨g, b, rfl, hA0, hg, hb, hb0⟩
  have L0 := Aside0.mk (Lw.mk (w0 := w) hA0 (BV.out.trans (hb0.mono BV.out.size)) (Nat.le_trans BV.out.size hg) (Nat.le_trans BV.out.size hb))
  clear hA0 hb0 hg hb
  go_wp2_with fail
  refine (set_c v0 Alone.al Alone.val).mono ?_
  rintro e u1 ⟨rfl, hrow, hbu⟩
  have U1 := Aside0.mk (L0.out.below hbu)
  have N1 : v0.heap.size + 1 ≠ g ∧ v0.heap.size + 1 ≠ b := by have h1 := L0.out.at_.lt; have h2 := L0.out.at_.ltb; omega
  have ROW1 := Lib.hid hrow
  clear hrow hbu
  go_wp2_with fail
  have U1b := Aside0.mk (U1.out.below ((Below.refl _ u1).alloc (Nat.le_refl _) (.cells #[.int .i64 5, .slice (some ⟨v0.heap.size + 1, 0, none⟩) 1 1, .int .u32 0, .int .i64 0, .string Alone.val, .int .u64 0, .int .u64 0, .bool false] 29)))
  have ROW1b := Lib.hid ((Below.heap_alloc u1 (.cells #[.int .i64 5, .slice (some ⟨v0.heap.size + 1, 0, none⟩) 1 1, .int .u32 0, .int .i64 0, .string Alone.val, .int .u64 0, .int .u64 0, .bool false] 29) _ (blk_lt ROW1.out)).trans ROW1.out)
  refine (Do_c _ g b 0 (fun _ => none) 0 ⟨5, [Alone.al], 0, 0, Alone.val, 0, 0, false⟩ (some ⟨v0.heap.size + 1, 0, none⟩) 1 1000 false (HV.out.below U1b.out.bel) U1b.out.at_ (by decide) (keys_row ROW1b.out (show (1 : Nat) ≤ 100 by decide)) (keys_at ROW1b.out N1.1 N1.2) (Nat.le_refl 1) (Int.le_refl 0)).mono ?_
  rintro e v1 hout
  rw [Alone.o1_is] at hout
  obtain ⟨vs, hvs, rfl, hown, hA, hM⟩ := hout
  obtain rfl := hvs (by show (2 : Int) ≠ 1; decide)
  have L1 := Aside0.mk (U1b.out.mut hA hM)
  clear hvs hown hA hM U1 U1b ROW1 ROW1b N1 L0
  go_wp2_with fail
  refine (Get_c _ g b _ _ _ Alone.al 1000 L1.out.at_ Alone.wasE true (by rw [Alone.get1]; rfl) (by rw [Alone.get1]; rfl)).mono ?_
  rintro e v2 ⟨rfl, hb2⟩
  have L2 := Aside0.mk (L1.out.below hb2)
  have NB : v2.heap.size ≠ g ∧ v2.heap.size ≠ b := by have h1 := L2.out.at_.lt; have h2 := L2.out.at_.ltb; omega
  have HS : Aside0 (Alone.Rd w (v2.alloc (.cells #[.string Alone.val, .int .u32 0, .int .i64 0, .int .u64 1] 39)) g b v2.heap.size 0) := ⟨⟨⟨_, _, L2.out.below ((Below.refl _ v2).alloc (Nat.le_refl _) _), Alone.get1⟩, heap_alloc_new _ _⟩⟩
  have hBw : w.heap.size ≤ v2.heap.size := L2.out.bel.size
  clear hb2 L1 L2
  unfold Alone.wasE
  go_wp2_with fail
  generalize v2.heap.size = B at HS NB hBw ⊢
  go_loopg [7] l0.length (fun gg v7 wr => ∃ (j : Nat), v7 = .int .i64 j ∧ j ≤ l0.length ∧ j ≤ 40 ∧ l0.length - j ≤ gg ∧ Aside0 (Alone.Rd w wr g b B j))
  case atStart => exact ⟨0, rfl, Nat.zero_le _, Nat.zero_le _, by omega, HS⟩
  case round =>
    clear HS
    obtain ⟨j, rfl, hj, hj40, hgg, HR⟩ := hrel
    by_cases hlt : j < l0.length ∧ j < 40
    · obtain ⟨hl1, hl40⟩ := hlt
      have hji : (j : Int) < (l0.length : Int) := by omega
      have hj40i : (j : Int) < 40 := by omega
      obtain ⟨x, hx⟩ : ∃ x, l0[j]? = some x := ⟨_, List.getElem?_eq_getElem hl1⟩
      obtain ⟨E, laid, hL, hget⟩ := HR.out.st
      obtain ⟨ad, Ak, ck, rfl, hactw⟩ := act_at HC0.out j x hx
      have hact := hactw.below hL.bel
      have hadl : (ad.add (j * 11)).block < w.heap.size := World.block_lt_of_cell? w _ hactw.c0
      have hkw := keysAt_of (g := g) (b := b) hactw.keys hL.hg hL.hb
      have hgw := hL.hg
      have hbw := hL.hb
      clear hactw
      have hQx := HQ.out x (List.mem_of_getElem? hx)
      obtain ⟨kk, hkk⟩ : ∃ kk, kk = cmdOf x := ⟨_, rfl⟩
      have hdl : 0 ≤ kk.delta := by rw [hkk]; exact (wf_u64' hQx.2.2.2.2.2.2).1
      have HACT := Lib.hid hact
      obtain ⟨hkeys, hcap, k0, k1, k2, k3, k4, k5, k6, k7, k8, k9, k10⟩ := hact
      rw [← hkk] at hkeys hcap k0 k1 k2 k3 k4 k5 k6 k7 hkw
      have HKW := Aside0.mk hkw
      clear hkw
      have HKEYS := Aside0.mk hkeys
      have L := Aside0.mk hL
      have HGET := Lib.hid hget
      have WAS := Lib.hid HR.out.was
      have NW : wr.heap.size ≠ g ∧ wr.heap.size ≠ b := by have h1 := hL.at_.lt; have h2 := hL.at_.ltb; omega
      have hcb : 100 * (j + 1) + 1000 < maxLen := by unfold maxLen; omega
      clear hL hget hx hQx hkeys hkk
      go_upto_region 11 with fail
      have hT := heap_alloc_new wr (.cells (cmdC kk Ak ck) 29)
      have hb1 := (Below.refl wr.heap.size wr).alloc (Nat.le_refl _) (.cells (cmdC kk Ak ck) 29)
      have hHR := HR.out.next hb1
      change Code.wp _ _ _ _ (wr.alloc (.cells (cmdC kk Ak ck) 29))
      generalize wr.alloc (.cells (cmdC kk Ak ck) 29) = W at hT hb1 hHR ⊢
      obtain ⟨T, hTe⟩ : ∃ T, T = wr.heap.size := ⟨_, rfl⟩
      rw [← hTe] at hT ⊢
      have NT : T ≠ g ∧ T ≠ b := by omega
      have HKA := Aside0.mk (HKW.out.below ((L.out.below hb1).bel))
      clear hTe
      have hact2 := HACT.out.below hb1
      have k9 := hact2.c9
      have HR2 := Aside0.mk hHR
      have L2 := Aside0.mk (L.out.below hb1)
      have HK2 := Aside0.mk (Kd.C_below HKEYS.out hb1)
      have t0 := fresh_cell hT 0
      have t1 := fresh_cell hT 1
      have t4 := fresh_cell hT 4
      unfold cmdC at t0 t1 t4
      simp only [List.getElem?_toArray, List.getElem?_cons_zero, List.getElem?_cons_succ] at t0 t1 t4
      have HT := Lib.hid hT
      have HACT2 := Lib.hid hact2
      clear hT hb1 hHR hact2 HACT L HKEYS
      by_cases h15 : kk.kind = 15
      · have e15 : (kk.kind == 15) = true := beq_iff_eq.2 h15
        clear h15
        go_wp2
        go_roundg (l0.length - (j + 1))
        case measure => omega
        case rel => exact ⟨j + 1, by go_num, by omega, by omega, by omega, HR2⟩
      have e15 : (kk.kind == 15) = false := beq_eq_false_iff_ne.2 h15
      have H15 := Lib.hid h15
      clear h15
      by_cases h100 : 100 < kk.keys.length
      · have h100i : (100 : Int) < (kk.keys.length : Int) := by omega
        go_wp2
        go_roundg (l0.length - (j + 1))
        case measure => omega
        case rel => exact ⟨j + 1, by go_num, by omega, by omega, by omega, HR2⟩
      have h100i : ¬ (100 : Int) < (kk.keys.length : Int) := by omega
      by_cases hval : 10000 < kk.value.size
      · have hvi : (10000 : Int) < (kk.value.size : Int) := by omega
        go_wp2
        go_roundg (l0.length - (j + 1))
        case measure => omega
        case rel => exact ⟨j + 1, by go_num, by omega, by omega, by omega, HR2⟩
      have hvi : ¬ (10000 : Int) < (kk.value.size : Int) := by omega
      clear k0 k1 k2 k3 k4 k5 k6 k7 k8 k10
      go_wp2_with fail
      go_loopg [9, 10] kk.keys.length (fun gk v9 v10 w' => ∃ (k : Nat), v9 = .bool (Alone.mine (kk.keys.take k)) ∧ v10 = .int .i64 k ∧ k ≤ kk.keys.length ∧ kk.keys.length - k ≤ gk ∧ w' = W)
      case atStart => exact ⟨0, rfl, rfl, Nat.zero_le _, by omega, rfl⟩
      case round =>
        obtain ⟨k, rfl, rfl, hk, hgk, rfl⟩ := hrel
        by_cases hkl : k < kk.keys.length
        · have hki : (k : Int) < (kk.keys.length : Int) := by omega
          obtain ⟨s, hs⟩ : ∃ s, kk.keys[k]? = some s := ⟨_, List.getElem?_eq_getElem hkl⟩
          obtain ⟨adk, rfl, hcell⟩ := slices_ContainsFunc_string_string.cell HK2.out (Below.refl _ _) k s hs
          have hsn := Alone.mine_snoc hs
          have HSN := Lib.hid hsn
          obtain ⟨m, hm⟩ : ∃ m, Alone.mine (kk.keys.take k) = m := ⟨_, rfl⟩
          have HMM := Lib.hid hm
          rw [hm]
          obtain ⟨q, hq⟩ : ∃ q, Alone.isAl s = q := ⟨_, rfl⟩
          have HQQ := Lib.hid hq
          unfold Alone.isAl at hq
          clear hs hsn hm
          have hfin : ∀ r, r = (m || (q || decide (1000 < s.size))) → Value.bool r = .bool (Alone.mine (kk.keys.take (k + 1))) := fun r hr => by rw [HSN.out, HMM.out, HQQ.out, hr]
          have HFIN := Aside0.mk hfin
          clear hfin
          by_cases h1000 : 1000 < s.size
          · have h1i : (1000 : Int) < (s.size : Int) := by omega
            cases m <;> cases q
            all_goals
              go_wp2
              go_roundg (kk.keys.length - (k + 1))
              case measure => omega
              case rel => exact ⟨k + 1, HFIN.out _ (by rw [decide_eq_true h1000]; rfl), by go_num, by omega, by omega, rfl⟩
          · have h1i : ¬ (1000 : Int) < (s.size : Int) := by omega
            cases m <;> cases q
            all_goals
              go_wp2
              go_roundg (kk.keys.length - (k + 1))
              case measure => omega
              case rel => exact ⟨k + 1, HFIN.out _ (by rw [decide_eq_false h1000]; rfl), by go_num, by omega, by omega, rfl⟩
        · have hki : ¬ (k : Int) < (kk.keys.length : Int) := by omega
          have hmk : Alone.mine (kk.keys.take k) = Alone.mine kk.keys := by rw [List.take_of_length_le (by omega)]
          rw [hmk]
          obtain ⟨m, hm⟩ : ∃ m, Alone.mine kk.keys = m := ⟨_, rfl⟩
          have HMM := Lib.hid hm
          rw [hm]
          clear hmk hm
          cases m with
          | true =>
            go_wp2
            go_roundg (l0.length - (j + 1))
            case measure => omega
            case rel => exact ⟨j + 1, by go_num, by omega, by omega, by omega, HR2⟩
          | false =>
            go_upto_region 18 with fail
            have hT := HT.out
            have t0 := fresh_cell hT 0
            have t1 := fresh_cell hT 1
            have t2 := fresh_cell hT 2
            have t3 := fresh_cell hT 3
            have t4 := fresh_cell hT 4
            have t5 := fresh_cell hT 5
            have t6 := fresh_cell hT 6
            have t7 := fresh_cell hT 7
            unfold cmdC at t0 t1 t2 t3 t4 t5 t6 t7
            simp only [List.getElem?_toArray, List.getElem?_cons_zero, List.getElem?_cons_succ] at t0 t1 t2 t3 t4 t5 t6 t7
            have HF := Lib.hid (show _ ∧ _ ∧ _ ∧ _ ∧ _ ∧ _ ∧ _ ∧ _ ∧ _ from ⟨t0, t1, t2, t3, t4, t5, t6, t7, k9⟩)
            have hnot := Alone.mine_not HMM.out
            have HNOT := Lib.hid hnot
            have hpg : (ad.add (j * 11)).block ≠ g := by omega
            have hpb : (ad.add (j * 11)).block ≠ b := by omega
            clear hT t0 t1 t2 t3 t4 t5 t6 t7 k9 hnot
            go_region_held3 (fun w' => w'.cell? ⟨T, 0, none⟩ = some (.int .i64 kk.kind) ∧ w'.cell? ⟨T, 1, none⟩ = some (.slice Ak kk.keys.length ck) ∧ w'.cell? ⟨T, 2, none⟩ = some (.int .u32 kk.flags) ∧ w'.cell? ⟨T, 3, none⟩ = some (.int .i64 kk.exp) ∧ w'.cell? ⟨T, 4, none⟩ = some (.string kk.value) ∧
                w'.cell? ⟨T, 5, none⟩ = some (.int .u64 kk.cas) ∧ w'.cell? ⟨T, 6, none⟩ = some (.int .u64 kk.delta) ∧ w'.cell? ⟨T, 7, none⟩ = some (.bool kk.quiet) ∧ w'.cell? ⟨(ad.add (j * 11)).block, (ad.add (j * 11)).off + 9, none⟩ = some (.bool x.2.2.1))
              ((first | exact HF.out | exact HF3.out))
              (first | (go_at_call 12; refine (Do_c _ g b (100 * (j + 1)) E laid kk Ak ck 1000 x.2.2.1 (HV.out.below L2.out.bel.drew) L2.out.at_.drew hcb (Kd.C_drew HK2.out) (HKA.out.below (Below.refl _ _).drew) hcap hdl).mono ?_; rintro e w5 ⟨vs, hvs, rfl, hown, hA5, hM5⟩; have HF3 := Lib.hid (show _ ∧ _ ∧ _ ∧ _ ∧ _ ∧ _ ∧ _ ∧ _ ∧ _ from ⟨hM5.cell HF.out.1 NT.1 NT.2, hM5.cell HF.out.2.1 NT.1 NT.2, hM5.cell HF.out.2.2.1 NT.1 NT.2, hM5.cell HF.out.2.2.2.1 NT.1 NT.2, hM5.cell HF.out.2.2.2.2.1 NT.1 NT.2, hM5.cell HF.out.2.2.2.2.2.1 NT.1 NT.2, hM5.cell HF.out.2.2.2.2.2.2.1 NT.1 NT.2, hM5.cell HF.out.2.2.2.2.2.2.2.1 NT.1 NT.2, hM5.cell HF.out.2.2.2.2.2.2.2.2 hpg hpb⟩)))
            have hfinal : Alone.Rd w w5 g b B (j + 1) := by
              refine ⟨⟨_, _, ⟨hA5.more (by omega), (L2.out.below (Below.refl _ _).drew).mut hA5 hM5 |>.bel, hgw, hbw⟩, ?_⟩, hM5.heap HR2.out.was NB.1 NB.2⟩
              rw [get_keep (do_keep kk 1000 _ E laid Alone.al Alone.good_al H15.out HNOT.out) 1000]
              exact HGET.out
            have HFINAL := Aside0.mk hfinal
            clear hfinal HF HF3 hown hvs hA5 hM5
            go_wp2
            go_roundg (l0.length - (j + 1))
            case measure => omega
            case rel => exact ⟨j + 1, by go_num, by omega, by omega, by omega, HFINAL⟩
    · obtain ⟨E, laid, hL, hget⟩ := HR.out.st
      have L := Aside0.mk hL
      have HGET := Lib.hid hget
      have WAS := Lib.hid HR.out.was
      clear hL hget
      have hfin : (j : Int) < (l0.length : Int) ∧ ¬ (j : Int) < 40 ∨ ¬ (j : Int) < (l0.length : Int) := by omega
      rcases hfin with ⟨hji, hj40i⟩ | hji
      all_goals
        go_wp2_with fail
        refine (Get_c _ g b _ _ _ Alone.al 1000 L.out.at_ Alone.wasE true (by rw [HGET.out]; rfl) (by rw [HGET.out]; rfl)).mono ?_
        rintro e v3 ⟨rfl, hb3⟩
        have L3 := Aside0.mk (L.out.below hb3)
        have hwas := (Below.heap_alloc v3 (.cells #[.string Alone.val, .int .u32 0, .int .i64 0, .int .u64 1] 39) B (blk_lt ((hb3.block _ (blk_lt WAS.out)).trans WAS.out))).trans ((hb3.block _ (blk_lt WAS.out)).trans WAS.out)
        have BEL := Aside0.mk (L3.out.bel.alloc L3.out.bel.size (.cells #[.string Alone.val, .int .u32 0, .int .i64 0, .int .u64 1] 39))
        have b0 := fresh_cell hwas 0
        have b1 := fresh_cell hwas 1
        have b2 := fresh_cell hwas 2
        have b3 := fresh_cell hwas 3
        simp only [List.getElem?_toArray, List.getElem?_cons_zero, List.getElem?_cons_succ] at b0 b1 b2 b3
        clear hb3 hwas
        unfold Alone.wasE
        go_wp2
        go_ret
        exact ⟨rfl, BEL.out⟩
end Go.Proofs.YtaolblgmpiobeaaDoor.Mdl
end
section
namespace Go.Proofs.YtaolblgmpiobeaaDoor.Mdl
open Go.RowKit Go.Proofs.YtaolblgmpiobeaaDoorW.PrintWords Go.Proofs.YtaolblgmpiobeaaDoorW.PrintLast Go.Proofs.YtaolblgmpiobeaaDoorW.PrintMore Go.WideMaps Go.Proofs.YtaolblgmpiobeaaDoor.XMd
set_option linter.unusedVariables false
set_option linter.unusedSimpArgs false
attribute [local go_sem ↓] Go.wp_at_zero Go.wp_at_succ
theorem owns_slice {w : World} {base e s n : Nat} {v : Value} {xs : List Value} (h : w.ownsRow base e s v n xs) : ∃ A cap, v = .slice A n cap := by
  rcases h.2 with ⟨rfl, rfl⟩ | ⟨r, cap, cur, rfl, _⟩
  · exact ⟨none, 0, rfl⟩
  · exact ⟨some ⟨r, 0, none⟩, cap, rfl⟩
theorem cmdCells {W : World} {T : Nat} {k : Cmd} {A : Option Addr} {cap : Nat} (h : W.heap[T]? = some (.cells (cmdC k A cap) 29)) :
    W.cell? ⟨T, 0, none⟩ = some (.int .i64 k.kind) ∧ W.cell? ⟨T, 1, none⟩ = some (.slice A k.keys.length cap) ∧ W.cell? ⟨T, 2, none⟩ = some (.int .u32 k.flags) ∧ W.cell? ⟨T, 3, none⟩ = some (.int .i64 k.exp) ∧
    W.cell? ⟨T, 4, none⟩ = some (.string k.value) ∧ W.cell? ⟨T, 5, none⟩ = some (.int .u64 k.cas) ∧ W.cell? ⟨T, 6, none⟩ = some (.int .u64 k.delta) ∧ W.cell? ⟨T, 7, none⟩ = some (.bool k.quiet) :=
  ⟨fresh_cell h 0, fresh_cell h 1, fresh_cell h 2, fresh_cell h 3, fresh_cell h 4, fresh_cell h 5, fresh_cell h 6, fresh_cell h 7⟩
namespace Reads
def x0 (value : ByteArray) (ex : Int) : Ent := ⟨value, 0, endsV 1000 ex, 1⟩
structure Rd (w wr : World) (g b B j : Nat) (key value : ByteArray) (ex : Int) : Prop where
  st : ∃ E laid, Lw w wr g b (100 * (j + 1)) E laid ∧ Named E ∧ E (nm key) = some (x0 value ex)
  was : wr.heap[B]? = some (.cells #[.int .i64 2, .slice none 0 0, .int .u64 0] 34)
theorem Rd.next {w wr W : World} {g b B j : Nat} {key value : ByteArray} {ex : Int} (h : Rd w wr g b B j key value ex) (hb : Below wr.heap.size wr W) : Rd w W g b B (j + 1) key value ex := by
  obtain ⟨E, laid, hL, hg⟩ := h.st
  exact ⟨⟨E, laid, ⟨(hL.at_.below hb).more (by omega), (hL.below hb).bel, hL.hg, hL.hb⟩, hg⟩, (hb.block _ (blk_lt h.was)).trans h.was⟩
variable {key value : ByteArray} {ex la : Int} {E : Tab}
theorem get_it (hk : Good key) (h : E (nm key) = some (x0 value ex)) (now : Int) : get E key now = if gone (x0 value ex) now = false then some (x0 value ex) else none := by
  unfold get
  rw [h]
  simp only [hk.back, true_and]
theorem get_now (hk : Good key) (h0 : 0 ≤ ex) (h1 : ex ≤ 99) (h : E (nm key) = some (x0 value ex)) : get E key 1000 = some (x0 value ex) := by
  rw [get_it hk h, if_pos]
  unfold gone x0
  simp only
  rw [ends_small h0 (by omega)]
  split
  · rfl
  · rw [decide_eq_false (show ¬ (1000 + ex) % 4294967296 ≤ 1000 by omega), Bool.and_false]
def over (ex la : Int) : Bool := decide (0 < ex) && decide (ex ≤ la)
theorem get_then (hk : Good key) (h0 : 0 ≤ ex) (h1 : ex ≤ 99) (h2 : 0 ≤ la) (h3 : la ≤ 199) (h : E (nm key) = some (x0 value ex)) : get E key (1000 + la) = if over ex la = true then none else some (x0 value ex) := by
  rw [get_it hk h]
  have e : gone (x0 value ex) (1000 + la) = over ex la := by
    unfold gone x0 over
    simp only
    rw [ends_small h0 (by omega)]
    by_cases he : ex = 0
    · subst he
      rfl
    · rw [if_neg he, decide_eq_true (show 0 < (1000 + ex) % 4294967296 by omega), decide_eq_true (show 0 < ex by omega)]
      congr 1
      by_cases h : ex ≤ la
      · rw [decide_eq_true (by omega), decide_eq_true h]
      · rw [decide_eq_false (by omega), decide_eq_false h]
  rw [e]
  cases over ex la <;> rfl
theorem bad_set (h : fnv_Key.is key = false) (E : Tab) (laid : Int) : doP ⟨5, [key], 0, ex, value, 0, 0, false⟩ 1000 false E laid = ⟨0, [], 0, 6, E, laid⟩ := by
  have hc : chkC ⟨5, [key], 0, ex, value, 0, 0, false⟩ = 6 := by
    show chk 5 [key] 0 ex value 0 0 false = 6
    simp [chk, sameC, keysC, h]
  unfold doP doR
  rw [hc]
  rfl
end Reads
set_option maxHeartbeats 16000000 in
set_option maxRecDepth 100000 in
theorem reads_law (w : World) (hv : Vars w) (key value : ByteArray) (exp later : Int) (A0 : Option Addr) (l0 : List ActT) (c0 : Nat) (hc0 : l0.length ≤ c0) (hC0 : kAct.C w A0 l0.length l0) (hQ : ∀ x ∈ l0, actQ x) :
    Calls Tryd.prog 7 #[.string key, .string value, .int .i64 exp, .int .i64 later, .slice A0 l0.length c0] w fun e w' => e = .returned (.bool true) ∧ Below w.heap.size w w' := by
  have HV := Aside0.mk hv
  have HC0 := Aside0.mk hC0
  have HQ := Aside0.mk hQ
  clear hv hC0 hQ
  have hpre : ∀ Q : World → Prop, (∀ v0 g b, Lw w v0 g b 0 (fun _ => none) 0 → Q v0) → True := fun _ _ => trivial
  clear hpre
  go_enter Tryd.func7, Tryd.ntmps7
  go_wp2_with fail
  refine (works_calls w HV.out).mono ?_
  rintro e v ⟨rfl, hb⟩
  have BV := Aside0.mk hb
  clear hb
  go_wp2_with fail
  refine (New_calls v).mono ?_
  rintro e v0 ⟨g, b, rfl, hA0, hg, hb, hb0⟩
  have L0 := Aside0.mk (Lw.mk (w0 := w) hA0 (BV.out.trans (hb0.mono BV.out.size)) (Nat.le_trans BV.out.size hg) (Nat.le_trans BV.out.size hb))
  clear hA0 hb0 hg hb
  by_cases hv2 : 2000 < value.size
  · have hv2i : (2000 : Int) < (value.size : Int) := by omega
    go_wp2
    go_ret
    exact ⟨rfl, L0.out.bel⟩
  have hv2i : ¬ (2000 : Int) < (value.size : Int) := by omega
  by_cases hk1 : 100 < key.size
  · have hk1i : (100 : Int) < (key.size : Int) := by omega
    go_wp2
    go_ret
    exact ⟨rfl, L0.out.bel⟩
  have hk1i : ¬ (100 : Int) < (key.size : Int) := by omega
  go_upto_region 7 with fail
  obtain ⟨ex, hex, ex0, ex1⟩ : ∃ ex, wrap64 ((IntKind.u64.wrap exp).tmod 100) = ex ∧ 0 ≤ ex ∧ ex ≤ 99 := by
    refine ⟨_, rfl, ?_, ?_⟩ <;> (rw [IntKind.wrap_u64, Int.tmod_eq_emod_of_nonneg (Int.emod_nonneg _ (by decide))]; unfold wrap64; omega)
  rw [hex]
  clear hex
  go_wp2_with fail
  refine (set_c v0 key value).mono ?_
  rintro e u1 ⟨rfl, hrow, hbu⟩
  have U1 := Aside0.mk (L0.out.below hbu)
  have N1 : v0.heap.size + 1 ≠ g ∧ v0.heap.size + 1 ≠ b := by have h1 := L0.out.at_.lt; have h2 := L0.out.at_.ltb; omega
  have ROW1 := Lib.hid hrow
  clear hrow hbu
  go_wp2_with fail
  have U1b := Aside0.mk (U1.out.below ((Below.refl _ u1).alloc (Nat.le_refl _) (.cells #[.int .i64 5, .slice (some ⟨v0.heap.size + 1, 0, none⟩) 1 1, .int .u32 0, .int .i64 ex, .string value, .int .u64 0, .int .u64 0, .bool false] 29)))
  have ROW1b := Lib.hid ((Below.heap_alloc u1 (.cells #[.int .i64 5, .slice (some ⟨v0.heap.size + 1, 0, none⟩) 1 1, .int .u32 0, .int .i64 ex, .string value, .int .u64 0, .int .u64 0, .bool false] 29) _ (blk_lt ROW1.out)).trans ROW1.out)
  refine (Do_c _ g b 0 (fun _ => none) 0 ⟨5, [key], 0, ex, value, 0, 0, false⟩ (some ⟨v0.heap.size + 1, 0, none⟩) 1 1000 false (HV.out.below U1b.out.bel) U1b.out.at_ (by decide) (keys_row ROW1b.out (show (1 : Nat) ≤ 100 by decide)) (keys_at ROW1b.out N1.1 N1.2) (Nat.le_refl 1) (Int.le_refl 0)).mono ?_
  rintro e v1 hout
  cases hgood : fnv_Key.is key with
  | false =>
    rw [Reads.bad_set hgood] at hout
    obtain ⟨vs, hvs, rfl, hown, hA, hM⟩ := hout
    obtain rfl := hvs (by show (0 : Int) ≠ 1; decide)
    have L1 := Aside0.mk (U1b.out.mut hA hM)
    have BEL := Aside0.mk (L1.out.bel.alloc L1.out.bel.size (.cells #[.int .i64 0, .slice none 0 0, .int .u64 0] 34))
    clear hvs hown hA hM U1 U1b ROW1 ROW1b N1 L0 hgood
    go_wp2
    go_ret
    exact ⟨rfl, BEL.out⟩
  | true =>
    have hk := good_of hgood
    rw [do_set hk 0 ex value 1000 (show sec 1000 by unfold sec; omega) (show value.size ≤ 2000 by omega)] at hout
    obtain ⟨vs, hvs, rfl, hown, hA, hM⟩ := hout
    obtain rfl := hvs (by show (2 : Int) ≠ 1; decide)
    have L1 := Aside0.mk (U1b.out.mut hA hM)
    have HK := Lib.hid hk
    have NB : v1.heap.size ≠ g ∧ v1.heap.size ≠ b := by have h1 := L1.out.at_.lt; have h2 := L1.out.at_.ltb; omega
    have HS : Aside0 (Reads.Rd w (v1.alloc (.cells #[.int .i64 2, .slice none 0 0, .int .u64 0] 34)) g b v1.heap.size 0 key value ex) := ⟨⟨⟨_, _, L1.out.below ((Below.refl _ v1).alloc (Nat.le_refl _) _), named_put named_none hgood _, (putT_same (fun _ => none) (nm key) (some ⟨value, 0, endsV 1000 ex, (0 + 1) % 18446744073709551616⟩)).trans rfl⟩, heap_alloc_new _ _⟩⟩
    have hBw : w.heap.size ≤ v1.heap.size := L1.out.bel.size
    clear hvs hown hA hM U1 U1b ROW1 ROW1b N1 L0 L1 hgood hk
    go_wp2_with fail
    generalize v1.heap.size = B at HS NB hBw ⊢
    go_loopg [15] l0.length (fun gg v15 wr => ∃ (j : Nat), v15 = .int .i64 j ∧ j ≤ l0.length ∧ j ≤ 30 ∧ l0.length - j ≤ gg ∧ Aside0 (Reads.Rd w wr g b B j key value ex))
    case atStart => exact ⟨0, rfl, Nat.zero_le _, Nat.zero_le _, by omega, HS⟩
    case round =>
      clear HS
      obtain ⟨j, rfl, hj, hj40, hgg, HR⟩ := hrel
      by_cases hlt : j < l0.length ∧ j < 30
      · obtain ⟨hl1, hl40⟩ := hlt
        have hji : (j : Int) < (l0.length : Int) := by omega
        have hj40i : (j : Int) < 30 := by omega
        obtain ⟨x, hx⟩ : ∃ x, l0[j]? = some x := ⟨_, List.getElem?_eq_getElem hl1⟩
        obtain ⟨E, laid, hL, hnamed, hget⟩ := HR.out.st
        obtain ⟨ad, Ak, ck, rfl, hactw⟩ := act_at HC0.out j x hx
        have hact := hactw.below hL.bel
        have hadl : (ad.add (j * 11)).block < w.heap.size := World.block_lt_of_cell? w _ hactw.c0
        have hkw := keysAt_of (g := g) (b := b) hactw.keys hL.hg hL.hb
        have hgw := hL.hg
        have hbw := hL.hb
        clear hactw
        have hQx := HQ.out x (List.mem_of_getElem? hx)
        obtain ⟨kk, hkk⟩ : ∃ kk, kk = cmdOf x := ⟨_, rfl⟩
        have hdl : 0 ≤ kk.delta := by rw [hkk]; exact (wf_u64' hQx.2.2.2.2.2.2).1
        have hkl : kk.keys.length ≤ 9223372036854775807 := by rw [hkk]; exact hQx.2.1.2
        have HACT := Lib.hid hact
        obtain ⟨hkeys, hcap, k0, k1, k2, k3, k4, k5, k6, k7, k8, k9, k10⟩ := hact
        rw [← hkk] at hkeys hcap k0 k1 k2 k3 k4 k5 k6 k7 hkw
        have HKW := Aside0.mk hkw
        obtain ⟨gf, gr, hgreat⟩ := great_is kk hkl
        have HGREAT := Lib.hid hgreat
        have HKEYS := Aside0.mk hkeys
        have L := Aside0.mk hL
        have HGET := Lib.hid hget
        have HNM := Aside0.mk hnamed
        have hcb : 100 * (j + 1) + 1000 < maxLen := by unfold maxLen; omega
        clear hL hget hx hQx hkeys hkk hkw hnamed hgreat hkl
        go_upto_region 16 with fail
        have hT := heap_alloc_new wr (.cells (cmdC kk Ak ck) 29)
        have hb1 := (Below.refl wr.heap.size wr).alloc (Nat.le_refl _) (.cells (cmdC kk Ak ck) 29)
        change Code.wp _ _ _ _ (wr.alloc (.cells (cmdC kk Ak ck) 29))
        obtain ⟨T, hTe⟩ : ∃ T, T = wr.heap.size := ⟨_, rfl⟩
        rw [← hTe] at hT ⊢
        have NT : T ≠ g ∧ T ≠ b := by have h1 := L.out.at_.lt; have h2 := L.out.at_.ltb; omega
        clear hTe
        generalize wr.alloc (.cells (cmdC kk Ak ck) 29) = W at hT hb1 ⊢
        obtain ⟨t0, t1, t2, t3, t4, t5, t6, t7⟩ := cmdCells hT
        have HT := Lib.hid hT
        have HB1 := Aside0.mk hb1
        clear hT hb1 k0 k1 k2 k3 k4 k5 k6 k7 k8 k9 k10
        go_wp2_with fail
        refine (tallboylaw15_Great.calls gf kk.kind Ak ck kk.keys kk.flags kk.exp kk.value kk.cas kk.delta kk.quiet gr _ (Kd.C_below HKEYS.out HB1.out) hcap HGREAT.out).mono ?_
        rintro e W2 ⟨rfl, hb2⟩
        have hbb := HB1.out.trans (hb2.mono HB1.out.size)
        have hHR := HR.out.next hbb
        have hT2 := (hb2.block T (blk_lt HT.out)).trans HT.out
        have hact2 := HACT.out.below hbb
        have HR2 := Aside0.mk hHR
        have L2 := Aside0.mk (L.out.below hbb)
        have HK2 := Aside0.mk (Kd.C_below HKEYS.out hbb)
        have HKA := Aside0.mk (HKW.out.below L2.out.bel)
        have HT2 := Lib.hid hT2
        clear t0 t1 t2 t3 t4 t5 t6 t7
        obtain ⟨t0, t1, t2, t3, t4, t5, t6, t7⟩ := cmdCells hT2
        have k9 := hact2.c9
        have HACT2 := Lib.hid hact2
        clear hb2 hbb hHR hT2 hact2 HACT L HKEYS HT HB1 HR
        cases gr with
        | true =>
          go_wp2
          go_ret
          exact ⟨rfl, L2.out.bel⟩
        | false =>
          have hget0 := Reads.get_now HK.out ex0 ex1 HGET.out
          have HG0 := Lib.hid hget0
          clear hget0
          by_cases h12 : kk.kind = 1 ∨ kk.kind = 2
          · obtain ⟨q1, q2, e1, e2, hqq⟩ : ∃ q1 q2, (kk.kind == 1) = q1 ∧ (kk.kind == 2) = q2 ∧ (q1 = true ∨ q1 = false ∧ q2 = true) := by
              refine ⟨_, _, rfl, rfl, ?_⟩
              rcases h12 with h | h
              · exact .inl (beq_iff_eq.2 h)
              · rw [h]; exact .inr ⟨rfl, rfl⟩
            have H12 := Lib.hid h12
            clear h12
            rcases hqq with rfl | ⟨rfl, rfl⟩
            all_goals
              go_wp2_with fail
              refine (Get_c _ g b _ E laid key 1000 L2.out.at_ (Reads.x0 value ex) true (by rw [HG0.out]; rfl) (by rw [HG0.out]; rfl)).mono ?_
              rintro e w3 ⟨rfl, hb3⟩
              have L3 := Aside0.mk ((L2.out.below hb3).below ((Below.refl _ w3).alloc (Nat.le_refl _) (.cells #[.string value, .int .u32 0, .int .i64 (endsV 1000 ex), .int .u64 1] 39)))
              have hb4 := hb3.alloc hb3.size (.cells #[.string value, .int .u32 0, .int .i64 (endsV 1000 ex), .int .u64 1] 39)
              have hT4 := (hb4.block T (blk_lt HT2.out)).trans HT2.out
              have hP4 := heap_alloc_new w3 (.cells #[.string value, .int .u32 0, .int .i64 (endsV 1000 ex), .int .u64 1] 39)
              have HR4 := Aside0.mk (show (w3.alloc (.cells #[.string value, .int .u32 0, .int .i64 (endsV 1000 ex), .int .u64 1] 39)).heap[B]? = some _ from (hb4.block B (blk_lt HR2.out.was)).trans HR2.out.was)
              have NP : w3.heap.size ≠ g ∧ w3.heap.size ≠ b := by have h1 := L2.out.at_.lt; have h2 := L2.out.at_.ltb; have h3 := hb3.size; omega
              have HT4 := Lib.hid hT4
              have HP4 := Lib.hid hP4
              have HB4 := Aside0.mk hb4
              clear hb3 hb4 hT4 hP4 t0 t1 t2 t3 t4 t5 t6 t7
              unfold Reads.x0
              go_wp2_with fail
              refine (Keys_calls _ g b _ E laid 1000 L3.out.at_ (by omega) HNM.out).mono ?_
              rintro e w5 ⟨vs, ns, hko, rfl, hown, hb5⟩
              obtain ⟨As, cs, rfl⟩ := owns_slice hown
              have L5 := Aside0.mk (L3.out.below hb5)
              have hT5 := (hb5.block T (blk_lt HT4.out)).trans HT4.out
              have HP5 := Lib.hid ((hb5.block w3.heap.size (blk_lt HP4.out)).trans HP4.out)
              have HR5 := Aside0.mk ((hb5.block B (blk_lt HR4.out)).trans HR4.out)
              have HB5 := Aside0.mk (HB4.out.trans (hb5.mono HB4.out.size))
              have HKO := Aside0.mk hko
              obtain ⟨t0, t1, t2, t3, t4, t5, t6, t7⟩ := cmdCells hT5
              clear hown hb5 hT5 hko HT4 HP4 HR4 HB4
              go_wp2_with fail
              refine (Do_c w5 g b _ E laid kk Ak ck 1000 false (HV.out.below L5.out.bel) L5.out.at_ hcb (Kd.C_below HK2.out HB5.out) (HKA.out.below HB5.out) hcap hdl).mono ?_
              rintro e w6 ⟨vs6, hvs6, rfl, hown6, hA6, hM6⟩
              rw [do_reads_same H12.out] at hA6
              have L6 := Aside0.mk (L5.out.mut hA6 hM6)
              have HP6 := Lib.hid (hM6.heap HP5.out NP.1 NP.2)
              have HR6 := Aside0.mk (hM6.heap HR5.out NB.1 NB.2)
              clear hvs6 hown6 hA6 hM6 t0 t1 t2 t3 t4 t5 t6 t7 HP5 HR5 HB5
              go_wp2_with fail
              refine (Get_c _ g b _ E _ key 1000 L6.out.at_ (Reads.x0 value ex) true (by rw [HG0.out]; rfl) (by rw [HG0.out]; rfl)).mono ?_
              rintro e w7 ⟨rfl, hb7⟩
              have hb8 := hb7.alloc hb7.size (.cells #[.string value, .int .u32 0, .int .i64 (endsV 1000 ex), .int .u64 1] 39)
              have L8 := Aside0.mk (L6.out.below hb8)
              have hP8 := (hb8.block w3.heap.size (blk_lt HP6.out)).trans HP6.out
              have HR8 := Aside0.mk ((hb8.block B (blk_lt HR6.out)).trans HR6.out)
              have p0 := fresh_cell hP8 0
              have p1 := fresh_cell hP8 1
              have p2 := fresh_cell hP8 2
              have p3 := fresh_cell hP8 3
              simp only [List.getElem?_toArray, List.getElem?_cons_zero, List.getElem?_cons_succ] at p0 p1 p2 p3
              clear hb7 hb8 hP8 HP6 HR6
              unfold Reads.x0
              go_wp2_with fail
              refine (Keys_calls _ g b _ E _ 1000 L8.out.at_ (by omega) HNM.out).mono ?_
              rintro e w9 ⟨vs9, ns9, hko9, rfl, hown9, hb9⟩
              obtain ⟨As9, cs9, rfl⟩ := owns_slice hown9
              have hle := keys_len hko9 HKO.out
              rw [hle]
              have hfinal : Reads.Rd w w9 g b B (j + 1) key value ex := ⟨⟨E, _, ⟨(L8.out.at_.below hb9).more (by omega), (L8.out.below hb9).bel, hgw, hbw⟩, HNM.out, HGET.out⟩, (hb9.block B (blk_lt HR8.out)).trans HR8.out⟩
              have HFINAL := Aside0.mk hfinal
              clear hfinal hown9 hb9 hko9 hle p0 p1 p2 p3 L8 HR8
              go_wp2
              go_roundg (l0.length - (j + 1))
              case measure => omega
              case rel => exact ⟨j + 1, by go_num, by omega, by omega, by omega, HFINAL⟩
          · have e1 : (kk.kind == 1) = false := beq_eq_false_iff_ne.2 (fun h => h12 (.inl h))
            have e2 : (kk.kind == 2) = false := beq_eq_false_iff_ne.2 (fun h => h12 (.inr h))
            clear h12
            by_cases h15 : kk.kind = 15
            · have e15 : (kk.kind == 15) = true := beq_iff_eq.2 h15
              clear h15
              go_wp2
              go_roundg (l0.length - (j + 1))
              case measure => omega
              case rel => exact ⟨j + 1, by go_num, by omega, by omega, by omega, HR2⟩
            have e15 : (kk.kind == 15) = false := beq_eq_false_iff_ne.2 h15
            have H15 := Lib.hid h15
            clear h15
            by_cases hn1 : ¬ kk.keys.length = 1
            · have en : ((kk.keys.length : Int) != 1) = true := bne_iff_ne.2 (by omega)
              have en2 : ((kk.keys.length : Int) == 1) = false := beq_eq_false_iff_ne.2 (by omega)
              clear hn1
              go_wp2
              go_roundg (l0.length - (j + 1))
              case measure => omega
              case rel => exact ⟨j + 1, by go_num, by omega, by omega, by omega, HR2⟩
            have hn1 := Classical.not_not.1 hn1
            have en : ((kk.keys.length : Int) != 1) = false := by rw [hn1]; rfl
            have en2 : ((kk.keys.length : Int) == 1) = true := by rw [hn1]; rfl
            have hk0n : 0 < kk.keys.length := by omega
            have hk0 : (0 : Int) < (kk.keys.length : Int) := by omega
            obtain ⟨s, hs⟩ : ∃ s, kk.keys = [s] := by
              match hks : kk.keys, hn1 with
              | [s], _ => exact ⟨s, rfl⟩
            obtain ⟨adk, rfl, hcell⟩ := slices_ContainsFunc_string_string.cell HK2.out (Below.refl _ _) 0 s (by rw [hs]; rfl)
            have hcell0 : W2.cell? adk = some (.string s) := by simpa [Addr.add] using hcell
            have HS := Lib.hid hs
            clear hs hn1 hcell
            by_cases hsk : s = key
            · have esk : (s.toList == key.toList) = true := by rw [hsk]; exact beq_self_eq_true _
              clear hsk
              go_wp2
              go_roundg (l0.length - (j + 1))
              case measure => omega
              case rel => exact ⟨j + 1, by go_num, by omega, by omega, by omega, HR2⟩
            have hskl : ¬ s.toList = key.toList := by
              rw [ByteArray.toList_eq, ByteArray.toList_eq]
              intro h
              apply hsk
              cases s
              cases key
              congr 1
              exact Array.toList_inj.1 h
            have esk : (s.toList == key.toList) = false := beq_eq_false_iff_ne.2 hskl
            have hnot : ∀ y ∈ kk.keys, y ≠ key := by
              intro y hy
              rw [HS.out, List.mem_singleton] at hy
              rw [hy]
              exact hsk
            have HNOT := Lib.hid hnot
            clear hskl hsk hnot
            go_upto_region 26 with fail
            have HF := Lib.hid (show _ ∧ _ ∧ _ ∧ _ ∧ _ ∧ _ ∧ _ ∧ _ ∧ _ from ⟨t0, t1, t2, t3, t4, t5, t6, t7, k9⟩)
            have hpg : (ad.add (j * 11)).block ≠ g := by omega
            have hpb : (ad.add (j * 11)).block ≠ b := by omega
            clear t0 t1 t2 t3 t4 t5 t6 t7 k9 hcell0
            go_region_held3 (fun w' => w'.cell? ⟨T, 0, none⟩ = some (.int .i64 kk.kind) ∧ w'.cell? ⟨T, 1, none⟩ = some (.slice (some adk) kk.keys.length ck) ∧ w'.cell? ⟨T, 2, none⟩ = some (.int .u32 kk.flags) ∧ w'.cell? ⟨T, 3, none⟩ = some (.int .i64 kk.exp) ∧ w'.cell? ⟨T, 4, none⟩ = some (.string kk.value) ∧
                w'.cell? ⟨T, 5, none⟩ = some (.int .u64 kk.cas) ∧ w'.cell? ⟨T, 6, none⟩ = some (.int .u64 kk.delta) ∧ w'.cell? ⟨T, 7, none⟩ = some (.bool kk.quiet) ∧ w'.cell? ⟨(ad.add (j * 11)).block, (ad.add (j * 11)).off + 9, none⟩ = some (.bool x.2.2.1))
              ((first | exact HF.out | exact HF3.out))
              (first | (go_at_call 12; refine (Do_c _ g b (100 * (j + 1)) E laid kk (some adk) ck 1000 x.2.2.1 (HV.out.below L2.out.bel.drew) L2.out.at_.drew hcb (Kd.C_drew HK2.out) (HKA.out.below (Below.refl _ _).drew) hcap hdl).mono ?_; rintro e w5 ⟨vs, hvs, rfl, hown, hA5, hM5⟩; have HF3 := Lib.hid (show _ ∧ _ ∧ _ ∧ _ ∧ _ ∧ _ ∧ _ ∧ _ ∧ _ from ⟨hM5.cell HF.out.1 NT.1 NT.2, hM5.cell HF.out.2.1 NT.1 NT.2, hM5.cell HF.out.2.2.1 NT.1 NT.2, hM5.cell HF.out.2.2.2.1 NT.1 NT.2, hM5.cell HF.out.2.2.2.2.1 NT.1 NT.2, hM5.cell HF.out.2.2.2.2.2.1 NT.1 NT.2, hM5.cell HF.out.2.2.2.2.2.2.1 NT.1 NT.2, hM5.cell HF.out.2.2.2.2.2.2.2.1 NT.1 NT.2, hM5.cell HF.out.2.2.2.2.2.2.2.2 hpg hpb⟩)))
            have hfinal : Reads.Rd w w5 g b B (j + 1) key value ex := by
              refine ⟨⟨_, _, ⟨hA5.more (by omega), (L2.out.below (Below.refl _ _).drew).mut hA5 hM5 |>.bel, hgw, hbw⟩, named_do HNM.out _ _ _ _, ?_⟩, hM5.heap HR2.out.was NB.1 NB.2⟩
              rw [do_keep kk 1000 _ E laid key HK.out H15.out HNOT.out]
              exact HGET.out
            have HFINAL := Aside0.mk hfinal
            clear hfinal HF HF3 hown hvs hA5 hM5
            go_wp2
            go_roundg (l0.length - (j + 1))
            case measure => omega
            case rel => exact ⟨j + 1, by go_num, by omega, by omega, by omega, HFINAL⟩
      · obtain ⟨E, laid, hL, hnamed, hget⟩ := HR.out.st
        have L := Aside0.mk hL
        have HGET := Lib.hid hget
        have WAS := Lib.hid HR.out.was
        clear hL hget hnamed HR
        have hfin : (j : Int) < (l0.length : Int) ∧ ¬ (j : Int) < 30 ∨ ¬ (j : Int) < (l0.length : Int) := by omega
        rcases hfin with ⟨hji, hj40i⟩ | hji
        all_goals
          go_upto_region 28 with fail
          obtain ⟨la, hla, la0, la1⟩ : ∃ la, wrap64 (1000 + wrap64 ((IntKind.u64.wrap later).tmod 200)) = 1000 + la ∧ 0 ≤ la ∧ la ≤ 199 := by
            refine ⟨wrap64 ((IntKind.u64.wrap later).tmod 200), ?_, ?_, ?_⟩ <;> (rw [IntKind.wrap_u64, Int.tmod_eq_emod_of_nonneg (Int.emod_nonneg _ (by decide))]; unfold wrap64; omega)
          rw [hla]
          clear hla
          have hexv : wrap64 (1000 + ex) = 1000 + ex := by unfold wrap64; omega
          have hg2 := Reads.get_then HK.out ex0 ex1 la0 la1 HGET.out
          have hca : (0 < ex ∧ ex ≤ la) ∨ (0 < ex ∧ ¬ ex ≤ la) ∨ ¬ 0 < ex := by omega
          rcases hca with ⟨h1, h2⟩ | ⟨h1, h2⟩ | h1
          · have ho : Reads.over ex la = true := by unfold Reads.over; rw [decide_eq_true h1, decide_eq_true h2]; rfl
            rw [ho, if_pos rfl] at hg2
            have d1 : decide (0 < ex) = true := decide_eq_true h1
            have d2 : decide (1000 + ex ≤ 1000 + la) = true := decide_eq_true (by omega)
            have i2 : 1000 + ex ≤ 1000 + la := by omega
            have d3 : decide (ex ≤ la) = true := decide_eq_true h2
            clear ho
            go_wp2_with fail
            refine (Get_c _ g b _ E _ key (1000 + la) L.out.at_ Ent.z false (by rw [hg2]; rfl) (by rw [hg2]; rfl)).mono ?_
            rintro e v3 ⟨rfl, hb3⟩
            have L3 := Aside0.mk (L.out.below hb3)
            have hwas := (Below.heap_alloc v3 (.cells #[.string ⟨#[]⟩, .int .u32 0, .int .i64 0, .int .u64 0] 39) B (blk_lt ((hb3.block _ (blk_lt WAS.out)).trans WAS.out))).trans ((hb3.block _ (blk_lt WAS.out)).trans WAS.out)
            have BEL := Aside0.mk (L3.out.bel.alloc L3.out.bel.size (.cells #[.string ⟨#[]⟩, .int .u32 0, .int .i64 0, .int .u64 0] 39))
            have b0 := fresh_cell hwas 0
            simp only [List.getElem?_toArray, List.getElem?_cons_zero, List.getElem?_cons_succ] at b0
            clear hb3 hwas hg2
            unfold Ent.z
            go_wp2
            go_ret
            exact ⟨rfl, BEL.out⟩
          · have ho : Reads.over ex la = false := by unfold Reads.over; rw [decide_eq_true h1, decide_eq_false h2]; rfl
            rw [ho, if_neg Bool.false_ne_true] at hg2
            have d1 : decide (0 < ex) = true := decide_eq_true h1
            have d2 : decide (1000 + ex ≤ 1000 + la) = false := decide_eq_false (by omega)
            have i2 : ¬ 1000 + ex ≤ 1000 + la := by omega
            have d3 : decide (ex ≤ la) = false := decide_eq_false h2
            clear ho
            go_wp2_with fail
            refine (Get_c _ g b _ E _ key (1000 + la) L.out.at_ (Reads.x0 value ex) true (by rw [hg2]; rfl) (by rw [hg2]; rfl)).mono ?_
            rintro e v3 ⟨rfl, hb3⟩
            have L3 := Aside0.mk (L.out.below hb3)
            have hwas := (Below.heap_alloc v3 (.cells #[.string value, .int .u32 0, .int .i64 (endsV 1000 ex), .int .u64 1] 39) B (blk_lt ((hb3.block _ (blk_lt WAS.out)).trans WAS.out))).trans ((hb3.block _ (blk_lt WAS.out)).trans WAS.out)
            have BEL := Aside0.mk (L3.out.bel.alloc L3.out.bel.size (.cells #[.string value, .int .u32 0, .int .i64 (endsV 1000 ex), .int .u64 1] 39))
            have b0 := fresh_cell hwas 0
            simp only [List.getElem?_toArray, List.getElem?_cons_zero, List.getElem?_cons_succ] at b0
            clear hb3 hwas hg2
            unfold Reads.x0
            go_wp2
            go_ret
            exact ⟨rfl, BEL.out⟩
          · have ho : Reads.over ex la = false := by unfold Reads.over; rw [decide_eq_false h1]; rfl
            rw [ho, if_neg Bool.false_ne_true] at hg2
            have d1 : decide (0 < ex) = false := decide_eq_false h1
            clear ho
            go_wp2_with fail
            refine (Get_c _ g b _ E _ key (1000 + la) L.out.at_ (Reads.x0 value ex) true (by rw [hg2]; rfl) (by rw [hg2]; rfl)).mono ?_
            rintro e v3 ⟨rfl, hb3⟩
            have L3 := Aside0.mk (L.out.below hb3)
            have hwas := (Below.heap_alloc v3 (.cells #[.string value, .int .u32 0, .int .i64 (endsV 1000 ex), .int .u64 1] 39) B (blk_lt ((hb3.block _ (blk_lt WAS.out)).trans WAS.out))).trans ((hb3.block _ (blk_lt WAS.out)).trans WAS.out)
            have BEL := Aside0.mk (L3.out.bel.alloc L3.out.bel.size (.cells #[.string value, .int .u32 0, .int .i64 (endsV 1000 ex), .int .u64 1] 39))
            have b0 := fresh_cell hwas 0
            simp only [List.getElem?_toArray, List.getElem?_cons_zero, List.getElem?_cons_succ] at b0
            clear hb3 hwas hg2
            unfold Reads.x0
            go_wp2
            go_ret
            exact ⟨rfl, BEL.out⟩
end Go.Proofs.YtaolblgmpiobeaaDoor.Mdl
end
section
namespace Go.Proofs.YtaolblgmpiobeaaDoor.modelReads
open Go.ChangeShapes Go.WideShapes Go.ChangeAt Go.RowKit
open Go.ChangeMaps (open_string shut_string)

theorem own : ownKnob Tryd.prog.godebug = none := by kernel_rfl
theorem laid_met (os : Os) (args : Array Value) : laidMetH Tryd.prog Rows.modelReadsRow.laid ((World.laidAll Tryd.prog os Rows.modelReadsRow.laid).forCall (fun _ _ => 0) ⟨#[], args, []⟩).memory := by
  rw [MakeChecks.laidMetH_plain _ _ _ (by kernel_rfl)]
  exact laidMet_laidAll _ (by kernel_rfl) (by kernel_rfl)
theorem shaped (os : Os) (args : Array Value) : ((World.laidAll Tryd.prog os Rows.modelReadsRow.laid).forCall (fun _ _ => 0) ⟨#[], args, []⟩).Shaped Tryd.prog :=
  World.shaped_of_ZipB (by kernel_rfl) (by kernel_rfl)
theorem laidOut : laidOutB Tryd.prog = true := by kernel_rfl
theorem star : "*" ++ "errors.errorString" = "*errors.errorString" := by decide
theorem star_row (u : TypeId) (h : Tryd.prog.typeName? 3 u = some "*errors.errorString") : u = 146 :=
  typeName_ptr_named (nm := "errors.errorString") (by rw [star]; kernel_rfl) (by kernel_rfl) (by decide) u (by rw [star]; exact h)
theorem vars_of {W : World} (h : laidMetH Tryd.prog Rows.modelReadsRow.laid W) (hsh : W.ShapedOpen Tryd.prog) : Vars W := by
  rw [MakeChecks.laidMetH_plain _ _ _ (by kernel_rfl)] at h
  obtain ⟨a0, s0, h0, -, -, -⟩ := laid_sentinel h.tail.tail.tail.tail gRange (ti := 88) (by kernel_rfl) Tryd.underlying88 star_row Tryd.underlying146 Tryd.underlying148 rfl rfl Tryd.underlying9 (by kernel_rfl) (by kernel_rfl)
  obtain ⟨a1, s1, h1, -, -, -⟩ := laid_sentinel h.tail.tail.tail.tail.tail gSyntax (ti := 88) (by kernel_rfl) Tryd.underlying88 star_row Tryd.underlying146 Tryd.underlying148 rfl rfl Tryd.underlying9 (by kernel_rfl) (by kernel_rfl)
  exact ⟨trivial, Lib.tabIs_of_head gPow (by kernel_rfl) Tryd.underlying141 Tryd.underlying22 (by kernel_rfl) (by kernel_rfl) h.tail.tail,
    cell_of_shapedOpen_int (P := Tryd.prog) (g := 0) (t := 3) (zero := #[.int .i64 0]) hsh (of_decide_eq_true (by kernel_rfl)) (by kernel_rfl) rfl (by kernel_rfl) (by kernel_rfl) Tryd.underlying3, ⟨_, _, h1⟩, ⟨_, _, h0⟩⟩
theorem wf_u64 {n : Int} (h : (Lit.int .u64 n).wf = true) : 0 ≤ n ∧ n < 18446744073709551616 := by
  simp [Lit.wf, IntKind.min, IntKind.max, IntKind.signed, IntKind.bits] at h
  omega
theorem wf_i64 {n : Int} (h : (Lit.int .i64 n).wf = true) : -9223372036854775808 ≤ n ∧ n ≤ 9223372036854775807 := by
  simp [Lit.wf, IntKind.min, IntKind.max, IntKind.signed, IntKind.bits] at h
  omega
open Go.Proofs.YtaolblgmpiobeaaDoorW.PrintWords in
theorem opens_arg4 : Opens Tryd.prog 48 (Kd.slice 50 Mdl.kAct) (fun xs => (∀ x ∈ xs, Mdl.actQ x) ∧ xs.length ≤ maxLen) := opens_slice Tryd.underlying48 (by kernel_rfl) Mdl.opens_act
set_option maxRecDepth 100000 in
theorem lifted (os : Os) (started : os.Started) (H : Type) (enc : TypeId × Value → H) (F : Stop.Interp) :
    ReturnsInHanded {} Tryd.checked os 7 .any ((OpenSpec.ofChange Rows.modelReadsSpec).preRow enc Tryd.prog Tryd.f7 Rows.modelReadsRow.domain false Rows.modelReadsRow.laid) (((OpenSpec.ofChange Rows.modelReadsSpec).at F).post enc Tryd.prog Tryd.f7 false true false false) := by
  refine returnsInHanded_of_row (C := Tryd.checked) (s := OpenSpec.ofChange Rows.modelReadsSpec) own started (by kernel_rfl) Tryd.func7
    (ChangeSpec.witness_shaped (enc := enc) (C := Tryd.checked) (os := os) (s := Rows.modelReadsSpec) (X := fun w _ => laidMetH Tryd.prog Rows.modelReadsRow.laid w) false (World.laidAll Tryd.prog os Rows.modelReadsRow.laid) #[.string ByteArray.empty, .string ByteArray.empty, .int .i64 0, .int .i64 0, .slice none 0 0] 8 (World.laidAll_os _ _ _)
      (shaped os _) (by kernel_rfl) (by kernel_rfl) (by kernel_rfl) (laid_met os _)) ?_
  intro W base args ds gs before hval0 hW _ _ hsz0 hL hsh _
  have hsz : (DataW.weightsEach Tryd.prog (Tryd.f7.params.toList ++ Rows.modelReadsSpec.plain.varTypes Tryd.prog) (ds ++ gs)).all (· ≤ reachBytes) = true := hsz0
  have hval : ∀ (j : Nat) t v, Tryd.f7.params[j]? = some t → args[j]? = some v → Value.okWide Tryd.prog W .any base t v := hval0
  have hW' := hW
  obtain ⟨p, q, hA0, hV, rfl, hfz, hnd⟩ := hW
  have hA : DataW.TrodAll enc Tryd.prog W 0 (fun _ => true) true Tryd.f7.params.toList args.toList ds p := hA0
  rw [Tryd.params7] at hA hval hsz
  obtain ⟨v0, vs0, d0, ds0, p0, q0, hargs, rfl, rfl, h0, r0⟩ := trodAll_cons hA
  obtain ⟨v1, vs1, d1, ds1, p1, q1, rfl, rfl, rfl, h1, r1⟩ := trodAll_cons r0
  obtain ⟨v2, vs2, d2, ds2, p2, q2, rfl, rfl, rfl, h2, r2⟩ := trodAll_cons r1
  obtain ⟨v3, vs3, d3, ds3, p3, q3, rfl, rfl, rfl, h3, r3⟩ := trodAll_cons r2
  obtain ⟨v4, vs4, d4, ds4, p4, q4, rfl, rfl, rfl, h4, r4⟩ := trodAll_cons r3
  obtain ⟨rfl, rfl, rfl⟩ := trodAll_nil r4
  obtain rfl : args = #[v0, v1, v2, v3, v4] := by cases args; simp_all
  obtain ⟨rfl, rfl⟩ := trodVars_none hV
  have k0 := h0
  have k1 := h1
  have k2 := h2
  have k3 := h3
  have k4 := h4
  have lt0 : ∀ x ∈ p0, x.block < W.heap.size := by obtain ⟨m, hm⟩ := k0; exact DataW.trod_lt m _ _ _ hm
  have lt1 : ∀ x ∈ p1, x.block < W.heap.size := by obtain ⟨m, hm⟩ := k1; exact DataW.trod_lt m _ _ _ hm
  have lt2 : ∀ x ∈ p2, x.block < W.heap.size := by obtain ⟨m, hm⟩ := k2; exact DataW.trod_lt m _ _ _ hm
  have lt3 : ∀ x ∈ p3, x.block < W.heap.size := by obtain ⟨m, hm⟩ := k3; exact DataW.trod_lt m _ _ _ hm
  have lt4 : ∀ x ∈ p4, x.block < W.heap.size := by obtain ⟨m, hm⟩ := k4; exact DataW.trod_lt m _ _ _ hm
  obtain ⟨s0, rfl, rfl, rfl, y0⟩ := open_string Tryd.underlying9 (hval 0 9 v0 rfl rfl) h0
  obtain ⟨s1, rfl, rfl, rfl, y1⟩ := open_string Tryd.underlying9 (hval 1 9 v1 rfl rfl) h1
  obtain ⟨n2, rfl, rfl, rfl, y2⟩ := open_int Tryd.underlying2 (hval 2 2 v2 rfl rfl) h2
  obtain ⟨n3, rfl, rfl, rfl, y3⟩ := open_int Tryd.underlying3 (hval 3 3 v3 rfl rfl) h3
  obtain ⟨A4, m4_, c4, rfl⟩ := okWide_slice Tryd.underlying48 (hval 4 48 v4 rfl rfl)
  obtain ⟨fuel4, hf4⟩ := h4
  obtain ⟨l4, hK4, m4⟩ := opens_arg4 H enc W 0 _ true fuel4 _ _ hf4
  obtain ⟨A4', c4', e4, hc4, hC4⟩ := hK4
  have z4 : Value.slice A4 m4_ c4 = .slice A4' l4.length c4' := List.head_eq_of_cons_eq e4
  injection z4 with z4a z4b z4c
  subst z4a z4b z4c
  have hv : Vars W := vars_of hL hsh
  clear hA0 hval0 hsz0 hsz hval hL hsh
  refine (Mdl.reads_law W hv s0 s1 n2 n3 A4 l4 c4 hc4 hC4 m4.1).mono fun e W' ⟨he, bel⟩ => ?_
  subst he
  exact ⟨_, rfl, _, _, _, [], _, [], hW', trodAll_mk1 (shut_bool Tryd.underlying4 _), (trodAll_cons_mk (Below.trod laidOut (by kernel_rfl) (of_decide_eq_true (by kernel_rfl)) k0 bel lt0) (trodAll_cons_mk (Below.trod laidOut (by kernel_rfl) (of_decide_eq_true (by kernel_rfl)) k1 bel lt1) (trodAll_cons_mk (Below.trod laidOut (by kernel_rfl) (of_decide_eq_true (by kernel_rfl)) k2 bel lt2) (trodAll_cons_mk (Below.trod laidOut (by kernel_rfl) (of_decide_eq_true (by kernel_rfl)) k3 bel lt3) (trodAll_cons_mk (Below.trod laidOut (by kernel_rfl) (of_decide_eq_true (by kernel_rfl)) k4 bel lt4) trodAll_mk0))))), rfl, bel.frame _, fun h => by cases h⟩

theorem said : Rows.ModelReadsSaid :=
  OpenClaim.holds_of_cond 7 Tryd.f7 rfl rfl rfl rfl rfl rfl rfl ⟨rfl, rfl, rfl, rfl, rfl⟩ rfl rfl rfl rfl rfl (by kernel_rfl) Tryd.func7 (by kernel_rfl)
    (of_decide_eq_true (by kernel_rfl)) (by unfold Func.isWrapper; first | (rw [if_pos (by decide +kernel)]; kernel_rfl) | (rw [if_neg (by decide +kernel)]; exact ⟨rfl, rfl⟩))
    (fun os started H enc _ F => by rw [OpenClaim.pre_eq_preRow]; exact lifted os started H enc F)

theorem plain (f : FuncId) (fn : Func) (hf : Tryd.pinned.checked.prog.funcNamed "tallboy/tallboylaw16.ModelReads" = some f) (hfn : Tryd.pinned.checked.prog.funcs[f]? = some fn) :
    true = Tryd.pinned.checked.prog.looks [] ∧ ∀ (j : Nat) t, fn.params[j]? = some t → Tryd.pinned.checked.prog.wantsStandIn t = false := by
  obtain rfl : f = 7 := Option.some.inj ((show Tryd.prog.funcNamed "tallboy/tallboylaw16.ModelReads" = some 7 by kernel_rfl).symm.trans hf) |>.symm
  obtain rfl : fn = Tryd.f7 := (Option.some.inj (Tryd.func7.symm.trans hfn)).symm
  refine ⟨by kernel_rfl, fun j t ht => ?_⟩
  rw [Tryd.params7] at ht
  have hm := Array.mem_of_getElem? ht
  have hall : (Tryd.f7.params.toList.all fun u => !Tryd.prog.wantsStandIn u) = true := by kernel_rfl
  rw [Tryd.params7] at hall
  exact (show Tryd.prog.wantsStandIn t = false by simpa using List.all_eq_true.1 hall t (by simpa using hm))

theorem card : Rows.ModelReadsCardSaid :=
  Claim7.holds_tied_plain_at .later [] _ _ _ _ said (fun _ h => by cases h) (by kernel_rfl) (fun _ h => by cases h) modelReads_row_tie rfl ⟨rfl, rfl⟩ (by kernel_rfl) rfl plain (by kernel_rfl)
end Go.Proofs.YtaolblgmpiobeaaDoor.modelReads
namespace Go.Proofs.YtaolblgmpiobeaaDoor
theorem modelReads_card : Rows.ModelReadsCardSaid := modelReads.card
#print axioms modelReads_card
end Go.Proofs.YtaolblgmpiobeaaDoor
end
