/- Put together by wip/pack.py (this session's own program) out of this session's texts; a kit's tool laid the words and the shelf, of which only what is used stands here. Lean checks it. -/
import Derived.Test.YtfboejlemnfndaaGreatDoorPMo2
import Derived.Deep.DeepCutAuto
import Derived.Below
import Derived.Shelf.SlicesE.Clone
import Derived.Lib.Hide
import Derived.Test.YtfboejlemnfndaaGreatDoorProg
import Derived.WalkKit
import Derived.KernelRfl
import Derived.BigCall
import Derived.Lib.FrozenHead
import Derived.Lib.FrozenHead2
import Derived.Shelf.Strings.Builder1
import Derived.Laws.BitsLemmas
import Derived.Lib.Strings
import Derived.Laws.Strings
import Derived.Lib.ItoaMem
import Derived.Lib.AppendIntMem
section
namespace Go.Proofs.YtfboejlemnfndaaGreatDoor.Srt
open Go.Shelf Go.RowKit Go.Lib Go.Sort
variable {α : Type} [Inhabited α]
structure Told (key : α → Int) (enc : α → List Value) (k g : Nat) (cb : Array Value) (w0 : World) (blk off : Nat) (d0 : Array α) (sz : Nat) : Prop where
  zE : ∀ w, (Go.sizeOf 61).run Tryz.prog w = .ok k w
  R : RowK enc k w0 blk off d0
  hs : d0.size = sz
  hsz : sz < 4611686018427387904
  cf : ∃ cf : α → α → Int, CmpLays Tryz.prog g cb enc k cf blk off d0.size w0 ∧ ∀ x y, cf x y < 0 ↔ key x < key y
  eg : ∀ args w, (callFunc g args).run Tryz.prog w = .ok (.enter g args) w

set_option maxHeartbeats 4000000 in
set_option maxRecDepth 1000000 in
theorem symA (key : α → Int) (enc : α → List Value) (k g : Nat) (cb : Array Value) (blk off cap sz : Nat) (d0 d : Array α) (w0 w : World) (P : List α) (x : α) (Y Q : List α)
    (T : Told key enc k g cb w0 blk off d0 sz) (S : SWK enc k w0 blk off d w) (hd : d.toList = P ++ [x] ++ Y ++ Q) (hds : d.size = sz) (hY : 0 < Y.length) (hr : Rising key Y) :
    Calls Tryz.prog 88 #[.slice (some ⟨blk, off, none⟩) sz cap, .int .i64 (P.length : Int), .int .i64 ((P.length : Int) + 1), .int .i64 ((P.length : Int) + 1 + Y.length), .func (.func g) #[] cb] w fun e w' =>
      e = .returned (.tuple #[]) ∧ ∃ (d' : Array α) (Z : List α), Hid (d'.toList = P ++ Z ++ Q) ∧ Aside (SWK enc k w0 blk off d' w') ∧ Hid (Rising key Z ∧ Same key ([x] ++ Y) Z) := by
  have mixed := types.mixed
  have aE := types.aE
  have zE := T.zE
  have uS := types.uS
  obtain ⟨cf, hC, hcf⟩ := T.cf
  have eg := T.eg
  have R := T.R
  have HC : Aside _ := hC
  have HF : Hid (∀ x y, cf x y < 0 ↔ key x < key y) := hcf
  have S0 : Aside (SWK enc k w0 blk off d w) := S
  have HD : Hid (d.toList = P ++ [x] ++ Y ++ Q) := hd
  have HS : Aside (d.size = sz ∧ d.size = d0.size) := ⟨hds, by rw [hds, T.hs]⟩
  have HR : Aside (Rising key Y) := hr
  have hsz := T.hsz
  have hlen : P.length + 1 + Y.length + Q.length = sz := by
    rw [← hds, size_of hd]; simp only [List.length_append, List.length_singleton]
  have hx : d[P.length]! = x := at_mid (A := P) (B := Y ++ Q) (by rw [hd]; simp) rfl
  have HX : Hid (d[P.length]! = x) := hx
  have HYat : Hid (∀ t (ht : t < Y.length), d[P.length + 1 + t]! = Y[t]) := fun t ht => at_part (P := P ++ [x]) (X := Y) (Q := Q) hd ht (by rw [List.length_append, List.length_singleton])
  clear S hd hds hr hC hcf hx
  have w1 : IntKind.i64.wrap ((P.length : Int) + 1 - (P.length : Int)) = 1 := by rw [IntKind.wrap_i64]; omega
  go_enter Tryz.func88, Tryz.ntmps88
  go_wp2
  go_loopg [10, 11] Y.length (fun kx s10 s11 wr => ∃ (i j : Nat), s10 = .int .i64 ((P.length : Int) + 1 + (i : Int)) ∧ s11 = .int .i64 ((P.length : Int) + 1 + (j : Int)) ∧ i ≤ j ∧ j ≤ Y.length ∧ j - i ≤ kx ∧
    Hid (∀ t (ht : t < Y.length), t < i → key Y[t] < key x) ∧ Hid (∀ t (ht : t < Y.length), j ≤ t → key x ≤ key Y[t]) ∧ Aside (SWK enc k w0 blk off d wr))
  case atStart => exact ⟨0, Y.length, by first | rfl | (congr 1; omega), rfl, by omega, by omega, by omega, fun t ht h => absurd h (by omega), fun t ht h => absurd h (by omega), S0⟩
  case round =>
    clear S0 w1
    obtain ⟨i, j, rfl, rfl, hij, hjY, hkx, HI, HJ, S1⟩ := hrel
    by_cases hlt : i < j
    · have hltz : (P.length : Int) + 1 + (i : Int) < (P.length : Int) + 1 + (j : Int) := by omega
      obtain ⟨h, hh⟩ : ∃ h : Nat, h = (i + j) / 2 := ⟨_, rfl⟩
      have eh : ((P.length : Int) + 1 + (i : Int) + ((P.length : Int) + 1 + (j : Int))) / 2 = (P.length : Int) + 1 + (h : Int) := by omega
      have hhY : h < Y.length := by omega
      have hhi : i ≤ h ∧ h < j := by omega
      clear hh
      go_wp2_with fail
      try rw [eh]
      have HH : Aside (i ≤ h ∧ h < j) := hhi
      have HL : Aside (P.length + 1 + Y.length + Q.length = sz) := hlen
      have ea24 : ((P.length : Int) + 1 + (h : Int)).toNat = P.length + 1 + h := by omega
      have pa24 : (0 : Int) ≤ (P.length : Int) + 1 + (h : Int) := by omega
      have ba24 : (P.length : Int) + 1 + (h : Int) < (sz : Int) := by omega
      have ec24 : ((P.length : Int)).toNat = P.length := by omega
      have pc24 : (0 : Int) ≤ (P.length : Int) := by omega
      have bc24 : (P.length : Int) < (sz : Int) := by omega
      have g1 : P.length + 1 + h < d.size := by rw [HS.out.1]; omega
      have g2 : P.length < d.size := by rw [HS.out.1]; omega
      have l24a := S1.out.ld R HS.out.2 Tryz.prog (P.length + 1 + h) g1
      have l24b := S1.out.ld R HS.out.2 Tryz.prog P.length g2
      rw [HYat.out h hhY] at l24a
      rw [HX.out] at l24b
      obtain ⟨y24, hy24⟩ : ∃ y, y = Y[h] := ⟨_, rfl⟩
      rw [← hy24] at l24a
      have hc24 := S1.out.cmp HC.out HS.out.2 y24 x
      have HY24 : Aside (y24 = Y[h]) := hy24
      clear hlen eh hhi hy24 g1 g2
      by_cases hcmp : cf y24 x < 0
      · have hv24 : decide (cf y24 x < 0) = true := decide_eq_true hcmp
        have hk := (HF.out _ _).1 hcmp
        have HK : Aside (key y24 < key x) := hk
        clear hk
        go_wp2_with fail
        go_quiet_grown (first | (go_at_fn g; refine Calls.grown_of (hc24 _ _)))
        have S2 : Aside (SWK enc k w0 blk off d (grow (wr.drewN nq) osq)) := S1.out.grown nq osq
        clear l24a l24b hc24 S1
        generalize grow (wr.drewN nq) osq = w2 at S2 ⊢
        clear nq osq
        go_wp2
        go_roundg (j - (h + 1))
        case measure => have := HH.out; omega
        case rel =>
          have hhi := HH.out
          refine ⟨h + 1, j, by first | rfl | (congr 1; omega), rfl, by omega, hjY, Nat.le_refl _, ?_, HJ, S2⟩
          intro t ht hth
          have h1 := rising_le HR.out (i := t) (j := h) (by omega) hhY
          have h2 := HK.out
          rw [HY24.out] at h2
          omega
      · have hv24 : decide (cf y24 x < 0) = false := decide_eq_false hcmp
        have hk : ¬ key y24 < key x := fun hk => hcmp ((HF.out _ _).2 hk)
        have HK : Aside (¬ key y24 < key x) := hk
        clear hk
        go_wp2_with fail
        go_quiet_grown (first | (go_at_fn g; refine Calls.grown_of (hc24 _ _)))
        have S2 : Aside (SWK enc k w0 blk off d (grow (wr.drewN nq) osq)) := S1.out.grown nq osq
        clear l24a l24b hc24 S1
        generalize grow (wr.drewN nq) osq = w2 at S2 ⊢
        clear nq osq
        go_wp2
        go_roundg (h - i)
        case measure => have := HH.out; omega
        case rel =>
          have hhi := HH.out
          refine ⟨i, h, rfl, by first | rfl | (congr 1; omega), by omega, by omega, Nat.le_refl _, HI, ?_, S2⟩
          intro t ht hth
          have h1 := rising_le HR.out (i := h) (j := t) hth ht
          have h2 := HK.out
          rw [HY24.out] at h2
          omega
    · have hltz : ¬ (P.length : Int) + 1 + (i : Int) < (P.length : Int) + 1 + (j : Int) := by omega
      obtain rfl : i = j := by omega
      -- the exchanges
      have bi : IntKind.i64.wrap ((P.length : Int) + 1 + (i : Int) - 1) = (P.length : Int) + (i : Int) := by rw [IntKind.wrap_i64]; omega
      have HL : Aside (P.length + 1 + Y.length + Q.length = sz) := hlen
      have HIY : Aside (i ≤ Y.length) := hjY
      clear hlen hij hkx hjY
      go_wp2
      go_loopg [13] i (fun ky s13 wr2 => ∃ (c : Nat) (dk : Array α) (Ya Yb : List α), s13 = .int .i64 ((P.length : Int) + (c : Int)) ∧ Aside (c ≤ i ∧ Ya.length = c ∧ Y = Ya ++ Yb) ∧ i - c ≤ ky ∧ Hid (dk.toList = P ++ Ya ++ [x] ++ Yb ++ Q) ∧ Aside (dk.size = sz ∧ dk.size = d0.size) ∧ Aside (SWK enc k w0 blk off dk wr2))
      case atStart => exact ⟨0, d, [], Y, by first | rfl | (congr 1; omega), (show 0 ≤ i ∧ _ ∧ _ from ⟨by omega, rfl, rfl⟩), by omega, by show d.toList = _; rw [HD.out]; simp, HS, S1⟩
      case round =>
        clear S1
        obtain ⟨c, dk, Ya, Yb, rfl, HCc, hky, HE, HT, S1⟩ := hrel
        by_cases hci : c < i
        · have hciz : (P.length : Int) + (c : Int) < (P.length : Int) + (i : Int) := by omega
          have hY := HCc.out.2.2
          have hYa := HCc.out.2.1
          cases Yb with
          | nil => exfalso; have e := congrArg List.length hY; rw [List.append_nil] at e; have := HIY.out; omega
          | cons y Yb =>
            have hlen : P.length + c + 1 < sz := by have := HL.out; have e := congrArg List.length hY; simp only [List.length_append, List.length_cons] at e; omega
            have b1 : (P.length : Int) + (c : Int) < (sz : Int) ∧ (P.length : Int) + (c : Int) + 1 < (sz : Int) := by omega
            have b2 : P.length + c < dk.size ∧ P.length + c + 1 < dk.size := by rw [HT.out.1]; omega
            have HB2 : Aside (P.length + c < dk.size ∧ P.length + c + 1 < dk.size) := b2
            have HYa : Aside (Ya.length = c) := hYa
            clear hY hYa hlen b2
            have ea44 : ((P.length : Int) + (c : Int)).toNat = P.length + c := by omega
            have pa44 : (0 : Int) ≤ (P.length : Int) + (c : Int) := by omega
            have ba44 := b1.1
            have ec44 : ((P.length : Int) + (c : Int) + 1).toNat = P.length + c + 1 := by omega
            have pc44 : (0 : Int) ≤ (P.length : Int) + (c : Int) + 1 := by omega
            have bc44 := b1.2
            have rc44 : IntKind.i64.wrap ((P.length : Int) + (c : Int) + 1) = (P.length : Int) + (c : Int) + 1 := by rw [IntKind.wrap_i64]; omega
            have S2 : Aside (SWK enc k w0 blk off (swp dk (P.length + c) (P.length + c + 1)) ((wr.drew.setCells blk (off + (P.length + c) * k) (enc dk[P.length + c + 1]!)).setCells blk (off + (P.length + c + 1) * k) (enc dk[P.length + c]!))) := S1.out.swapped R (P.length + c) (P.length + c + 1) HB2.out.1 HB2.out.2
            have l44a := S1.out.ld1 R HT.out.2 Tryz.prog (P.length + c) HB2.out.1
            have l44b := S1.out.ld1 R HT.out.2 Tryz.prog (P.length + c + 1) HB2.out.2
            have s44a := S1.out.st1 R HT.out.2 Tryz.prog (P.length + c) HB2.out.1 dk[P.length + c + 1]!
            have s44b := S1.out.st2 R HT.out.2 Tryz.prog (P.length + c) (P.length + c + 1) HB2.out.1 HB2.out.2 dk[P.length + c + 1]! dk[P.length + c]!
            have n44a : (enc dk[P.length + c]!).length = k := R.hk _
            have n44b : (enc dk[P.length + c + 1]!).length = k := R.hk _
            generalize enc dk[P.length + c]! = cI44 at S2 l44a s44b n44a
            generalize enc dk[P.length + c + 1]! = cJ44 at S2 l44b s44a s44b n44b
            clear S1 b1
            go_wp2_with fail
            go_big_region_o
            clear l44a l44b s44a s44b
            generalize (wr.drew.setCells blk (off + (P.length + c) * k) cJ44).setCells blk (off + (P.length + c + 1) * k) cI44 = w2 at S2 ⊢
            go_wp2
            go_roundg (i - (c + 1))
            case measure => omega
            case rel =>
              have hsw := (swp_list (A := P ++ Ya) (B := []) (C := Yb ++ Q) (x := x) (y := y) (d := dk) (by rw [HE.out]; simp) (i := P.length + c) (j := P.length + c + 1) (by rw [List.length_append, HYa.out]) (by simp)).1
              refine ⟨c + 1, _, Ya ++ [y], Yb, by first | rfl | (congr 1; omega), (show c + 1 ≤ i ∧ _ ∧ _ from ⟨by omega, by rw [List.length_append, HYa.out]; rfl, by rw [HCc.out.2.2]; simp⟩), Nat.le_refl _, ?_, (show _ ∧ _ from ⟨by rw [size_swp]; exact HT.out.1, by rw [size_swp]; exact HT.out.2⟩), S2⟩
              show _ = _
              rw [hsw]
              simp
        · have hciz : ¬ (P.length : Int) + (c : Int) < (P.length : Int) + (i : Int) := by omega
          go_wp2
          (try simp only [Exit.inBlock, Exit.then]); refine bodyPost_ret (results_none rfl _ _ _) rfl ?_
          have hc1 := HCc.out.1
          obtain rfl : c = i := by omega
          have hY := HCc.out.2.2
          have hYa := HCc.out.2.1
          refine ⟨rfl, dk, Ya ++ x :: Yb, ?_, S1, ?_⟩
          · show _ = _
            rw [HE.out]; simp
          · show _ ∧ _
            have hr := HR.out
            have hI := HI.out
            have hJ := HJ.out
            clear HI HJ HR HYat
            subst hY
            have := put_first (x := x) hr (fun z hz => ?_) (fun z hz => ?_)
            · simpa using this
            · obtain ⟨t, ht, rfl⟩ := List.getElem_of_mem hz
              have h1 := hI t (by rw [List.length_append]; omega) (by omega)
              rw [List.getElem_append_left ht] at h1
              exact h1
            · obtain ⟨t, ht, rfl⟩ := List.getElem_of_mem hz
              have h1 := hJ (c + t) (by rw [List.length_append]; omega) (by omega)
              rw [List.getElem_append_right (by omega)] at h1
              simpa [hYa] using h1
end Go.Proofs.YtfboejlemnfndaaGreatDoor.Srt
end
section
namespace Go.Proofs.YtfboejlemnfndaaGreatDoor.Srt
open Go.Shelf Go.RowKit Go.Lib Go.Sort
variable {α : Type} [Inhabited α]

set_option maxHeartbeats 4000000 in
set_option maxRecDepth 1000000 in
theorem symB (key : α → Int) (enc : α → List Value) (k g : Nat) (cb : Array Value) (blk off cap sz : Nat) (d0 d : Array α) (w0 w : World) (P : List α) (X : List α) (y : α) (Q : List α)
    (T : Told key enc k g cb w0 blk off d0 sz) (S : SWK enc k w0 blk off d w) (hd : d.toList = P ++ X ++ [y] ++ Q) (hds : d.size = sz) (hX : 1 < X.length) (hr : Rising key X) :
    Calls Tryz.prog 88 #[.slice (some ⟨blk, off, none⟩) sz cap, .int .i64 (P.length : Int), .int .i64 ((P.length : Int) + X.length), .int .i64 ((P.length : Int) + X.length + 1), .func (.func g) #[] cb] w fun e w' =>
      e = .returned (.tuple #[]) ∧ ∃ (d' : Array α) (Z : List α), Hid (d'.toList = P ++ Z ++ Q) ∧ Aside (SWK enc k w0 blk off d' w') ∧ Hid (Rising key Z ∧ Same key (X ++ [y]) Z) := by
  have mixed := types.mixed
  have aE := types.aE
  have zE := T.zE
  have uS := types.uS
  obtain ⟨cf, hC, hcf⟩ := T.cf
  have eg := T.eg
  have R := T.R
  have HC : Aside _ := hC
  have HF : Hid (∀ x y, cf x y < 0 ↔ key x < key y) := hcf
  have S0 : Aside (SWK enc k w0 blk off d w) := S
  have HD : Hid (d.toList = P ++ X ++ [y] ++ Q) := hd
  have HS : Aside (d.size = sz ∧ d.size = d0.size) := ⟨hds, by rw [hds, T.hs]⟩
  have HR : Aside (Rising key X) := hr
  have hsz := T.hsz
  have hlen : P.length + X.length + 1 + Q.length = sz := by
    rw [← hds, size_of hd]; simp only [List.length_append, List.length_singleton]
  have hx : d[P.length + X.length]! = y := at_mid (A := P ++ X) (B := Q) (by rw [hd]; simp) (by rw [List.length_append])
  have HX : Hid (d[P.length + X.length]! = y) := hx
  have HXat : Hid (∀ t (ht : t < X.length), d[P.length + t]! = X[t]) := fun t ht => at_part (P := P) (X := X) (Q := [y] ++ Q) (by rw [hd]; simp) ht rfl
  clear S hd hds hr hC hcf hx
  have w1 : IntKind.i64.wrap ((P.length : Int) + (X.length : Int) - (P.length : Int)) = (X.length : Int) := by rw [IntKind.wrap_i64]; omega
  have w2 : IntKind.i64.wrap ((P.length : Int) + (X.length : Int) + 1 - ((P.length : Int) + (X.length : Int))) = 1 := by rw [IntKind.wrap_i64]; omega
  have w3 : ((X.length : Int) == 1) = false := beq_eq_false_iff_ne.2 (by omega)
  go_enter Tryz.func88, Tryz.ntmps88
  go_wp2
  go_loopg [14, 15] X.length (fun kx s14 s15 wr => ∃ (i j : Nat), s14 = .int .i64 ((P.length : Int) + (i : Int)) ∧ s15 = .int .i64 ((P.length : Int) + (j : Int)) ∧ i ≤ j ∧ j ≤ X.length ∧ j - i ≤ kx ∧
    Hid (∀ t (ht : t < X.length), t < i → key X[t] ≤ key y) ∧ Hid (∀ t (ht : t < X.length), j ≤ t → key y < key X[t]) ∧ Aside (SWK enc k w0 blk off d wr))
  case atStart => exact ⟨0, X.length, by first | rfl | (congr 1; omega), by first | rfl | (congr 1; omega), by omega, by omega, by omega, fun t ht h => absurd h (by omega), fun t ht h => absurd h (by omega), S0⟩
  case round =>
    clear S0 w1 w2 w3
    obtain ⟨i, j, rfl, rfl, hij, hjY, hkx, HI, HJ, S1⟩ := hrel
    by_cases hlt : i < j
    · have hltz : (P.length : Int) + (i : Int) < (P.length : Int) + (j : Int) := by omega
      obtain ⟨h, hh⟩ : ∃ h : Nat, h = (i + j) / 2 := ⟨_, rfl⟩
      have eh : ((P.length : Int) + (i : Int) + ((P.length : Int) + (j : Int))) / 2 = (P.length : Int) + (h : Int) := by omega
      have hhY : h < X.length := by omega
      have hhi : i ≤ h ∧ h < j := by omega
      clear hh
      go_wp2_with fail
      try rw [eh]
      have HH : Aside (i ≤ h ∧ h < j) := hhi
      have HL : Aside (P.length + X.length + 1 + Q.length = sz) := hlen
      have ea24 : ((P.length : Int) + (X.length : Int)).toNat = P.length + X.length := by omega
      have pa24 : (0 : Int) ≤ (P.length : Int) + (X.length : Int) := by omega
      have ba24 : (P.length : Int) + (X.length : Int) < (sz : Int) := by omega
      have ec24 : ((P.length : Int) + (h : Int)).toNat = P.length + h := by omega
      have pc24 : (0 : Int) ≤ (P.length : Int) + (h : Int) := by omega
      have bc24 : (P.length : Int) + (h : Int) < (sz : Int) := by omega
      have g1 : P.length + X.length < d.size := by rw [HS.out.1]; omega
      have g2 : P.length + h < d.size := by rw [HS.out.1]; omega
      have l24a := S1.out.ld R HS.out.2 Tryz.prog (P.length + X.length) g1
      have l24b := S1.out.ld R HS.out.2 Tryz.prog (P.length + h) g2
      rw [HX.out] at l24a
      rw [HXat.out h hhY] at l24b
      obtain ⟨x24, hx24⟩ : ∃ x, x = X[h] := ⟨_, rfl⟩
      rw [← hx24] at l24b
      have hc24 := S1.out.cmp HC.out HS.out.2 y x24
      have HY24 : Aside (x24 = X[h]) := hx24
      clear hlen eh hhi hx24 g1 g2
      by_cases hcmp : cf y x24 < 0
      · have hv24 : decide (cf y x24 < 0) = true := decide_eq_true hcmp
        have hk := (HF.out _ _).1 hcmp
        have HK : Aside (key y < key x24) := hk
        clear hk
        go_wp2_with fail
        go_quiet_grown (first | (go_at_fn g; refine Calls.grown_of (hc24 _ _)))
        have S2 : Aside (SWK enc k w0 blk off d (grow (wr.drewN nq) osq)) := S1.out.grown nq osq
        clear l24a l24b hc24 S1
        generalize grow (wr.drewN nq) osq = w2 at S2 ⊢
        clear nq osq
        go_wp2
        go_roundg (h - i)
        case measure => have := HH.out; omega
        case rel =>
          have hhi := HH.out
          refine ⟨i, h, rfl, by first | rfl | (congr 1; omega), by omega, by omega, Nat.le_refl _, HI, ?_, S2⟩
          intro t ht hth
          have h1 := rising_le HR.out (i := h) (j := t) hth ht
          have h2 := HK.out
          rw [HY24.out] at h2
          omega
      · have hv24 : decide (cf y x24 < 0) = false := decide_eq_false hcmp
        have hk : ¬ key y < key x24 := fun hk => hcmp ((HF.out _ _).2 hk)
        have HK : Aside (¬ key y < key x24) := hk
        clear hk
        go_wp2_with fail
        go_quiet_grown (first | (go_at_fn g; refine Calls.grown_of (hc24 _ _)))
        have S2 : Aside (SWK enc k w0 blk off d (grow (wr.drewN nq) osq)) := S1.out.grown nq osq
        clear l24a l24b hc24 S1
        generalize grow (wr.drewN nq) osq = w2 at S2 ⊢
        clear nq osq
        go_wp2
        go_roundg (j - (h + 1))
        case measure => have := HH.out; omega
        case rel =>
          have hhi := HH.out
          refine ⟨h + 1, j, by first | rfl | (congr 1; omega), rfl, by omega, hjY, Nat.le_refl _, ?_, HJ, S2⟩
          intro t ht hth
          have h1 := rising_le HR.out (i := t) (j := h) (by omega) hhY
          have h2 := HK.out
          rw [HY24.out] at h2
          omega
    · have hltz : ¬ (P.length : Int) + (i : Int) < (P.length : Int) + (j : Int) := by omega
      obtain rfl : i = j := by omega
      -- the exchanges
      have HL : Aside (P.length + X.length + 1 + Q.length = sz) := hlen
      have HIY : Aside (i ≤ X.length) := hjY
      clear hlen hij hkx hjY
      go_wp2
      go_loopg [17] (X.length - i) (fun ky s17 wr2 => ∃ (c : Nat) (dk : Array α) (Xb Xc : List α), s17 = .int .i64 ((P.length : Int) + (i : Int) + (c : Int)) ∧ Aside (Xb.length = c ∧ X = X.take i ++ Xb ++ Xc) ∧ c ≤ ky ∧ Hid (dk.toList = P ++ X.take i ++ Xb ++ [y] ++ Xc ++ Q) ∧ Aside (dk.size = sz ∧ dk.size = d0.size) ∧ Aside (SWK enc k w0 blk off dk wr2))
      case atStart =>
        have := HIY.out
        exact ⟨X.length - i, d, X.drop i, [], by first | rfl | (congr 1; omega), (show _ ∧ _ from ⟨by rw [List.length_drop], by rw [List.append_nil, List.take_append_drop]⟩), by omega, by show d.toList = _; rw [HD.out]; simp only [List.append_assoc, List.nil_append]; rw [← List.append_assoc (X.take i), List.take_append_drop], HS, S1⟩
      case round =>
        clear S1
        obtain ⟨c, dk, Xb, Xc, rfl, HCc, hky, HE, HT, S1⟩ := hrel
        cases c with
        | zero =>
          have hciz : ¬ ((P.length : Int) + (i : Int) + ((0 : Nat) : Int)) > (P.length : Int) + (i : Int) := by omega
          go_wp2
          (try simp only [Exit.inBlock, Exit.then]); refine bodyPost_ret (results_none rfl _ _ _) rfl ?_
          have hb := List.length_eq_zero_iff.1 HCc.out.1
          have hXX := HCc.out.2
          have hE := HE.out
          subst hb
          refine ⟨rfl, dk, X.take i ++ y :: Xc, ?_, S1, ?_⟩
          · show _ = _
            rw [hE]; simp
          · show _ ∧ _
            have hr := HR.out
            have hI := HI.out
            have hJ := HJ.out
            have hi := HIY.out
            rw [List.append_nil] at hXX
            have hxc : Xc = X.drop i := by
              have h1 : X.take i ++ Xc = X.take i ++ X.drop i := by rw [← hXX, List.take_append_drop]
              exact List.append_cancel_left h1
            subst hxc
            have := put_last (y := y) (X1 := X.take i) (X2 := X.drop i) (by rw [List.take_append_drop]; exact hr) (fun z hz => ?_) (fun z hz => ?_)
            · rw [List.take_append_drop] at this
              exact this
            · obtain ⟨t, ht, rfl⟩ := List.getElem_of_mem hz
              rw [List.length_take] at ht
              rw [List.getElem_take]
              exact hI t (by omega) (by omega)
            · obtain ⟨t, ht, rfl⟩ := List.getElem_of_mem hz
              rw [List.length_drop] at ht
              rw [List.getElem_drop]
              exact hJ (i + t) (by omega) (by omega)
        | succ c =>
          obtain ⟨Xb', z, rfl⟩ : ∃ A' y, Xb = A' ++ [y] := by
            rcases List.eq_nil_or_concat Xb with rfl | ⟨l, b, rfl⟩
            · have := HCc.out.1; cases this
            · exact ⟨l, b, by simp⟩
          have hciz : ((P.length : Int) + (i : Int) + ((c + 1 : Nat) : Int)) > (P.length : Int) + (i : Int) := by omega
          have hlen : P.length + i + c + 1 < sz := by
            have := size_of HE.out
            rw [HT.out.1] at this
            have e1 := HCc.out.1
            have e2 := HIY.out
            simp only [List.length_append, List.length_take, List.length_singleton] at this e1
            omega
          have b1 : (P.length : Int) + (i : Int) + ((c + 1 : Nat) : Int) < (sz : Int) ∧ (P.length : Int) + (i : Int) + (c : Int) < (sz : Int) := by omega
          have b2 : P.length + i + (c + 1) < dk.size ∧ P.length + i + c < dk.size := by rw [HT.out.1]; omega
          have HB2 : Aside (P.length + i + (c + 1) < dk.size ∧ P.length + i + c < dk.size) := b2
          have HXb : Aside (Xb'.length = c) := by have := HCc.out.1; show _ = _; simpa using this
          clear hlen b2
          have cc : ((c + 1 : Nat) : Int) = (c : Int) + 1 := by omega
          rw [cc] at *
          have ea44 : ((P.length : Int) + (i : Int) + ((c : Int) + 1)).toNat = P.length + i + (c + 1) := by omega
          have pa44 : (0 : Int) ≤ (P.length : Int) + (i : Int) + ((c : Int) + 1) := by omega
          have ba44 := b1.1
          have ec44 : ((P.length : Int) + (i : Int) + (c : Int)).toNat = P.length + i + c := by omega
          have pc44 : (0 : Int) ≤ (P.length : Int) + (i : Int) + (c : Int) := by omega
          have bc44 := b1.2
          have rc44 : IntKind.i64.wrap ((P.length : Int) + (i : Int) + ((c : Int) + 1) - 1) = (P.length : Int) + (i : Int) + (c : Int) := by rw [IntKind.wrap_i64]; omega
          have S2 : Aside (SWK enc k w0 blk off (swp dk (P.length + i + (c + 1)) (P.length + i + c)) ((wr.drew.setCells blk (off + (P.length + i + (c + 1)) * k) (enc dk[P.length + i + c]!)).setCells blk (off + (P.length + i + c) * k) (enc dk[P.length + i + (c + 1)]!))) := S1.out.swapped R (P.length + i + (c + 1)) (P.length + i + c) HB2.out.1 HB2.out.2
          have l44a := S1.out.ld1 R HT.out.2 Tryz.prog (P.length + i + (c + 1)) HB2.out.1
          have l44b := S1.out.ld1 R HT.out.2 Tryz.prog (P.length + i + c) HB2.out.2
          have s44a := S1.out.st1 R HT.out.2 Tryz.prog (P.length + i + (c + 1)) HB2.out.1 dk[P.length + i + c]!
          have s44b := S1.out.st2 R HT.out.2 Tryz.prog (P.length + i + (c + 1)) (P.length + i + c) HB2.out.1 HB2.out.2 dk[P.length + i + c]! dk[P.length + i + (c + 1)]!
          have n44a : (enc dk[P.length + i + (c + 1)]!).length = k := R.hk _
          have n44b : (enc dk[P.length + i + c]!).length = k := R.hk _
          generalize enc dk[P.length + i + (c + 1)]! = cI44 at S2 l44a s44b n44a
          generalize enc dk[P.length + i + c]! = cJ44 at S2 l44b s44a s44b n44b
          clear S1 b1 cc
          go_wp2_with fail
          go_big_region_o
          clear l44a l44b s44a s44b
          generalize (wr.drew.setCells blk (off + (P.length + i + (c + 1)) * k) cJ44).setCells blk (off + (P.length + i + c) * k) cI44 = w2 at S2 ⊢
          go_wp2
          go_roundg c
          case measure => omega
          case rel =>
            have hsw := (swp_list (A := P ++ X.take i ++ Xb') (B := []) (C := Xc ++ Q) (x := z) (y := y) (d := dk) (by rw [HE.out]; simp) (i := P.length + i + c) (j := P.length + i + (c + 1)) (by have := HIY.out; have := HXb.out; simp only [List.length_append, List.length_take]; omega) (by simp; omega)).2
            refine ⟨c, _, Xb', z :: Xc, by first | rfl | (congr 1; omega), (show _ ∧ _ from ⟨HXb.out, by have := HCc.out.2; simpa using this⟩), Nat.le_refl _, ?_, (show _ ∧ _ from ⟨by rw [size_swp]; exact HT.out.1, by rw [size_swp]; exact HT.out.2⟩), S2⟩
            show _ = _
            rw [hsw]
            simp
end Go.Proofs.YtfboejlemnfndaaGreatDoor.Srt
end
section
namespace Go.Proofs.YtfboejlemnfndaaGreatDoor.Srt
open Go.Shelf Go.RowKit Go.Lib Go.Sort
variable {α : Type} [Inhabited α]
def Merges (key : α → Int) (enc : α → List Value) (k g : Nat) (cb : Array Value) (blk off cap sz : Nat) (w0 : World) (n : Nat) : Prop :=
  ∀ (a m b : Int) (d : Array α) (w : World) (P X Y Q : List α), SWK enc k w0 blk off d w → d.toList = P ++ X ++ Y ++ Q → d.size = sz → 0 < X.length → 0 < Y.length → Rising key X → Rising key Y → X.length + Y.length ≤ n →
    a = P.length → m = (P.length : Int) + X.length → b = (P.length : Int) + X.length + Y.length →
    Calls Tryz.prog 88 #[.slice (some ⟨blk, off, none⟩) sz cap, .int .i64 a, .int .i64 m, .int .i64 b, .func (.func g) #[] cb] w fun e w' =>
      e = .returned (.tuple #[]) ∧ ∃ (d' : Array α) (Z : List α), Hid (d'.toList = P ++ Z ++ Q) ∧ Aside (SWK enc k w0 blk off d' w') ∧ Hid (Rising key Z ∧ Same key (X ++ Y) Z)

omit [Inhabited α] in
theorem parts_ok {key : α → Int} {X Y : List α} {kx ky : Nat → Int} (HKX : ∀ t (ht : t < X.length), kx t = key X[t]) (HKY : ∀ t (ht : t < Y.length), ky t = key Y[t]) (HRX : ∀ i j, i ≤ j → j < X.length → kx i ≤ kx j) (HRY : ∀ i j, i ≤ j → j < Y.length → ky i ≤ ky j)
    {u s : Nat} (h1 : u - Y.length ≤ s) (h2 : s ≤ min u X.length) (HI : ∀ c, u - Y.length ≤ c → c < s → kx c ≤ ky (u - 1 - c)) (HJ : ∀ c, s ≤ c → c < min u X.length → ky (u - 1 - c) < kx c) :
    (∀ x ∈ X.drop s, ∀ y ∈ Y.take (u - s), key y < key x) ∧ (∀ x ∈ X.take s, ∀ y ∈ Y.drop (u - s), key x ≤ key y) := by
  refine ⟨fun x hx y hy => ?_, fun x hx y hy => ?_⟩
  · obtain ⟨t, ht, rfl⟩ := List.getElem_of_mem hx
    obtain ⟨q, hq, rfl⟩ := List.getElem_of_mem hy
    rw [List.length_drop] at ht
    rw [List.length_take] at hq
    rw [List.getElem_drop, List.getElem_take, ← HKX (s + t) (by omega), ← HKY q (by omega)]
    have a1 := HJ s (Nat.le_refl _) (by omega)
    have a2 := HRX s (s + t) (by omega) (by omega)
    have a3 := HRY q (u - 1 - s) (by omega) (by omega)
    omega
  · obtain ⟨t, ht, rfl⟩ := List.getElem_of_mem hx
    obtain ⟨q, hq, rfl⟩ := List.getElem_of_mem hy
    rw [List.length_take] at ht
    rw [List.length_drop] at hq
    rw [List.getElem_take, List.getElem_drop, ← HKX t (by omega), ← HKY (u - s + q) (by omega)]
    have a1 := HI (s - 1) (by omega) (by omega)
    rw [show u - 1 - (s - 1) = u - s from by omega] at a1
    have a2 := HRX t (s - 1) (by omega) (by omega)
    have a3 := HRY (u - s) (u - s + q) (by omega) (by omega)
    omega

set_option maxHeartbeats 4000000 in
set_option maxRecDepth 1000000 in
theorem symC (key : α → Int) (enc : α → List Value) (k g : Nat) (cb : Array Value) (blk off cap sz : Nat) (d0 d : Array α) (w0 w : World) (P X Y Q : List α) (N : Nat)
    (T : Told key enc k g cb w0 blk off d0 sz) (IH : Merges key enc k g cb blk off cap sz w0 N) (S : SWK enc k w0 blk off d w) (hd : d.toList = P ++ X ++ Y ++ Q) (hds : d.size = sz) (hX : 1 < X.length) (hY : 1 < Y.length) (hrX : Rising key X) (hrY : Rising key Y) (hN : X.length + Y.length ≤ N + 1) :
    Calls Tryz.prog 88 #[.slice (some ⟨blk, off, none⟩) sz cap, .int .i64 (P.length : Int), .int .i64 ((P.length : Int) + X.length), .int .i64 ((P.length : Int) + X.length + Y.length), .func (.func g) #[] cb] w fun e w' =>
      e = .returned (.tuple #[]) ∧ ∃ (d' : Array α) (Z : List α), Hid (d'.toList = P ++ Z ++ Q) ∧ Aside (SWK enc k w0 blk off d' w') ∧ Hid (Rising key Z ∧ Same key (X ++ Y) Z) := by
  have mixed := types.mixed
  have aE := types.aE
  have zE := T.zE
  have uS := types.uS
  obtain ⟨cf, hC, hcf⟩ := T.cf
  have eg := T.eg
  have R := T.R
  have HC : Aside _ := hC
  have HF : Hid (∀ x y, cf x y < 0 ↔ key x < key y) := hcf
  have S0 : Aside (SWK enc k w0 blk off d w) := S
  have HD : Hid (d.toList = P ++ X ++ Y ++ Q) := hd
  have HS : Aside (d.size = sz ∧ d.size = d0.size) := ⟨hds, by rw [hds, T.hs]⟩
  have HR : Aside (Rising key X ∧ Rising key Y) := ⟨hrX, hrY⟩
  have HIH : Aside (Merges key enc k g cb blk off cap sz w0 N) := IH
  have hsz := T.hsz
  have hlen : P.length + X.length + Y.length + Q.length = sz := by
    rw [← hds, size_of hd]; simp only [List.length_append]
  have hXat : ∀ t (ht : t < X.length), d[P.length + t]! = X[t] := fun t ht => at_part (P := P) (X := X) (Q := Y ++ Q) (by rw [hd]; simp) ht rfl
  have hYat : ∀ t (ht : t < Y.length), d[P.length + X.length + t]! = Y[t] := fun t ht => at_part (P := P ++ X) (X := Y) (Q := Q) (by rw [hd]) ht (by rw [List.length_append])
  obtain ⟨kx, hkx⟩ : ∃ f : Nat → Int, ∀ t, f t = key d[P.length + t]! := ⟨_, fun _ => rfl⟩
  obtain ⟨ky, hky⟩ : ∃ f : Nat → Int, ∀ t, f t = key d[P.length + X.length + t]! := ⟨_, fun _ => rfl⟩
  have hkX : ∀ t (ht : t < X.length), kx t = key X[t] := fun t ht => by rw [hkx, hXat t ht]
  have hkY : ∀ t (ht : t < Y.length), ky t = key Y[t] := fun t ht => by rw [hky, hYat t ht]
  have HRX : Hid (∀ i j, i ≤ j → j < X.length → kx i ≤ kx j) := fun i j hij hj => by rw [hkX i (by omega), hkX j hj]; exact rising_le hrX hij hj
  have HRY : Hid (∀ i j, i ≤ j → j < Y.length → ky i ≤ ky j) := fun i j hij hj => by rw [hkY i (by omega), hkY j hj]; exact rising_le hrY hij hj
  have HKX : Hid (∀ t (ht : t < X.length), kx t = key X[t]) := hkX
  have HKY : Hid (∀ t (ht : t < Y.length), ky t = key Y[t]) := hkY
  have HXY : Hid ((∀ t, kx t = key d[P.length + t]!) ∧ ∀ t, ky t = key d[P.length + X.length + t]!) := ⟨hkx, hky⟩
  have HN : Aside (X.length + Y.length ≤ N + 1) := hN
  clear S hd hds hrX hrY hC hcf IH hXat hYat hkx hky hkX hkY hN
  obtain ⟨u, hu⟩ : ∃ u : Nat, u = (X.length + Y.length) / 2 := ⟨_, rfl⟩
  have eu : ((P.length : Int) + ((P.length : Int) + (X.length : Int) + (Y.length : Int))) / 2 = (P.length : Int) + (u : Int) := by omega
  have HU : Aside (u = (X.length + Y.length) / 2) := hu
  have HL : Aside (P.length + X.length + Y.length + Q.length = sz) := hlen
  have hul : u ≤ sz := by omega
  have w1 : IntKind.i64.wrap ((P.length : Int) + (X.length : Int) - (P.length : Int)) = (X.length : Int) := by rw [IntKind.wrap_i64]; omega
  have w2 : IntKind.i64.wrap ((P.length : Int) + (X.length : Int) + (Y.length : Int) - ((P.length : Int) + (X.length : Int))) = (Y.length : Int) := by rw [IntKind.wrap_i64]; omega
  have w3 : ((X.length : Int) == 1) = false := beq_eq_false_iff_ne.2 (by omega)
  have w4 : ((Y.length : Int) == 1) = false := beq_eq_false_iff_ne.2 (by omega)
  have w5 : IntKind.i64.wrap ((P.length : Int) + (u : Int) + ((P.length : Int) + (X.length : Int))) = (P.length : Int) + (u : Int) + ((P.length : Int) + (X.length : Int)) := by rw [IntKind.wrap_i64]; omega
  have b1 : P.length + X.length + Y.length ≤ sz := by omega
  clear hu hlen
  go_enter Tryz.func88, Tryz.ntmps88
  go_upto_if 140 with (fail)
  go_cut [20, 21] (fun v20 v21 wc => v20 = .int .i64 ((P.length : Int) + ((u - Y.length : Nat) : Int)) ∧ v21 = .int .i64 ((P.length : Int) + ((min u X.length : Nat) : Int)) ∧ wc = w)
  case first =>
    as_aux_lemma =>
      have hU := HU.out
      have hl := HL.out
      by_cases hgt : u < X.length
      · have hg : (P.length : Int) + (u : Int) < (P.length : Int) + (X.length : Int) := by omega
        clear hU hl
        go_wp2
        go_meet
        case rel =>
          have hU := HU.out
          have hl := HL.out
          exact ⟨by congr 1; first | omega | (unfold wrap64; omega), by congr 1; omega, rfl⟩
      · have hg : ¬ (P.length : Int) + (u : Int) < (P.length : Int) + (X.length : Int) := by omega
        clear hU hl
        go_wp2
        go_meet
        case rel =>
          have hU := HU.out
          have hl := HL.out
          exact ⟨by congr 1; omega, by congr 1; omega, rfl⟩
  case rest =>
    as_aux_lemma =>
      obtain ⟨rfl, rfl, rfl⟩ := hcut
      have b5 : IntKind.i64.wrap ((P.length : Int) + (u : Int) + ((P.length : Int) + (X.length : Int)) - 1) = (P.length : Int) + (u : Int) + ((P.length : Int) + (X.length : Int)) - 1 := by rw [IntKind.wrap_i64]; omega
      have hmu : u - Y.length ≤ min u X.length := by have := HU.out; omega
      clear w1 w2 w3 w4 w5 eu
      go_wp2
      go_loopg [20, 21] (min u X.length) (fun gx v20 v21 wr => ∃ (s r : Nat), v20 = .int .i64 ((P.length : Int) + (s : Int)) ∧ v21 = .int .i64 ((P.length : Int) + (r : Int)) ∧ u - Y.length ≤ s ∧ s ≤ r ∧ r ≤ min u X.length ∧ r - s ≤ gx ∧
        Hid (∀ c, u - Y.length ≤ c → c < s → kx c ≤ ky (u - 1 - c)) ∧ Hid (∀ c, r ≤ c → c < min u X.length → ky (u - 1 - c) < kx c) ∧ Aside (SWK enc k w0 blk off d wr))
      case atStart => exact ⟨u - Y.length, min u X.length, rfl, rfl, Nat.le_refl _, hmu, Nat.le_refl _, by omega, fun c h1 h2 => absurd h1 (by omega), fun c h1 h2 => absurd h1 (by omega), S0⟩
      case round =>
        as_aux_lemma =>
          clear S0 b5 hmu
          obtain ⟨s, r, rfl, rfl, hs0, hsr, hr0, hgx, HI, HJ, S1⟩ := hrel
          by_cases hlt : s < r
          · have hltz : (P.length : Int) + (s : Int) < (P.length : Int) + (r : Int) := by omega
            obtain ⟨c, hc⟩ : ∃ c : Nat, c = (s + r) / 2 := ⟨_, rfl⟩
            have ec : ((P.length : Int) + (s : Int) + ((P.length : Int) + (r : Int))) / 2 = (P.length : Int) + (c : Int) := by omega
            obtain ⟨t, ht⟩ : ∃ t : Nat, t = u - 1 - c := ⟨_, rfl⟩
            have hcs : s ≤ c ∧ c < r := by omega
            have htY : t < Y.length := by omega
            have hcX : c < X.length := by omega
            have bp : IntKind.i64.wrap ((P.length : Int) + (u : Int) + ((P.length : Int) + (X.length : Int)) - 1 - ((P.length : Int) + (c : Int))) = (P.length : Int) + (X.length : Int) + (t : Int) := by rw [IntKind.wrap_i64]; omega
            have HT : Aside (t = u - 1 - c) := ht
            have HH : Aside (s ≤ c ∧ c < r ∧ t < Y.length ∧ c < X.length) := ⟨hcs.1, hcs.2, htY, hcX⟩
            have ea24 : ((P.length : Int) + (X.length : Int) + (t : Int)).toNat = P.length + X.length + t := by omega
            have pa24 : (0 : Int) ≤ (P.length : Int) + (X.length : Int) + (t : Int) := by omega
            have ba24 : (P.length : Int) + (X.length : Int) + (t : Int) < (sz : Int) := by omega
            have ec24 : ((P.length : Int) + (c : Int)).toNat = P.length + c := by omega
            have pc24 : (0 : Int) ≤ (P.length : Int) + (c : Int) := by omega
            have bc24 : (P.length : Int) + (c : Int) < (sz : Int) := by omega
            have g1 : P.length + X.length + t < d.size := by rw [HS.out.1]; omega
            have g2 : P.length + c < d.size := by rw [HS.out.1]; omega
            clear hc ht hcs htY hcX
            go_wp2_with fail
            have l24a := S1.out.ld R HS.out.2 Tryz.prog (P.length + X.length + t) g1
            have l24b := S1.out.ld R HS.out.2 Tryz.prog (P.length + c) g2
            obtain ⟨y24, hy24⟩ : ∃ y, y = d[P.length + X.length + t]! := ⟨_, rfl⟩
            obtain ⟨x24, hx24⟩ : ∃ x, x = d[P.length + c]! := ⟨_, rfl⟩
            rw [← hy24] at l24a
            rw [← hx24] at l24b
            have HK24 : Aside (kx c = key x24 ∧ ky t = key y24) := ⟨by rw [HXY.out.1, hx24], by rw [HXY.out.2, hy24]⟩
            have hc24 := S1.out.cmp HC.out HS.out.2 y24 x24
            clear ec hy24 hx24 g1 g2
            by_cases hcmp : cf y24 x24 < 0
            · have hv24 : decide (cf y24 x24 < 0) = true := decide_eq_true hcmp
              have hk := (HF.out _ _).1 hcmp
              have HK : Aside (key y24 < key x24) := hk
              clear hk
              go_quiet_grown (first | (go_at_fn g; refine Calls.grown_of (hc24 _ _)))
              have S2 : Aside (SWK enc k w0 blk off d (grow (wr.drewN nq) osq)) := S1.out.grown nq osq
              clear l24a l24b hc24 S1
              generalize grow (wr.drewN nq) osq = w2 at S2 ⊢
              clear nq osq bp
              go_wp2
              go_roundg (c - s)
              case measure => have := HH.out; omega
              case rel =>
                have hh := HH.out
                refine ⟨s, c, rfl, by first | rfl | (congr 1; omega), hs0, by omega, by omega, Nat.le_refl _, HI, ?_, S2⟩
                intro q hq1 hq2
                have a1 := HK24.out
                have a2 := HK.out
                have a3 := HRX.out c q hq1 (by omega)
                have a4 := HRY.out (u - 1 - q) t (by rw [HT.out]; omega) hh.2.2.1
                omega
            · have hv24 : decide (cf y24 x24 < 0) = false := decide_eq_false hcmp
              have hk : ¬ key y24 < key x24 := fun hk => hcmp ((HF.out _ _).2 hk)
              have HK : Aside (¬ key y24 < key x24) := hk
              clear hk
              go_quiet_grown (first | (go_at_fn g; refine Calls.grown_of (hc24 _ _)))
              have S2 : Aside (SWK enc k w0 blk off d (grow (wr.drewN nq) osq)) := S1.out.grown nq osq
              clear l24a l24b hc24 S1
              generalize grow (wr.drewN nq) osq = w2 at S2 ⊢
              clear nq osq bp
              go_wp2
              go_roundg (r - (c + 1))
              case measure => have := HH.out; omega
              case rel =>
                have hh := HH.out
                refine ⟨c + 1, r, by first | rfl | (congr 1; omega), rfl, by omega, by omega, hr0, Nat.le_refl _, ?_, HJ, S2⟩
                intro q hq1 hq2
                have a1 := HK24.out
                have a2 := HK.out
                have a3 := HRX.out q c (by omega) hh.2.2.2
                have a4 := HRY.out t (u - 1 - q) (by rw [HT.out]; omega) (by omega)
                omega
          · have hltz : ¬ (P.length : Int) + (s : Int) < (P.length : Int) + (r : Int) := by omega
            have hsr2 : s = r := by omega
            have hr0' : s ≤ min u X.length := by omega
            have hok := parts_ok HKX.out HKY.out HRX.out HRY.out hs0 hr0' HI.out (by rw [hsr2]; exact HJ.out)
            have HOK : Aside _ := hok
            obtain ⟨e, he⟩ : ∃ e : Nat, e = u - s := ⟨_, rfl⟩
            have be : IntKind.i64.wrap ((P.length : Int) + (u : Int) + ((P.length : Int) + (X.length : Int)) - ((P.length : Int) + (s : Int))) = (P.length : Int) + (X.length : Int) + (e : Int) := by rw [IntKind.wrap_i64]; omega
            have HE : Aside (u = s + e ∧ e ≤ Y.length ∧ s ≤ X.length) := (show _ ∧ _ ∧ _ from ⟨by omega, by omega, by omega⟩)
            rw [← he] at HOK
            clear hok he hs0 hsr hr0 hgx HI HJ hsr2 hr0' hlt
            go_upto_region 39 with (fail)
            go_cut [185] (fun v185 wc => v185 = .bool (decide (s < X.length) && decide (0 < e)) ∧ wc = wr)
            case first =>
              as_aux_lemma =>
                by_cases h1 : s < X.length
                · have h1z : (P.length : Int) + (s : Int) < (P.length : Int) + (X.length : Int) := by omega
                  by_cases h2 : 0 < e
                  · have h2z : (P.length : Int) + (X.length : Int) < (P.length : Int) + (X.length : Int) + (e : Int) := by omega
                    go_wp2
                    go_meet
                    case rel => exact ⟨by rw [decide_eq_true h1, decide_eq_true h2]; first | rfl | (simp; done) | (simp [h1, h2]), rfl⟩
                  · have h2z : ¬ (P.length : Int) + (X.length : Int) < (P.length : Int) + (X.length : Int) + (e : Int) := by omega
                    go_wp2
                    go_meet
                    case rel => exact ⟨by rw [decide_eq_true h1, decide_eq_false h2]; first | rfl | (simp; done) | (simp [h1, h2]), rfl⟩
                · have h1z : ¬ (P.length : Int) + (s : Int) < (P.length : Int) + (X.length : Int) := by omega
                  go_wp2
                  go_meet
                  case rel => exact ⟨by rw [decide_eq_false h1]; first | rfl | (simp; done) | (simp [h1]), rfl⟩
            case rest =>
              as_aux_lemma =>
                obtain ⟨rfl, rfl⟩ := hcut
                obtain ⟨B1, hB1⟩ : ∃ B : Bool, B = (decide (s < X.length) && decide (0 < e)) := ⟨_, rfl⟩
                have HB1 : Aside (B1 = (decide (s < X.length) && decide (0 < e))) := hB1
                rw [← hB1]
                clear hB1
                go_upto_if 185 with (fail)
                go_cut [] (fun wc => ∃ d1 : Array α, Hid (d1.toList = P ++ X.take s ++ Y.take e ++ X.drop s ++ Y.drop e ++ Q) ∧ Aside (d1.size = sz) ∧ Aside (SWK enc k w0 blk off d1 wc))
                case first =>
                  as_aux_lemma =>
                    cases B1 with
                    | true =>
                      have hb := HB1.out.symm
                      rw [Bool.and_eq_true, decide_eq_true_eq, decide_eq_true_eq] at hb
                      have HBB : Aside (s < X.length ∧ 0 < e) := hb
                      clear hb HB1
                      go_wp2_with fail
                      refine (rotate_c k T.zE enc g cb blk off cap sz _ _ _ d0 d w0 _ (P ++ X.take s) (X.drop s) (Y.take e) (Y.drop e ++ Q) T.R T.hs S1.out (by rw [HD.out]; simp only [List.append_assoc]; rw [← List.append_assoc (X.take s), List.take_append_drop, ← List.append_assoc (Y.take e), List.take_append_drop]) HS.out.1 T.hsz ?_ ?_ ?_ ?_ ?_).mono ?_
                      · have := HE.out; simp only [List.length_append, List.length_take]; omega
                      · have := HE.out; simp only [List.length_append, List.length_take, List.length_drop]; omega
                      · have := HE.out; simp only [List.length_append, List.length_take, List.length_drop]; omega
                      · have := HBB.out; rw [List.length_drop]; omega
                      · have := HBB.out; have := HE.out; rw [List.length_take]; omega
                      · rintro e1 w1 ⟨rfl, d1, hd1, S2⟩
                        go_wp2
                        go_meet
                        case rel =>
                          refine ⟨d1, ?_, ?_, S2⟩
                          · show _ = _
                            rw [hd1.out]; simp only [List.append_assoc]
                          · show _ = _
                            rw [size_of hd1.out, ← HS.out.1, size_of HD.out]
                            have := HE.out
                            simp only [List.length_append, List.length_take, List.length_drop]; omega
                    | false =>
                      have hb := HB1.out.symm
                      rw [Bool.and_eq_false_iff, decide_eq_false_iff_not, decide_eq_false_iff_not] at hb
                      have HBB : Aside (¬ s < X.length ∨ ¬ 0 < e) := hb
                      clear hb HB1
                      go_wp2
                      go_meet
                      case rel =>
                        refine ⟨d, ?_, HS.out.1, S1⟩
                        show _ = _
                        rw [HD.out]
                        have he := HE.out
                        rcases HBB.out with h | h
                        · rw [List.drop_of_length_le (show X.length ≤ s by omega), List.take_of_length_le (show X.length ≤ s by omega)]
                          simp only [List.append_assoc, List.nil_append]
                          rw [← List.append_assoc (Y.take e), List.take_append_drop]
                        · obtain rfl : e = 0 := by omega
                          rw [List.take_zero, List.drop_zero]
                          simp only [List.append_assoc, List.nil_append]
                          rw [← List.append_assoc (X.take s), List.take_append_drop]
                case rest =>
                  as_aux_lemma =>
                    obtain ⟨d1, HD1, HS1, S2⟩ := hcut
                    clear HB1 B1 HD S1 HXY be
                    go_upto_region 41 with (fail)
                    go_cut [199] (fun v199 wc2 => v199 = .bool (decide (0 < s) && decide (0 < e)) ∧ wc2 = wc)
                    case first =>
                      as_aux_lemma =>
                        by_cases h1 : 0 < s
                        · have h1z : (P.length : Int) < (P.length : Int) + (s : Int) := by omega
                          by_cases h2 : 0 < e
                          · have h2z : (P.length : Int) + (s : Int) < (P.length : Int) + (u : Int) := by have := HE.out; omega
                            go_wp2
                            go_meet
                            case rel => exact ⟨by rw [decide_eq_true h1, decide_eq_true h2]; first | rfl | (simp; done) | (simp [h1, h2]), rfl⟩
                          · have h2z : ¬ (P.length : Int) + (s : Int) < (P.length : Int) + (u : Int) := by have := HE.out; omega
                            go_wp2
                            go_meet
                            case rel => exact ⟨by rw [decide_eq_true h1, decide_eq_false h2]; first | rfl | (simp; done) | (simp [h1, h2]), rfl⟩
                        · have h1z : ¬ (P.length : Int) < (P.length : Int) + (s : Int) := by omega
                          go_wp2
                          go_meet
                          case rel => exact ⟨by rw [decide_eq_false h1]; first | rfl | (simp; done) | (simp [h1]), rfl⟩
                    case rest =>
                      as_aux_lemma =>
                        obtain ⟨rfl, rfl⟩ := hcut
                        obtain ⟨B2, hB2⟩ : ∃ B : Bool, B = (decide (0 < s) && decide (0 < e)) := ⟨_, rfl⟩
                        have HB2 : Aside (B2 = (decide (0 < s) && decide (0 < e))) := hB2
                        rw [← hB2]
                        clear hB2
                        go_upto_if 199 with (fail)
                        go_cut [] (fun wc => ∃ (d2 : Array α) (Z1 : List α), Hid (d2.toList = P ++ Z1 ++ X.drop s ++ Y.drop e ++ Q) ∧ Aside (d2.size = sz) ∧ Aside (SWK enc k w0 blk off d2 wc) ∧ Hid (Rising key Z1 ∧ Same key (X.take s ++ Y.take e) Z1))
                        case first =>
                          as_aux_lemma =>
                            cases B2 with
                            | true =>
                              have hb := HB2.out.symm
                              rw [Bool.and_eq_true, decide_eq_true_eq, decide_eq_true_eq] at hb
                              have HBB : Aside (0 < s ∧ 0 < e) := hb
                              clear hb HB2
                              go_wp2_with fail
                              refine (HIH.out _ _ _ d1 _ P (X.take s) (Y.take e) (X.drop s ++ Y.drop e ++ Q) S2.out (by rw [HD1.out]; simp only [List.append_assoc]) HS1.out ?_ ?_ (HR.out.1.sublist (List.take_sublist _ _)) (HR.out.2.sublist (List.take_sublist _ _)) ?_ ?_ ?_ ?_).mono ?_
                              · have := HE.out; have := HBB.out; rw [List.length_take]; omega
                              · have := HE.out; have := HBB.out; rw [List.length_take]; omega
                              · have := HE.out; have := HU.out; have := HN.out; rw [List.length_take, List.length_take]; omega
                              · rfl
                              · have := HE.out; rw [List.length_take]; omega
                              · have := HE.out; rw [List.length_take, List.length_take]; omega
                              · rintro e1 w1 ⟨rfl, d2, Z1, hd2, S3, hz⟩
                                go_wp2
                                go_meet
                                case rel =>
                                  refine ⟨d2, Z1, ?_, ?_, S3, hz⟩
                                  · show _ = _
                                    rw [hd2.out]; simp only [List.append_assoc]
                                  · show _ = _
                                    have hl := hz.out.2.length rfl
                                    rw [size_of hd2.out, ← HS1.out, size_of HD1.out]
                                    have := HE.out
                                    simp only [List.length_append, List.length_take, List.length_drop] at hl ⊢; omega
                            | false =>
                              have hb := HB2.out.symm
                              rw [Bool.and_eq_false_iff, decide_eq_false_iff_not, decide_eq_false_iff_not] at hb
                              have HBB : Aside (¬ 0 < s ∨ ¬ 0 < e) := hb
                              clear hb HB2
                              go_wp2
                              go_meet
                              case rel =>
                                refine ⟨d1, X.take s ++ Y.take e, ?_, HS1, S2, ?_⟩
                                · show _ = _
                                  rw [HD1.out]; simp only [List.append_assoc]
                                · show _ ∧ _
                                  refine ⟨?_, Same.refl _⟩
                                  rcases HBB.out with h | h
                                  · obtain rfl : s = 0 := by omega
                                    rw [List.take_zero, List.nil_append]
                                    exact HR.out.2.sublist (List.take_sublist _ _)
                                  · obtain rfl : e = 0 := by omega
                                    rw [List.take_zero, List.append_nil]
                                    exact HR.out.1.sublist (List.take_sublist _ _)
                        case rest =>
                          as_aux_lemma =>
                            obtain ⟨d2, Z1, HD2, HS2, S3, HZ⟩ := hcut
                            clear HB2 B2 HD1 HS1 S2
                            -- how the whole comes together
                            have hend : ∀ Z2, Rising key Z2 → Same key (X.drop s ++ Y.drop e) Z2 → Rising key (Z1 ++ Z2) ∧ Same key (X ++ Y) (Z1 ++ Z2) := by
                              intro Z2 r2 s2
                              have := merge_parts (X1 := X.take s) (X2 := X.drop s) (Y1 := Y.take e) (Y2 := Y.drop e) (by rw [List.take_append_drop]; exact HR.out.1) (by rw [List.take_append_drop]; exact HR.out.2) HOK.out.1 HOK.out.2 HZ.out.1 HZ.out.2 r2 s2
                              rw [List.take_append_drop, List.take_append_drop] at this
                              exact this
                            have HEND : Aside _ := hend
                            clear hend
                            by_cases h1 : s < X.length
                            · have h1z : (P.length : Int) + (u : Int) < (P.length : Int) + (X.length : Int) + (e : Int) := by have := HE.out; omega
                              by_cases h2 : e < Y.length
                              · have h2z : (P.length : Int) + (X.length : Int) + (e : Int) < (P.length : Int) + (X.length : Int) + (Y.length : Int) := by omega
                                have HH : Aside (s < X.length ∧ e < Y.length) := ⟨h1, h2⟩
                                clear h1 h2
                                go_wp2_with fail
                                refine (HIH.out _ _ _ d2 _ (P ++ Z1) (X.drop s) (Y.drop e) Q S3.out (by rw [HD2.out]) HS2.out ?_ ?_ (HR.out.1.sublist (List.drop_sublist _ _)) (HR.out.2.sublist (List.drop_sublist _ _)) ?_ ?_ ?_ ?_).mono ?_
                                · have := HH.out; rw [List.length_drop]; omega
                                · have := HH.out; rw [List.length_drop]; omega
                                · have := HE.out; have := HU.out; have := HN.out; rw [List.length_drop, List.length_drop]; omega
                                · have hl := HZ.out.2.length rfl
                                  have := HE.out
                                  simp only [List.length_append, List.length_take] at hl ⊢; omega
                                · have hl := HZ.out.2.length rfl
                                  have := HE.out
                                  simp only [List.length_append, List.length_take, List.length_drop] at hl ⊢; omega
                                · have hl := HZ.out.2.length rfl
                                  have := HE.out
                                  simp only [List.length_append, List.length_take, List.length_drop] at hl ⊢; omega
                                · rintro e1 w1 ⟨rfl, d3, Z2, hd3, S4, hz⟩
                                  go_wp2
                                  go_end0
                                  exact ⟨rfl, d3, Z1 ++ Z2, by show _ = _; rw [hd3.out]; simp only [List.append_assoc], S4, HEND.out Z2 hz.out.1 hz.out.2⟩
                              · have h2z : ¬ (P.length : Int) + (X.length : Int) + (e : Int) < (P.length : Int) + (X.length : Int) + (Y.length : Int) := by omega
                                have HH : Aside (¬ e < Y.length) := h2
                                clear h1 h2
                                go_wp2
                                go_end0
                                refine ⟨rfl, d2, Z1 ++ X.drop s, ?_, S3, ?_⟩
                                · show _ = _
                                  have := HH.out
                                  rw [HD2.out, List.drop_of_length_le (show Y.length ≤ e by omega)]; simp only [List.append_assoc, List.nil_append]
                                · have := HH.out
                                  refine HEND.out _ (HR.out.1.sublist (List.drop_sublist _ _)) ?_
                                  rw [List.drop_of_length_le (show Y.length ≤ e by omega), List.append_nil]
                                  exact Same.refl _
                            · have h1z : ¬ (P.length : Int) + (u : Int) < (P.length : Int) + (X.length : Int) + (e : Int) := by have := HE.out; omega
                              have HH : Aside (¬ s < X.length) := h1
                              clear h1
                              go_wp2
                              go_end0
                              refine ⟨rfl, d2, Z1 ++ Y.drop e, ?_, S3, ?_⟩
                              · show _ = _
                                have := HH.out
                                rw [HD2.out, List.drop_of_length_le (show X.length ≤ s by omega)]; simp only [List.append_assoc, List.nil_append]
                              · have := HH.out
                                refine HEND.out _ (HR.out.2.sublist (List.drop_sublist _ _)) ?_
                                rw [List.drop_of_length_le (show X.length ≤ s by omega), List.nil_append]
                                exact Same.refl _
theorem merges (key : α → Int) (enc : α → List Value) (k g : Nat) (cb : Array Value) (blk off cap sz : Nat) (d0 : Array α) (w0 : World) (T : Told key enc k g cb w0 blk off d0 sz) : ∀ n, Merges key enc k g cb blk off cap sz w0 n
  | 0 => fun a m b d w P X Y Q S hd hds hX hY => by omega
  | n + 1 => fun a m b d w P X Y Q S hd hds hX hY hrX hrY hN ha hm hb => by
    subst ha hm hb
    by_cases h1 : X.length = 1
    · obtain ⟨x, rfl⟩ := List.length_eq_one_iff.1 h1
      have := symA key enc k g cb blk off cap sz d0 d w0 w P x Y Q T S hd hds hY hrY
      simpa using this
    · by_cases h2 : Y.length = 1
      · obtain ⟨y, rfl⟩ := List.length_eq_one_iff.1 h2
        have := symB key enc k g cb blk off cap sz d0 d w0 w P X y Q T S hd hds (by omega) hrX
        simpa using this
      · exact symC key enc k g cb blk off cap sz d0 d w0 w P X Y Q n T (merges key enc k g cb blk off cap sz d0 w0 T n) S hd hds (by omega) (by omega) hrX hrY hN
end Go.Proofs.YtfboejlemnfndaaGreatDoor.Srt
end
section
namespace Go.Proofs.YtfboejlemnfndaaGreatDoor.Srt
open Go.Shelf Go.RowKit Go.Lib Go.Sort
variable {α : Type} [Inhabited α]
theorem insertion_c (key : α → Int) (enc : α → List Value) (k g : Nat) (cb : Array Value) (blk off cap sz : Nat) (d0 : Array α) (w0 : World) (T : Told key enc k g cb w0 blk off d0 sz) (a b : Int) (d : Array α) (w : World) (P X Q : List α)
    (S : SWK enc k w0 blk off d w) (hd : d.toList = P ++ X ++ Q) (hds : d.size = sz) (ha : a = P.length) (hb : b = (P.length : Int) + X.length) :
    Calls Tryz.prog 87 #[.slice (some ⟨blk, off, none⟩) sz cap, .int .i64 a, .int .i64 b, .func (.func g) #[] cb] w fun e w' =>
      e = .returned (.tuple #[]) ∧ ∃ (d' : Array α) (Z : List α), Hid (d'.toList = P ++ Z ++ Q) ∧ Aside (SWK enc k w0 blk off d' w') ∧ Hid (Rising key Z ∧ Same key X Z) := by
  obtain ⟨cf, hC, hcf⟩ := T.cf
  have R := T.R
  have hs0 : d.size = d0.size := by rw [hds, T.hs]
  have hlt : ∀ x y, ltOf cf x y = decide (key x < key y) := fun x y => by
    unfold ltOf
    rw [decide_eq_decide]
    exact hcf x y
  obtain ⟨Z, z1, z2, z3⟩ := ins_sort (key := key) (ltOf cf) hlt P X Q d hd (a := P.length) (b := P.length + X.length) rfl rfl
  have hsz := size_of hd
  have hs' : (Sort.insertionSort (ltOf cf) d P.length (P.length + X.length)).size = d.size := by
    rw [size_of z1, hsz]
    have := z3.length rfl
    simp only [List.length_append]; omega
  have hC' : CmpLays Tryz.prog g cb enc k cf blk off d.size w := fun m os dk hdk x y => by
    obtain ⟨n0, os0, rfl⟩ := S
    rw [sortWorldK_on enc k w0 blk off n0 m d dk os0 os R.hblk hdk]
    exact hC _ _ dk (by omega) x y
  simp only [List.length_append] at hsz
  have := Tryz.insertionSortCmpFunc (α := α) k types.aE T.zE enc R.hk R.h1 cf g cb blk off cap P.length (P.length + X.length) d w T.eg hC' (S.holds R.hblk R.hH hs0) (S.lt R.hblk) (by omega) (by omega) (by rw [hds]; exact T.hsz)
  rw [hds] at this
  rw [ha, hb, show (P.length : Int) + (X.length : Int) = ((P.length + X.length : Nat) : Int) from by omega]
  refine this.mono ?_
  rintro e w' ⟨rfl, n, os, rfl⟩
  exact ⟨rfl, _, Z, z1, S.on R.hblk n _ os hs', ⟨z2, z3⟩⟩
inductive Chunks (key : α → Int) (n : Nat) : List α → Prop where
  | nil : Chunks key n []
  | cons (c F : List α) : Rising key c → c.length = n → Chunks key n F → Chunks key n (c ++ F)
omit [Inhabited α] in
theorem Chunks.snoc {key : α → Int} {n : Nat} {F Z : List α} (h : Chunks key n F) (hr : Rising key Z) (hl : Z.length = n) : Chunks key n (F ++ Z) := by
  induction h with
  | nil =>
    have := Chunks.cons (key := key) (n := n) Z [] hr hl .nil
    simpa using this
  | cons c F h1 h2 h3 ih =>
    rw [List.append_assoc]
    exact .cons c _ h1 h2 ih

set_option maxHeartbeats 4000000 in
set_option maxRecDepth 1000000 in
theorem stable_c (key : α → Int) (enc : α → List Value) (k g : Nat) (cb : Array Value) (blk off cap sz : Nat) (d0 : Array α) (w0 : World) (T : Told key enc k g cb w0 blk off d0 sz) (d : Array α) (w : World) (L : List α)
    (S : SWK enc k w0 blk off d w) (hd : d.toList = L) (hds : d.size = sz) (h6 : sz ≤ 1000000) :
    Calls Tryz.prog 70 #[.slice (some ⟨blk, off, none⟩) sz cap, .int .i64 sz, .func (.func g) #[] cb] w fun e w' =>
      e = .returned (.tuple #[]) ∧ ∃ (d' : Array α) (Z : List α), Hid (d'.toList = Z) ∧ Aside (SWK enc k w0 blk off d' w') ∧ Hid (Rising key Z ∧ Same key L Z) := by
  have mixed := types.mixed
  have S0 : Aside (SWK enc k w0 blk off d w) := S
  have HD : Hid (d.toList = L) := hd
  have HS : Aside (d.size = sz) := hds
  have HL : Aside (L.length = sz) := (show _ = _ by rw [← hds, size_of hd])
  clear S hd hds
  go_enter Tryz.func70, Tryz.ntmps70
  go_wp2
  go_loopg [7, 8] sz (fun gx v7 v8 wr => ∃ (F R : List α) (dk : Array α), v7 = .int .i64 (F.length : Int) ∧ v8 = .int .i64 ((F.length : Int) + 20) ∧ R.length ≤ gx ∧ Hid (Chunks key 20 F ∧ Same key L (F ++ R) ∧ dk.toList = F ++ R) ∧ Aside (dk.size = sz) ∧ Aside (F.length + R.length = sz) ∧ Aside (SWK enc k w0 blk off dk wr))
  case atStart => exact ⟨[], L, d, rfl, rfl, (show L.length ≤ sz by have := HL.out; omega), ⟨.nil, Same.refl _, HD.out⟩, HS, (show 0 + L.length = sz by have := HL.out; omega), S0⟩
  case round =>
    as_aux_lemma =>
    clear S0 HD HS HL
    obtain ⟨F, R, dk, rfl, rfl, hgx, HC, HS, HZ, S1⟩ := hrel
    have hz := HZ.out
    by_cases h20 : 20 ≤ R.length
    · have hle : (F.length : Int) + 20 ≤ (sz : Int) := by omega
      clear hz
      go_wp2_with fail
      refine (insertion_c key enc k g cb blk off cap sz d0 w0 T _ _ dk _ F (R.take 20) (R.drop 20) S1.out (by rw [HC.out.2.2, List.append_assoc, List.take_append_drop]) HS.out rfl (by rw [List.length_take]; omega)).mono ?_
      rintro e1 w1 ⟨rfl, d1, Z, hd1, S2, hz⟩
      have hl := hz.out.2.length rfl
      rw [List.length_take] at hl
      have HLZ : Aside (Z.length = 20) := (show _ = _ by omega)
      clear hl
      have hb : IntKind.i64.wrap ((F.length : Int) + 20 + 20) = (F.length : Int) + 20 + 20 := by rw [IntKind.wrap_i64]; omega
      go_wp2
      go_roundg (R.length - 20)
      case measure => omega
      case rel =>
        have hzl := HLZ.out
        have hz2 := HZ.out
        have hfl : (F ++ Z).length = F.length + 20 := by rw [List.length_append]; omega
        refine ⟨F ++ Z, R.drop 20, d1, by rw [hfl]; congr 1, by rw [hfl]; congr 1, by rw [List.length_drop]; exact Nat.le_refl _, ⟨HC.out.1.snoc hz.out.1 hzl, ?_, ?_⟩, ?_, ?_, S2⟩
        · refine HC.out.2.1.trans ?_
          have := Same.mid (P := F) (Q := R.drop 20) hz.out.2
          rw [List.append_assoc, List.take_append_drop] at this
          exact this
        · rw [hd1.out]
        · show _ = _
          rw [size_of hd1.out, ← HS.out, size_of HC.out.2.2]
          simp only [List.length_append, List.length_drop]; omega
        · show _ = _
          rw [hfl, List.length_drop]; omega
    · have hle : ¬ (F.length : Int) + 20 ≤ (sz : Int) := by omega
      clear hz
      go_wp2_with fail
      refine (insertion_c key enc k g cb blk off cap sz d0 w0 T _ _ dk _ F R [] S1.out (by rw [HC.out.2.2]; simp) HS.out rfl (by have := HZ.out; omega)).mono ?_
      rintro e1 w1 ⟨rfl, d1, Z, hd1, S2, hz⟩
      have hl := hz.out.2.length rfl
      have HLZ : Aside (Z.length < 20 ∧ F.length + Z.length = sz) := (show _ ∧ _ from ⟨by omega, by have := HZ.out; omega⟩)
      have HS2 : Aside (d1.size = sz) := by
        show _ = _
        rw [size_of hd1.out]
        have := HLZ.out.2
        simp only [List.length_append, List.length_nil]; omega
      have HK : Hid (Chunks key 20 F ∧ Rising key Z ∧ Same key L (F ++ Z) ∧ d1.toList = F ++ Z) := ⟨HC.out.1, hz.out.1, HC.out.2.1.trans ((Same.refl _).append hz.out.2), by rw [hd1.out]; simp⟩
      clear hl hz hd1 HC HS HZ S1 h20 hle
      go_wp2
      go_loopg [6] (sz + 20) (fun gy v6 wr2 => ∃ (bs : Nat) (F Tl : List α) (dk : Array α), v6 = .int .i64 (bs : Int) ∧ 0 < bs ∧ sz + 20 - bs ≤ gy ∧ bs ≤ 4000000 ∧ Hid (Chunks key bs F ∧ Rising key Tl ∧ Same key L (F ++ Tl) ∧ dk.toList = F ++ Tl) ∧ Aside (Tl.length < bs ∧ F.length + Tl.length = sz) ∧ Aside (dk.size = sz) ∧ Aside (SWK enc k w0 blk off dk wr2))
      case atStart => exact ⟨20, F, Z, d1, rfl, by omega, by omega, by omega, HK, HLZ, HS2, S2⟩
      case round =>
        as_aux_lemma =>
        clear HK HLZ HS2 S2
        obtain ⟨bs, F, Tl, dk, rfl, hb0, hgy, hb4, HK, HLZ, HS2, S2⟩ := hrel
        by_cases hbs : bs < sz
        · have hbz : (bs : Int) < (sz : Int) := by omega
          have w2 : IntKind.i64.wrap (2 * (bs : Int)) = 2 * (bs : Int) := by rw [IntKind.wrap_i64]; omega
          go_wp2
          go_loopg [7, 8] sz (fun gz v7 v8 wr3 => ∃ (D G : List α) (dj : Array α), v7 = .int .i64 (D.length : Int) ∧ v8 = .int .i64 ((D.length : Int) + 2 * (bs : Int)) ∧ G.length ≤ gz ∧ Hid (Chunks key (2 * bs) D ∧ Chunks key bs G ∧ Same key L (D ++ G ++ Tl) ∧ dj.toList = D ++ G ++ Tl) ∧ Aside (D.length + G.length + Tl.length = sz) ∧ Aside (dj.size = sz) ∧ Aside (SWK enc k w0 blk off dj wr3))
          case atStart => exact ⟨[], F, dk, rfl, by first | rfl | (congr 1; simp; done) | (congr 1; simp; omega), (show F.length ≤ sz by have := HLZ.out; omega), ⟨.nil, HK.out.1, by simpa using HK.out.2.2.1, by simpa using HK.out.2.2.2⟩, (show 0 + F.length + Tl.length = sz by have := HLZ.out.2; omega), HS2, S2⟩
          case round =>
            as_aux_lemma =>
            clear HS2 S2
            obtain ⟨D, G, dj, rfl, rfl, hgz, HJ, HZ, HS2, S2⟩ := hrel
            have hD : D.length ≤ sz := by have := HZ.out; omega
            have w3 : IntKind.i64.wrap ((D.length : Int) + (bs : Int)) = (D.length : Int) + (bs : Int) := by rw [IntKind.wrap_i64]; omega
            have w4 : IntKind.i64.wrap ((D.length : Int) + 2 * (bs : Int) + 2 * (bs : Int)) = (D.length : Int) + 2 * (bs : Int) + 2 * (bs : Int) := by rw [IntKind.wrap_i64]; omega
            have w5 : IntKind.i64.wrap ((bs : Int) * 2) = (bs : Int) * 2 := by rw [IntKind.wrap_i64]; omega
            -- what is left behind the pairs
            have hrest : (∃ c1 c2 G', G = c1 ++ (c2 ++ G') ∧ Rising key c1 ∧ c1.length = bs ∧ Rising key c2 ∧ c2.length = bs ∧ Chunks key bs G') ∨ (∃ c1, G = c1 ∧ Rising key c1 ∧ c1.length = bs) ∨ G = [] := by
              have hG := HJ.out.2.1
              cases hG with
              | nil => exact .inr (.inr rfl)
              | cons c1 F1 h1 h2 h3 =>
                cases h3 with
                | nil => exact .inr (.inl ⟨c1, by simp, h1, h2⟩)
                | cons c2 F2 h4 h5 h6 => exact .inl ⟨c1, c2, F2, rfl, h1, h2, h4, h5, h6⟩
            rcases hrest with ⟨c1, c2, G', hG, r1, l1, r2, l2, hG'⟩ | ⟨c1, hG, r1, l1⟩ | hG
            · have hle : (D.length : Int) + 2 * (bs : Int) ≤ (sz : Int) := by have := HZ.out; rw [hG] at this; simp only [List.length_append] at this; omega
              have HG : Hid (G = c1 ++ (c2 ++ G') ∧ Chunks key bs G') := ⟨hG, hG'⟩
              have HL1 : Aside (c1.length = bs ∧ c2.length = bs) := ⟨l1, l2⟩
              clear hG l1 l2 hG'
              go_wp2_with fail
              refine (merges key enc k g cb blk off cap sz d0 w0 T (c1.length + c2.length) _ _ _ dj _ D c1 c2 (G' ++ Tl) S2.out (by rw [HJ.out.2.2.2, HG.out.1]; simp) HS2.out (by have := HL1.out; omega) (by have := HL1.out; omega) r1 r2 (Nat.le_refl _) rfl (by have := HL1.out; omega) (by have := HL1.out; omega)).mono ?_
              rintro e1 w1 ⟨rfl, d1, Z, hd1, S3, hz⟩
              have hl := hz.out.2.length rfl
              have HLZ2 : Aside (Z.length = 2 * bs) := (show _ = _ by have := HL1.out; rw [List.length_append] at hl; omega)
              clear hl
              go_wp2
              go_roundg (G.length - 2 * bs)
              case measure => have := HL1.out; have e := congrArg List.length HG.out.1; simp only [List.length_append] at e; omega
              case rel =>
                have hzl := HLZ2.out
                have hz2 := HZ.out
                have h12 := HL1.out
                have e := congrArg List.length HG.out.1
                simp only [List.length_append] at e
                have hfl : (D ++ Z).length = D.length + 2 * bs := by rw [List.length_append]; omega
                refine ⟨D ++ Z, G', d1, by rw [hfl]; congr 1 <;> omega, by rw [hfl]; congr 1 <;> omega, by omega, ⟨HJ.out.1.snoc hz.out.1 hzl, HG.out.2, ?_, ?_⟩, ?_, ?_, S3⟩
                · refine HJ.out.2.2.1.trans ?_
                  have := Same.mid (P := D) (Q := G' ++ Tl) hz.out.2
                  rw [HG.out.1]
                  simpa [List.append_assoc] using this
                · rw [hd1.out]; simp
                · show _ = _
                  rw [hfl]; omega
                · show _ = _
                  rw [size_of hd1.out]
                  simp only [List.length_append]; omega
            · have HL1 : Aside (c1.length = bs) := l1
              have hle : ¬ (D.length : Int) + 2 * (bs : Int) ≤ (sz : Int) := by have := HZ.out; have := HLZ.out; rw [hG] at *; omega
              subst hG
              clear l1
              by_cases ht : 0 < Tl.length
              · have hm : (D.length : Int) + (bs : Int) < (sz : Int) := by have := HZ.out; have := HL1.out; omega
                go_wp2_with fail
                refine (merges key enc k g cb blk off cap sz d0 w0 T (G.length + Tl.length) _ _ _ dj _ D G Tl [] S2.out (by rw [HJ.out.2.2.2]; simp) HS2.out (by have := HL1.out; omega) ht r1 HK.out.2.1 (Nat.le_refl _) rfl (by have := HL1.out; omega) (by have := HL1.out; have := HZ.out; omega)).mono ?_
                rintro e1 w1 ⟨rfl, d1, Z, hd1, S3, hz⟩
                have hl := hz.out.2.length rfl
                go_wp2
                go_roundg (sz + 20 - bs * 2)
                case measure => omega
                case rel =>
                  have h1 := HL1.out
                  have h2 := HLZ.out
                  have h3 := HZ.out
                  rw [List.length_append] at hl
                  refine ⟨bs * 2, D, Z, d1, by first | rfl | (congr 1; omega), by omega, Nat.le_refl _, by omega, ⟨by rw [Nat.mul_comm]; exact HJ.out.1, hz.out.1, ?_, ?_⟩, (show _ ∧ _ from ⟨by omega, by omega⟩), ?_, S3⟩
                  · refine HJ.out.2.2.1.trans ?_
                    rw [List.append_assoc]
                    exact (Same.refl D).append hz.out.2
                  · rw [hd1.out]; simp
                  · show _ = _
                    rw [size_of hd1.out]
                    simp only [List.length_append, List.length_nil]; omega
              · have hm : ¬ (D.length : Int) + (bs : Int) < (sz : Int) := by have := HZ.out; have := HL1.out; omega
                go_wp2
                go_roundg (sz + 20 - bs * 2)
                case measure => omega
                case rel =>
                  have h1 := HL1.out
                  have h3 := HZ.out
                  have h0 : Tl = [] := List.length_eq_zero_iff.1 (by omega)
                  have hk := HJ.out
                  rw [h0, List.append_nil] at hk
                  refine ⟨bs * 2, D, G, dj, by first | rfl | (congr 1; omega), by omega, Nat.le_refl _, by omega, ⟨by rw [Nat.mul_comm]; exact hk.1, r1, hk.2.2.1, hk.2.2.2⟩, (show _ ∧ _ from ⟨by omega, by omega⟩), HS2, S2⟩
            · subst hG
              have hle : ¬ (D.length : Int) + 2 * (bs : Int) ≤ (sz : Int) := by have := HZ.out; have := HLZ.out; simp only [List.length_nil] at *; omega
              have hm : ¬ (D.length : Int) + (bs : Int) < (sz : Int) := by have := HZ.out; have := HLZ.out; simp only [List.length_nil] at *; omega
              go_wp2
              go_roundg (sz + 20 - bs * 2)
              case measure => omega
              case rel =>
                have h2 := HLZ.out
                have h3 := HZ.out
                have hk := HJ.out
                rw [List.append_nil] at hk
                simp only [List.length_nil] at h3
                refine ⟨bs * 2, D, Tl, dj, by first | rfl | (congr 1; omega), by omega, Nat.le_refl _, by omega, ⟨by rw [Nat.mul_comm]; exact hk.1, HK.out.2.1, hk.2.2.1, hk.2.2.2⟩, (show _ ∧ _ from ⟨by omega, by omega⟩), HS2, S2⟩
        · have hbz : ¬ (bs : Int) < (sz : Int) := by omega
          go_wp2
          go_end0
          refine ⟨rfl, dk, F ++ Tl, HK.out.2.2.2, S2, ?_⟩
          have hk := HK.out
          have hl := HLZ.out
          refine ⟨?_, hk.2.2.1⟩
          have hc := hk.1
          cases hc with
          | nil => simpa using hk.2.1
          | cons c F1 h1 h2 h3 =>
            rw [List.length_append] at hl
            have h0 : F1 = [] := List.length_eq_zero_iff.1 (by omega)
            have h00 : Tl = [] := List.length_eq_zero_iff.1 (by omega)
            rw [h0, h00]
            simpa using h1
end Go.Proofs.YtfboejlemnfndaaGreatDoor.Srt
end
section
namespace Go.Proofs.YtfboejlemnfndaaGreatDoor.Srt
open Go.Shelf Go.RowKit Go.Lib Go.Sort
section
variable {α : Type} [Inhabited α] (c0 c1 : α → Value)
def two (x : α) : List Value := [c0 x, c1 x]
omit [Inhabited α] in
theorem cells_len (l : List α) : (l.flatMap (two c0 c1)).length = l.length * 2 := by
  induction l with
  | nil => rfl
  | cons x l ih => rw [List.flatMap_cons, List.length_append, ih]; show 2 + l.length * 2 = (l.length + 1) * 2; omega
omit [Inhabited α] in
theorem cells_at : ∀ (l : List α) (j : Nat) (x : α), l[j]? = some x → (l.flatMap (two c0 c1)).drop (j * 2) = [c0 x, c1 x] ++ (l.drop (j + 1)).flatMap (two c0 c1)
  | [], j, x, h => by simp at h
  | y :: l, 0, x, h => by
    obtain rfl : y = x := by simpa using h
    rfl
  | y :: l, j + 1, x, h => by
    have ih := cells_at l j x (by simpa using h)
    rw [List.flatMap_cons, show (j + 1) * 2 = j * 2 + 1 + 1 from by omega]
    show List.drop (j * 2 + 1 + 1) (c0 y :: c1 y :: l.flatMap (two c0 c1)) = _
    rw [List.drop_succ_cons, List.drop_succ_cons, ih]
    rfl
theorem flat_list (l : List α) : (flatK (two c0 c1) 2 l.toArray).toList = l.flatMap (two c0 c1) := by
  apply List.ext_getElem?
  intro t
  have hs : (flatK (two c0 c1) 2 l.toArray).toList.length = l.length * 2 := by rw [Array.length_toList, size_flatK]; simp
  by_cases ht : t < l.length * 2
  · have hj : t / 2 < l.length := by omega
    have hc := cells_at c0 c1 l (t / 2) l[t / 2] (List.getElem?_eq_getElem hj)
    have h1 : (l.flatMap (two c0 c1))[t]? = ((l.flatMap (two c0 c1)).drop (t / 2 * 2))[t % 2]? := by
      rw [List.getElem?_drop]; congr 1; omega
    have e : l.toArray[t / 2]! = l[t / 2] := by
      rw [getElem!_pos _ _ (by simpa using hj)]
      simp
    rw [h1, hc, Array.getElem?_toList]
    unfold flatK
    rw [Array.getElem?_map, Array.getElem?_range]
    simp only [List.size_toArray, ht, if_true, Option.map_some]
    rw [e]
    have h2 : t % 2 = 0 ∨ t % 2 = 1 := by omega
    rcases h2 with h2 | h2 <;> rw [h2] <;> rfl
  · rw [List.getElem?_eq_none (by omega), List.getElem?_eq_none (by rw [cells_len]; omega)]
theorem holds_own {w : World} {g : Nat} {cur : Array Value} {e : TypeId} {l : List α} (hb : w.heap[g]? = some (.cells cur e (0, 0))) (ht : cur.toList.take (l.length * 2) = l.flatMap (two c0 c1)) : HoldsK (two c0 c1) 2 w g 0 l.toArray := by
  intro j hj
  have hj' : j < l.length * 2 := by simpa using hj
  refine ⟨?_, by simp [World.frozen?, hb]⟩
  have h1 : (cur.toList.take (l.length * 2))[j]? = (flatK (two c0 c1) 2 l.toArray).toList[j]? := by rw [ht, flat_list]
  rw [List.getElem?_take_of_lt hj', Array.getElem?_toList, Array.getElem?_toList] at h1
  simp only [World.cell?, hb, Nat.zero_add]
  simp only [Option.isSome_none, Bool.false_eq_true, if_false]
  rw [h1, getElem!_pos _ j hj]
  simp
theorem heap_put {w : World} {g n : Nat} {os : Array Obj} {cur : Array Value} {e : TypeId} {fr : Nat × Nat} (F : Array Value) (hb : w.heap[g]? = some (.cells cur e fr)) :
    (grow (putRow id (Sort.ahead w n) g 0 F) os).heap[g]? = some (.cells (putCells id 0 F cur) e fr) := by
  have hg : g < w.heap.size := (Array.getElem?_eq_some_iff.1 hb).1
  rw [Sort.heap_grow_old _ _ (by simpa [putRow, mapBlock, Sort.ahead] using hg)]
  simp [putRow, mapBlock, Sort.ahead, Array.getElem?_modify, hb, onCells]
theorem take_put (cur F : Array Value) (h : F.size ≤ cur.size) : (putCells id 0 F cur).toList.take F.size = F.toList := by
  apply List.ext_getElem?
  intro j
  by_cases hj : j < F.size
  · rw [List.getElem?_take_of_lt hj, Array.getElem?_toList, Array.getElem?_toList]
    simp [putCells, hj, show j < cur.size by omega]
  · rw [List.getElem?_take_eq_none (by omega), List.getElem?_eq_none (by simp; omega)]
theorem own_sorted {w : World} {base g cap n : Nat} {e : TypeId} {os : Array Obj} {cur : Array Value} {l Z : List α} (hl : Z.length = l.length) (hbase : base ≤ g) (hb : w.heap[g]? = some (.cells cur e (0, 0)))
    (h1 : l.length ≤ cap) (h2 : cap ≤ maxLen) (h3 : cur.size = cap * 2) :
    (sortWorldK (two c0 c1) 2 w g 0 n Z.toArray os).ownsRow base e 2 (.slice (some ⟨g, 0, none⟩) l.length cap) l.length (Z.flatMap (two c0 c1)) := by
  refine ⟨by rw [cells_len, hl], .inr ⟨g, cap, _, rfl, hbase, heap_put _ hb, h1, h2, by simp [putCells, h3], ?_⟩⟩
  have := take_put cur (flatK (two c0 c1) 2 Z.toArray) (by rw [size_flatK, h3]; simp; omega)
  rw [flat_list, size_flatK] at this
  rw [← this]
  simp [hl]
theorem below_sorted {w0 w : World} {B g n : Nat} {os : Array Obj} {Z : Array α} (h : Below B w0 w) (hB : B ≤ w.heap.size) (hg : B ≤ g) : Below B w0 (sortWorldK (two c0 c1) 2 w g 0 n Z os) := by
  refine h.trans ⟨rfl, rfl, rfl, by simp [sortWorldK, grow, putRowK, putRow, mapBlock, Sort.ahead], fun k hk => ?_⟩
  unfold sortWorldK
  rw [Sort.heap_grow_old _ _ (by simp [putRowK, putRow, mapBlock, Sort.ahead]; omega)]
  have : g ≠ k := by omega
  simp [putRowK, putRow, mapBlock, Sort.ahead, Array.getElem?_modify, this]
end
def cmpOf (x y : Int) : Int := if x < y then -1 else if x > y then 1 else 0
theorem isNaN_c (x : Int) (w : World) : Calls Tryz.prog 71 #[.int .u8 x] w fun e w' => e = .returned (.bool false) ∧ w' = w := by
  go_enter Tryz.func71, Tryz.ntmps71
  have h : (x != x) = false := by simp
  go_wp2
  go_ret
  exact ⟨by simp, rfl⟩
theorem compare_c (x y : Int) (w : World) : Calls Tryz.prog 47 #[.int .u8 x, .int .u8 y] w fun e w' => e = .returned (.int .i64 (cmpOf x y)) ∧ w' = w := by
  go_enter Tryz.func47, Tryz.ntmps47
  go_wp2_with fail
  refine (isNaN_c x w).mono ?_
  rintro e w1 ⟨rfl, rfl⟩
  go_wp2_with fail
  refine (isNaN_c y _).mono ?_
  rintro e w2 ⟨rfl, rfl⟩
  by_cases h1 : x < y
  · have hc : cmpOf x y = -1 := by unfold cmpOf; rw [if_pos h1]
    go_wp2
    go_ret
    exact ⟨by rw [hc]; rfl, rfl⟩
  · by_cases h2 : x > y
    · have hc : cmpOf x y = 1 := by unfold cmpOf; rw [if_neg h1, if_pos h2]
      go_wp2
      go_ret
      exact ⟨by rw [hc]; rfl, rfl⟩
    · have hc : cmpOf x y = 0 := by unfold cmpOf; rw [if_neg h1, if_neg h2]
      go_wp2
      go_ret
      exact ⟨by rw [hc]; rfl, rfl⟩
theorem closure_c (x y : Int) (s t : ByteArray) (w : World) : Calls Tryz.prog 46 #[.agg #[.int .u8 x, .string s], .agg #[.int .u8 y, .string t]] w fun e w' => e = .returned (.int .i64 (cmpOf x y)) ∧ ∃ q os', w' = grow (w.drewN q) os' := by
  go_enter Tryz.func46, Tryz.ntmps46
  go_wp2_with fail
  refine (compare_c x y _).mono ?_
  rintro e w1 ⟨rfl, rfl⟩
  go_wp2
  go_ret
  exact ⟨rfl, 0, _, by rw [alloc_eq_grow, alloc_eq_grow, grow_grow]; rfl⟩
theorem insertion_nil (w : World) (g : Nat) (cb : Array Value) : Calls Tryz.prog 87 #[.slice none 0 0, .int .i64 0, .int .i64 0, .func (.func g) #[] cb] w fun e w' => e = .returned (.tuple #[]) ∧ w' = w := by
  go_enter Tryz.func87, Tryz.ntmps87
  go_wp2
  refine wp_loop_rounds 1 ?_
  rw [rounds_succ]
  go_wp2
  go_end0
  exact ⟨rfl, rfl⟩
theorem stable_nil (w : World) (g : Nat) (cb : Array Value) : Calls Tryz.prog 70 #[.slice none 0 0, .int .i64 0, .func (.func g) #[] cb] w fun e w' => e = .returned (.tuple #[]) ∧ w' = w := by
  go_enter Tryz.func70, Tryz.ntmps70
  go_wp2
  refine wp_loop_rounds 1 ?_
  rw [rounds_succ]
  go_wp2_with fail
  refine (insertion_nil w g cb).mono ?_
  rintro e w1 ⟨rfl, rfl⟩
  go_wp2
  refine wp_loop_rounds 1 ?_
  rw [rounds_succ]
  go_wp2
  go_end0
  exact ⟨rfl, rfl⟩
theorem sort_nil (w : World) : Calls Tryz.prog 45 #[.slice none 0 0, .func (.func 46) #[] #[]] w fun e w' => e = .returned (.tuple #[]) ∧ w' = w := by
  go_enter Tryz.func45, Tryz.ntmps45
  go_wp2_with fail
  refine (stable_nil w _ _).mono ?_
  rintro e w1 ⟨rfl, rfl⟩
  go_wp2
  go_end0
  exact ⟨rfl, rfl⟩
theorem sort_own {α : Type} [Inhabited α] (num : α → Int) (tok : α → ByteArray) (l : List α) (g cap : Nat) (cur : Array Value) (w : World) (h6 : l.length ≤ 1000000)
    (hb : w.heap[g]? = some (.cells cur 61 (0, 0))) (ht : cur.toList.take (l.length * 2) = l.flatMap (two (fun x => .int .u8 (num x)) (fun x => .string (tok x)))) (Z : List α) (hZ : Rising num Z) (hs : Same num l Z) :
    Calls Tryz.prog 45 #[.slice (some ⟨g, 0, none⟩) l.length cap, .func (.func 46) #[] #[]] w fun e w' =>
      e = .returned (.tuple #[]) ∧ ∃ n os, w' = sortWorldK (two (fun x => .int .u8 (num x)) (fun x => .string (tok x))) 2 w g 0 n Z.toArray os := by
  have hg : g < w.heap.size := (Array.getElem?_eq_some_iff.1 hb).1
  have hH := holds_own (fun x => .int .u8 (num x)) (fun x => .string (tok x)) hb ht
  have hT : Told num (two (fun x => .int .u8 (num x)) (fun x => .string (tok x))) 2 46 #[] w g 0 l.toArray l.length := by
    refine ⟨sizeK, ⟨fun _ => rfl, fun x v hv => ?_, hH, hg⟩, by simp, by omega, ⟨fun x y => cmpOf (num x) (num y), fun m os dk _ x y => ?_, fun x y => ?_⟩, ?_⟩
    · simp only [two, List.mem_cons, List.not_mem_nil, or_false] at hv
      rcases hv with rfl | rfl <;> rfl
    · exact closure_c (num x) (num y) (tok x) (tok y) _
    · show cmpOf (num x) (num y) < 0 ↔ _
      unfold cmpOf
      split
      · exact ⟨fun _ => by assumption, fun _ => by decide⟩
      · split
        · exact ⟨fun h => absurd h (by decide), fun h => absurd h (by assumption)⟩
        · exact ⟨fun h => absurd h (by decide), fun h => absurd h (by assumption)⟩
    · exact enters_of Tryz.func46 (by kernel_rfl) rfl
  have h := stable_c num _ 2 _ #[] g 0 cap l.length l.toArray w hT l.toArray w l (SWK.start hH) rfl (by simp) h6
  go_enter Tryz.func45, Tryz.ntmps45
  go_wp2_with fail
  refine h.mono ?_
  rintro e w1 ⟨rfl, d', Z', hd, S, hz⟩
  go_wp2
  go_end0
  obtain ⟨n, os, e⟩ := S.out
  have hzz : Z' = Z := unique (key := num) Z'.length rfl hz.out.1 hZ (hz.out.2.symm.trans hs)
  refine ⟨rfl, n, os, ?_⟩
  rw [e, ← hzz, ← hd.out]
end Go.Proofs.YtfboejlemnfndaaGreatDoor.Srt
end
section
namespace Go.Proofs.YtfboejlemnfndaaGreatDoor.Srt
open Go.Shelf Go.RowKit Go.Lib
theorem clone_nil (n c : Nat) (w : World) : Calls Tryz.prog 44 #[.slice none n c] w fun e w' => e = .returned (.slice none 0 0) ∧ w' = w := by
  have q22 : ∀ (w : World) (a : Option Addr) (n c n' c' : Nat), (binOp .eql 29 (.slice a n c) (.slice none n' c')).run Tryz.prog w = .ok (.bool a.isNone) w := fun w a n c n' c' => Lib.run_eql_slice_nil w _ _ a n c n' c' Tryz.underlying29
  go_enter Tryz.func44, Tryz.ntmps44
  go_wp2
  go_ret
  exact ⟨rfl, rfl⟩
set_option maxHeartbeats 2000000 in
theorem clone_c (i0 : TypeInfo) (z : Value) (bytes : Nat) (hi : Tryz.prog.info? 61 = some i0) (hz0 : i0.zero = some z) (hz1 : i0.size = 2) (hz2 : i0.bytes = bytes) (hzs : z.cells.size = 2)
    (ad : Addr) (n c : Nat) (news : List Value) (w : World) (hl : news.length = n * 2) (hn : n ≤ maxLen) (hbig : n * bytes ≤ 140737488355328)
    (hc : ∀ j u, news[j]? = some u → w.cell? (ad.add j) = some u) (h1 : ∀ u ∈ news, u.oneCell' = true) :
    Calls Tryz.prog 44 #[.slice (some ad) n c] w fun e w' => ∃ v', e = .returned v' ∧ w'.ownsRow w.heap.size 61 2 v' n news ∧ v' ≠ .slice none 0 0 ∧ Below w.heap.size w w' := by
  have q22 : ∀ (w : World) (a : Option Addr) (n c n' c' : Nat), (binOp .eql 29 (.slice a n c) (.slice none n' c')).run Tryz.prog w = .ok (.bool a.isNone) w := fun w a n c n' c' => Lib.run_eql_slice_nil w _ _ a n c n' c' Tryz.underlying29
  have A : Aside (∀ j u, news[j]? = some u → w.cell? (ad.add j) = some u) := hc
  clear hc
  go_enter Tryz.func44, Tryz.ntmps44
  go_wp2_with (at_builtin; refine wpList_append_own _ rfl _ _ 29 rfl w.heap.size 61 i0 z 2 bytes Tryz.underlying29 hi hz0 hz1 hz2 hzs (by decide) _ _ _ rfl (World.ownsRow_made w #[] 0 (Nat.le_refl _) (Nat.zero_le _) (by simp)) ad n c news rfl ?qc1 ?qc2 ?qc3 ?qc4 ?qc5 ?qc6 ?_)
  case qc1 => exact hl
  case qc2 =>
    intro j u hj
    exact Lib.cell?_alloc_some _ (A.out j u hj)
  case qc3 => exact h1
  case qc4 => rw [Nat.zero_add]; exact hn
  case qc5 => rw [Nat.zero_add]; exact hbig
  case qc6 => simp
  intro v' w1 hown hgrow hnil
  go_wp2
  go_ret
  refine ⟨v', rfl, by simpa using hown, ?_, ?_⟩
  · exact hnil
  · exact ((Below.refl _ w).alloc (Nat.le_refl _) _).grown hgrow (by simp) (by intro k hk; simp [Value.ownBlock] at hk; omega)
end Go.Proofs.YtfboejlemnfndaaGreatDoor.Srt
end
section
namespace Go.Proofs.YtfboejlemnfndaaGreatDoor.XMo
open Go.RowKit Go.Proofs.YtfboejlemnfndaaGreatDoorW.PrintWords Go.Proofs.YtfboejlemnfndaaGreatDoorW.PrintLast Go.Proofs.YtfboejlemnfndaaGreatDoorW.PrintMore
attribute [local go_sem] extract_sub max2_int min2_int max_two min_two max_three min_three max_four min_four   -- for this text's walks alone
set_option linter.unusedVariables false
set_option linter.unusedSimpArgs false

noncomputable section
def meta_Canon.ins (x : S61) : List S61 → List S61
 | [] => [x]
 | y :: l => if x.f0 ≤ y.f0 then x :: y :: l else y :: meta_Canon.ins x l
def meta_Canon.srt : List S61 → List S61
 | [] => []
 | x :: l => meta_Canon.ins x (meta_Canon.srt l)
theorem meta_Canon.ins_ok (x : S61) : ∀ l, Srt.Rising (fun z : S61 => z.f0) l → Srt.Rising (fun z : S61 => z.f0) (meta_Canon.ins x l) ∧ Srt.Same (fun z : S61 => z.f0) (x :: l) (meta_Canon.ins x l)
 | [], _ => ⟨List.pairwise_singleton _ _, Srt.Same.refl _⟩
 | y :: l, h => by
  have hy := List.pairwise_cons.1 h
  unfold meta_Canon.ins
  split
  · rename_i hxy
    refine ⟨List.pairwise_cons.2 ⟨fun z hz => ?_, h⟩, Srt.Same.refl _⟩
    rcases List.mem_cons.1 hz with rfl | hz
    · exact hxy
    have : y.f0 ≤ z.f0 := hy.1 z hz
    show x.f0 ≤ z.f0
    omega
  rename_i hxy
  obtain ⟨h1, h2⟩ := meta_Canon.ins_ok x l hy.2
  refine ⟨List.pairwise_cons.2 ⟨fun z hz => ?_, h1⟩, ?_⟩
  · rcases List.mem_cons.1 (h2.mem hz) with rfl | hz
    · show y.f0 ≤ z.f0
      omega
    exact hy.1 z hz
  have h3 : Srt.Same (fun z : S61 => z.f0) ([x] ++ [y] ++ l) ([y] ++ [x] ++ l) := (Srt.Same.turn (fun a ha b hb => by
   rw [List.mem_singleton.1 ha, List.mem_singleton.1 hb]
   show y.f0 < x.f0
   omega)).append (Srt.Same.refl l)
  have h4 := h3.trans ((Srt.Same.refl [y]).append h2)
  simpa using h4
theorem meta_Canon.srt_ok : ∀ l, Srt.Rising (fun z : S61 => z.f0) (meta_Canon.srt l) ∧ Srt.Same (fun z : S61 => z.f0) l (meta_Canon.srt l)
 | [] => ⟨List.Pairwise.nil, Srt.Same.refl _⟩
 | x :: l => by
  obtain ⟨h1, h2⟩ := meta_Canon.srt_ok l
  obtain ⟨h3, h4⟩ := meta_Canon.ins_ok x _ h1
  exact ⟨h3, ((Srt.Same.refl [x]).append h2).trans h4⟩
def meta_Canon.f (a0_0 : Int) (a0_1 : ByteArray) (a0_2 : Int) (l0_3 : List S61) : Option (Int × ByteArray × Int × List S61) := if l0_3.length ≤ 1000000 then some (a0_0, a0_1, a0_2, meta_Canon.srt l0_3) else none
def meta_Canon.cl (l : List S61) : List Value := l.flatMap (Srt.two (fun x => .int .u8 x.f0) (fun x => .string x.f1))
theorem meta_Canon.reps (w : World) (base : Nat) (ok : Nat → Prop) (l : List S61) : Reps (k61.M w base ok) 2 l (meta_Canon.cl l) := by
 refine ⟨Srt.cells_len _ _ l, fun j p hp => ?_⟩
 unfold meta_Canon.cl
 rw [Srt.cells_at _ _ l j p hp]
 exact k61_mkM w base ok p
theorem meta_Canon.reads {w : World} {ad : Addr} {l : List S61} (h : Kd.C k61 w (some ad) l.length l) (j : Nat) (u : Value) (hu : (meta_Canon.cl l)[j]? = some u) : w.cell? (ad.add j) = some u := by
 have hj : j < l.length * 2 := by
  rw [← Srt.cells_len (fun x : S61 => (.int .u8 x.f0 : Value)) (fun x => .string x.f1) l]
  exact (List.getElem?_eq_some_iff.1 hu).1
 have hi : j / 2 < l.length := by omega
 obtain ⟨ad', c, e, hcl, hK, hc⟩ := Kd.C_get h z61 ((j / 2 : Nat) : Int) (by omega) (by omega)
 injection e with e
 subst e
 obtain rfl := k61_open hK
 rw [Int.toNat_natCast] at hc
 have e1 : l.getD (j / 2) z61 = l[j / 2] := by rw [List.getD_eq_getElem?_getD, List.getElem?_eq_getElem hi]; rfl
 rw [e1] at hc
 have h1 : (meta_Canon.cl l)[j]? = ((meta_Canon.cl l).drop (j / 2 * 2))[j % 2]? := by
  rw [List.getElem?_drop]; congr 1; omega
 unfold meta_Canon.cl at h1 hu
 rw [h1, Srt.cells_at _ _ l (j / 2) l[j / 2] (List.getElem?_eq_getElem hi)] at hu
 have h2 : j % 2 = 0 ∨ j % 2 = 1 := by omega
 have e2 : j = j / 2 * 2 + j % 2 := by omega
 conv => lhs; rw [e2]
 refine hc (j % 2) u ?_
 rcases h2 with h2 | h2 <;> rw [h2] at hu ⊢ <;> exact hu
def meta_Canon.z : Array Value := #[.int .i64 0, .string ⟨#[]⟩, .int .i64 0, .slice none 0 0]
set_option maxHeartbeats 8000000 in
set_option maxRecDepth 100000 in
theorem meta_Canon.calls (a0_0 : Int) (a0_1 : ByteArray) (a0_2 : Int) (A0_3 : Option Addr) (c0_3 : Nat) (l0_3 : List S61) (r1 : Int) (r2 : ByteArray) (r3 : Int) (r4 : List S61) (w : World) (hr0_3 : Kd.C k61 w A0_3 l0_3.length l0_3) (hc0_3 : l0_3.length ≤ c0_3) (h : meta_Canon.f a0_0 a0_1 a0_2 l0_3 = some (r1, r2, r3, r4)) :
 Calls Tryz.prog 21 #[.agg #[.int .i64 a0_0, .string a0_1, .int .i64 a0_2, .slice A0_3 l0_3.length c0_3]] w fun e w' => ∃ v3_ : Value, e = .returned (.agg #[.int .i64 r1, .string r2, .int .i64 r3, v3_]) ∧ Kd.R k61 61 w' w.heap.size (fun _ => True) v3_ r4 ∧ Below w.heap.size w w' := by
 haveI : Inhabited S61 := ⟨z61⟩
 unfold meta_Canon.f at h
 split at h
 · rename_i h6
   simp only [Option.some.injEq, Prod.mk.injEq] at h
   obtain ⟨rfl, rfl, rfl, rfl⟩ := h
   obtain ⟨hZ, hS⟩ := meta_Canon.srt_ok l0_3
   have HZ := Aside0.mk hZ
   have HS := Aside0.mk hS
   have HR := Aside0.mk hr0_3
   have hb0 : Below w.heap.size w ((w.alloc (.cells #[.int .i64 a0_0, .string a0_1, .int .i64 a0_2, .slice A0_3 l0_3.length c0_3] 31)).alloc (.cells meta_Canon.z 31)) := ((Below.refl _ w).alloc (Nat.le_refl _) _).alloc (by simp) _
   have HB0 := Aside0.mk hb0
   clear hZ hS hr0_3 hb0
   have hne : w.heap.size ≠ w.heap.size + 1 := by omega
   cases A0_3 with
   | none =>
    have hl : l0_3 = [] := by
     cases l0_3 with
     | nil => rfl
     | cons x l =>
      obtain ⟨ad, _, e, _⟩ := Kd.C_get HR.out z61 0 (by omega) (by simp)
      cases e
    subst hl
    clear HR HZ HS
    go_enter Tryz.func21, Tryz.ntmps21
    go_wp2_with fail
    refine (Srt.clone_nil _ _ _).mono ?_
    rintro e w1 ⟨rfl, hw1⟩
    have hx1 : w1.heap[w.heap.size]? = some (.cells #[.int .i64 a0_0, .string a0_1, .int .i64 a0_2, .slice none 0 c0_3] 31 (0, 0)) := by rw [hw1]; exact blk_alloc (Go.heap_alloc_new w _) _
    have hy1 : w1.heap[w.heap.size + 1]? = some (.cells meta_Canon.z 31 (0, 0)) := by
     rw [hw1, show w.heap.size + 1 = (w.alloc (.cells #[.int .i64 a0_0, .string a0_1, .int .i64 a0_2, .slice none 0 c0_3] 31)).heap.size from by simp]
     exact Go.heap_alloc_new _ _
    have HB1 : Aside0 (Below w.heap.size w w1) := ⟨by rw [hw1]; exact HB0.out⟩
    have hf3 := blk_frozen hx1 3
    have hq3 : w1.cell? ⟨w.heap.size, 3, none⟩ = some (.slice none 0 c0_3) := (blk_cell hx1 3).trans rfl
    have HX1 := Lib.hid hx1
    have HY1 := Lib.hid hy1
    clear hw1 hx1 hy1 HB0
    go_wp2_with fail
    refine (Srt.sort_nil _).mono ?_
    rintro e w2 ⟨rfl, hw2⟩
    have hx2 : w2.heap[w.heap.size]? = some (.cells #[.int .i64 a0_0, .string a0_1, .int .i64 a0_2, .slice none 0 0] 31 (0, 0)) := by rw [hw2]; exact blk_put HX1.out 3 _ rfl
    have hy2 : w2.heap[w.heap.size + 1]? = some (.cells meta_Canon.z 31 (0, 0)) := by rw [hw2]; exact blk_far HY1.out (by show w.heap.size + 1 ≠ w.heap.size; omega) _
    have HB2 : Aside0 (Below w.heap.size w w2) := ⟨by rw [hw2]; exact HB1.out.setCell (Nat.le_refl _) _⟩
    clear hw2 HX1 HY1 HB1 hf3 hq3
    have hcm0 : w2.cell? ⟨w.heap.size, 0, none⟩ = some (.int .i64 a0_0) := (blk_cell hx2 0).trans rfl
    have hcm1 : w2.cell? ⟨w.heap.size, 1, none⟩ = some (.string a0_1) := (blk_cell hx2 1).trans rfl
    have hcm2 : w2.cell? ⟨w.heap.size, 2, none⟩ = some (.int .i64 a0_2) := (blk_cell hx2 2).trans rfl
    have hcm3 : w2.cell? ⟨w.heap.size, 3, none⟩ = some (.slice none 0 0) := (blk_cell hx2 3).trans rfl
    have hcz0 : w2.cell? ⟨w.heap.size + 1, 0, none⟩ = some (.int .i64 0) := (blk_cell hy2 0).trans rfl
    have hcz1 : w2.cell? ⟨w.heap.size + 1, 1, none⟩ = some (.string ⟨#[]⟩) := (blk_cell hy2 1).trans rfl
    have hcz2 : w2.cell? ⟨w.heap.size + 1, 2, none⟩ = some (.int .i64 0) := (blk_cell hy2 2).trans rfl
    have hcz3 : w2.cell? ⟨w.heap.size + 1, 3, none⟩ = some (.slice none 0 0) := (blk_cell hy2 3).trans rfl
    have hfz0 := blk_frozen hy2 0
    have hfz1 := blk_frozen hy2 1
    have hfz2 := blk_frozen hy2 2
    have hfz3 := blk_frozen hy2 3
    have HY2 := Lib.hid hy2
    clear hx2 hy2
    go_wp2
    exact bodyPost_ret (results_cell_row rfl _ _ (w.heap.size + 1) 31 #[.int .i64 a0_0, .string a0_1, .int .i64 a0_2, .slice none 0 0] (0, 0) _ rfl (blk_put (blk_put (blk_put (blk_put HY2.out 0 _ rfl) 1 _ rfl) 2 _ rfl) 3 _ rfl) Tryz.underlying31 rfl (by kernel_rfl)) rfl ⟨_, rfl, Kd.R_nil _ _ _ _ _, (((HB2.out.setCell (by show w.heap.size ≤ w.heap.size + 1; omega) _).setCell (by show w.heap.size ≤ w.heap.size + 1; omega) _).setCell (by show w.heap.size ≤ w.heap.size + 1; omega) _).setCell (by show w.heap.size ≤ w.heap.size + 1; omega) _⟩
   | some ad =>
    obtain ⟨i0, hi0, hz0, hsz0, hbz0⟩ := info_parts info61
    have HREAD := Lib.hid (fun j u => meta_Canon.reads (Kd.C_below HR.out HB0.out) j u)
    clear HR
    go_enter Tryz.func21, Tryz.ntmps21
    go_wp2_with fail
    refine (Srt.clone_c i0 _ _ hi0 hz0 hsz0 hbz0 rfl ad l0_3.length c0_3 (meta_Canon.cl l0_3) _ (Srt.cells_len _ _ l0_3) (by have : maxLen = 9223372036854775807 := rfl; omega) (by omega) HREAD.out (fun u hu => ?_)).mono ?_
    · obtain ⟨x, _, hx⟩ := List.mem_flatMap.1 hu
      simp only [Srt.two, List.mem_cons, List.not_mem_nil, or_false] at hx
      rcases hx with rfl | rfl <;> rfl
    rintro e w1 ⟨v', rfl, hown, hnn, hb1⟩
    rcases hown.2 with ⟨hnil, _⟩ | ⟨g, cap, cur, rfl, hbase, hg, h1, h2, h3, h4⟩
    · exact absurd hnil hnn
    have hx1 : w1.heap[w.heap.size]? = some (.cells #[.int .i64 a0_0, .string a0_1, .int .i64 a0_2, .slice (some ad) l0_3.length c0_3] 31 (0, 0)) := (hb1.block _ (by simp <;> omega)).trans (blk_alloc (Go.heap_alloc_new w _) _)
    have hy1 : w1.heap[w.heap.size + 1]? = some (.cells meta_Canon.z 31 (0, 0)) := by
     refine (hb1.block _ (by simp <;> omega)).trans ?_
     rw [show w.heap.size + 1 = (w.alloc (.cells #[.int .i64 a0_0, .string a0_1, .int .i64 a0_2, .slice (some ad) l0_3.length c0_3] 31)).heap.size from by simp]
     exact Go.heap_alloc_new _ _
    have hgs : w.heap.size + 2 ≤ g := by simpa using hbase
    have HB1 : Aside0 (Below w.heap.size w w1) := ⟨HB0.out.trans (hb1.mono (by simp; omega))⟩
    have hf3 := blk_frozen hx1 3
    have hq3 : w1.cell? ⟨w.heap.size, 3, none⟩ = some (.slice (some ad) l0_3.length c0_3) := (blk_cell hx1 3).trans rfl
    have HX1 := Lib.hid hx1
    have HY1 := Lib.hid hy1
    have HG := Lib.hid hg
    have HCUR := Lib.hid h3
    have HTAKE := Lib.hid h4
    have HC12 : Aside0 (l0_3.length ≤ cap ∧ cap ≤ maxLen ∧ w.heap.size + 2 ≤ g) := ⟨h1, h2, hgs⟩
    clear hx1 hy1 HB0 hown hnn hb1 hbase hg h1 h2 h3 h4 hgs HREAD hi0 hz0 hsz0 hbz0
    go_wp2_with fail
    refine (Srt.sort_own (fun x : S61 => x.f0) (fun x => x.f1) l0_3 g cap cur _ h6 (blk_far HG.out (by show g ≠ w.heap.size; have := HC12.out; omega) _) HTAKE.out (meta_Canon.srt l0_3) HZ.out HS.out).mono ?_
    rintro e w2 ⟨rfl, n, os, hw2⟩
    have hx : (w1.setCell ⟨w.heap.size, 3, none⟩ (.slice (some ⟨g, 0, none⟩) l0_3.length cap)).heap[w.heap.size]? = some (.cells #[.int .i64 a0_0, .string a0_1, .int .i64 a0_2, .slice (some ⟨g, 0, none⟩) l0_3.length cap] 31 (0, 0)) := blk_put HX1.out 3 _ rfl
    have hy : (w1.setCell ⟨w.heap.size, 3, none⟩ (.slice (some ⟨g, 0, none⟩) l0_3.length cap)).heap[w.heap.size + 1]? = some (.cells meta_Canon.z 31 (0, 0)) := blk_far HY1.out (by show w.heap.size + 1 ≠ w.heap.size; omega) _
    have hgg : (w1.setCell ⟨w.heap.size, 3, none⟩ (.slice (some ⟨g, 0, none⟩) l0_3.length cap)).heap[g]? = some (.cells cur 61 (0, 0)) := blk_far HG.out (by show g ≠ w.heap.size; have := HC12.out; omega) _
    have hB : Below w.heap.size w (w1.setCell ⟨w.heap.size, 3, none⟩ (.slice (some ⟨g, 0, none⟩) l0_3.length cap)) := HB1.out.setCell (Nat.le_refl _) _
    generalize (w1.setCell ⟨w.heap.size, 3, none⟩ (.slice (some ⟨g, 0, none⟩) l0_3.length cap)) = W at hw2 hx hy hgg hB
    have hglt : g < W.heap.size := blk_lt hgg
    have hc12 := HC12.out
    have hk : Below g W w2 := by rw [hw2]; exact Srt.below_sorted _ _ (Below.refl g W) (by omega) (Nat.le_refl _)
    have hx2 : w2.heap[w.heap.size]? = some (.cells #[.int .i64 a0_0, .string a0_1, .int .i64 a0_2, .slice (some ⟨g, 0, none⟩) l0_3.length cap] 31 (0, 0)) := (hk.block _ (by omega)).trans hx
    have hy2 : w2.heap[w.heap.size + 1]? = some (.cells meta_Canon.z 31 (0, 0)) := (hk.block _ (by omega)).trans hy
    have HB2 : Aside0 (Below w.heap.size w w2) := ⟨by rw [hw2]; exact Srt.below_sorted _ _ hB (by omega) (by omega)⟩
    have hlen := HS.out.length rfl
    have hR : Kd.R k61 61 w2 w.heap.size (fun k => w.heap.size + 2 ≤ k) (.slice (some ⟨g, 0, none⟩) l0_3.length cap) (meta_Canon.srt l0_3) := by
     refine ⟨fun k hk => ?_, meta_Canon.cl (meta_Canon.srt l0_3), ?_, meta_Canon.reps _ _ _ _⟩
     · have : g = k := by simpa [Value.ownBlock] using hk
       omega
     have := Srt.own_sorted (fun x : S61 => (.int .u8 x.f0 : Value)) (fun x => .string x.f1) (n := n) (os := os) (base := w.heap.size) hlen (by omega) hgg hc12.1 hc12.2.1 HCUR.out
     rw [hw2, hlen]
     exact this
    have HRR := Aside0.mk hR
    clear hw2 hx hy hgg hB hk hglt hlen hR HX1 HY1 HB1 hf3 hq3 HG HCUR HTAKE hc12
    have hcm0 : w2.cell? ⟨w.heap.size, 0, none⟩ = some (.int .i64 a0_0) := (blk_cell hx2 0).trans rfl
    have hcm1 : w2.cell? ⟨w.heap.size, 1, none⟩ = some (.string a0_1) := (blk_cell hx2 1).trans rfl
    have hcm2 : w2.cell? ⟨w.heap.size, 2, none⟩ = some (.int .i64 a0_2) := (blk_cell hx2 2).trans rfl
    have hcm3 : w2.cell? ⟨w.heap.size, 3, none⟩ = some (.slice (some ⟨g, 0, none⟩) l0_3.length cap) := (blk_cell hx2 3).trans rfl
    have hcz0 : w2.cell? ⟨w.heap.size + 1, 0, none⟩ = some (.int .i64 0) := (blk_cell hy2 0).trans rfl
    have hcz1 : w2.cell? ⟨w.heap.size + 1, 1, none⟩ = some (.string ⟨#[]⟩) := (blk_cell hy2 1).trans rfl
    have hcz2 : w2.cell? ⟨w.heap.size + 1, 2, none⟩ = some (.int .i64 0) := (blk_cell hy2 2).trans rfl
    have hcz3 : w2.cell? ⟨w.heap.size + 1, 3, none⟩ = some (.slice none 0 0) := (blk_cell hy2 3).trans rfl
    have hfz0 := blk_frozen hy2 0
    have hfz1 := blk_frozen hy2 1
    have hfz2 := blk_frozen hy2 2
    have hfz3 := blk_frozen hy2 3
    have HY2 := Lib.hid hy2
    clear hx2 hy2
    go_wp2
    refine bodyPost_ret (results_cell_row rfl _ _ (w.heap.size + 1) 31 #[.int .i64 a0_0, .string a0_1, .int .i64 a0_2, .slice (some ⟨g, 0, none⟩) l0_3.length cap] (0, 0) _ rfl (blk_put (blk_put (blk_put (blk_put HY2.out 0 _ rfl) 1 _ rfl) 2 _ rfl) 3 _ rfl) Tryz.underlying31 rfl (by kernel_rfl)) rfl ⟨_, rfl, ?_, (((HB2.out.setCell (by show w.heap.size ≤ w.heap.size + 1; omega) _).setCell (by show w.heap.size ≤ w.heap.size + 1; omega) _).setCell (by show w.heap.size ≤ w.heap.size + 1; omega) _).setCell (by show w.heap.size ≤ w.heap.size + 1; omega) _⟩
    have hf : ∀ i : Nat, ∀ k_, w.heap.size + 2 ≤ k_ → k_ ≠ (⟨w.heap.size + 1, i, none⟩ : Addr).block := fun i k_ hk => by show k_ ≠ w.heap.size + 1; omega
    exact Kd.R_mono (Kd.R_far (Kd.R_far (Kd.R_far (Kd.R_far HRR.out (hf 0) _) (hf 1) _) (hf 2) _) (hf 3) _) (fun _ _ => trivial)
 cases h

end
end Go.Proofs.YtfboejlemnfndaaGreatDoor.XMo
end
section
namespace Go.Proofs.YtfboejlemnfndaaGreatDoor.XMo
open Go.RowKit Go.Proofs.YtfboejlemnfndaaGreatDoorW.PrintWords Go.Proofs.YtfboejlemnfndaaGreatDoorW.PrintLast Go.Proofs.YtfboejlemnfndaaGreatDoorW.PrintMore
attribute [local go_sem] extract_sub max2_int min2_int max_two min_two max_three min_three max_four min_four   -- for this text's walks alone
set_option linter.unusedVariables false
set_option linter.unusedSimpArgs false

noncomputable section
def meta_letter.f (a0 : Int) : Option (Int) := if (Go.bits .and .u32 a0 63) < 26 then (some (((65 + (Go.bits .and .u32 a0 63)) % 4294967296) % 256)) else (if (Go.bits .and .u32 a0 63) < 52 then (some (((((97 + (Go.bits .and .u32 a0 63)) % 4294967296) - 26) % 4294967296) % 256)) else (if (Go.bits .and .u32 a0 63) < 62 then (some (((((48 + (Go.bits .and .u32 a0 63)) % 4294967296) - 52) % 4294967296) % 256)) else (if (Go.bits .and .u32 a0 63) = 62 then (some 43) else (some 47))))
set_option maxHeartbeats 8000000 in
set_option maxRecDepth 100000 in
theorem meta_letter.calls (a0 : Int) (r : Int) (w : World) (h : meta_letter.f a0 = some r) :
 Calls Tryz.prog 54 #[.int .u32 a0] w fun e w' => e = .returned (.int .u8 r) ∧ Drawn0 w w' := by
 have H : (if (Go.bits .and .u32 a0 63) < 26 then (some (((65 + (Go.bits .and .u32 a0 63)) % 4294967296) % 256)) else (if (Go.bits .and .u32 a0 63) < 52 then (some (((((97 + (Go.bits .and .u32 a0 63)) % 4294967296) - 26) % 4294967296) % 256)) else (if (Go.bits .and .u32 a0 63) < 62 then (some (((((48 + (Go.bits .and .u32 a0 63)) % 4294967296) - 52) % 4294967296) % 256)) else (if (Go.bits .and .u32 a0 63) = 62 then (some 43) else (some 47))))) = some r := h
 clear h
 by_cases c2 : (Go.bits .and .u32 a0 63) < 26
 · rw [if_pos c2] at H
   have c2b0 : decide ((Go.bits .and .u32 a0 63) < 26) = true := decide_eq_true c2
   clear c2
   obtain rfl := Option.some.inj H
   go_enter Tryz.func54, Tryz.ntmps54
   go_wp2
   go_ret
   exact ⟨rsA, drA⟩
 rw [if_neg c2] at H
 have c2b0 : decide ((Go.bits .and .u32 a0 63) < 26) = false := decide_eq_false c2
 clear c2
 by_cases c3 : (Go.bits .and .u32 a0 63) < 52
 · rw [if_pos c3] at H
   have c3b0 : decide ((Go.bits .and .u32 a0 63) < 52) = true := decide_eq_true c3
   clear c3
   obtain rfl := Option.some.inj H
   go_enter Tryz.func54, Tryz.ntmps54
   go_wp2
   go_ret
   exact ⟨rsA, drA⟩
 rw [if_neg c3] at H
 have c3b0 : decide ((Go.bits .and .u32 a0 63) < 52) = false := decide_eq_false c3
 clear c3
 by_cases c4 : (Go.bits .and .u32 a0 63) < 62
 · rw [if_pos c4] at H
   have c4b0 : decide ((Go.bits .and .u32 a0 63) < 62) = true := decide_eq_true c4
   clear c4
   obtain rfl := Option.some.inj H
   go_enter Tryz.func54, Tryz.ntmps54
   go_wp2
   go_ret
   exact ⟨rsA, drA⟩
 rw [if_neg c4] at H
 have c4b0 : decide ((Go.bits .and .u32 a0 63) < 62) = false := decide_eq_false c4
 clear c4
 by_cases c5 : (Go.bits .and .u32 a0 63) = 62
 · rw [if_pos c5] at H
   have c5b0 : ((Go.bits .and .u32 a0 63) == 62) = true := beq_iff_eq.mpr c5
   have c5b1 : ((Go.bits .and .u32 a0 63) != 62) = false := bne_eq_false_iff_eq.mpr c5
   clear c5
   obtain rfl := Option.some.inj H
   go_enter Tryz.func54, Tryz.ntmps54
   go_wp2
   go_ret
   exact ⟨rsA, drA⟩
 rw [if_neg c5] at H
 have c5b0 : ((Go.bits .and .u32 a0 63) == 62) = false := beq_eq_false_iff_ne.mpr c5
 have c5b1 : ((Go.bits .and .u32 a0 63) != 62) = true := bne_iff_ne.mpr c5
 obtain rfl := Option.some.inj H
 go_enter Tryz.func54, Tryz.ntmps54
 go_wp2
 go_ret
 exact ⟨rsA, drA⟩

end
end Go.Proofs.YtfboejlemnfndaaGreatDoor.XMo
end
section
namespace Go.Proofs.YtfboejlemnfndaaGreatDoor.B64

def lt (v : Nat) : Nat := if v < 26 then 65 + v else if v < 52 then 71 + v else if v < 62 then v - 4 else if v = 62 then 43 else 47
theorem lt_range (v : Nat) (h : v < 64) : 43 ≤ lt v ∧ lt v ≤ 122 ∧ lt v ≠ 61 := by
  unfold lt
  split
  · omega
  · split
    · omega
    · split
      · omega
      · split <;> omega
theorem lt_inj (v u : Nat) (hv : v < 64) (hu : u < 64) (h : lt v = lt u) : v = u := by
  unfold lt at h
  repeat' split at h
  all_goals omega

def word (l : List UInt8) : Nat := (l.getD 0 0).toNat * 65536 + (l.getD 1 0).toNat * 256 + (l.getD 2 0).toNat
theorem word_lt (l : List UInt8) : word l < 16777216 := by
  unfold word
  have h0 := (l.getD 0 0).toNat_lt
  have h1 := (l.getD 1 0).toNat_lt
  have h2 := (l.getD 2 0).toNat_lt
  omega
def let8 (v : Nat) : UInt8 := UInt8.ofNat (lt v)
theorem let8_toNat (v : Nat) (h : v < 64) : (let8 v).toNat = lt v := by
  have := lt_range v h
  unfold let8
  rw [UInt8.toNat_ofNat']
  omega
theorem let8_ne (v : Nat) (h : v < 64) : let8 v ≠ 61 := by
  intro e
  have h1 := let8_toNat v h
  rw [e] at h1
  have := lt_range v h
  exact this.2.2 h1.symm
theorem let8_inj (v u : Nat) (hv : v < 64) (hu : u < 64) (h : let8 v = let8 u) : v = u := by
  refine lt_inj v u hv hu ?_
  rw [← let8_toNat v hv, ← let8_toNat u hu, h]
def four (l : List UInt8) : List UInt8 :=
  [let8 (word l / 262144), let8 (word l / 4096 % 64), if 1 < l.length then let8 (word l / 64 % 64) else 61, if 2 < l.length then let8 (word l % 64) else 61]
def encN : Nat → List UInt8 → List UInt8
  | 0, _ => []
  | n + 1, l => if l = [] then [] else four l ++ encN n (l.drop 3)
def enc (l : List UInt8) : List UInt8 := encN l.length l
theorem encN_more (n m : Nat) (l : List UInt8) (h : l.length ≤ n) (h' : l.length ≤ m) : encN n l = encN m l := by
  induction n generalizing m l with
  | zero =>
    obtain rfl : l = [] := List.length_eq_zero_iff.1 (by omega)
    cases m <;> simp [encN]
  | succ n ih =>
    cases m with
    | zero =>
      obtain rfl : l = [] := List.length_eq_zero_iff.1 (by omega)
      simp [encN]
    | succ m =>
      unfold encN
      split
      · rfl
      · rename_i hl
        have : 0 < l.length := List.length_pos_iff.2 hl
        rw [ih m (l.drop 3) (by rw [List.length_drop]; omega) (by rw [List.length_drop]; omega)]
theorem enc_nil : enc [] = [] := rfl
theorem enc_step (l : List UInt8) (h : l ≠ []) : enc l = four l ++ enc (l.drop 3) := by
  have hp : 0 < l.length := List.length_pos_iff.2 h
  unfold enc
  obtain ⟨n, hn⟩ : ∃ n, l.length = n + 1 := ⟨l.length - 1, by omega⟩
  rw [hn]
  rw [encN, if_neg h, encN_more n (l.drop 3).length (l.drop 3) (by rw [List.length_drop]; omega) (Nat.le_refl _)]
theorem four_length (l : List UInt8) : (four l).length = 4 := rfl
theorem getD_append {l m : List UInt8} {i : Nat} (h : i < l.length) : (l ++ m).getD i 0 = l.getD i 0 := by
  rw [List.getD_eq_getElem?_getD, List.getD_eq_getElem?_getD, List.getElem?_append_left h]
theorem four_take (l m : List UInt8) (h : 3 ≤ l.length) : four (l ++ m) = four l := by
  unfold four word
  rw [getD_append (by omega), getD_append (by omega), getD_append (by omega)]
  simp only [List.length_append]
  rw [if_pos (by omega), if_pos (by omega), if_pos (by omega), if_pos (by omega)]
theorem enc_append (a b : List UInt8) (h : a.length % 3 = 0) : enc (a ++ b) = enc a ++ enc b := by
  induction hn : a.length using Nat.strongRecOn generalizing a with
  | _ n ih =>
    by_cases he : a = []
    · subst he; rfl
    · have hp : 0 < a.length := List.length_pos_iff.2 he
      rw [enc_step a he, enc_step (a ++ b) (by simp [he]), four_take a b (by omega), List.append_assoc]
      rw [List.drop_append_of_le_length (by omega), ih (a.drop 3).length (by rw [List.length_drop]; omega) (a.drop 3) (by rw [List.length_drop]; omega) rfl]
theorem enc_length (a : List UInt8) : (enc a).length = (a.length + 2) / 3 * 4 := by
  induction hn : a.length using Nat.strongRecOn generalizing a with
  | _ n ih =>
    by_cases he : a = []
    · subst he; subst hn; rfl
    · have hp : 0 < a.length := List.length_pos_iff.2 he
      rw [enc_step a he, List.length_append, four_length, ih (a.drop 3).length (by rw [List.length_drop]; omega) (a.drop 3) rfl, List.length_drop]
      omega
theorem list_of_getD (l m : List UInt8) (hl : l.length = m.length) (h : ∀ i, i < l.length → l.getD i 0 = m.getD i 0) : l = m := by
  apply List.ext_getElem hl
  intro i h1 h2
  have := h i h1
  rw [List.getD_eq_getElem?_getD, List.getD_eq_getElem?_getD, List.getElem?_eq_getElem h1, List.getElem?_eq_getElem h2] at this
  exact this
theorem word_of_four (x y : List UInt8) (hx : x.length ≤ 3) (hy : y.length ≤ 3) (hx0 : x ≠ []) (hy0 : y ≠ []) (h : four x = four y) : x = y := by
  have px : 0 < x.length := List.length_pos_iff.2 hx0
  have py : 0 < y.length := List.length_pos_iff.2 hy0
  have wx := word_lt x
  have wy := word_lt y
  unfold four at h
  simp only [List.cons.injEq, and_true] at h
  obtain ⟨h0, h1, h2, h3⟩ := h
  have e0 := let8_inj _ _ (by omega) (by omega) h0
  have e1 := let8_inj _ _ (by omega) (by omega) h1
  have b0 := (x.getD 0 0).toNat_lt
  have b1 := (x.getD 1 0).toNat_lt
  have b2 := (x.getD 2 0).toNat_lt
  have c0 := (y.getD 0 0).toNat_lt
  have c1 := (y.getD 1 0).toNat_lt
  have c2 := (y.getD 2 0).toNat_lt
  have toN : ∀ a b : UInt8, a.toNat = b.toNat → a = b := fun a b hab => UInt8.toNat_inj.1 hab
  have zx : ∀ i, x.length ≤ i → (x.getD i 0).toNat = 0 := fun i hi => by rw [List.getD_eq_getElem?_getD, List.getElem?_eq_none hi]; rfl
  have zy : ∀ i, y.length ≤ i → (y.getD i 0).toNat = 0 := fun i hi => by rw [List.getD_eq_getElem?_getD, List.getElem?_eq_none hi]; rfl
  by_cases x1 : 1 < x.length
  · by_cases y1 : 1 < y.length
    · rw [if_pos x1, if_pos y1] at h2
      have e2 := let8_inj _ _ (by omega) (by omega) h2
      by_cases x2 : 2 < x.length
      · by_cases y2 : 2 < y.length
        · rw [if_pos x2, if_pos y2] at h3
          have e3 := let8_inj _ _ (by omega) (by omega) h3
          have hw : word x = word y := by omega
          unfold word at hw
          refine list_of_getD x y (by omega) (fun i hi => toN _ _ ?_)
          have : i = 0 ∨ i = 1 ∨ i = 2 := by omega
          rcases this with rfl | rfl | rfl <;> omega
        · rw [if_pos x2, if_neg y2] at h3
          exact absurd h3 (let8_ne _ (by omega))
      · by_cases y2 : 2 < y.length
        · rw [if_neg x2, if_pos y2] at h3
          exact absurd h3.symm (let8_ne _ (by omega))
        · have hx2 := zx 2 (by omega)
          have hy2 := zy 2 (by omega)
          have hw : word x / 64 = word y / 64 := by omega
          unfold word at hw
          refine list_of_getD x y (by omega) (fun i hi => toN _ _ ?_)
          have : i = 0 ∨ i = 1 := by omega
          rcases this with rfl | rfl <;> omega
    · rw [if_pos x1, if_neg y1] at h2
      exact absurd h2 (let8_ne _ (by omega))
  · by_cases y1 : 1 < y.length
    · rw [if_neg x1, if_pos y1] at h2
      exact absurd h2.symm (let8_ne _ (by omega))
    · have hx1 := zx 1 (by omega)
      have hy1 := zy 1 (by omega)
      have hx2 := zx 2 (by omega)
      have hy2 := zy 2 (by omega)
      have hw : word x / 4096 = word y / 4096 := by omega
      unfold word at hw
      refine list_of_getD x y (by omega) (fun i hi => toN _ _ ?_)
      have : i = 0 := by omega
      subst this
      omega
theorem four_take3 (l : List UInt8) : four (l.take 3) = four l := by
  by_cases h : 3 ≤ l.length
  · have := four_take (l.take 3) (l.drop 3) (by rw [List.length_take]; omega)
    rw [List.take_append_drop] at this
    exact this.symm
  · rw [List.take_of_length_le (by omega)]
theorem append_parts {a b c d : List UInt8} (hl : a.length = c.length) (h : a ++ b = c ++ d) : a = c ∧ b = d := List.append_inj h hl
theorem enc_inj (x y : List UInt8) (h : enc x = enc y) : x = y := by
  induction hn : x.length using Nat.strongRecOn generalizing x y with
  | _ n ih =>
    by_cases hx : x = []
    · subst hx
      by_cases hy : y = []
      · exact hy.symm
      · rw [enc_step y hy] at h
        exact absurd (congrArg List.length h) (by rw [enc_nil, List.length_append, four_length, List.length_nil]; omega)
    · by_cases hy : y = []
      · subst hy
        rw [enc_step x hx] at h
        exact absurd (congrArg List.length h) (by rw [enc_nil, List.length_append, four_length, List.length_nil]; omega)
      · rw [enc_step x hx, enc_step y hy] at h
        obtain ⟨h1, h2⟩ := append_parts (by rw [four_length, four_length]) h
        have hp : 0 < x.length := List.length_pos_iff.2 hx
        have e1 : x.take 3 = y.take 3 := by
          refine word_of_four _ _ (List.length_take_le _ _) (List.length_take_le _ _) ?_ ?_ ?_
          · intro e; have := congrArg List.length e; rw [List.length_take] at this; simp at this; exact hx this
          · intro e; have := congrArg List.length e; rw [List.length_take] at this; simp at this; exact hy this
          · rw [four_take3, four_take3]; exact h1
        have e2 := ih (x.drop 3).length (by rw [List.length_drop]; omega) (x.drop 3) (y.drop 3) h2 rfl
        rw [← List.take_append_drop 3 x, ← List.take_append_drop 3 y, e1, e2]
theorem enc_begin (a b t : List UInt8) (ha : a.length % 3 = 0) (h : enc b = enc a ++ t) : ∃ c, b = a ++ c ∧ enc c = t := by
  have hla : (enc a).length = a.length / 3 * 4 := by rw [enc_length]; omega
  have hlb : (enc b).length = (enc a).length + t.length := by rw [h, List.length_append]
  rw [hla, enc_length] at hlb
  have hab : a.length ≤ b.length + 2 := by omega
  by_cases hle : a.length ≤ b.length
  · have ht : (b.take a.length).length % 3 = 0 := by rw [List.length_take]; rw [Nat.min_eq_left hle]; exact ha
    have hb := enc_append (b.take a.length) (b.drop a.length) ht
    rw [List.take_append_drop, h] at hb
    obtain ⟨h1, h2⟩ := append_parts (by rw [enc_length, enc_length, List.length_take, Nat.min_eq_left hle]) hb
    have := enc_inj _ _ h1
    refine ⟨b.drop a.length, ?_, h2.symm⟩
    conv => lhs; rw [← List.take_append_drop a.length b, ← this]
  · -- b is shorter by one or two: its last letters are no whole three's
    have hb0 : b.length / 3 * 3 < b.length := by omega
    have hq : (b.take (b.length / 3 * 3)).length = b.length / 3 * 3 := by rw [List.length_take]; omega
    have hq' : (a.take (b.length / 3 * 3)).length = b.length / 3 * 3 := by rw [List.length_take]; omega
    have eb := enc_append (b.take (b.length / 3 * 3)) (b.drop (b.length / 3 * 3)) (by rw [hq]; omega)
    have ea := enc_append (a.take (b.length / 3 * 3)) (a.drop (b.length / 3 * 3)) (by rw [hq']; omega)
    rw [List.take_append_drop] at eb ea
    rw [h, ea, List.append_assoc] at eb
    obtain ⟨_, h2⟩ := append_parts (by rw [enc_length, enc_length, hq, hq']) eb
    have hd : (b.drop (b.length / 3 * 3)).length = b.length - b.length / 3 * 3 := List.length_drop
    have hd' : (a.drop (b.length / 3 * 3)).length = a.length - b.length / 3 * 3 := List.length_drop
    rw [enc_step (b.drop (b.length / 3 * 3)) (by intro e; rw [e] at hd; simp at hd; omega), enc_step (a.drop (b.length / 3 * 3)) (by intro e; rw [e] at hd'; simp at hd'; omega), List.append_assoc] at h2
    obtain ⟨h3, _⟩ := append_parts (by rw [four_length, four_length]) h2
    have := word_of_four _ _ (by rw [hd']; omega) (by rw [hd]; omega) (by intro e; rw [e] at hd'; simp at hd'; omega) (by intro e; rw [e] at hd; simp at hd; omega) h3
    have := congrArg List.length this
    rw [hd, hd'] at this
    omega
open Classical in
noncomputable def dec (s : List UInt8) : Option (List UInt8) := if h : ∃ b, enc b = s then some (Classical.choose h) else none
theorem dec_enc (b : List UInt8) : dec (enc b) = some b := by
  unfold dec
  rw [dif_pos ⟨b, rfl⟩]
  exact congrArg some (enc_inj _ _ (Classical.choose_spec (p := fun x => enc x = enc b) ⟨b, rfl⟩))
theorem dec_of (s b : List UInt8) (h : enc b = s) : dec s = some b := by subst h; exact dec_enc b
theorem dec_none (s : List UInt8) (h : ¬ ∃ b, enc b = s) : dec s = none := by unfold dec; rw [dif_neg h]
theorem dec_some (s b : List UInt8) (h : dec s = some b) : enc b = s := by
  unfold dec at h
  split at h
  · rename_i hx
    injection h with h
    subst h
    exact Classical.choose_spec hx
  · cases h
end Go.Proofs.YtfboejlemnfndaaGreatDoor.B64
end
section
namespace Go.Proofs.YtfboejlemnfndaaGreatDoor
open Go.RowKit Go.Shelf

theorem bldSize : (Tryz.prog.info? 91).map (·.size) = some 2 := by kernel_rfl
theorem bldLies : liesAt Tryz.prog Tryz.prog.depth 91 (2 / Tryz.prog.cellsOf 91) 0 91 1 = true := by kernel_rfl
theorem bldByte : (Tryz.prog.info? 5).map (fun i => (i.zero, i.size, i.bytes)) = some (some (.int .u8 0), 1, 1) := by kernel_rfl

set_option maxHeartbeats 2000000 in
set_option maxRecDepth 100000 in
theorem bld_check_fresh (b : Nat) (w : World) (h0 : w.cell? ⟨b, 0, none⟩ = some (.pointer none)) (hsh : w.shape? b = some (91, 2)) (hfz : w.frozen? ⟨b, 0, none⟩ = false) :
    Calls Tryz.prog 74 #[.pointer (some ⟨b, 0, none⟩)] w fun e w' => e = .returned (.tuple #[]) ∧ w' = w.setCell ⟨b, 0, none⟩ (.pointer (some ⟨b, 0, none⟩)) := by
  obtain ⟨j, hj, hjs⟩ := Option.map_eq_some_iff.1 bldSize
  go_enter Tryz.func74, Tryz.ntmps74
  go_wp2
  rw [Lib.run_to_unsafe w ⟨b, 0, none⟩ Tryz.underlying89 Tryz.underlying128 hj (by rw [hjs]; decide) hsh (Nat.zero_lt_succ 1)]
  simp only [Result.andThen]
  rw [Oper.upon_value]
  go_wp2
  rw [run_callFunc_extern Tryz.func92 (by kernel_rfl) (by kernel_rfl) (by kernel_rfl) (e := Extern.AbiNoEscape.same) (by kernel_rfl)]
  rw [Lib.run_noEscape]
  simp only [Result.andThen]
  rw [Oper.upon_value]
  go_wp2
  rw [Lib.run_from_unsafe w ⟨b, 0, none⟩ Tryz.underlying128 Tryz.underlying89 hj hsh bldLies]
  simp only [Result.andThen]
  rw [Oper.upon_value]
  go_wp2
  go_end0
  exact ⟨rfl, rfl⟩

set_option maxHeartbeats 2000000 in
set_option maxRecDepth 100000 in
theorem bld_check_used (b : Nat) (w : World) (h0 : w.cell? ⟨b, 0, none⟩ = some (.pointer (some ⟨b, 0, none⟩))) :
    Calls Tryz.prog 74 #[.pointer (some ⟨b, 0, none⟩)] w fun e w' => e = .returned (.tuple #[]) ∧ w' = w := by
  obtain ⟨j, hj, _⟩ := Option.map_eq_some_iff.1 bldSize
  go_enter Tryz.func74, Tryz.ntmps74
  go_wp2
  rw [Lib.run_neq_ptr_same w _ Tryz.underlying89 hj]
  go_wp2
  go_end0
  exact ⟨rfl, rfl⟩

abbrev IsBld (B b : Nat) (l : List UInt8) (w : World) : Prop := Lib.IsBuilderF 91 5 B b (Lib.byteCells l) w

theorem bld_check (B b : Nat) (bs : List Value) (w : World) (h : Lib.IsBuilderF 91 5 B b bs w) :
    Calls Tryz.prog 74 #[.pointer (some ⟨b, 0, none⟩)] w fun e w' => e = .returned (.tuple #[]) ∧ Lib.BuilderAtF 91 5 B b (.pointer (some ⟨b, 0, none⟩)) bs w' ∧ Below B w w' := by
  rcases h with h | h
  · refine (bld_check_fresh b w h.cell0 h.shape h.frozen0).mono ?_
    rintro e w' ⟨rfl, rfl⟩
    exact ⟨rfl, h.used _, (Below.refl B w).setCell (p := ⟨b, 0, none⟩) h.1 _⟩
  · refine (bld_check_used b w h.cell0).mono ?_
    rintro e w' ⟨rfl, rfl⟩
    exact ⟨rfl, h, Below.refl B _⟩
theorem isBld_below {B b : Nat} {l : List UInt8} {W W' : World} (h : IsBld B b l W) (hb : Below W.heap.size W W') : IsBld B b l W' := by
  have go : ∀ p, Lib.BuilderAtF 91 5 B b p (Lib.byteCells l) W → Lib.BuilderAtF 91 5 B b p (Lib.byteCells l) W' := fun p h => by
    have hlt := h.lt
    obtain ⟨hB, v, hbk, hown, hne⟩ := h
    refine ⟨hB, v, (hb.block b hlt).trans hbk, ?_, hne⟩
    obtain ⟨h1, h2⟩ := hown
    refine ⟨h1, ?_⟩
    rcases h2 with h2 | ⟨g, cap, cur, fz, hv, hg, hh, r⟩
    · exact .inl h2
    · refine .inr ⟨g, cap, cur, fz, hv, hg, ?_, r⟩
      have : g < W.heap.size := by
        rcases Nat.lt_or_ge g W.heap.size with h' | h'
        · exact h'
        · simp [Array.getElem?_eq_none h'] at hh
      exact (hb.block g this).trans hh
  exact h.elim (fun x => .inl (go _ x)) (fun x => .inr (go _ x))
theorem isBld_fresh (w : World) : IsBld w.heap.size w.heap.size [] (w.alloc (.cells #[.pointer none, .slice none 0 0] 91)) := Lib.IsBuilderF.of (Lib.fresh_isBuilder _ _ w)
end Go.Proofs.YtfboejlemnfndaaGreatDoor
end
section
namespace Go.Proofs.YtfboejlemnfndaaGreatDoor
open Go.RowKit Go.Shelf

set_option maxHeartbeats 4000000 in
set_option maxRecDepth 100000 in
theorem bld_byte (B b : Nat) (l : List UInt8) (c : Int) (w : World) (h : IsBld B b l w) (h0 : 0 ≤ c) (h1 : c < 256) (hlen : l.length + 1 ≤ 140737488355328) (hBw : B ≤ w.heap.size) :
    Calls Tryz.prog 53 #[.pointer (some ⟨b, 0, none⟩), .int .u8 c] w fun e w' => e = .returned .nilIface ∧ IsBld B b (l ++ [UInt8.ofNat c.toNat]) w' ∧ Below B w w' := by
  obtain ⟨i0, hi, hz0, hz1, hz2⟩ := info_parts bldByte
  have hll : (Lib.byteCells l).length = l.length := Lib.byteCells_length l
  have HE : Hid (Lib.byteCells (l ++ [UInt8.ofNat c.toNat]) = Lib.byteCells l ++ [.int .u8 c]) := by
    show Lib.byteCells (l ++ [UInt8.ofNat c.toNat]) = Lib.byteCells l ++ [.int .u8 c]
    rw [Lib.byteCells_append]
    congr 1
    simp only [Lib.byteCells, List.map_cons, List.map_nil]
    congr 2
    rw [UInt8.toNat_ofNat']
    omega
  unfold IsBld at h ⊢
  rw [HE.out]
  have hlen' : (Lib.byteCells l).length + 1 ≤ 140737488355328 := by omega
  clear HE hll hlen
  generalize Lib.byteCells l = bs at *
  go_enter Tryz.func53, Tryz.ntmps53
  go_wp2_with (go_at_call 74; refine (bld_check B b bs _ h).mono ?_)
  rintro e w1 ⟨rfl, h1', hb1⟩
  obtain ⟨hB, v, hbk, hown, hne⟩ := h1'
  have c0 : w1.cell? ⟨b, 0, none⟩ = some (.pointer (some ⟨b, 0, none⟩)) := by rw [Lib.cell_of_heap hbk]; rfl
  have c1 : w1.cell? ⟨b, 1, none⟩ = some v := by rw [Lib.cell_of_heap hbk]; rfl
  go_wp2_with (at_builtin; refine wpList_append_ownF _ rfl _ _ 70 rfl B 5 i0 (.int .u8 0) 1 1 Tryz.underlying70 hi hz0 hz1 hz2 rfl (by decide) _ _ _ rfl (hown.alloc _) ⟨w1.heap.size, 0, none⟩ 1 1 [.int .u8 c] rfl rfl ?c1 ?c2 ?c3 ?c4 ?c5 ?_)
  case c1 =>
    intro j u hj
    match j, hj with
    | 0, hj => simp at hj; subst hj; simp [Addr.add]
  case c2 => intro u hu; simp at hu; subst hu; rfl
  case c3 => unfold maxLen; omega
  case c4 => omega
  case c5 => have := hb1.size; simp; omega
  intro v' w2 hown' hgrow _
  have hlt : b < w1.heap.size := by
    rcases Nat.lt_or_ge b w1.heap.size with h' | h'
    · exact h'
    · simp [Array.getElem?_eq_none h'] at hbk
  have hb2 : w2.heap[b]? = some (.cells #[.pointer (some ⟨b, 0, none⟩), v] 91 (0, 0)) := by
    rw [hgrow.block b (by simp; omega) (fun e => hne e.symm), Lib.alloc_old w1 _ b hlt]
    exact hbk
  have d0 : w2.cell? ⟨b, 0, none⟩ = some (.pointer (some ⟨b, 0, none⟩)) := by rw [Lib.cell_of_heap hb2]; rfl
  have d1 : w2.cell? ⟨b, 1, none⟩ = some v := by rw [Lib.cell_of_heap hb2]; rfl
  have f1 : w2.frozen? ⟨b, 1, none⟩ = false := Lib.frozen_of_heap hb2 1
  obtain ⟨g, cap, rfl⟩ : ∃ g cap, v' = .slice (some ⟨g, 0, none⟩) (bs.length + 1) cap := by
    rcases hown'.2 with ⟨_, h0⟩ | ⟨g, cap, cur, fz, hv, _⟩
    · omega
    · exact ⟨g, cap, hv⟩
  go_wp2
  go_ret
  refine ⟨rfl, .inr ?_, ?_⟩
  · exact Lib.BuilderAtF.put (T := 91) (e := 5) hB hb2 (bs' := bs ++ [.int .u8 c]) (by simpa using hown') (by decide)
  · exact ((hb1.alloc (by have := hb1.size; omega) _).grown hgrow (by have := hb1.size; simp; omega) (fun k hk => (hown.lt k hk).1)).setCell (p := ⟨b, 1, none⟩) hB _
end Go.Proofs.YtfboejlemnfndaaGreatDoor
end
section
namespace Go.Proofs.YtfboejlemnfndaaGreatDoor
theorem wraps_u32 (n : Int) (h₀ : 0 ≤ n) (h₁ : n < 2 ^ 32) : IntKind.u32.wrap n = n := by rw [IntKind.wrap_u32]; omega
theorem u32_or8 (x y : Int) (hx₀ : 0 ≤ x) (hx : x % 256 = 0) (hx₁ : x < 4294967296) (h₀ : 0 ≤ y) (h₁ : y < 256) : bits .or .u32 x y = x + y :=
  bits_join .u32 32 (by decide) wraps_u32 8 x y hx₀ hx hx₁ h₀ h₁ (by omega)
theorem u32_or6 (x y : Int) (hx₀ : 0 ≤ x) (hx : x % 64 = 0) (hx₁ : x < 4294967296) (h₀ : 0 ≤ y) (h₁ : y < 64) : bits .or .u32 x y = x + y :=
  bits_join .u32 32 (by decide) wraps_u32 6 x y hx₀ hx hx₁ h₀ h₁ (by omega)
theorem u32_and63 (x : Int) (h₀ : 0 ≤ x) (h₁ : x < 4294967296) : bits .and .u32 x 63 = x % 64 := bits_mask .u32 32 (by decide) wraps_u32 6 (by decide) x h₀ h₁
end Go.Proofs.YtfboejlemnfndaaGreatDoor
end
section
namespace Go.Proofs.YtfboejlemnfndaaGreatDoor.XMo
open Go.RowKit Go.Proofs.YtfboejlemnfndaaGreatDoorW.PrintWords Go.Proofs.YtfboejlemnfndaaGreatDoorW.PrintLast Go.Proofs.YtfboejlemnfndaaGreatDoorW.PrintMore
attribute [local go_sem] extract_sub max2_int min2_int max_two min_two max_three min_three max_four min_four   -- for this text's walks alone
set_option linter.unusedVariables false
set_option linter.unusedSimpArgs false

noncomputable section
def meta_Encode.f (a0 : ByteArray) : Option ByteArray := if a0.size ≤ 1099511627776 then some ⟨(B64.enc a0.data.toList).toArray⟩ else none
def meta_Encode.ERel (a0 : ByteArray) (w : World) (t : ByteArray) (acc : List UInt8) (wr : World) : Prop :=
 IsBld w.heap.size w.heap.size acc wr ∧ Below w.heap.size w wr ∧ acc ++ B64.enc t.data.toList = B64.enc a0.data.toList
def meta_Encode.wd (l : List UInt8) : Nat → Nat
 | 0 => 0
 | k + 1 => meta_Encode.wd l k * 256 + (l.getD k 0).toNat
theorem meta_Encode.wd_lt (l : List UInt8) (k : Nat) : meta_Encode.wd l k < 256 ^ k := by
 induction k with
 | zero => simp [meta_Encode.wd]
 | succ k ih => have := (l.getD k 0).toNat_lt; unfold meta_Encode.wd; omega
theorem meta_Encode.wd_bound (l : List UInt8) (k : Nat) (h : k < 3) : meta_Encode.wd l k < 65536 := by
 have := meta_Encode.wd_lt l k
 have : k = 0 ∨ k = 1 ∨ k = 2 := by omega
 rcases this with rfl | rfl | rfl <;> omega
theorem meta_Encode.wd_in (t : ByteArray) (k : Nat) (h : k < 3) (hl : k < t.size) : bits BinOp.or IntKind.u32 (↑(meta_Encode.wd t.data.toList k) * 256) (↑t[k].toNat % 4294967296) = ((meta_Encode.wd t.data.toList (k + 1) : Nat) : Int) := by
 have hb := meta_Encode.wd_bound t.data.toList k h
 have hc := t[k].toNat_lt
 rw [u32_or8 _ _ (by omega) (by omega) (by omega) (by omega) (by omega)]
 have e : t.data.toList.getD k 0 = t[k] := by
  rw [List.getD_eq_getElem?_getD, List.getElem?_eq_getElem (by rw [Array.length_toList]; exact hl)]
  rfl
 have e2 : meta_Encode.wd t.data.toList (k + 1) = meta_Encode.wd t.data.toList k * 256 + t[k].toNat := by rw [← e]; rfl
 rw [e2, Int.emod_eq_of_lt (by omega) (by omega)]
 omega
theorem meta_Encode.wd_out (t : ByteArray) (k : Nat) (hl : ¬ k < t.size) : ((meta_Encode.wd t.data.toList k : Nat) : Int) * 256 = ((meta_Encode.wd t.data.toList (k + 1) : Nat) : Int) := by
 have e : t.data.toList.getD k 0 = 0 := by
  rw [List.getD_eq_getElem?_getD, List.getElem?_eq_none (by rw [Array.length_toList]; exact Nat.not_lt.1 hl)]
  rfl
 conv => rhs; unfold meta_Encode.wd
 rw [e]
 simp
theorem meta_Encode.wd_three (l : List UInt8) : meta_Encode.wd l 3 = B64.word l := by
 simp only [meta_Encode.wd, B64.word]; omega
theorem meta_Encode.ba_list (t : ByteArray) : t.toList = t.data.toList := ByteArray.toList_eq t
theorem meta_Encode.ne_empty (t : ByteArray) (h : ¬ t.size = 0) : (!t.toList.isEmpty) = true := by
 rw [meta_Encode.ba_list]
 cases e : t.data.toList with
 | nil => exact absurd (by have := congrArg List.length e; rw [Array.length_toList] at this; exact this) h
 | cons _ _ => rfl
theorem meta_Encode.is_empty (t : ByteArray) (h : t.size = 0) : (!t.toList.isEmpty) = false := by
 have : t.data.toList = [] := List.length_eq_zero_iff.1 (by rw [Array.length_toList]; exact h)
 rw [meta_Encode.ba_list, this]
 rfl
theorem meta_Encode.letter_f (x : Nat) (h : x < 4294967296) : meta_letter.f (x : Int) = some ((B64.lt (x % 64) : Nat) : Int) := by
 unfold meta_letter.f B64.lt
 rw [u32_and63 _ (by omega) (by omega)]
 have e : ((x : Int) % 64) = ((x % 64 : Nat) : Int) := by omega
 rw [e]
 generalize hy : x % 64 = y
 have hy' : y < 64 := by omega
 by_cases h1 : y < 26
 · rw [if_pos (by omega), if_pos h1]; congr 1; omega
 rw [if_neg (by omega), if_neg h1]
 by_cases h2 : y < 52
 · rw [if_pos (by omega), if_pos h2]; congr 1; omega
 rw [if_neg (by omega), if_neg h2]
 by_cases h3 : y < 62
 · rw [if_pos (by omega), if_pos h3]; congr 1; omega
 rw [if_neg (by omega), if_neg h3]
 by_cases h4 : y = 62
 · rw [if_pos (by omega), if_pos h4]; rfl
 rw [if_neg (by omega), if_neg h4]; rfl
theorem meta_Encode.letter_at (x : Int) (n : Nat) (h : x = (n : Int)) (hn : n < 4294967296) (w : World) :
 Calls Tryz.prog 54 #[.int .u32 x] w fun e w' => e = .returned (.int .u8 ((B64.lt (n % 64) : Nat) : Int)) ∧ Drawn0 w w' := by
 subst h
 exact meta_letter.calls _ _ w (meta_Encode.letter_f n hn)
theorem meta_Encode.let8_of (n : Nat) : UInt8.ofNat ((B64.lt n : Nat) : Int).toNat = B64.let8 n := rfl
theorem meta_Encode.dsz (t : ByteArray) : t.data.toList.length = t.size := Array.length_toList
theorem meta_Encode.four0 (t : ByteArray) : (B64.four t.data.toList)[0]? = some (UInt8.ofNat ((B64.lt (meta_Encode.wd t.data.toList 3 / 262144 % 64) : Nat) : Int).toNat) := by
 rw [meta_Encode.wd_three]
 have := B64.word_lt t.data.toList
 show some (B64.let8 (B64.word t.data.toList / 262144)) = some (B64.let8 (B64.word t.data.toList / 262144 % 64))
 rw [Nat.mod_eq_of_lt (by omega)]
theorem meta_Encode.four1 (t : ByteArray) : (B64.four t.data.toList)[1]? = some (UInt8.ofNat ((B64.lt (meta_Encode.wd t.data.toList 3 / 4096 % 64) : Nat) : Int).toNat) := by
 rw [meta_Encode.wd_three]; rfl
theorem meta_Encode.four2 (t : ByteArray) (h : 2 ≤ t.size) : (B64.four t.data.toList)[2]? = some (UInt8.ofNat ((B64.lt (meta_Encode.wd t.data.toList 3 / 64 % 64) : Nat) : Int).toNat) := by
 rw [meta_Encode.wd_three]
 exact congrArg some (if_pos (by rw [meta_Encode.dsz]; omega))
theorem meta_Encode.four3 (t : ByteArray) (h : 3 ≤ t.size) : (B64.four t.data.toList)[3]? = some (UInt8.ofNat ((B64.lt (meta_Encode.wd t.data.toList 3 % 64) : Nat) : Int).toNat) := by
 rw [meta_Encode.wd_three]
 exact congrArg some (if_pos (by rw [meta_Encode.dsz]; omega))
theorem meta_Encode.fill2 (t : ByteArray) (h : t.size < 2) : (B64.four t.data.toList)[2]? = some (UInt8.ofNat (61 : Int).toNat) := congrArg some (if_neg (by rw [meta_Encode.dsz]; omega))
theorem meta_Encode.fill3 (t : ByteArray) (h : t.size < 3) : (B64.four t.data.toList)[3]? = some (UInt8.ofNat (61 : Int).toNat) := congrArg some (if_neg (by rw [meta_Encode.dsz]; omega))
theorem meta_Encode.enc_on (t : ByteArray) (h : 1 ≤ t.size) (acc l : List UInt8) (hl : acc ++ B64.enc t.data.toList = l) :
 (acc ++ (B64.four t.data.toList).take 4) ++ B64.enc (t.extract (if (t.size : Int) < 3 then (t.size : Int) else 3).toNat t.size).data.toList = l := by
 have e : (t.extract (if (t.size : Int) < 3 then (t.size : Int) else 3).toNat t.size).data.toList = t.data.toList.drop 3 := by
  rw [Lib.extract_data]
  have hd := meta_Encode.dsz t
  by_cases h3 : 3 ≤ t.size
  · have e3 : (if (t.size : Int) < 3 then (t.size : Int) else 3).toNat = 3 := by rw [if_neg (by omega)]; rfl
    rw [e3, List.take_of_length_le (by rw [List.length_drop]; omega)]
  have e3 : (if (t.size : Int) < 3 then (t.size : Int) else 3).toNat = t.size := by rw [if_pos (by omega)]; rfl
  rw [e3, List.drop_of_length_le (by omega), List.drop_of_length_le (by omega), List.take_nil]
 rw [e, List.take_of_length_le (by rw [B64.four_length]; omega), ← hl, B64.enc_step t.data.toList (by intro e0; have := meta_Encode.dsz t; rw [e0] at this; simp at this; omega), List.append_assoc]
theorem meta_Encode.size_le (t : ByteArray) (acc : List UInt8) (a0 : ByteArray) (h : acc ++ B64.enc t.data.toList = B64.enc a0.data.toList) (hs : a0.size ≤ 1099511627776) : t.size ≤ 9223372036854775807 := by
 have := congrArg List.length h
 rw [List.length_append, B64.enc_length, B64.enc_length, meta_Encode.dsz, meta_Encode.dsz] at this
 omega
theorem meta_Encode.acc_le (acc l m : List UInt8) (h : acc ++ l = B64.enc m) (hm : m.length ≤ 1099511627776) : acc.length ≤ 4398046511104 := by
 have := congrArg List.length h
 rw [List.length_append, B64.enc_length] at this
 omega
theorem meta_Encode.four_more (l : List UInt8) (k : Nat) (c : UInt8) (h : (B64.four l)[k]? = some c) : (B64.four l).take (k + 1) = (B64.four l).take k ++ [c] := by
 rw [List.take_add_one, h]; rfl
set_option maxHeartbeats 1600000 in
set_option maxRecDepth 100000 in
theorem meta_Encode.calls_ (a0 : ByteArray) (w : World) (hs : a0.size ≤ 1099511627776) :
 Calls Tryz.prog 26 #[.string a0] w fun e w' => e = .returned (.string ⟨(B64.enc a0.data.toList).toArray⟩) ∧ Below w.heap.size w w' := by
 go_enter Tryz.func26, Tryz.ntmps26
 go_wp2_with fail
 go_loopw [0] (fun s wr => ∃ (t : ByteArray) (acc : List UInt8), s = .string t ∧ meta_Encode.ERel a0 w t acc wr) (fun s wr => match s with | .string t => t.size | _ => 0)
 case atStart => exact ⟨a0, [], rfl, isBld_fresh w, (Below.refl _ w).alloc (Nat.le_refl _) _, rfl⟩
 case round =>
  obtain ⟨t, acc, rfl, hR⟩ := hrel
  by_cases hE : t.size = 0
  · have hne := meta_Encode.is_empty t hE
    obtain ⟨h1, h2, h3⟩ := hR
    have HE := Lib.hid hE
    have H3 := Lib.hid h3
    clear hE h3
    go_wp2_with fail
    refine (Tryz.Builder_String_any_f w.heap.size w.heap.size acc _ h1 h2.size).mono ?_
    rintro e w1 ⟨rfl, _, hb1⟩
    go_wp2
    go_ret
    have : t.data.toList = [] := List.length_eq_zero_iff.1 (by rw [Array.length_toList]; exact HE.out)
    have h3 := H3.out
    rw [this, B64.enc_nil, List.append_nil] at h3
    rw [h3]
    exact ⟨rfl, h2.trans hb1⟩
  have hne := meta_Encode.ne_empty t hE
  have hR' : Hid (meta_Encode.ERel a0 w t acc wr) := hR
  have hsz : t.size ≤ 9223372036854775807 := meta_Encode.size_le t acc a0 hR.2.2 hs
  have hE1 : Hid (¬ t.size = 0) := hE
  clear hE hR
  go_wp2_with fail
  go_loop [4, 14] (fun v i => ∃ k : Nat, k ≤ 3 ∧ i = .int .i64 k ∧ v = .int .u32 (meta_Encode.wd t.data.toList k)) (fun _ i => 3 - (intOf i).toNat)
  case atStart => exact ⟨0, by omega, rfl, rfl⟩
  case round =>
   obtain ⟨k, hk, rfl, rfl⟩ := hrel
   by_cases hk3 : k < 3
   · have hw2 := meta_Encode.wd_bound t.data.toList k hk3
     by_cases hlt : k < t.size
     · go_wp2
       go_round
       case rel => exact ⟨k + 1, by omega, by go_num, by rw [meta_Encode.wd_in t k hk3 hlt]⟩
       case measure => simp [intOf]; omega
     go_wp2
     go_round
     case rel => exact ⟨k + 1, by omega, by go_num, by rw [meta_Encode.wd_out t k hlt]⟩
     case measure => simp [intOf]; omega
   obtain rfl : k = 3 := by omega
   have hw3 := meta_Encode.wd_lt t.data.toList 3
   have hw4 : meta_Encode.wd t.data.toList 3 < 16777216 := by omega
   clear hw3 hk3 hk
   go_wp2_with fail
   go_loopw [30] (fun i wx => ∃ k : Nat, k ≤ 4 ∧ i = .int .i64 k ∧ IsBld w.heap.size w.heap.size (acc ++ (B64.four t.data.toList).take k) wx ∧ Below w.heap.size w wx) (fun i _ => 4 - (intOf i).toNat)
   case atStart => exact ⟨0, by omega, rfl, by simpa using hR'.out.1, hR'.out.2.1⟩
   case round =>
    obtain ⟨k, hk, rfl, hB, hb⟩ := hrel
    have HB := Lib.hid hB
    have Hb := Lib.hid hb
    clear hB hb
    have hs1 : 1 ≤ t.size := by have := hE1.out; omega
    have hlen : Hid (acc.length ≤ 4398046511104) := meta_Encode.acc_le acc _ _ hR'.out.2.2 (by rw [meta_Encode.dsz]; exact hs)
    obtain rfl | rfl | rfl | rfl | rfl : k = 0 ∨ k = 1 ∨ k = 2 ∨ k = 3 ∨ k = 4 := by omega
    · go_wp2_with fail
      refine (meta_Encode.letter_at _ (meta_Encode.wd t.data.toList 3 / 262144) (by omega) (by omega) _).mono ?_
      rintro e w1 ⟨rfl, hd⟩
      have HD := Lib.hid hd
      clear hd
      go_wp2_with fail
      refine (bld_byte w.heap.size w.heap.size _ _ _ (isBld_below HB.out HD.out.below) (by omega) (by have := (B64.lt_range _ (Nat.mod_lt (meta_Encode.wd t.data.toList 3 / 262144) (by decide : 0 < 64))); omega) (by have := hlen.out; simp; omega) (by have := Hb.out.size; have := HD.out.below.size; omega)).mono ?_
      rintro e w2 ⟨rfl, hB2, hb2⟩
      have HB2 := Lib.hid hB2
      have Hb2 := Lib.hid hb2
      clear hB2 hb2
      go_wp2
      go_roundw
      case rel => exact ⟨1, by omega, by go_num, by rw [meta_Encode.four_more _ 0 _ (meta_Encode.four0 t), ← List.append_assoc]; exact HB2.out, Hb.out.trans ((HD.out.below.mono Hb.out.size).trans Hb2.out)⟩
      case measure => simp [intOf]
    · go_wp2_with fail
      refine (meta_Encode.letter_at _ (meta_Encode.wd t.data.toList 3 / 4096) (by omega) (by omega) _).mono ?_
      rintro e w1 ⟨rfl, hd⟩
      have HD := Lib.hid hd
      clear hd
      go_wp2_with fail
      refine (bld_byte w.heap.size w.heap.size _ _ _ (isBld_below HB.out HD.out.below) (by omega) (by have := (B64.lt_range _ (Nat.mod_lt (meta_Encode.wd t.data.toList 3 / 4096) (by decide : 0 < 64))); omega) (by have := hlen.out; simp; omega) (by have := Hb.out.size; have := HD.out.below.size; omega)).mono ?_
      rintro e w2 ⟨rfl, hB2, hb2⟩
      have HB2 := Lib.hid hB2
      have Hb2 := Lib.hid hb2
      clear hB2 hb2
      go_wp2
      go_roundw
      case rel => exact ⟨2, by omega, by go_num, by rw [meta_Encode.four_more _ 1 _ (meta_Encode.four1 t), ← List.append_assoc]; exact HB2.out, Hb.out.trans ((HD.out.below.mono Hb.out.size).trans Hb2.out)⟩
      case measure => simp [intOf]
    · by_cases h2 : t.size < 2
      · go_wp2_with fail
        refine (bld_byte w.heap.size w.heap.size _ 61 _ HB.out (by omega) (by omega) (by have := hlen.out; simp; omega) Hb.out.size).mono ?_
        rintro e w2 ⟨rfl, hB2, hb2⟩
        have HB2 := Lib.hid hB2
        have Hb2 := Lib.hid hb2
        clear hB2 hb2
        go_wp2
        go_roundw
        case rel => exact ⟨3, by omega, by go_num, by rw [meta_Encode.four_more _ 2 _ (meta_Encode.fill2 t h2), ← List.append_assoc]; exact HB2.out, Hb.out.trans Hb2.out⟩
        case measure => simp [intOf]
      go_wp2_with fail
      refine (meta_Encode.letter_at _ (meta_Encode.wd t.data.toList 3 / 64) (by omega) (by omega) _).mono ?_
      rintro e w1 ⟨rfl, hd⟩
      have HD := Lib.hid hd
      clear hd
      go_wp2_with fail
      refine (bld_byte w.heap.size w.heap.size _ _ _ (isBld_below HB.out HD.out.below) (by omega) (by have := (B64.lt_range _ (Nat.mod_lt (meta_Encode.wd t.data.toList 3 / 64) (by decide : 0 < 64))); omega) (by have := hlen.out; simp; omega) (by have := Hb.out.size; have := HD.out.below.size; omega)).mono ?_
      rintro e w2 ⟨rfl, hB2, hb2⟩
      have HB2 := Lib.hid hB2
      have Hb2 := Lib.hid hb2
      clear hB2 hb2
      go_wp2
      go_roundw
      case rel => exact ⟨3, by omega, by go_num, by rw [meta_Encode.four_more _ 2 _ (meta_Encode.four2 t (by omega)), ← List.append_assoc]; exact HB2.out, Hb.out.trans ((HD.out.below.mono Hb.out.size).trans Hb2.out)⟩
      case measure => simp [intOf]
    · by_cases h3 : t.size < 3
      · go_wp2_with fail
        refine (bld_byte w.heap.size w.heap.size _ 61 _ HB.out (by omega) (by omega) (by have := hlen.out; simp; omega) Hb.out.size).mono ?_
        rintro e w2 ⟨rfl, hB2, hb2⟩
        have HB2 := Lib.hid hB2
        have Hb2 := Lib.hid hb2
        clear hB2 hb2
        go_wp2
        go_roundw
        case rel => exact ⟨4, by omega, by go_num, by rw [meta_Encode.four_more _ 3 _ (meta_Encode.fill3 t h3), ← List.append_assoc]; exact HB2.out, Hb.out.trans Hb2.out⟩
        case measure => simp [intOf]
      go_wp2_with fail
      refine (meta_Encode.letter_at _ (meta_Encode.wd t.data.toList 3) (by omega) (by omega) _).mono ?_
      rintro e w1 ⟨rfl, hd⟩
      have HD := Lib.hid hd
      clear hd
      go_wp2_with fail
      refine (bld_byte w.heap.size w.heap.size _ _ _ (isBld_below HB.out HD.out.below) (by omega) (by have := (B64.lt_range _ (Nat.mod_lt (meta_Encode.wd t.data.toList 3) (by decide : 0 < 64))); omega) (by have := hlen.out; simp; omega) (by have := Hb.out.size; have := HD.out.below.size; omega)).mono ?_
      rintro e w2 ⟨rfl, hB2, hb2⟩
      have HB2 := Lib.hid hB2
      have Hb2 := Lib.hid hb2
      clear hB2 hb2
      go_wp2
      go_roundw
      case rel => exact ⟨4, by omega, by go_num, by rw [meta_Encode.four_more _ 3 _ (meta_Encode.four3 t (by omega)), ← List.append_assoc]; exact HB2.out, Hb.out.trans ((HD.out.below.mono Hb.out.size).trans Hb2.out)⟩
      case measure => simp [intOf]
    go_wp2_with fail
    refine ⟨⟨_, acc ++ (B64.four t.data.toList).take 4, rfl, HB.out, Hb.out, meta_Encode.enc_on t hs1 acc _ hR'.out.2.2⟩, ?_⟩
    show (t.extract (if (t.size : Int) < 3 then (t.size : Int) else 3).toNat t.size).size < t.size
    rw [ByteArray.size_extract]
    split <;> omega
theorem meta_Encode.calls (a0 : ByteArray) (r : ByteArray) (w : World) (h : meta_Encode.f a0 = some r) :
 Calls Tryz.prog 26 #[.string a0] w fun e w' => e = .returned (.string r) ∧ Below w.heap.size w w' := by
 unfold meta_Encode.f at h
 split at h
 · injection h with h
   subst h
   exact meta_Encode.calls_ a0 w (by assumption)
 cases h

end
end Go.Proofs.YtfboejlemnfndaaGreatDoor.XMo
end
section
namespace Go.Proofs.YtfboejlemnfndaaGreatDoor.XMo
open Go.RowKit Go.Proofs.YtfboejlemnfndaaGreatDoorW.PrintWords Go.Proofs.YtfboejlemnfndaaGreatDoorW.PrintLast Go.Proofs.YtfboejlemnfndaaGreatDoorW.PrintMore
attribute [local go_sem] extract_sub max2_int min2_int max_two min_two max_three min_three max_four min_four   -- for this text's walks alone
set_option linter.unusedVariables false
set_option linter.unusedSimpArgs false

noncomputable section
noncomputable def strconv_FormatUint_80.f (a0 a1 : Int) : Option ByteArray := if 0 ≤ a0 ∧ a0 < 18446744073709551616 ∧ a1 = 10 then some ⟨(Lib.decDigits a0.toNat).toArray⟩ else none
theorem strconv_FormatUint_80.zeros (w : World) (T : TypeId) (nd : Nat) (hs : nd ≤ 24) : Sort.Holds (fun (b : UInt8) => Value.int .u8 (b.toNat : Int)) (w.alloc (.cells Lib.zeros24 T)) w.heap.size 0 (Array.replicate nd (0 : UInt8)) := fun j hj => by
 have hj' : j < nd := by simpa using hj
 refine ⟨?_, World.frozen?_alloc_new _ _ _ _⟩
 rw [World.cell?_alloc_new, Lib.zeros24_at _ (by omega), getElem!_pos _ j hj]
 simp
set_option maxRecDepth 1000000 in
theorem strconv_FormatUint_80.z24 : ∀ w, (zeroValue 137).run Tryz.prog w = .ok (Value.agg Lib.zeros24) w := fun _ => rfl
set_option maxRecDepth 1000000 in
theorem strconv_FormatUint_80.s24 : ∀ w, (Go.sizeOf 137).run Tryz.prog w = .ok 24 w := fun _ => rfl
set_option maxRecDepth 1000000 in
theorem strconv_FormatUint_80.a24 : ∀ w, (isAgg 137).run Tryz.prog w = .ok true w := fun _ => rfl
theorem strconv_FormatUint_80.len24 : Tryz.prog.arrayLen 137 = 24 := by kernel_rfl
set_option maxHeartbeats 4000000 in
set_option maxRecDepth 100000 in
theorem strconv_FormatUint_80.calls (a0 a1 : Int) (r : ByteArray) (w : World) (hv : Vars w) (h : strconv_FormatUint_80.f a0 a1 = some r) :
 Calls Tryz.prog 80 #[.int .u64 a0, .int .i64 a1] w fun e w' => e = .returned (.string r) ∧ Below w.heap.size w w' := by
 unfold strconv_FormatUint_80.f at h
 split at h
 · rename_i hh
   injection h with h
   subst h
   obtain ⟨h0, h1, rfl⟩ := hh
   obtain ⟨u, rfl⟩ : ∃ u : Nat, a0 = u := ⟨a0.toNat, by omega⟩
   rw [Int.toNat_natCast]
   have hu64 : u < 18446744073709551616 := by omega
   by_cases hs : u < 100
   · have hs' : (u : Int) < 100 := by omega
     go_enter Tryz.func80, Tryz.ntmps80
     go_wp2_with (go_at_call 97; refine (Tryz.internal_strconv_small u hs _).mono ?_; rintro e w' ⟨rfl, rfl⟩)
     go_ret
     exact ⟨rfl, Below.refl _ _⟩
   have hs' : ¬ (u : Int) < 100 := by omega
   have htab := hv.pow10
   have hnd20 : Lib.nDigits u ≤ 20 := by have := Lib.numDigits_eq u (by omega) hu64; split at this <;> omega
   have hnd24 : (Lib.nDigits u : Int) ≤ 24 := by omega
   have hsl1 : ∀ W, (Instr.sliceAt 137 (.pointer (some ⟨w.heap.size, 0, none⟩)) none (some (.int .i64 (Lib.nDigits u : Int))) none).run Tryz.prog W = .ok (.slice (some ⟨w.heap.size, 0, none⟩) (Lib.nDigits u) 24) W := fun W => by
    rw [run_sliceAt_array_h W 137 ⟨w.heap.size, 0, none⟩ (by simp [Program.arrayLen, Program.elem, Tryz.underlying137]) .i64 (Lib.nDigits u : Int) (by omega) (by rw [strconv_FormatUint_80.len24]; omega)]
    rw [strconv_FormatUint_80.len24]
    go_simp
   have hH0 := strconv_FormatUint_80.zeros w 137 (Lib.nDigits u) (by omega)
   have hfmt := Tryz.internal_strconv_formatBase10 w.heap.size 0 24 u (Array.replicate (Lib.nDigits u) 0) (w.alloc (.cells Lib.zeros24 137)) hH0 (by rw [Array.size_replicate]; exact Lib.lt_pow_nDigits u) hu64 (by rw [Array.size_replicate]; omega)
   rw [Array.size_replicate] at hfmt
   have HH0 := Lib.hid hH0
   have HF := Lib.hid hfmt
   have hz24 := strconv_FormatUint_80.z24
   have hs24 := strconv_FormatUint_80.s24
   have ha24 := strconv_FormatUint_80.a24
   clear hH0 hfmt
   go_enter Tryz.func80, Tryz.ntmps80
   go_wp2_with (go_at_call 98; refine (Tryz.internal_strconv_numDigits u (by omega) hu64 _ (Lib.tabIs_alloc htab _)).mono ?_; rintro e w' ⟨rfl, rfl⟩)
   go_at_call 99
   refine HF.out.mono ?_
   rintro e w' ⟨rfl, k, v', dk, rfl, hF⟩
   have hcv : (convert 70 9 (.slice (some ⟨w.heap.size, 0, none⟩) (Lib.nDigits u) 24)).run Tryz.prog ((Sort.putRow (fun (b : UInt8) => Value.int .u8 (b.toNat : Int)) (w.alloc (.cells Lib.zeros24 137)) w.heap.size 0 dk).drewN k) = .ok (.string ⟨(Lib.decDigits u).toArray⟩) ((Sort.putRow (fun (b : UInt8) => Value.int .u8 (b.toNat : Int)) (w.alloc (.cells Lib.zeros24 137)) w.heap.size 0 dk).drewN k) := by
    have h := run_convert_bytes_back (P := Tryz.prog) ((Sort.putRow (fun (b : UInt8) => Value.int .u8 (b.toNat : Int)) (w.alloc (.cells Lib.zeros24 137)) w.heap.size 0 dk).drewN k) 70 9 5 ⟨w.heap.size, 0, none⟩ 24 (Lib.decDigits u) Tryz.underlying70 Tryz.underlying5 Tryz.underlying9 (fun j hj => by
     rw [Lib.row_is_numeral hF j hj, Lib.add_plain, World.cell?_drewN]
     exact Sort.cell?_putRow (fun (b : UInt8) => Value.int .u8 (b.toNat : Int)) _ w.heap.size 0 _ dk HH0.out (by rw [hF.size, Array.size_replicate]) j (by rw [hF.size]; rw [Lib.decDigits_length] at hj; exact hj))
    rw [Lib.decDigits_length] at h
    exact h
   go_wp2
   go_ret
   obtain ⟨os, eo⟩ : ∃ os, (Sort.putRow (fun (b : UInt8) => Value.int .u8 (b.toNat : Int)) (w.alloc (.cells Lib.zeros24 137)) w.heap.size 0 dk).drewN k = Sort.grow (w.drewN k) os := by
    rw [Sort.alloc_eq_grow]
    obtain ⟨os', _, e⟩ := Sort.putRow_grow_new (fun (b : UInt8) => Value.int .u8 (b.toNat : Int)) w #[.cells Lib.zeros24 137] w.heap.size 0 dk (Nat.le_refl _)
    exact ⟨os', by rw [e]; rfl⟩
   refine ⟨rfl, ?_⟩
   rw [eo]
   exact Lib.below_grow _ _ (Nat.le_refl _) _ _
 cases h

end
end Go.Proofs.YtfboejlemnfndaaGreatDoor.XMo
end
section
namespace Go.Proofs.YtfboejlemnfndaaGreatDoor.XMo
open Go.RowKit Go.Proofs.YtfboejlemnfndaaGreatDoorW.PrintWords Go.Proofs.YtfboejlemnfndaaGreatDoorW.PrintLast Go.Proofs.YtfboejlemnfndaaGreatDoorW.PrintMore
attribute [local go_sem] extract_sub max2_int min2_int max_two min_two max_three min_three max_four min_four   -- for this text's walks alone
set_option linter.unusedVariables false
set_option linter.unusedSimpArgs false

noncomputable section
def strconv_FormatUint_62.f (a0 : Int) (a1 : Int) : Option (ByteArray) := (strconv_FormatUint_80.f a0 a1).bind fun t152 => (some t152)
set_option maxHeartbeats 8000000 in
set_option maxRecDepth 100000 in
theorem strconv_FormatUint_62.calls (a0 : Int) (a1 : Int) (r : ByteArray) (w : World) (hv : Vars w) (h : strconv_FormatUint_62.f a0 a1 = some r) :
 Calls Tryz.prog 62 #[.int .u64 a0, .int .i64 a1] w fun e w' => e = .returned (.string r) ∧ Below w.heap.size w w' := by
 have HV := Aside0.mk hv
 clear hv
 have HB := Aside0.mk (Below.refl w.heap.size w)
 have H : ((strconv_FormatUint_80.f a0 a1).bind fun t152 => (some t152)) = some r := h
 clear h
 replace H := Option.bind_eq_some_iff.mp H
 obtain ⟨t152, A30, H⟩ := H
 replace H : (some t152) = some r := H
 have A3 := Aside0.mk A30
 clear A30
 obtain rfl := Option.some.inj H
 go_enter Tryz.func62, Tryz.ntmps62
 go_wp2_with (first | ((with_reducible refine gate_callee (f := 80) rfl ?_); refine goesL_ (some 7) rfl rfl Tryz.func80 (by kernel_rfl) rfl #[.int .u64 a0, .int .i64 a1] rfl argA ?_; (with_reducible refine (strconv_FormatUint_80.calls a0 a1 t152 _ ?side1 A3.out).mono ?_); (case side1 => exact Vars.below HV.out (hbA HB.out)); rintro e w4 ⟨rfl, hb⟩; refine ⟨_, rfl, ?_⟩; replace HB := Aside0.mk (below_step (hbA HB.out) hb); (try clear hb); (try clear hb2); (try clear hk); (try clear hi)))
 go_ret
 exact ⟨reA, hbA HB.out⟩

def digits_Text.f (a0 : Int) : Option (ByteArray) := (strconv_FormatUint_62.f a0 10).bind fun t153 => (some t153)
set_option maxHeartbeats 8000000 in
set_option maxRecDepth 100000 in
theorem digits_Text.calls (a0 : Int) (r : ByteArray) (w : World) (hv : Vars w) (h : digits_Text.f a0 = some r) :
 Calls Tryz.prog 30 #[.int .u64 a0] w fun e w' => e = .returned (.string r) ∧ Below w.heap.size w w' := by
 have HV := Aside0.mk hv
 clear hv
 have HB := Aside0.mk (Below.refl w.heap.size w)
 have H : ((strconv_FormatUint_62.f a0 10).bind fun t153 => (some t153)) = some r := h
 clear h
 replace H := Option.bind_eq_some_iff.mp H
 obtain ⟨t153, A20, H⟩ := H
 replace H : (some t153) = some r := H
 have A2 := Aside0.mk A20
 clear A20
 obtain rfl := Option.some.inj H
 go_enter Tryz.func30, Tryz.ntmps30
 go_wp2_with (first | ((with_reducible refine gate_callee (f := 62) rfl ?_); refine goesL_ (some 4) rfl rfl Tryz.func62 (by kernel_rfl) rfl #[.int .u64 a0, .int .i64 10] rfl argA ?_; (with_reducible refine (strconv_FormatUint_62.calls a0 10 t153 _ ?side1 A2.out).mono ?_); (case side1 => exact Vars.below HV.out (hbA HB.out)); rintro e w3 ⟨rfl, hb⟩; refine ⟨_, rfl, ?_⟩; replace HB := Aside0.mk (below_step (hbA HB.out) hb); (try clear hb); (try clear hb2); (try clear hk); (try clear hi)))
 go_ret
 exact ⟨reA, hbA HB.out⟩

end
end Go.Proofs.YtfboejlemnfndaaGreatDoor.XMo
end
section
namespace Go.Proofs.YtfboejlemnfndaaGreatDoor.XMo
open Go.RowKit Go.Proofs.YtfboejlemnfndaaGreatDoorW.PrintWords Go.Proofs.YtfboejlemnfndaaGreatDoorW.PrintLast Go.Proofs.YtfboejlemnfndaaGreatDoorW.PrintMore
attribute [local go_sem] extract_sub max2_int min2_int max_two min_two max_three min_three max_four min_four   -- for this text's walks alone
set_option linter.unusedVariables false
set_option linter.unusedSimpArgs false

noncomputable section
def strings_Join.f (a0 : List ByteArray) (a1 : ByteArray) : Option ByteArray :=
 if a0.length ≤ 140737488355328 ∧ (Lib.join (a0.map (·.data.toList)) a1.data.toList).length ≤ 140737488355328 then some ⟨(Lib.join (a0.map (·.data.toList)) a1.data.toList).toArray⟩ else none
theorem strings_Join.spot (w : World) (ad : Addr) (v : Value) (h : w.cell? ad = some v) : ad.spot = none ∧ ad.block < w.heap.size := by
 refine ⟨?_, cell_lt h⟩
 unfold World.cell? at h
 split at h
 · split at h
   · cases h
   rename_i hs; simpa using hs
 cases h
theorem strings_Join.calls (A0 : Option Addr) (c0 : Nat) (l0 : List ByteArray) (a1 : ByteArray) (r : ByteArray) (w : World) (hr0 : Kd.C Kd.string w A0 l0.length l0) (hc0 : l0.length ≤ c0) (h : strings_Join.f l0 a1 = some r) :
 Calls Tryz.prog 31 #[.slice A0 l0.length c0, .string a1] w fun e w' => e = .returned (.string r) ∧ Below w.heap.size w w' := by
 unfold strings_Join.f at h
 split at h
 · rename_i hh
   injection h with h
   subst h
   cases l0 with
   | nil => exact (Tryz.strings_Join_none A0 c0 a1 w).mono fun e w' ⟨he, hw⟩ => ⟨he, hw ▸ Below.refl _ _⟩
   | cons x rest =>
    obtain ⟨_, _, hA⟩ := hr0
    obtain ⟨ad, rfl, hcell⟩ := hA (by simp)
    have one : ∀ (j : Nat) y, (x :: rest)[j]? = some y → w.cell? (ad.add j) = some (.string y) := by
     intro j y hy
     obtain ⟨c, _, hK, hu⟩ := hcell j y hy
     have hK' : c = [.string y] := hK
     subst hK'
     have e := hu 0 (.string y) rfl
     have es : Kd.string.sz = 1 := rfl
     rw [es, Nat.mul_one, Nat.add_zero] at e
     exact e
    have h0 := one 0 x rfl
    rw [show ad.add 0 = ad from by unfold Addr.add; rw [if_pos rfl]] at h0
    obtain ⟨hs, hb⟩ := strings_Join.spot w ad _ h0
    obtain ⟨b, o, s⟩ := ad
    obtain rfl : s = none := hs
    exact Tryz.strings_Join b o c0 (x :: rest) a1 w (fun j y hy => by rw [← Lib.add_plain]; exact one j y hy) hb hh.1 hc0 hh.2
 cases h

end
end Go.Proofs.YtfboejlemnfndaaGreatDoor.XMo
end
