/- Put together by wip/pack.py (this session's own program) out of this session's texts; a kit's tool laid the words and the shelf, of which only what is used stands here. Lean checks it. -/
import Derived.Test.YtfboejlemnfndaaGreatDoorPMk5
import Derived.Deep.DeepCutAuto
import Derived.Below
import Derived.Shelf.SlicesE.Clone
import Derived.Lib.Hide
section
namespace Go.Proofs.YtfboejlemnfndaaGreatDoor.Srt
open Go.Shelf Go.RowKit Go.Lib Go.Sort
variable {α : Type} [Inhabited α]
structure Told (key : α → Int) (enc : α → List Value) (k g : Nat) (cb : Array Value) (w0 : World) (blk off : Nat) (d0 : Array α) (sz : Nat) : Prop where
  zE : ∀ w, (Go.sizeOf 61).run Tryz.prog w = .ok k w
  R : RowK enc k w0 blk off d0
  hs : d0.size = sz
  hsz : sz < 4611686018427387904
  cf : ∃ cf : α → α → Int, CmpLays Tryz.prog g cb enc k cf blk off d0.size w0 ∧ ∀ x y, cf x y < 0 ↔ key x < key y
  eg : ∀ args w, (callFunc g args).run Tryz.prog w = .ok (.enter g args) w

set_option maxHeartbeats 4000000 in
set_option maxRecDepth 1000000 in
theorem symA (key : α → Int) (enc : α → List Value) (k g : Nat) (cb : Array Value) (blk off cap sz : Nat) (d0 d : Array α) (w0 w : World) (P : List α) (x : α) (Y Q : List α)
    (T : Told key enc k g cb w0 blk off d0 sz) (S : SWK enc k w0 blk off d w) (hd : d.toList = P ++ [x] ++ Y ++ Q) (hds : d.size = sz) (hY : 0 < Y.length) (hr : Rising key Y) :
    Calls Tryz.prog 88 #[.slice (some ⟨blk, off, none⟩) sz cap, .int .i64 (P.length : Int), .int .i64 ((P.length : Int) + 1), .int .i64 ((P.length : Int) + 1 + Y.length), .func (.func g) #[] cb] w fun e w' =>
      e = .returned (.tuple #[]) ∧ ∃ (d' : Array α) (Z : List α), Hid (d'.toList = P ++ Z ++ Q) ∧ Aside (SWK enc k w0 blk off d' w') ∧ Hid (Rising key Z ∧ Same key ([x] ++ Y) Z) := by
  have mixed := types.mixed
  have aE := types.aE
  have zE := T.zE
  have uS := types.uS
  obtain ⟨cf, hC, hcf⟩ := T.cf
  have eg := T.eg
  have R := T.R
  have HC : Aside _ := hC
  have HF : Hid (∀ x y, cf x y < 0 ↔ key x < key y) := hcf
  have S0 : Aside (SWK enc k w0 blk off d w) := S
  have HD : Hid (d.toList = P ++ [x] ++ Y ++ Q) := hd
  have HS : Aside (d.size = sz ∧ d.size = d0.size) := ⟨hds, by rw [hds, T.hs]⟩
  have HR : Aside (Rising key Y) := hr
  have hsz := T.hsz
  have hlen : P.length + 1 + Y.length + Q.length = sz := by
    rw [← hds, size_of hd]; simp only [List.length_append, List.length_singleton]
  have hx : d[P.length]! = x := at_mid (A := P) (B := Y ++ Q) (by rw [hd]; simp) rfl
  have HX : Hid (d[P.length]! = x) := hx
  have HYat : Hid (∀ t (ht : t < Y.length), d[P.length + 1 + t]! = Y[t]) := fun t ht => at_part (P := P ++ [x]) (X := Y) (Q := Q) hd ht (by rw [List.length_append, List.length_singleton])
  clear S hd hds hr hC hcf hx
  have w1 : IntKind.i64.wrap ((P.length : Int) + 1 - (P.length : Int)) = 1 := by rw [IntKind.wrap_i64]; omega
  go_enter Tryz.func88, Tryz.ntmps88
  go_wp2
  go_loopg [10, 11] Y.length (fun kx s10 s11 wr => ∃ (i j : Nat), s10 = .int .i64 ((P.length : Int) + 1 + (i : Int)) ∧ s11 = .int .i64 ((P.length : Int) + 1 + (j : Int)) ∧ i ≤ j ∧ j ≤ Y.length ∧ j - i ≤ kx ∧
    Hid (∀ t (ht : t < Y.length), t < i → key Y[t] < key x) ∧ Hid (∀ t (ht : t < Y.length), j ≤ t → key x ≤ key Y[t]) ∧ Aside (SWK enc k w0 blk off d wr))
  case atStart => exact ⟨0, Y.length, by first | rfl | (congr 1; omega), rfl, by omega, by omega, by omega, fun t ht h => absurd h (by omega), fun t ht h => absurd h (by omega), S0⟩
  case round =>
    clear S0 w1
    obtain ⟨i, j, rfl, rfl, hij, hjY, hkx, HI, HJ, S1⟩ := hrel
    by_cases hlt : i < j
    · have hltz : (P.length : Int) + 1 + (i : Int) < (P.length : Int) + 1 + (j : Int) := by omega
      obtain ⟨h, hh⟩ : ∃ h : Nat, h = (i + j) / 2 := ⟨_, rfl⟩
      have eh : ((P.length : Int) + 1 + (i : Int) + ((P.length : Int) + 1 + (j : Int))) / 2 = (P.length : Int) + 1 + (h : Int) := by omega
      have hhY : h < Y.length := by omega
      have hhi : i ≤ h ∧ h < j := by omega
      clear hh
      go_wp2_with fail
      try rw [eh]
      have HH : Aside (i ≤ h ∧ h < j) := hhi
      have HL : Aside (P.length + 1 + Y.length + Q.length = sz) := hlen
      have ea24 : ((P.length : Int) + 1 + (h : Int)).toNat = P.length + 1 + h := by omega
      have pa24 : (0 : Int) ≤ (P.length : Int) + 1 + (h : Int) := by omega
      have ba24 : (P.length : Int) + 1 + (h : Int) < (sz : Int) := by omega
      have ec24 : ((P.length : Int)).toNat = P.length := by omega
      have pc24 : (0 : Int) ≤ (P.length : Int) := by omega
      have bc24 : (P.length : Int) < (sz : Int) := by omega
      have g1 : P.length + 1 + h < d.size := by rw [HS.out.1]; omega
      have g2 : P.length < d.size := by rw [HS.out.1]; omega
      have l24a := S1.out.ld R HS.out.2 Tryz.prog (P.length + 1 + h) g1
      have l24b := S1.out.ld R HS.out.2 Tryz.prog P.length g2
      rw [HYat.out h hhY] at l24a
      rw [HX.out] at l24b
      obtain ⟨y24, hy24⟩ : ∃ y, y = Y[h] := ⟨_, rfl⟩
      rw [← hy24] at l24a
      have hc24 := S1.out.cmp HC.out HS.out.2 y24 x
      have HY24 : Aside (y24 = Y[h]) := hy24
      clear hlen eh hhi hy24 g1 g2
      by_cases hcmp : cf y24 x < 0
      · have hv24 : decide (cf y24 x < 0) = true := decide_eq_true hcmp
        have hk := (HF.out _ _).1 hcmp
        have HK : Aside (key y24 < key x) := hk
        clear hk
        go_wp2_with fail
        go_quiet_grown (first | (go_at_fn g; refine Calls.grown_of (hc24 _ _)))
        have S2 : Aside (SWK enc k w0 blk off d (grow (wr.drewN nq) osq)) := S1.out.grown nq osq
        clear l24a l24b hc24 S1
        generalize grow (wr.drewN nq) osq = w2 at S2 ⊢
        clear nq osq
        go_wp2
        go_roundg (j - (h + 1))
        case measure => have := HH.out; omega
        case rel =>
          have hhi := HH.out
          refine ⟨h + 1, j, by first | rfl | (congr 1; omega), rfl, by omega, hjY, Nat.le_refl _, ?_, HJ, S2⟩
          intro t ht hth
          have h1 := rising_le HR.out (i := t) (j := h) (by omega) hhY
          have h2 := HK.out
          rw [HY24.out] at h2
          omega
      · have hv24 : decide (cf y24 x < 0) = false := decide_eq_false hcmp
        have hk : ¬ key y24 < key x := fun hk => hcmp ((HF.out _ _).2 hk)
        have HK : Aside (¬ key y24 < key x) := hk
        clear hk
        go_wp2_with fail
        go_quiet_grown (first | (go_at_fn g; refine Calls.grown_of (hc24 _ _)))
        have S2 : Aside (SWK enc k w0 blk off d (grow (wr.drewN nq) osq)) := S1.out.grown nq osq
        clear l24a l24b hc24 S1
        generalize grow (wr.drewN nq) osq = w2 at S2 ⊢
        clear nq osq
        go_wp2
        go_roundg (h - i)
        case measure => have := HH.out; omega
        case rel =>
          have hhi := HH.out
          refine ⟨i, h, rfl, by first | rfl | (congr 1; omega), by omega, by omega, Nat.le_refl _, HI, ?_, S2⟩
          intro t ht hth
          have h1 := rising_le HR.out (i := h) (j := t) hth ht
          have h2 := HK.out
          rw [HY24.out] at h2
          omega
    · have hltz : ¬ (P.length : Int) + 1 + (i : Int) < (P.length : Int) + 1 + (j : Int) := by omega
      obtain rfl : i = j := by omega
      -- the exchanges
      have bi : IntKind.i64.wrap ((P.length : Int) + 1 + (i : Int) - 1) = (P.length : Int) + (i : Int) := by rw [IntKind.wrap_i64]; omega
      have HL : Aside (P.length + 1 + Y.length + Q.length = sz) := hlen
      have HIY : Aside (i ≤ Y.length) := hjY
      clear hlen hij hkx hjY
      go_wp2
      go_loopg [13] i (fun ky s13 wr2 => ∃ (c : Nat) (dk : Array α) (Ya Yb : List α), s13 = .int .i64 ((P.length : Int) + (c : Int)) ∧ Aside (c ≤ i ∧ Ya.length = c ∧ Y = Ya ++ Yb) ∧ i - c ≤ ky ∧ Hid (dk.toList = P ++ Ya ++ [x] ++ Yb ++ Q) ∧ Aside (dk.size = sz ∧ dk.size = d0.size) ∧ Aside (SWK enc k w0 blk off dk wr2))
      case atStart => exact ⟨0, d, [], Y, by first | rfl | (congr 1; omega), (show 0 ≤ i ∧ _ ∧ _ from ⟨by omega, rfl, rfl⟩), by omega, by show d.toList = _; rw [HD.out]; simp, HS, S1⟩
      case round =>
        clear S1
        obtain ⟨c, dk, Ya, Yb, rfl, HCc, hky, HE, HT, S1⟩ := hrel
        by_cases hci : c < i
        · have hciz : (P.length : Int) + (c : Int) < (P.length : Int) + (i : Int) := by omega
          have hY := HCc.out.2.2
          have hYa := HCc.out.2.1
          cases Yb with
          | nil => exfalso; have e := congrArg List.length hY; rw [List.append_nil] at e; have := HIY.out; omega
          | cons y Yb =>
            have hlen : P.length + c + 1 < sz := by have := HL.out; have e := congrArg List.length hY; simp only [List.length_append, List.length_cons] at e; omega
            have b1 : (P.length : Int) + (c : Int) < (sz : Int) ∧ (P.length : Int) + (c : Int) + 1 < (sz : Int) := by omega
            have b2 : P.length + c < dk.size ∧ P.length + c + 1 < dk.size := by rw [HT.out.1]; omega
            have HB2 : Aside (P.length + c < dk.size ∧ P.length + c + 1 < dk.size) := b2
            have HYa : Aside (Ya.length = c) := hYa
            clear hY hYa hlen b2
            have ea44 : ((P.length : Int) + (c : Int)).toNat = P.length + c := by omega
            have pa44 : (0 : Int) ≤ (P.length : Int) + (c : Int) := by omega
            have ba44 := b1.1
            have ec44 : ((P.length : Int) + (c : Int) + 1).toNat = P.length + c + 1 := by omega
            have pc44 : (0 : Int) ≤ (P.length : Int) + (c : Int) + 1 := by omega
            have bc44 := b1.2
            have rc44 : IntKind.i64.wrap ((P.length : Int) + (c : Int) + 1) = (P.length : Int) + (c : Int) + 1 := by rw [IntKind.wrap_i64]; omega
            have S2 : Aside (SWK enc k w0 blk off (swp dk (P.length + c) (P.length + c + 1)) ((wr.drew.setCells blk (off + (P.length + c) * k) (enc dk[P.length + c + 1]!)).setCells blk (off + (P.length + c + 1) * k) (enc dk[P.length + c]!))) := S1.out.swapped R (P.length + c) (P.length + c + 1) HB2.out.1 HB2.out.2
            have l44a := S1.out.ld1 R HT.out.2 Tryz.prog (P.length + c) HB2.out.1
            have l44b := S1.out.ld1 R HT.out.2 Tryz.prog (P.length + c + 1) HB2.out.2
            have s44a := S1.out.st1 R HT.out.2 Tryz.prog (P.length + c) HB2.out.1 dk[P.length + c + 1]!
            have s44b := S1.out.st2 R HT.out.2 Tryz.prog (P.length + c) (P.length + c + 1) HB2.out.1 HB2.out.2 dk[P.length + c + 1]! dk[P.length + c]!
            have n44a : (enc dk[P.length + c]!).length = k := R.hk _
            have n44b : (enc dk[P.length + c + 1]!).length = k := R.hk _
            generalize enc dk[P.length + c]! = cI44 at S2 l44a s44b n44a
            generalize enc dk[P.length + c + 1]! = cJ44 at S2 l44b s44a s44b n44b
            clear S1 b1
            go_wp2_with fail
            go_big_region_o
            clear l44a l44b s44a s44b
            generalize (wr.drew.setCells blk (off + (P.length + c) * k) cJ44).setCells blk (off + (P.length + c + 1) * k) cI44 = w2 at S2 ⊢
            go_wp2
            go_roundg (i - (c + 1))
            case measure => omega
            case rel =>
              have hsw := (swp_list (A := P ++ Ya) (B := []) (C := Yb ++ Q) (x := x) (y := y) (d := dk) (by rw [HE.out]; simp) (i := P.length + c) (j := P.length + c + 1) (by rw [List.length_append, HYa.out]) (by simp)).1
              refine ⟨c + 1, _, Ya ++ [y], Yb, by first | rfl | (congr 1; omega), (show c + 1 ≤ i ∧ _ ∧ _ from ⟨by omega, by rw [List.length_append, HYa.out]; rfl, by rw [HCc.out.2.2]; simp⟩), Nat.le_refl _, ?_, (show _ ∧ _ from ⟨by rw [size_swp]; exact HT.out.1, by rw [size_swp]; exact HT.out.2⟩), S2⟩
              show _ = _
              rw [hsw]
              simp
        · have hciz : ¬ (P.length : Int) + (c : Int) < (P.length : Int) + (i : Int) := by omega
          go_wp2
          (try simp only [Exit.inBlock, Exit.then]); refine bodyPost_ret (results_none rfl _ _ _) rfl ?_
          have hc1 := HCc.out.1
          obtain rfl : c = i := by omega
          have hY := HCc.out.2.2
          have hYa := HCc.out.2.1
          refine ⟨rfl, dk, Ya ++ x :: Yb, ?_, S1, ?_⟩
          · show _ = _
            rw [HE.out]; simp
          · show _ ∧ _
            have hr := HR.out
            have hI := HI.out
            have hJ := HJ.out
            clear HI HJ HR HYat
            subst hY
            have := put_first (x := x) hr (fun z hz => ?_) (fun z hz => ?_)
            · simpa using this
            · obtain ⟨t, ht, rfl⟩ := List.getElem_of_mem hz
              have h1 := hI t (by rw [List.length_append]; omega) (by omega)
              rw [List.getElem_append_left ht] at h1
              exact h1
            · obtain ⟨t, ht, rfl⟩ := List.getElem_of_mem hz
              have h1 := hJ (c + t) (by rw [List.length_append]; omega) (by omega)
              rw [List.getElem_append_right (by omega)] at h1
              simpa [hYa] using h1
end Go.Proofs.YtfboejlemnfndaaGreatDoor.Srt
end
section
namespace Go.Proofs.YtfboejlemnfndaaGreatDoor.Srt
open Go.Shelf Go.RowKit Go.Lib Go.Sort
variable {α : Type} [Inhabited α]

set_option maxHeartbeats 4000000 in
set_option maxRecDepth 1000000 in
theorem symB (key : α → Int) (enc : α → List Value) (k g : Nat) (cb : Array Value) (blk off cap sz : Nat) (d0 d : Array α) (w0 w : World) (P : List α) (X : List α) (y : α) (Q : List α)
    (T : Told key enc k g cb w0 blk off d0 sz) (S : SWK enc k w0 blk off d w) (hd : d.toList = P ++ X ++ [y] ++ Q) (hds : d.size = sz) (hX : 1 < X.length) (hr : Rising key X) :
    Calls Tryz.prog 88 #[.slice (some ⟨blk, off, none⟩) sz cap, .int .i64 (P.length : Int), .int .i64 ((P.length : Int) + X.length), .int .i64 ((P.length : Int) + X.length + 1), .func (.func g) #[] cb] w fun e w' =>
      e = .returned (.tuple #[]) ∧ ∃ (d' : Array α) (Z : List α), Hid (d'.toList = P ++ Z ++ Q) ∧ Aside (SWK enc k w0 blk off d' w') ∧ Hid (Rising key Z ∧ Same key (X ++ [y]) Z) := by
  have mixed := types.mixed
  have aE := types.aE
  have zE := T.zE
  have uS := types.uS
  obtain ⟨cf, hC, hcf⟩ := T.cf
  have eg := T.eg
  have R := T.R
  have HC : Aside _ := hC
  have HF : Hid (∀ x y, cf x y < 0 ↔ key x < key y) := hcf
  have S0 : Aside (SWK enc k w0 blk off d w) := S
  have HD : Hid (d.toList = P ++ X ++ [y] ++ Q) := hd
  have HS : Aside (d.size = sz ∧ d.size = d0.size) := ⟨hds, by rw [hds, T.hs]⟩
  have HR : Aside (Rising key X) := hr
  have hsz := T.hsz
  have hlen : P.length + X.length + 1 + Q.length = sz := by
    rw [← hds, size_of hd]; simp only [List.length_append, List.length_singleton]
  have hx : d[P.length + X.length]! = y := at_mid (A := P ++ X) (B := Q) (by rw [hd]; simp) (by rw [List.length_append])
  have HX : Hid (d[P.length + X.length]! = y) := hx
  have HXat : Hid (∀ t (ht : t < X.length), d[P.length + t]! = X[t]) := fun t ht => at_part (P := P) (X := X) (Q := [y] ++ Q) (by rw [hd]; simp) ht rfl
  clear S hd hds hr hC hcf hx
  have w1 : IntKind.i64.wrap ((P.length : Int) + (X.length : Int) - (P.length : Int)) = (X.length : Int) := by rw [IntKind.wrap_i64]; omega
  have w2 : IntKind.i64.wrap ((P.length : Int) + (X.length : Int) + 1 - ((P.length : Int) + (X.length : Int))) = 1 := by rw [IntKind.wrap_i64]; omega
  have w3 : ((X.length : Int) == 1) = false := beq_eq_false_iff_ne.2 (by omega)
  go_enter Tryz.func88, Tryz.ntmps88
  go_wp2
  go_loopg [14, 15] X.length (fun kx s14 s15 wr => ∃ (i j : Nat), s14 = .int .i64 ((P.length : Int) + (i : Int)) ∧ s15 = .int .i64 ((P.length : Int) + (j : Int)) ∧ i ≤ j ∧ j ≤ X.length ∧ j - i ≤ kx ∧
    Hid (∀ t (ht : t < X.length), t < i → key X[t] ≤ key y) ∧ Hid (∀ t (ht : t < X.length), j ≤ t → key y < key X[t]) ∧ Aside (SWK enc k w0 blk off d wr))
  case atStart => exact ⟨0, X.length, by first | rfl | (congr 1; omega), by first | rfl | (congr 1; omega), by omega, by omega, by omega, fun t ht h => absurd h (by omega), fun t ht h => absurd h (by omega), S0⟩
  case round =>
    clear S0 w1 w2 w3
    obtain ⟨i, j, rfl, rfl, hij, hjY, hkx, HI, HJ, S1⟩ := hrel
    by_cases hlt : i < j
    · have hltz : (P.length : Int) + (i : Int) < (P.length : Int) + (j : Int) := by omega
      obtain ⟨h, hh⟩ : ∃ h : Nat, h = (i + j) / 2 := ⟨_, rfl⟩
      have eh : ((P.length : Int) + (i : Int) + ((P.length : Int) + (j : Int))) / 2 = (P.length : Int) + (h : Int) := by omega
      have hhY : h < X.length := by omega
      have hhi : i ≤ h ∧ h < j := by omega
      clear hh
      go_wp2_with fail
      try rw [eh]
      have HH : Aside (i ≤ h ∧ h < j) := hhi
      have HL : Aside (P.length + X.length + 1 + Q.length = sz) := hlen
      have ea24 : ((P.length : Int) + (X.length : Int)).toNat = P.length + X.length := by omega
      have pa24 : (0 : Int) ≤ (P.length : Int) + (X.length : Int) := by omega
      have ba24 : (P.length : Int) + (X.length : Int) < (sz : Int) := by omega
      have ec24 : ((P.length : Int) + (h : Int)).toNat = P.length + h := by omega
      have pc24 : (0 : Int) ≤ (P.length : Int) + (h : Int) := by omega
      have bc24 : (P.length : Int) + (h : Int) < (sz : Int) := by omega
      have g1 : P.length + X.length < d.size := by rw [HS.out.1]; omega
      have g2 : P.length + h < d.size := by rw [HS.out.1]; omega
      have l24a := S1.out.ld R HS.out.2 Tryz.prog (P.length + X.length) g1
      have l24b := S1.out.ld R HS.out.2 Tryz.prog (P.length + h) g2
      rw [HX.out] at l24a
      rw [HXat.out h hhY] at l24b
      obtain ⟨x24, hx24⟩ : ∃ x, x = X[h] := ⟨_, rfl⟩
      rw [← hx24] at l24b
      have hc24 := S1.out.cmp HC.out HS.out.2 y x24
      have HY24 : Aside (x24 = X[h]) := hx24
      clear hlen eh hhi hx24 g1 g2
      by_cases hcmp : cf y x24 < 0
      · have hv24 : decide (cf y x24 < 0) = true := decide_eq_true hcmp
        have hk := (HF.out _ _).1 hcmp
        have HK : Aside (key y < key x24) := hk
        clear hk
        go_wp2_with fail
        go_quiet_grown (first | (go_at_fn g; refine Calls.grown_of (hc24 _ _)))
        have S2 : Aside (SWK enc k w0 blk off d (grow (wr.drewN nq) osq)) := S1.out.grown nq osq
        clear l24a l24b hc24 S1
        generalize grow (wr.drewN nq) osq = w2 at S2 ⊢
        clear nq osq
        go_wp2
        go_roundg (h - i)
        case measure => have := HH.out; omega
        case rel =>
          have hhi := HH.out
          refine ⟨i, h, rfl, by first | rfl | (congr 1; omega), by omega, by omega, Nat.le_refl _, HI, ?_, S2⟩
          intro t ht hth
          have h1 := rising_le HR.out (i := h) (j := t) hth ht
          have h2 := HK.out
          rw [HY24.out] at h2
          omega
      · have hv24 : decide (cf y x24 < 0) = false := decide_eq_false hcmp
        have hk : ¬ key y < key x24 := fun hk => hcmp ((HF.out _ _).2 hk)
        have HK : Aside (¬ key y < key x24) := hk
        clear hk
        go_wp2_with fail
        go_quiet_grown (first | (go_at_fn g; refine Calls.grown_of (hc24 _ _)))
        have S2 : Aside (SWK enc k w0 blk off d (grow (wr.drewN nq) osq)) := S1.out.grown nq osq
        clear l24a l24b hc24 S1
        generalize grow (wr.drewN nq) osq = w2 at S2 ⊢
        clear nq osq
        go_wp2
        go_roundg (j - (h + 1))
        case measure => have := HH.out; omega
        case rel =>
          have hhi := HH.out
          refine ⟨h + 1, j, by first | rfl | (congr 1; omega), rfl, by omega, hjY, Nat.le_refl _, ?_, HJ, S2⟩
          intro t ht hth
          have h1 := rising_le HR.out (i := t) (j := h) (by omega) hhY
          have h2 := HK.out
          rw [HY24.out] at h2
          omega
    · have hltz : ¬ (P.length : Int) + (i : Int) < (P.length : Int) + (j : Int) := by omega
      obtain rfl : i = j := by omega
      -- the exchanges
      have HL : Aside (P.length + X.length + 1 + Q.length = sz) := hlen
      have HIY : Aside (i ≤ X.length) := hjY
      clear hlen hij hkx hjY
      go_wp2
      go_loopg [17] (X.length - i) (fun ky s17 wr2 => ∃ (c : Nat) (dk : Array α) (Xb Xc : List α), s17 = .int .i64 ((P.length : Int) + (i : Int) + (c : Int)) ∧ Aside (Xb.length = c ∧ X = X.take i ++ Xb ++ Xc) ∧ c ≤ ky ∧ Hid (dk.toList = P ++ X.take i ++ Xb ++ [y] ++ Xc ++ Q) ∧ Aside (dk.size = sz ∧ dk.size = d0.size) ∧ Aside (SWK enc k w0 blk off dk wr2))
      case atStart =>
        have := HIY.out
        exact ⟨X.length - i, d, X.drop i, [], by first | rfl | (congr 1; omega), (show _ ∧ _ from ⟨by rw [List.length_drop], by rw [List.append_nil, List.take_append_drop]⟩), by omega, by show d.toList = _; rw [HD.out]; simp only [List.append_assoc, List.nil_append]; rw [← List.append_assoc (X.take i), List.take_append_drop], HS, S1⟩
      case round =>
        clear S1
        obtain ⟨c, dk, Xb, Xc, rfl, HCc, hky, HE, HT, S1⟩ := hrel
        cases c with
        | zero =>
          have hciz : ¬ ((P.length : Int) + (i : Int) + ((0 : Nat) : Int)) > (P.length : Int) + (i : Int) := by omega
          go_wp2
          (try simp only [Exit.inBlock, Exit.then]); refine bodyPost_ret (results_none rfl _ _ _) rfl ?_
          have hb := List.length_eq_zero_iff.1 HCc.out.1
          have hXX := HCc.out.2
          have hE := HE.out
          subst hb
          refine ⟨rfl, dk, X.take i ++ y :: Xc, ?_, S1, ?_⟩
          · show _ = _
            rw [hE]; simp
          · show _ ∧ _
            have hr := HR.out
            have hI := HI.out
            have hJ := HJ.out
            have hi := HIY.out
            rw [List.append_nil] at hXX
            have hxc : Xc = X.drop i := by
              have h1 : X.take i ++ Xc = X.take i ++ X.drop i := by rw [← hXX, List.take_append_drop]
              exact List.append_cancel_left h1
            subst hxc
            have := put_last (y := y) (X1 := X.take i) (X2 := X.drop i) (by rw [List.take_append_drop]; exact hr) (fun z hz => ?_) (fun z hz => ?_)
            · rw [List.take_append_drop] at this
              exact this
            · obtain ⟨t, ht, rfl⟩ := List.getElem_of_mem hz
              rw [List.length_take] at ht
              rw [List.getElem_take]
              exact hI t (by omega) (by omega)
            · obtain ⟨t, ht, rfl⟩ := List.getElem_of_mem hz
              rw [List.length_drop] at ht
              rw [List.getElem_drop]
              exact hJ (i + t) (by omega) (by omega)
        | succ c =>
          obtain ⟨Xb', z, rfl⟩ : ∃ A' y, Xb = A' ++ [y] := by
            rcases List.eq_nil_or_concat Xb with rfl | ⟨l, b, rfl⟩
            · have := HCc.out.1; cases this
            · exact ⟨l, b, by simp⟩
          have hciz : ((P.length : Int) + (i : Int) + ((c + 1 : Nat) : Int)) > (P.length : Int) + (i : Int) := by omega
          have hlen : P.length + i + c + 1 < sz := by
            have := size_of HE.out
            rw [HT.out.1] at this
            have e1 := HCc.out.1
            have e2 := HIY.out
            simp only [List.length_append, List.length_take, List.length_singleton] at this e1
            omega
          have b1 : (P.length : Int) + (i : Int) + ((c + 1 : Nat) : Int) < (sz : Int) ∧ (P.length : Int) + (i : Int) + (c : Int) < (sz : Int) := by omega
          have b2 : P.length + i + (c + 1) < dk.size ∧ P.length + i + c < dk.size := by rw [HT.out.1]; omega
          have HB2 : Aside (P.length + i + (c + 1) < dk.size ∧ P.length + i + c < dk.size) := b2
          have HXb : Aside (Xb'.length = c) := by have := HCc.out.1; show _ = _; simpa using this
          clear hlen b2
          have cc : ((c + 1 : Nat) : Int) = (c : Int) + 1 := by omega
          rw [cc] at *
          have ea44 : ((P.length : Int) + (i : Int) + ((c : Int) + 1)).toNat = P.length + i + (c + 1) := by omega
          have pa44 : (0 : Int) ≤ (P.length : Int) + (i : Int) + ((c : Int) + 1) := by omega
          have ba44 := b1.1
          have ec44 : ((P.length : Int) + (i : Int) + (c : Int)).toNat = P.length + i + c := by omega
          have pc44 : (0 : Int) ≤ (P.length : Int) + (i : Int) + (c : Int) := by omega
          have bc44 := b1.2
          have rc44 : IntKind.i64.wrap ((P.length : Int) + (i : Int) + ((c : Int) + 1) - 1) = (P.length : Int) + (i : Int) + (c : Int) := by rw [IntKind.wrap_i64]; omega
          have S2 : Aside (SWK enc k w0 blk off (swp dk (P.length + i + (c + 1)) (P.length + i + c)) ((wr.drew.setCells blk (off + (P.length + i + (c + 1)) * k) (enc dk[P.length + i + c]!)).setCells blk (off + (P.length + i + c) * k) (enc dk[P.length + i + (c + 1)]!))) := S1.out.swapped R (P.length + i + (c + 1)) (P.length + i + c) HB2.out.1 HB2.out.2
          have l44a := S1.out.ld1 R HT.out.2 Tryz.prog (P.length + i + (c + 1)) HB2.out.1
          have l44b := S1.out.ld1 R HT.out.2 Tryz.prog (P.length + i + c) HB2.out.2
          have s44a := S1.out.st1 R HT.out.2 Tryz.prog (P.length + i + (c + 1)) HB2.out.1 dk[P.length + i + c]!
          have s44b := S1.out.st2 R HT.out.2 Tryz.prog (P.length + i + (c + 1)) (P.length + i + c) HB2.out.1 HB2.out.2 dk[P.length + i + c]! dk[P.length + i + (c + 1)]!
          have n44a : (enc dk[P.length + i + (c + 1)]!).length = k := R.hk _
          have n44b : (enc dk[P.length + i + c]!).length = k := R.hk _
          generalize enc dk[P.length + i + (c + 1)]! = cI44 at S2 l44a s44b n44a
          generalize enc dk[P.length + i + c]! = cJ44 at S2 l44b s44a s44b n44b
          clear S1 b1 cc
          go_wp2_with fail
          go_big_region_o
          clear l44a l44b s44a s44b
          generalize (wr.drew.setCells blk (off + (P.length + i + (c + 1)) * k) cJ44).setCells blk (off + (P.length + i + c) * k) cI44 = w2 at S2 ⊢
          go_wp2
          go_roundg c
          case measure => omega
          case rel =>
            have hsw := (swp_list (A := P ++ X.take i ++ Xb') (B := []) (C := Xc ++ Q) (x := z) (y := y) (d := dk) (by rw [HE.out]; simp) (i := P.length + i + c) (j := P.length + i + (c + 1)) (by have := HIY.out; have := HXb.out; simp only [List.length_append, List.length_take]; omega) (by simp; omega)).2
            refine ⟨c, _, Xb', z :: Xc, by first | rfl | (congr 1; omega), (show _ ∧ _ from ⟨HXb.out, by have := HCc.out.2; simpa using this⟩), Nat.le_refl _, ?_, (show _ ∧ _ from ⟨by rw [size_swp]; exact HT.out.1, by rw [size_swp]; exact HT.out.2⟩), S2⟩
            show _ = _
            rw [hsw]
            simp
end Go.Proofs.YtfboejlemnfndaaGreatDoor.Srt
end
section
namespace Go.Proofs.YtfboejlemnfndaaGreatDoor.Srt
open Go.Shelf Go.RowKit Go.Lib Go.Sort
variable {α : Type} [Inhabited α]
def Merges (key : α → Int) (enc : α → List Value) (k g : Nat) (cb : Array Value) (blk off cap sz : Nat) (w0 : World) (n : Nat) : Prop :=
  ∀ (a m b : Int) (d : Array α) (w : World) (P X Y Q : List α), SWK enc k w0 blk off d w → d.toList = P ++ X ++ Y ++ Q → d.size = sz → 0 < X.length → 0 < Y.length → Rising key X → Rising key Y → X.length + Y.length ≤ n →
    a = P.length → m = (P.length : Int) + X.length → b = (P.length : Int) + X.length + Y.length →
    Calls Tryz.prog 88 #[.slice (some ⟨blk, off, none⟩) sz cap, .int .i64 a, .int .i64 m, .int .i64 b, .func (.func g) #[] cb] w fun e w' =>
      e = .returned (.tuple #[]) ∧ ∃ (d' : Array α) (Z : List α), Hid (d'.toList = P ++ Z ++ Q) ∧ Aside (SWK enc k w0 blk off d' w') ∧ Hid (Rising key Z ∧ Same key (X ++ Y) Z)

omit [Inhabited α] in
theorem parts_ok {key : α → Int} {X Y : List α} {kx ky : Nat → Int} (HKX : ∀ t (ht : t < X.length), kx t = key X[t]) (HKY : ∀ t (ht : t < Y.length), ky t = key Y[t]) (HRX : ∀ i j, i ≤ j → j < X.length → kx i ≤ kx j) (HRY : ∀ i j, i ≤ j → j < Y.length → ky i ≤ ky j)
    {u s : Nat} (h1 : u - Y.length ≤ s) (h2 : s ≤ min u X.length) (HI : ∀ c, u - Y.length ≤ c → c < s → kx c ≤ ky (u - 1 - c)) (HJ : ∀ c, s ≤ c → c < min u X.length → ky (u - 1 - c) < kx c) :
    (∀ x ∈ X.drop s, ∀ y ∈ Y.take (u - s), key y < key x) ∧ (∀ x ∈ X.take s, ∀ y ∈ Y.drop (u - s), key x ≤ key y) := by
  refine ⟨fun x hx y hy => ?_, fun x hx y hy => ?_⟩
  · obtain ⟨t, ht, rfl⟩ := List.getElem_of_mem hx
    obtain ⟨q, hq, rfl⟩ := List.getElem_of_mem hy
    rw [List.length_drop] at ht
    rw [List.length_take] at hq
    rw [List.getElem_drop, List.getElem_take, ← HKX (s + t) (by omega), ← HKY q (by omega)]
    have a1 := HJ s (Nat.le_refl _) (by omega)
    have a2 := HRX s (s + t) (by omega) (by omega)
    have a3 := HRY q (u - 1 - s) (by omega) (by omega)
    omega
  · obtain ⟨t, ht, rfl⟩ := List.getElem_of_mem hx
    obtain ⟨q, hq, rfl⟩ := List.getElem_of_mem hy
    rw [List.length_take] at ht
    rw [List.length_drop] at hq
    rw [List.getElem_take, List.getElem_drop, ← HKX t (by omega), ← HKY (u - s + q) (by omega)]
    have a1 := HI (s - 1) (by omega) (by omega)
    rw [show u - 1 - (s - 1) = u - s from by omega] at a1
    have a2 := HRX t (s - 1) (by omega) (by omega)
    have a3 := HRY (u - s) (u - s + q) (by omega) (by omega)
    omega

set_option maxHeartbeats 4000000 in
set_option maxRecDepth 1000000 in
theorem symC (key : α → Int) (enc : α → List Value) (k g : Nat) (cb : Array Value) (blk off cap sz : Nat) (d0 d : Array α) (w0 w : World) (P X Y Q : List α) (N : Nat)
    (T : Told key enc k g cb w0 blk off d0 sz) (IH : Merges key enc k g cb blk off cap sz w0 N) (S : SWK enc k w0 blk off d w) (hd : d.toList = P ++ X ++ Y ++ Q) (hds : d.size = sz) (hX : 1 < X.length) (hY : 1 < Y.length) (hrX : Rising key X) (hrY : Rising key Y) (hN : X.length + Y.length ≤ N + 1) :
    Calls Tryz.prog 88 #[.slice (some ⟨blk, off, none⟩) sz cap, .int .i64 (P.length : Int), .int .i64 ((P.length : Int) + X.length), .int .i64 ((P.length : Int) + X.length + Y.length), .func (.func g) #[] cb] w fun e w' =>
      e = .returned (.tuple #[]) ∧ ∃ (d' : Array α) (Z : List α), Hid (d'.toList = P ++ Z ++ Q) ∧ Aside (SWK enc k w0 blk off d' w') ∧ Hid (Rising key Z ∧ Same key (X ++ Y) Z) := by
  have mixed := types.mixed
  have aE := types.aE
  have zE := T.zE
  have uS := types.uS
  obtain ⟨cf, hC, hcf⟩ := T.cf
  have eg := T.eg
  have R := T.R
  have HC : Aside _ := hC
  have HF : Hid (∀ x y, cf x y < 0 ↔ key x < key y) := hcf
  have S0 : Aside (SWK enc k w0 blk off d w) := S
  have HD : Hid (d.toList = P ++ X ++ Y ++ Q) := hd
  have HS : Aside (d.size = sz ∧ d.size = d0.size) := ⟨hds, by rw [hds, T.hs]⟩
  have HR : Aside (Rising key X ∧ Rising key Y) := ⟨hrX, hrY⟩
  have HIH : Aside (Merges key enc k g cb blk off cap sz w0 N) := IH
  have hsz := T.hsz
  have hlen : P.length + X.length + Y.length + Q.length = sz := by
    rw [← hds, size_of hd]; simp only [List.length_append]
  have hXat : ∀ t (ht : t < X.length), d[P.length + t]! = X[t] := fun t ht => at_part (P := P) (X := X) (Q := Y ++ Q) (by rw [hd]; simp) ht rfl
  have hYat : ∀ t (ht : t < Y.length), d[P.length + X.length + t]! = Y[t] := fun t ht => at_part (P := P ++ X) (X := Y) (Q := Q) (by rw [hd]) ht (by rw [List.length_append])
  obtain ⟨kx, hkx⟩ : ∃ f : Nat → Int, ∀ t, f t = key d[P.length + t]! := ⟨_, fun _ => rfl⟩
  obtain ⟨ky, hky⟩ : ∃ f : Nat → Int, ∀ t, f t = key d[P.length + X.length + t]! := ⟨_, fun _ => rfl⟩
  have hkX : ∀ t (ht : t < X.length), kx t = key X[t] := fun t ht => by rw [hkx, hXat t ht]
  have hkY : ∀ t (ht : t < Y.length), ky t = key Y[t] := fun t ht => by rw [hky, hYat t ht]
  have HRX : Hid (∀ i j, i ≤ j → j < X.length → kx i ≤ kx j) := fun i j hij hj => by rw [hkX i (by omega), hkX j hj]; exact rising_le hrX hij hj
  have HRY : Hid (∀ i j, i ≤ j → j < Y.length → ky i ≤ ky j) := fun i j hij hj => by rw [hkY i (by omega), hkY j hj]; exact rising_le hrY hij hj
  have HKX : Hid (∀ t (ht : t < X.length), kx t = key X[t]) := hkX
  have HKY : Hid (∀ t (ht : t < Y.length), ky t = key Y[t]) := hkY
  have HXY : Hid ((∀ t, kx t = key d[P.length + t]!) ∧ ∀ t, ky t = key d[P.length + X.length + t]!) := ⟨hkx, hky⟩
  have HN : Aside (X.length + Y.length ≤ N + 1) := hN
  clear S hd hds hrX hrY hC hcf IH hXat hYat hkx hky hkX hkY hN
  obtain ⟨u, hu⟩ : ∃ u : Nat, u = (X.length + Y.length) / 2 := ⟨_, rfl⟩
  have eu : ((P.length : Int) + ((P.length : Int) + (X.length : Int) + (Y.length : Int))) / 2 = (P.length : Int) + (u : Int) := by omega
  have HU : Aside (u = (X.length + Y.length) / 2) := hu
  have HL : Aside (P.length + X.length + Y.length + Q.length = sz) := hlen
  have hul : u ≤ sz := by omega
  have w1 : IntKind.i64.wrap ((P.length : Int) + (X.length : Int) - (P.length : Int)) = (X.length : Int) := by rw [IntKind.wrap_i64]; omega
  have w2 : IntKind.i64.wrap ((P.length : Int) + (X.length : Int) + (Y.length : Int) - ((P.length : Int) + (X.length : Int))) = (Y.length : Int) := by rw [IntKind.wrap_i64]; omega
  have w3 : ((X.length : Int) == 1) = false := beq_eq_false_iff_ne.2 (by omega)
  have w4 : ((Y.length : Int) == 1) = false := beq_eq_false_iff_ne.2 (by omega)
  have w5 : IntKind.i64.wrap ((P.length : Int) + (u : Int) + ((P.length : Int) + (X.length : Int))) = (P.length : Int) + (u : Int) + ((P.length : Int) + (X.length : Int)) := by rw [IntKind.wrap_i64]; omega
  have b1 : P.length + X.length + Y.length ≤ sz := by omega
  clear hu hlen
  go_enter Tryz.func88, Tryz.ntmps88
  go_upto_if 140 with (fail)
  go_cut [20, 21] (fun v20 v21 wc => v20 = .int .i64 ((P.length : Int) + ((u - Y.length : Nat) : Int)) ∧ v21 = .int .i64 ((P.length : Int) + ((min u X.length : Nat) : Int)) ∧ wc = w)
  case first =>
    as_aux_lemma =>
      have hU := HU.out
      have hl := HL.out
      by_cases hgt : u < X.length
      · have hg : (P.length : Int) + (u : Int) < (P.length : Int) + (X.length : Int) := by omega
        clear hU hl
        go_wp2
        go_meet
        case rel =>
          have hU := HU.out
          have hl := HL.out
          exact ⟨by congr 1; first | omega | (unfold wrap64; omega), by congr 1; omega, rfl⟩
      · have hg : ¬ (P.length : Int) + (u : Int) < (P.length : Int) + (X.length : Int) := by omega
        clear hU hl
        go_wp2
        go_meet
        case rel =>
          have hU := HU.out
          have hl := HL.out
          exact ⟨by congr 1; omega, by congr 1; omega, rfl⟩
  case rest =>
    as_aux_lemma =>
      obtain ⟨rfl, rfl, rfl⟩ := hcut
      have b5 : IntKind.i64.wrap ((P.length : Int) + (u : Int) + ((P.length : Int) + (X.length : Int)) - 1) = (P.length : Int) + (u : Int) + ((P.length : Int) + (X.length : Int)) - 1 := by rw [IntKind.wrap_i64]; omega
      have hmu : u - Y.length ≤ min u X.length := by have := HU.out; omega
      clear w1 w2 w3 w4 w5 eu
      go_wp2
      go_loopg [20, 21] (min u X.length) (fun gx v20 v21 wr => ∃ (s r : Nat), v20 = .int .i64 ((P.length : Int) + (s : Int)) ∧ v21 = .int .i64 ((P.length : Int) + (r : Int)) ∧ u - Y.length ≤ s ∧ s ≤ r ∧ r ≤ min u X.length ∧ r - s ≤ gx ∧
        Hid (∀ c, u - Y.length ≤ c → c < s → kx c ≤ ky (u - 1 - c)) ∧ Hid (∀ c, r ≤ c → c < min u X.length → ky (u - 1 - c) < kx c) ∧ Aside (SWK enc k w0 blk off d wr))
      case atStart => exact ⟨u - Y.length, min u X.length, rfl, rfl, Nat.le_refl _, hmu, Nat.le_refl _, by omega, fun c h1 h2 => absurd h1 (by omega), fun c h1 h2 => absurd h1 (by omega), S0⟩
      case round =>
        as_aux_lemma =>
          clear S0 b5 hmu
          obtain ⟨s, r, rfl, rfl, hs0, hsr, hr0, hgx, HI, HJ, S1⟩ := hrel
          by_cases hlt : s < r
          · have hltz : (P.length : Int) + (s : Int) < (P.length : Int) + (r : Int) := by omega
            obtain ⟨c, hc⟩ : ∃ c : Nat, c = (s + r) / 2 := ⟨_, rfl⟩
            have ec : ((P.length : Int) + (s : Int) + ((P.length : Int) + (r : Int))) / 2 = (P.length : Int) + (c : Int) := by omega
            obtain ⟨t, ht⟩ : ∃ t : Nat, t = u - 1 - c := ⟨_, rfl⟩
            have hcs : s ≤ c ∧ c < r := by omega
            have htY : t < Y.length := by omega
            have hcX : c < X.length := by omega
            have bp : IntKind.i64.wrap ((P.length : Int) + (u : Int) + ((P.length : Int) + (X.length : Int)) - 1 - ((P.length : Int) + (c : Int))) = (P.length : Int) + (X.length : Int) + (t : Int) := by rw [IntKind.wrap_i64]; omega
            have HT : Aside (t = u - 1 - c) := ht
            have HH : Aside (s ≤ c ∧ c < r ∧ t < Y.length ∧ c < X.length) := ⟨hcs.1, hcs.2, htY, hcX⟩
            have ea24 : ((P.length : Int) + (X.length : Int) + (t : Int)).toNat = P.length + X.length + t := by omega
            have pa24 : (0 : Int) ≤ (P.length : Int) + (X.length : Int) + (t : Int) := by omega
            have ba24 : (P.length : Int) + (X.length : Int) + (t : Int) < (sz : Int) := by omega
            have ec24 : ((P.length : Int) + (c : Int)).toNat = P.length + c := by omega
            have pc24 : (0 : Int) ≤ (P.length : Int) + (c : Int) := by omega
            have bc24 : (P.length : Int) + (c : Int) < (sz : Int) := by omega
            have g1 : P.length + X.length + t < d.size := by rw [HS.out.1]; omega
            have g2 : P.length + c < d.size := by rw [HS.out.1]; omega
            clear hc ht hcs htY hcX
            go_wp2_with fail
            have l24a := S1.out.ld R HS.out.2 Tryz.prog (P.length + X.length + t) g1
            have l24b := S1.out.ld R HS.out.2 Tryz.prog (P.length + c) g2
            obtain ⟨y24, hy24⟩ : ∃ y, y = d[P.length + X.length + t]! := ⟨_, rfl⟩
            obtain ⟨x24, hx24⟩ : ∃ x, x = d[P.length + c]! := ⟨_, rfl⟩
            rw [← hy24] at l24a
            rw [← hx24] at l24b
            have HK24 : Aside (kx c = key x24 ∧ ky t = key y24) := ⟨by rw [HXY.out.1, hx24], by rw [HXY.out.2, hy24]⟩
            have hc24 := S1.out.cmp HC.out HS.out.2 y24 x24
            clear ec hy24 hx24 g1 g2
            by_cases hcmp : cf y24 x24 < 0
            · have hv24 : decide (cf y24 x24 < 0) = true := decide_eq_true hcmp
              have hk := (HF.out _ _).1 hcmp
              have HK : Aside (key y24 < key x24) := hk
              clear hk
              go_quiet_grown (first | (go_at_fn g; refine Calls.grown_of (hc24 _ _)))
              have S2 : Aside (SWK enc k w0 blk off d (grow (wr.drewN nq) osq)) := S1.out.grown nq osq
              clear l24a l24b hc24 S1
              generalize grow (wr.drewN nq) osq = w2 at S2 ⊢
              clear nq osq bp
              go_wp2
              go_roundg (c - s)
              case measure => have := HH.out; omega
              case rel =>
                have hh := HH.out
                refine ⟨s, c, rfl, by first | rfl | (congr 1; omega), hs0, by omega, by omega, Nat.le_refl _, HI, ?_, S2⟩
                intro q hq1 hq2
                have a1 := HK24.out
                have a2 := HK.out
                have a3 := HRX.out c q hq1 (by omega)
                have a4 := HRY.out (u - 1 - q) t (by rw [HT.out]; omega) hh.2.2.1
                omega
            · have hv24 : decide (cf y24 x24 < 0) = false := decide_eq_false hcmp
              have hk : ¬ key y24 < key x24 := fun hk => hcmp ((HF.out _ _).2 hk)
              have HK : Aside (¬ key y24 < key x24) := hk
              clear hk
              go_quiet_grown (first | (go_at_fn g; refine Calls.grown_of (hc24 _ _)))
              have S2 : Aside (SWK enc k w0 blk off d (grow (wr.drewN nq) osq)) := S1.out.grown nq osq
              clear l24a l24b hc24 S1
              generalize grow (wr.drewN nq) osq = w2 at S2 ⊢
              clear nq osq bp
              go_wp2
              go_roundg (r - (c + 1))
              case measure => have := HH.out; omega
              case rel =>
                have hh := HH.out
                refine ⟨c + 1, r, by first | rfl | (congr 1; omega), rfl, by omega, by omega, hr0, Nat.le_refl _, ?_, HJ, S2⟩
                intro q hq1 hq2
                have a1 := HK24.out
                have a2 := HK.out
                have a3 := HRX.out q c (by omega) hh.2.2.2
                have a4 := HRY.out t (u - 1 - q) (by rw [HT.out]; omega) (by omega)
                omega
          · have hltz : ¬ (P.length : Int) + (s : Int) < (P.length : Int) + (r : Int) := by omega
            have hsr2 : s = r := by omega
            have hr0' : s ≤ min u X.length := by omega
            have hok := parts_ok HKX.out HKY.out HRX.out HRY.out hs0 hr0' HI.out (by rw [hsr2]; exact HJ.out)
            have HOK : Aside _ := hok
            obtain ⟨e, he⟩ : ∃ e : Nat, e = u - s := ⟨_, rfl⟩
            have be : IntKind.i64.wrap ((P.length : Int) + (u : Int) + ((P.length : Int) + (X.length : Int)) - ((P.length : Int) + (s : Int))) = (P.length : Int) + (X.length : Int) + (e : Int) := by rw [IntKind.wrap_i64]; omega
            have HE : Aside (u = s + e ∧ e ≤ Y.length ∧ s ≤ X.length) := (show _ ∧ _ ∧ _ from ⟨by omega, by omega, by omega⟩)
            rw [← he] at HOK
            clear hok he hs0 hsr hr0 hgx HI HJ hsr2 hr0' hlt
            go_upto_region 39 with (fail)
            go_cut [185] (fun v185 wc => v185 = .bool (decide (s < X.length) && decide (0 < e)) ∧ wc = wr)
            case first =>
              as_aux_lemma =>
                by_cases h1 : s < X.length
                · have h1z : (P.length : Int) + (s : Int) < (P.length : Int) + (X.length : Int) := by omega
                  by_cases h2 : 0 < e
                  · have h2z : (P.length : Int) + (X.length : Int) < (P.length : Int) + (X.length : Int) + (e : Int) := by omega
                    go_wp2
                    go_meet
                    case rel => exact ⟨by rw [decide_eq_true h1, decide_eq_true h2]; first | rfl | (simp; done) | (simp [h1, h2]), rfl⟩
                  · have h2z : ¬ (P.length : Int) + (X.length : Int) < (P.length : Int) + (X.length : Int) + (e : Int) := by omega
                    go_wp2
                    go_meet
                    case rel => exact ⟨by rw [decide_eq_true h1, decide_eq_false h2]; first | rfl | (simp; done) | (simp [h1, h2]), rfl⟩
                · have h1z : ¬ (P.length : Int) + (s : Int) < (P.length : Int) + (X.length : Int) := by omega
                  go_wp2
                  go_meet
                  case rel => exact ⟨by rw [decide_eq_false h1]; first | rfl | (simp; done) | (simp [h1]), rfl⟩
            case rest =>
              as_aux_lemma =>
                obtain ⟨rfl, rfl⟩ := hcut
                obtain ⟨B1, hB1⟩ : ∃ B : Bool, B = (decide (s < X.length) && decide (0 < e)) := ⟨_, rfl⟩
                have HB1 : Aside (B1 = (decide (s < X.length) && decide (0 < e))) := hB1
                rw [← hB1]
                clear hB1
                go_upto_if 185 with (fail)
                go_cut [] (fun wc => ∃ d1 : Array α, Hid (d1.toList = P ++ X.take s ++ Y.take e ++ X.drop s ++ Y.drop e ++ Q) ∧ Aside (d1.size = sz) ∧ Aside (SWK enc k w0 blk off d1 wc))
                case first =>
                  as_aux_lemma =>
                    cases B1 with
                    | true =>
                      have hb := HB1.out.symm
                      rw [Bool.and_eq_true, decide_eq_true_eq, decide_eq_true_eq] at hb
                      have HBB : Aside (s < X.length ∧ 0 < e) := hb
                      clear hb HB1
                      go_wp2_with fail
                      refine (rotate_c k T.zE enc g cb blk off cap sz _ _ _ d0 d w0 _ (P ++ X.take s) (X.drop s) (Y.take e) (Y.drop e ++ Q) T.R T.hs S1.out (by rw [HD.out]; simp only [List.append_assoc]; rw [← List.append_assoc (X.take s), List.take_append_drop, ← List.append_assoc (Y.take e), List.take_append_drop]) HS.out.1 T.hsz ?_ ?_ ?_ ?_ ?_).mono ?_
                      · have := HE.out; simp only [List.length_append, List.length_take]; omega
                      · have := HE.out; simp only [List.length_append, List.length_take, List.length_drop]; omega
                      · have := HE.out; simp only [List.length_append, List.length_take, List.length_drop]; omega
                      · have := HBB.out; rw [List.length_drop]; omega
                      · have := HBB.out; have := HE.out; rw [List.length_take]; omega
                      · rintro e1 w1 ⟨rfl, d1, hd1, S2⟩
                        go_wp2
                        go_meet
                        case rel =>
                          refine ⟨d1, ?_, ?_, S2⟩
                          · show _ = _
                            rw [hd1.out]; simp only [List.append_assoc]
                          · show _ = _
                            rw [size_of hd1.out, ← HS.out.1, size_of HD.out]
                            have := HE.out
                            simp only [List.length_append, List.length_take, List.length_drop]; omega
                    | false =>
                      have hb := HB1.out.symm
                      rw [Bool.and_eq_false_iff, decide_eq_false_iff_not, decide_eq_false_iff_not] at hb
                      have HBB : Aside (¬ s < X.length ∨ ¬ 0 < e) := hb
                      clear hb HB1
                      go_wp2
                      go_meet
                      case rel =>
                        refine ⟨d, ?_, HS.out.1, S1⟩
                        show _ = _
                        rw [HD.out]
                        have he := HE.out
                        rcases HBB.out with h | h
                        · rw [List.drop_of_length_le (show X.length ≤ s by omega), List.take_of_length_le (show X.length ≤ s by omega)]
                          simp only [List.append_assoc, List.nil_append]
                          rw [← List.append_assoc (Y.take e), List.take_append_drop]
                        · obtain rfl : e = 0 := by omega
                          rw [List.take_zero, List.drop_zero]
                          simp only [List.append_assoc, List.nil_append]
                          rw [← List.append_assoc (X.take s), List.take_append_drop]
                case rest =>
                  as_aux_lemma =>
                    obtain ⟨d1, HD1, HS1, S2⟩ := hcut
                    clear HB1 B1 HD S1 HXY be
                    go_upto_region 41 with (fail)
                    go_cut [199] (fun v199 wc2 => v199 = .bool (decide (0 < s) && decide (0 < e)) ∧ wc2 = wc)
                    case first =>
                      as_aux_lemma =>
                        by_cases h1 : 0 < s
                        · have h1z : (P.length : Int) < (P.length : Int) + (s : Int) := by omega
                          by_cases h2 : 0 < e
                          · have h2z : (P.length : Int) + (s : Int) < (P.length : Int) + (u : Int) := by have := HE.out; omega
                            go_wp2
                            go_meet
                            case rel => exact ⟨by rw [decide_eq_true h1, decide_eq_true h2]; first | rfl | (simp; done) | (simp [h1, h2]), rfl⟩
                          · have h2z : ¬ (P.length : Int) + (s : Int) < (P.length : Int) + (u : Int) := by have := HE.out; omega
                            go_wp2
                            go_meet
                            case rel => exact ⟨by rw [decide_eq_true h1, decide_eq_false h2]; first | rfl | (simp; done) | (simp [h1, h2]), rfl⟩
                        · have h1z : ¬ (P.length : Int) < (P.length : Int) + (s : Int) := by omega
                          go_wp2
                          go_meet
                          case rel => exact ⟨by rw [decide_eq_false h1]; first | rfl | (simp; done) | (simp [h1]), rfl⟩
                    case rest =>
                      as_aux_lemma =>
                        obtain ⟨rfl, rfl⟩ := hcut
                        obtain ⟨B2, hB2⟩ : ∃ B : Bool, B = (decide (0 < s) && decide (0 < e)) := ⟨_, rfl⟩
                        have HB2 : Aside (B2 = (decide (0 < s) && decide (0 < e))) := hB2
                        rw [← hB2]
                        clear hB2
                        go_upto_if 199 with (fail)
                        go_cut [] (fun wc => ∃ (d2 : Array α) (Z1 : List α), Hid (d2.toList = P ++ Z1 ++ X.drop s ++ Y.drop e ++ Q) ∧ Aside (d2.size = sz) ∧ Aside (SWK enc k w0 blk off d2 wc) ∧ Hid (Rising key Z1 ∧ Same key (X.take s ++ Y.take e) Z1))
                        case first =>
                          as_aux_lemma =>
                            cases B2 with
                            | true =>
                              have hb := HB2.out.symm
                              rw [Bool.and_eq_true, decide_eq_true_eq, decide_eq_true_eq] at hb
                              have HBB : Aside (0 < s ∧ 0 < e) := hb
                              clear hb HB2
                              go_wp2_with fail
                              refine (HIH.out _ _ _ d1 _ P (X.take s) (Y.take e) (X.drop s ++ Y.drop e ++ Q) S2.out (by rw [HD1.out]; simp only [List.append_assoc]) HS1.out ?_ ?_ (HR.out.1.sublist (List.take_sublist _ _)) (HR.out.2.sublist (List.take_sublist _ _)) ?_ ?_ ?_ ?_).mono ?_
                              · have := HE.out; have := HBB.out; rw [List.length_take]; omega
                              · have := HE.out; have := HBB.out; rw [List.length_take]; omega
                              · have := HE.out; have := HU.out; have := HN.out; rw [List.length_take, List.length_take]; omega
                              · rfl
                              · have := HE.out; rw [List.length_take]; omega
                              · have := HE.out; rw [List.length_take, List.length_take]; omega
                              · rintro e1 w1 ⟨rfl, d2, Z1, hd2, S3, hz⟩
                                go_wp2
                                go_meet
                                case rel =>
                                  refine ⟨d2, Z1, ?_, ?_, S3, hz⟩
                                  · show _ = _
                                    rw [hd2.out]; simp only [List.append_assoc]
                                  · show _ = _
                                    have hl := hz.out.2.length rfl
                                    rw [size_of hd2.out, ← HS1.out, size_of HD1.out]
                                    have := HE.out
                                    simp only [List.length_append, List.length_take, List.length_drop] at hl ⊢; omega
                            | false =>
                              have hb := HB2.out.symm
                              rw [Bool.and_eq_false_iff, decide_eq_false_iff_not, decide_eq_false_iff_not] at hb
                              have HBB : Aside (¬ 0 < s ∨ ¬ 0 < e) := hb
                              clear hb HB2
                              go_wp2
                              go_meet
                              case rel =>
                                refine ⟨d1, X.take s ++ Y.take e, ?_, HS1, S2, ?_⟩
                                · show _ = _
                                  rw [HD1.out]; simp only [List.append_assoc]
                                · show _ ∧ _
                                  refine ⟨?_, Same.refl _⟩
                                  rcases HBB.out with h | h
                                  · obtain rfl : s = 0 := by omega
                                    rw [List.take_zero, List.nil_append]
                                    exact HR.out.2.sublist (List.take_sublist _ _)
                                  · obtain rfl : e = 0 := by omega
                                    rw [List.take_zero, List.append_nil]
                                    exact HR.out.1.sublist (List.take_sublist _ _)
                        case rest =>
                          as_aux_lemma =>
                            obtain ⟨d2, Z1, HD2, HS2, S3, HZ⟩ := hcut
                            clear HB2 B2 HD1 HS1 S2
                            -- how the whole comes together
                            have hend : ∀ Z2, Rising key Z2 → Same key (X.drop s ++ Y.drop e) Z2 → Rising key (Z1 ++ Z2) ∧ Same key (X ++ Y) (Z1 ++ Z2) := by
                              intro Z2 r2 s2
                              have := merge_parts (X1 := X.take s) (X2 := X.drop s) (Y1 := Y.take e) (Y2 := Y.drop e) (by rw [List.take_append_drop]; exact HR.out.1) (by rw [List.take_append_drop]; exact HR.out.2) HOK.out.1 HOK.out.2 HZ.out.1 HZ.out.2 r2 s2
                              rw [List.take_append_drop, List.take_append_drop] at this
                              exact this
                            have HEND : Aside _ := hend
                            clear hend
                            by_cases h1 : s < X.length
                            · have h1z : (P.length : Int) + (u : Int) < (P.length : Int) + (X.length : Int) + (e : Int) := by have := HE.out; omega
                              by_cases h2 : e < Y.length
                              · have h2z : (P.length : Int) + (X.length : Int) + (e : Int) < (P.length : Int) + (X.length : Int) + (Y.length : Int) := by omega
                                have HH : Aside (s < X.length ∧ e < Y.length) := ⟨h1, h2⟩
                                clear h1 h2
                                go_wp2_with fail
                                refine (HIH.out _ _ _ d2 _ (P ++ Z1) (X.drop s) (Y.drop e) Q S3.out (by rw [HD2.out]) HS2.out ?_ ?_ (HR.out.1.sublist (List.drop_sublist _ _)) (HR.out.2.sublist (List.drop_sublist _ _)) ?_ ?_ ?_ ?_).mono ?_
                                · have := HH.out; rw [List.length_drop]; omega
                                · have := HH.out; rw [List.length_drop]; omega
                                · have := HE.out; have := HU.out; have := HN.out; rw [List.length_drop, List.length_drop]; omega
                                · have hl := HZ.out.2.length rfl
                                  have := HE.out
                                  simp only [List.length_append, List.length_take] at hl ⊢; omega
                                · have hl := HZ.out.2.length rfl
                                  have := HE.out
                                  simp only [List.length_append, List.length_take, List.length_drop] at hl ⊢; omega
                                · have hl := HZ.out.2.length rfl
                                  have := HE.out
                                  simp only [List.length_append, List.length_take, List.length_drop] at hl ⊢; omega
                                · rintro e1 w1 ⟨rfl, d3, Z2, hd3, S4, hz⟩
                                  go_wp2
                                  go_end0
                                  exact ⟨rfl, d3, Z1 ++ Z2, by show _ = _; rw [hd3.out]; simp only [List.append_assoc], S4, HEND.out Z2 hz.out.1 hz.out.2⟩
                              · have h2z : ¬ (P.length : Int) + (X.length : Int) + (e : Int) < (P.length : Int) + (X.length : Int) + (Y.length : Int) := by omega
                                have HH : Aside (¬ e < Y.length) := h2
                                clear h1 h2
                                go_wp2
                                go_end0
                                refine ⟨rfl, d2, Z1 ++ X.drop s, ?_, S3, ?_⟩
                                · show _ = _
                                  have := HH.out
                                  rw [HD2.out, List.drop_of_length_le (show Y.length ≤ e by omega)]; simp only [List.append_assoc, List.nil_append]
                                · have := HH.out
                                  refine HEND.out _ (HR.out.1.sublist (List.drop_sublist _ _)) ?_
                                  rw [List.drop_of_length_le (show Y.length ≤ e by omega), List.append_nil]
                                  exact Same.refl _
                            · have h1z : ¬ (P.length : Int) + (u : Int) < (P.length : Int) + (X.length : Int) + (e : Int) := by have := HE.out; omega
                              have HH : Aside (¬ s < X.length) := h1
                              clear h1
                              go_wp2
                              go_end0
                              refine ⟨rfl, d2, Z1 ++ Y.drop e, ?_, S3, ?_⟩
                              · show _ = _
                                have := HH.out
                                rw [HD2.out, List.drop_of_length_le (show X.length ≤ s by omega)]; simp only [List.append_assoc, List.nil_append]
                              · have := HH.out
                                refine HEND.out _ (HR.out.2.sublist (List.drop_sublist _ _)) ?_
                                rw [List.drop_of_length_le (show X.length ≤ s by omega), List.nil_append]
                                exact Same.refl _
theorem merges (key : α → Int) (enc : α → List Value) (k g : Nat) (cb : Array Value) (blk off cap sz : Nat) (d0 : Array α) (w0 : World) (T : Told key enc k g cb w0 blk off d0 sz) : ∀ n, Merges key enc k g cb blk off cap sz w0 n
  | 0 => fun a m b d w P X Y Q S hd hds hX hY => by omega
  | n + 1 => fun a m b d w P X Y Q S hd hds hX hY hrX hrY hN ha hm hb => by
    subst ha hm hb
    by_cases h1 : X.length = 1
    · obtain ⟨x, rfl⟩ := List.length_eq_one_iff.1 h1
      have := symA key enc k g cb blk off cap sz d0 d w0 w P x Y Q T S hd hds hY hrY
      simpa using this
    · by_cases h2 : Y.length = 1
      · obtain ⟨y, rfl⟩ := List.length_eq_one_iff.1 h2
        have := symB key enc k g cb blk off cap sz d0 d w0 w P X y Q T S hd hds (by omega) hrX
        simpa using this
      · exact symC key enc k g cb blk off cap sz d0 d w0 w P X Y Q n T (merges key enc k g cb blk off cap sz d0 w0 T n) S hd hds (by omega) (by omega) hrX hrY hN
end Go.Proofs.YtfboejlemnfndaaGreatDoor.Srt
end
section
namespace Go.Proofs.YtfboejlemnfndaaGreatDoor.Srt
open Go.Shelf Go.RowKit Go.Lib Go.Sort
variable {α : Type} [Inhabited α]
theorem insertion_c (key : α → Int) (enc : α → List Value) (k g : Nat) (cb : Array Value) (blk off cap sz : Nat) (d0 : Array α) (w0 : World) (T : Told key enc k g cb w0 blk off d0 sz) (a b : Int) (d : Array α) (w : World) (P X Q : List α)
    (S : SWK enc k w0 blk off d w) (hd : d.toList = P ++ X ++ Q) (hds : d.size = sz) (ha : a = P.length) (hb : b = (P.length : Int) + X.length) :
    Calls Tryz.prog 87 #[.slice (some ⟨blk, off, none⟩) sz cap, .int .i64 a, .int .i64 b, .func (.func g) #[] cb] w fun e w' =>
      e = .returned (.tuple #[]) ∧ ∃ (d' : Array α) (Z : List α), Hid (d'.toList = P ++ Z ++ Q) ∧ Aside (SWK enc k w0 blk off d' w') ∧ Hid (Rising key Z ∧ Same key X Z) := by
  obtain ⟨cf, hC, hcf⟩ := T.cf
  have R := T.R
  have hs0 : d.size = d0.size := by rw [hds, T.hs]
  have hlt : ∀ x y, ltOf cf x y = decide (key x < key y) := fun x y => by
    unfold ltOf
    rw [decide_eq_decide]
    exact hcf x y
  obtain ⟨Z, z1, z2, z3⟩ := ins_sort (key := key) (ltOf cf) hlt P X Q d hd (a := P.length) (b := P.length + X.length) rfl rfl
  have hsz := size_of hd
  have hs' : (Sort.insertionSort (ltOf cf) d P.length (P.length + X.length)).size = d.size := by
    rw [size_of z1, hsz]
    have := z3.length rfl
    simp only [List.length_append]; omega
  have hC' : CmpLays Tryz.prog g cb enc k cf blk off d.size w := fun m os dk hdk x y => by
    obtain ⟨n0, os0, rfl⟩ := S
    rw [sortWorldK_on enc k w0 blk off n0 m d dk os0 os R.hblk hdk]
    exact hC _ _ dk (by omega) x y
  simp only [List.length_append] at hsz
  have := Tryz.insertionSortCmpFunc (α := α) k types.aE T.zE enc R.hk R.h1 cf g cb blk off cap P.length (P.length + X.length) d w T.eg hC' (S.holds R.hblk R.hH hs0) (S.lt R.hblk) (by omega) (by omega) (by rw [hds]; exact T.hsz)
  rw [hds] at this
  rw [ha, hb, show (P.length : Int) + (X.length : Int) = ((P.length + X.length : Nat) : Int) from by omega]
  refine this.mono ?_
  rintro e w' ⟨rfl, n, os, rfl⟩
  exact ⟨rfl, _, Z, z1, S.on R.hblk n _ os hs', ⟨z2, z3⟩⟩
inductive Chunks (key : α → Int) (n : Nat) : List α → Prop where
  | nil : Chunks key n []
  | cons (c F : List α) : Rising key c → c.length = n → Chunks key n F → Chunks key n (c ++ F)
omit [Inhabited α] in
theorem Chunks.snoc {key : α → Int} {n : Nat} {F Z : List α} (h : Chunks key n F) (hr : Rising key Z) (hl : Z.length = n) : Chunks key n (F ++ Z) := by
  induction h with
  | nil =>
    have := Chunks.cons (key := key) (n := n) Z [] hr hl .nil
    simpa using this
  | cons c F h1 h2 h3 ih =>
    rw [List.append_assoc]
    exact .cons c _ h1 h2 ih

set_option maxHeartbeats 4000000 in
set_option maxRecDepth 1000000 in
theorem stable_c (key : α → Int) (enc : α → List Value) (k g : Nat) (cb : Array Value) (blk off cap sz : Nat) (d0 : Array α) (w0 : World) (T : Told key enc k g cb w0 blk off d0 sz) (d : Array α) (w : World) (L : List α)
    (S : SWK enc k w0 blk off d w) (hd : d.toList = L) (hds : d.size = sz) (h6 : sz ≤ 1000000) :
    Calls Tryz.prog 70 #[.slice (some ⟨blk, off, none⟩) sz cap, .int .i64 sz, .func (.func g) #[] cb] w fun e w' =>
      e = .returned (.tuple #[]) ∧ ∃ (d' : Array α) (Z : List α), Hid (d'.toList = Z) ∧ Aside (SWK enc k w0 blk off d' w') ∧ Hid (Rising key Z ∧ Same key L Z) := by
  have mixed := types.mixed
  have S0 : Aside (SWK enc k w0 blk off d w) := S
  have HD : Hid (d.toList = L) := hd
  have HS : Aside (d.size = sz) := hds
  have HL : Aside (L.length = sz) := (show _ = _ by rw [← hds, size_of hd])
  clear S hd hds
  go_enter Tryz.func70, Tryz.ntmps70
  go_wp2
  go_loopg [7, 8] sz (fun gx v7 v8 wr => ∃ (F R : List α) (dk : Array α), v7 = .int .i64 (F.length : Int) ∧ v8 = .int .i64 ((F.length : Int) + 20) ∧ R.length ≤ gx ∧ Hid (Chunks key 20 F ∧ Same key L (F ++ R) ∧ dk.toList = F ++ R) ∧ Aside (dk.size = sz) ∧ Aside (F.length + R.length = sz) ∧ Aside (SWK enc k w0 blk off dk wr))
  case atStart => exact ⟨[], L, d, rfl, rfl, (show L.length ≤ sz by have := HL.out; omega), ⟨.nil, Same.refl _, HD.out⟩, HS, (show 0 + L.length = sz by have := HL.out; omega), S0⟩
  case round =>
    as_aux_lemma =>
    clear S0 HD HS HL
    obtain ⟨F, R, dk, rfl, rfl, hgx, HC, HS, HZ, S1⟩ := hrel
    have hz := HZ.out
    by_cases h20 : 20 ≤ R.length
    · have hle : (F.length : Int) + 20 ≤ (sz : Int) := by omega
      clear hz
      go_wp2_with fail
      refine (insertion_c key enc k g cb blk off cap sz d0 w0 T _ _ dk _ F (R.take 20) (R.drop 20) S1.out (by rw [HC.out.2.2, List.append_assoc, List.take_append_drop]) HS.out rfl (by rw [List.length_take]; omega)).mono ?_
      rintro e1 w1 ⟨rfl, d1, Z, hd1, S2, hz⟩
      have hl := hz.out.2.length rfl
      rw [List.length_take] at hl
      have HLZ : Aside (Z.length = 20) := (show _ = _ by omega)
      clear hl
      have hb : IntKind.i64.wrap ((F.length : Int) + 20 + 20) = (F.length : Int) + 20 + 20 := by rw [IntKind.wrap_i64]; omega
      go_wp2
      go_roundg (R.length - 20)
      case measure => omega
      case rel =>
        have hzl := HLZ.out
        have hz2 := HZ.out
        have hfl : (F ++ Z).length = F.length + 20 := by rw [List.length_append]; omega
        refine ⟨F ++ Z, R.drop 20, d1, by rw [hfl]; congr 1, by rw [hfl]; congr 1, by rw [List.length_drop]; exact Nat.le_refl _, ⟨HC.out.1.snoc hz.out.1 hzl, ?_, ?_⟩, ?_, ?_, S2⟩
        · refine HC.out.2.1.trans ?_
          have := Same.mid (P := F) (Q := R.drop 20) hz.out.2
          rw [List.append_assoc, List.take_append_drop] at this
          exact this
        · rw [hd1.out]
        · show _ = _
          rw [size_of hd1.out, ← HS.out, size_of HC.out.2.2]
          simp only [List.length_append, List.length_drop]; omega
        · show _ = _
          rw [hfl, List.length_drop]; omega
    · have hle : ¬ (F.length : Int) + 20 ≤ (sz : Int) := by omega
      clear hz
      go_wp2_with fail
      refine (insertion_c key enc k g cb blk off cap sz d0 w0 T _ _ dk _ F R [] S1.out (by rw [HC.out.2.2]; simp) HS.out rfl (by have := HZ.out; omega)).mono ?_
      rintro e1 w1 ⟨rfl, d1, Z, hd1, S2, hz⟩
      have hl := hz.out.2.length rfl
      have HLZ : Aside (Z.length < 20 ∧ F.length + Z.length = sz) := (show _ ∧ _ from ⟨by omega, by have := HZ.out; omega⟩)
      have HS2 : Aside (d1.size = sz) := by
        show _ = _
        rw [size_of hd1.out]
        have := HLZ.out.2
        simp only [List.length_append, List.length_nil]; omega
      have HK : Hid (Chunks key 20 F ∧ Rising key Z ∧ Same key L (F ++ Z) ∧ d1.toList = F ++ Z) := ⟨HC.out.1, hz.out.1, HC.out.2.1.trans ((Same.refl _).append hz.out.2), by rw [hd1.out]; simp⟩
      clear hl hz hd1 HC HS HZ S1 h20 hle
      go_wp2
      go_loopg [6] (sz + 20) (fun gy v6 wr2 => ∃ (bs : Nat) (F Tl : List α) (dk : Array α), v6 = .int .i64 (bs : Int) ∧ 0 < bs ∧ sz + 20 - bs ≤ gy ∧ bs ≤ 4000000 ∧ Hid (Chunks key bs F ∧ Rising key Tl ∧ Same key L (F ++ Tl) ∧ dk.toList = F ++ Tl) ∧ Aside (Tl.length < bs ∧ F.length + Tl.length = sz) ∧ Aside (dk.size = sz) ∧ Aside (SWK enc k w0 blk off dk wr2))
      case atStart => exact ⟨20, F, Z, d1, rfl, by omega, by omega, by omega, HK, HLZ, HS2, S2⟩
      case round =>
        as_aux_lemma =>
        clear HK HLZ HS2 S2
        obtain ⟨bs, F, Tl, dk, rfl, hb0, hgy, hb4, HK, HLZ, HS2, S2⟩ := hrel
        by_cases hbs : bs < sz
        · have hbz : (bs : Int) < (sz : Int) := by omega
          have w2 : IntKind.i64.wrap (2 * (bs : Int)) = 2 * (bs : Int) := by rw [IntKind.wrap_i64]; omega
          go_wp2
          go_loopg [7, 8] sz (fun gz v7 v8 wr3 => ∃ (D G : List α) (dj : Array α), v7 = .int .i64 (D.length : Int) ∧ v8 = .int .i64 ((D.length : Int) + 2 * (bs : Int)) ∧ G.length ≤ gz ∧ Hid (Chunks key (2 * bs) D ∧ Chunks key bs G ∧ Same key L (D ++ G ++ Tl) ∧ dj.toList = D ++ G ++ Tl) ∧ Aside (D.length + G.length + Tl.length = sz) ∧ Aside (dj.size = sz) ∧ Aside (SWK enc k w0 blk off dj wr3))
          case atStart => exact ⟨[], F, dk, rfl, by first | rfl | (congr 1; simp; done) | (congr 1; simp; omega), (show F.length ≤ sz by have := HLZ.out; omega), ⟨.nil, HK.out.1, by simpa using HK.out.2.2.1, by simpa using HK.out.2.2.2⟩, (show 0 + F.length + Tl.length = sz by have := HLZ.out.2; omega), HS2, S2⟩
          case round =>
            as_aux_lemma =>
            clear HS2 S2
            obtain ⟨D, G, dj, rfl, rfl, hgz, HJ, HZ, HS2, S2⟩ := hrel
            have hD : D.length ≤ sz := by have := HZ.out; omega
            have w3 : IntKind.i64.wrap ((D.length : Int) + (bs : Int)) = (D.length : Int) + (bs : Int) := by rw [IntKind.wrap_i64]; omega
            have w4 : IntKind.i64.wrap ((D.length : Int) + 2 * (bs : Int) + 2 * (bs : Int)) = (D.length : Int) + 2 * (bs : Int) + 2 * (bs : Int) := by rw [IntKind.wrap_i64]; omega
            have w5 : IntKind.i64.wrap ((bs : Int) * 2) = (bs : Int) * 2 := by rw [IntKind.wrap_i64]; omega
            -- what is left behind the pairs
            have hrest : (∃ c1 c2 G', G = c1 ++ (c2 ++ G') ∧ Rising key c1 ∧ c1.length = bs ∧ Rising key c2 ∧ c2.length = bs ∧ Chunks key bs G') ∨ (∃ c1, G = c1 ∧ Rising key c1 ∧ c1.length = bs) ∨ G = [] := by
              have hG := HJ.out.2.1
              cases hG with
              | nil => exact .inr (.inr rfl)
              | cons c1 F1 h1 h2 h3 =>
                cases h3 with
                | nil => exact .inr (.inl ⟨c1, by simp, h1, h2⟩)
                | cons c2 F2 h4 h5 h6 => exact .inl ⟨c1, c2, F2, rfl, h1, h2, h4, h5, h6⟩
            rcases hrest with ⟨c1, c2, G', hG, r1, l1, r2, l2, hG'⟩ | ⟨c1, hG, r1, l1⟩ | hG
            · have hle : (D.length : Int) + 2 * (bs : Int) ≤ (sz : Int) := by have := HZ.out; rw [hG] at this; simp only [List.length_append] at this; omega
              have HG : Hid (G = c1 ++ (c2 ++ G') ∧ Chunks key bs G') := ⟨hG, hG'⟩
              have HL1 : Aside (c1.length = bs ∧ c2.length = bs) := ⟨l1, l2⟩
              clear hG l1 l2 hG'
              go_wp2_with fail
              refine (merges key enc k g cb blk off cap sz d0 w0 T (c1.length + c2.length) _ _ _ dj _ D c1 c2 (G' ++ Tl) S2.out (by rw [HJ.out.2.2.2, HG.out.1]; simp) HS2.out (by have := HL1.out; omega) (by have := HL1.out; omega) r1 r2 (Nat.le_refl _) rfl (by have := HL1.out; omega) (by have := HL1.out; omega)).mono ?_
              rintro e1 w1 ⟨rfl, d1, Z, hd1, S3, hz⟩
              have hl := hz.out.2.length rfl
              have HLZ2 : Aside (Z.length = 2 * bs) := (show _ = _ by have := HL1.out; rw [List.length_append] at hl; omega)
              clear hl
              go_wp2
              go_roundg (G.length - 2 * bs)
              case measure => have := HL1.out; have e := congrArg List.length HG.out.1; simp only [List.length_append] at e; omega
              case rel =>
                have hzl := HLZ2.out
                have hz2 := HZ.out
                have h12 := HL1.out
                have e := congrArg List.length HG.out.1
                simp only [List.length_append] at e
                have hfl : (D ++ Z).length = D.length + 2 * bs := by rw [List.length_append]; omega
                refine ⟨D ++ Z, G', d1, by rw [hfl]; congr 1 <;> omega, by rw [hfl]; congr 1 <;> omega, by omega, ⟨HJ.out.1.snoc hz.out.1 hzl, HG.out.2, ?_, ?_⟩, ?_, ?_, S3⟩
                · refine HJ.out.2.2.1.trans ?_
                  have := Same.mid (P := D) (Q := G' ++ Tl) hz.out.2
                  rw [HG.out.1]
                  simpa [List.append_assoc] using this
                · rw [hd1.out]; simp
                · show _ = _
                  rw [hfl]; omega
                · show _ = _
                  rw [size_of hd1.out]
                  simp only [List.length_append]; omega
            · have HL1 : Aside (c1.length = bs) := l1
              have hle : ¬ (D.length : Int) + 2 * (bs : Int) ≤ (sz : Int) := by have := HZ.out; have := HLZ.out; rw [hG] at *; omega
              subst hG
              clear l1
              by_cases ht : 0 < Tl.length
              · have hm : (D.length : Int) + (bs : Int) < (sz : Int) := by have := HZ.out; have := HL1.out; omega
                go_wp2_with fail
                refine (merges key enc k g cb blk off cap sz d0 w0 T (G.length + Tl.length) _ _ _ dj _ D G Tl [] S2.out (by rw [HJ.out.2.2.2]; simp) HS2.out (by have := HL1.out; omega) ht r1 HK.out.2.1 (Nat.le_refl _) rfl (by have := HL1.out; omega) (by have := HL1.out; have := HZ.out; omega)).mono ?_
                rintro e1 w1 ⟨rfl, d1, Z, hd1, S3, hz⟩
                have hl := hz.out.2.length rfl
                go_wp2
                go_roundg (sz + 20 - bs * 2)
                case measure => omega
                case rel =>
                  have h1 := HL1.out
                  have h2 := HLZ.out
                  have h3 := HZ.out
                  rw [List.length_append] at hl
                  refine ⟨bs * 2, D, Z, d1, by first | rfl | (congr 1; omega), by omega, Nat.le_refl _, by omega, ⟨by rw [Nat.mul_comm]; exact HJ.out.1, hz.out.1, ?_, ?_⟩, (show _ ∧ _ from ⟨by omega, by omega⟩), ?_, S3⟩
                  · refine HJ.out.2.2.1.trans ?_
                    rw [List.append_assoc]
                    exact (Same.refl D).append hz.out.2
                  · rw [hd1.out]; simp
                  · show _ = _
                    rw [size_of hd1.out]
                    simp only [List.length_append, List.length_nil]; omega
              · have hm : ¬ (D.length : Int) + (bs : Int) < (sz : Int) := by have := HZ.out; have := HL1.out; omega
                go_wp2
                go_roundg (sz + 20 - bs * 2)
                case measure => omega
                case rel =>
                  have h1 := HL1.out
                  have h3 := HZ.out
                  have h0 : Tl = [] := List.length_eq_zero_iff.1 (by omega)
                  have hk := HJ.out
                  rw [h0, List.append_nil] at hk
                  refine ⟨bs * 2, D, G, dj, by first | rfl | (congr 1; omega), by omega, Nat.le_refl _, by omega, ⟨by rw [Nat.mul_comm]; exact hk.1, r1, hk.2.2.1, hk.2.2.2⟩, (show _ ∧ _ from ⟨by omega, by omega⟩), HS2, S2⟩
            · subst hG
              have hle : ¬ (D.length : Int) + 2 * (bs : Int) ≤ (sz : Int) := by have := HZ.out; have := HLZ.out; simp only [List.length_nil] at *; omega
              have hm : ¬ (D.length : Int) + (bs : Int) < (sz : Int) := by have := HZ.out; have := HLZ.out; simp only [List.length_nil] at *; omega
              go_wp2
              go_roundg (sz + 20 - bs * 2)
              case measure => omega
              case rel =>
                have h2 := HLZ.out
                have h3 := HZ.out
                have hk := HJ.out
                rw [List.append_nil] at hk
                simp only [List.length_nil] at h3
                refine ⟨bs * 2, D, Tl, dj, by first | rfl | (congr 1; omega), by omega, Nat.le_refl _, by omega, ⟨by rw [Nat.mul_comm]; exact hk.1, HK.out.2.1, hk.2.2.1, hk.2.2.2⟩, (show _ ∧ _ from ⟨by omega, by omega⟩), HS2, S2⟩
        · have hbz : ¬ (bs : Int) < (sz : Int) := by omega
          go_wp2
          go_end0
          refine ⟨rfl, dk, F ++ Tl, HK.out.2.2.2, S2, ?_⟩
          have hk := HK.out
          have hl := HLZ.out
          refine ⟨?_, hk.2.2.1⟩
          have hc := hk.1
          cases hc with
          | nil => simpa using hk.2.1
          | cons c F1 h1 h2 h3 =>
            rw [List.length_append] at hl
            have h0 : F1 = [] := List.length_eq_zero_iff.1 (by omega)
            have h00 : Tl = [] := List.length_eq_zero_iff.1 (by omega)
            rw [h0, h00]
            simpa using h1
end Go.Proofs.YtfboejlemnfndaaGreatDoor.Srt
end
section
namespace Go.Proofs.YtfboejlemnfndaaGreatDoor.Srt
open Go.Shelf Go.RowKit Go.Lib Go.Sort
section
variable {α : Type} [Inhabited α] (c0 c1 : α → Value)
def two (x : α) : List Value := [c0 x, c1 x]
omit [Inhabited α] in
theorem cells_len (l : List α) : (l.flatMap (two c0 c1)).length = l.length * 2 := by
  induction l with
  | nil => rfl
  | cons x l ih => rw [List.flatMap_cons, List.length_append, ih]; show 2 + l.length * 2 = (l.length + 1) * 2; omega
omit [Inhabited α] in
theorem cells_at : ∀ (l : List α) (j : Nat) (x : α), l[j]? = some x → (l.flatMap (two c0 c1)).drop (j * 2) = [c0 x, c1 x] ++ (l.drop (j + 1)).flatMap (two c0 c1)
  | [], j, x, h => by simp at h
  | y :: l, 0, x, h => by
    obtain rfl : y = x := by simpa using h
    rfl
  | y :: l, j + 1, x, h => by
    have ih := cells_at l j x (by simpa using h)
    rw [List.flatMap_cons, show (j + 1) * 2 = j * 2 + 1 + 1 from by omega]
    show List.drop (j * 2 + 1 + 1) (c0 y :: c1 y :: l.flatMap (two c0 c1)) = _
    rw [List.drop_succ_cons, List.drop_succ_cons, ih]
    rfl
theorem flat_list (l : List α) : (flatK (two c0 c1) 2 l.toArray).toList = l.flatMap (two c0 c1) := by
  apply List.ext_getElem?
  intro t
  have hs : (flatK (two c0 c1) 2 l.toArray).toList.length = l.length * 2 := by rw [Array.length_toList, size_flatK]; simp
  by_cases ht : t < l.length * 2
  · have hj : t / 2 < l.length := by omega
    have hc := cells_at c0 c1 l (t / 2) l[t / 2] (List.getElem?_eq_getElem hj)
    have h1 : (l.flatMap (two c0 c1))[t]? = ((l.flatMap (two c0 c1)).drop (t / 2 * 2))[t % 2]? := by
      rw [List.getElem?_drop]; congr 1; omega
    have e : l.toArray[t / 2]! = l[t / 2] := by
      rw [getElem!_pos _ _ (by simpa using hj)]
      simp
    rw [h1, hc, Array.getElem?_toList]
    unfold flatK
    rw [Array.getElem?_map, Array.getElem?_range]
    simp only [List.size_toArray, ht, if_true, Option.map_some]
    rw [e]
    have h2 : t % 2 = 0 ∨ t % 2 = 1 := by omega
    rcases h2 with h2 | h2 <;> rw [h2] <;> rfl
  · rw [List.getElem?_eq_none (by omega), List.getElem?_eq_none (by rw [cells_len]; omega)]
theorem holds_own {w : World} {g : Nat} {cur : Array Value} {e : TypeId} {l : List α} (hb : w.heap[g]? = some (.cells cur e (0, 0))) (ht : cur.toList.take (l.length * 2) = l.flatMap (two c0 c1)) : HoldsK (two c0 c1) 2 w g 0 l.toArray := by
  intro j hj
  have hj' : j < l.length * 2 := by simpa using hj
  refine ⟨?_, by simp [World.frozen?, hb]⟩
  have h1 : (cur.toList.take (l.length * 2))[j]? = (flatK (two c0 c1) 2 l.toArray).toList[j]? := by rw [ht, flat_list]
  rw [List.getElem?_take_of_lt hj', Array.getElem?_toList, Array.getElem?_toList] at h1
  simp only [World.cell?, hb, Nat.zero_add]
  simp only [Option.isSome_none, Bool.false_eq_true, if_false]
  rw [h1, getElem!_pos _ j hj]
  simp
theorem heap_put {w : World} {g n : Nat} {os : Array Obj} {cur : Array Value} {e : TypeId} {fr : Nat × Nat} (F : Array Value) (hb : w.heap[g]? = some (.cells cur e fr)) :
    (grow (putRow id (Sort.ahead w n) g 0 F) os).heap[g]? = some (.cells (putCells id 0 F cur) e fr) := by
  have hg : g < w.heap.size := (Array.getElem?_eq_some_iff.1 hb).1
  rw [Sort.heap_grow_old _ _ (by simpa [putRow, mapBlock, Sort.ahead] using hg)]
  simp [putRow, mapBlock, Sort.ahead, Array.getElem?_modify, hb, onCells]
theorem take_put (cur F : Array Value) (h : F.size ≤ cur.size) : (putCells id 0 F cur).toList.take F.size = F.toList := by
  apply List.ext_getElem?
  intro j
  by_cases hj : j < F.size
  · rw [List.getElem?_take_of_lt hj, Array.getElem?_toList, Array.getElem?_toList]
    simp [putCells, hj, show j < cur.size by omega]
  · rw [List.getElem?_take_eq_none (by omega), List.getElem?_eq_none (by simp; omega)]
theorem own_sorted {w : World} {base g cap n : Nat} {e : TypeId} {os : Array Obj} {cur : Array Value} {l Z : List α} (hl : Z.length = l.length) (hbase : base ≤ g) (hb : w.heap[g]? = some (.cells cur e (0, 0)))
    (h1 : l.length ≤ cap) (h2 : cap ≤ maxLen) (h3 : cur.size = cap * 2) :
    (sortWorldK (two c0 c1) 2 w g 0 n Z.toArray os).ownsRow base e 2 (.slice (some ⟨g, 0, none⟩) l.length cap) l.length (Z.flatMap (two c0 c1)) := by
  refine ⟨by rw [cells_len, hl], .inr ⟨g, cap, _, rfl, hbase, heap_put _ hb, h1, h2, by simp [putCells, h3], ?_⟩⟩
  have := take_put cur (flatK (two c0 c1) 2 Z.toArray) (by rw [size_flatK, h3]; simp; omega)
  rw [flat_list, size_flatK] at this
  rw [← this]
  simp [hl]
theorem below_sorted {w0 w : World} {B g n : Nat} {os : Array Obj} {Z : Array α} (h : Below B w0 w) (hB : B ≤ w.heap.size) (hg : B ≤ g) : Below B w0 (sortWorldK (two c0 c1) 2 w g 0 n Z os) := by
  refine h.trans ⟨rfl, rfl, rfl, by simp [sortWorldK, grow, putRowK, putRow, mapBlock, Sort.ahead], fun k hk => ?_⟩
  unfold sortWorldK
  rw [Sort.heap_grow_old _ _ (by simp [putRowK, putRow, mapBlock, Sort.ahead]; omega)]
  have : g ≠ k := by omega
  simp [putRowK, putRow, mapBlock, Sort.ahead, Array.getElem?_modify, this]
end
def cmpOf (x y : Int) : Int := if x < y then -1 else if x > y then 1 else 0
theorem isNaN_c (x : Int) (w : World) : Calls Tryz.prog 71 #[.int .u8 x] w fun e w' => e = .returned (.bool false) ∧ w' = w := by
  go_enter Tryz.func71, Tryz.ntmps71
  have h : (x != x) = false := by simp
  go_wp2
  go_ret
  exact ⟨by simp, rfl⟩
theorem compare_c (x y : Int) (w : World) : Calls Tryz.prog 47 #[.int .u8 x, .int .u8 y] w fun e w' => e = .returned (.int .i64 (cmpOf x y)) ∧ w' = w := by
  go_enter Tryz.func47, Tryz.ntmps47
  go_wp2_with fail
  refine (isNaN_c x w).mono ?_
  rintro e w1 ⟨rfl, rfl⟩
  go_wp2_with fail
  refine (isNaN_c y _).mono ?_
  rintro e w2 ⟨rfl, rfl⟩
  by_cases h1 : x < y
  · have hc : cmpOf x y = -1 := by unfold cmpOf; rw [if_pos h1]
    go_wp2
    go_ret
    exact ⟨by rw [hc]; rfl, rfl⟩
  · by_cases h2 : x > y
    · have hc : cmpOf x y = 1 := by unfold cmpOf; rw [if_neg h1, if_pos h2]
      go_wp2
      go_ret
      exact ⟨by rw [hc]; rfl, rfl⟩
    · have hc : cmpOf x y = 0 := by unfold cmpOf; rw [if_neg h1, if_neg h2]
      go_wp2
      go_ret
      exact ⟨by rw [hc]; rfl, rfl⟩
theorem closure_c (x y : Int) (s t : ByteArray) (w : World) : Calls Tryz.prog 46 #[.agg #[.int .u8 x, .string s], .agg #[.int .u8 y, .string t]] w fun e w' => e = .returned (.int .i64 (cmpOf x y)) ∧ ∃ q os', w' = grow (w.drewN q) os' := by
  go_enter Tryz.func46, Tryz.ntmps46
  go_wp2_with fail
  refine (compare_c x y _).mono ?_
  rintro e w1 ⟨rfl, rfl⟩
  go_wp2
  go_ret
  exact ⟨rfl, 0, _, by rw [alloc_eq_grow, alloc_eq_grow, grow_grow]; rfl⟩
theorem insertion_nil (w : World) (g : Nat) (cb : Array Value) : Calls Tryz.prog 87 #[.slice none 0 0, .int .i64 0, .int .i64 0, .func (.func g) #[] cb] w fun e w' => e = .returned (.tuple #[]) ∧ w' = w := by
  go_enter Tryz.func87, Tryz.ntmps87
  go_wp2
  refine wp_loop_rounds 1 ?_
  rw [rounds_succ]
  go_wp2
  go_end0
  exact ⟨rfl, rfl⟩
theorem stable_nil (w : World) (g : Nat) (cb : Array Value) : Calls Tryz.prog 70 #[.slice none 0 0, .int .i64 0, .func (.func g) #[] cb] w fun e w' => e = .returned (.tuple #[]) ∧ w' = w := by
  go_enter Tryz.func70, Tryz.ntmps70
  go_wp2
  refine wp_loop_rounds 1 ?_
  rw [rounds_succ]
  go_wp2_with fail
  refine (insertion_nil w g cb).mono ?_
  rintro e w1 ⟨rfl, rfl⟩
  go_wp2
  refine wp_loop_rounds 1 ?_
  rw [rounds_succ]
  go_wp2
  go_end0
  exact ⟨rfl, rfl⟩
theorem sort_nil (w : World) : Calls Tryz.prog 45 #[.slice none 0 0, .func (.func 46) #[] #[]] w fun e w' => e = .returned (.tuple #[]) ∧ w' = w := by
  go_enter Tryz.func45, Tryz.ntmps45
  go_wp2_with fail
  refine (stable_nil w _ _).mono ?_
  rintro e w1 ⟨rfl, rfl⟩
  go_wp2
  go_end0
  exact ⟨rfl, rfl⟩
theorem sort_own {α : Type} [Inhabited α] (num : α → Int) (tok : α → ByteArray) (l : List α) (g cap : Nat) (cur : Array Value) (w : World) (h6 : l.length ≤ 1000000)
    (hb : w.heap[g]? = some (.cells cur 61 (0, 0))) (ht : cur.toList.take (l.length * 2) = l.flatMap (two (fun x => .int .u8 (num x)) (fun x => .string (tok x)))) (Z : List α) (hZ : Rising num Z) (hs : Same num l Z) :
    Calls Tryz.prog 45 #[.slice (some ⟨g, 0, none⟩) l.length cap, .func (.func 46) #[] #[]] w fun e w' =>
      e = .returned (.tuple #[]) ∧ ∃ n os, w' = sortWorldK (two (fun x => .int .u8 (num x)) (fun x => .string (tok x))) 2 w g 0 n Z.toArray os := by
  have hg : g < w.heap.size := (Array.getElem?_eq_some_iff.1 hb).1
  have hH := holds_own (fun x => .int .u8 (num x)) (fun x => .string (tok x)) hb ht
  have hT : Told num (two (fun x => .int .u8 (num x)) (fun x => .string (tok x))) 2 46 #[] w g 0 l.toArray l.length := by
    refine ⟨sizeK, ⟨fun _ => rfl, fun x v hv => ?_, hH, hg⟩, by simp, by omega, ⟨fun x y => cmpOf (num x) (num y), fun m os dk _ x y => ?_, fun x y => ?_⟩, ?_⟩
    · simp only [two, List.mem_cons, List.not_mem_nil, or_false] at hv
      rcases hv with rfl | rfl <;> rfl
    · exact closure_c (num x) (num y) (tok x) (tok y) _
    · show cmpOf (num x) (num y) < 0 ↔ _
      unfold cmpOf
      split
      · exact ⟨fun _ => by assumption, fun _ => by decide⟩
      · split
        · exact ⟨fun h => absurd h (by decide), fun h => absurd h (by assumption)⟩
        · exact ⟨fun h => absurd h (by decide), fun h => absurd h (by assumption)⟩
    · exact enters_of Tryz.func46 (by kernel_rfl) rfl
  have h := stable_c num _ 2 _ #[] g 0 cap l.length l.toArray w hT l.toArray w l (SWK.start hH) rfl (by simp) h6
  go_enter Tryz.func45, Tryz.ntmps45
  go_wp2_with fail
  refine h.mono ?_
  rintro e w1 ⟨rfl, d', Z', hd, S, hz⟩
  go_wp2
  go_end0
  obtain ⟨n, os, e⟩ := S.out
  have hzz : Z' = Z := unique (key := num) Z'.length rfl hz.out.1 hZ (hz.out.2.symm.trans hs)
  refine ⟨rfl, n, os, ?_⟩
  rw [e, ← hzz, ← hd.out]
end Go.Proofs.YtfboejlemnfndaaGreatDoor.Srt
end
section
namespace Go.Proofs.YtfboejlemnfndaaGreatDoor.Srt
open Go.Shelf Go.RowKit Go.Lib
theorem clone_nil (n c : Nat) (w : World) : Calls Tryz.prog 44 #[.slice none n c] w fun e w' => e = .returned (.slice none 0 0) ∧ w' = w := by
  have q22 : ∀ (w : World) (a : Option Addr) (n c n' c' : Nat), (binOp .eql 29 (.slice a n c) (.slice none n' c')).run Tryz.prog w = .ok (.bool a.isNone) w := fun w a n c n' c' => Lib.run_eql_slice_nil w _ _ a n c n' c' Tryz.underlying29
  go_enter Tryz.func44, Tryz.ntmps44
  go_wp2
  go_ret
  exact ⟨rfl, rfl⟩
set_option maxHeartbeats 2000000 in
theorem clone_c (i0 : TypeInfo) (z : Value) (bytes : Nat) (hi : Tryz.prog.info? 61 = some i0) (hz0 : i0.zero = some z) (hz1 : i0.size = 2) (hz2 : i0.bytes = bytes) (hzs : z.cells.size = 2)
    (ad : Addr) (n c : Nat) (news : List Value) (w : World) (hl : news.length = n * 2) (hn : n ≤ maxLen) (hbig : n * bytes ≤ 140737488355328)
    (hc : ∀ j u, news[j]? = some u → w.cell? (ad.add j) = some u) (h1 : ∀ u ∈ news, u.oneCell' = true) :
    Calls Tryz.prog 44 #[.slice (some ad) n c] w fun e w' => ∃ v', e = .returned v' ∧ w'.ownsRow w.heap.size 61 2 v' n news ∧ v' ≠ .slice none 0 0 ∧ Below w.heap.size w w' := by
  have q22 : ∀ (w : World) (a : Option Addr) (n c n' c' : Nat), (binOp .eql 29 (.slice a n c) (.slice none n' c')).run Tryz.prog w = .ok (.bool a.isNone) w := fun w a n c n' c' => Lib.run_eql_slice_nil w _ _ a n c n' c' Tryz.underlying29
  have A : Aside (∀ j u, news[j]? = some u → w.cell? (ad.add j) = some u) := hc
  clear hc
  go_enter Tryz.func44, Tryz.ntmps44
  go_wp2_with (at_builtin; refine wpList_append_own _ rfl _ _ 29 rfl w.heap.size 61 i0 z 2 bytes Tryz.underlying29 hi hz0 hz1 hz2 hzs (by decide) _ _ _ rfl (World.ownsRow_made w #[] 0 (Nat.le_refl _) (Nat.zero_le _) (by simp)) ad n c news rfl ?qc1 ?qc2 ?qc3 ?qc4 ?qc5 ?qc6 ?_)
  case qc1 => exact hl
  case qc2 =>
    intro j u hj
    exact Lib.cell?_alloc_some _ (A.out j u hj)
  case qc3 => exact h1
  case qc4 => rw [Nat.zero_add]; exact hn
  case qc5 => rw [Nat.zero_add]; exact hbig
  case qc6 => simp
  intro v' w1 hown hgrow hnil
  go_wp2
  go_ret
  refine ⟨v', rfl, by simpa using hown, ?_, ?_⟩
  · exact hnil
  · exact ((Below.refl _ w).alloc (Nat.le_refl _) _).grown hgrow (by simp) (by intro k hk; simp [Value.ownBlock] at hk; omega)
end Go.Proofs.YtfboejlemnfndaaGreatDoor.Srt
end
section
namespace Go.Proofs.YtfboejlemnfndaaGreatDoor.XMk
open Go.RowKit Go.Proofs.YtfboejlemnfndaaGreatDoorW.PrintWords Go.Proofs.YtfboejlemnfndaaGreatDoorW.PrintLast Go.Proofs.YtfboejlemnfndaaGreatDoorW.PrintMore
attribute [local go_sem] extract_sub max2_int min2_int max_two min_two max_three min_three max_four min_four   -- for this text's walks alone
set_option linter.unusedVariables false
set_option linter.unusedSimpArgs false

noncomputable section
def meta_Canon.ins (x : S61) : List S61 → List S61
 | [] => [x]
 | y :: l => if x.f0 ≤ y.f0 then x :: y :: l else y :: meta_Canon.ins x l
def meta_Canon.srt : List S61 → List S61
 | [] => []
 | x :: l => meta_Canon.ins x (meta_Canon.srt l)
theorem meta_Canon.ins_ok (x : S61) : ∀ l, Srt.Rising (fun z : S61 => z.f0) l → Srt.Rising (fun z : S61 => z.f0) (meta_Canon.ins x l) ∧ Srt.Same (fun z : S61 => z.f0) (x :: l) (meta_Canon.ins x l)
 | [], _ => ⟨List.pairwise_singleton _ _, Srt.Same.refl _⟩
 | y :: l, h => by
  have hy := List.pairwise_cons.1 h
  unfold meta_Canon.ins
  split
  · rename_i hxy
    refine ⟨List.pairwise_cons.2 ⟨fun z hz => ?_, h⟩, Srt.Same.refl _⟩
    rcases List.mem_cons.1 hz with rfl | hz
    · exact hxy
    have : y.f0 ≤ z.f0 := hy.1 z hz
    show x.f0 ≤ z.f0
    omega
  rename_i hxy
  obtain ⟨h1, h2⟩ := meta_Canon.ins_ok x l hy.2
  refine ⟨List.pairwise_cons.2 ⟨fun z hz => ?_, h1⟩, ?_⟩
  · rcases List.mem_cons.1 (h2.mem hz) with rfl | hz
    · show y.f0 ≤ z.f0
      omega
    exact hy.1 z hz
  have h3 : Srt.Same (fun z : S61 => z.f0) ([x] ++ [y] ++ l) ([y] ++ [x] ++ l) := (Srt.Same.turn (fun a ha b hb => by
   rw [List.mem_singleton.1 ha, List.mem_singleton.1 hb]
   show y.f0 < x.f0
   omega)).append (Srt.Same.refl l)
  have h4 := h3.trans ((Srt.Same.refl [y]).append h2)
  simpa using h4
theorem meta_Canon.srt_ok : ∀ l, Srt.Rising (fun z : S61 => z.f0) (meta_Canon.srt l) ∧ Srt.Same (fun z : S61 => z.f0) l (meta_Canon.srt l)
 | [] => ⟨List.Pairwise.nil, Srt.Same.refl _⟩
 | x :: l => by
  obtain ⟨h1, h2⟩ := meta_Canon.srt_ok l
  obtain ⟨h3, h4⟩ := meta_Canon.ins_ok x _ h1
  exact ⟨h3, ((Srt.Same.refl [x]).append h2).trans h4⟩
def meta_Canon.f (a0_0 : Int) (a0_1 : ByteArray) (a0_2 : Int) (l0_3 : List S61) : Option (Int × ByteArray × Int × List S61) := if l0_3.length ≤ 1000000 then some (a0_0, a0_1, a0_2, meta_Canon.srt l0_3) else none
def meta_Canon.cl (l : List S61) : List Value := l.flatMap (Srt.two (fun x => .int .u8 x.f0) (fun x => .string x.f1))
theorem meta_Canon.reps (w : World) (base : Nat) (ok : Nat → Prop) (l : List S61) : Reps (k61.M w base ok) 2 l (meta_Canon.cl l) := by
 refine ⟨Srt.cells_len _ _ l, fun j p hp => ?_⟩
 unfold meta_Canon.cl
 rw [Srt.cells_at _ _ l j p hp]
 exact k61_mkM w base ok p
theorem meta_Canon.reads {w : World} {ad : Addr} {l : List S61} (h : Kd.C k61 w (some ad) l.length l) (j : Nat) (u : Value) (hu : (meta_Canon.cl l)[j]? = some u) : w.cell? (ad.add j) = some u := by
 have hj : j < l.length * 2 := by
  rw [← Srt.cells_len (fun x : S61 => (.int .u8 x.f0 : Value)) (fun x => .string x.f1) l]
  exact (List.getElem?_eq_some_iff.1 hu).1
 have hi : j / 2 < l.length := by omega
 obtain ⟨ad', c, e, hcl, hK, hc⟩ := Kd.C_get h z61 ((j / 2 : Nat) : Int) (by omega) (by omega)
 injection e with e
 subst e
 obtain rfl := k61_open hK
 rw [Int.toNat_natCast] at hc
 have e1 : l.getD (j / 2) z61 = l[j / 2] := by rw [List.getD_eq_getElem?_getD, List.getElem?_eq_getElem hi]; rfl
 rw [e1] at hc
 have h1 : (meta_Canon.cl l)[j]? = ((meta_Canon.cl l).drop (j / 2 * 2))[j % 2]? := by
  rw [List.getElem?_drop]; congr 1; omega
 unfold meta_Canon.cl at h1 hu
 rw [h1, Srt.cells_at _ _ l (j / 2) l[j / 2] (List.getElem?_eq_getElem hi)] at hu
 have h2 : j % 2 = 0 ∨ j % 2 = 1 := by omega
 have e2 : j = j / 2 * 2 + j % 2 := by omega
 conv => lhs; rw [e2]
 refine hc (j % 2) u ?_
 rcases h2 with h2 | h2 <;> rw [h2] at hu ⊢ <;> exact hu
def meta_Canon.z : Array Value := #[.int .i64 0, .string ⟨#[]⟩, .int .i64 0, .slice none 0 0]
set_option maxHeartbeats 8000000 in
set_option maxRecDepth 100000 in
theorem meta_Canon.calls (a0_0 : Int) (a0_1 : ByteArray) (a0_2 : Int) (A0_3 : Option Addr) (c0_3 : Nat) (l0_3 : List S61) (r1 : Int) (r2 : ByteArray) (r3 : Int) (r4 : List S61) (w : World) (hr0_3 : Kd.C k61 w A0_3 l0_3.length l0_3) (hc0_3 : l0_3.length ≤ c0_3) (h : meta_Canon.f a0_0 a0_1 a0_2 l0_3 = some (r1, r2, r3, r4)) :
 Calls Tryz.prog 21 #[.agg #[.int .i64 a0_0, .string a0_1, .int .i64 a0_2, .slice A0_3 l0_3.length c0_3]] w fun e w' => ∃ v3_ : Value, e = .returned (.agg #[.int .i64 r1, .string r2, .int .i64 r3, v3_]) ∧ Kd.R k61 61 w' w.heap.size (fun _ => True) v3_ r4 ∧ Below w.heap.size w w' := by
 haveI : Inhabited S61 := ⟨z61⟩
 unfold meta_Canon.f at h
 split at h
 · rename_i h6
   simp only [Option.some.injEq, Prod.mk.injEq] at h
   obtain ⟨rfl, rfl, rfl, rfl⟩ := h
   obtain ⟨hZ, hS⟩ := meta_Canon.srt_ok l0_3
   have HZ := Aside0.mk hZ
   have HS := Aside0.mk hS
   have HR := Aside0.mk hr0_3
   have hb0 : Below w.heap.size w ((w.alloc (.cells #[.int .i64 a0_0, .string a0_1, .int .i64 a0_2, .slice A0_3 l0_3.length c0_3] 31)).alloc (.cells meta_Canon.z 31)) := ((Below.refl _ w).alloc (Nat.le_refl _) _).alloc (by simp) _
   have HB0 := Aside0.mk hb0
   clear hZ hS hr0_3 hb0
   have hne : w.heap.size ≠ w.heap.size + 1 := by omega
   cases A0_3 with
   | none =>
    have hl : l0_3 = [] := by
     cases l0_3 with
     | nil => rfl
     | cons x l =>
      obtain ⟨ad, _, e, _⟩ := Kd.C_get HR.out z61 0 (by omega) (by simp)
      cases e
    subst hl
    clear HR HZ HS
    go_enter Tryz.func21, Tryz.ntmps21
    go_wp2_with fail
    refine (Srt.clone_nil _ _ _).mono ?_
    rintro e w1 ⟨rfl, hw1⟩
    have hx1 : w1.heap[w.heap.size]? = some (.cells #[.int .i64 a0_0, .string a0_1, .int .i64 a0_2, .slice none 0 c0_3] 31 (0, 0)) := by rw [hw1]; exact blk_alloc (Go.heap_alloc_new w _) _
    have hy1 : w1.heap[w.heap.size + 1]? = some (.cells meta_Canon.z 31 (0, 0)) := by
     rw [hw1, show w.heap.size + 1 = (w.alloc (.cells #[.int .i64 a0_0, .string a0_1, .int .i64 a0_2, .slice none 0 c0_3] 31)).heap.size from by simp]
     exact Go.heap_alloc_new _ _
    have HB1 : Aside0 (Below w.heap.size w w1) := ⟨by rw [hw1]; exact HB0.out⟩
    have hf3 := blk_frozen hx1 3
    have hq3 : w1.cell? ⟨w.heap.size, 3, none⟩ = some (.slice none 0 c0_3) := (blk_cell hx1 3).trans rfl
    have HX1 := Lib.hid hx1
    have HY1 := Lib.hid hy1
    clear hw1 hx1 hy1 HB0
    go_wp2_with fail
    refine (Srt.sort_nil _).mono ?_
    rintro e w2 ⟨rfl, hw2⟩
    have hx2 : w2.heap[w.heap.size]? = some (.cells #[.int .i64 a0_0, .string a0_1, .int .i64 a0_2, .slice none 0 0] 31 (0, 0)) := by rw [hw2]; exact blk_put HX1.out 3 _ rfl
    have hy2 : w2.heap[w.heap.size + 1]? = some (.cells meta_Canon.z 31 (0, 0)) := by rw [hw2]; exact blk_far HY1.out (by show w.heap.size + 1 ≠ w.heap.size; omega) _
    have HB2 : Aside0 (Below w.heap.size w w2) := ⟨by rw [hw2]; exact HB1.out.setCell (Nat.le_refl _) _⟩
    clear hw2 HX1 HY1 HB1 hf3 hq3
    have hcm0 : w2.cell? ⟨w.heap.size, 0, none⟩ = some (.int .i64 a0_0) := (blk_cell hx2 0).trans rfl
    have hcm1 : w2.cell? ⟨w.heap.size, 1, none⟩ = some (.string a0_1) := (blk_cell hx2 1).trans rfl
    have hcm2 : w2.cell? ⟨w.heap.size, 2, none⟩ = some (.int .i64 a0_2) := (blk_cell hx2 2).trans rfl
    have hcm3 : w2.cell? ⟨w.heap.size, 3, none⟩ = some (.slice none 0 0) := (blk_cell hx2 3).trans rfl
    have hcz0 : w2.cell? ⟨w.heap.size + 1, 0, none⟩ = some (.int .i64 0) := (blk_cell hy2 0).trans rfl
    have hcz1 : w2.cell? ⟨w.heap.size + 1, 1, none⟩ = some (.string ⟨#[]⟩) := (blk_cell hy2 1).trans rfl
    have hcz2 : w2.cell? ⟨w.heap.size + 1, 2, none⟩ = some (.int .i64 0) := (blk_cell hy2 2).trans rfl
    have hcz3 : w2.cell? ⟨w.heap.size + 1, 3, none⟩ = some (.slice none 0 0) := (blk_cell hy2 3).trans rfl
    have hfz0 := blk_frozen hy2 0
    have hfz1 := blk_frozen hy2 1
    have hfz2 := blk_frozen hy2 2
    have hfz3 := blk_frozen hy2 3
    have HY2 := Lib.hid hy2
    clear hx2 hy2
    go_wp2
    exact bodyPost_ret (results_cell_row rfl _ _ (w.heap.size + 1) 31 #[.int .i64 a0_0, .string a0_1, .int .i64 a0_2, .slice none 0 0] (0, 0) _ rfl (blk_put (blk_put (blk_put (blk_put HY2.out 0 _ rfl) 1 _ rfl) 2 _ rfl) 3 _ rfl) Tryz.underlying31 rfl (by kernel_rfl)) rfl ⟨_, rfl, Kd.R_nil _ _ _ _ _, (((HB2.out.setCell (by show w.heap.size ≤ w.heap.size + 1; omega) _).setCell (by show w.heap.size ≤ w.heap.size + 1; omega) _).setCell (by show w.heap.size ≤ w.heap.size + 1; omega) _).setCell (by show w.heap.size ≤ w.heap.size + 1; omega) _⟩
   | some ad =>
    obtain ⟨i0, hi0, hz0, hsz0, hbz0⟩ := info_parts info61
    have HREAD := Lib.hid (fun j u => meta_Canon.reads (Kd.C_below HR.out HB0.out) j u)
    clear HR
    go_enter Tryz.func21, Tryz.ntmps21
    go_wp2_with fail
    refine (Srt.clone_c i0 _ _ hi0 hz0 hsz0 hbz0 rfl ad l0_3.length c0_3 (meta_Canon.cl l0_3) _ (Srt.cells_len _ _ l0_3) (by have : maxLen = 9223372036854775807 := rfl; omega) (by omega) HREAD.out (fun u hu => ?_)).mono ?_
    · obtain ⟨x, _, hx⟩ := List.mem_flatMap.1 hu
      simp only [Srt.two, List.mem_cons, List.not_mem_nil, or_false] at hx
      rcases hx with rfl | rfl <;> rfl
    rintro e w1 ⟨v', rfl, hown, hnn, hb1⟩
    rcases hown.2 with ⟨hnil, _⟩ | ⟨g, cap, cur, rfl, hbase, hg, h1, h2, h3, h4⟩
    · exact absurd hnil hnn
    have hx1 : w1.heap[w.heap.size]? = some (.cells #[.int .i64 a0_0, .string a0_1, .int .i64 a0_2, .slice (some ad) l0_3.length c0_3] 31 (0, 0)) := (hb1.block _ (by simp <;> omega)).trans (blk_alloc (Go.heap_alloc_new w _) _)
    have hy1 : w1.heap[w.heap.size + 1]? = some (.cells meta_Canon.z 31 (0, 0)) := by
     refine (hb1.block _ (by simp <;> omega)).trans ?_
     rw [show w.heap.size + 1 = (w.alloc (.cells #[.int .i64 a0_0, .string a0_1, .int .i64 a0_2, .slice (some ad) l0_3.length c0_3] 31)).heap.size from by simp]
     exact Go.heap_alloc_new _ _
    have hgs : w.heap.size + 2 ≤ g := by simpa using hbase
    have HB1 : Aside0 (Below w.heap.size w w1) := ⟨HB0.out.trans (hb1.mono (by simp; omega))⟩
    have hf3 := blk_frozen hx1 3
    have hq3 : w1.cell? ⟨w.heap.size, 3, none⟩ = some (.slice (some ad) l0_3.length c0_3) := (blk_cell hx1 3).trans rfl
    have HX1 := Lib.hid hx1
    have HY1 := Lib.hid hy1
    have HG := Lib.hid hg
    have HCUR := Lib.hid h3
    have HTAKE := Lib.hid h4
    have HC12 : Aside0 (l0_3.length ≤ cap ∧ cap ≤ maxLen ∧ w.heap.size + 2 ≤ g) := ⟨h1, h2, hgs⟩
    clear hx1 hy1 HB0 hown hnn hb1 hbase hg h1 h2 h3 h4 hgs HREAD hi0 hz0 hsz0 hbz0
    go_wp2_with fail
    refine (Srt.sort_own (fun x : S61 => x.f0) (fun x => x.f1) l0_3 g cap cur _ h6 (blk_far HG.out (by show g ≠ w.heap.size; have := HC12.out; omega) _) HTAKE.out (meta_Canon.srt l0_3) HZ.out HS.out).mono ?_
    rintro e w2 ⟨rfl, n, os, hw2⟩
    have hx : (w1.setCell ⟨w.heap.size, 3, none⟩ (.slice (some ⟨g, 0, none⟩) l0_3.length cap)).heap[w.heap.size]? = some (.cells #[.int .i64 a0_0, .string a0_1, .int .i64 a0_2, .slice (some ⟨g, 0, none⟩) l0_3.length cap] 31 (0, 0)) := blk_put HX1.out 3 _ rfl
    have hy : (w1.setCell ⟨w.heap.size, 3, none⟩ (.slice (some ⟨g, 0, none⟩) l0_3.length cap)).heap[w.heap.size + 1]? = some (.cells meta_Canon.z 31 (0, 0)) := blk_far HY1.out (by show w.heap.size + 1 ≠ w.heap.size; omega) _
    have hgg : (w1.setCell ⟨w.heap.size, 3, none⟩ (.slice (some ⟨g, 0, none⟩) l0_3.length cap)).heap[g]? = some (.cells cur 61 (0, 0)) := blk_far HG.out (by show g ≠ w.heap.size; have := HC12.out; omega) _
    have hB : Below w.heap.size w (w1.setCell ⟨w.heap.size, 3, none⟩ (.slice (some ⟨g, 0, none⟩) l0_3.length cap)) := HB1.out.setCell (Nat.le_refl _) _
    generalize (w1.setCell ⟨w.heap.size, 3, none⟩ (.slice (some ⟨g, 0, none⟩) l0_3.length cap)) = W at hw2 hx hy hgg hB
    have hglt : g < W.heap.size := blk_lt hgg
    have hc12 := HC12.out
    have hk : Below g W w2 := by rw [hw2]; exact Srt.below_sorted _ _ (Below.refl g W) (by omega) (Nat.le_refl _)
    have hx2 : w2.heap[w.heap.size]? = some (.cells #[.int .i64 a0_0, .string a0_1, .int .i64 a0_2, .slice (some ⟨g, 0, none⟩) l0_3.length cap] 31 (0, 0)) := (hk.block _ (by omega)).trans hx
    have hy2 : w2.heap[w.heap.size + 1]? = some (.cells meta_Canon.z 31 (0, 0)) := (hk.block _ (by omega)).trans hy
    have HB2 : Aside0 (Below w.heap.size w w2) := ⟨by rw [hw2]; exact Srt.below_sorted _ _ hB (by omega) (by omega)⟩
    have hlen := HS.out.length rfl
    have hR : Kd.R k61 61 w2 w.heap.size (fun k => w.heap.size + 2 ≤ k) (.slice (some ⟨g, 0, none⟩) l0_3.length cap) (meta_Canon.srt l0_3) := by
     refine ⟨fun k hk => ?_, meta_Canon.cl (meta_Canon.srt l0_3), ?_, meta_Canon.reps _ _ _ _⟩
     · have : g = k := by simpa [Value.ownBlock] using hk
       omega
     have := Srt.own_sorted (fun x : S61 => (.int .u8 x.f0 : Value)) (fun x => .string x.f1) (n := n) (os := os) (base := w.heap.size) hlen (by omega) hgg hc12.1 hc12.2.1 HCUR.out
     rw [hw2, hlen]
     exact this
    have HRR := Aside0.mk hR
    clear hw2 hx hy hgg hB hk hglt hlen hR HX1 HY1 HB1 hf3 hq3 HG HCUR HTAKE hc12
    have hcm0 : w2.cell? ⟨w.heap.size, 0, none⟩ = some (.int .i64 a0_0) := (blk_cell hx2 0).trans rfl
    have hcm1 : w2.cell? ⟨w.heap.size, 1, none⟩ = some (.string a0_1) := (blk_cell hx2 1).trans rfl
    have hcm2 : w2.cell? ⟨w.heap.size, 2, none⟩ = some (.int .i64 a0_2) := (blk_cell hx2 2).trans rfl
    have hcm3 : w2.cell? ⟨w.heap.size, 3, none⟩ = some (.slice (some ⟨g, 0, none⟩) l0_3.length cap) := (blk_cell hx2 3).trans rfl
    have hcz0 : w2.cell? ⟨w.heap.size + 1, 0, none⟩ = some (.int .i64 0) := (blk_cell hy2 0).trans rfl
    have hcz1 : w2.cell? ⟨w.heap.size + 1, 1, none⟩ = some (.string ⟨#[]⟩) := (blk_cell hy2 1).trans rfl
    have hcz2 : w2.cell? ⟨w.heap.size + 1, 2, none⟩ = some (.int .i64 0) := (blk_cell hy2 2).trans rfl
    have hcz3 : w2.cell? ⟨w.heap.size + 1, 3, none⟩ = some (.slice none 0 0) := (blk_cell hy2 3).trans rfl
    have hfz0 := blk_frozen hy2 0
    have hfz1 := blk_frozen hy2 1
    have hfz2 := blk_frozen hy2 2
    have hfz3 := blk_frozen hy2 3
    have HY2 := Lib.hid hy2
    clear hx2 hy2
    go_wp2
    refine bodyPost_ret (results_cell_row rfl _ _ (w.heap.size + 1) 31 #[.int .i64 a0_0, .string a0_1, .int .i64 a0_2, .slice (some ⟨g, 0, none⟩) l0_3.length cap] (0, 0) _ rfl (blk_put (blk_put (blk_put (blk_put HY2.out 0 _ rfl) 1 _ rfl) 2 _ rfl) 3 _ rfl) Tryz.underlying31 rfl (by kernel_rfl)) rfl ⟨_, rfl, ?_, (((HB2.out.setCell (by show w.heap.size ≤ w.heap.size + 1; omega) _).setCell (by show w.heap.size ≤ w.heap.size + 1; omega) _).setCell (by show w.heap.size ≤ w.heap.size + 1; omega) _).setCell (by show w.heap.size ≤ w.heap.size + 1; omega) _⟩
    have hf : ∀ i : Nat, ∀ k_, w.heap.size + 2 ≤ k_ → k_ ≠ (⟨w.heap.size + 1, i, none⟩ : Addr).block := fun i k_ hk => by show k_ ≠ w.heap.size + 1; omega
    exact Kd.R_mono (Kd.R_far (Kd.R_far (Kd.R_far (Kd.R_far HRR.out (hf 0) _) (hf 1) _) (hf 2) _) (hf 3) _) (fun _ _ => trivial)
 cases h

end
end Go.Proofs.YtfboejlemnfndaaGreatDoor.XMk
end
