/- StatWrites, in plain Lean, third part: pairs read. -/
import Derived.Test.YtfkcdhcmbdmcdaaDoorSwWrite
namespace Go.Proofs.YtfkcdhcmbdmcdaaDoor.XSw
open Go.RowKit Go.Proofs.YtfkcdhcmbdmcdaaDoorW.PrintWords Go.Proofs.YtfkcdhcmbdmcdaaDoorW.PrintLast Go.Proofs.YtfkcdhcmbdmcdaaDoorW.PrintMore
theorem L_sub (s : ByteArray) (a b : Nat) : L (sub s a b) = ((L s).drop a).take (b - a) := by
  show (s.extract a b).data.toList = _
  rw [Lib.extract_data]
theorem index_room (l q : List UInt8) (h : 0 ≤ Lib.index l q) : (Lib.index l q).toNat + q.length ≤ l.length := by
  induction l with
  | nil =>
    unfold Lib.index at h ⊢
    by_cases hq : q.isEmpty = true
    · rw [if_pos hq]; rw [List.isEmpty_iff.1 hq]; simp
    · rw [if_neg hq] at h; omega
  | cons b l ih =>
    unfold Lib.index at h ⊢
    by_cases hp : q.isPrefixOf (b :: l) = true
    · rw [if_pos hp]
      have := (List.isPrefixOf_iff_prefix.1 hp).length_le
      simpa using this
    · rw [if_neg hp] at h ⊢
      by_cases h1 : (Lib.index l q == -1) = true
      · rw [if_pos h1] at h; omega
      · rw [if_neg h1] at h ⊢
        have hg := Lib.index_ge l q
        have h2 : Lib.index l q ≠ -1 := by simpa using h1
        have := ih (by omega)
        rw [List.length_cons]; omega
abbrev ix (l : List UInt8) : Int := Lib.index l [13, 10]
abbrev sp (l : List UInt8) : Int := Lib.index l [32]
theorem ix_one (c : UInt8) : ix [c] = -1 := by
  show (if ([13, 10] : List UInt8).isPrefixOf [c] then (0 : Int) else if Lib.index [] [13, 10] == -1 then -1 else Lib.index [] [13, 10] + 1) = -1
  rw [if_neg (by simp [List.isPrefixOf])]; rfl
theorem ix_two (c e : UInt8) (l : List UInt8) : ix (c :: e :: l) = if c = 13 ∧ e = 10 then 0 else if ix (e :: l) = -1 then -1 else ix (e :: l) + 1 := by
  show (if ([13, 10] : List UInt8).isPrefixOf (c :: e :: l) then (0 : Int) else if Lib.index (e :: l) [13, 10] == -1 then -1 else Lib.index (e :: l) [13, 10] + 1) = _
  have hp : (([13, 10] : List UInt8).isPrefixOf (c :: e :: l) = true) ↔ (c = 13 ∧ e = 10) := by
    show ((13 : UInt8) == c && ((10 : UInt8) == e && true)) = true ↔ _
    rw [Bool.and_true, Bool.and_eq_true, beq_iff_eq, beq_iff_eq]
    exact ⟨fun h => ⟨h.1.symm, h.2.symm⟩, fun h => ⟨h.1.symm, h.2.symm⟩⟩
  by_cases h : c = 13 ∧ e = 10
  · rw [if_pos (hp.2 h), if_pos h]
  · rw [if_neg (fun q => h (hp.1 q)), if_neg h]
    by_cases h1 : Lib.index (e :: l) [13, 10] = -1
    · rw [if_pos (by simpa using h1), if_pos h1]
    · rw [if_neg (by simpa using h1), if_neg h1]
theorem line_ev (s : ByteArray) (hs : s.size ≤ 1099511627776) (d : Nat) : ∀ i, i + d = s.size →
    Ev (fun k => tallboyref32_line.l0 k s (i : Int)) (if ix ((L s).drop i) < 0 then -1 else (i : Int) + ix ((L s).drop i)) := by
  have stop : ∀ i : Nat, s.size ≤ i + 1 → i ≤ s.size → Ev (fun k => tallboyref32_line.l0 k s (i : Int)) (-1) := by
    intro i hi hi2
    refine ⟨1, fun k hk => ?_⟩
    obtain ⟨k, rfl⟩ : ∃ m, k = m + 1 := ⟨k - 1, by omega⟩
    simp only [tallboyref32_line.l0]
    rw [wrap_succ i (by omega), if_neg (by omega)]
  induction d with
  | zero =>
    intro i hi
    rw [List.drop_of_length_le (by rw [← L_size]; omega)]
    exact stop i (by omega) (by omega)
  | succ d ih =>
    intro i hi
    have hl : i < (L s).length := by rw [← L_size]; omega
    by_cases h1 : i + 1 < s.size
    · have hl1 : i + 1 < (L s).length := by rw [← L_size]; omega
      have hc := List.getElem?_eq_getElem hl
      have he := List.getElem?_eq_getElem hl1
      have h := ih (i + 1) (by omega)
      rw [List.drop_eq_getElem_cons hl, List.drop_eq_getElem_cons hl1, ix_two]
      rw [List.drop_eq_getElem_cons hl1] at h
      generalize (L s)[i] = c at *
      generalize (L s)[i + 1] = e at *
      have hg : -1 ≤ ix (e :: (L s).drop (i + 1 + 1)) := Lib.index_ge _ _
      have h13 : ((c.toNat : Int) = 13) ↔ c = 13 := ⟨fun q => UInt8.toNat_inj.1 (show c.toNat = 13 by omega), fun q => by rw [q]; rfl⟩
      have h10 : ((e.toNat : Int) = 10) ↔ e = 10 := ⟨fun q => UInt8.toNat_inj.1 (show e.toNat = 10 by omega), fun q => by rw [q]; rfl⟩
      by_cases hce : c = 13 ∧ e = 10
      · rw [if_pos hce]
        refine ⟨1, fun k hk => ?_⟩
        obtain ⟨k, rfl⟩ : ∃ m, k = m + 1 := ⟨k - 1, by omega⟩
        simp only [tallboyref32_line.l0]
        rw [wrap_succ i (by omega), if_pos (by omega), if_pos (by omega), if_pos (by omega), bt_list s i c hc, if_pos (h13.2 hce.1), if_pos (by omega), bt_list s (i + 1) e he, if_pos (h10.2 hce.2)]
        rfl
      · rw [if_neg hce]
        have e2 : (if (if ix (e :: (L s).drop (i + 1 + 1)) = -1 then (-1 : Int) else ix (e :: (L s).drop (i + 1 + 1)) + 1) < 0 then (-1 : Int) else (i : Int) + (if ix (e :: (L s).drop (i + 1 + 1)) = -1 then (-1 : Int) else ix (e :: (L s).drop (i + 1 + 1)) + 1)) =
            (if ix (e :: (L s).drop (i + 1 + 1)) < 0 then -1 else ((i + 1 : Nat) : Int) + ix (e :: (L s).drop (i + 1 + 1))) := by
          by_cases q : ix (e :: (L s).drop (i + 1 + 1)) = -1
          · rw [if_pos q, if_pos (by omega), if_pos (by omega)]
          · rw [if_neg q, if_neg (by omega), if_neg (by omega)]; omega
        rw [e2]
        refine Ev.step (fun k => ?_) h
        simp only [tallboyref32_line.l0]
        rw [wrap_succ i (by omega), if_pos (by omega), if_pos (by omega), if_pos (by omega), bt_list s i c hc]
        by_cases q1 : c = 13
        · rw [if_pos (h13.2 q1), if_pos (by omega), bt_list s (i + 1) e he, if_neg (fun q => hce ⟨q1, h10.1 q⟩)]
        · rw [if_neg (fun q => q1 (h13.1 q))]
    · have hd : (L s).drop (i + 1) = [] := List.drop_of_length_le (by rw [← L_size]; omega)
      rw [List.drop_eq_getElem_cons hl, hd, ix_one]
      exact stop i (by omega) (by omega)
/-! ### the first blank -/
def posn : List UInt8 → Nat
  | [] => 0
  | c :: l => if c = 32 then 0 else posn l + 1
theorem posn_le : ∀ l, posn l ≤ l.length
  | [] => Nat.le_refl _
  | c :: l => by
    unfold posn
    have := posn_le l
    split
    · exact Nat.zero_le _
    · rw [List.length_cons]; omega
theorem sp_posn : ∀ l, sp l = if posn l < l.length then (posn l : Int) else -1
  | [] => rfl
  | c :: l => by
    show (if ([32] : List UInt8).isPrefixOf (c :: l) then (0 : Int) else if Lib.index l [32] == -1 then -1 else Lib.index l [32] + 1) = _
    have ih : Lib.index l [32] = if posn l < l.length then (posn l : Int) else -1 := sp_posn l
    have hp : (([32] : List UInt8).isPrefixOf (c :: l) = true) ↔ c = 32 := by
      show ((32 : UInt8) == c && true) = true ↔ _
      rw [Bool.and_true, beq_iff_eq]
      exact eq_comm
    unfold posn
    by_cases h : c = 32
    · rw [if_pos (hp.2 h), if_pos h, if_pos (by rw [List.length_cons]; omega)]; rfl
    · rw [if_neg (fun q => h (hp.1 q)), if_neg h, ih]
      by_cases h1 : posn l < l.length
      · rw [if_pos h1, if_neg (by rw [beq_iff_eq]; omega), if_pos (by rw [List.length_cons]; omega)]; rfl
      · rw [if_neg h1, if_pos (by rfl), if_neg (by rw [List.length_cons]; omega)]
/-! ### bytes read -/
/-- A line's pair. -/
def pairB (t : List UInt8) : Option F :=
  if t.take 5 = [83, 84, 65, 84, 32] then (if posn (t.drop 5) < (t.drop 5).length then (if mayB (ba ((t.drop 5).take (posn (t.drop 5)))) (ba ((t.drop 5).drop (posn (t.drop 5) + 1))) = true then some ⟨ba ((t.drop 5).take (posn (t.drop 5))), ba ((t.drop 5).drop (posn (t.drop 5) + 1))⟩ else none) else none) else none
def rdT (N : Nat) : Nat → List UInt8 → List F → List F × Int × Int
  | 0, _, _ => ([], 0, 6)
  | d + 1, rest, acc => if ix rest < 0 then ([], 0, 6) else
    if rest.take (ix rest).toNat = [69, 78, 68] then (if 1000 < acc.length then ([], 0, 7) else (acc, ((N - (rest.length - ((ix rest).toNat + 2)) : Nat) : Int), 0))
    else match pairB (rest.take (ix rest).toNat) with
      | none => ([], 0, 6)
      | some p => rdT N d (rest.drop ((ix rest).toNat + 2)) (acc ++ [p])
def cv (x : List F × Int × Int) : List G × Int × Int := (x.1.map conv, x.2.1, x.2.2)
theorem ba_size (l : List UInt8) : (ba l).size = l.length := by rw [L_size, L_ba]
theorem cut_f (l q : List UInt8) (h : l.length < 4294967281) : strings_Cut.f (ba l) (ba q) = some (ba (Lib.cut l q).1, ba (Lib.cut l q).2.1, (Lib.cut l q).2.2) := by
  unfold strings_Cut.f
  rw [if_pos (by rw [ba_size]; exact h)]
theorem cut_prefix (t : List UInt8) (ht : t.length ≤ 1099511627776) : strings_CutPrefix.f (ba t) (⟨#[83, 84, 65, 84, 32]⟩ : ByteArray) = some (if t.take 5 = [83, 84, 65, 84, 32] then ba (t.drop 5) else ba t, decide (t.take 5 = [83, 84, 65, 84, 32])) := by
  unfold strings_CutPrefix.f stringslite_CutPrefix.f stringslite_HasPrefix.f
  have hsz : ((⟨#[83, 84, 65, 84, 32]⟩ : ByteArray).size : Int) = 5 := rfl
  rw [hsz, ba_size]
  by_cases h5 : 5 ≤ t.length
  · rw [if_pos (by omega), if_pos (by omega), if_pos (by omega)]
    have e : (sub (ba t) 0 (5 : Int).toNat).toList = t.take 5 := by
      rw [ByteArray.toList_eq]
      show L (sub (ba t) 0 5) = _
      rw [L_sub, L_ba]; rfl
    have e2 : (⟨#[83, 84, 65, 84, 32]⟩ : ByteArray).toList = [83, 84, 65, 84, 32] := by rw [ByteArray.toList_eq]
    have e3 : sub (ba t) (5 : Int).toNat t.length = ba (t.drop 5) := by
      apply ext
      rw [L_sub, L_ba, L_ba]
      show (t.drop 5).take (t.length - 5) = _
      rw [List.take_of_length_le (by rw [List.length_drop]; omega)]
    rw [e, e2]
    simp only [Option.bind_some]
    by_cases hp : t.take 5 = [83, 84, 65, 84, 32]
    · rw [if_pos (by rw [hp]; rfl), if_pos (by omega), if_pos (by omega), if_pos hp, decide_eq_true hp]
      simp only [Option.bind_some]
      rw [e3]
    · rw [if_neg (by rw [beq_iff_eq]; exact hp), if_neg hp, decide_eq_false hp]
      rfl
  · have hp : ¬ t.take 5 = [83, 84, 65, 84, 32] := fun q => by
      have := congrArg List.length q
      rw [List.length_take] at this
      simp at this
      omega
    rw [if_neg (by omega), if_neg hp, decide_eq_false hp]
    rfl
theorem cut_ix (l : List UInt8) : Lib.cut l [13, 10] = if ix l < 0 then (l, [], false) else (l.take (ix l).toNat, l.drop ((ix l).toNat + 2), true) := by
  unfold Lib.cut
  by_cases h : ix l < 0
  · rw [if_neg (by show ¬ 0 ≤ ix l; omega), if_pos h]
  · rw [if_pos (by show 0 ≤ ix l; omega), if_neg h]; rfl
theorem cut_sp (l : List UInt8) : Lib.cut l [32] = if posn l < l.length then (l.take (posn l), l.drop (posn l + 1), true) else (l, [], false) := by
  unfold Lib.cut
  have h := sp_posn l
  by_cases h1 : posn l < l.length
  · rw [if_pos h1] at h
    rw [if_pos (by show 0 ≤ sp l; omega), if_pos h1, show (Lib.index l [32]).toNat = posn l from by show (sp l).toNat = _; omega]; rfl
  · rw [if_neg h1] at h
    rw [if_neg (by show ¬ 0 ≤ sp l; omega), if_neg h1]
theorem ix_room (l : List UInt8) (h : ¬ ix l < 0) : (ix l).toNat + 2 ≤ l.length := index_room l [13, 10] (by show 0 ≤ ix l; omega)
/-- The program reads so. -/
theorem prog_read (s : ByteArray) (hs : s.size ≤ 1000000) : ∀ (d : Nat) (rest : List UInt8) (acc : List F), rest.length < d → rest.length ≤ s.size → acc.length + rest.length ≤ 2000000 →
    Ev (fun k => stat_Read.l0 k s (acc.map conv) (ba rest)) (cv (rdT s.size d rest acc)) := by
  intro d
  induction d with
  | zero => intro rest acc h; omega
  | succ d ih =>
    intro rest acc hd hr ha
    have hc := cut_f rest [13, 10] (by omega)
    rw [cut_ix] at hc
    unfold rdT
    by_cases h0 : ix rest < 0
    · rw [if_pos h0] at hc ⊢
      refine ⟨1, fun k hk => ?_⟩
      obtain ⟨k, rfl⟩ : ∃ m, k = m + 1 := ⟨k - 1, by omega⟩
      simp only [stat_Read.l0]
      rw [show (⟨#[13, 10]⟩ : ByteArray) = ba [13, 10] from rfl, hc]
      rfl
    · rw [if_neg h0] at hc ⊢
      have hroom := ix_room rest h0
      generalize (ix rest).toNat = i at *
      have ht : (rest.take i).length ≤ 1000000 := by rw [List.length_take]; omega
      have hp := cut_prefix (rest.take i) (by omega)
      have hmore : (rest.drop (i + 2)).length = rest.length - (i + 2) := List.length_drop
      have ihm := ih (rest.drop (i + 2))
      generalize rest.take i = t at *
      generalize rest.drop (i + 2) = more at *
      have hml : more.length = rest.length - (i + 2) := hmore
      by_cases he : t = [69, 78, 68]
      · rw [if_pos he]
        refine ⟨1, fun k hk => ?_⟩
        obtain ⟨k, rfl⟩ : ∃ m, k = m + 1 := ⟨k - 1, by omega⟩
        simp only [stat_Read.l0]
        rw [show (⟨#[13, 10]⟩ : ByteArray) = ba [13, 10] from rfl, hc]
        simp only [Option.bind_some]
        rw [if_pos trivial, if_pos (by rw [ByteArray.toList_eq]; exact he), List.length_map, ba_size more]
        by_cases hl : 1000 < acc.length
        · rw [if_pos hl, if_pos (by omega)]; rfl
        · rw [if_neg hl, if_neg (by omega)]
          unfold cv
          congr 3
          show _ = ((s.size - (rest.length - (i + 2)) : Nat) : Int)
          unfold wrap64
          omega
      · rw [if_neg he]
        have hstep : ∀ k, stat_Read.l0 (k + 1) s (acc.map conv) (ba rest) = (strings_CutPrefix.f (ba t) (⟨#[83, 84, 65, 84, 32]⟩ : ByteArray)).bind fun bt130 => ((strings_Cut.f bt130.1 (⟨#[32]⟩ : ByteArray)).bind fun bt132 => (if bt130.2 = true then (if bt132.2.2 = true then ((stat_may.f k bt132.1 bt132.2.1).bind fun t136 => (if t136 = true then (if (acc.map conv).length < 4398046511104 then (stat_Read.l0 k s (acc.map conv ++ [(⟨bt132.1, bt132.2.1⟩ : G)]) (ba more)) else (none)) else (some (([] : List G), 0, 6)))) else (some (([] : List G), 0, 6))) else (some (([] : List G), 0, 6)))) := by
          intro k
          simp only [stat_Read.l0]
          rw [show (⟨#[13, 10]⟩ : ByteArray) = ba [13, 10] from rfl, hc]
          simp only [Option.bind_some]
          rw [if_pos trivial, if_neg (by rw [ByteArray.toList_eq]; exact he)]
        unfold pairB
        have hbad : ∀ b : List UInt8, b.length < 4294967281 → ∃ y, strings_Cut.f (ba b) (⟨#[32]⟩ : ByteArray) = some y := fun b hb => ⟨_, cut_f b [32] hb⟩
        by_cases hpre : t.take 5 = [83, 84, 65, 84, 32]
        · rw [if_pos hpre] at hp ⊢
          rw [decide_eq_true hpre] at hp
          have hu : (t.drop 5).length ≤ 1000000 := by rw [List.length_drop]; omega
          have hc2 := cut_f (t.drop 5) [32] (by omega)
          rw [cut_sp] at hc2
          generalize t.drop 5 = u at *
          by_cases hsp : posn u < u.length
          · rw [if_pos hsp] at hc2 ⊢
            have hmay := prog_may (ba (u.take (posn u))) (ba (u.drop (posn u + 1))) (by rw [ba_size, List.length_take]; omega) (by rw [ba_size, List.length_drop]; omega)
            have hstep2 : ∀ k, stat_Read.l0 (k + 1) s (acc.map conv) (ba rest) = (stat_may.f k (ba (u.take (posn u))) (ba (u.drop (posn u + 1)))).bind fun t136 => (if t136 = true then (stat_Read.l0 k s ((acc ++ [(⟨ba (u.take (posn u)), ba (u.drop (posn u + 1))⟩ : F)]).map conv) (ba more)) else (some (([] : List G), 0, 6))) := by
              intro k
              rw [hstep, hp]
              simp only [Option.bind_some]
              rw [show (⟨#[32]⟩ : ByteArray) = ba [32] from rfl, hc2]
              simp only [Option.bind_some]
              rw [if_pos trivial, if_pos trivial, if_pos (by rw [List.length_map]; omega), List.map_append]
              rfl
            refine Ev.step hstep2 ?_
            refine Ev.bind (f := fun k t136 => (if t136 = true then (stat_Read.l0 k s ((acc ++ [(⟨ba (u.take (posn u)), ba (u.drop (posn u + 1))⟩ : F)]).map conv) (ba more)) else (some (([] : List G), 0, 6)))) hmay ?_
            cases mayB (ba (u.take (posn u))) (ba (u.drop (posn u + 1))) with
            | false => exact Ev.now _
            | true => exact ihm (acc ++ [⟨ba (u.take (posn u)), ba (u.drop (posn u + 1))⟩]) (by omega) (by omega) (by rw [List.length_append, List.length_singleton]; omega)
          · rw [if_neg hsp] at hc2 ⊢
            refine Ev.step (f := fun _ => some (([] : List G), (0 : Int), (6 : Int))) (fun k => ?_) (Ev.now _)
            rw [hstep, hp]
            simp only [Option.bind_some]
            rw [show (⟨#[32]⟩ : ByteArray) = ba [32] from rfl, hc2]
            rfl
        · rw [if_neg hpre] at hp ⊢
          rw [decide_eq_false hpre] at hp
          refine Ev.step (f := fun _ => some (([] : List G), (0 : Int), (6 : Int))) (fun k => ?_) (Ev.now _)
          obtain ⟨y, hy⟩ := hbad t (by omega)
          rw [hstep, hp]
          simp only [Option.bind_some]
          rw [hy]
          rfl
/-- The document reads so. -/
theorem ref_scan (s : ByteArray) (acc : List F) (x : Int) (t : ByteArray) (ht : t.size ≤ 1000000) (r : List F × Int × Int) (e : Nat) : ∀ i, i + e = t.size →
    Ev (fun k => tallboyref32_Read.j3 k s acc x t ((i + posn ((L t).drop i) : Nat) : Int)) r → Ev (fun k => tallboyref32_Read.l1 k s acc x t (i : Int)) r := by
  induction e with
  | zero =>
    intro i hi h
    rw [List.drop_of_length_le (by rw [← L_size]; omega)] at h
    refine Ev.step (fun k => ?_) h
    simp only [tallboyref32_Read.l1]
    rw [if_neg (by omega)]
    rfl
  | succ e ih =>
    intro i hi h
    have hl : i < (L t).length := by rw [← L_size]; omega
    have hc := List.getElem?_eq_getElem hl
    rw [List.drop_eq_getElem_cons hl] at h
    generalize (L t)[i] = c at *
    have h32 : ((c.toNat : Int) = 32) ↔ c = 32 := ⟨fun q => UInt8.toNat_inj.1 (show c.toNat = 32 by omega), fun q => by rw [q]; rfl⟩
    unfold posn at h
    by_cases hb : c = 32
    · rw [if_pos hb] at h
      refine Ev.step (fun k => ?_) h
      simp only [tallboyref32_Read.l1]
      rw [if_pos (by omega), if_pos (by omega), bt_list t i c hc, if_pos (h32.2 hb)]
      rfl
    · rw [if_neg hb, show i + (posn ((L t).drop (i + 1)) + 1) = i + 1 + posn ((L t).drop (i + 1)) from by omega] at h
      refine Ev.step (fun k => ?_) (ih (i + 1) (by omega) h)
      simp only [tallboyref32_Read.l1]
      rw [if_pos (by omega), if_pos (by omega), bt_list t i c hc, if_neg (fun q => hb (h32.1 q)), wrap_succ i (by omega)]
theorem Ev.via {α β : Type} {g : Nat → Option α} {F f : Nat → Option β} {a : α} {r : β} (hg : Ev g a) (h : ∀ k, g k = some a → F (k + 1) = f k) (hf : Ev f r) : Ev F r := by
  obtain ⟨K1, h1⟩ := hg
  obtain ⟨K2, h2⟩ := hf
  refine ⟨max K1 K2 + 1, fun k hk => ?_⟩
  obtain ⟨k, rfl⟩ : ∃ m, k = m + 1 := ⟨k - 1, by omega⟩
  rw [h k (h1 k (by omega)), h2 k (by omega)]
theorem ref_step (s : ByteArray) (acc : List F) (a i : Nat) (k : Nat) (hroom : a + i + 2 ≤ s.size) (hk : tallboyref32_line.f k s (a : Int) = some ((a : Int) + (i : Int))) : tallboyref32_Read.l0 (k + 1) s acc (a : Int) = (if (sub s a (a + i)).toList = ([69, 78, 68] : List UInt8) then (if (acc.length : Int) > 1000 then (some (([] : List F), 0, 7)) else (some (acc, wrap64 ((a : Int) + (i : Int) + 2), 0))) else (if ((sub s a (a + i)).size : Int) < 6 then (tallboyref32_Read.j1 k s acc (wrap64 ((a : Int) + (i : Int) + 2)) (sub s a (a + i)) true) else (if 5 ≤ ((sub s a (a + i)).size : Int) then (tallboyref32_Read.j1 k s acc (wrap64 ((a : Int) + (i : Int) + 2)) (sub s a (a + i)) ((sub (sub s a (a + i)) 0 5).toList != ([83, 84, 65, 84, 32] : List UInt8))) else none))) := by
  have hto : ((a : Int) + (i : Int)).toNat = a + i := by omega
  have hti : (((a : Int)).toNat) = a := Int.toNat_natCast a
  rw [tallboyref32_Read.l0, hk, Option.bind_some, if_neg (by omega), if_pos (by omega), if_pos (by omega), if_pos (by omega), hto, hti]
  by_cases h6 : (sub s a (a + i)).toList = ([69, 78, 68] : List UInt8)
  · rw [if_pos h6]
    conv => rhs; rw [if_pos h6]
  · rw [if_neg h6]
    conv => rhs; rw [if_neg h6]
    by_cases h7 : ((sub s a (a + i)).size : Int) < 6
    · rw [if_pos h7]
      conv => rhs; rw [if_pos h7]
    · rw [if_neg h7]
      conv => rhs; rw [if_neg h7]
      rw [if_pos (by omega)]
set_option maxHeartbeats 1000000 in
theorem ref_read (s : ByteArray) (hs : s.size ≤ 1000000) : ∀ (d : Nat) (a : Nat) (acc : List F), s.size - a < d → a ≤ s.size → acc.length + (s.size - a) ≤ 2000000 →
    Ev (fun k => tallboyref32_Read.l0 k s acc (a : Int)) (rdT s.size d ((L s).drop a) acc) := by
  intro d
  induction d with
  | zero => intro a acc h; omega
  | succ d ih =>
    intro a acc hd hr ha
    have hline : Ev (fun k => tallboyref32_line.f k s (a : Int)) _ := line_ev s (by omega) (s.size - a) a (by omega)
    have hlen : ((L s).drop a).length = s.size - a := by rw [List.length_drop, ← L_size]
    unfold rdT
    rw [hlen]
    by_cases h0 : ix ((L s).drop a) < 0
    · rw [if_pos h0] at hline ⊢
      refine Ev.via (f := fun _ => some (([] : List F), (0 : Int), (6 : Int))) hline (fun k hk => ?_) (Ev.now _)
      simp only [tallboyref32_Read.l0]
      rw [hk]
      rfl
    · rw [if_neg h0] at hline ⊢
      have hroom := ix_room _ h0
      rw [hlen] at hroom
      have hix : ix ((L s).drop a) = (((ix ((L s).drop a)).toNat : Nat) : Int) := by omega
      rw [hix] at hline
      clear hix h0
      generalize (ix ((L s).drop a)).toNat = i at *
      have hroom2 : a + i + 2 ≤ s.size := by omega
      have w2 : wrap64 ((a : Int) + (i : Int) + 2) = ((a + (i + 2) : Nat) : Int) := by unfold wrap64; omega
      have hl0 : ∀ k, tallboyref32_line.f k s (a : Int) = some ((a : Int) + (i : Int)) → tallboyref32_Read.l0 (k + 1) s acc (a : Int) = (if (sub s a (a + i)).toList = ([69, 78, 68] : List UInt8) then (if (acc.length : Int) > 1000 then (some (([] : List F), 0, 7)) else (some (acc, wrap64 ((a : Int) + (i : Int) + 2), 0))) else (if ((sub s a (a + i)).size : Int) < 6 then (tallboyref32_Read.j1 k s acc (wrap64 ((a : Int) + (i : Int) + 2)) (sub s a (a + i)) true) else (if 5 ≤ ((sub s a (a + i)).size : Int) then (tallboyref32_Read.j1 k s acc (wrap64 ((a : Int) + (i : Int) + 2)) (sub s a (a + i)) ((sub (sub s a (a + i)) 0 5).toList != ([83, 84, 65, 84, 32] : List UInt8))) else none))) :=
        fun k hk => ref_step s acc a i k hroom2 hk
      rw [w2] at hl0
      clear w2
      have hsub : L (sub s a (a + i)) = ((L s).drop a).take i := by
        rw [L_sub]
        congr 1
        omega
      have hts : (sub s a (a + i)).size = i := by
        rw [L_size, hsub, List.length_take, hlen]
        omega
      rw [List.drop_drop, ← hsub]
      clear hsub
      generalize sub s a (a + i) = t at *
      have ihm := fun p => ih (a + (i + 2)) (acc ++ [p]) (by omega) (by omega) (by rw [List.length_append, List.length_singleton]; omega)
      have htl : t.toList = L t := ByteArray.toList_eq t
      by_cases he : L t = [69, 78, 68]
      · rw [if_pos he]
        by_cases hl : 1000 < acc.length
        · rw [if_pos hl]
          refine Ev.via (f := fun _ => some (([] : List F), (0 : Int), (7 : Int))) hline (fun k hk => ?_) (Ev.now _)
          rw [hl0 k hk, htl, if_pos he, if_pos (by omega)]
        · rw [if_neg hl]
          have hnum : s.size - (s.size - a - (i + 2)) = a + (i + 2) := by omega
          rw [hnum]
          refine Ev.via (f := fun _ => some (acc, (((a + (i + 2) : Nat) : Int)), (0 : Int))) hline (fun k hk => ?_) (Ev.now _)
          rw [hl0 k hk, htl, if_pos he, if_neg (by omega)]
      · rw [if_neg he]
        have h5l : (L (sub t 0 5)) = (L t).take 5 := by rw [L_sub, List.drop_zero]
        by_cases h6 : t.size < 6
        · have hnone : ¬ ((L t).take 5 = [83, 84, 65, 84, 32] ∧ posn ((L t).drop 5) < ((L t).drop 5).length) := by
            rintro ⟨-, q⟩
            rw [List.length_drop, ← L_size] at q
            omega
          have hn0 : pairB (L t) = none := by
            unfold pairB
            by_cases q : (L t).take 5 = [83, 84, 65, 84, 32]
            · rw [if_pos q, if_neg (fun z => hnone ⟨q, z⟩)]
            · rw [if_neg q]
          rw [hn0]
          refine Ev.via (f := fun k => tallboyref32_Read.j1 k s acc ((a + (i + 2) : Nat) : Int) t true) hline (fun k hk => ?_) (Ev.step (f := fun _ => some (([] : List F), (0 : Int), (6 : Int))) (fun k => ?_) (Ev.now _))
          · rw [hl0 k hk, htl, if_neg he, if_pos (by omega)]
          · simp only [tallboyref32_Read.j1]
            rw [if_pos trivial]
        · unfold pairB
          by_cases hpre : (L t).take 5 = [83, 84, 65, 84, 32]
          · rw [if_pos hpre]
            refine Ev.via (f := fun k => tallboyref32_Read.j1 k s acc ((a + (i + 2) : Nat) : Int) t false) hline (fun k hk => ?_) ?_
            · rw [hl0 k hk, htl, if_neg he, if_neg (by omega), if_pos (by omega), ByteArray.toList_eq]
              congr 1
              show (L (sub t 0 5) != _) = false
              rw [h5l, hpre]; rfl
            refine Ev.step (f := fun k => tallboyref32_Read.l1 k s acc ((a + (i + 2) : Nat) : Int) t 5) (fun k => ?_) ?_
            · simp only [tallboyref32_Read.j1]
              rw [if_neg Bool.false_ne_true]
            refine ref_scan s acc _ t (by omega) _ (t.size - 5) 5 (by omega) ?_
            have hpl := posn_le ((L t).drop 5)
            have hul : ((L t).drop 5).length = t.size - 5 := by rw [List.length_drop, ← L_size]
            have hn : sub t 5 (5 + posn ((L t).drop 5)) = ba (((L t).drop 5).take (posn ((L t).drop 5))) := by
              apply ext
              rw [L_sub, L_ba]; congr 1; omega
            have hv : sub t (5 + posn ((L t).drop 5) + 1) t.size = ba (((L t).drop 5).drop (posn ((L t).drop 5) + 1)) := by
              apply ext
              rw [L_sub, L_ba, List.drop_drop]
              rw [List.take_of_length_le (by rw [List.length_drop, ← L_size]; omega)]
              congr 1
            have hsz1 : (ba (((L t).drop 5).take (posn ((L t).drop 5)))).size ≤ 1000000 := by rw [ba_size, List.length_take]; omega
            have hsz2 : (ba (((L t).drop 5).drop (posn ((L t).drop 5) + 1))).size ≤ 1000000 := by rw [ba_size, List.length_drop]; omega
            generalize ba (((L t).drop 5).take (posn ((L t).drop 5))) = n at *
            generalize ba (((L t).drop 5).drop (posn ((L t).drop 5) + 1)) = v at *
            rw [hul] at hpl ⊢
            clear hline hl0
            generalize posn ((L t).drop 5) = q at *
            by_cases hq : q < t.size - 5
            · rw [if_pos hq]
              have hmay := ref_may n v (by omega) (by omega)
              have z1 : ¬ ((5 + q : Nat) : Int) = (t.size : Int) := by omega
              have z2 : (5 : Int) ≤ ((5 + q : Nat) : Int) := by omega
              have z3 : ((5 + q : Nat) : Int) ≤ (t.size : Int) := by omega
              have z4 : (0 : Int) ≤ ((5 + q + 1 : Nat) : Int) := by omega
              have z5 : ((5 + q + 1 : Nat) : Int) ≤ (t.size : Int) := by omega
              have z6 : acc.length < 4398046511104 := by omega
              have w3 : wrap64 (((5 + q : Nat) : Int) + 1) = ((5 + q + 1 : Nat) : Int) := by unfold wrap64; omega
              refine Ev.via hmay (f := fun k => if mayB n v = true then tallboyref32_Read.l0 k s (acc ++ [⟨n, v⟩]) ((a + (i + 2) : Nat) : Int) else some ([], 0, 6)) (fun k hk => ?_) ?_
              · simp only [tallboyref32_Read.j3]
                rw [if_neg z1, if_pos z2, if_pos z3, w3, if_pos z4, if_pos z5, Int.toNat_natCast, Int.toNat_natCast, hn, hv, hk]
                simp only [Option.bind_some]
                by_cases z : mayB n v = true
                · rw [if_pos z, if_pos z, if_pos z6]
                · rw [if_neg z, if_neg z]
              · by_cases z : mayB n v = true
                · simp only [if_pos z]
                  exact ihm ⟨n, v⟩
                · simp only [if_neg z]
                  exact Ev.now _
            · rw [if_neg hq]
              refine Ev.step (f := fun _ => some (([] : List F), (0 : Int), (6 : Int))) (fun k => ?_) (Ev.now _)
              simp only [tallboyref32_Read.j3]
              rw [if_pos (by omega)]
          · rw [if_neg hpre]
            refine Ev.via (f := fun k => tallboyref32_Read.j1 k s acc ((a + (i + 2) : Nat) : Int) t true) hline (fun k hk => ?_) (Ev.step (f := fun _ => some (([] : List F), (0 : Int), (6 : Int))) (fun k => ?_) (Ev.now _))
            · rw [hl0 k hk, htl, if_neg he, if_neg (by omega), if_pos (by omega), ByteArray.toList_eq]
              congr 1
              show (L (sub t 0 5) != _) = true
              rw [h5l]
              exact bne_iff_ne.2 hpre
            · simp only [tallboyref32_Read.j1]
              rw [if_pos trivial]
theorem rd_len (N : Nat) : ∀ (d : Nat) (rest : List UInt8) (acc : List F), (rdT N d rest acc).1.length ≤ 1000
  | 0, _, _ => Nat.zero_le _
  | d + 1, rest, acc => by
    unfold rdT
    split
    · exact Nat.zero_le _
    · split
      · split
        · exact Nat.zero_le _
        · show acc.length ≤ 1000
          omega
      · split
        · exact Nat.zero_le _
        · exact rd_len N d _ _
theorem back_conv (l : List F) : (l.map conv).map back = l := by
  rw [List.map_map]
  exact (List.map_congr_left (fun x _ => rfl)).trans (List.map_id _)
/-- The law, in plain Lean. -/
theorem law_true (l : List F) (s : ByteArray) (hf : Fit l) (hs : s.size ≤ 140737488351232) : ∃ k, tallboylaw32_StatWrites.f k l s = some true := by
  refine Ev.rounds ?_
  have skip : ∀ b, b = true → Ev (fun k => tallboylaw32_StatWrites.j0 k l s b) true := by
    rintro b rfl
    refine Ev.step (f := fun _ => some true) (fun k => ?_) (Ev.now _)
    simp only [tallboylaw32_StatWrites.j0]
    rw [if_pos trivial]
  by_cases hl : l.length ≤ 1100
  · have hg := great l hf hl
    by_cases ht : 50000 ≤ tot l
    · rw [decide_eq_true ht] at hg
      unfold tallboylaw32_StatWrites.f
      refine Ev.bind (f := fun k t146 => if t146 = true then tallboylaw32_StatWrites.j0 k l s true else tallboylaw32_StatWrites.j0 k l s (decide ((s.size : Int) > 50000))) hg ?_
      exact skip true rfl
    · rw [decide_eq_false ht] at hg
      unfold tallboylaw32_StatWrites.f
      refine Ev.bind (f := fun k t146 => if t146 = true then tallboylaw32_StatWrites.j0 k l s true else tallboylaw32_StatWrites.j0 k l s (decide ((s.size : Int) > 50000))) hg ?_
      show Ev (fun k => tallboylaw32_StatWrites.j0 k l s (decide ((s.size : Int) > 50000))) true
      by_cases hb : (s.size : Int) > 50000
      · exact skip _ (decide_eq_true hb)
      · rw [decide_eq_false hb]
        have h1 := to_pairs l (by omega)
        have h2 : stat_Write.f (l.map conv) = some (wrT l []) := prog_write l [] (by simp; omega)
        have h3 : Ev (fun k => tallboyref32_Write.f k l) (wrT l []) := by
          have h := ref_write l (by omega) l.length 0 (⟨#[]⟩ : ByteArray) (by omega) (by rw [List.drop_zero]; show 0 + _ + _ ≤ _; omega)
          rw [List.drop_zero] at h
          exact h
        have h4 : Ev (fun k => stat_Read.f k s) (cv (rdT s.size (s.size + 1) (L s) [])) := by
          have h := prog_read s (by omega) (s.size + 1) (L s) [] (by rw [← L_size]; omega) (by rw [← L_size]; omega) (by rw [← L_size]; show 0 + _ ≤ _; omega)
          exact h
        have h5 : Ev (fun k => tallboyref32_Read.f k s) (rdT s.size (s.size + 1) (L s) []) := by
          have h := ref_read s (by omega) (s.size + 1) 0 [] (by omega) (by omega) (by show 0 + _ ≤ _; omega)
          rw [List.drop_zero] at h
          exact h
        have hrl := rd_len s.size (s.size + 1) (L s) []
        have h6 := from_pairs (cv (rdT s.size (s.size + 1) (L s) [])).1 (by show (List.map conv _).length ≤ _; rw [List.length_map]; omega)
        rw [show (cv (rdT s.size (s.size + 1) (L s) [])).1.map back = (rdT s.size (s.size + 1) (L s) []).1 from back_conv _] at h6
        have h7 := same_same (rdT s.size (s.size + 1) (L s) []).1 (by omega)
        obtain ⟨K1, h1⟩ := h1
        obtain ⟨K3, h3⟩ := h3
        obtain ⟨K4, h4⟩ := h4
        obtain ⟨K5, h5⟩ := h5
        obtain ⟨K6, h6⟩ := h6
        obtain ⟨K7, h7⟩ := h7
        refine ⟨max K1 (max K3 (max K4 (max K5 (max K6 K7)))) + 1, fun k hk => ?_⟩
        obtain ⟨k, rfl⟩ : ∃ m, k = m + 1 := ⟨k - 1, by omega⟩
        simp only [tallboylaw32_StatWrites.j0]
        have g1 : tallboylaw32_To.f k l = some _ := h1 k (by omega)
        have g3 : tallboyref32_Write.f k l = some _ := h3 k (by omega)
        have g4 : stat_Read.f k s = some _ := h4 k (by omega)
        have g5 : tallboyref32_Read.f k s = some _ := h5 k (by omega)
        have g6 : tallboylaw32_From.f k (cv (rdT s.size (s.size + 1) (L s) [])).1 = some _ := h6 k (by omega)
        have g7 : tallboyref32_Same.f k (rdT s.size (s.size + 1) (L s) []).1 (rdT s.size (s.size + 1) (L s) []).1 = some true := h7 k (by omega)
        generalize rdT s.size (s.size + 1) (L s) [] = R at *
        rw [if_neg Bool.false_ne_true, g1]
        simp only [Option.bind_some]
        rw [h2]
        simp only [Option.bind_some]
        rw [g3]
        simp only [Option.bind_some]
        rw [g4]
        simp only [Option.bind_some]
        rw [g5]
        simp only [Option.bind_some]
        rw [if_pos trivial, if_pos trivial, g6]
        simp only [Option.bind_some]
        rw [g7]
        simp only [Option.bind_some]
        rw [if_pos trivial]
        show (if R.2.1 = R.2.1 then some (R.2.2 == R.2.2) else some false) = some true
        rw [if_pos rfl]
        rw [beq_self_eq_true]
  · refine ⟨2, fun k hk => ?_⟩
    obtain ⟨k, rfl⟩ : ∃ m, k = m + 1 := ⟨k - 1, by omega⟩
    show tallboylaw32_StatWrites.f (k + 1) l s = some true
    unfold tallboylaw32_StatWrites.f
    have : tallboylaw32_Great.f (k + 1) l = some true := by
      unfold tallboylaw32_Great.f
      rw [if_pos (by omega)]
    rw [this]
    simp only [Option.bind_some]
    rw [if_pos trivial]
    simp only [tallboylaw32_StatWrites.j0]
    rw [if_pos trivial]
end Go.Proofs.YtfkcdhcmbdmcdaaDoor.XSw
