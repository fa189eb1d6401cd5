/- Base sixty-four, in plain Lean: the letters of bytes. No program in sight. -/
namespace Go.Proofs.YtjmmknabkkainaaDoor.B64

/-- The letter of six bits. -/
def lt (v : Nat) : Nat := if v < 26 then 65 + v else if v < 52 then 71 + v else if v < 62 then v - 4 else if v = 62 then 43 else 47
theorem lt_range (v : Nat) (h : v < 64) : 43 ≤ lt v ∧ lt v ≤ 122 ∧ lt v ≠ 61 := by
  unfold lt
  split
  · omega
  · split
    · omega
    · split
      · omega
      · split <;> omega
theorem lt_inj (v u : Nat) (hv : v < 64) (hu : u < 64) (h : lt v = lt u) : v = u := by
  unfold lt at h
  repeat' split at h
  all_goals omega

/-- Three bytes (what is missing is nought) as one number. -/
def word (l : List UInt8) : Nat := (l.getD 0 0).toNat * 65536 + (l.getD 1 0).toNat * 256 + (l.getD 2 0).toNat
theorem word_lt (l : List UInt8) : word l < 16777216 := by
  unfold word
  have h0 := (l.getD 0 0).toNat_lt
  have h1 := (l.getD 1 0).toNat_lt
  have h2 := (l.getD 2 0).toNat_lt
  omega
/-- A letter, as a byte. -/
def let8 (v : Nat) : UInt8 := UInt8.ofNat (lt v)
theorem let8_toNat (v : Nat) (h : v < 64) : (let8 v).toNat = lt v := by
  have := lt_range v h
  unfold let8
  rw [UInt8.toNat_ofNat']
  omega
theorem let8_ne (v : Nat) (h : v < 64) : let8 v ≠ 61 := by
  intro e
  have h1 := let8_toNat v h
  rw [e] at h1
  have := lt_range v h
  exact this.2.2 h1.symm
theorem let8_inj (v u : Nat) (hv : v < 64) (hu : u < 64) (h : let8 v = let8 u) : v = u := by
  refine lt_inj v u hv hu ?_
  rw [← let8_toNat v hv, ← let8_toNat u hu, h]
/-- The letters of the next three bytes: as many as there are bytes, and one more; then the sign that fills up. -/
def four (l : List UInt8) : List UInt8 :=
  [let8 (word l / 262144), let8 (word l / 4096 % 64), if 1 < l.length then let8 (word l / 64 % 64) else 61, if 2 < l.length then let8 (word l % 64) else 61]
/-- Bytes in sixty-four letters. -/
def encN : Nat → List UInt8 → List UInt8
  | 0, _ => []
  | n + 1, l => if l = [] then [] else four l ++ encN n (l.drop 3)
def enc (l : List UInt8) : List UInt8 := encN l.length l
theorem encN_more (n m : Nat) (l : List UInt8) (h : l.length ≤ n) (h' : l.length ≤ m) : encN n l = encN m l := by
  induction n generalizing m l with
  | zero =>
    obtain rfl : l = [] := List.length_eq_zero_iff.1 (by omega)
    cases m <;> simp [encN]
  | succ n ih =>
    cases m with
    | zero =>
      obtain rfl : l = [] := List.length_eq_zero_iff.1 (by omega)
      simp [encN]
    | succ m =>
      unfold encN
      split
      · rfl
      · rename_i hl
        have : 0 < l.length := List.length_pos_iff.2 hl
        rw [ih m (l.drop 3) (by rw [List.length_drop]; omega) (by rw [List.length_drop]; omega)]
theorem enc_nil : enc [] = [] := rfl
theorem enc_step (l : List UInt8) (h : l ≠ []) : enc l = four l ++ enc (l.drop 3) := by
  have hp : 0 < l.length := List.length_pos_iff.2 h
  unfold enc
  obtain ⟨n, hn⟩ : ∃ n, l.length = n + 1 := ⟨l.length - 1, by omega⟩
  rw [hn]
  rw [encN, if_neg h, encN_more n (l.drop 3).length (l.drop 3) (by rw [List.length_drop]; omega) (Nat.le_refl _)]
theorem four_length (l : List UInt8) : (four l).length = 4 := rfl
theorem getD_append {l m : List UInt8} {i : Nat} (h : i < l.length) : (l ++ m).getD i 0 = l.getD i 0 := by
  rw [List.getD_eq_getElem?_getD, List.getD_eq_getElem?_getD, List.getElem?_append_left h]
theorem four_take (l m : List UInt8) (h : 3 ≤ l.length) : four (l ++ m) = four l := by
  unfold four word
  rw [getD_append (by omega), getD_append (by omega), getD_append (by omega)]
  simp only [List.length_append]
  rw [if_pos (by omega), if_pos (by omega), if_pos (by omega), if_pos (by omega)]
theorem enc_append (a b : List UInt8) (h : a.length % 3 = 0) : enc (a ++ b) = enc a ++ enc b := by
  induction hn : a.length using Nat.strongRecOn generalizing a with
  | _ n ih =>
    by_cases he : a = []
    · subst he; rfl
    · have hp : 0 < a.length := List.length_pos_iff.2 he
      rw [enc_step a he, enc_step (a ++ b) (by simp [he]), four_take a b (by omega), List.append_assoc]
      rw [List.drop_append_of_le_length (by omega), ih (a.drop 3).length (by rw [List.length_drop]; omega) (a.drop 3) (by rw [List.length_drop]; omega) rfl]
theorem enc_length (a : List UInt8) : (enc a).length = (a.length + 2) / 3 * 4 := by
  induction hn : a.length using Nat.strongRecOn generalizing a with
  | _ n ih =>
    by_cases he : a = []
    · subst he; subst hn; rfl
    · have hp : 0 < a.length := List.length_pos_iff.2 he
      rw [enc_step a he, List.length_append, four_length, ih (a.drop 3).length (by rw [List.length_drop]; omega) (a.drop 3) rfl, List.length_drop]
      omega
theorem list_of_getD (l m : List UInt8) (hl : l.length = m.length) (h : ∀ i, i < l.length → l.getD i 0 = m.getD i 0) : l = m := by
  apply List.ext_getElem hl
  intro i h1 h2
  have := h i h1
  rw [List.getD_eq_getElem?_getD, List.getD_eq_getElem?_getD, List.getElem?_eq_getElem h1, List.getElem?_eq_getElem h2] at this
  exact this
/-- The word is known by its letters. -/
theorem word_of_four (x y : List UInt8) (hx : x.length ≤ 3) (hy : y.length ≤ 3) (hx0 : x ≠ []) (hy0 : y ≠ []) (h : four x = four y) : x = y := by
  have px : 0 < x.length := List.length_pos_iff.2 hx0
  have py : 0 < y.length := List.length_pos_iff.2 hy0
  have wx := word_lt x
  have wy := word_lt y
  unfold four at h
  simp only [List.cons.injEq, and_true] at h
  obtain ⟨h0, h1, h2, h3⟩ := h
  have e0 := let8_inj _ _ (by omega) (by omega) h0
  have e1 := let8_inj _ _ (by omega) (by omega) h1
  have b0 := (x.getD 0 0).toNat_lt
  have b1 := (x.getD 1 0).toNat_lt
  have b2 := (x.getD 2 0).toNat_lt
  have c0 := (y.getD 0 0).toNat_lt
  have c1 := (y.getD 1 0).toNat_lt
  have c2 := (y.getD 2 0).toNat_lt
  have toN : ∀ a b : UInt8, a.toNat = b.toNat → a = b := fun a b hab => UInt8.toNat_inj.1 hab
  have zx : ∀ i, x.length ≤ i → (x.getD i 0).toNat = 0 := fun i hi => by rw [List.getD_eq_getElem?_getD, List.getElem?_eq_none hi]; rfl
  have zy : ∀ i, y.length ≤ i → (y.getD i 0).toNat = 0 := fun i hi => by rw [List.getD_eq_getElem?_getD, List.getElem?_eq_none hi]; rfl
  by_cases x1 : 1 < x.length
  · by_cases y1 : 1 < y.length
    · rw [if_pos x1, if_pos y1] at h2
      have e2 := let8_inj _ _ (by omega) (by omega) h2
      by_cases x2 : 2 < x.length
      · by_cases y2 : 2 < y.length
        · rw [if_pos x2, if_pos y2] at h3
          have e3 := let8_inj _ _ (by omega) (by omega) h3
          have hw : word x = word y := by omega
          unfold word at hw
          refine list_of_getD x y (by omega) (fun i hi => toN _ _ ?_)
          have : i = 0 ∨ i = 1 ∨ i = 2 := by omega
          rcases this with rfl | rfl | rfl <;> omega
        · rw [if_pos x2, if_neg y2] at h3
          exact absurd h3 (let8_ne _ (by omega))
      · by_cases y2 : 2 < y.length
        · rw [if_neg x2, if_pos y2] at h3
          exact absurd h3.symm (let8_ne _ (by omega))
        · have hx2 := zx 2 (by omega)
          have hy2 := zy 2 (by omega)
          have hw : word x / 64 = word y / 64 := by omega
          unfold word at hw
          refine list_of_getD x y (by omega) (fun i hi => toN _ _ ?_)
          have : i = 0 ∨ i = 1 := by omega
          rcases this with rfl | rfl <;> omega
    · rw [if_pos x1, if_neg y1] at h2
      exact absurd h2 (let8_ne _ (by omega))
  · by_cases y1 : 1 < y.length
    · rw [if_neg x1, if_pos y1] at h2
      exact absurd h2.symm (let8_ne _ (by omega))
    · have hx1 := zx 1 (by omega)
      have hy1 := zy 1 (by omega)
      have hx2 := zx 2 (by omega)
      have hy2 := zy 2 (by omega)
      have hw : word x / 4096 = word y / 4096 := by omega
      unfold word at hw
      refine list_of_getD x y (by omega) (fun i hi => toN _ _ ?_)
      have : i = 0 := by omega
      subst this
      omega
theorem four_take3 (l : List UInt8) : four (l.take 3) = four l := by
  by_cases h : 3 ≤ l.length
  · have := four_take (l.take 3) (l.drop 3) (by rw [List.length_take]; omega)
    rw [List.take_append_drop] at this
    exact this.symm
  · rw [List.take_of_length_le (by omega)]
theorem append_parts {a b c d : List UInt8} (hl : a.length = c.length) (h : a ++ b = c ++ d) : a = c ∧ b = d := List.append_inj h hl
theorem enc_inj (x y : List UInt8) (h : enc x = enc y) : x = y := by
  induction hn : x.length using Nat.strongRecOn generalizing x y with
  | _ n ih =>
    by_cases hx : x = []
    · subst hx
      by_cases hy : y = []
      · exact hy.symm
      · rw [enc_step y hy] at h
        exact absurd (congrArg List.length h) (by rw [enc_nil, List.length_append, four_length, List.length_nil]; omega)
    · by_cases hy : y = []
      · subst hy
        rw [enc_step x hx] at h
        exact absurd (congrArg List.length h) (by rw [enc_nil, List.length_append, four_length, List.length_nil]; omega)
      · rw [enc_step x hx, enc_step y hy] at h
        obtain ⟨h1, h2⟩ := append_parts (by rw [four_length, four_length]) h
        have hp : 0 < x.length := List.length_pos_iff.2 hx
        have e1 : x.take 3 = y.take 3 := by
          refine word_of_four _ _ (List.length_take_le _ _) (List.length_take_le _ _) ?_ ?_ ?_
          · intro e; have := congrArg List.length e; rw [List.length_take] at this; simp at this; exact hx this
          · intro e; have := congrArg List.length e; rw [List.length_take] at this; simp at this; exact hy this
          · rw [four_take3, four_take3]; exact h1
        have e2 := ih (x.drop 3).length (by rw [List.length_drop]; omega) (x.drop 3) (y.drop 3) h2 rfl
        rw [← List.take_append_drop 3 x, ← List.take_append_drop 3 y, e1, e2]
/-- A beginning of letters, of whole threes, is the letters of a beginning. -/
theorem enc_begin (a b t : List UInt8) (ha : a.length % 3 = 0) (h : enc b = enc a ++ t) : ∃ c, b = a ++ c ∧ enc c = t := by
  have hla : (enc a).length = a.length / 3 * 4 := by rw [enc_length]; omega
  have hlb : (enc b).length = (enc a).length + t.length := by rw [h, List.length_append]
  rw [hla, enc_length] at hlb
  have hab : a.length ≤ b.length + 2 := by omega
  by_cases hle : a.length ≤ b.length
  · have ht : (b.take a.length).length % 3 = 0 := by rw [List.length_take]; rw [Nat.min_eq_left hle]; exact ha
    have hb := enc_append (b.take a.length) (b.drop a.length) ht
    rw [List.take_append_drop, h] at hb
    obtain ⟨h1, h2⟩ := append_parts (by rw [enc_length, enc_length, List.length_take, Nat.min_eq_left hle]) hb
    have := enc_inj _ _ h1
    refine ⟨b.drop a.length, ?_, h2.symm⟩
    conv => lhs; rw [← List.take_append_drop a.length b, ← this]
  · -- b is shorter by one or two: its last letters are no whole three's
    have hb0 : b.length / 3 * 3 < b.length := by omega
    have hq : (b.take (b.length / 3 * 3)).length = b.length / 3 * 3 := by rw [List.length_take]; omega
    have hq' : (a.take (b.length / 3 * 3)).length = b.length / 3 * 3 := by rw [List.length_take]; omega
    have eb := enc_append (b.take (b.length / 3 * 3)) (b.drop (b.length / 3 * 3)) (by rw [hq]; omega)
    have ea := enc_append (a.take (b.length / 3 * 3)) (a.drop (b.length / 3 * 3)) (by rw [hq']; omega)
    rw [List.take_append_drop] at eb ea
    rw [h, ea, List.append_assoc] at eb
    obtain ⟨_, h2⟩ := append_parts (by rw [enc_length, enc_length, hq, hq']) eb
    have hd : (b.drop (b.length / 3 * 3)).length = b.length - b.length / 3 * 3 := List.length_drop
    have hd' : (a.drop (b.length / 3 * 3)).length = a.length - b.length / 3 * 3 := List.length_drop
    rw [enc_step (b.drop (b.length / 3 * 3)) (by intro e; rw [e] at hd; simp at hd; omega), enc_step (a.drop (b.length / 3 * 3)) (by intro e; rw [e] at hd'; simp at hd'; omega), List.append_assoc] at h2
    obtain ⟨h3, _⟩ := append_parts (by rw [four_length, four_length]) h2
    have := word_of_four _ _ (by rw [hd']; omega) (by rw [hd]; omega) (by intro e; rw [e] at hd'; simp at hd'; omega) (by intro e; rw [e] at hd; simp at hd; omega) h3
    have := congrArg List.length this
    rw [hd, hd'] at this
    omega
open Classical in
/-- The bytes of letters; none: they are no bytes' letters. -/
noncomputable def dec (s : List UInt8) : Option (List UInt8) := if h : ∃ b, enc b = s then some (choose h) else none
theorem dec_enc (b : List UInt8) : dec (enc b) = some b := by
  unfold dec
  rw [dif_pos ⟨b, rfl⟩]
  exact congrArg some (enc_inj _ _ (Classical.choose_spec (p := fun x => enc x = enc b) ⟨b, rfl⟩))
theorem dec_of (s b : List UInt8) (h : enc b = s) : dec s = some b := by subst h; exact dec_enc b
theorem dec_none (s : List UInt8) (h : ¬ ∃ b, enc b = s) : dec s = none := by unfold dec; rw [dif_neg h]
theorem dec_some (s b : List UInt8) (h : dec s = some b) : enc b = s := by
  unfold dec at h
  split at h
  · rename_i hx
    injection h with h
    subst h
    exact Classical.choose_spec hx
  · cases h
end Go.Proofs.YtjmmknabkkainaaDoor.B64
