/- The reference's base sixty-four read back, in plain Lean, and the law: both tell the same. -/
import Derived.Test.YtjmmknabkkainaaDoorMl64
import Derived.Test.YtjmmknabkkainaaDoorXMl7
namespace Go.Proofs.YtjmmknabkkainaaDoor.XMl
open Go.RowKit Go.Proofs.YtjmmknabkkainaaDoorW.PrintWords Go.Proofs.YtjmmknabkkainaaDoorW.PrintLast Go.Proofs.YtjmmknabkkainaaDoorW.PrintMore
open meta_Decode (vl vl_lt vl_range dsz' bt_list)

theorem lt_of_vl (c v : Nat) (h : vl c = some v) : B64.lt v = c := by
  unfold vl at h
  unfold B64.lt
  split at h
  · injection h with h; subst h; rw [if_pos (by omega)]; omega
  · split at h
    · injection h with h; subst h; rw [if_neg (by omega), if_pos (by omega)]; omega
    · split at h
      · injection h with h; subst h; rw [if_neg (by omega), if_neg (by omega), if_pos (by omega)]; omega
      · split at h
        · injection h with h; subst h; rw [if_neg (by omega), if_neg (by omega), if_neg (by omega), if_pos rfl]; omega
        · split at h
          · injection h with h; subst h; rw [if_neg (by omega), if_neg (by omega), if_neg (by omega), if_neg (by omega)]; omega
          · cases h
/-- What the search for a letter has found, of the first so many. -/
def seen (c j : Nat) : Int := match vl c with
  | some v => if v < j then (v : Int) else -1
  | none => -1
theorem seen_yes (c j : Nat) (h : vl c = some j) : seen c (j + 1) = (j : Int) := by unfold seen; rw [h]; simp
theorem seen_no (c j : Nat) (h : vl c ≠ some j) : seen c (j + 1) = seen c j := by
  unfold seen
  cases hv : vl c with
  | none => rfl
  | some v =>
    have : v ≠ j := fun e => h (by rw [hv, e])
    by_cases h1 : v < j
    · simp only; rw [if_pos (by omega), if_pos h1]
    · simp only; rw [if_neg (by omega), if_neg h1]
def nums (l : List UInt8) : List Int := l.map fun b => (b.toNat : Int)
theorem str_nums (l : List UInt8) : strOfNums (nums l) = ba l := by
  unfold strOfNums nums ba
  congr 1
  rw [List.map_map]
  congr 1
  conv => rhs; rw [← List.map_id l]
  apply List.map_congr_left
  intro b _
  show UInt8.ofNat ((b.toNat : Int)).toNat = b
  rw [Int.toNat_natCast, UInt8.ofNat_toNat]
theorem nums_length (l : List UInt8) : (nums l).length = l.length := by unfold nums; rw [List.length_map]
theorem nums_append (a b : List UInt8) : nums a ++ nums b = nums (a ++ b) := by unfold nums; rw [List.map_append]
theorem num_of (n : Nat) (h : n < 256) : ((UInt8.ofNat n).toNat : Int) = (n : Int) := by rw [UInt8.toNat_ofNat']; omega

section
variable (s : ByteArray) (hs : s.size ≤ 1099511627000)
include hs
omit hs in
theorem find_loop (x4 : List Int) (x5 x6 : Int) (i : Nat) (c : UInt8) (hc : s.data.toList[i]? = some c) (hi : i < s.size) {r : ByteArray × Int}
    (h : Ev (fun k => tallboyref27_Decode.l1 k s x4 x5 x6 (i : Int) (seen c.toNat 64) ((64 : Nat) : Int)) r) (d : Nat) : ∀ j, j + d = 64 → Ev (fun k => tallboyref27_Decode.l1 k s x4 x5 x6 (i : Int) (seen c.toNat j) (j : Int)) r := by
  induction d with
  | zero =>
    intro j hj
    obtain rfl : j = 64 := by omega
    exact h
  | succ d ih =>
    intro j hj
    refine Ev.step (fun k => ?_) (ih (j + 1) (by omega))
    simp only [tallboyref27_Decode.l1]
    rw [if_pos (by omega), if_pos (by omega), if_pos (by omega), if_pos (by omega), bt_at_ j (by omega), bt_list s i c hc, wrap_succ j (by omega)]
    by_cases hv : vl c.toNat = some j
    · have := lt_of_vl _ _ hv
      rw [if_pos (by omega), seen_yes _ _ hv]
    · have : B64.lt j ≠ c.toNat := fun e => hv (by rw [← e]; exact vl_lt j (by omega))
      rw [if_neg (by omega), seen_no _ _ hv]
/-- What is known of right letters, so far. -/
def Inv (s : ByteArray) (i : Nat) (ys : List UInt8) (n k : Nat) : Prop := ∀ B, B64.enc B = s.data.toList →
  ∃ j, i = 4 * j + k ∧ ys = B.take (3 * j) ∧ 3 * j ≤ B.length ∧ n = B64.word (B.drop (3 * j)) / 64 ^ (4 - k) ∧ (0 < k → 3 * j < B.length ∧ k ≤ B.length - 3 * j + 1)
omit hs in
theorem enc_at (B : List UInt8) (j k : Nat) (hj : 3 * j < B.length) (hk : k < 4) : (B64.enc B)[4 * j + k]? = (B64.four (B.drop (3 * j)))[k]? := by
  have ht : (B.take (3 * j)).length = 3 * j := by rw [List.length_take]; omega
  have e := B64.enc_append (B.take (3 * j)) (B.drop (3 * j)) (by rw [ht]; omega)
  rw [List.take_append_drop] at e
  have hl : (B64.enc (B.take (3 * j))).length = 4 * j := by rw [B64.enc_length, ht]; omega
  rw [e, List.getElem?_append_right (by omega), hl, show 4 * j + k - 4 * j = k from by omega]
  rw [B64.enc_step _ (by intro e0; have := congrArg List.length e0; rw [List.length_drop] at this; simp at this; omega), List.getElem?_append_left (by rw [B64.four_length]; exact hk)]
omit hs in
/-- The sign at a place of right letters: the bytes go on there; a letter is the next six bits, a sign that fills up stands behind the last. -/
theorem right_at (B : List UInt8) (hB : B64.enc B = s.data.toList) (j k : Nat) (c : UInt8) (hk : k < 4) (h3 : 3 * j ≤ B.length) (hc : s.data.toList[4 * j + k]? = some c) :
    3 * j < B.length ∧ (B64.four (B.drop (3 * j)))[k]? = some c := by
  have hl : 4 * j + k < s.data.toList.length := by
    rcases Nat.lt_or_ge (4 * j + k) s.data.toList.length with h | h
    · exact h
    · rw [List.getElem?_eq_none h] at hc; cases hc
  rw [← hB, B64.enc_length] at hl
  have h3' : 3 * j < B.length := by omega
  refine ⟨h3', ?_⟩
  rw [← enc_at B j k h3' hk, hB]
  exact hc
omit hs in
theorem four_letter (l : List UInt8) (k : Nat) (c : UInt8) (hk : k < 4) (hl : 1 ≤ l.length) (h : (B64.four l)[k]? = some c) (hc : c ≠ 61) : c = B64.let8 (B64.word l / 64 ^ (3 - k) % 64) ∧ k ≤ l.length := by
  have hw := B64.word_lt l
  have : k = 0 ∨ k = 1 ∨ k = 2 ∨ k = 3 := by omega
  rcases this with rfl | rfl | rfl | rfl
  · have e : (B64.four l)[0]? = some (B64.let8 (B64.word l / 262144)) := rfl
    rw [e] at h; injection h with h
    exact ⟨by rw [← h]; congr 1; rw [show (64 ^ (3 - 0) : Nat) = 262144 from rfl]; omega, by omega⟩
  · have e : (B64.four l)[1]? = some (B64.let8 (B64.word l / 4096 % 64)) := rfl
    rw [e] at h; injection h with h
    exact ⟨h.symm, by omega⟩
  · have e : (B64.four l)[2]? = some (if 1 < l.length then B64.let8 (B64.word l / 64 % 64) else 61) := rfl
    rw [e] at h; injection h with h
    by_cases h1 : 1 < l.length
    · rw [if_pos h1] at h
      exact ⟨h.symm, by omega⟩
    · rw [if_neg h1] at h; exact absurd h.symm hc
  · have e : (B64.four l)[3]? = some (if 2 < l.length then B64.let8 (B64.word l % 64) else 61) := rfl
    rw [e] at h; injection h with h
    by_cases h1 : 2 < l.length
    · rw [if_pos h1] at h
      exact ⟨by rw [← h]; congr 1; rw [show (64 ^ (3 - 3) : Nat) = 1 from rfl]; omega, by omega⟩
    · rw [if_neg h1] at h; exact absurd h.symm hc
omit hs in
theorem four_fill (l : List UInt8) (k : Nat) (hk : k < 4) (hl : 1 ≤ l.length) (h : (B64.four l)[k]? = some 61) (hkl : k ≤ l.length + 1) : k = l.length + 1 := by
  have hw := B64.word_lt l
  have : k = 0 ∨ k = 1 ∨ k = 2 ∨ k = 3 := by omega
  rcases this with rfl | rfl | rfl | rfl
  · have e : (B64.four l)[0]? = some (B64.let8 (B64.word l / 262144)) := rfl
    rw [e] at h; injection h with h; exact absurd h (B64.let8_ne _ (by omega))
  · have e : (B64.four l)[1]? = some (B64.let8 (B64.word l / 4096 % 64)) := rfl
    rw [e] at h; injection h with h; exact absurd h (B64.let8_ne _ (by omega))
  · have e : (B64.four l)[2]? = some (if 1 < l.length then B64.let8 (B64.word l / 64 % 64) else 61) := rfl
    rw [e] at h; injection h with h
    by_cases h1 : 1 < l.length
    · rw [if_pos h1] at h; exact absurd h (B64.let8_ne _ (by omega))
    · omega
  · have e : (B64.four l)[3]? = some (if 2 < l.length then B64.let8 (B64.word l % 64) else 61) := rfl
    rw [e] at h; injection h with h
    by_cases h1 : 2 < l.length
    · rw [if_pos h1] at h; exact absurd h (B64.let8_ne _ (by omega))
    · omega
/-- What the reference answers, in the end: whether the letters of what was read are these. -/
noncomputable def told (s : ByteArray) : ByteArray × Int := match B64.dec s.data.toList with
  | some b => (ba b, 0)
  | none => (⟨#[]⟩, 6)
omit hs in
theorem end_ev (y : List UInt8) (hy : y.length ≤ 1099511627776) (h : ∀ B, B64.enc B = s.data.toList → y = B) :
    Ev (fun k => (tallboyref27_Encode.f k (ba y)).bind fun t => (if t.toList = s.toList then (some (ba y, 0)) else (some ((⟨#[]⟩ : ByteArray), 6)))) (told s) := by
  have he := ref_encode (ba y) (by rw [ba_size]; exact hy)
  refine Ev.bind he ?_
  unfold told
  by_cases hB : ∃ B, B64.enc B = s.data.toList
  · obtain ⟨B, hB⟩ := hB
    obtain rfl := h B hB
    rw [B64.dec_of _ _ hB]
    refine ⟨0, fun _ _ => ?_⟩
    rw [if_pos]
    rw [ByteArray.toList_eq, ByteArray.toList_eq, ← hB]
  · rw [B64.dec_none _ hB]
    refine ⟨0, fun _ _ => ?_⟩
    rw [if_neg]
    intro e
    rw [ByteArray.toList_eq, ByteArray.toList_eq] at e
    refine hB ⟨y, ?_⟩
    rw [← e]
omit hs in
theorem drop_bytes (B : List UInt8) (j : Nat) : B64.word (B.drop (3 * j)) = (B.getD (3 * j) 0).toNat * 65536 + (B.getD (3 * j + 1) 0).toNat * 256 + (B.getD (3 * j + 2) 0).toNat := by
  unfold B64.word
  rw [List.getD_eq_getElem?_getD, List.getD_eq_getElem?_getD, List.getD_eq_getElem?_getD, List.getElem?_drop, List.getElem?_drop, List.getElem?_drop,
    ← List.getD_eq_getElem?_getD, ← List.getD_eq_getElem?_getD, ← List.getD_eq_getElem?_getD]
  rfl
omit hs in
theorem take_one (B : List UInt8) (n : Nat) (h : n < B.length) (u : Nat) (e : u = (B.getD n 0).toNat) : B.take n ++ [UInt8.ofNat u] = B.take (n + 1) := by
  rw [List.take_add_one, List.getElem?_eq_getElem h, e, List.getD_eq_getElem?_getD, List.getElem?_eq_getElem h]
  show _ ++ [UInt8.ofNat (B[n]).toNat] = _ ++ [B[n]]
  rw [UInt8.ofNat_toNat]
omit hs in
theorem inv_letter (i : Nat) (ys : List UInt8) (n k v : Nat) (c : UInt8) (hk : k < 4) (hc : s.data.toList[i]? = some c) (hv : vl c.toNat = some v) (hI : Inv s i ys n k) :
    ∀ B, B64.enc B = s.data.toList → ∃ j, i = 4 * j + k ∧ ys = B.take (3 * j) ∧ 3 * j < B.length ∧ k ≤ B.length - 3 * j ∧ n * 64 + v = B64.word (B.drop (3 * j)) / 64 ^ (3 - k) := by
  intro B hB
  obtain ⟨j, rfl, rfl, h3, rfl, hp⟩ := hI B hB
  obtain ⟨h3', hf⟩ := right_at s B hB j k c hk h3 hc
  have hne : c ≠ 61 := by intro e; rw [e] at hv; exact absurd hv (show vl 61 ≠ some v by rw [show vl 61 = none from rfl]; exact fun h => by cases h)
  have hl : (B.drop (3 * j)).length = B.length - 3 * j := List.length_drop ..
  obtain ⟨he, hkl⟩ := four_letter (B.drop (3 * j)) k c hk (by omega) hf hne
  refine ⟨j, rfl, rfl, h3', by omega, ?_⟩
  have hw := B64.word_lt (B.drop (3 * j))
  have hv' : v = B64.word (B.drop (3 * j)) / 64 ^ (3 - k) % 64 := by
    have hm : B64.word (B.drop (3 * j)) / 64 ^ (3 - k) % 64 < 64 := Nat.mod_lt _ (by decide)
    rw [he, B64.let8_toNat _ hm, vl_lt _ hm] at hv
    injection hv with hv; exact hv.symm
  rw [hv', show 4 - k = (3 - k) + 1 from by omega, Nat.pow_succ, ← Nat.div_div_eq_div_mul]
  omega
omit hs in
theorem inv_next (i : Nat) (ys : List UInt8) (n k v : Nat) (c : UInt8) (hk : k < 3) (hc : s.data.toList[i]? = some c) (hv : vl c.toNat = some v) (hI : Inv s i ys n k) :
    Inv s (i + 1) ys (n * 64 + v) (k + 1) := by
  intro B hB
  obtain ⟨j, rfl, rfl, h3, hkl, e⟩ := inv_letter s i ys n k v c (by omega) hc hv hI B hB
  exact ⟨j, by omega, rfl, by omega, by rw [e, show 4 - (k + 1) = 3 - k from by omega], fun _ => ⟨h3, by omega⟩⟩
omit hs in
theorem inv_four (i : Nat) (ys : List UInt8) (n v : Nat) (c : UInt8) (hc : s.data.toList[i]? = some c) (hv : vl c.toNat = some v) (hI : Inv s i ys n 3) :
    Inv s (i + 1) (ys ++ [UInt8.ofNat ((n * 64 + v) / 65536 % 256), UInt8.ofNat ((n * 64 + v) / 256 % 256), UInt8.ofNat ((n * 64 + v) % 256)]) 0 0 := by
  intro B hB
  obtain ⟨j, rfl, rfl, h3, hkl, e⟩ := inv_letter s i ys n 3 v c (by omega) hc hv hI B hB
  rw [show (64 ^ (3 - 3) : Nat) = 1 from rfl, Nat.div_one, drop_bytes B j] at e
  have b0 := (B.getD (3 * j) 0).toNat_lt
  have b1 := (B.getD (3 * j + 1) 0).toNat_lt
  have b2 := (B.getD (3 * j + 2) 0).toNat_lt
  refine ⟨j + 1, by omega, ?_, by omega, ?_, fun h => absurd h (by omega)⟩
  · rw [e, show 3 * (j + 1) = 3 * j + 2 + 1 from by omega,
      ← take_one B (3 * j + 2) (by omega) _ (show ((B.getD (3 * j) 0).toNat * 65536 + (B.getD (3 * j + 1) 0).toNat * 256 + (B.getD (3 * j + 2) 0).toNat) % 256 = _ by omega),
      ← take_one B (3 * j + 1) (by omega) _ (show ((B.getD (3 * j) 0).toNat * 65536 + (B.getD (3 * j + 1) 0).toNat * 256 + (B.getD (3 * j + 2) 0).toNat) / 256 % 256 = _ by omega),
      ← take_one B (3 * j) (by omega) _ (show ((B.getD (3 * j) 0).toNat * 65536 + (B.getD (3 * j + 1) 0).toNat * 256 + (B.getD (3 * j + 2) 0).toNat) / 65536 % 256 = _ by omega),
      List.append_assoc, List.append_assoc]
    rfl
  · have := B64.word_lt (B.drop (3 * (j + 1)))
    rw [show (64 ^ (4 - 0) : Nat) = 16777216 from rfl]; omega
/-- The bytes with those of a last part. -/
def fin (ys : List UInt8) (n k : Nat) : List UInt8 := if k = 2 then ys ++ [UInt8.ofNat (n / 16 % 256)] else if k = 3 then ys ++ [UInt8.ofNat (n / 1024 % 256), UInt8.ofNat (n / 4 % 256)] else ys
omit hs in
theorem inv_stop (i : Nat) (ys : List UInt8) (n k : Nat) (hk : k < 4) (hst : s.data.toList[i]? = some 61 ∨ i = s.size) (hI : Inv s i ys n k) :
    ∀ B, B64.enc B = s.data.toList → fin ys n k = B := by
  intro B hB
  obtain ⟨j, rfl, rfl, h3, rfl, hp⟩ := hI B hB
  have hl : (B.drop (3 * j)).length = B.length - 3 * j := List.length_drop ..
  have b0 := (B.getD (3 * j) 0).toNat_lt
  have b1 := (B.getD (3 * j + 1) 0).toNat_lt
  have b2 := (B.getD (3 * j + 2) 0).toNat_lt
  rcases hst with hst | hst
  · obtain ⟨h3', hf⟩ := right_at s B hB j k 61 hk h3 hst
    have hq := four_fill (B.drop (3 * j)) k hk (by omega) hf (by
      rcases Nat.eq_zero_or_pos k with h0 | h0
      · omega
      · have := hp h0; omega)
    have : k = 2 ∨ k = 3 := by omega
    unfold fin
    rcases this with rfl | rfl
    · rw [if_pos rfl, drop_bytes B j, show (64 ^ (4 - 2) : Nat) = 4096 from rfl]
      rw [take_one B (3 * j) (by omega) _ (by omega), List.take_of_length_le (by omega)]
    · rw [if_neg (by omega), if_pos rfl, drop_bytes B j, show (64 ^ (4 - 3) : Nat) = 64 from rfl]
      have t1 := take_one B (3 * j) (by omega) (((B.getD (3 * j) 0).toNat * 65536 + (B.getD (3 * j + 1) 0).toNat * 256 + (B.getD (3 * j + 2) 0).toNat) / 64 / 1024 % 256) (by omega)
      have t2 := take_one B (3 * j + 1) (by omega) (((B.getD (3 * j) 0).toNat * 65536 + (B.getD (3 * j + 1) 0).toNat * 256 + (B.getD (3 * j + 2) 0).toNat) / 64 / 4 % 256) (by omega)
      rw [show ∀ (l : List UInt8) (x y : UInt8), l ++ [x, y] = (l ++ [x]) ++ [y] from fun l x y => by rw [List.append_assoc]; rfl, t1, t2, List.take_of_length_le (by omega)]
  · have hlen : s.size = (B.length + 2) / 3 * 4 := by rw [← dsz', ← hB, B64.enc_length]
    have : k = 0 := by omega
    subst this
    unfold fin
    rw [if_neg (by omega), if_neg (by omega), List.take_of_length_le (by omega)]
theorem fin_ev (i : Nat) (ys : List UInt8) (n k : Nat) (hk : k < 4) (hy : ys.length ≤ i) (hi : i ≤ s.size) (hn : n < 16777216) (hst : s.data.toList[i]? = some 61 ∨ i = s.size) (hI : Inv s i ys n k) :
    Ev (fun q => tallboyref27_Decode.j1 q s (nums ys) (n : Int) (k : Int) (i : Int) false) (told s) := by
  have hfin := inv_stop s i ys n k hk hst hI
  have hlen : (fin ys n k).length ≤ ys.length + 2 := by
    unfold fin
    split
    · rw [List.length_append]; simp
    · split
      · rw [List.length_append]; simp
      · omega
  have hend := end_ev s (fin ys n k) (by omega) hfin
  refine Ev.step (fun q => ?_) hend
  simp only [tallboyref27_Decode.j1]
  rw [if_neg Bool.false_ne_true]
  unfold fin
  by_cases h2 : k = 2
  · subst h2
    rw [if_pos (by rfl), if_pos rfl, nums_length, if_pos (by omega), show Int.tdiv (n : Int) 16 = ((n / 16 : Nat) : Int) from rfl, wrap_nat _ (by omega)]
    rw [show (nums ys ++ [((n / 16 : Nat) : Int) % 256]) = nums (ys ++ [UInt8.ofNat (n / 16 % 256)]) from by
      rw [← nums_append]; congr 1; show _ = [((UInt8.ofNat (n / 16 % 256)).toNat : Int)]; rw [num_of _ (by omega)]; rfl]
    rw [Option.bind_some, str_nums]
  · rw [if_neg (by omega), if_neg h2]
    by_cases h3 : k = 3
    · subst h3
      rw [if_pos (by rfl), if_pos rfl, Option.bind_some, nums_length, if_pos (by show ys.length + 2 < _; omega), show Int.tdiv (n : Int) 1024 = ((n / 1024 : Nat) : Int) from rfl, show Int.tdiv (n : Int) 4 = ((n / 4 : Nat) : Int) from rfl, wrap_nat _ (by omega), wrap_nat _ (by omega)]
      rw [show (nums ys ++ [((n / 1024 : Nat) : Int) % 256, Int.tmod ((n / 4 : Nat) : Int) 256 % 256]) = nums (ys ++ [UInt8.ofNat (n / 1024 % 256), UInt8.ofNat (n / 4 % 256)]) from by
        rw [← nums_append]; congr 1; show _ = [((UInt8.ofNat (n / 1024 % 256)).toNat : Int), ((UInt8.ofNat (n / 4 % 256)).toNat : Int)]; rw [num_of _ (by omega), num_of _ (by omega)]
        rw [show Int.tmod ((n / 4 : Nat) : Int) 256 = ((n / 4 % 256 : Nat) : Int) from rfl]
        congr 1; congr 1; omega]
      rw [Option.bind_some, str_nums]
    · rw [if_neg (by omega), if_neg h3, str_nums]
omit hs in
theorem nv (n v : Nat) (h : n < 262144) (hv : v < 64) : n * 64 + v < 16777216 := by omega
omit hs in
theorem nv2 (n v P : Nat) (h : n < P) (hv : v < 64) : n * 64 + v < P * 64 := by omega
omit hs in
theorem lt_pow3 (n k : Nat) (hk : k < 4) (h : n < 64 ^ k) : n < 262144 := Nat.lt_of_lt_of_le h (Nat.pow_le_pow_right (by decide) (show k ≤ 3 by omega))
omit hs in
theorem w_mul (n : Nat) (h : n < 262144) : wrap64 ((n : Int) * 64) = ((n * 64 : Nat) : Int) := by unfold wrap64; omega
omit hs in
theorem w_add (n v : Nat) (h : n < 262144) (hv : v < 64) : wrap64 (((n * 64 : Nat) : Int) + (v : Int)) = ((n * 64 + v : Nat) : Int) := by unfold wrap64; omega
omit hs in
theorem w_34 : wrap64 (((3 : Nat) : Int) + 1) = 4 := by unfold wrap64; omega
omit hs in
theorem len3 (ys : List UInt8) (i : Nat) (a b c : UInt8) (h : ys.length ≤ i) : (ys ++ [a, b, c]).length ≤ i + 1 + 2 := by rw [List.length_append]; show ys.length + 3 ≤ _; omega
theorem ref_dec_loop (d : Nat) : ∀ (i : Nat) (ys : List UInt8) (n k : Nat), i + d = s.size → k < 4 → ys.length + k ≤ i → n < 64 ^ k → Inv s i ys n k →
    Ev (fun q => tallboyref27_Decode.l0 q s (nums ys) (n : Int) (k : Int) (i : Int)) (told s) := by
  induction d with
  | zero =>
    intro i ys n k hi hk hy hn hI
    have hn' : n < 16777216 := Nat.lt_of_lt_of_le (lt_pow3 n k hk hn) (by decide)
    refine Ev.step (fun q => ?_) (fin_ev s hs i ys n k hk (by omega) (by omega) hn' (Or.inr (by omega)) hI)
    simp only [tallboyref27_Decode.l0]
    rw [if_neg (by omega)]
  | succ d ih =>
    intro i ys n k hi hk hy hn hI
    have hn' : n < 262144 := lt_pow3 n k hk hn
    have hil : i < s.data.toList.length := by rw [dsz']; omega
    have hc := List.getElem?_eq_getElem hil
    generalize s.data.toList[i] = c at hc
    by_cases hq : c = 61
    · subst hq
      refine Ev.step (fun q => ?_) (fin_ev s hs i ys n k hk (by omega) (by omega) (by omega) (Or.inl hc) hI)
      simp only [tallboyref27_Decode.l0]
      rw [if_pos (by omega), if_pos (by omega), bt_list s i 61 hc]
      rfl
    · have hq' : (((c.toNat : Int)) != 61) = true := by
        rw [bne_iff_ne]; intro e; apply hq; apply UInt8.toNat_inj.mp; show c.toNat = 61; omega
      refine Ev.step (f := fun q => tallboyref27_Decode.j1 q s (nums ys) (n : Int) (k : Int) (i : Int) true) (fun q => ?_) ?_
      · simp only [tallboyref27_Decode.l0]
        rw [if_pos (by omega), if_pos (by omega), bt_list s i c hc, hq']
      refine Ev.step (f := fun q => tallboyref27_Decode.l1 q s (nums ys) (n : Int) (k : Int) (i : Int) (seen c.toNat 0) ((0 : Nat) : Int)) (fun q => ?_) ?_
      · simp only [tallboyref27_Decode.j1]
        rw [if_pos trivial]
        have : seen c.toNat 0 = -1 := by
          unfold seen; cases vl c.toNat with
          | none => rfl
          | some v => exact if_neg (by omega)
        rw [this]; rfl
      refine find_loop s (nums ys) (n : Int) (k : Int) i c hc (by omega) ?_ 64 0 rfl
      cases hv : vl c.toNat with
      | none =>
        have hse : seen c.toNat 64 = -1 := by unfold seen; rw [hv]
        rw [hse]
        refine ⟨1, fun q hq1 => ?_⟩
        obtain ⟨q, rfl⟩ : ∃ m, q = m + 1 := ⟨q - 1, by omega⟩
        simp only [tallboyref27_Decode.l1]
        rw [if_neg (by omega), if_pos (by omega)]
        have hno : ¬ ∃ B, B64.enc B = s.data.toList := by
          rintro ⟨B, hB⟩
          obtain ⟨j, rfl, rfl, h3, rfl, hp⟩ := hI B hB
          obtain ⟨h3', hf⟩ := right_at s B hB j k c hk h3 hc
          have hl : (B.drop (3 * j)).length = B.length - 3 * j := List.length_drop ..
          obtain ⟨he, hkl⟩ := four_letter (B.drop (3 * j)) k c hk (by omega) hf hq
          have hm : B64.word (B.drop (3 * j)) / 64 ^ (3 - k) % 64 < 64 := Nat.mod_lt _ (by decide)
          rw [he, B64.let8_toNat _ hm, vl_lt _ hm] at hv
          cases hv
        unfold told
        rw [B64.dec_none _ hno]
      | some v =>
        have hv64 := vl_range _ _ hv
        have hse : seen c.toNat 64 = (v : Int) := by unfold seen; rw [hv]; exact if_pos hv64
        rw [hse]
        have w1 := w_mul n hn'
        have w2 := w_add n v hn' hv64
        have hW : n * 64 + v < 16777216 := nv n v hn' hv64
        by_cases h3 : k = 3
        · subst h3
          have hI' := inv_four s i ys n v c hc hv hI
          generalize n * 64 + v = W at *
          refine Ev.step (fun q => ?_) (ih (i + 1) _ 0 0 (by omega) (by omega) (by have := len3 ys (i - 3) (UInt8.ofNat (W / 65536 % 256)) (UInt8.ofNat (W / 256 % 256)) (UInt8.ofNat (W % 256)) (by omega); omega) (by decide) hI')
          simp only [tallboyref27_Decode.l1, w1, w2]
          rw [if_neg (by omega), if_neg (by omega), if_pos w_34, Option.bind_some, nums_length, if_pos (by show ys.length + 3 < _; omega), wrap_succ i (by omega)]
          rw [show Int.tdiv (W : Int) 65536 = ((W / 65536 : Nat) : Int) from rfl, show Int.tdiv (W : Int) 256 = ((W / 256 : Nat) : Int) from rfl, wrap_nat _ (by omega), wrap_nat _ (by omega)]
          rw [← nums_append]
          have hb : nums [UInt8.ofNat (W / 65536 % 256), UInt8.ofNat (W / 256 % 256), UInt8.ofNat (W % 256)] = [((W / 65536 : Nat) : Int) % 256, Int.tmod ((W / 256 : Nat) : Int) 256 % 256, Int.tmod (W : Int) 256 % 256] := by
            show [((UInt8.ofNat (W / 65536 % 256)).toNat : Int), ((UInt8.ofNat (W / 256 % 256)).toNat : Int), ((UInt8.ofNat (W % 256)).toNat : Int)] = _
            rw [num_of _ (by omega), num_of _ (by omega), num_of _ (by omega)]
            rw [show Int.tmod ((W / 256 : Nat) : Int) 256 = ((W / 256 % 256 : Nat) : Int) from rfl, show Int.tmod (W : Int) 256 = ((W % 256 : Nat) : Int) from rfl]
            congr 1; congr 1
            · omega
            · congr 1; omega
          rw [hb]; rfl
        · have hI' := inv_next s i ys n k v c (by omega) hc hv hI
          have hn2 : n * 64 + v < 64 ^ (k + 1) := by rw [Nat.pow_succ]; exact nv2 n v _ hn hv64
          generalize n * 64 + v = W at *
          refine Ev.step (fun q => ?_) (ih (i + 1) ys W (k + 1) (by omega) (by omega) (by omega) hn2 hI')
          simp only [tallboyref27_Decode.l1, w1, w2]
          rw [if_neg (by omega), if_neg (by omega), wrap_succ k (by omega), if_neg (by omega), wrap_succ i (by omega)]
/-- The reference's Decode. -/
theorem ref_decode : Ev (fun k => tallboyref27_Decode.f k s) (told s) :=
  ref_dec_loop s hs s.size 0 [] 0 0 (by omega) (by omega) (by simp) (by decide) (by
    intro B hB
    exact ⟨0, rfl, rfl, by omega, by have := B64.word_lt (B.drop (3 * 0)); rw [show (64 ^ (4 - 0) : Nat) = 16777216 from rfl]; omega, fun h => absurd h (by omega)⟩)
end
/-- The law. -/
theorem law_true (b s : ByteArray) : ∃ k, tallboylaw27_MetaLetters.f k b s = some true := by
  by_cases h1 : b.size ≤ 2000
  · by_cases h2 : s.size ≤ 2000
    · obtain ⟨K1, e1⟩ := ref_encode b (by omega)
      obtain ⟨K2, e2⟩ := ref_decode s (by omega)
      refine ⟨K1 + K2 + 1, ?_⟩
      unfold tallboylaw27_MetaLetters.f
      rw [if_neg (by omega)]
      simp only [tallboylaw27_MetaLetters.j0]
      rw [show decide ((s.size : Int) > 2000) = false from decide_eq_false (by omega), if_neg Bool.false_ne_true]
      have em : meta_Decode.f s = some (told s) := by
        unfold meta_Decode.f told
        rw [if_pos (by omega)]
        cases B64.dec s.data.toList <;> rfl
      have ee : meta_Encode.f b = some (ba (B64.enc b.data.toList)) := by
        have := meta_Decode.encode_f b.data.toList (by rw [dsz']; omega)
        rw [← this]
      rw [em, Option.bind_some, show tallboyref27_Decode.f (K1 + K2) s = some (told s) from e2 _ (by omega), Option.bind_some, ee, Option.bind_some, show tallboyref27_Encode.f (K1 + K2) b = some (ba (B64.enc b.data.toList)) from e1 _ (by omega), Option.bind_some, if_pos rfl, if_pos rfl]
      simp
    · refine ⟨1, ?_⟩
      unfold tallboylaw27_MetaLetters.f
      rw [if_neg (by omega), show decide ((s.size : Int) > 2000) = true from decide_eq_true (by omega)]
      rfl
  · refine ⟨1, ?_⟩
    unfold tallboylaw27_MetaLetters.f
    rw [if_pos (by omega)]
    rfl
end Go.Proofs.YtjmmknabkkainaaDoor.XMl
