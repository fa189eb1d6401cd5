/- Put together by wip/pack.py (this session's own program) out of this session's texts; a kit's tool laid the words and the shelf, of which only what is used stands here. Lean checks it. -/
import Derived.Test.YtfboejlemnfndaaGreatDoorPMt2
import Derived.Test.YtfboejlemnfndaaGreatDoorProg
import Derived.WalkKit
import Derived.KernelRfl
import Derived.BigCall
import Derived.Lib.FrozenHead
import Derived.Lib.FrozenHead2
import Derived.Shelf.Strings.Builder1
import Derived.Laws.BitsLemmas
import Derived.Lib.Hide
import Derived.Lib.Strings
import Derived.Laws.Strings
import Derived.Lib.ItoaMem
import Derived.Lib.AppendIntMem
section
namespace Go.Proofs.YtfboejlemnfndaaGreatDoor.B64

def lt (v : Nat) : Nat := if v < 26 then 65 + v else if v < 52 then 71 + v else if v < 62 then v - 4 else if v = 62 then 43 else 47
theorem lt_range (v : Nat) (h : v < 64) : 43 ≤ lt v ∧ lt v ≤ 122 ∧ lt v ≠ 61 := by
  unfold lt
  split
  · omega
  · split
    · omega
    · split
      · omega
      · split <;> omega
theorem lt_inj (v u : Nat) (hv : v < 64) (hu : u < 64) (h : lt v = lt u) : v = u := by
  unfold lt at h
  repeat' split at h
  all_goals omega

def word (l : List UInt8) : Nat := (l.getD 0 0).toNat * 65536 + (l.getD 1 0).toNat * 256 + (l.getD 2 0).toNat
theorem word_lt (l : List UInt8) : word l < 16777216 := by
  unfold word
  have h0 := (l.getD 0 0).toNat_lt
  have h1 := (l.getD 1 0).toNat_lt
  have h2 := (l.getD 2 0).toNat_lt
  omega
def let8 (v : Nat) : UInt8 := UInt8.ofNat (lt v)
theorem let8_toNat (v : Nat) (h : v < 64) : (let8 v).toNat = lt v := by
  have := lt_range v h
  unfold let8
  rw [UInt8.toNat_ofNat']
  omega
theorem let8_ne (v : Nat) (h : v < 64) : let8 v ≠ 61 := by
  intro e
  have h1 := let8_toNat v h
  rw [e] at h1
  have := lt_range v h
  exact this.2.2 h1.symm
theorem let8_inj (v u : Nat) (hv : v < 64) (hu : u < 64) (h : let8 v = let8 u) : v = u := by
  refine lt_inj v u hv hu ?_
  rw [← let8_toNat v hv, ← let8_toNat u hu, h]
def four (l : List UInt8) : List UInt8 :=
  [let8 (word l / 262144), let8 (word l / 4096 % 64), if 1 < l.length then let8 (word l / 64 % 64) else 61, if 2 < l.length then let8 (word l % 64) else 61]
def encN : Nat → List UInt8 → List UInt8
  | 0, _ => []
  | n + 1, l => if l = [] then [] else four l ++ encN n (l.drop 3)
def enc (l : List UInt8) : List UInt8 := encN l.length l
theorem encN_more (n m : Nat) (l : List UInt8) (h : l.length ≤ n) (h' : l.length ≤ m) : encN n l = encN m l := by
  induction n generalizing m l with
  | zero =>
    obtain rfl : l = [] := List.length_eq_zero_iff.1 (by omega)
    cases m <;> simp [encN]
  | succ n ih =>
    cases m with
    | zero =>
      obtain rfl : l = [] := List.length_eq_zero_iff.1 (by omega)
      simp [encN]
    | succ m =>
      unfold encN
      split
      · rfl
      · rename_i hl
        have : 0 < l.length := List.length_pos_iff.2 hl
        rw [ih m (l.drop 3) (by rw [List.length_drop]; omega) (by rw [List.length_drop]; omega)]
theorem enc_nil : enc [] = [] := rfl
theorem enc_step (l : List UInt8) (h : l ≠ []) : enc l = four l ++ enc (l.drop 3) := by
  have hp : 0 < l.length := List.length_pos_iff.2 h
  unfold enc
  obtain ⟨n, hn⟩ : ∃ n, l.length = n + 1 := ⟨l.length - 1, by omega⟩
  rw [hn]
  rw [encN, if_neg h, encN_more n (l.drop 3).length (l.drop 3) (by rw [List.length_drop]; omega) (Nat.le_refl _)]
theorem four_length (l : List UInt8) : (four l).length = 4 := rfl
theorem getD_append {l m : List UInt8} {i : Nat} (h : i < l.length) : (l ++ m).getD i 0 = l.getD i 0 := by
  rw [List.getD_eq_getElem?_getD, List.getD_eq_getElem?_getD, List.getElem?_append_left h]
theorem four_take (l m : List UInt8) (h : 3 ≤ l.length) : four (l ++ m) = four l := by
  unfold four word
  rw [getD_append (by omega), getD_append (by omega), getD_append (by omega)]
  simp only [List.length_append]
  rw [if_pos (by omega), if_pos (by omega), if_pos (by omega), if_pos (by omega)]
theorem enc_append (a b : List UInt8) (h : a.length % 3 = 0) : enc (a ++ b) = enc a ++ enc b := by
  induction hn : a.length using Nat.strongRecOn generalizing a with
  | _ n ih =>
    by_cases he : a = []
    · subst he; rfl
    · have hp : 0 < a.length := List.length_pos_iff.2 he
      rw [enc_step a he, enc_step (a ++ b) (by simp [he]), four_take a b (by omega), List.append_assoc]
      rw [List.drop_append_of_le_length (by omega), ih (a.drop 3).length (by rw [List.length_drop]; omega) (a.drop 3) (by rw [List.length_drop]; omega) rfl]
theorem enc_length (a : List UInt8) : (enc a).length = (a.length + 2) / 3 * 4 := by
  induction hn : a.length using Nat.strongRecOn generalizing a with
  | _ n ih =>
    by_cases he : a = []
    · subst he; subst hn; rfl
    · have hp : 0 < a.length := List.length_pos_iff.2 he
      rw [enc_step a he, List.length_append, four_length, ih (a.drop 3).length (by rw [List.length_drop]; omega) (a.drop 3) rfl, List.length_drop]
      omega
theorem list_of_getD (l m : List UInt8) (hl : l.length = m.length) (h : ∀ i, i < l.length → l.getD i 0 = m.getD i 0) : l = m := by
  apply List.ext_getElem hl
  intro i h1 h2
  have := h i h1
  rw [List.getD_eq_getElem?_getD, List.getD_eq_getElem?_getD, List.getElem?_eq_getElem h1, List.getElem?_eq_getElem h2] at this
  exact this
theorem word_of_four (x y : List UInt8) (hx : x.length ≤ 3) (hy : y.length ≤ 3) (hx0 : x ≠ []) (hy0 : y ≠ []) (h : four x = four y) : x = y := by
  have px : 0 < x.length := List.length_pos_iff.2 hx0
  have py : 0 < y.length := List.length_pos_iff.2 hy0
  have wx := word_lt x
  have wy := word_lt y
  unfold four at h
  simp only [List.cons.injEq, and_true] at h
  obtain ⟨h0, h1, h2, h3⟩ := h
  have e0 := let8_inj _ _ (by omega) (by omega) h0
  have e1 := let8_inj _ _ (by omega) (by omega) h1
  have b0 := (x.getD 0 0).toNat_lt
  have b1 := (x.getD 1 0).toNat_lt
  have b2 := (x.getD 2 0).toNat_lt
  have c0 := (y.getD 0 0).toNat_lt
  have c1 := (y.getD 1 0).toNat_lt
  have c2 := (y.getD 2 0).toNat_lt
  have toN : ∀ a b : UInt8, a.toNat = b.toNat → a = b := fun a b hab => UInt8.toNat_inj.1 hab
  have zx : ∀ i, x.length ≤ i → (x.getD i 0).toNat = 0 := fun i hi => by rw [List.getD_eq_getElem?_getD, List.getElem?_eq_none hi]; rfl
  have zy : ∀ i, y.length ≤ i → (y.getD i 0).toNat = 0 := fun i hi => by rw [List.getD_eq_getElem?_getD, List.getElem?_eq_none hi]; rfl
  by_cases x1 : 1 < x.length
  · by_cases y1 : 1 < y.length
    · rw [if_pos x1, if_pos y1] at h2
      have e2 := let8_inj _ _ (by omega) (by omega) h2
      by_cases x2 : 2 < x.length
      · by_cases y2 : 2 < y.length
        · rw [if_pos x2, if_pos y2] at h3
          have e3 := let8_inj _ _ (by omega) (by omega) h3
          have hw : word x = word y := by omega
          unfold word at hw
          refine list_of_getD x y (by omega) (fun i hi => toN _ _ ?_)
          have : i = 0 ∨ i = 1 ∨ i = 2 := by omega
          rcases this with rfl | rfl | rfl <;> omega
        · rw [if_pos x2, if_neg y2] at h3
          exact absurd h3 (let8_ne _ (by omega))
      · by_cases y2 : 2 < y.length
        · rw [if_neg x2, if_pos y2] at h3
          exact absurd h3.symm (let8_ne _ (by omega))
        · have hx2 := zx 2 (by omega)
          have hy2 := zy 2 (by omega)
          have hw : word x / 64 = word y / 64 := by omega
          unfold word at hw
          refine list_of_getD x y (by omega) (fun i hi => toN _ _ ?_)
          have : i = 0 ∨ i = 1 := by omega
          rcases this with rfl | rfl <;> omega
    · rw [if_pos x1, if_neg y1] at h2
      exact absurd h2 (let8_ne _ (by omega))
  · by_cases y1 : 1 < y.length
    · rw [if_neg x1, if_pos y1] at h2
      exact absurd h2.symm (let8_ne _ (by omega))
    · have hx1 := zx 1 (by omega)
      have hy1 := zy 1 (by omega)
      have hx2 := zx 2 (by omega)
      have hy2 := zy 2 (by omega)
      have hw : word x / 4096 = word y / 4096 := by omega
      unfold word at hw
      refine list_of_getD x y (by omega) (fun i hi => toN _ _ ?_)
      have : i = 0 := by omega
      subst this
      omega
theorem four_take3 (l : List UInt8) : four (l.take 3) = four l := by
  by_cases h : 3 ≤ l.length
  · have := four_take (l.take 3) (l.drop 3) (by rw [List.length_take]; omega)
    rw [List.take_append_drop] at this
    exact this.symm
  · rw [List.take_of_length_le (by omega)]
theorem append_parts {a b c d : List UInt8} (hl : a.length = c.length) (h : a ++ b = c ++ d) : a = c ∧ b = d := List.append_inj h hl
theorem enc_inj (x y : List UInt8) (h : enc x = enc y) : x = y := by
  induction hn : x.length using Nat.strongRecOn generalizing x y with
  | _ n ih =>
    by_cases hx : x = []
    · subst hx
      by_cases hy : y = []
      · exact hy.symm
      · rw [enc_step y hy] at h
        exact absurd (congrArg List.length h) (by rw [enc_nil, List.length_append, four_length, List.length_nil]; omega)
    · by_cases hy : y = []
      · subst hy
        rw [enc_step x hx] at h
        exact absurd (congrArg List.length h) (by rw [enc_nil, List.length_append, four_length, List.length_nil]; omega)
      · rw [enc_step x hx, enc_step y hy] at h
        obtain ⟨h1, h2⟩ := append_parts (by rw [four_length, four_length]) h
        have hp : 0 < x.length := List.length_pos_iff.2 hx
        have e1 : x.take 3 = y.take 3 := by
          refine word_of_four _ _ (List.length_take_le _ _) (List.length_take_le _ _) ?_ ?_ ?_
          · intro e; have := congrArg List.length e; rw [List.length_take] at this; simp at this; exact hx this
          · intro e; have := congrArg List.length e; rw [List.length_take] at this; simp at this; exact hy this
          · rw [four_take3, four_take3]; exact h1
        have e2 := ih (x.drop 3).length (by rw [List.length_drop]; omega) (x.drop 3) (y.drop 3) h2 rfl
        rw [← List.take_append_drop 3 x, ← List.take_append_drop 3 y, e1, e2]
theorem enc_begin (a b t : List UInt8) (ha : a.length % 3 = 0) (h : enc b = enc a ++ t) : ∃ c, b = a ++ c ∧ enc c = t := by
  have hla : (enc a).length = a.length / 3 * 4 := by rw [enc_length]; omega
  have hlb : (enc b).length = (enc a).length + t.length := by rw [h, List.length_append]
  rw [hla, enc_length] at hlb
  have hab : a.length ≤ b.length + 2 := by omega
  by_cases hle : a.length ≤ b.length
  · have ht : (b.take a.length).length % 3 = 0 := by rw [List.length_take]; rw [Nat.min_eq_left hle]; exact ha
    have hb := enc_append (b.take a.length) (b.drop a.length) ht
    rw [List.take_append_drop, h] at hb
    obtain ⟨h1, h2⟩ := append_parts (by rw [enc_length, enc_length, List.length_take, Nat.min_eq_left hle]) hb
    have := enc_inj _ _ h1
    refine ⟨b.drop a.length, ?_, h2.symm⟩
    conv => lhs; rw [← List.take_append_drop a.length b, ← this]
  · -- b is shorter by one or two: its last letters are no whole three's
    have hb0 : b.length / 3 * 3 < b.length := by omega
    have hq : (b.take (b.length / 3 * 3)).length = b.length / 3 * 3 := by rw [List.length_take]; omega
    have hq' : (a.take (b.length / 3 * 3)).length = b.length / 3 * 3 := by rw [List.length_take]; omega
    have eb := enc_append (b.take (b.length / 3 * 3)) (b.drop (b.length / 3 * 3)) (by rw [hq]; omega)
    have ea := enc_append (a.take (b.length / 3 * 3)) (a.drop (b.length / 3 * 3)) (by rw [hq']; omega)
    rw [List.take_append_drop] at eb ea
    rw [h, ea, List.append_assoc] at eb
    obtain ⟨_, h2⟩ := append_parts (by rw [enc_length, enc_length, hq, hq']) eb
    have hd : (b.drop (b.length / 3 * 3)).length = b.length - b.length / 3 * 3 := List.length_drop
    have hd' : (a.drop (b.length / 3 * 3)).length = a.length - b.length / 3 * 3 := List.length_drop
    rw [enc_step (b.drop (b.length / 3 * 3)) (by intro e; rw [e] at hd; simp at hd; omega), enc_step (a.drop (b.length / 3 * 3)) (by intro e; rw [e] at hd'; simp at hd'; omega), List.append_assoc] at h2
    obtain ⟨h3, _⟩ := append_parts (by rw [four_length, four_length]) h2
    have := word_of_four _ _ (by rw [hd']; omega) (by rw [hd]; omega) (by intro e; rw [e] at hd'; simp at hd'; omega) (by intro e; rw [e] at hd; simp at hd; omega) h3
    have := congrArg List.length this
    rw [hd, hd'] at this
    omega
open Classical in
noncomputable def dec (s : List UInt8) : Option (List UInt8) := if h : ∃ b, enc b = s then some (Classical.choose h) else none
theorem dec_enc (b : List UInt8) : dec (enc b) = some b := by
  unfold dec
  rw [dif_pos ⟨b, rfl⟩]
  exact congrArg some (enc_inj _ _ (Classical.choose_spec (p := fun x => enc x = enc b) ⟨b, rfl⟩))
theorem dec_of (s b : List UInt8) (h : enc b = s) : dec s = some b := by subst h; exact dec_enc b
theorem dec_none (s : List UInt8) (h : ¬ ∃ b, enc b = s) : dec s = none := by unfold dec; rw [dif_neg h]
theorem dec_some (s b : List UInt8) (h : dec s = some b) : enc b = s := by
  unfold dec at h
  split at h
  · rename_i hx
    injection h with h
    subst h
    exact Classical.choose_spec hx
  · cases h
end Go.Proofs.YtfboejlemnfndaaGreatDoor.B64
end
section
namespace Go.Proofs.YtfboejlemnfndaaGreatDoor
open Go.RowKit Go.Shelf

theorem bldSize : (Tryz.prog.info? 91).map (·.size) = some 2 := by kernel_rfl
theorem bldLies : liesAt Tryz.prog Tryz.prog.depth 91 (2 / Tryz.prog.cellsOf 91) 0 91 1 = true := by kernel_rfl
theorem bldByte : (Tryz.prog.info? 5).map (fun i => (i.zero, i.size, i.bytes)) = some (some (.int .u8 0), 1, 1) := by kernel_rfl

set_option maxHeartbeats 2000000 in
set_option maxRecDepth 100000 in
theorem bld_check_fresh (b : Nat) (w : World) (h0 : w.cell? ⟨b, 0, none⟩ = some (.pointer none)) (hsh : w.shape? b = some (91, 2)) (hfz : w.frozen? ⟨b, 0, none⟩ = false) :
    Calls Tryz.prog 74 #[.pointer (some ⟨b, 0, none⟩)] w fun e w' => e = .returned (.tuple #[]) ∧ w' = w.setCell ⟨b, 0, none⟩ (.pointer (some ⟨b, 0, none⟩)) := by
  obtain ⟨j, hj, hjs⟩ := Option.map_eq_some_iff.1 bldSize
  go_enter Tryz.func74, Tryz.ntmps74
  go_wp2
  rw [Lib.run_to_unsafe w ⟨b, 0, none⟩ Tryz.underlying89 Tryz.underlying128 hj (by rw [hjs]; decide) hsh (Nat.zero_lt_succ 1)]
  simp only [Result.andThen]
  rw [Oper.upon_value]
  go_wp2
  rw [run_callFunc_extern Tryz.func92 (by kernel_rfl) (by kernel_rfl) (by kernel_rfl) (e := Extern.AbiNoEscape.same) (by kernel_rfl)]
  rw [Lib.run_noEscape]
  simp only [Result.andThen]
  rw [Oper.upon_value]
  go_wp2
  rw [Lib.run_from_unsafe w ⟨b, 0, none⟩ Tryz.underlying128 Tryz.underlying89 hj hsh bldLies]
  simp only [Result.andThen]
  rw [Oper.upon_value]
  go_wp2
  go_end0
  exact ⟨rfl, rfl⟩

set_option maxHeartbeats 2000000 in
set_option maxRecDepth 100000 in
theorem bld_check_used (b : Nat) (w : World) (h0 : w.cell? ⟨b, 0, none⟩ = some (.pointer (some ⟨b, 0, none⟩))) :
    Calls Tryz.prog 74 #[.pointer (some ⟨b, 0, none⟩)] w fun e w' => e = .returned (.tuple #[]) ∧ w' = w := by
  obtain ⟨j, hj, _⟩ := Option.map_eq_some_iff.1 bldSize
  go_enter Tryz.func74, Tryz.ntmps74
  go_wp2
  rw [Lib.run_neq_ptr_same w _ Tryz.underlying89 hj]
  go_wp2
  go_end0
  exact ⟨rfl, rfl⟩

abbrev IsBld (B b : Nat) (l : List UInt8) (w : World) : Prop := Lib.IsBuilderF 91 5 B b (Lib.byteCells l) w

theorem bld_check (B b : Nat) (bs : List Value) (w : World) (h : Lib.IsBuilderF 91 5 B b bs w) :
    Calls Tryz.prog 74 #[.pointer (some ⟨b, 0, none⟩)] w fun e w' => e = .returned (.tuple #[]) ∧ Lib.BuilderAtF 91 5 B b (.pointer (some ⟨b, 0, none⟩)) bs w' ∧ Below B w w' := by
  rcases h with h | h
  · refine (bld_check_fresh b w h.cell0 h.shape h.frozen0).mono ?_
    rintro e w' ⟨rfl, rfl⟩
    exact ⟨rfl, h.used _, (Below.refl B w).setCell (p := ⟨b, 0, none⟩) h.1 _⟩
  · refine (bld_check_used b w h.cell0).mono ?_
    rintro e w' ⟨rfl, rfl⟩
    exact ⟨rfl, h, Below.refl B _⟩
theorem isBld_below {B b : Nat} {l : List UInt8} {W W' : World} (h : IsBld B b l W) (hb : Below W.heap.size W W') : IsBld B b l W' := by
  have go : ∀ p, Lib.BuilderAtF 91 5 B b p (Lib.byteCells l) W → Lib.BuilderAtF 91 5 B b p (Lib.byteCells l) W' := fun p h => by
    have hlt := h.lt
    obtain ⟨hB, v, hbk, hown, hne⟩ := h
    refine ⟨hB, v, (hb.block b hlt).trans hbk, ?_, hne⟩
    obtain ⟨h1, h2⟩ := hown
    refine ⟨h1, ?_⟩
    rcases h2 with h2 | ⟨g, cap, cur, fz, hv, hg, hh, r⟩
    · exact .inl h2
    · refine .inr ⟨g, cap, cur, fz, hv, hg, ?_, r⟩
      have : g < W.heap.size := by
        rcases Nat.lt_or_ge g W.heap.size with h' | h'
        · exact h'
        · simp [Array.getElem?_eq_none h'] at hh
      exact (hb.block g this).trans hh
  exact h.elim (fun x => .inl (go _ x)) (fun x => .inr (go _ x))
theorem isBld_fresh (w : World) : IsBld w.heap.size w.heap.size [] (w.alloc (.cells #[.pointer none, .slice none 0 0] 91)) := Lib.IsBuilderF.of (Lib.fresh_isBuilder _ _ w)
end Go.Proofs.YtfboejlemnfndaaGreatDoor
end
section
namespace Go.Proofs.YtfboejlemnfndaaGreatDoor
open Go.RowKit Go.Shelf

set_option maxHeartbeats 4000000 in
set_option maxRecDepth 100000 in
theorem bld_byte (B b : Nat) (l : List UInt8) (c : Int) (w : World) (h : IsBld B b l w) (h0 : 0 ≤ c) (h1 : c < 256) (hlen : l.length + 1 ≤ 140737488355328) (hBw : B ≤ w.heap.size) :
    Calls Tryz.prog 53 #[.pointer (some ⟨b, 0, none⟩), .int .u8 c] w fun e w' => e = .returned .nilIface ∧ IsBld B b (l ++ [UInt8.ofNat c.toNat]) w' ∧ Below B w w' := by
  obtain ⟨i0, hi, hz0, hz1, hz2⟩ := info_parts bldByte
  have hll : (Lib.byteCells l).length = l.length := Lib.byteCells_length l
  have HE : Hid (Lib.byteCells (l ++ [UInt8.ofNat c.toNat]) = Lib.byteCells l ++ [.int .u8 c]) := by
    show Lib.byteCells (l ++ [UInt8.ofNat c.toNat]) = Lib.byteCells l ++ [.int .u8 c]
    rw [Lib.byteCells_append]
    congr 1
    simp only [Lib.byteCells, List.map_cons, List.map_nil]
    congr 2
    rw [UInt8.toNat_ofNat']
    omega
  unfold IsBld at h ⊢
  rw [HE.out]
  have hlen' : (Lib.byteCells l).length + 1 ≤ 140737488355328 := by omega
  clear HE hll hlen
  generalize Lib.byteCells l = bs at *
  go_enter Tryz.func53, Tryz.ntmps53
  go_wp2_with (go_at_call 74; refine (bld_check B b bs _ h).mono ?_)
  rintro e w1 ⟨rfl, h1', hb1⟩
  obtain ⟨hB, v, hbk, hown, hne⟩ := h1'
  have c0 : w1.cell? ⟨b, 0, none⟩ = some (.pointer (some ⟨b, 0, none⟩)) := by rw [Lib.cell_of_heap hbk]; rfl
  have c1 : w1.cell? ⟨b, 1, none⟩ = some v := by rw [Lib.cell_of_heap hbk]; rfl
  go_wp2_with (at_builtin; refine wpList_append_ownF _ rfl _ _ 70 rfl B 5 i0 (.int .u8 0) 1 1 Tryz.underlying70 hi hz0 hz1 hz2 rfl (by decide) _ _ _ rfl (hown.alloc _) ⟨w1.heap.size, 0, none⟩ 1 1 [.int .u8 c] rfl rfl ?c1 ?c2 ?c3 ?c4 ?c5 ?_)
  case c1 =>
    intro j u hj
    match j, hj with
    | 0, hj => simp at hj; subst hj; simp [Addr.add]
  case c2 => intro u hu; simp at hu; subst hu; rfl
  case c3 => unfold maxLen; omega
  case c4 => omega
  case c5 => have := hb1.size; simp; omega
  intro v' w2 hown' hgrow _
  have hlt : b < w1.heap.size := by
    rcases Nat.lt_or_ge b w1.heap.size with h' | h'
    · exact h'
    · simp [Array.getElem?_eq_none h'] at hbk
  have hb2 : w2.heap[b]? = some (.cells #[.pointer (some ⟨b, 0, none⟩), v] 91 (0, 0)) := by
    rw [hgrow.block b (by simp; omega) (fun e => hne e.symm), Lib.alloc_old w1 _ b hlt]
    exact hbk
  have d0 : w2.cell? ⟨b, 0, none⟩ = some (.pointer (some ⟨b, 0, none⟩)) := by rw [Lib.cell_of_heap hb2]; rfl
  have d1 : w2.cell? ⟨b, 1, none⟩ = some v := by rw [Lib.cell_of_heap hb2]; rfl
  have f1 : w2.frozen? ⟨b, 1, none⟩ = false := Lib.frozen_of_heap hb2 1
  obtain ⟨g, cap, rfl⟩ : ∃ g cap, v' = .slice (some ⟨g, 0, none⟩) (bs.length + 1) cap := by
    rcases hown'.2 with ⟨_, h0⟩ | ⟨g, cap, cur, fz, hv, _⟩
    · omega
    · exact ⟨g, cap, hv⟩
  go_wp2
  go_ret
  refine ⟨rfl, .inr ?_, ?_⟩
  · exact Lib.BuilderAtF.put (T := 91) (e := 5) hB hb2 (bs' := bs ++ [.int .u8 c]) (by simpa using hown') (by decide)
  · exact ((hb1.alloc (by have := hb1.size; omega) _).grown hgrow (by have := hb1.size; simp; omega) (fun k hk => (hown.lt k hk).1)).setCell (p := ⟨b, 1, none⟩) hB _
end Go.Proofs.YtfboejlemnfndaaGreatDoor
end
section
namespace Go.Proofs.YtfboejlemnfndaaGreatDoor
theorem wraps_u32 (n : Int) (h₀ : 0 ≤ n) (h₁ : n < 2 ^ 32) : IntKind.u32.wrap n = n := by rw [IntKind.wrap_u32]; omega
theorem u32_or8 (x y : Int) (hx₀ : 0 ≤ x) (hx : x % 256 = 0) (hx₁ : x < 4294967296) (h₀ : 0 ≤ y) (h₁ : y < 256) : bits .or .u32 x y = x + y :=
  bits_join .u32 32 (by decide) wraps_u32 8 x y hx₀ hx hx₁ h₀ h₁ (by omega)
theorem u32_or6 (x y : Int) (hx₀ : 0 ≤ x) (hx : x % 64 = 0) (hx₁ : x < 4294967296) (h₀ : 0 ≤ y) (h₁ : y < 64) : bits .or .u32 x y = x + y :=
  bits_join .u32 32 (by decide) wraps_u32 6 x y hx₀ hx hx₁ h₀ h₁ (by omega)
theorem u32_and63 (x : Int) (h₀ : 0 ≤ x) (h₁ : x < 4294967296) : bits .and .u32 x 63 = x % 64 := bits_mask .u32 32 (by decide) wraps_u32 6 (by decide) x h₀ h₁
end Go.Proofs.YtfboejlemnfndaaGreatDoor
end
section
namespace Go.Proofs.YtfboejlemnfndaaGreatDoor.XMt
open Go.RowKit Go.Proofs.YtfboejlemnfndaaGreatDoorW.PrintWords Go.Proofs.YtfboejlemnfndaaGreatDoorW.PrintLast Go.Proofs.YtfboejlemnfndaaGreatDoorW.PrintMore
attribute [local go_sem] extract_sub max2_int min2_int max_two min_two max_three min_three max_four min_four   -- for this text's walks alone
set_option linter.unusedVariables false
set_option linter.unusedSimpArgs false

noncomputable section
def meta_Encode.f (a0 : ByteArray) : Option ByteArray := if a0.size ≤ 1099511627776 then some ⟨(B64.enc a0.data.toList).toArray⟩ else none
def meta_Encode.ERel (a0 : ByteArray) (w : World) (t : ByteArray) (acc : List UInt8) (wr : World) : Prop :=
 IsBld w.heap.size w.heap.size acc wr ∧ Below w.heap.size w wr ∧ acc ++ B64.enc t.data.toList = B64.enc a0.data.toList
def meta_Encode.wd (l : List UInt8) : Nat → Nat
 | 0 => 0
 | k + 1 => meta_Encode.wd l k * 256 + (l.getD k 0).toNat
theorem meta_Encode.wd_lt (l : List UInt8) (k : Nat) : meta_Encode.wd l k < 256 ^ k := by
 induction k with
 | zero => simp [meta_Encode.wd]
 | succ k ih => have := (l.getD k 0).toNat_lt; unfold meta_Encode.wd; omega
theorem meta_Encode.wd_bound (l : List UInt8) (k : Nat) (h : k < 3) : meta_Encode.wd l k < 65536 := by
 have := meta_Encode.wd_lt l k
 have : k = 0 ∨ k = 1 ∨ k = 2 := by omega
 rcases this with rfl | rfl | rfl <;> omega
theorem meta_Encode.wd_in (t : ByteArray) (k : Nat) (h : k < 3) (hl : k < t.size) : bits BinOp.or IntKind.u32 (↑(meta_Encode.wd t.data.toList k) * 256) (↑t[k].toNat % 4294967296) = ((meta_Encode.wd t.data.toList (k + 1) : Nat) : Int) := by
 have hb := meta_Encode.wd_bound t.data.toList k h
 have hc := t[k].toNat_lt
 rw [u32_or8 _ _ (by omega) (by omega) (by omega) (by omega) (by omega)]
 have e : t.data.toList.getD k 0 = t[k] := by
  rw [List.getD_eq_getElem?_getD, List.getElem?_eq_getElem (by rw [Array.length_toList]; exact hl)]
  rfl
 have e2 : meta_Encode.wd t.data.toList (k + 1) = meta_Encode.wd t.data.toList k * 256 + t[k].toNat := by rw [← e]; rfl
 rw [e2, Int.emod_eq_of_lt (by omega) (by omega)]
 omega
theorem meta_Encode.wd_out (t : ByteArray) (k : Nat) (hl : ¬ k < t.size) : ((meta_Encode.wd t.data.toList k : Nat) : Int) * 256 = ((meta_Encode.wd t.data.toList (k + 1) : Nat) : Int) := by
 have e : t.data.toList.getD k 0 = 0 := by
  rw [List.getD_eq_getElem?_getD, List.getElem?_eq_none (by rw [Array.length_toList]; exact Nat.not_lt.1 hl)]
  rfl
 conv => rhs; unfold meta_Encode.wd
 rw [e]
 simp
theorem meta_Encode.wd_three (l : List UInt8) : meta_Encode.wd l 3 = B64.word l := by
 simp only [meta_Encode.wd, B64.word]; omega
theorem meta_Encode.ba_list (t : ByteArray) : t.toList = t.data.toList := ByteArray.toList_eq t
theorem meta_Encode.ne_empty (t : ByteArray) (h : ¬ t.size = 0) : (!t.toList.isEmpty) = true := by
 rw [meta_Encode.ba_list]
 cases e : t.data.toList with
 | nil => exact absurd (by have := congrArg List.length e; rw [Array.length_toList] at this; exact this) h
 | cons _ _ => rfl
theorem meta_Encode.is_empty (t : ByteArray) (h : t.size = 0) : (!t.toList.isEmpty) = false := by
 have : t.data.toList = [] := List.length_eq_zero_iff.1 (by rw [Array.length_toList]; exact h)
 rw [meta_Encode.ba_list, this]
 rfl
theorem meta_Encode.letter_f (x : Nat) (h : x < 4294967296) : meta_letter.f (x : Int) = some ((B64.lt (x % 64) : Nat) : Int) := by
 unfold meta_letter.f B64.lt
 rw [u32_and63 _ (by omega) (by omega)]
 have e : ((x : Int) % 64) = ((x % 64 : Nat) : Int) := by omega
 rw [e]
 generalize hy : x % 64 = y
 have hy' : y < 64 := by omega
 by_cases h1 : y < 26
 · rw [if_pos (by omega), if_pos h1]; congr 1; omega
 · rw [if_neg (by omega), if_neg h1]
   by_cases h2 : y < 52
   · rw [if_pos (by omega), if_pos h2]; congr 1; omega
   · rw [if_neg (by omega), if_neg h2]
     by_cases h3 : y < 62
     · rw [if_pos (by omega), if_pos h3]; congr 1; omega
     · rw [if_neg (by omega), if_neg h3]
       by_cases h4 : y = 62
       · rw [if_pos (by omega), if_pos h4]; rfl
       · rw [if_neg (by omega), if_neg h4]; rfl
theorem meta_Encode.letter_at (x : Int) (n : Nat) (h : x = (n : Int)) (hn : n < 4294967296) (w : World) :
 Calls Tryz.prog 54 #[.int .u32 x] w fun e w' => e = .returned (.int .u8 ((B64.lt (n % 64) : Nat) : Int)) ∧ Drawn0 w w' := by
 subst h
 exact meta_letter.calls _ _ w (meta_Encode.letter_f n hn)
theorem meta_Encode.let8_of (n : Nat) : UInt8.ofNat ((B64.lt n : Nat) : Int).toNat = B64.let8 n := rfl
theorem meta_Encode.dsz (t : ByteArray) : t.data.toList.length = t.size := Array.length_toList
theorem meta_Encode.four0 (t : ByteArray) : (B64.four t.data.toList)[0]? = some (UInt8.ofNat ((B64.lt (meta_Encode.wd t.data.toList 3 / 262144 % 64) : Nat) : Int).toNat) := by
 rw [meta_Encode.wd_three]
 have := B64.word_lt t.data.toList
 show some (B64.let8 (B64.word t.data.toList / 262144)) = some (B64.let8 (B64.word t.data.toList / 262144 % 64))
 rw [Nat.mod_eq_of_lt (by omega)]
theorem meta_Encode.four1 (t : ByteArray) : (B64.four t.data.toList)[1]? = some (UInt8.ofNat ((B64.lt (meta_Encode.wd t.data.toList 3 / 4096 % 64) : Nat) : Int).toNat) := by
 rw [meta_Encode.wd_three]; rfl
theorem meta_Encode.four2 (t : ByteArray) (h : 2 ≤ t.size) : (B64.four t.data.toList)[2]? = some (UInt8.ofNat ((B64.lt (meta_Encode.wd t.data.toList 3 / 64 % 64) : Nat) : Int).toNat) := by
 rw [meta_Encode.wd_three]
 exact congrArg some (if_pos (by rw [meta_Encode.dsz]; omega))
theorem meta_Encode.four3 (t : ByteArray) (h : 3 ≤ t.size) : (B64.four t.data.toList)[3]? = some (UInt8.ofNat ((B64.lt (meta_Encode.wd t.data.toList 3 % 64) : Nat) : Int).toNat) := by
 rw [meta_Encode.wd_three]
 exact congrArg some (if_pos (by rw [meta_Encode.dsz]; omega))
theorem meta_Encode.fill2 (t : ByteArray) (h : t.size < 2) : (B64.four t.data.toList)[2]? = some (UInt8.ofNat (61 : Int).toNat) := congrArg some (if_neg (by rw [meta_Encode.dsz]; omega))
theorem meta_Encode.fill3 (t : ByteArray) (h : t.size < 3) : (B64.four t.data.toList)[3]? = some (UInt8.ofNat (61 : Int).toNat) := congrArg some (if_neg (by rw [meta_Encode.dsz]; omega))
theorem meta_Encode.enc_on (t : ByteArray) (h : 1 ≤ t.size) (acc l : List UInt8) (hl : acc ++ B64.enc t.data.toList = l) :
 (acc ++ (B64.four t.data.toList).take 4) ++ B64.enc (t.extract (if (t.size : Int) < 3 then (t.size : Int) else 3).toNat t.size).data.toList = l := by
 have e : (t.extract (if (t.size : Int) < 3 then (t.size : Int) else 3).toNat t.size).data.toList = t.data.toList.drop 3 := by
  rw [Lib.extract_data]
  have hd := meta_Encode.dsz t
  by_cases h3 : 3 ≤ t.size
  · have e3 : (if (t.size : Int) < 3 then (t.size : Int) else 3).toNat = 3 := by rw [if_neg (by omega)]; rfl
    rw [e3, List.take_of_length_le (by rw [List.length_drop]; omega)]
  · have e3 : (if (t.size : Int) < 3 then (t.size : Int) else 3).toNat = t.size := by rw [if_pos (by omega)]; rfl
    rw [e3, List.drop_of_length_le (by omega), List.drop_of_length_le (by omega), List.take_nil]
 rw [e, List.take_of_length_le (by rw [B64.four_length]; omega), ← hl, B64.enc_step t.data.toList (by intro e0; have := meta_Encode.dsz t; rw [e0] at this; simp at this; omega), List.append_assoc]
theorem meta_Encode.size_le (t : ByteArray) (acc : List UInt8) (a0 : ByteArray) (h : acc ++ B64.enc t.data.toList = B64.enc a0.data.toList) (hs : a0.size ≤ 1099511627776) : t.size ≤ 9223372036854775807 := by
 have := congrArg List.length h
 rw [List.length_append, B64.enc_length, B64.enc_length, meta_Encode.dsz, meta_Encode.dsz] at this
 omega
theorem meta_Encode.acc_le (acc l m : List UInt8) (h : acc ++ l = B64.enc m) (hm : m.length ≤ 1099511627776) : acc.length ≤ 4398046511104 := by
 have := congrArg List.length h
 rw [List.length_append, B64.enc_length] at this
 omega
theorem meta_Encode.four_more (l : List UInt8) (k : Nat) (c : UInt8) (h : (B64.four l)[k]? = some c) : (B64.four l).take (k + 1) = (B64.four l).take k ++ [c] := by
 rw [List.take_add_one, h]; rfl
set_option maxHeartbeats 1600000 in
set_option maxRecDepth 100000 in
theorem meta_Encode.calls_ (a0 : ByteArray) (w : World) (hs : a0.size ≤ 1099511627776) :
 Calls Tryz.prog 26 #[.string a0] w fun e w' => e = .returned (.string ⟨(B64.enc a0.data.toList).toArray⟩) ∧ Below w.heap.size w w' := by
 go_enter Tryz.func26, Tryz.ntmps26
 go_wp2_with fail
 go_loopw [0] (fun s wr => ∃ (t : ByteArray) (acc : List UInt8), s = .string t ∧ meta_Encode.ERel a0 w t acc wr) (fun s wr => match s with | .string t => t.size | _ => 0)
 case atStart => exact ⟨a0, [], rfl, isBld_fresh w, (Below.refl _ w).alloc (Nat.le_refl _) _, rfl⟩
 case round =>
  obtain ⟨t, acc, rfl, hR⟩ := hrel
  by_cases hE : t.size = 0
  · have hne := meta_Encode.is_empty t hE
    obtain ⟨h1, h2, h3⟩ := hR
    have HE := Lib.hid hE
    have H3 := Lib.hid h3
    clear hE h3
    go_wp2_with fail
    refine (Tryz.Builder_String_any_f w.heap.size w.heap.size acc _ h1 h2.size).mono ?_
    rintro e w1 ⟨rfl, _, hb1⟩
    go_wp2
    go_ret
    have : t.data.toList = [] := List.length_eq_zero_iff.1 (by rw [Array.length_toList]; exact HE.out)
    have h3 := H3.out
    rw [this, B64.enc_nil, List.append_nil] at h3
    rw [h3]
    exact ⟨rfl, h2.trans hb1⟩
  · have hne := meta_Encode.ne_empty t hE
    have hR' : Hid (meta_Encode.ERel a0 w t acc wr) := hR
    have hsz : t.size ≤ 9223372036854775807 := meta_Encode.size_le t acc a0 hR.2.2 hs
    have hE1 : Hid (¬ t.size = 0) := hE
    clear hE hR
    go_wp2_with fail
    go_loop [4, 14] (fun v i => ∃ k : Nat, k ≤ 3 ∧ i = .int .i64 k ∧ v = .int .u32 (meta_Encode.wd t.data.toList k)) (fun _ i => 3 - (intOf i).toNat)
    case atStart => exact ⟨0, by omega, rfl, rfl⟩
    case round =>
     obtain ⟨k, hk, rfl, rfl⟩ := hrel
     by_cases hk3 : k < 3
     · have hw2 := meta_Encode.wd_bound t.data.toList k hk3
       by_cases hlt : k < t.size
       · go_wp2
         go_round
         case rel => exact ⟨k + 1, by omega, by go_num, by rw [meta_Encode.wd_in t k hk3 hlt]⟩
         case measure => simp [intOf]; omega
       · go_wp2
         go_round
         case rel => exact ⟨k + 1, by omega, by go_num, by rw [meta_Encode.wd_out t k hlt]⟩
         case measure => simp [intOf]; omega
     · obtain rfl : k = 3 := by omega
       have hw3 := meta_Encode.wd_lt t.data.toList 3
       have hw4 : meta_Encode.wd t.data.toList 3 < 16777216 := by omega
       clear hw3 hk3 hk
       go_wp2_with fail
       go_loopw [30] (fun i wx => ∃ k : Nat, k ≤ 4 ∧ i = .int .i64 k ∧ IsBld w.heap.size w.heap.size (acc ++ (B64.four t.data.toList).take k) wx ∧ Below w.heap.size w wx) (fun i _ => 4 - (intOf i).toNat)
       case atStart => exact ⟨0, by omega, rfl, by simpa using hR'.out.1, hR'.out.2.1⟩
       case round =>
        obtain ⟨k, hk, rfl, hB, hb⟩ := hrel
        have HB := Lib.hid hB
        have Hb := Lib.hid hb
        clear hB hb
        have hs1 : 1 ≤ t.size := by have := hE1.out; omega
        have hlen : Hid (acc.length ≤ 4398046511104) := meta_Encode.acc_le acc _ _ hR'.out.2.2 (by rw [meta_Encode.dsz]; exact hs)
        obtain rfl | rfl | rfl | rfl | rfl : k = 0 ∨ k = 1 ∨ k = 2 ∨ k = 3 ∨ k = 4 := by omega
        · go_wp2_with fail
          refine (meta_Encode.letter_at _ (meta_Encode.wd t.data.toList 3 / 262144) (by omega) (by omega) _).mono ?_
          rintro e w1 ⟨rfl, hd⟩
          have HD := Lib.hid hd
          clear hd
          go_wp2_with fail
          refine (bld_byte w.heap.size w.heap.size _ _ _ (isBld_below HB.out HD.out.below) (by omega) (by have := (B64.lt_range _ (Nat.mod_lt (meta_Encode.wd t.data.toList 3 / 262144) (by decide : 0 < 64))); omega) (by have := hlen.out; simp; omega) (by have := Hb.out.size; have := HD.out.below.size; omega)).mono ?_
          rintro e w2 ⟨rfl, hB2, hb2⟩
          have HB2 := Lib.hid hB2
          have Hb2 := Lib.hid hb2
          clear hB2 hb2
          go_wp2
          go_roundw
          case rel => exact ⟨1, by omega, by go_num, by rw [meta_Encode.four_more _ 0 _ (meta_Encode.four0 t), ← List.append_assoc]; exact HB2.out, Hb.out.trans ((HD.out.below.mono Hb.out.size).trans Hb2.out)⟩
          case measure => simp [intOf]
        · go_wp2_with fail
          refine (meta_Encode.letter_at _ (meta_Encode.wd t.data.toList 3 / 4096) (by omega) (by omega) _).mono ?_
          rintro e w1 ⟨rfl, hd⟩
          have HD := Lib.hid hd
          clear hd
          go_wp2_with fail
          refine (bld_byte w.heap.size w.heap.size _ _ _ (isBld_below HB.out HD.out.below) (by omega) (by have := (B64.lt_range _ (Nat.mod_lt (meta_Encode.wd t.data.toList 3 / 4096) (by decide : 0 < 64))); omega) (by have := hlen.out; simp; omega) (by have := Hb.out.size; have := HD.out.below.size; omega)).mono ?_
          rintro e w2 ⟨rfl, hB2, hb2⟩
          have HB2 := Lib.hid hB2
          have Hb2 := Lib.hid hb2
          clear hB2 hb2
          go_wp2
          go_roundw
          case rel => exact ⟨2, by omega, by go_num, by rw [meta_Encode.four_more _ 1 _ (meta_Encode.four1 t), ← List.append_assoc]; exact HB2.out, Hb.out.trans ((HD.out.below.mono Hb.out.size).trans Hb2.out)⟩
          case measure => simp [intOf]
        · by_cases h2 : t.size < 2
          · go_wp2_with fail
            refine (bld_byte w.heap.size w.heap.size _ 61 _ HB.out (by omega) (by omega) (by have := hlen.out; simp; omega) Hb.out.size).mono ?_
            rintro e w2 ⟨rfl, hB2, hb2⟩
            have HB2 := Lib.hid hB2
            have Hb2 := Lib.hid hb2
            clear hB2 hb2
            go_wp2
            go_roundw
            case rel => exact ⟨3, by omega, by go_num, by rw [meta_Encode.four_more _ 2 _ (meta_Encode.fill2 t h2), ← List.append_assoc]; exact HB2.out, Hb.out.trans Hb2.out⟩
            case measure => simp [intOf]
          · go_wp2_with fail
            refine (meta_Encode.letter_at _ (meta_Encode.wd t.data.toList 3 / 64) (by omega) (by omega) _).mono ?_
            rintro e w1 ⟨rfl, hd⟩
            have HD := Lib.hid hd
            clear hd
            go_wp2_with fail
            refine (bld_byte w.heap.size w.heap.size _ _ _ (isBld_below HB.out HD.out.below) (by omega) (by have := (B64.lt_range _ (Nat.mod_lt (meta_Encode.wd t.data.toList 3 / 64) (by decide : 0 < 64))); omega) (by have := hlen.out; simp; omega) (by have := Hb.out.size; have := HD.out.below.size; omega)).mono ?_
            rintro e w2 ⟨rfl, hB2, hb2⟩
            have HB2 := Lib.hid hB2
            have Hb2 := Lib.hid hb2
            clear hB2 hb2
            go_wp2
            go_roundw
            case rel => exact ⟨3, by omega, by go_num, by rw [meta_Encode.four_more _ 2 _ (meta_Encode.four2 t (by omega)), ← List.append_assoc]; exact HB2.out, Hb.out.trans ((HD.out.below.mono Hb.out.size).trans Hb2.out)⟩
            case measure => simp [intOf]
        · by_cases h3 : t.size < 3
          · go_wp2_with fail
            refine (bld_byte w.heap.size w.heap.size _ 61 _ HB.out (by omega) (by omega) (by have := hlen.out; simp; omega) Hb.out.size).mono ?_
            rintro e w2 ⟨rfl, hB2, hb2⟩
            have HB2 := Lib.hid hB2
            have Hb2 := Lib.hid hb2
            clear hB2 hb2
            go_wp2
            go_roundw
            case rel => exact ⟨4, by omega, by go_num, by rw [meta_Encode.four_more _ 3 _ (meta_Encode.fill3 t h3), ← List.append_assoc]; exact HB2.out, Hb.out.trans Hb2.out⟩
            case measure => simp [intOf]
          · go_wp2_with fail
            refine (meta_Encode.letter_at _ (meta_Encode.wd t.data.toList 3) (by omega) (by omega) _).mono ?_
            rintro e w1 ⟨rfl, hd⟩
            have HD := Lib.hid hd
            clear hd
            go_wp2_with fail
            refine (bld_byte w.heap.size w.heap.size _ _ _ (isBld_below HB.out HD.out.below) (by omega) (by have := (B64.lt_range _ (Nat.mod_lt (meta_Encode.wd t.data.toList 3) (by decide : 0 < 64))); omega) (by have := hlen.out; simp; omega) (by have := Hb.out.size; have := HD.out.below.size; omega)).mono ?_
            rintro e w2 ⟨rfl, hB2, hb2⟩
            have HB2 := Lib.hid hB2
            have Hb2 := Lib.hid hb2
            clear hB2 hb2
            go_wp2
            go_roundw
            case rel => exact ⟨4, by omega, by go_num, by rw [meta_Encode.four_more _ 3 _ (meta_Encode.four3 t (by omega)), ← List.append_assoc]; exact HB2.out, Hb.out.trans ((HD.out.below.mono Hb.out.size).trans Hb2.out)⟩
            case measure => simp [intOf]
        · go_wp2_with fail
          refine ⟨⟨_, acc ++ (B64.four t.data.toList).take 4, rfl, HB.out, Hb.out, meta_Encode.enc_on t hs1 acc _ hR'.out.2.2⟩, ?_⟩
          show (t.extract (if (t.size : Int) < 3 then (t.size : Int) else 3).toNat t.size).size < t.size
          rw [ByteArray.size_extract]
          split <;> omega
theorem meta_Encode.calls (a0 : ByteArray) (r : ByteArray) (w : World) (h : meta_Encode.f a0 = some r) :
 Calls Tryz.prog 26 #[.string a0] w fun e w' => e = .returned (.string r) ∧ Below w.heap.size w w' := by
 unfold meta_Encode.f at h
 split at h
 · injection h with h
   subst h
   exact meta_Encode.calls_ a0 w (by assumption)
 · cases h

end
end Go.Proofs.YtfboejlemnfndaaGreatDoor.XMt
end
section
namespace Go.Proofs.YtfboejlemnfndaaGreatDoor.XMt
open Go.RowKit Go.Proofs.YtfboejlemnfndaaGreatDoorW.PrintWords Go.Proofs.YtfboejlemnfndaaGreatDoorW.PrintLast Go.Proofs.YtfboejlemnfndaaGreatDoorW.PrintMore
attribute [local go_sem] extract_sub max2_int min2_int max_two min_two max_three min_three max_four min_four   -- for this text's walks alone
set_option linter.unusedVariables false
set_option linter.unusedSimpArgs false

noncomputable section
noncomputable def strconv_FormatUint_80.f (a0 a1 : Int) : Option ByteArray := if 0 ≤ a0 ∧ a0 < 18446744073709551616 ∧ a1 = 10 then some ⟨(Lib.decDigits a0.toNat).toArray⟩ else none
theorem strconv_FormatUint_80.zeros (w : World) (T : TypeId) (nd : Nat) (hs : nd ≤ 24) : Sort.Holds (fun (b : UInt8) => Value.int .u8 (b.toNat : Int)) (w.alloc (.cells Lib.zeros24 T)) w.heap.size 0 (Array.replicate nd (0 : UInt8)) := fun j hj => by
 have hj' : j < nd := by simpa using hj
 refine ⟨?_, World.frozen?_alloc_new _ _ _ _⟩
 rw [World.cell?_alloc_new, Lib.zeros24_at _ (by omega), getElem!_pos _ j hj]
 simp
set_option maxRecDepth 1000000 in
theorem strconv_FormatUint_80.z24 : ∀ w, (zeroValue 137).run Tryz.prog w = .ok (Value.agg Lib.zeros24) w := fun _ => rfl
set_option maxRecDepth 1000000 in
theorem strconv_FormatUint_80.s24 : ∀ w, (Go.sizeOf 137).run Tryz.prog w = .ok 24 w := fun _ => rfl
set_option maxRecDepth 1000000 in
theorem strconv_FormatUint_80.a24 : ∀ w, (isAgg 137).run Tryz.prog w = .ok true w := fun _ => rfl
theorem strconv_FormatUint_80.len24 : Tryz.prog.arrayLen 137 = 24 := by kernel_rfl
set_option maxHeartbeats 4000000 in
set_option maxRecDepth 100000 in
theorem strconv_FormatUint_80.calls (a0 a1 : Int) (r : ByteArray) (w : World) (hv : Vars w) (h : strconv_FormatUint_80.f a0 a1 = some r) :
 Calls Tryz.prog 80 #[.int .u64 a0, .int .i64 a1] w fun e w' => e = .returned (.string r) ∧ Below w.heap.size w w' := by
 unfold strconv_FormatUint_80.f at h
 split at h
 · rename_i hh
   injection h with h
   subst h
   obtain ⟨h0, h1, rfl⟩ := hh
   obtain ⟨u, rfl⟩ : ∃ u : Nat, a0 = u := ⟨a0.toNat, by omega⟩
   rw [Int.toNat_natCast]
   have hu64 : u < 18446744073709551616 := by omega
   by_cases hs : u < 100
   · have hs' : (u : Int) < 100 := by omega
     go_enter Tryz.func80, Tryz.ntmps80
     go_wp2_with (go_at_call 97; refine (Tryz.internal_strconv_small u hs _).mono ?_; rintro e w' ⟨rfl, rfl⟩)
     go_ret
     exact ⟨rfl, Below.refl _ _⟩
   · have hs' : ¬ (u : Int) < 100 := by omega
     have htab := hv.pow10
     have hnd20 : Lib.nDigits u ≤ 20 := by have := Lib.numDigits_eq u (by omega) hu64; split at this <;> omega
     have hnd24 : (Lib.nDigits u : Int) ≤ 24 := by omega
     have hsl1 : ∀ W, (Instr.sliceAt 137 (.pointer (some ⟨w.heap.size, 0, none⟩)) none (some (.int .i64 (Lib.nDigits u : Int))) none).run Tryz.prog W = .ok (.slice (some ⟨w.heap.size, 0, none⟩) (Lib.nDigits u) 24) W := fun W => by
      rw [run_sliceAt_array_h W 137 ⟨w.heap.size, 0, none⟩ (by simp [Program.arrayLen, Program.elem, Tryz.underlying137]) .i64 (Lib.nDigits u : Int) (by omega) (by rw [strconv_FormatUint_80.len24]; omega)]
      rw [strconv_FormatUint_80.len24]
      go_simp
     have hH0 := strconv_FormatUint_80.zeros w 137 (Lib.nDigits u) (by omega)
     have hfmt := Tryz.internal_strconv_formatBase10 w.heap.size 0 24 u (Array.replicate (Lib.nDigits u) 0) (w.alloc (.cells Lib.zeros24 137)) hH0 (by rw [Array.size_replicate]; exact Lib.lt_pow_nDigits u) hu64 (by rw [Array.size_replicate]; omega)
     rw [Array.size_replicate] at hfmt
     have HH0 := Lib.hid hH0
     have HF := Lib.hid hfmt
     have hz24 := strconv_FormatUint_80.z24
     have hs24 := strconv_FormatUint_80.s24
     have ha24 := strconv_FormatUint_80.a24
     clear hH0 hfmt
     go_enter Tryz.func80, Tryz.ntmps80
     go_wp2_with (go_at_call 98; refine (Tryz.internal_strconv_numDigits u (by omega) hu64 _ (Lib.tabIs_alloc htab _)).mono ?_; rintro e w' ⟨rfl, rfl⟩)
     go_at_call 99
     refine HF.out.mono ?_
     rintro e w' ⟨rfl, k, v', dk, rfl, hF⟩
     have hcv : (convert 70 9 (.slice (some ⟨w.heap.size, 0, none⟩) (Lib.nDigits u) 24)).run Tryz.prog ((Sort.putRow (fun (b : UInt8) => Value.int .u8 (b.toNat : Int)) (w.alloc (.cells Lib.zeros24 137)) w.heap.size 0 dk).drewN k) = .ok (.string ⟨(Lib.decDigits u).toArray⟩) ((Sort.putRow (fun (b : UInt8) => Value.int .u8 (b.toNat : Int)) (w.alloc (.cells Lib.zeros24 137)) w.heap.size 0 dk).drewN k) := by
      have h := run_convert_bytes_back (P := Tryz.prog) ((Sort.putRow (fun (b : UInt8) => Value.int .u8 (b.toNat : Int)) (w.alloc (.cells Lib.zeros24 137)) w.heap.size 0 dk).drewN k) 70 9 5 ⟨w.heap.size, 0, none⟩ 24 (Lib.decDigits u) Tryz.underlying70 Tryz.underlying5 Tryz.underlying9 (fun j hj => by
       rw [Lib.row_is_numeral hF j hj, Lib.add_plain, World.cell?_drewN]
       exact Sort.cell?_putRow (fun (b : UInt8) => Value.int .u8 (b.toNat : Int)) _ w.heap.size 0 _ dk HH0.out (by rw [hF.size, Array.size_replicate]) j (by rw [hF.size]; rw [Lib.decDigits_length] at hj; exact hj))
      rw [Lib.decDigits_length] at h
      exact h
     go_wp2
     go_ret
     obtain ⟨os, eo⟩ : ∃ os, (Sort.putRow (fun (b : UInt8) => Value.int .u8 (b.toNat : Int)) (w.alloc (.cells Lib.zeros24 137)) w.heap.size 0 dk).drewN k = Sort.grow (w.drewN k) os := by
      rw [Sort.alloc_eq_grow]
      obtain ⟨os', _, e⟩ := Sort.putRow_grow_new (fun (b : UInt8) => Value.int .u8 (b.toNat : Int)) w #[.cells Lib.zeros24 137] w.heap.size 0 dk (Nat.le_refl _)
      exact ⟨os', by rw [e]; rfl⟩
     refine ⟨rfl, ?_⟩
     rw [eo]
     exact Lib.below_grow _ _ (Nat.le_refl _) _ _
 · cases h

end
end Go.Proofs.YtfboejlemnfndaaGreatDoor.XMt
end
section
namespace Go.Proofs.YtfboejlemnfndaaGreatDoor.XMt
open Go.RowKit Go.Proofs.YtfboejlemnfndaaGreatDoorW.PrintWords Go.Proofs.YtfboejlemnfndaaGreatDoorW.PrintLast Go.Proofs.YtfboejlemnfndaaGreatDoorW.PrintMore
attribute [local go_sem] extract_sub max2_int min2_int max_two min_two max_three min_three max_four min_four   -- for this text's walks alone
set_option linter.unusedVariables false
set_option linter.unusedSimpArgs false

noncomputable section
def strconv_FormatUint_62.f (a0 : Int) (a1 : Int) : Option (ByteArray) := (strconv_FormatUint_80.f a0 a1).bind fun t138 => (some t138)
set_option maxHeartbeats 8000000 in
set_option maxRecDepth 100000 in
theorem strconv_FormatUint_62.calls (a0 : Int) (a1 : Int) (r : ByteArray) (w : World) (hv : Vars w) (h : strconv_FormatUint_62.f a0 a1 = some r) :
 Calls Tryz.prog 62 #[.int .u64 a0, .int .i64 a1] w fun e w' => e = .returned (.string r) ∧ Below w.heap.size w w' := by
 have HV := Aside0.mk hv
 clear hv
 have HB := Aside0.mk (Below.refl w.heap.size w)
 have H : ((strconv_FormatUint_80.f a0 a1).bind fun t138 => (some t138)) = some r := h
 clear h
 replace H := Option.bind_eq_some_iff.mp H
 obtain ⟨t138, A30, H⟩ := H
 replace H : (some t138) = some r := H
 have A3 := Aside0.mk A30
 clear A30
 obtain rfl := Option.some.inj H
 go_enter Tryz.func62, Tryz.ntmps62
 go_wp2_with (first | ((with_reducible refine gate_callee (f := 80) rfl ?_); refine goesL_ (some 7) rfl rfl Tryz.func80 (by kernel_rfl) rfl #[.int .u64 a0, .int .i64 a1] rfl (by (try simp only [List.map_toArray, List.map_cons, List.map_nil]); first | done | rfl | (simp only [List.length_drop, List.length_take]; rfl) | (simp only [IntKind.wrap_u64]; rw [Int.emod_eq_of_lt (by omega) (by omega)]; rfl) | (simp only [ByteArray.size_extract]; done) | (simp only [ByteArray.size_extract]; rfl)) ?_; (with_reducible refine (strconv_FormatUint_80.calls a0 a1 t138 _ ?side1 A3.out).mono ?_); (case side1 => exact Vars.below HV.out (by repeat (first | (with_reducible first | exact HB.out | apply below_alloc | apply pw_below_drewN | apply below_drew1) | exact HB.out))); rintro e w4 ⟨rfl, hb⟩; refine ⟨_, rfl, ?_⟩; have n0_ := Aside0.mk (below_step (by repeat (first | (with_reducible first | exact HB.out | apply below_alloc | apply pw_below_drewN | apply below_drew1) | exact HB.out)) hb); clear HB; have HB := n0_; clear n0_; (try clear hb); (try clear hb2); (try clear hk); (try clear hi)))
 go_ret
 exact ⟨by first | rfl | (simp [errW_none, errW_some] <;> rfl) | (simp [*, errW_none, errW_some] <;> rfl), by repeat (first | (with_reducible first | exact HB.out | apply below_alloc | apply pw_below_drewN | apply below_drew1) | exact HB.out)⟩

def digits_Text.f (a0 : Int) : Option (ByteArray) := (strconv_FormatUint_62.f a0 10).bind fun t139 => (some t139)
set_option maxHeartbeats 8000000 in
set_option maxRecDepth 100000 in
theorem digits_Text.calls (a0 : Int) (r : ByteArray) (w : World) (hv : Vars w) (h : digits_Text.f a0 = some r) :
 Calls Tryz.prog 30 #[.int .u64 a0] w fun e w' => e = .returned (.string r) ∧ Below w.heap.size w w' := by
 have HV := Aside0.mk hv
 clear hv
 have HB := Aside0.mk (Below.refl w.heap.size w)
 have H : ((strconv_FormatUint_62.f a0 10).bind fun t139 => (some t139)) = some r := h
 clear h
 replace H := Option.bind_eq_some_iff.mp H
 obtain ⟨t139, A20, H⟩ := H
 replace H : (some t139) = some r := H
 have A2 := Aside0.mk A20
 clear A20
 obtain rfl := Option.some.inj H
 go_enter Tryz.func30, Tryz.ntmps30
 go_wp2_with (first | ((with_reducible refine gate_callee (f := 62) rfl ?_); refine goesL_ (some 4) rfl rfl Tryz.func62 (by kernel_rfl) rfl #[.int .u64 a0, .int .i64 10] rfl (by (try simp only [List.map_toArray, List.map_cons, List.map_nil]); first | done | rfl | (simp only [List.length_drop, List.length_take]; rfl) | (simp only [IntKind.wrap_u64]; rw [Int.emod_eq_of_lt (by omega) (by omega)]; rfl) | (simp only [ByteArray.size_extract]; done) | (simp only [ByteArray.size_extract]; rfl)) ?_; (with_reducible refine (strconv_FormatUint_62.calls a0 10 t139 _ ?side1 A2.out).mono ?_); (case side1 => exact Vars.below HV.out (by repeat (first | (with_reducible first | exact HB.out | apply below_alloc | apply pw_below_drewN | apply below_drew1) | exact HB.out))); rintro e w3 ⟨rfl, hb⟩; refine ⟨_, rfl, ?_⟩; have n0_ := Aside0.mk (below_step (by repeat (first | (with_reducible first | exact HB.out | apply below_alloc | apply pw_below_drewN | apply below_drew1) | exact HB.out)) hb); clear HB; have HB := n0_; clear n0_; (try clear hb); (try clear hb2); (try clear hk); (try clear hi)))
 go_ret
 exact ⟨by first | rfl | (simp [errW_none, errW_some] <;> rfl) | (simp [*, errW_none, errW_some] <;> rfl), by repeat (first | (with_reducible first | exact HB.out | apply below_alloc | apply pw_below_drewN | apply below_drew1) | exact HB.out)⟩

end
end Go.Proofs.YtfboejlemnfndaaGreatDoor.XMt
end
section
namespace Go.Proofs.YtfboejlemnfndaaGreatDoor.XMt
open Go.RowKit Go.Proofs.YtfboejlemnfndaaGreatDoorW.PrintWords Go.Proofs.YtfboejlemnfndaaGreatDoorW.PrintLast Go.Proofs.YtfboejlemnfndaaGreatDoorW.PrintMore
attribute [local go_sem] extract_sub max2_int min2_int max_two min_two max_three min_three max_four min_four   -- for this text's walks alone
set_option linter.unusedVariables false
set_option linter.unusedSimpArgs false

noncomputable section
def strings_Join.f (a0 : List ByteArray) (a1 : ByteArray) : Option ByteArray :=
 if a0.length ≤ 140737488355328 ∧ (Lib.join (a0.map (·.data.toList)) a1.data.toList).length ≤ 140737488355328 then some ⟨(Lib.join (a0.map (·.data.toList)) a1.data.toList).toArray⟩ else none
theorem strings_Join.spot (w : World) (ad : Addr) (v : Value) (h : w.cell? ad = some v) : ad.spot = none ∧ ad.block < w.heap.size := by
 refine ⟨?_, cell_lt h⟩
 unfold World.cell? at h
 split at h
 · split at h
   · cases h
   · rename_i hs; simpa using hs
 · cases h
theorem strings_Join.calls (A0 : Option Addr) (c0 : Nat) (l0 : List ByteArray) (a1 : ByteArray) (r : ByteArray) (w : World) (hr0 : Kd.C Kd.string w A0 l0.length l0) (hc0 : l0.length ≤ c0) (h : strings_Join.f l0 a1 = some r) :
 Calls Tryz.prog 31 #[.slice A0 l0.length c0, .string a1] w fun e w' => e = .returned (.string r) ∧ Below w.heap.size w w' := by
 unfold strings_Join.f at h
 split at h
 · rename_i hh
   injection h with h
   subst h
   cases l0 with
   | nil => exact (Tryz.strings_Join_none A0 c0 a1 w).mono fun e w' ⟨he, hw⟩ => ⟨he, hw ▸ Below.refl _ _⟩
   | cons x rest =>
    obtain ⟨_, _, hA⟩ := hr0
    obtain ⟨ad, rfl, hcell⟩ := hA (by simp)
    have one : ∀ (j : Nat) y, (x :: rest)[j]? = some y → w.cell? (ad.add j) = some (.string y) := by
     intro j y hy
     obtain ⟨c, _, hK, hu⟩ := hcell j y hy
     have hK' : c = [.string y] := hK
     subst hK'
     have e := hu 0 (.string y) rfl
     have es : Kd.string.sz = 1 := rfl
     rw [es, Nat.mul_one, Nat.add_zero] at e
     exact e
    have h0 := one 0 x rfl
    rw [show ad.add 0 = ad from by unfold Addr.add; rw [if_pos rfl]] at h0
    obtain ⟨hs, hb⟩ := strings_Join.spot w ad _ h0
    obtain ⟨b, o, s⟩ := ad
    obtain rfl : s = none := hs
    exact Tryz.strings_Join b o c0 (x :: rest) a1 w (fun j y hy => by rw [← Lib.add_plain]; exact one j y hy) hb hh.1 hc0 hh.2
 · cases h

end
end Go.Proofs.YtfboejlemnfndaaGreatDoor.XMt
end
section
namespace Go.Proofs.YtfboejlemnfndaaGreatDoor.XMt
open Go.RowKit Go.Proofs.YtfboejlemnfndaaGreatDoorW.PrintWords Go.Proofs.YtfboejlemnfndaaGreatDoorW.PrintLast Go.Proofs.YtfboejlemnfndaaGreatDoorW.PrintMore
attribute [local go_sem] extract_sub max2_int min2_int max_two min_two max_three min_three max_four min_four   -- for this text's walks alone
set_option linter.unusedVariables false
set_option linter.unusedSimpArgs false

noncomputable section
mutual
def meta_Write.j0 : Nat → List ByteArray → Int → ByteArray → Int → List (S61) → Option (ByteArray × Int)
 | 0, _, _, _, _, _ => none
 | k + 1, x5, x141000, x141001, x141002, x141003 => if x141000 = 2 then ((digits_Text.f (IntKind.u64.wrap (x141002))).bind fun t158 => (if x5.length < 8796093022208 then (meta_Write.j1 k (x5 ++ [t158]) x141000 x141001 x141002 x141003) else (none))) else (meta_Write.j1 k x5 x141000 x141001 x141002 x141003)
def meta_Write.j1 : Nat → List ByteArray → Int → ByteArray → Int → List (S61) → Option (ByteArray × Int)
 | 0, _, _, _, _, _ => none
 | k + 1, x5, x141000, x141001, x141002, x141003 => meta_Write.l0 k x5 x141003 (x141003.length : Int) 0
def meta_Write.l0 : Nat → List ByteArray → List (S61) → Int → Int → Option (ByteArray × Int)
 | 0, _, _, _, _ => none
 | k + 1, x5, x52, x53, x54 => if x54 < x53 then (if 0 ≤ x54 then (if x54 < (x52.length : Int) then (if (Utf8.encode (wrap32 ((rd_T61 x52 x54).f0))).size + ((rd_T61 x52 x54).f1).size ≤ 9223372036854775807 then (if x5.length < 8796093022208 then (meta_Write.l0 k (x5 ++ [(Utf8.encode (wrap32 ((rd_T61 x52 x54).f0))) ++ ((rd_T61 x52 x54).f1)]) x52 x53 (wrap64 (x54 + 1))) else (none)) else (none)) else (none)) else (none)) else ((strings_Join.f x5 (⟨#[32]⟩ : ByteArray)).bind fun t167 => (if (t167.size : Int) > 160 then (some ((⟨#[]⟩ : ByteArray), 7)) else (some (t167, 0))))
end
def meta_Write.f (k : Nat) (a0_0 : Int) (a0_1 : ByteArray) (a0_2 : Int) (l0_3 : List (S61)) : Option (ByteArray × Int) := (meta_shape.f k a0_0 a0_1 a0_2 l0_3).bind fun t141 => (if t141 = 0 then ((meta_ops.f).bind fun t142 => (if 0 ≤ a0_0 then (if a0_0 < (t142.length : Int) then ((some (([(rd_T63 t142 a0_0).f0] : List ByteArray) : List ByteArray)).bind fun y146 => (if a0_0 = 5 then (meta_Write.j0 k y146 a0_0 a0_1 a0_2 l0_3) else ((meta_Find.f a0_0 a0_1 a0_2 l0_3 98).bind fun bt149 => (if bt149.2 = true then ((meta_Encode.f a0_1).bind fun t151 => (if y146.length < 8796093022208 then (meta_Write.j0 k (y146 ++ [t151]) a0_0 a0_1 a0_2 l0_3) else (none))) else (if y146.length < 8796093022208 then (meta_Write.j0 k (y146 ++ [a0_1]) a0_0 a0_1 a0_2 l0_3) else (none)))))) else (none)) else (none))) else (some ((⟨#[]⟩ : ByteArray), t141)))
theorem meta_Write.mono_l : ∀ k, (∀ y0 y1 y2 y3 y4, LeO (meta_Write.j0 k y0 y1 y2 y3 y4) (meta_Write.j0 (k + 1) y0 y1 y2 y3 y4)) ∧ (∀ y0 y1 y2 y3 y4, LeO (meta_Write.j1 k y0 y1 y2 y3 y4) (meta_Write.j1 (k + 1) y0 y1 y2 y3 y4)) ∧ (∀ y0 y1 y2 y3, LeO (meta_Write.l0 k y0 y1 y2 y3) (meta_Write.l0 (k + 1) y0 y1 y2 y3))
 | 0 => ⟨fun _ _ _ _ _ r h => by simp [meta_Write.j0] at h, fun _ _ _ _ _ r h => by simp [meta_Write.j1] at h, fun _ _ _ _ r h => by simp [meta_Write.l0] at h⟩
 | k + 1 => by
  obtain ⟨ih0, ih1, ih2⟩ := meta_Write.mono_l k
  refine ⟨?_, ?_, ?_⟩
  · intro y0 y1 y2 y3 y4
    unfold meta_Write.j0
    repeat' first
    | (with_reducible exact ih0 _ _ _ _ _)
    | (with_reducible exact ih1 _ _ _ _ _)
    | (with_reducible exact ih2 _ _ _ _)
    | (with_reducible exact meta_shape.mono _ _ _ _ _)
    | (with_reducible exact LeO.refl _)
    | (with_reducible exact LeO.none _)
    | (with_reducible refine LeO.ite ?_ ?_)
    | (with_reducible refine LeO.bind ?_ (fun _ => ?_))
    | exact ih0 _ _ _ _ _
    | exact ih1 _ _ _ _ _
    | exact ih2 _ _ _ _
    | exact meta_shape.mono _ _ _ _ _
    | exact LeO.none _
    | refine LeO.ite ?_ ?_
    | refine LeO.bind ?_ (fun _ => ?_)
  · intro y0 y1 y2 y3 y4
    unfold meta_Write.j1
    repeat' first
    | (with_reducible exact ih0 _ _ _ _ _)
    | (with_reducible exact ih1 _ _ _ _ _)
    | (with_reducible exact ih2 _ _ _ _)
    | (with_reducible exact meta_shape.mono _ _ _ _ _)
    | (with_reducible exact LeO.refl _)
    | (with_reducible exact LeO.none _)
    | (with_reducible refine LeO.ite ?_ ?_)
    | (with_reducible refine LeO.bind ?_ (fun _ => ?_))
    | exact ih0 _ _ _ _ _
    | exact ih1 _ _ _ _ _
    | exact ih2 _ _ _ _
    | exact meta_shape.mono _ _ _ _ _
    | exact LeO.none _
    | refine LeO.ite ?_ ?_
    | refine LeO.bind ?_ (fun _ => ?_)
  · intro y0 y1 y2 y3
    unfold meta_Write.l0
    repeat' first
    | (with_reducible exact ih0 _ _ _ _ _)
    | (with_reducible exact ih1 _ _ _ _ _)
    | (with_reducible exact ih2 _ _ _ _)
    | (with_reducible exact meta_shape.mono _ _ _ _ _)
    | (with_reducible exact LeO.refl _)
    | (with_reducible exact LeO.none _)
    | (with_reducible refine LeO.ite ?_ ?_)
    | (with_reducible refine LeO.bind ?_ (fun _ => ?_))
    | exact ih0 _ _ _ _ _
    | exact ih1 _ _ _ _ _
    | exact ih2 _ _ _ _
    | exact meta_shape.mono _ _ _ _ _
    | exact LeO.none _
    | refine LeO.ite ?_ ?_
    | refine LeO.bind ?_ (fun _ => ?_)
theorem meta_Write.mono : ∀ a0 a1 a2 a3 k, LeO (meta_Write.f k a0 a1 a2 a3) (meta_Write.f (k + 1) a0 a1 a2 a3) := by
 intro a0 a1 a2 a3 k
 obtain ⟨ih0, ih1, ih2⟩ := meta_Write.mono_l k
 unfold meta_Write.f
 repeat' first
  | (with_reducible exact ih0 _ _ _ _ _)
  | (with_reducible exact ih1 _ _ _ _ _)
  | (with_reducible exact ih2 _ _ _ _)
  | (with_reducible exact meta_shape.mono _ _ _ _ _)
  | (with_reducible exact LeO.refl _)
  | (with_reducible exact LeO.none _)
  | (with_reducible refine LeO.ite ?_ ?_)
  | (with_reducible refine LeO.bind ?_ (fun _ => ?_))
  | exact ih0 _ _ _ _ _
  | exact ih1 _ _ _ _ _
  | exact ih2 _ _ _ _
  | exact meta_shape.mono _ _ _ _ _
  | exact LeO.none _
  | refine LeO.ite ?_ ?_
  | refine LeO.bind ?_ (fun _ => ?_)
def meta_Write.T4 : Bool × List (List Nat × List Nat) := (true, [([], []), ([], []), ([1], [1]), ([0, 2], [0, 2]), ([3], [3]), ([4], [4]), ([5], [5]), ([6, 0, 0, 1, 2, 3, 4, 5, 6], [6])])
def meta_Write.B4 : List Nat := [0, 0, 2, 7, 15, 31, 63, 127]
theorem meta_Write.tab4 : rtab .any (opsOf Tryz.f10 4) = meta_Write.T4 := by kernel_rfl
theorem meta_Write.bits4 : waitsOk meta_Write.T4.2 meta_Write.B4 = true := by kernel_rfl
set_option maxHeartbeats 8000000 in
set_option maxRecDepth 100000 in
theorem meta_Write.calls (k : Nat) (a0_0 : Int) (a0_1 : ByteArray) (a0_2 : Int) (A0_3 : Option Addr) (c0_3 : Nat) (l0_3 : List (S61)) (r1 : ByteArray) (r2 : Int) (w : World) (hr0_3 : Kd.C k61 w A0_3 l0_3.length l0_3) (hc0_3 : l0_3.length ≤ c0_3) (hv : Vars w) (h : meta_Write.f k a0_0 a0_1 a0_2 l0_3 = some (r1, r2)) :
 Calls Tryz.prog 10 #[.agg #[.int .i64 a0_0, .string a0_1, .int .i64 a0_2, .slice A0_3 l0_3.length c0_3]] w fun e w' => e = .returned (.tuple #[.string r1, .int .i64 r2]) ∧ Below w.heap.size w w' := by
 have hu31 := Tryz.underlying31
 have hu61 := Tryz.underlying61
 have HV := Aside0.mk hv
 clear hv
 have HR0_3 := Aside0.mk hr0_3
 have HC0_3 := Aside0.mk hc0_3
 clear hr0_3 hc0_3
 have HB := Aside0.mk (Below.refl w.heap.size w)
 have H : ((meta_shape.f k a0_0 a0_1 a0_2 l0_3).bind fun t141 => (if t141 = 0 then ((meta_ops.f).bind fun t142 => (if 0 ≤ a0_0 then (if a0_0 < (t142.length : Int) then ((some (([(rd_T63 t142 a0_0).f0] : List ByteArray) : List ByteArray)).bind fun y146 => (if a0_0 = 5 then (meta_Write.j0 k y146 a0_0 a0_1 a0_2 l0_3) else ((meta_Find.f a0_0 a0_1 a0_2 l0_3 98).bind fun bt149 => (if bt149.2 = true then ((meta_Encode.f a0_1).bind fun t151 => (if y146.length < 8796093022208 then (meta_Write.j0 k (y146 ++ [t151]) a0_0 a0_1 a0_2 l0_3) else (none))) else (if y146.length < 8796093022208 then (meta_Write.j0 k (y146 ++ [a0_1]) a0_0 a0_1 a0_2 l0_3) else (none)))))) else (none)) else (none))) else (some ((⟨#[]⟩ : ByteArray), t141)))) = some (r1, r2) := h
 clear h
 replace H := Option.bind_eq_some_iff.mp H
 obtain ⟨t141, A20, H⟩ := H
 replace H : (if t141 = 0 then ((meta_ops.f).bind fun t142 => (if 0 ≤ a0_0 then (if a0_0 < (t142.length : Int) then ((some (([(rd_T63 t142 a0_0).f0] : List ByteArray) : List ByteArray)).bind fun y146 => (if a0_0 = 5 then (meta_Write.j0 k y146 a0_0 a0_1 a0_2 l0_3) else ((meta_Find.f a0_0 a0_1 a0_2 l0_3 98).bind fun bt149 => (if bt149.2 = true then ((meta_Encode.f a0_1).bind fun t151 => (if y146.length < 8796093022208 then (meta_Write.j0 k (y146 ++ [t151]) a0_0 a0_1 a0_2 l0_3) else (none))) else (if y146.length < 8796093022208 then (meta_Write.j0 k (y146 ++ [a0_1]) a0_0 a0_1 a0_2 l0_3) else (none)))))) else (none)) else (none))) else (some ((⟨#[]⟩ : ByteArray), t141))) = some (r1, r2) := H
 have A2 := Aside0.mk A20
 clear A20
 by_cases c3 : t141 = 0
 · rw [if_pos c3] at H
   have c3b0 : (t141 == 0) = true := beq_iff_eq.mpr c3
   have c3b1 : (t141 != 0) = false := bne_eq_false_iff_eq.mpr c3
   clear c3
   replace H := Option.bind_eq_some_iff.mp H
   obtain ⟨t142, A40, H⟩ := H
   replace H : (if 0 ≤ a0_0 then (if a0_0 < (t142.length : Int) then ((some (([(rd_T63 t142 a0_0).f0] : List ByteArray) : List ByteArray)).bind fun y146 => (if a0_0 = 5 then (meta_Write.j0 k y146 a0_0 a0_1 a0_2 l0_3) else ((meta_Find.f a0_0 a0_1 a0_2 l0_3 98).bind fun bt149 => (if bt149.2 = true then ((meta_Encode.f a0_1).bind fun t151 => (if y146.length < 8796093022208 then (meta_Write.j0 k (y146 ++ [t151]) a0_0 a0_1 a0_2 l0_3) else (none))) else (if y146.length < 8796093022208 then (meta_Write.j0 k (y146 ++ [a0_1]) a0_0 a0_1 a0_2 l0_3) else (none)))))) else (none)) else (none)) = some (r1, r2) := H
   have A4 := Aside0.mk A40
   clear A40
   by_cases c5 : 0 ≤ a0_0
   · rw [if_pos c5] at H
     have c5b0 : decide (0 ≤ a0_0) = true := decide_eq_true c5
     clear c5
     by_cases c6 : a0_0 < (t142.length : Int)
     · rw [if_pos c6] at H
       have c6b0 : decide (a0_0 < (t142.length : Int)) = true := decide_eq_true c6
       clear c6
       obtain ⟨y146, hy146⟩ : ∃ y_ : List ByteArray, y_ = (([(rd_T63 t142 a0_0).f0] : List ByteArray)) := ⟨_, rfl⟩
       replace H : (if a0_0 = 5 then (meta_Write.j0 k y146 a0_0 a0_1 a0_2 l0_3) else ((meta_Find.f a0_0 a0_1 a0_2 l0_3 98).bind fun bt149 => (if bt149.2 = true then ((meta_Encode.f a0_1).bind fun t151 => (if y146.length < 8796093022208 then (meta_Write.j0 k (y146 ++ [t151]) a0_0 a0_1 a0_2 l0_3) else (none))) else (if y146.length < 8796093022208 then (meta_Write.j0 k (y146 ++ [a0_1]) a0_0 a0_1 a0_2 l0_3) else (none))))) = some (r1, r2) := by first | (rw [hy146]; with_reducible exact H) | (have H2_ := (Option.bind_some _ _).symm.trans H; rw [hy146]; with_reducible exact H2_) | (have H2_ := (Option.bind_some _ _).symm.trans H; with_reducible exact H2_) | with_reducible exact H | (rw [hy146]; exact H) | exact H
       have Ny146 := Aside0.mk hy146
       clear hy146
       have HC7 := Aside0.mk H
       clear H
       go_enter Tryz.func10, Tryz.ntmps10
       try go_wp2_with (first | ((with_reducible refine gate_dst (N := 1) rfl ?_); refine box_event ?hg (N := 1) ?hd (cs := #[.int .i64 a0_0, .string a0_1, .int .i64 a0_2, .slice A0_3 l0_3.length c0_3]) (t := 31) ?hr ?_; (case hd => rfl); (case hg => rfl); (case hr => first | (go_simp; done) | (go_simp; rfl)); intro gb140 hg w8 hbox hb; have n0_ := Aside0.mk (below_step (by repeat (first | (with_reducible first | exact HB.out | apply below_alloc | apply pw_below_drewN | apply below_drew1) | exact HB.out)) hb); have n1_ := Aside0.mk (hbox); have n2_ := Aside0.mk ((by rw [hg]; exact (below_size (by repeat (first | (with_reducible first | exact HB.out | apply below_alloc | apply pw_below_drewN | apply below_drew1) | exact HB.out))) : w.heap.size ≤ gb140)); have n3_ := Aside0.mk ((by rw [hg]; exact (below_size (by repeat (first | (with_reducible first | exact HB.out | apply below_alloc | apply pw_below_drewN | apply below_drew1) | exact HB.out))) : w.heap.size ≤ gb140)); clear HB; have HB := n0_; have BK140 := n1_; have GW140 := n2_; have GE140 := n3_; clear n0_ n1_ n2_ n3_; clear hb hbox hg; have hcz9_0 : w8.cell? ⟨gb140, 0, none⟩ = some (.int .i64 a0_0) := (blk_cell BK140.out 0).trans rfl; have hcz9_1 : w8.cell? ⟨gb140, 1, none⟩ = some (.string a0_1) := (blk_cell BK140.out 1).trans rfl; have hcz9_2 : w8.cell? ⟨gb140, 2, none⟩ = some (.int .i64 a0_2) := (blk_cell BK140.out 2).trans rfl; have hcz9_3 : w8.cell? ⟨gb140, 3, none⟩ = some (.slice A0_3 l0_3.length c0_3) := (blk_cell BK140.out 3).trans rfl; have hfz9_0 := blk_frozen BK140.out 0; have hfz9_1 := blk_frozen BK140.out 1; have hfz9_2 := blk_frozen BK140.out 2; have hfz9_3 := blk_frozen BK140.out 3) | ((with_reducible refine gate_callee (f := 28) rfl ?_); refine goesL_ (some 13) rfl rfl Tryz.func28 (by kernel_rfl) rfl #[.agg #[.int .i64 a0_0, .string a0_1, .int .i64 a0_2, .slice A0_3 l0_3.length c0_3]] rfl (by (try simp only [List.map_toArray, List.map_cons, List.map_nil]); first | done | rfl | (simp only [List.length_drop, List.length_take]; rfl) | (simp only [IntKind.wrap_u64]; rw [Int.emod_eq_of_lt (by omega) (by omega)]; rfl) | (simp only [ByteArray.size_extract]; done) | (simp only [ByteArray.size_extract]; rfl)) ?_; (with_reducible refine (meta_shape.calls k a0_0 a0_1 a0_2 _ _ l0_3 t141 _ ?side1 ?side2 ?side3 A2.out).mono ?_); (case side1 => repeat (first | exact (Kd.C_below HR0_3.out HB.out) | (with_reducible refine Kd.C_alloc ?_ _) | (with_reducible refine Kd.C_drewN ?_ _) | (with_reducible refine Kd.C_drew ?_))); (case side2 => exact HC0_3.out); (case side3 => exact Vars.below HV.out (by repeat (first | (with_reducible first | exact HB.out | apply below_alloc | apply pw_below_drewN | apply below_drew1 | refine below_set ?_ GE140.out) | exact HB.out))); rintro e w10 ⟨rfl, hb⟩; refine ⟨_, rfl, ?_⟩; have n0_ := Aside0.mk (blk_below (g := gb140) (o := .cells #[.int .i64 a0_0, .string a0_1, .int .i64 a0_2, .slice A0_3 l0_3.length c0_3] 31 (0, 0)) (by (with_reducible repeat (first | refine blk_drewN ?_ _ | refine blk_drew ?_ | refine blk_alloc ?_ _)); exact BK140.out) hb); have n1_ := Aside0.mk (below_step (by repeat (first | (with_reducible first | exact HB.out | apply below_alloc | apply pw_below_drewN | apply below_drew1 | refine below_set ?_ GE140.out) | exact HB.out)) hb); clear BK140; clear HB; have BK140 := n0_; have HB := n1_; clear n0_ n1_; (try clear hb); (try clear hb2); (try clear hk); (try clear hi)))
       have n0_ := Aside0.mk (blk_drew BK140.out)
       have n1_ := Aside0.mk (below_drew1 HB.out)
       clear BK140
       clear HB
       have BK140 := n0_
       have HB := n1_
       clear n0_ n1_
       refine start_ (n := 8) (S := fun w' => w'.cell? ⟨gb140, 0, none⟩ = some (.int .i64 a0_0) ∧ w'.cell? ⟨gb140, 1, none⟩ = some (.string a0_1) ∧ w'.cell? ⟨gb140, 2, none⟩ = some (.int .i64 a0_2) ∧ w'.cell? ⟨gb140, 3, none⟩ = some (.slice A0_3 l0_3.length c0_3)) (ds := []) #[false, false, false, false, false, false, false, false] (by kernel_rfl) rfl rfl ⟨(blk_cell BK140.out 0).trans rfl, (blk_cell BK140.out 1).trans rfl, (blk_cell BK140.out 2).trans rfl, (blk_cell BK140.out 3).trans rfl⟩ (fun hHeld => ?_); refine with_tabW meta_Write.tab4 meta_Write.bits4 (fun HT_ HW_ => ?_)
       generalize w10.drew = w11 at BK140 HB hHeld ⊢
       refine pure_ (i := 1) (N := some 18) (v := ?_) (a' := ?_) #[false, true, false, false, false, false, false, false] rfl rfl (any_of HT_.out (by kernel_rfl)) (fun _ _ _ h => h) (Or.inl ⟨by rfl, ?_⟩) ?_ ?_
       rotate_left
       · intro w'
         go_simp
         with_reducible rfl
       rotate_left
       · simp only [Act.put, List.setIfInBounds_toArray, List.set_cons_zero, List.set_cons_succ, i64_w, i32_w]
         rfl
       refine take_ (i := 2) (N := some 19) (v := ?_) (a' := ?_) #[false, true, true, false, false, false, false, false] rfl rfl (take_ofW HT_.out HW_.out (by kernel_rfl)) (fun _ _ _ h => h) (Or.inl ⟨by rfl, ?_⟩) hHeld ?_ ?_
       rotate_left
       · rintro w' ⟨s0, s1, s2, s3⟩
         go_simp
         with_reducible rfl
       rotate_left
       · simp only [Act.put, List.setIfInBounds_toArray, List.set_cons_zero, List.set_cons_succ, i64_w, i32_w]
         rfl
       refine one_ (i := 0) (N := some 17) #[true, true, true, false, false, false, false, false] rfl rfl (one_of HT_.out (by kernel_rfl)) (by decide) (fun K hK => ?_)
       refine goes_ Tryz.func29 (by kernel_rfl) rfl #[] (by rfl) rfl rfl (by (try simp only [List.map_toArray, List.map_cons, List.map_nil]); first | done | rfl | (simp only [List.length_drop, List.length_take]; rfl) | (simp only [IntKind.wrap_u64]; rw [Int.emod_eq_of_lt (by omega) (by omega)]; rfl) | (simp only [ByteArray.size_extract]; done) | (simp only [ByteArray.size_extract]; rfl)) ?_
       with_reducible refine (meta_ops.calls  t142 _ A4.out).mono ?_
       rintro e w12 ⟨v143, rfl, ho0, hb⟩
       refine ⟨_, rfl, ?_⟩
       have n0_ := Aside0.mk (Kd.R_lower ho0 (below_size (by repeat (first | (with_reducible first | exact HB.out | apply below_alloc | apply pw_below_drewN | apply below_drew1 | refine below_set ?_ GE140.out) | exact HB.out))))
       have n1_ := Aside0.mk (blk_below (g := gb140) (o := .cells #[.int .i64 a0_0, .string a0_1, .int .i64 a0_2, .slice A0_3 l0_3.length c0_3] 31 (0, 0)) (by (with_reducible repeat (first | refine blk_drewN ?_ _ | refine blk_drew ?_ | refine blk_alloc ?_ _)); exact BK140.out) hb)
       have n2_ := Aside0.mk (below_step (by repeat (first | (with_reducible first | exact HB.out | apply below_alloc | apply pw_below_drewN | apply below_drew1 | refine below_set ?_ GE140.out) | exact HB.out)) hb)
       clear BK140
       clear HB
       have HO144 := n0_
       have BK140 := n1_
       have HB := n2_
       clear n0_ n1_ n2_
       (try clear hb)
       (try clear hb2)
       (try clear hk)
       (try clear hi)
       (try clear ho0)
       obtain ⟨Ao13, co13, eo13⟩ := Kd.R_slice HO144.out
       (first | subst eo13 | (injection eo13 with f1_ f2_ f3_; have f4_ := f1_.symm; have f5_ := f3_.symm; clear f1_ f2_ f3_; subst f4_; subst f5_))
       have p145 : 0 ≤ (a0_0 : Int) := of_decide_eq_true (by first | (with_reducible assumption) | assumption)
       have q145 : a0_0 < (t142.length : Int) := of_decide_eq_true (by first | (with_reducible assumption) | assumption)
       obtain ⟨ad145, e145, hx145_0, hx145_1⟩ := at_T63 (Kd.R_reads' HO144.out).2.2 a0_0 p145 q145
       cases e145
       replace p145 := eq_true p145
       replace q145 := eq_true q145
       refine hK.out _ _ ⟨(blk_cell BK140.out 0).trans rfl, (blk_cell BK140.out 1).trans rfl, (blk_cell BK140.out 2).trans rfl, (blk_cell BK140.out 3).trans rfl⟩ (fun hHeld => ?_)
       clear hK K
       refine norm_ (a' := ?_) ?_ ?_
       rotate_left
       · show Act.put _ (some 17) _ = _
         simp only [Act.put, List.setIfInBounds_toArray, List.set_cons_zero, List.set_cons_succ, i64_w, i32_w]
         rfl
       refine pure_ (i := 3) (N := some 20) (v := ?_) (a' := ?_) #[true, true, true, true, false, false, false, false] rfl rfl (any_of HT_.out (by kernel_rfl)) (fun _ _ _ h => h) (Or.inl ⟨by rfl, ?_⟩) ?_ ?_
       rotate_left
       · intro w'
         go_simp
         with_reducible rfl
       rotate_left
       · simp only [Act.put, List.setIfInBounds_toArray, List.set_cons_zero, List.set_cons_succ, i64_w, i32_w]
         rfl
       refine pure_ (i := 4) (N := some 21) (v := ?_) (a' := ?_) #[true, true, true, true, true, false, false, false] rfl rfl (any_of HT_.out (by kernel_rfl)) (fun _ _ _ h => h) (Or.inl ⟨by rfl, ?_⟩) ?_ ?_
       rotate_left
       · intro w'
         go_simp
         with_reducible rfl
       rotate_left
       · simp only [Act.put, List.setIfInBounds_toArray, List.set_cons_zero, List.set_cons_succ, i64_w, i32_w]
         rfl
       refine one_ (i := 5) (N := some 22) #[true, true, true, true, true, true, false, false] rfl rfl (one_of HT_.out (by kernel_rfl)) (by decide) (fun K hK => ?_)
       refine read_step (v := ?_) rfl ?_ ?_
       rotate_left
       · go_simp
         with_reducible rfl
       refine hK.out _ _ ⟨(blk_cell BK140.out 0).trans rfl, (blk_cell BK140.out 1).trans rfl, (blk_cell BK140.out 2).trans rfl, (blk_cell BK140.out 3).trans rfl⟩ (fun hHeld => ?_)
       clear hK K
       refine norm_ (a' := ?_) ?_ ?_
       rotate_left
       · show Act.put _ (some 22) _ = _
         simp only [Act.put, List.setIfInBounds_toArray, List.set_cons_zero, List.set_cons_succ, i64_w, i32_w]
         rfl
       refine one_ (i := 6) (N := some 23) #[true, true, true, true, true, true, true, false] rfl rfl (one_of HT_.out (by kernel_rfl)) (by decide) (fun K hK => ?_)
       refine Kd.R_lit_step Kd.string _ 9 ?hg (N := 23) ?hd (xs := ([(rd_T63 t142 a0_0).f0] : List ByteArray)) (inner := [.string ((rd_T63 t142 a0_0).f0)]) (ok := fun _ => True) (okp := fun _ => True) ?hr ?hp (fun _ hk => hk) trivial (Below.refl _ _) (Nat.le_refl _) (by simp) ?_; (case hd => rfl); (case hg => rfl); (case hr => first | (go_simp; done) | (go_simp; rfl)); (case hp => exact (Reps.one (show Kd.M Kd.string _ _ _ ((rd_T63 t142 a0_0).f0) [.string ((rd_T63 t142 a0_0).f0)] from rfl) (Reps.none _ _)))
       intro v147 w14 ho15 hb hg_ hnew_
       clear hg_ hnew_
       (first | rw [← Ny146.out] at ho15 | (simp only [Int.reduceToNat] at ho15; rw [← Ny146.out] at ho15))
       have n0_ := Aside0.mk (Kd.R_below (by (with_reducible repeat (first | apply Kd.R_alloc | apply Kd.R_drewN | apply Kd.R_drew)); exact HO144.out) hb)
       have n1_ := Aside0.mk (Kd.R_lower ho15 (below_size (by repeat (first | (with_reducible first | exact HB.out | apply below_alloc | apply pw_below_drewN | apply below_drew1 | refine below_set ?_ GE140.out) | exact HB.out))))
       have n2_ := Aside0.mk (blk_below (g := gb140) (o := .cells #[.int .i64 a0_0, .string a0_1, .int .i64 a0_2, .slice A0_3 l0_3.length c0_3] 31 (0, 0)) (by (with_reducible repeat (first | refine blk_drewN ?_ _ | refine blk_drew ?_ | refine blk_alloc ?_ _)); exact BK140.out) hb)
       have n3_ := Aside0.mk (below_step (by repeat (first | (with_reducible first | exact HB.out | apply below_alloc | apply pw_below_drewN | apply below_drew1 | refine below_set ?_ GE140.out) | exact HB.out)) hb)
       clear HO144
       clear BK140
       clear HB
       have HO144 := n0_
       have HO148 := n1_
       have BK140 := n2_
       have HB := n3_
       clear n0_ n1_ n2_ n3_
       clear hb ho15
       refine hK.out _ _ ⟨(blk_cell BK140.out 0).trans rfl, (blk_cell BK140.out 1).trans rfl, (blk_cell BK140.out 2).trans rfl, (blk_cell BK140.out 3).trans rfl⟩ (fun hHeld => ?_)
       clear hK K
       refine norm_ (a' := ?_) ?_ ?_
       rotate_left
       · show Act.put _ (some 23) _ = _
         simp only [Act.put, List.setIfInBounds_toArray, List.set_cons_zero, List.set_cons_succ, i64_w, i32_w]
         rfl
       refine pure_ (i := 7) (N := some 5) (v := ?_) (a' := ?_) #[true, true, true, true, true, true, true, true] rfl rfl (any_of HT_.out (by kernel_rfl)) (fun _ _ _ h => h) (Or.inl ⟨by rfl, ?_⟩) ?_ ?_
       rotate_left
       · intro w'
         go_simp
         with_reducible rfl
       rotate_left
       · simp only [Act.put, List.setIfInBounds_toArray, List.set_cons_zero, List.set_cons_succ, i64_w, i32_w]
         rfl
       refine done_ (done_of HT_.out (by kernel_rfl)) ?_
       have hcz16_0 : w14.cell? ⟨gb140, 0, none⟩ = some (.int .i64 a0_0) := (blk_cell BK140.out 0).trans rfl
       have hcz16_1 : w14.cell? ⟨gb140, 1, none⟩ = some (.string a0_1) := (blk_cell BK140.out 1).trans rfl
       have hcz16_2 : w14.cell? ⟨gb140, 2, none⟩ = some (.int .i64 a0_2) := (blk_cell BK140.out 2).trans rfl
       have hcz16_3 : w14.cell? ⟨gb140, 3, none⟩ = some (.slice A0_3 l0_3.length c0_3) := (blk_cell BK140.out 3).trans rfl
       have hfz16_0 := blk_frozen BK140.out 0
       have hfz16_1 := blk_frozen BK140.out 1
       have hfz16_2 := blk_frozen BK140.out 2
       have hfz16_3 := blk_frozen BK140.out 3
       go_upto_if 26 with (fail)
       go_cut [5] (fun v5 wc => ∃ (kq : Nat) (x5_6 : List ByteArray), Aside0 (meta_Write.j0 kq x5_6 a0_0 a0_1 a0_2 l0_3 = some (r1, r2)) ∧ Aside0 (kq ≤ k) ∧ Aside0 (Kd.R Kd.string 9 wc w.heap.size (fun _ => True) v5 x5_6) ∧ Aside0 (wc.heap[gb140]? = some (.cells #[.int .i64 a0_0, .string a0_1, .int .i64 a0_2, (.slice A0_3 l0_3.length c0_3)] 31 (0, 0))) ∧ Aside0 (Below w.heap.size w wc))
       case first =>
        have H := HC7.out
        clear HC7
        by_cases c17 : a0_0 = 5
        · rw [if_pos c17] at H
          have c17b0 : (a0_0 == 5) = true := beq_iff_eq.mpr c17
          have c17b1 : (a0_0 != 5) = false := bne_eq_false_iff_eq.mpr c17
          clear c17
          (first | rw [c17b0] | (simp only [i64_w, i32_w]; rw [c17b0]) | skip)
          have H' := Aside0.mk H
          clear H
          go_wp2
          go_meet
          case rel => exact ⟨_, (y146), H', ⟨by first | omega | exact Nat.le_refl _⟩, ⟨by (with_reducible repeat (first | apply Kd.R_alloc | apply Kd.R_drewN | apply Kd.R_drew)); exact HO148.out⟩, ⟨by (with_reducible repeat (first | refine blk_drewN ?_ _ | refine blk_drew ?_ | refine blk_alloc ?_ _)); exact BK140.out⟩, ⟨by repeat (first | (with_reducible first | exact HB.out | apply below_alloc | apply pw_below_drewN | apply below_drew1 | refine below_set ?_ GE140.out) | exact HB.out)⟩⟩
        · rw [if_neg c17] at H
          have c17b0 : (a0_0 == 5) = false := beq_eq_false_iff_ne.mpr c17
          have c17b1 : (a0_0 != 5) = true := bne_iff_ne.mpr c17
          (first | rw [c17b0] | (simp only [i64_w, i32_w]; rw [c17b0]) | skip)
          replace H := Option.bind_eq_some_iff.mp H
          obtain ⟨⟨t149, t150⟩, A180, H⟩ := H
          replace H : (if t150 = true then ((meta_Encode.f a0_1).bind fun t151 => (if y146.length < 8796093022208 then (meta_Write.j0 k (y146 ++ [t151]) a0_0 a0_1 a0_2 l0_3) else (none))) else (if y146.length < 8796093022208 then (meta_Write.j0 k (y146 ++ [a0_1]) a0_0 a0_1 a0_2 l0_3) else (none))) = some (r1, r2) := H
          have A18 := Aside0.mk A180
          clear A180
          by_cases c19 : t150 = true
          · subst c19
            have H1 : ((meta_Encode.f a0_1).bind fun t151 => (if y146.length < 8796093022208 then (meta_Write.j0 k (y146 ++ [t151]) a0_0 a0_1 a0_2 l0_3) else (none))) = some (r1, r2) := by rw [if_pos rfl] at H; exact H
            clear H
            have H := H1
            clear H1
            replace H := Option.bind_eq_some_iff.mp H
            obtain ⟨t151, A200, H⟩ := H
            replace H : (if y146.length < 8796093022208 then (meta_Write.j0 k (y146 ++ [t151]) a0_0 a0_1 a0_2 l0_3) else (none)) = some (r1, r2) := H
            have A20 := Aside0.mk A200
            clear A200
            by_cases c21 : y146.length < 8796093022208
            · rw [if_pos c21] at H
              have LMc21 := Aside0.mk c21
              clear c21
              obtain ⟨y152, hy152⟩ : ∃ y_ : List ByteArray, y_ = (y146 ++ [t151]) := ⟨_, rfl⟩
              replace H : (meta_Write.j0 k y152 a0_0 a0_1 a0_2 l0_3) = some (r1, r2) := by first | (rw [hy152]; with_reducible exact H) | (have H2_ := (Option.bind_some _ _).symm.trans H; rw [hy152]; with_reducible exact H2_) | (have H2_ := (Option.bind_some _ _).symm.trans H; with_reducible exact H2_) | with_reducible exact H | (rw [hy152]; exact H) | exact H
              have Ny152 := Aside0.mk hy152
              clear hy152
              have H' := Aside0.mk H
              clear H
              have hcz22_0 : w14.cell? ⟨gb140, 0, none⟩ = some (.int .i64 a0_0) := (blk_cell BK140.out 0).trans rfl
              have hcz22_1 : w14.cell? ⟨gb140, 1, none⟩ = some (.string a0_1) := (blk_cell BK140.out 1).trans rfl
              have hcz22_2 : w14.cell? ⟨gb140, 2, none⟩ = some (.int .i64 a0_2) := (blk_cell BK140.out 2).trans rfl
              have hcz22_3 : w14.cell? ⟨gb140, 3, none⟩ = some (.slice A0_3 l0_3.length c0_3) := (blk_cell BK140.out 3).trans rfl
              have hfz22_0 := blk_frozen BK140.out 0
              have hfz22_1 := blk_frozen BK140.out 1
              have hfz22_2 := blk_frozen BK140.out 2
              have hfz22_3 := blk_frozen BK140.out 3
              go_wp2_with (first | ((with_reducible refine gate_callee (f := 15) rfl ?_); refine goesL_ (some 31) rfl rfl Tryz.func15 (by kernel_rfl) rfl #[.agg #[.int .i64 a0_0, .string a0_1, .int .i64 a0_2, .slice A0_3 l0_3.length c0_3], .int .u8 98] rfl (by (try simp only [List.map_toArray, List.map_cons, List.map_nil]); first | done | rfl | (simp only [List.length_drop, List.length_take]; rfl) | (simp only [IntKind.wrap_u64]; rw [Int.emod_eq_of_lt (by omega) (by omega)]; rfl) | (simp only [ByteArray.size_extract]; done) | (simp only [ByteArray.size_extract]; rfl)) ?_; (with_reducible refine (meta_Find.calls a0_0 a0_1 a0_2 _ _ l0_3 98 t149 true _ ?side1 ?side2 A18.out).mono ?_); (case side1 => repeat (first | exact (Kd.C_below HR0_3.out HB.out) | (with_reducible refine Kd.C_alloc ?_ _) | (with_reducible refine Kd.C_drewN ?_ _) | (with_reducible refine Kd.C_drew ?_))); (case side2 => exact HC0_3.out); rintro e w23 ⟨rfl, hb⟩; refine ⟨_, rfl, ?_⟩; have n0_ := Aside0.mk (Kd.R_below (by (with_reducible repeat (first | apply Kd.R_alloc | apply Kd.R_drewN | apply Kd.R_drew)); exact HO144.out) hb); have n1_ := Aside0.mk (Kd.R_below (by (with_reducible repeat (first | apply Kd.R_alloc | apply Kd.R_drewN | apply Kd.R_drew)); exact HO148.out) hb); have n2_ := Aside0.mk (blk_below (g := gb140) (o := .cells #[.int .i64 a0_0, .string a0_1, .int .i64 a0_2, .slice A0_3 l0_3.length c0_3] 31 (0, 0)) (by (with_reducible repeat (first | refine blk_drewN ?_ _ | refine blk_drew ?_ | refine blk_alloc ?_ _)); exact BK140.out) hb); have n3_ := Aside0.mk (below_step (by repeat (first | (with_reducible first | exact HB.out | apply below_alloc | apply pw_below_drewN | apply below_drew1 | refine below_set ?_ GE140.out) | exact HB.out)) hb); clear HO144; clear HO148; clear BK140; clear HB; have HO144 := n0_; have HO148 := n1_; have BK140 := n2_; have HB := n3_; clear n0_ n1_ n2_ n3_; (try clear hb); (try clear hb2); (try clear hk); (try clear hi)) | ((with_reducible refine gate_callee (f := 26) rfl ?_); refine goesL_ (some 36) rfl rfl Tryz.func26 (by kernel_rfl) rfl #[.string a0_1] rfl (by (try simp only [List.map_toArray, List.map_cons, List.map_nil]); first | done | rfl | (simp only [List.length_drop, List.length_take]; rfl) | (simp only [IntKind.wrap_u64]; rw [Int.emod_eq_of_lt (by omega) (by omega)]; rfl) | (simp only [ByteArray.size_extract]; done) | (simp only [ByteArray.size_extract]; rfl)) ?_; (with_reducible refine (meta_Encode.calls a0_1 t151 _ A20.out).mono ?_); rintro e w24 ⟨rfl, hb⟩; refine ⟨_, rfl, ?_⟩; have n0_ := Aside0.mk (Kd.R_below (by (with_reducible repeat (first | apply Kd.R_alloc | apply Kd.R_drewN | apply Kd.R_drew)); exact HO144.out) hb); have n1_ := Aside0.mk (Kd.R_below (by (with_reducible repeat (first | apply Kd.R_alloc | apply Kd.R_drewN | apply Kd.R_drew)); exact HO148.out) hb); have n2_ := Aside0.mk (blk_below (g := gb140) (o := .cells #[.int .i64 a0_0, .string a0_1, .int .i64 a0_2, .slice A0_3 l0_3.length c0_3] 31 (0, 0)) (by (with_reducible repeat (first | refine blk_drewN ?_ _ | refine blk_drew ?_ | refine blk_alloc ?_ _)); exact BK140.out) hb); have n3_ := Aside0.mk (below_step (by repeat (first | (with_reducible first | exact HB.out | apply below_alloc | apply pw_below_drewN | apply below_drew1 | refine below_set ?_ GE140.out) | exact HB.out)) hb); clear HO144; clear HO148; clear BK140; clear HB; have HO144 := n0_; have HO148 := n1_; have BK140 := n2_; have HB := n3_; clear n0_ n1_ n2_ n3_; (try clear hb); (try clear hb2); (try clear hk); (try clear hi)) | ((with_reducible refine gate_builtin (b := .append) (xs := #[.tmp 37, .tmp 39]) rfl ?_); at_builtin; refine Kd.R_append Kd.string (w0 := w) w.heap.size rfl (.tmp 37) (.tmp 39) 66 9 (.string ⟨#[]⟩) 16 rfl Tryz.underlying66 info9 rfl (by decide) (by omega) v147 y146 t151 [.string t151] (fun _ => True) (fun _ => False) rfl rfl ?aP (fun _ hk => hk.elim) ?aF ?aO ?aB ?aS ?aL ?_; (case aP => exact rfl); (case aB => exact (by repeat (first | (with_reducible first | exact HB.out | apply below_alloc | apply pw_below_drewN | apply below_drew1 | refine below_set ?_ GE140.out) | exact HB.out))); (case aF => exact (fun _ _ => trivial)); (case aO => exact (by (with_reducible repeat (first | apply Kd.R_alloc | apply Kd.R_drewN | apply Kd.R_drew)); exact HO148.out)); (case aS => exact (below_size (by repeat (first | (with_reducible first | exact HB.out | apply below_alloc | apply pw_below_drewN | apply below_drew1 | refine below_set ?_ GE140.out) | exact HB.out)))); (case aL => have := LMc21.out; omega); intro v153 w25 ho hb hg hat; rw [← Ny152.out] at ho; have n0_ := Aside0.mk (blk_grown (g := gb140) (o := .cells #[.int .i64 a0_0, .string a0_1, .int .i64 a0_2, .slice A0_3 l0_3.length c0_3] 31 (0, 0)) (by (with_reducible repeat (first | refine blk_drewN ?_ _ | refine blk_drew ?_ | refine blk_alloc ?_ _)); exact BK140.out) hg (Kd.R_ne HO148.out BK140.out (by decide))); have n1_ := Aside0.mk (Kd.R_over' (by (with_reducible repeat (first | apply Kd.R_alloc | apply Kd.R_drewN | apply Kd.R_drew)); exact HO144.out) (Kd.R_typed (by (with_reducible repeat (first | apply Kd.R_alloc | apply Kd.R_drewN | apply Kd.R_drew)); exact HO148.out)) (by decide) hg); have n2_ := Aside0.mk (hb); have n3_ := Aside0.mk (ho); clear BK140; clear HO144; clear HB; clear HO148; have BK140 := n0_; have HO144 := n1_; have HB := n2_; have HO154 := n3_; clear n0_ n1_ n2_ n3_; clear ho hb hg hat))
              go_meet
              case rel => exact ⟨_, (y152), H', ⟨by first | omega | exact Nat.le_refl _⟩, ⟨by (with_reducible repeat (first | apply Kd.R_alloc | apply Kd.R_drewN | apply Kd.R_drew)); exact HO154.out⟩, ⟨by (with_reducible repeat (first | refine blk_drewN ?_ _ | refine blk_drew ?_ | refine blk_alloc ?_ _)); exact BK140.out⟩, ⟨by repeat (first | (with_reducible first | exact HB.out | apply below_alloc | apply pw_below_drewN | apply below_drew1 | refine below_set ?_ GE140.out) | exact HB.out)⟩⟩
            · rw [if_neg c21] at H
              exact absurd H (by simp)
          · replace c19 := Bool.eq_false_iff.mpr c19
            subst c19
            have H1 : (if y146.length < 8796093022208 then (meta_Write.j0 k (y146 ++ [a0_1]) a0_0 a0_1 a0_2 l0_3) else (none)) = some (r1, r2) := by rw [if_neg (show ¬ (false = true) by decide)] at H; exact H
            clear H
            have H := H1
            clear H1
            by_cases c26 : y146.length < 8796093022208
            · rw [if_pos c26] at H
              have LMc26 := Aside0.mk c26
              clear c26
              obtain ⟨y155, hy155⟩ : ∃ y_ : List ByteArray, y_ = (y146 ++ [a0_1]) := ⟨_, rfl⟩
              replace H : (meta_Write.j0 k y155 a0_0 a0_1 a0_2 l0_3) = some (r1, r2) := by first | (rw [hy155]; with_reducible exact H) | (have H2_ := (Option.bind_some _ _).symm.trans H; rw [hy155]; with_reducible exact H2_) | (have H2_ := (Option.bind_some _ _).symm.trans H; with_reducible exact H2_) | with_reducible exact H | (rw [hy155]; exact H) | exact H
              have Ny155 := Aside0.mk hy155
              clear hy155
              have H' := Aside0.mk H
              clear H
              have hcz27_0 : w14.cell? ⟨gb140, 0, none⟩ = some (.int .i64 a0_0) := (blk_cell BK140.out 0).trans rfl
              have hcz27_1 : w14.cell? ⟨gb140, 1, none⟩ = some (.string a0_1) := (blk_cell BK140.out 1).trans rfl
              have hcz27_2 : w14.cell? ⟨gb140, 2, none⟩ = some (.int .i64 a0_2) := (blk_cell BK140.out 2).trans rfl
              have hcz27_3 : w14.cell? ⟨gb140, 3, none⟩ = some (.slice A0_3 l0_3.length c0_3) := (blk_cell BK140.out 3).trans rfl
              have hfz27_0 := blk_frozen BK140.out 0
              have hfz27_1 := blk_frozen BK140.out 1
              have hfz27_2 := blk_frozen BK140.out 2
              have hfz27_3 := blk_frozen BK140.out 3
              go_wp2_with (first | ((with_reducible refine gate_callee (f := 15) rfl ?_); refine goesL_ (some 31) rfl rfl Tryz.func15 (by kernel_rfl) rfl #[.agg #[.int .i64 a0_0, .string a0_1, .int .i64 a0_2, .slice A0_3 l0_3.length c0_3], .int .u8 98] rfl (by (try simp only [List.map_toArray, List.map_cons, List.map_nil]); first | done | rfl | (simp only [List.length_drop, List.length_take]; rfl) | (simp only [IntKind.wrap_u64]; rw [Int.emod_eq_of_lt (by omega) (by omega)]; rfl) | (simp only [ByteArray.size_extract]; done) | (simp only [ByteArray.size_extract]; rfl)) ?_; (with_reducible refine (meta_Find.calls a0_0 a0_1 a0_2 _ _ l0_3 98 t149 false _ ?side1 ?side2 A18.out).mono ?_); (case side1 => repeat (first | exact (Kd.C_below HR0_3.out HB.out) | (with_reducible refine Kd.C_alloc ?_ _) | (with_reducible refine Kd.C_drewN ?_ _) | (with_reducible refine Kd.C_drew ?_))); (case side2 => exact HC0_3.out); rintro e w28 ⟨rfl, hb⟩; refine ⟨_, rfl, ?_⟩; have n0_ := Aside0.mk (Kd.R_below (by (with_reducible repeat (first | apply Kd.R_alloc | apply Kd.R_drewN | apply Kd.R_drew)); exact HO144.out) hb); have n1_ := Aside0.mk (Kd.R_below (by (with_reducible repeat (first | apply Kd.R_alloc | apply Kd.R_drewN | apply Kd.R_drew)); exact HO148.out) hb); have n2_ := Aside0.mk (blk_below (g := gb140) (o := .cells #[.int .i64 a0_0, .string a0_1, .int .i64 a0_2, .slice A0_3 l0_3.length c0_3] 31 (0, 0)) (by (with_reducible repeat (first | refine blk_drewN ?_ _ | refine blk_drew ?_ | refine blk_alloc ?_ _)); exact BK140.out) hb); have n3_ := Aside0.mk (below_step (by repeat (first | (with_reducible first | exact HB.out | apply below_alloc | apply pw_below_drewN | apply below_drew1 | refine below_set ?_ GE140.out) | exact HB.out)) hb); clear HO144; clear HO148; clear BK140; clear HB; have HO144 := n0_; have HO148 := n1_; have BK140 := n2_; have HB := n3_; clear n0_ n1_ n2_ n3_; (try clear hb); (try clear hb2); (try clear hk); (try clear hi)) | ((with_reducible refine gate_builtin (b := .append) (xs := #[.tmp 37, .tmp 39]) rfl ?_); at_builtin; refine Kd.R_append Kd.string (w0 := w) w.heap.size rfl (.tmp 37) (.tmp 39) 66 9 (.string ⟨#[]⟩) 16 rfl Tryz.underlying66 info9 rfl (by decide) (by omega) v147 y146 a0_1 [.string a0_1] (fun _ => True) (fun _ => False) rfl rfl ?aP (fun _ hk => hk.elim) ?aF ?aO ?aB ?aS ?aL ?_; (case aP => exact rfl); (case aB => exact (by repeat (first | (with_reducible first | exact HB.out | apply below_alloc | apply pw_below_drewN | apply below_drew1 | refine below_set ?_ GE140.out) | exact HB.out))); (case aF => exact (fun _ _ => trivial)); (case aO => exact (by (with_reducible repeat (first | apply Kd.R_alloc | apply Kd.R_drewN | apply Kd.R_drew)); exact HO148.out)); (case aS => exact (below_size (by repeat (first | (with_reducible first | exact HB.out | apply below_alloc | apply pw_below_drewN | apply below_drew1 | refine below_set ?_ GE140.out) | exact HB.out)))); (case aL => have := LMc26.out; omega); intro v156 w29 ho hb hg hat; rw [← Ny155.out] at ho; have n0_ := Aside0.mk (blk_grown (g := gb140) (o := .cells #[.int .i64 a0_0, .string a0_1, .int .i64 a0_2, .slice A0_3 l0_3.length c0_3] 31 (0, 0)) (by (with_reducible repeat (first | refine blk_drewN ?_ _ | refine blk_drew ?_ | refine blk_alloc ?_ _)); exact BK140.out) hg (Kd.R_ne HO148.out BK140.out (by decide))); have n1_ := Aside0.mk (Kd.R_over' (by (with_reducible repeat (first | apply Kd.R_alloc | apply Kd.R_drewN | apply Kd.R_drew)); exact HO144.out) (Kd.R_typed (by (with_reducible repeat (first | apply Kd.R_alloc | apply Kd.R_drewN | apply Kd.R_drew)); exact HO148.out)) (by decide) hg); have n2_ := Aside0.mk (hb); have n3_ := Aside0.mk (ho); clear BK140; clear HO144; clear HB; clear HO148; have BK140 := n0_; have HO144 := n1_; have HB := n2_; have HO157 := n3_; clear n0_ n1_ n2_ n3_; clear ho hb hg hat))
              go_meet
              case rel => exact ⟨_, (y155), H', ⟨by first | omega | exact Nat.le_refl _⟩, ⟨by (with_reducible repeat (first | apply Kd.R_alloc | apply Kd.R_drewN | apply Kd.R_drew)); exact HO157.out⟩, ⟨by (with_reducible repeat (first | refine blk_drewN ?_ _ | refine blk_drew ?_ | refine blk_alloc ?_ _)); exact BK140.out⟩, ⟨by repeat (first | (with_reducible first | exact HB.out | apply below_alloc | apply pw_below_drewN | apply below_drew1 | refine below_set ?_ GE140.out) | exact HB.out)⟩⟩
            · rw [if_neg c26] at H
              exact absurd H (by simp)
       case rest =>
        clear HC7
        try clear c1
        try clear p1
        try clear q1
        try clear hx1
        try clear c2
        try clear p2
        try clear c3
        try clear c3b0
        try clear c3b1
        try clear c5
        try clear c5b0
        try clear c6
        try clear c6b0
        try clear c10
        try clear p14
        try clear q14
        try clear hx14
        try clear c15
        try clear c17
        try clear c17b0
        try clear c17b1
        try clear c19
        try clear c21
        try clear c26
        try clear c28
        try clear c29
        try clear hcz16_0
        try clear hcz16_1
        try clear hcz16_2
        try clear hcz16_3
        try clear hcz22_0
        try clear hcz22_1
        try clear hcz22_2
        try clear hcz22_3
        try clear hcz27_0
        try clear hcz27_1
        try clear hcz27_2
        try clear hcz27_3
        try clear hcz9_0
        try clear hcz9_1
        try clear hcz9_2
        try clear hcz9_3
        try clear hfz16_0
        try clear hfz16_1
        try clear hfz16_2
        try clear hfz16_3
        try clear hfz22_0
        try clear hfz22_1
        try clear hfz22_2
        try clear hfz22_3
        try clear hfz27_0
        try clear hfz27_1
        try clear hfz27_2
        try clear hfz27_3
        try clear hfz9_0
        try clear hfz9_1
        try clear hfz9_2
        try clear hfz9_3
        try clear hx145_0
        try clear hx145_1
        try clear p145
        try clear q145
        obtain ⟨kq, x5_6, HA, HJ6, HO_5, BK140, HB⟩ := hcut
        cases kq with
        | zero => exact absurd HA.out (by simp [meta_Write.j0])
        | succ kj6 =>
         have H := HA.out
         clear HA
         simp only [meta_Write.j0] at H
         have HC30 := Aside0.mk H
         clear H
         have hcz31_0 : wc.cell? ⟨gb140, 0, none⟩ = some (.int .i64 a0_0) := (blk_cell BK140.out 0).trans rfl
         have hcz31_1 : wc.cell? ⟨gb140, 1, none⟩ = some (.string a0_1) := (blk_cell BK140.out 1).trans rfl
         have hcz31_2 : wc.cell? ⟨gb140, 2, none⟩ = some (.int .i64 a0_2) := (blk_cell BK140.out 2).trans rfl
         have hcz31_3 : wc.cell? ⟨gb140, 3, none⟩ = some (.slice A0_3 l0_3.length c0_3) := (blk_cell BK140.out 3).trans rfl
         have hfz31_0 := blk_frozen BK140.out 0
         have hfz31_1 := blk_frozen BK140.out 1
         have hfz31_2 := blk_frozen BK140.out 2
         have hfz31_3 := blk_frozen BK140.out 3
         go_upto_if 43 with (fail)
         go_cut [5] (fun v5 wc => ∃ (kq : Nat) (x5_29 : List ByteArray), Aside0 (meta_Write.j1 kq x5_29 a0_0 a0_1 a0_2 l0_3 = some (r1, r2)) ∧ Aside0 (kq ≤ kj6) ∧ Aside0 (Kd.R Kd.string 9 wc w.heap.size (fun _ => True) v5 x5_29) ∧ Aside0 (wc.heap[gb140]? = some (.cells #[.int .i64 a0_0, .string a0_1, .int .i64 a0_2, (.slice A0_3 l0_3.length c0_3)] 31 (0, 0))) ∧ Aside0 (Below w.heap.size w wc))
         case first =>
          have H := HC30.out
          clear HC30
          by_cases c32 : a0_0 = 2
          · rw [if_pos c32] at H
            have c32b0 : (a0_0 == 2) = true := beq_iff_eq.mpr c32
            have c32b1 : (a0_0 != 2) = false := bne_eq_false_iff_eq.mpr c32
            clear c32
            (first | rw [c32b0] | (simp only [i64_w, i32_w]; rw [c32b0]) | skip)
            replace H := Option.bind_eq_some_iff.mp H
            obtain ⟨t158, A330, H⟩ := H
            replace H : (if x5_6.length < 8796093022208 then (meta_Write.j1 kj6 (x5_6 ++ [t158]) a0_0 a0_1 a0_2 l0_3) else (none)) = some (r1, r2) := H
            have A33 := Aside0.mk A330
            clear A330
            by_cases c34 : x5_6.length < 8796093022208
            · rw [if_pos c34] at H
              have LMc34 := Aside0.mk c34
              clear c34
              obtain ⟨y159, hy159⟩ : ∃ y_ : List ByteArray, y_ = (x5_6 ++ [t158]) := ⟨_, rfl⟩
              replace H : (meta_Write.j1 kj6 y159 a0_0 a0_1 a0_2 l0_3) = some (r1, r2) := by first | (rw [hy159]; with_reducible exact H) | (have H2_ := (Option.bind_some _ _).symm.trans H; rw [hy159]; with_reducible exact H2_) | (have H2_ := (Option.bind_some _ _).symm.trans H; with_reducible exact H2_) | with_reducible exact H | (rw [hy159]; exact H) | exact H
              have Ny159 := Aside0.mk hy159
              clear hy159
              have H' := Aside0.mk H
              clear H
              have hcz35_0 : wc.cell? ⟨gb140, 0, none⟩ = some (.int .i64 a0_0) := (blk_cell BK140.out 0).trans rfl
              have hcz35_1 : wc.cell? ⟨gb140, 1, none⟩ = some (.string a0_1) := (blk_cell BK140.out 1).trans rfl
              have hcz35_2 : wc.cell? ⟨gb140, 2, none⟩ = some (.int .i64 a0_2) := (blk_cell BK140.out 2).trans rfl
              have hcz35_3 : wc.cell? ⟨gb140, 3, none⟩ = some (.slice A0_3 l0_3.length c0_3) := (blk_cell BK140.out 3).trans rfl
              have hfz35_0 := blk_frozen BK140.out 0
              have hfz35_1 := blk_frozen BK140.out 1
              have hfz35_2 := blk_frozen BK140.out 2
              have hfz35_3 := blk_frozen BK140.out 3
              go_wp2_with (first | ((with_reducible refine gate_callee (f := 30) rfl ?_); refine goesL_ (some 48) rfl rfl Tryz.func30 (by kernel_rfl) rfl #[.int .u64 (IntKind.u64.wrap (a0_2))] rfl (by (try simp only [List.map_toArray, List.map_cons, List.map_nil]); first | done | rfl | (simp only [List.length_drop, List.length_take]; rfl) | (simp only [IntKind.wrap_u64]; rw [Int.emod_eq_of_lt (by omega) (by omega)]; rfl) | (simp only [ByteArray.size_extract]; done) | (simp only [ByteArray.size_extract]; rfl)) ?_; (with_reducible refine (digits_Text.calls (IntKind.u64.wrap (a0_2)) t158 _ ?side1 A33.out).mono ?_); (case side1 => exact Vars.below HV.out (by repeat (first | (with_reducible first | exact HB.out | apply below_alloc | apply pw_below_drewN | apply below_drew1 | refine below_set ?_ GE140.out) | exact HB.out))); rintro e w36 ⟨rfl, hb⟩; refine ⟨_, rfl, ?_⟩; have n0_ := Aside0.mk (Kd.R_below (by (with_reducible repeat (first | apply Kd.R_alloc | apply Kd.R_drewN | apply Kd.R_drew)); exact HO_5.out) hb); have n1_ := Aside0.mk (blk_below (g := gb140) (o := .cells #[.int .i64 a0_0, .string a0_1, .int .i64 a0_2, .slice A0_3 l0_3.length c0_3] 31 (0, 0)) (by (with_reducible repeat (first | refine blk_drewN ?_ _ | refine blk_drew ?_ | refine blk_alloc ?_ _)); exact BK140.out) hb); have n2_ := Aside0.mk (below_step (by repeat (first | (with_reducible first | exact HB.out | apply below_alloc | apply pw_below_drewN | apply below_drew1 | refine below_set ?_ GE140.out) | exact HB.out)) hb); clear HO_5; clear BK140; clear HB; have HO_5 := n0_; have BK140 := n1_; have HB := n2_; clear n0_ n1_ n2_; (try clear hb); (try clear hb2); (try clear hk); (try clear hi)) | ((with_reducible refine gate_builtin (b := .append) (xs := #[.tmp 44, .tmp 49]) rfl ?_); at_builtin; refine Kd.R_append Kd.string (w0 := w) w.heap.size rfl (.tmp 44) (.tmp 49) 66 9 (.string ⟨#[]⟩) 16 rfl Tryz.underlying66 info9 rfl (by decide) (by omega) u5 x5_6 t158 [.string t158] (fun _ => True) (fun _ => False) rfl rfl ?aP (fun _ hk => hk.elim) ?aF ?aO ?aB ?aS ?aL ?_; (case aP => exact rfl); (case aB => exact (by repeat (first | (with_reducible first | exact HB.out | apply below_alloc | apply pw_below_drewN | apply below_drew1 | refine below_set ?_ GE140.out) | exact HB.out))); (case aF => exact (fun _ _ => trivial)); (case aO => exact (by (with_reducible repeat (first | apply Kd.R_alloc | apply Kd.R_drewN | apply Kd.R_drew)); exact HO_5.out)); (case aS => exact (below_size (by repeat (first | (with_reducible first | exact HB.out | apply below_alloc | apply pw_below_drewN | apply below_drew1 | refine below_set ?_ GE140.out) | exact HB.out)))); (case aL => have := LMc34.out; omega); intro v160 w37 ho hb hg hat; rw [← Ny159.out] at ho; have n0_ := Aside0.mk (blk_grown (g := gb140) (o := .cells #[.int .i64 a0_0, .string a0_1, .int .i64 a0_2, .slice A0_3 l0_3.length c0_3] 31 (0, 0)) (by (with_reducible repeat (first | refine blk_drewN ?_ _ | refine blk_drew ?_ | refine blk_alloc ?_ _)); exact BK140.out) hg (Kd.R_ne HO_5.out BK140.out (by decide))); have n1_ := Aside0.mk (hb); have n2_ := Aside0.mk (ho); clear BK140; clear HB; clear HO_5; have BK140 := n0_; have HB := n1_; have HO161 := n2_; clear n0_ n1_ n2_; clear ho hb hg hat))
              go_meet
              case rel => exact ⟨_, (y159), H', ⟨by have := HJ6.out; first | omega | exact Nat.le_refl _⟩, ⟨by (with_reducible repeat (first | apply Kd.R_alloc | apply Kd.R_drewN | apply Kd.R_drew)); exact HO161.out⟩, ⟨by (with_reducible repeat (first | refine blk_drewN ?_ _ | refine blk_drew ?_ | refine blk_alloc ?_ _)); exact BK140.out⟩, ⟨by repeat (first | (with_reducible first | exact HB.out | apply below_alloc | apply pw_below_drewN | apply below_drew1 | refine below_set ?_ GE140.out) | exact HB.out)⟩⟩
            · rw [if_neg c34] at H
              exact absurd H (by simp)
          · rw [if_neg c32] at H
            have c32b0 : (a0_0 == 2) = false := beq_eq_false_iff_ne.mpr c32
            have c32b1 : (a0_0 != 2) = true := bne_iff_ne.mpr c32
            (first | rw [c32b0] | (simp only [i64_w, i32_w]; rw [c32b0]) | skip)
            have H' := Aside0.mk H
            clear H
            go_wp2
            go_meet
            case rel => exact ⟨_, (x5_6), H', ⟨by have := HJ6.out; first | omega | exact Nat.le_refl _⟩, ⟨by (with_reducible repeat (first | apply Kd.R_alloc | apply Kd.R_drewN | apply Kd.R_drew)); exact HO_5.out⟩, ⟨by (with_reducible repeat (first | refine blk_drewN ?_ _ | refine blk_drew ?_ | refine blk_alloc ?_ _)); exact BK140.out⟩, ⟨by repeat (first | (with_reducible first | exact HB.out | apply below_alloc | apply pw_below_drewN | apply below_drew1 | refine below_set ?_ GE140.out) | exact HB.out)⟩⟩
         case rest =>
          clear HC30
          try clear c1
          try clear p1
          try clear q1
          try clear hx1
          try clear c2
          try clear p2
          try clear c3
          try clear c3b0
          try clear c3b1
          try clear c5
          try clear c5b0
          try clear c6
          try clear c6b0
          try clear c10
          try clear p14
          try clear q14
          try clear hx14
          try clear c15
          try clear c17
          try clear c17b0
          try clear c17b1
          try clear c19
          try clear c21
          try clear c26
          try clear c28
          try clear c29
          try clear c30
          try clear c32
          try clear c32b0
          try clear c32b1
          try clear c34
          try clear hcz16_0
          try clear hcz16_1
          try clear hcz16_2
          try clear hcz16_3
          try clear hcz22_0
          try clear hcz22_1
          try clear hcz22_2
          try clear hcz22_3
          try clear hcz27_0
          try clear hcz27_1
          try clear hcz27_2
          try clear hcz27_3
          try clear hcz31_0
          try clear hcz31_1
          try clear hcz31_2
          try clear hcz31_3
          try clear hcz35_0
          try clear hcz35_1
          try clear hcz35_2
          try clear hcz35_3
          try clear hcz9_0
          try clear hcz9_1
          try clear hcz9_2
          try clear hcz9_3
          try clear hfz16_0
          try clear hfz16_1
          try clear hfz16_2
          try clear hfz16_3
          try clear hfz22_0
          try clear hfz22_1
          try clear hfz22_2
          try clear hfz22_3
          try clear hfz27_0
          try clear hfz27_1
          try clear hfz27_2
          try clear hfz27_3
          try clear hfz31_0
          try clear hfz31_1
          try clear hfz31_2
          try clear hfz31_3
          try clear hfz35_0
          try clear hfz35_1
          try clear hfz35_2
          try clear hfz35_3
          try clear hfz9_0
          try clear hfz9_1
          try clear hfz9_2
          try clear hfz9_3
          try clear hx145_0
          try clear hx145_1
          try clear p1
          try clear p14
          try clear p145
          try clear p2
          try clear q1
          try clear q14
          try clear q145
          obtain ⟨kq, x5_29, HA, HJ29, HO_5, BK140, HB⟩ := hcut
          cases kq with
          | zero => exact absurd HA.out (by simp [meta_Write.j1])
          | succ kj29 =>
           have H := HA.out
           clear HA
           simp only [meta_Write.j1] at H
           have H' := Aside0.mk H
           clear H
           have hcz38_0 : wc.cell? ⟨gb140, 0, none⟩ = some (.int .i64 a0_0) := (blk_cell BK140.out 0).trans rfl
           have hcz38_1 : wc.cell? ⟨gb140, 1, none⟩ = some (.string a0_1) := (blk_cell BK140.out 1).trans rfl
           have hcz38_2 : wc.cell? ⟨gb140, 2, none⟩ = some (.int .i64 a0_2) := (blk_cell BK140.out 2).trans rfl
           have hcz38_3 : wc.cell? ⟨gb140, 3, none⟩ = some (.slice A0_3 l0_3.length c0_3) := (blk_cell BK140.out 3).trans rfl
           have hfz38_0 := blk_frozen BK140.out 0
           have hfz38_1 := blk_frozen BK140.out 1
           have hfz38_2 := blk_frozen BK140.out 2
           have hfz38_3 := blk_frozen BK140.out 3
           go_wp2
           go_loopg [5, 54] kj29 (fun kq v5 v54 w' => ∃ (x5_3 : List ByteArray) (x54_3 : Int), v54 = .int .i64 x54_3 ∧ Aside0 (meta_Write.l0 kq x5_3 l0_3 (l0_3.length : Int) x54_3 = some (r1, r2)) ∧ Aside0 (kq ≤ kj29) ∧ Aside0 (Kd.R Kd.string 9 w' w.heap.size (fun _ => True) v5 x5_3) ∧ Aside0 (w'.heap[gb140]? = some (.cells #[.int .i64 a0_0, .string a0_1, .int .i64 a0_2, (.slice A0_3 l0_3.length c0_3)] 31 (0, 0))) ∧ Aside0 (Below w.heap.size w w'))
           case atStart => exact ⟨(x5_29), (0), (by first | rfl | (simp; done) | (simp [*]; done)), H', ⟨Nat.le_refl _⟩, ⟨by (with_reducible repeat (first | apply Kd.R_alloc | apply Kd.R_drewN | apply Kd.R_drew)); exact HO_5.out⟩, ⟨by (with_reducible repeat (first | refine blk_drewN ?_ _ | refine blk_drew ?_ | refine blk_alloc ?_ _)); exact BK140.out⟩, ⟨by repeat (first | (with_reducible first | exact HB.out | apply below_alloc | apply pw_below_drewN | apply below_drew1 | refine below_set ?_ GE140.out) | exact HB.out)⟩⟩
           case round =>
            clear H'
            try clear c1
            try clear p1
            try clear q1
            try clear hx1
            try clear c2
            try clear p2
            try clear c3
            try clear c3b0
            try clear c3b1
            try clear c5
            try clear c5b0
            try clear c6
            try clear c6b0
            try clear c10
            try clear p14
            try clear q14
            try clear hx14
            try clear c15
            try clear c17
            try clear c17b0
            try clear c17b1
            try clear c19
            try clear c21
            try clear c26
            try clear c28
            try clear c29
            try clear c30
            try clear c32
            try clear c32b0
            try clear c32b1
            try clear c34
            try clear hcz16_0
            try clear hcz16_1
            try clear hcz16_2
            try clear hcz16_3
            try clear hcz22_0
            try clear hcz22_1
            try clear hcz22_2
            try clear hcz22_3
            try clear hcz27_0
            try clear hcz27_1
            try clear hcz27_2
            try clear hcz27_3
            try clear hcz31_0
            try clear hcz31_1
            try clear hcz31_2
            try clear hcz31_3
            try clear hcz35_0
            try clear hcz35_1
            try clear hcz35_2
            try clear hcz35_3
            try clear hcz38_0
            try clear hcz38_1
            try clear hcz38_2
            try clear hcz38_3
            try clear hcz9_0
            try clear hcz9_1
            try clear hcz9_2
            try clear hcz9_3
            try clear hfz16_0
            try clear hfz16_1
            try clear hfz16_2
            try clear hfz16_3
            try clear hfz22_0
            try clear hfz22_1
            try clear hfz22_2
            try clear hfz22_3
            try clear hfz27_0
            try clear hfz27_1
            try clear hfz27_2
            try clear hfz27_3
            try clear hfz31_0
            try clear hfz31_1
            try clear hfz31_2
            try clear hfz31_3
            try clear hfz35_0
            try clear hfz35_1
            try clear hfz35_2
            try clear hfz35_3
            try clear hfz38_0
            try clear hfz38_1
            try clear hfz38_2
            try clear hfz38_3
            try clear hfz9_0
            try clear hfz9_1
            try clear hfz9_2
            try clear hfz9_3
            try clear hx145_0
            try clear hx145_1
            try clear p1
            try clear p14
            try clear p145
            try clear p2
            try clear q1
            try clear q14
            try clear q145
            obtain ⟨x5_3, x54_3, rfl, HA, HK3, HO_5, BK140, HB⟩ := hrel
            cases gk with
            | zero => exact absurd HA.out (by simp [meta_Write.l0])
            | succ k3 =>
             have H := HA.out
             clear HA
             simp only [meta_Write.l0] at H
             by_cases c39 : x54_3 < (l0_3.length : Int)
             · rw [if_pos c39] at H
               have c39b0 : decide (x54_3 < (l0_3.length : Int)) = true := decide_eq_true c39
               clear c39
               by_cases c40 : 0 ≤ x54_3
               · rw [if_pos c40] at H
                 have c40b0 : decide (0 ≤ x54_3) = true := decide_eq_true c40
                 clear c40
                 by_cases c41 : x54_3 < (l0_3.length : Int)
                 · rw [if_pos c41] at H
                   have c41b0 : decide (x54_3 < (l0_3.length : Int)) = true := decide_eq_true c41
                   clear c41
                   by_cases c42 : (Utf8.encode (wrap32 ((rd_T61 l0_3 x54_3).f0))).size + ((rd_T61 l0_3 x54_3).f1).size ≤ 9223372036854775807
                   · rw [if_pos c42] at H
                     have c42b0 := eq_true c42
                     have c42b1 : decide ((Utf8.encode (wrap32 ((rd_T61 l0_3 x54_3).f0))).size + ((rd_T61 l0_3 x54_3).f1).size ≤ 9223372036854775807) = true := decide_eq_true c42
                     try have c42b2 : (9223372036854775807 < (Utf8.encode (wrap32 ((rd_T61 l0_3 x54_3).f0))).size + ((rd_T61 l0_3 x54_3).f1).size) = False := eq_false (Nat.not_lt.2 c42)
                     by_cases c43 : x5_3.length < 8796093022208
                     · rw [if_pos c43] at H
                       have LMc43 := Aside0.mk c43
                       clear c43
                       obtain ⟨y164, hy164⟩ : ∃ y_ : List ByteArray, y_ = (x5_3 ++ [(Utf8.encode (wrap32 ((rd_T61 l0_3 x54_3).f0))) ++ ((rd_T61 l0_3 x54_3).f1)]) := ⟨_, rfl⟩
                       replace H : (meta_Write.l0 k3 y164 l0_3 (l0_3.length : Int) (wrap64 (x54_3 + 1))) = some (r1, r2) := by first | (rw [hy164]; with_reducible exact H) | (have H2_ := (Option.bind_some _ _).symm.trans H; rw [hy164]; with_reducible exact H2_) | (have H2_ := (Option.bind_some _ _).symm.trans H; with_reducible exact H2_) | with_reducible exact H | (rw [hy164]; exact H) | exact H
                       have Ny164 := Aside0.mk hy164
                       clear hy164
                       have H' := Aside0.mk H
                       clear H
                       have p162 : 0 ≤ (x54_3 : Int) := of_decide_eq_true (by first | (with_reducible assumption) | assumption)
                       have q162 : x54_3 < (l0_3.length : Int) := of_decide_eq_true (by first | (with_reducible assumption) | assumption)
                       obtain ⟨ad162, e162, hx162_0, hx162_1⟩ := at_T61 HR0_3.out x54_3 p162 q162
                       cases e162
                       replace hx162_0 := (HB.out.cell (World.block_lt_of_cell? w _ hx162_0)).trans hx162_0
                       replace hx162_1 := (HB.out.cell (World.block_lt_of_cell? w _ hx162_1)).trans hx162_1
                       replace p162 := eq_true p162
                       replace q162 := eq_true q162
                       go_wp2_with (first | ((with_reducible refine gate_dst (N := 10) rfl ?_); refine box_event ?hg (N := 10) ?hd (cs := #[.int .u8 0, .string (⟨#[]⟩ : ByteArray)]) (t := 61) ?hr ?_; (case hd => rfl); (case hg => rfl); (case hr => first | (go_simp; done) | (go_simp; rfl)); intro gb163 hg w44 hbox hb; have n0_ := Aside0.mk (Kd.R_below (by (with_reducible repeat (first | apply Kd.R_alloc | apply Kd.R_drewN | apply Kd.R_drew)); exact HO_5.out) hb); have n1_ := Aside0.mk (blk_below (g := gb140) (o := .cells #[.int .i64 a0_0, .string a0_1, .int .i64 a0_2, .slice (some ad162) l0_3.length c0_3] 31 (0, 0)) (by (with_reducible repeat (first | refine blk_drewN ?_ _ | refine blk_drew ?_ | refine blk_alloc ?_ _)); exact BK140.out) hb); have n2_ := Aside0.mk (below_step (by repeat (first | (with_reducible first | exact HB.out | apply below_alloc | apply pw_below_drewN | apply below_drew1 | refine below_set ?_ GE140.out) | exact HB.out)) hb); have n3_ := Aside0.mk (hbox); have n4_ := Aside0.mk ((by rw [hg]; exact (below_size (by repeat (first | (with_reducible first | exact HB.out | apply below_alloc | apply pw_below_drewN | apply below_drew1 | refine below_set ?_ GE140.out) | exact HB.out))) : w.heap.size ≤ gb163)); have n5_ := Aside0.mk ((by rw [hg]; exact (below_size (by repeat (first | (with_reducible first | exact HB.out | apply below_alloc | apply pw_below_drewN | apply below_drew1 | refine below_set ?_ GE140.out) | exact HB.out))) : w.heap.size ≤ gb163)); have n6_ := Aside0.mk ((by rw [hg]; exact Nat.ne_of_lt (blk_lt (g := gb140) (o := .cells #[.int .i64 a0_0, .string a0_1, .int .i64 a0_2, .slice (some ad162) l0_3.length c0_3] 31 (0, 0)) (by (with_reducible repeat (first | refine blk_drewN ?_ _ | refine blk_drew ?_ | refine blk_alloc ?_ _)); exact BK140.out)) : gb140 ≠ gb163)); have n7_ := Aside0.mk ((by rw [hg]; exact Nat.ne_of_gt (blk_lt (g := gb140) (o := .cells #[.int .i64 a0_0, .string a0_1, .int .i64 a0_2, .slice (some ad162) l0_3.length c0_3] 31 (0, 0)) (by (with_reducible repeat (first | refine blk_drewN ?_ _ | refine blk_drew ?_ | refine blk_alloc ?_ _)); exact BK140.out)) : gb163 ≠ gb140)); clear HO_5; clear BK140; clear HB; have HO_5 := n0_; have BK140 := n1_; have HB := n2_; have BK163 := n3_; have GW163 := n4_; have GE163 := n5_; have NB140_163 := n6_; have NB163_140 := n7_; clear n0_ n1_ n2_ n3_ n4_ n5_ n6_ n7_; clear hb hbox hg; have hnb45 := NB163_140.out; have hnc45 := NB140_163.out; have hcz46_0 : w44.cell? ⟨gb163, 0, none⟩ = some (.int .u8 0) := (blk_cell BK163.out 0).trans rfl; have hcz46_1 : w44.cell? ⟨gb163, 1, none⟩ = some (.string (⟨#[]⟩ : ByteArray)) := (blk_cell BK163.out 1).trans rfl; have hfz46_0 := blk_frozen BK163.out 0; have hfz46_1 := blk_frozen BK163.out 1) | ((with_reducible refine gate_builtin (b := .append) (xs := #[.tmp 58, .tmp 66]) rfl ?_); at_builtin; refine Kd.R_append Kd.string (w0 := w) w.heap.size rfl (.tmp 58) (.tmp 66) 66 9 (.string ⟨#[]⟩) 16 rfl Tryz.underlying66 info9 rfl (by decide) (by omega) u5 x5_3 ((Utf8.encode (wrap32 ((rd_T61 l0_3 x54_3).f0))) ++ ((rd_T61 l0_3 x54_3).f1)) [.string ((Utf8.encode (wrap32 ((rd_T61 l0_3 x54_3).f0))) ++ ((rd_T61 l0_3 x54_3).f1))] (fun _ => True) (fun _ => False) rfl (by first | (go_simp; done) | (go_simp; rfl)) ?aP (fun _ hk => hk.elim) ?aF ?aO ?aB ?aS ?aL ?_; (case aP => exact rfl); (case aB => exact (by repeat (first | (with_reducible first | exact HB.out | apply below_alloc | apply pw_below_drewN | apply below_drew1 | refine below_set ?_ GE140.out | refine below_set ?_ GE163.out) | exact HB.out))); (case aF => exact (fun _ _ => trivial)); (case aO => exact (by (with_reducible repeat (first | apply Kd.R_alloc | apply Kd.R_drewN | apply Kd.R_drew)); exact Kd.R_mono (Kd.R_far (p := ⟨gb163, 1, none⟩) (Kd.R_far (p := ⟨gb163, 0, none⟩) (Kd.R_types HO_5.out BK163.out (by decide)) (fun _ hk => hk.2) (.int .u8 ((rd_T61 l0_3 x54_3).f0))) (fun _ hk => hk.2) (.string ((rd_T61 l0_3 x54_3).f1))) (fun _ hk => trivial))); (case aS => exact (below_size (by repeat (first | (with_reducible first | exact HB.out | apply below_alloc | apply pw_below_drewN | apply below_drew1 | refine below_set ?_ GE140.out | refine below_set ?_ GE163.out) | exact HB.out)))); (case aL => have := LMc43.out; omega); intro v165 w47 ho hb hg hat; rw [← Ny164.out] at ho; have n0_ := Aside0.mk (blk_grown (g := gb140) (o := .cells #[.int .i64 a0_0, .string a0_1, .int .i64 a0_2, .slice (some ad162) l0_3.length c0_3] 31 (0, 0)) (by (with_reducible repeat (first | refine blk_drewN ?_ _ | refine blk_drew ?_ | refine blk_alloc ?_ _)); refine blk_far ?_ NB140_163.out _; (with_reducible repeat (first | refine blk_drewN ?_ _ | refine blk_drew ?_ | refine blk_alloc ?_ _)); refine blk_far ?_ NB140_163.out _; (with_reducible repeat (first | refine blk_drewN ?_ _ | refine blk_drew ?_ | refine blk_alloc ?_ _)); exact BK140.out) hg (Kd.R_ne HO_5.out BK140.out (by decide))); have n1_ := Aside0.mk (blk_grown (g := gb163) (o := .cells #[.int .u8 ((rd_T61 l0_3 x54_3).f0), .string ((rd_T61 l0_3 x54_3).f1)] 61 (0, 0)) (by (with_reducible repeat (first | refine blk_drewN ?_ _ | refine blk_drew ?_ | refine blk_alloc ?_ _)); refine blk_put (cs := #[.int .u8 ((rd_T61 l0_3 x54_3).f0), .string (⟨#[]⟩ : ByteArray)]) ?_ 1 _ rfl; (with_reducible repeat (first | refine blk_drewN ?_ _ | refine blk_drew ?_ | refine blk_alloc ?_ _)); refine blk_put (cs := #[.int .u8 0, .string (⟨#[]⟩ : ByteArray)]) ?_ 0 _ rfl; (with_reducible repeat (first | refine blk_drewN ?_ _ | refine blk_drew ?_ | refine blk_alloc ?_ _)); exact BK163.out) hg (Kd.R_ne HO_5.out BK163.out (by decide))); have n2_ := Aside0.mk (hb); have n3_ := Aside0.mk (ho); clear BK140; clear BK163; clear HB; clear HO_5; have BK140 := n0_; have BK163 := n1_; have HB := n2_; have HO166 := n3_; clear n0_ n1_ n2_ n3_; clear ho hb hg hat))
                       go_roundg k3
                       case measure => have := HJ6.out; have := HJ29.out; have := HK3.out; omega
                       case rel => exact ⟨(y164), (wrap64 (x54_3 + 1)), (by first | rfl | (simp; done) | (simp [*]; done)), H', ⟨by have := HJ6.out; have := HJ29.out; have := HK3.out; omega⟩, ⟨by (with_reducible repeat (first | apply Kd.R_alloc | apply Kd.R_drewN | apply Kd.R_drew)); exact HO166.out⟩, ⟨by (with_reducible repeat (first | refine blk_drewN ?_ _ | refine blk_drew ?_ | refine blk_alloc ?_ _)); exact BK140.out⟩, ⟨by repeat (first | (with_reducible first | exact HB.out | apply below_alloc | apply pw_below_drewN | apply below_drew1 | refine below_set ?_ GE140.out | refine below_set ?_ GE163.out) | exact HB.out)⟩⟩
                     · rw [if_neg c43] at H
                       exact absurd H (by simp)
                   · rw [if_neg c42] at H
                     exact absurd H (by simp)
                 · rw [if_neg c41] at H
                   exact absurd H (by simp)
               · rw [if_neg c40] at H
                 exact absurd H (by simp)
             · rw [if_neg c39] at H
               have c39b0 : decide (x54_3 < (l0_3.length : Int)) = false := decide_eq_false c39
               clear c39
               replace H := Option.bind_eq_some_iff.mp H
               obtain ⟨t167, A480, H⟩ := H
               replace H : (if (t167.size : Int) > 160 then (some ((⟨#[]⟩ : ByteArray), 7)) else (some (t167, 0))) = some (r1, r2) := H
               have A48 := Aside0.mk A480
               clear A480
               by_cases c49 : (t167.size : Int) > 160
               · rw [if_pos c49] at H
                 have c49b0 : decide (160 < (t167.size : Int)) = true := decide_eq_true c49
                 have c49b1 : decide (160 < t167.size) = true := decide_eq_true (by omega)
                 clear c49
                 simp only [Option.some.injEq, Prod.mk.injEq] at H
                 obtain ⟨rfl, rfl⟩ := H
                 obtain ⟨Ao50, co50, eo50⟩ := Kd.R_slice HO_5.out
                 subst eo50
                 go_wp2_with (first | ((with_reducible refine gate_callee (f := 31) rfl ?_); refine goesL_ (some 70) rfl rfl Tryz.func31 (by kernel_rfl) rfl #[.slice Ao50 x5_3.length co50, .string (⟨#[32]⟩ : ByteArray)] rfl (by (try simp only [List.map_toArray, List.map_cons, List.map_nil]); first | done | rfl | (simp only [List.length_drop, List.length_take]; rfl) | (simp only [IntKind.wrap_u64]; rw [Int.emod_eq_of_lt (by omega) (by omega)]; rfl) | (simp only [ByteArray.size_extract]; done) | (simp only [ByteArray.size_extract]; rfl)) ?_; (with_reducible refine (strings_Join.calls _ _ x5_3 (⟨#[32]⟩ : ByteArray) t167 _ ?side1 ?side2 A48.out).mono ?_); (case side1 => repeat (first | exact (Kd.R_reads' HO_5.out).2.2 | (with_reducible refine Kd.C_alloc ?_ _) | (with_reducible refine Kd.C_drewN ?_ _) | (with_reducible refine Kd.C_drew ?_))); (case side2 => exact (Kd.R_reads' HO_5.out).2.1); rintro e w51 ⟨rfl, hb⟩; refine ⟨_, rfl, ?_⟩; have n0_ := Aside0.mk (Kd.R_below (by (with_reducible repeat (first | apply Kd.R_alloc | apply Kd.R_drewN | apply Kd.R_drew)); exact HO_5.out) hb); have n1_ := Aside0.mk (blk_below (g := gb140) (o := .cells #[.int .i64 a0_0, .string a0_1, .int .i64 a0_2, .slice A0_3 l0_3.length c0_3] 31 (0, 0)) (by (with_reducible repeat (first | refine blk_drewN ?_ _ | refine blk_drew ?_ | refine blk_alloc ?_ _)); exact BK140.out) hb); have n2_ := Aside0.mk (below_step (by repeat (first | (with_reducible first | exact HB.out | apply below_alloc | apply pw_below_drewN | apply below_drew1 | refine below_set ?_ GE140.out) | exact HB.out)) hb); clear HO_5; clear BK140; clear HB; have HO_5 := n0_; have BK140 := n1_; have HB := n2_; clear n0_ n1_ n2_; (try clear hb); (try clear hb2); (try clear hk); (try clear hi)))
                 go_ret2
                 exact ⟨by first | rfl | (simp [errW_none, errW_some] <;> rfl) | (simp [*, errW_none, errW_some] <;> rfl), by repeat (first | (with_reducible first | exact HB.out | apply below_alloc | apply pw_below_drewN | apply below_drew1 | refine below_set ?_ GE140.out) | exact HB.out)⟩
               · rw [if_neg c49] at H
                 have c49b0 : decide (160 < (t167.size : Int)) = false := decide_eq_false c49
                 have c49b1 : decide (160 < t167.size) = false := decide_eq_false (by omega)
                 clear c49
                 simp only [Option.some.injEq, Prod.mk.injEq] at H
                 obtain ⟨rfl, rfl⟩ := H
                 obtain ⟨Ao52, co52, eo52⟩ := Kd.R_slice HO_5.out
                 subst eo52
                 go_wp2_with (first | ((with_reducible refine gate_callee (f := 31) rfl ?_); refine goesL_ (some 70) rfl rfl Tryz.func31 (by kernel_rfl) rfl #[.slice Ao52 x5_3.length co52, .string (⟨#[32]⟩ : ByteArray)] rfl (by (try simp only [List.map_toArray, List.map_cons, List.map_nil]); first | done | rfl | (simp only [List.length_drop, List.length_take]; rfl) | (simp only [IntKind.wrap_u64]; rw [Int.emod_eq_of_lt (by omega) (by omega)]; rfl) | (simp only [ByteArray.size_extract]; done) | (simp only [ByteArray.size_extract]; rfl)) ?_; (with_reducible refine (strings_Join.calls _ _ x5_3 (⟨#[32]⟩ : ByteArray) t167 _ ?side1 ?side2 A48.out).mono ?_); (case side1 => repeat (first | exact (Kd.R_reads' HO_5.out).2.2 | (with_reducible refine Kd.C_alloc ?_ _) | (with_reducible refine Kd.C_drewN ?_ _) | (with_reducible refine Kd.C_drew ?_))); (case side2 => exact (Kd.R_reads' HO_5.out).2.1); rintro e w53 ⟨rfl, hb⟩; refine ⟨_, rfl, ?_⟩; have n0_ := Aside0.mk (Kd.R_below (by (with_reducible repeat (first | apply Kd.R_alloc | apply Kd.R_drewN | apply Kd.R_drew)); exact HO_5.out) hb); have n1_ := Aside0.mk (blk_below (g := gb140) (o := .cells #[.int .i64 a0_0, .string a0_1, .int .i64 a0_2, .slice A0_3 l0_3.length c0_3] 31 (0, 0)) (by (with_reducible repeat (first | refine blk_drewN ?_ _ | refine blk_drew ?_ | refine blk_alloc ?_ _)); exact BK140.out) hb); have n2_ := Aside0.mk (below_step (by repeat (first | (with_reducible first | exact HB.out | apply below_alloc | apply pw_below_drewN | apply below_drew1 | refine below_set ?_ GE140.out) | exact HB.out)) hb); clear HO_5; clear BK140; clear HB; have HO_5 := n0_; have BK140 := n1_; have HB := n2_; clear n0_ n1_ n2_; (try clear hb); (try clear hb2); (try clear hk); (try clear hi)))
                 go_ret2
                 exact ⟨by first | rfl | (simp [errW_none, errW_some] <;> rfl) | (simp [*, errW_none, errW_some] <;> rfl), by repeat (first | (with_reducible first | exact HB.out | apply below_alloc | apply pw_below_drewN | apply below_drew1 | refine below_set ?_ GE140.out) | exact HB.out)⟩
     · rw [if_neg c6] at H
       exact absurd H (by simp)
   · rw [if_neg c5] at H
     exact absurd H (by simp)
 · rw [if_neg c3] at H
   have c3b0 : (t141 == 0) = false := beq_eq_false_iff_ne.mpr c3
   have c3b1 : (t141 != 0) = true := bne_iff_ne.mpr c3
   simp only [Option.some.injEq, Prod.mk.injEq] at H
   obtain ⟨rfl, rfl⟩ := H
   go_enter Tryz.func10, Tryz.ntmps10
   go_wp2_with (first | ((with_reducible refine gate_dst (N := 1) rfl ?_); refine box_event ?hg (N := 1) ?hd (cs := #[.int .i64 a0_0, .string a0_1, .int .i64 a0_2, .slice A0_3 l0_3.length c0_3]) (t := 31) ?hr ?_; (case hd => rfl); (case hg => rfl); (case hr => first | (go_simp; done) | (go_simp; rfl)); intro gb140 hg w54 hbox hb; have n0_ := Aside0.mk (below_step (by repeat (first | (with_reducible first | exact HB.out | apply below_alloc | apply pw_below_drewN | apply below_drew1) | exact HB.out)) hb); have n1_ := Aside0.mk (hbox); have n2_ := Aside0.mk ((by rw [hg]; exact (below_size (by repeat (first | (with_reducible first | exact HB.out | apply below_alloc | apply pw_below_drewN | apply below_drew1) | exact HB.out))) : w.heap.size ≤ gb140)); have n3_ := Aside0.mk ((by rw [hg]; exact (below_size (by repeat (first | (with_reducible first | exact HB.out | apply below_alloc | apply pw_below_drewN | apply below_drew1) | exact HB.out))) : w.heap.size ≤ gb140)); clear HB; have HB := n0_; have BK140 := n1_; have GW140 := n2_; have GE140 := n3_; clear n0_ n1_ n2_ n3_; clear hb hbox hg; have hcz55_0 : w54.cell? ⟨gb140, 0, none⟩ = some (.int .i64 a0_0) := (blk_cell BK140.out 0).trans rfl; have hcz55_1 : w54.cell? ⟨gb140, 1, none⟩ = some (.string a0_1) := (blk_cell BK140.out 1).trans rfl; have hcz55_2 : w54.cell? ⟨gb140, 2, none⟩ = some (.int .i64 a0_2) := (blk_cell BK140.out 2).trans rfl; have hcz55_3 : w54.cell? ⟨gb140, 3, none⟩ = some (.slice A0_3 l0_3.length c0_3) := (blk_cell BK140.out 3).trans rfl; have hfz55_0 := blk_frozen BK140.out 0; have hfz55_1 := blk_frozen BK140.out 1; have hfz55_2 := blk_frozen BK140.out 2; have hfz55_3 := blk_frozen BK140.out 3) | ((with_reducible refine gate_callee (f := 28) rfl ?_); refine goesL_ (some 13) rfl rfl Tryz.func28 (by kernel_rfl) rfl #[.agg #[.int .i64 a0_0, .string a0_1, .int .i64 a0_2, .slice A0_3 l0_3.length c0_3]] rfl (by (try simp only [List.map_toArray, List.map_cons, List.map_nil]); first | done | rfl | (simp only [List.length_drop, List.length_take]; rfl) | (simp only [IntKind.wrap_u64]; rw [Int.emod_eq_of_lt (by omega) (by omega)]; rfl) | (simp only [ByteArray.size_extract]; done) | (simp only [ByteArray.size_extract]; rfl)) ?_; (with_reducible refine (meta_shape.calls k a0_0 a0_1 a0_2 _ _ l0_3 t141 _ ?side1 ?side2 ?side3 A2.out).mono ?_); (case side1 => repeat (first | exact (Kd.C_below HR0_3.out HB.out) | (with_reducible refine Kd.C_alloc ?_ _) | (with_reducible refine Kd.C_drewN ?_ _) | (with_reducible refine Kd.C_drew ?_))); (case side2 => exact HC0_3.out); (case side3 => exact Vars.below HV.out (by repeat (first | (with_reducible first | exact HB.out | apply below_alloc | apply pw_below_drewN | apply below_drew1 | refine below_set ?_ GE140.out) | exact HB.out))); rintro e w56 ⟨rfl, hb⟩; refine ⟨_, rfl, ?_⟩; have n0_ := Aside0.mk (blk_below (g := gb140) (o := .cells #[.int .i64 a0_0, .string a0_1, .int .i64 a0_2, .slice A0_3 l0_3.length c0_3] 31 (0, 0)) (by (with_reducible repeat (first | refine blk_drewN ?_ _ | refine blk_drew ?_ | refine blk_alloc ?_ _)); exact BK140.out) hb); have n1_ := Aside0.mk (below_step (by repeat (first | (with_reducible first | exact HB.out | apply below_alloc | apply pw_below_drewN | apply below_drew1 | refine below_set ?_ GE140.out) | exact HB.out)) hb); clear BK140; clear HB; have BK140 := n0_; have HB := n1_; clear n0_ n1_; (try clear hb); (try clear hb2); (try clear hk); (try clear hi)))
   go_ret2
   exact ⟨by first | rfl | (simp [errW_none, errW_some] <;> rfl) | (simp [*, errW_none, errW_some] <;> rfl), by repeat (first | (with_reducible first | exact HB.out | apply below_alloc | apply pw_below_drewN | apply below_drew1 | refine below_set ?_ GE140.out) | exact HB.out)⟩

end
end Go.Proofs.YtfboejlemnfndaaGreatDoor.XMt
end
