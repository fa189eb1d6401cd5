/- Put together by wip/pack.py (this session's own program) out of this session's texts; a kit's tool laid the words and the shelf, of which only what is used stands here. Lean checks it. -/
import Derived.Test.YteddljbdjgdlnaaDoorPSk2
import Derived.Test.YteddljbdjgdlnaaDoorProg
import Derived.KernelRfl
import Derived.StringKeys
import Derived.Deep.RegionHeld3
import Derived.Deep.DrawnRows
import Derived.Deep.DeepCutAuto
import Derived.Lib.Split
import Derived.Lib.Join
import Derived.Lib.ItoaNum
import Derived.Lib.ParseIntB
import Derived.Lib.IndexBytes
import Derived.Lib.TrimByte
import Derived.OpenShut
import Derived.ChangeArms
import Derived.DataReads
import Derived.DataElems
import Derived.SizedLaws
import Derived.Test.YteddljbdjgdlnaaDoorCards
import Derived.Test.YteddljbdjgdlnaaDoorTie
import Derived.WalkKit
import Derived.ProofKit
import Derived.ShutString
import Derived.ChangeOld
import Derived.Below
import Derived.LaidMore
import Derived.Lay
import Derived.SevenTiedAt
import Derived.Stop.Joined
import Derived.Deep.DeepHandedRow
import Derived.Shelf.Vars
import Derived.Stop.LaidErr
section
namespace Go.Proofs.YteddljbdjgdlnaaDoor.St
open Go.RowKit Go.Proofs.YteddljbdjgdlnaaDoorW.PrintWords Go.Proofs.YteddljbdjgdlnaaDoorW.PrintLast Go.Proofs.YteddljbdjgdlnaaDoorW.PrintMore Go.WideMaps Go.Proofs.YteddljbdjgdlnaaDoor.XSb
set_option linter.unusedVariables false
set_option linter.unusedSimpArgs false
attribute [local go_sem ↓] Go.wp_at_zero Go.wp_at_succ
theorem size_al (w : World) (o : Obj) : (w.alloc o).heap.size = w.heap.size + 1 := by simp
theorem fresh_cell {w : World} {B : Nat} {cs : Array Value} {t : TypeId} (h : w.heap[B]? = some (.cells cs t)) (i : Nat) : w.cell? ⟨B, i, none⟩ = cs[i]? := cell_of_row w B i cs t (0, 0) h
theorem fresh_frozen {w : World} {B : Nat} {cs : Array Value} {t : TypeId} (h : w.heap[B]? = some (.cells cs t)) (i : Nat) : w.frozen? ⟨B, i, none⟩ = false := by
  simp [World.frozen?, h]
theorem keepC {w w' : World} {a : Addr} {v : Value} (hb : Below w.heap.size w w') (h : w.cell? a = some v) : w'.cell? a = some v := (hb.cell (World.block_lt_of_cell? w a h)).trans h
namespace Nm
def cmd_get : ByteArray := ⟨#[99, 109, 100, 95, 103, 101, 116]⟩
def cmd_set : ByteArray := ⟨#[99, 109, 100, 95, 115, 101, 116]⟩
def cmd_flush : ByteArray := ⟨#[99, 109, 100, 95, 102, 108, 117, 115, 104]⟩
def cmd_touch : ByteArray := ⟨#[99, 109, 100, 95, 116, 111, 117, 99, 104]⟩
def get_hits : ByteArray := ⟨#[103, 101, 116, 95, 104, 105, 116, 115]⟩
def get_misses : ByteArray := ⟨#[103, 101, 116, 95, 109, 105, 115, 115, 101, 115]⟩
def delete_hits : ByteArray := ⟨#[100, 101, 108, 101, 116, 101, 95, 104, 105, 116, 115]⟩
def delete_misses : ByteArray := ⟨#[100, 101, 108, 101, 116, 101, 95, 109, 105, 115, 115, 101, 115]⟩
def incr_hits : ByteArray := ⟨#[105, 110, 99, 114, 95, 104, 105, 116, 115]⟩
def incr_misses : ByteArray := ⟨#[105, 110, 99, 114, 95, 109, 105, 115, 115, 101, 115]⟩
def decr_hits : ByteArray := ⟨#[100, 101, 99, 114, 95, 104, 105, 116, 115]⟩
def decr_misses : ByteArray := ⟨#[100, 101, 99, 114, 95, 109, 105, 115, 115, 101, 115]⟩
def cas_hits : ByteArray := ⟨#[99, 97, 115, 95, 104, 105, 116, 115]⟩
def cas_badval : ByteArray := ⟨#[99, 97, 115, 95, 98, 97, 100, 118, 97, 108]⟩
def cas_misses : ByteArray := ⟨#[99, 97, 115, 95, 109, 105, 115, 115, 101, 115]⟩
def touch_hits : ByteArray := ⟨#[116, 111, 117, 99, 104, 95, 104, 105, 116, 115]⟩
def touch_misses : ByteArray := ⟨#[116, 111, 117, 99, 104, 95, 109, 105, 115, 115, 101, 115]⟩
def not_stored : ByteArray := ⟨#[110, 111, 116, 95, 115, 116, 111, 114, 101, 100]⟩
def too_large : ByteArray := ⟨#[116, 111, 111, 95, 108, 97, 114, 103, 101]⟩
def no_memory : ByteArray := ⟨#[110, 111, 95, 109, 101, 109, 111, 114, 121]⟩
def no_number : ByteArray := ⟨#[110, 111, 95, 110, 117, 109, 98, 101, 114]⟩
def evictions : ByteArray := ⟨#[101, 118, 105, 99, 116, 105, 111, 110, 115]⟩
def moved : ByteArray := ⟨#[109, 111, 118, 101, 100]⟩
def failed : ByteArray := ⟨#[102, 97, 105, 108, 101, 100]⟩
end Nm
def nm24 : List ByteArray := [Nm.cmd_get, Nm.cmd_set, Nm.cmd_flush, Nm.cmd_touch, Nm.get_hits, Nm.get_misses, Nm.delete_hits, Nm.delete_misses, Nm.incr_hits, Nm.incr_misses, Nm.decr_hits, Nm.decr_misses, Nm.cas_hits, Nm.cas_badval, Nm.cas_misses, Nm.touch_hits, Nm.touch_misses, Nm.not_stored, Nm.too_large, Nm.no_memory, Nm.no_number, Nm.evictions, Nm.moved, Nm.failed]
def has (s : ByteArray) (ks : List ByteArray) : Bool := ks.any fun k => k.data.toList == s.data.toList
theorem ba_ext {a b : ByteArray} (h : a.data.toList = b.data.toList) : a = b := by
  cases a
  cases b
  congr 1
  exact Array.toList_inj.1 h
theorem has_same (s : ByteArray) (ks : List ByteArray) : has s (s :: ks) = true := by simp [has]
theorem has_other {s x : ByteArray} (h : x ≠ s) (ks : List ByteArray) : has x (s :: ks) = has x ks := by
  unfold has
  rw [List.any_cons, beq_eq_false_iff_ne.2 (fun e => h (ba_ext e.symm)), Bool.false_or]
theorem has_mem {s : ByteArray} {ks : List ByteArray} (h : has s ks = true) : s ∈ ks := by
  obtain ⟨k, hk, e⟩ := List.any_eq_true.1 h
  rw [← ba_ext (beq_iff_eq.1 e)]
  exact hk
theorem mem_has {s : ByteArray} {ks : List ByteArray} (h : s ∈ ks) : has s ks = true := List.any_eq_true.2 ⟨s, h, beq_self_eq_true _⟩
abbrev Figs := ByteArray → Int
def upd (f : Figs) (s : ByteArray) (n : Int) : Figs := fun x => if x = s then n else f x
theorem upd_same (f : Figs) (s : ByteArray) (n : Int) : upd f s n s = n := if_pos rfl
theorem upd_other (f : Figs) {s x : ByteArray} (n : Int) (h : x ≠ s) : upd f s n x = f x := if_neg h
def addF (f : Figs) (s : ByteArray) (n : Int) : Figs := upd f s ((f s + (if 0 < n then n else 0)) % 18446744073709551616)
def valF (ks : List ByteArray) (f : Figs) (s : ByteArray) : Int := if has s ks = true then f s else 0
def litF (ks : List ByteArray) (f : Figs) : Lit → Option Value
  | .string n => if has ⟨n.toArray⟩ ks = true then some (.int .u64 (f ⟨n.toArray⟩)) else none
  | _ => none
theorem back (s : ByteArray) : (⟨s.data.toList.toArray⟩ : ByteArray) = s := by cases s; simp
theorem litF_at (ks : List ByteArray) (f : Figs) (s : ByteArray) : litF ks f (.string s.data.toList) = if has s ks = true then some (.int .u64 (f s)) else none := by
  unfold litF
  simp only [back]
theorem law : Maps.Keyed Tryd.prog 9 := Maps.string_keyed Tryd.underlying9
theorem key {s : ByteArray} (h : s.size ≤ maxLen) : keyOf Tryd.prog 9 (.string s) = some (.string s.data.toList) := keyOf_string_mk Tryd.underlying9 h
theorem zeroU (w : World) : (zeroValue 28).run Tryd.prog w = .ok (.int .u64 0) w := by kernel_rfl
structure At (w : World) (g b c : Nat) (ks : List ByteArray) (f : Figs) : Prop where
  map : mapF w Tryd.prog 9 b c (litF ks f)
  cell : w.heap[g]? = some (.cells #[.map (some b)] 89)
  ne : g ≠ b
section
variable {w w' : World} {g b c : Nat} {ks : List ByteArray} {f : Figs}
theorem At.lt (h : At w g b c ks f) : g < w.heap.size := blk_lt h.cell
theorem At.ltb (h : At w g b c ks f) : b < w.heap.size := h.map.lt
theorem At.keep (h : At w g b c ks f) (e1 : w'.heap[g]? = w.heap[g]?) (e2 : w'.heap[b]? = w.heap[b]?) : At w' g b c ks f := ⟨h.map.same e2, e1.trans h.cell, h.ne⟩
theorem At.below (h : At w g b c ks f) (hb : Below w.heap.size w w') : At w' g b c ks f := h.keep (hb.block g h.lt) (hb.block b h.ltb)
theorem At.alloc (h : At w g b c ks f) (o : Obj) : At (w.alloc o) g b c ks f := h.below ((Below.refl _ w).alloc (Nat.le_refl _) o)
theorem At.drew (h : At w g b c ks f) : At w.drew g b c ks f := h.below (Below.refl _ w).drew
theorem At.more (h : At w g b c ks f) {c' : Nat} (hc : c ≤ c') : At w g b c' ks f := ⟨h.map.mono hc, h.cell, h.ne⟩
theorem At.mut {p q : Nat} (h : At w g b c ks f) (m : Mut p q w w') (h1 : g ≠ p) (h2 : g ≠ q) (h3 : b ≠ p) (h4 : b ≠ q) : At w' g b c ks f := h.keep (m.block g h.lt h1 h2) (m.block b h.ltb h3 h4)
theorem At.gcell (h : At w g b c ks f) : w.cell? ⟨g, 0, none⟩ = some (.map (some b)) := by rw [fresh_cell h.cell]; rfl
theorem At.eq (h : At w g b c ks f) {ks' : List ByteArray} {f' : Figs} (e1 : ∀ s, has s ks' = has s ks) (e2 : ∀ s, has s ks = true → f' s = f s) : At w g b c ks' f' :=
  ⟨h.map.eq fun kl _ => by
    cases kl with
    | string n =>
      unfold litF
      simp only
      rw [e1]
      by_cases hm : has (⟨n.toArray⟩ : ByteArray) ks = true
      · rw [if_pos hm, if_pos hm, e2 _ hm]
      · rw [if_neg hm, if_neg hm]
    | _ => rfl, h.cell, h.ne⟩
theorem At.look (h : At w g b c ks f) {s : ByteArray} (hs : s.size ≤ maxLen) : (Instr.lookup 87 (.map (some b)) (.string s) false).run Tryd.prog w = .ok (.int .u64 (valF ks f s)) w := by
  obtain ⟨D, ho, _, h2⟩ := h.map
  obtain ⟨v, ps, hrun, hv⟩ := ho.lookup law Tryd.underlying87 (zeroU w) (zd := .held (.int .u64 0)) (zp := []) rfl (key hs)
  rw [(h2 (.string s.data.toList) trivial).1, litF_at] at hv
  have e := tokR_inj hv
  rw [hrun, e]
  unfold valF
  by_cases hm : has s ks = true
  · rw [if_pos hm, if_pos hm]; rfl
  · rw [if_neg hm, if_neg hm]; rfl
theorem At.look2 (h : At w g b c ks f) {s : ByteArray} (hs : s.size ≤ maxLen) : (Instr.lookup 87 (.map (some b)) (.string s) true).run Tryd.prog w = .ok (.tuple #[.int .u64 (valF ks f s), .bool (has s ks)]) w := by
  obtain ⟨D, ho, _, h2⟩ := h.map
  obtain ⟨u, ps, hrun, hu⟩ := ho.look_ok law Tryd.underlying87 (zeroU w) (zd := .held (.int .u64 0)) (zp := []) rfl (key hs)
  rw [(h2 (.string s.data.toList) trivial).1, litF_at] at hu
  have e := tokR_inj hu
  rw [hrun, (h2 (.string s.data.toList) trivial).2, litF_at, e]
  unfold valF
  by_cases hm : has s ks = true
  · rw [if_pos hm, if_pos hm, hm]; rfl
  · rw [if_neg hm, if_neg hm, show has s ks = false by simpa using hm]; rfl
theorem At.put (h : At w g b c ks f) (hc : c < maxLen) {s : ByteArray} (hs : s.size ≤ maxLen) (n : Int) :
    ∃ w', (Instr.mapUpdate 87 (.map (some b)) (.string s) (.int .u64 n)).run Tryd.prog w = .ok () w' ∧ At w' g b (c + 1) (s :: ks) (upd f s n) ∧ Mut g b w w' := by
  obtain ⟨D, ho, h1, h2⟩ := h.map
  obtain ⟨w', hrun, ho', hg'⟩ := ho.update law Tryd.underlying87 hc (key hs) (val := .int .u64 n) (d := .held (.int .u64 n)) (ps := []) rfl
  refine ⟨w', hrun, ⟨?_, (hg'.block g h.lt (fun e => h.ne (by injection e))).trans h.cell, h.ne⟩, (Mut.refl g b w).grown hg' (fun k e => by injection e with e; exact .inr (.inr e.symm))⟩
  have hm : mapF w' Tryd.prog 9 b (c + 1) (putF (litF ks f) (.string s.data.toList) (some (.int .u64 n))) := ⟨_, ho', h1.put _ _, fun l hl => by
    by_cases e1 : l = .string s.data.toList
    · subst e1
      rw [putF_same]
      exact ⟨fun z => Maps.atKey_put_same h1 hl _ _, Maps.has_put_same h1 hl _⟩
    · rw [putF_other _ _ e1]
      refine ⟨fun z => ?_, ?_⟩
      · rw [Maps.atKey_put_other e1]; exact (h2 l hl).1 z
      · rw [Maps.has_put_other e1]; exact (h2 l hl).2⟩
  refine hm.eq fun kl _ => ?_
  by_cases e1 : kl = .string s.data.toList
  · subst e1
    rw [putF_same, litF_at, if_pos (has_same _ _), upd_same]
  · rw [putF_other _ _ e1]
    cases kl with
    | string m =>
      have hne : (⟨m.toArray⟩ : ByteArray) ≠ s := fun e => e1 (by rw [← e])
      unfold litF
      simp only
      rw [upd_other _ _ hne, has_other hne]
    | _ => rfl
end
theorem max_if (n : Int) : max n 0 = if 0 < n then n else 0 := by split <;> omega
set_option maxHeartbeats 1000000 in
theorem more_calls (w : World) (g b c : Nat) (ks : List ByteArray) (f : Figs) (s : ByteArray) (n : Int) (hA : At w g b c ks f) (hc : c < maxLen) (hin : has s ks = true) (hs : s.size ≤ maxLen) (hn : n ≤ 9223372036854775807) :
    Calls Tryd.prog 66 #[.pointer (some ⟨g, 0, none⟩), .string s, .int .i64 n] w fun e w' => e = .returned (.tuple #[]) ∧ At w' g b (c + 1) ks (addF f s n) ∧ Mut g b w w' := by
  have g0 := hA.gcell
  have hl := hA.look hs
  obtain ⟨m, hm⟩ : ∃ m, valF ks f s = m := ⟨_, rfl⟩
  obtain ⟨x, hx⟩ : ∃ x, max n 0 = x := ⟨_, rfl⟩
  have hx0 : 0 ≤ x := by omega
  have hx1 : x ≤ 9223372036854775807 := by omega
  obtain ⟨w', hput, hA', hM⟩ := hA.put hc hs ((m + x) % 18446744073709551616)
  rw [hm] at hl
  have HA' := Aside0.mk hA'
  have HM := Aside0.mk hM
  have HMV := Lib.hid hm
  have hxw : (IntKind.u64.wrap x) = x := by rw [IntKind.wrap_u64]; omega
  have hmw : (IntKind.u64.wrap (m + x)) = (m + x) % 18446744073709551616 := by rw [IntKind.wrap_u64]
  clear hA hA' hM hm
  go_enter Tryd.func66, Tryd.ntmps66
  go_wp2
  go_end0
  refine ⟨rfl, HA'.out.eq (fun y => ?_) (fun y _ => ?_), HM.out⟩
  · by_cases e : y = s
    · rw [e, has_same, hin]
    · rw [has_other e]
  · have e : m = f s := by rw [← HMV.out]; exact if_pos hin
    unfold addF
    rw [e, ← hx, max_if]
set_option maxHeartbeats 1000000 in
theorem Get_calls (w : World) (g b c : Nat) (ks : List ByteArray) (f : Figs) (s : ByteArray) (hA : At w g b c ks f) (hs : s.size ≤ maxLen) :
    Calls Tryd.prog 15 #[.pointer (some ⟨g, 0, none⟩), .string s] w fun e w' => e = .returned (.tuple #[.int .u64 (valF ks f s), .bool (has s ks)]) ∧ w' = w := by
  have g0 := hA.gcell
  have hl := hA.look2 hs
  clear hA
  go_enter Tryd.func15, Tryd.ntmps15
  go_wp2
  go_ret2
  exact ⟨rfl, rfl⟩
theorem names_is : stat_names.f = some nm24 := rfl
theorem at_str {w : World} {A : Option Addr} {l : List ByteArray} (h : Kd.string.C w A l.length l) (j : Nat) (s : ByteArray) (hs : l[j]? = some s) : ∃ ad, A = some ad ∧ w.cell? (ad.add j) = some (.string s) := by
  have hj : j < l.length := (List.getElem?_eq_some_iff.1 hs).1
  obtain ⟨ad, e, hc⟩ := Kd.at_string h (j : Int) (by omega) (by omega)
  have e2 : rdOf ByteArray.empty l (j : Int) = s := by
    unfold rdOf
    simp [hs]
  rw [e2, Int.toNat_natCast] at hc
  exact ⟨ad, e, hc⟩
def Names (w : World) (ad : Addr) : Prop := ∀ (j : Nat) s, nm24[j]? = some s → w.cell? (ad.add j) = some (.string s)
theorem Names.below {w w' : World} {ad : Addr} (h : Names w ad) (hb : Below w.heap.size w w') : Names w' ad := fun j s hs => keepC hb (h j s hs)
theorem Names.mut {g b : Nat} {w w' : World} {ad : Addr} (h : Names w ad) (m : Mut g b w w') (h1 : ad.block ≠ g) (h2 : ad.block ≠ b) : Names w' ad := fun j s hs => m.cell (h j s hs) (by rw [add_block]; exact h1) (by rw [add_block]; exact h2)
theorem names_c (w : World) : Calls Tryd.prog 33 #[] w fun e w' => ∃ ad c, e = .returned (.slice (some ad) 24 c) ∧ 24 ≤ c ∧ w.heap.size ≤ ad.block ∧ Names w' ad ∧ Below w.heap.size w w' :=
  (stat_names.calls nm24 w names_is).mono fun e w' h => by
    obtain ⟨v, rfl, hR, hb⟩ := h
    obtain ⟨A, c, rfl, hc, hC⟩ := Kd.R_reads hR
    obtain ⟨inner, ho⟩ := Kd.R_own hR
    obtain ⟨ad, rfl, h0⟩ := at_str hC 0 Nm.cmd_get rfl
    refine ⟨ad, c, rfl, hc, own_base ho _ rfl, fun j s hs => ?_, hb⟩
    obtain ⟨ad', e, h1⟩ := at_str hC j s hs
    injection e with e
    rw [e]
    exact h1
theorem nm_small {j : Nat} {s : ByteArray} (h : nm24[j]? = some s) : s.size ≤ maxLen := by
  have : ∀ x ∈ nm24, x.size ≤ maxLen := by
    have h : (nm24.all fun x => decide (x.size ≤ maxLen)) = true := by kernel_rfl
    exact fun x hx => of_decide_eq_true (List.all_eq_true.1 h x hx)
  exact this s (List.mem_of_getElem? h)
theorem nm_len : nm24.length = 24 := rfl
theorem has_snoc (x s : ByteArray) (l : List ByteArray) : has x (l ++ [s]) = has x (s :: l) := by simp [has, Bool.or_comm]
theorem take_next {j : Nat} {s : ByteArray} (h : nm24[j]? = some s) (x : ByteArray) : has x (nm24.take (j + 1)) = has x (s :: nm24.take j) := by
  rw [List.take_add_one, h]
  exact has_snoc _ _ _
theorem nm_at {j : Nat} (h : j < 24) : ∃ s, nm24[j]? = some s := ⟨_, List.getElem?_eq_getElem h⟩
structure Nw (w wr : World) (g b j : Nat) (ad : Addr) : Prop where
  st : At wr g b j (nm24.take j) (fun _ => 0)
  bel : Below w.heap.size w wr
  row : Names wr ad
theorem nw_next {w wr w' : World} {g b j : Nat} {ad : Addr} (h : Nw w wr g b j ad) {s : ByteArray} (hs : nm24[j]? = some s) (hA : At w' g b (j + 1) (s :: nm24.take j) (upd (fun _ => 0) s 0)) (hM : Mut g b wr w') (hg : w.heap.size ≤ g) (hb : w.heap.size ≤ b) (h1 : ad.block ≠ g) (h2 : ad.block ≠ b) : Nw w w' g b (j + 1) ad :=
  ⟨hA.eq (take_next hs) (fun x _ => by unfold upd; split <;> rfl), h.bel.trans (hM.below hg hb h.bel.size), h.row.mut hM h1 h2⟩
set_option maxHeartbeats 4000000 in
set_option maxRecDepth 100000 in
theorem New_calls (w : World) :
    Calls Tryd.prog 8 #[] w fun e w' => ∃ g b, e = .returned (.pointer (some ⟨g, 0, none⟩)) ∧ At w' g b 24 nm24 (fun _ => 0) ∧ w.heap.size ≤ g ∧ w.heap.size ≤ b ∧ Below w.heap.size w w' := by
  have hmm := @run_makeMap Tryd.prog
  have HA0 : Aside0 (At ((w.alloc (.map #[] 0)).alloc (.cells #[.map (some w.heap.size)] 89)) (w.heap.size + 1) w.heap.size 0 [] (fun _ => 0)) :=
    ⟨⟨((mapF_made w Tryd.prog 9).eq fun kl _ => by cases kl <;> rfl).alloc _, by have h := heap_alloc_new (w.alloc (.map #[] 0)) (.cells #[.map (some w.heap.size)] 89); rwa [size_al] at h, by omega⟩⟩
  have HB0 : Aside0 (Below w.heap.size w ((w.alloc (.map #[] 0)).alloc (.cells #[.map (some w.heap.size)] 89))) := ⟨((Below.refl _ w).alloc (Nat.le_refl _) _).alloc (by rw [size_al]; omega) _⟩
  go_enter Tryd.func8, Tryd.ntmps8
  go_wp2_with fail
  refine (names_c _).mono ?_
  rintro e w1 ⟨ad, c, rfl, hc, had, hN, hb1⟩
  have hs2 : w.heap.size + 1 + 1 ≤ ad.block := by rw [size_al, size_al] at had; exact had
  have HW : Aside0 (Nw w w1 (w.heap.size + 1) w.heap.size 0 ad) := ⟨⟨HA0.out.below hb1, HB0.out.trans (hb1.mono HB0.out.size), hN⟩⟩
  have n1 : ad.block ≠ w.heap.size + 1 := by omega
  have n2 : ad.block ≠ w.heap.size := by omega
  have hgw : w.heap.size ≤ w.heap.size + 1 := by omega
  obtain ⟨g, hg⟩ : ∃ g, g = w.heap.size + 1 := ⟨_, rfl⟩
  obtain ⟨b, hb⟩ : ∃ b, b = w.heap.size := ⟨_, rfl⟩
  rw [← hg] at HW n1 hgw ⊢
  rw [← hb] at HW n2 ⊢
  have hbw : w.heap.size ≤ b := by omega
  clear hN hb1 HA0 HB0 had hs2 hg hb hmm
  go_wp2_with fail
  go_loopg [9] 24 (fun gg v9 wr => ∃ (j : Nat), v9 = .int .i64 j ∧ j ≤ 24 ∧ 24 - j ≤ gg ∧ Aside0 (Nw w wr g b j ad))
  case atStart => exact ⟨0, rfl, Nat.zero_le _, by omega, HW⟩
  case round =>
    obtain ⟨j, rfl, hj, hgj, HR⟩ := hrel
    by_cases hlt : j < 24
    · have hji : (j : Int) < 24 := by omega
      obtain ⟨s, hs⟩ := nm_at hlt
      have hcell := HR.out.row j s hs
      have g0 := HR.out.st.gcell
      obtain ⟨w', hput, hA', hM⟩ := HR.out.st.put (show j < maxLen by unfold maxLen; omega) (nm_small hs) 0
      have HN := Aside0.mk (nw_next HR.out hs hA' hM hgw hbw n1 n2)
      clear hs hA' hM HR
      go_wp2
      go_roundg (24 - (j + 1))
      case measure => omega
      case rel => exact ⟨j + 1, by go_num, by omega, by omega, HN⟩
    · have hji : ¬ (j : Int) < 24 := by omega
      obtain rfl : j = 24 := by omega
      go_wp2
      go_ret
      first | exact ⟨g, rfl, b, HR.out.st, hgw, hbw, HR.out.bel⟩ | exact ⟨g, rfl, hgw, b, HR.out.st, hbw, HR.out.bel⟩ | exact ⟨g, b, rfl, HR.out.st, hgw, hbw, HR.out.bel⟩
end Go.Proofs.YteddljbdjgdlnaaDoor.St
end
section
namespace Go.Proofs.YteddljbdjgdlnaaDoor.St
open Go.RowKit Go.Proofs.YteddljbdjgdlnaaDoorW.PrintWords Go.Proofs.YteddljbdjgdlnaaDoorW.PrintLast Go.Proofs.YteddljbdjgdlnaaDoorW.PrintMore Go.WideMaps Go.Proofs.YteddljbdjgdlnaaDoor.XSb
set_option linter.unusedVariables false
set_option linter.unusedSimpArgs false
attribute [local go_sem ↓] Go.wp_at_zero Go.wp_at_succ
abbrev Inc := List (ByteArray × Int)
def app (f : Figs) (l : Inc) : Figs := l.foldl (fun f p => addF f p.1 p.2) f
theorem app_nil (f : Figs) : app f [] = f := rfl
theorem app_snoc (f : Figs) (l : Inc) (s : ByteArray) (n : Int) : app f (l ++ [(s, n)]) = addF (app f l) s n := by unfold app; rw [List.foldl_append]; rfl
theorem app_append (f : Figs) (l k : Inc) : app f (l ++ k) = app (app f l) k := by unfold app; rw [List.foldl_append]
structure Did (w0 w : World) (g b c : Nat) (f : Figs) (l : Inc) : Prop where
  at_ : At w g b (c + l.length) nm24 (app f l)
  mov : Mut g b w0 w
theorem Did.start {w : World} {g b c : Nat} {f : Figs} (h : At w g b c nm24 f) : Did w w g b c f [] := ⟨h, Mut.refl g b w⟩
theorem Did.below {w0 w w' : World} {g b c : Nat} {f : Figs} {l : Inc} (h : Did w0 w g b c f l) (hb : Below w.heap.size w w') : Did w0 w' g b c f l := ⟨h.at_.below hb, h.mov.then_below hb⟩
theorem Did.then {w0 w w' : World} {g b c : Nat} {f : Figs} {l k : Inc} (h : Did w0 w g b c f l) (d : Did w w' g b (c + l.length) (app f l) k) : Did w0 w' g b c f (l ++ k) :=
  ⟨by rw [List.length_append, app_append, ← Nat.add_assoc]; exact d.at_, h.mov.trans d.mov⟩
theorem has_small {s : ByteArray} (h : has s nm24 = true) : s.size ≤ maxLen := by
  obtain ⟨j, hj⟩ := List.getElem?_of_mem (has_mem h)
  exact nm_small hj
theorem more_d {w0 w : World} {g b c : Nat} {f : Figs} {l : Inc} (h : Did w0 w g b c f l) (s : ByteArray) (n : Int) (hc : c + l.length < maxLen) (hin : has s nm24 = true) (hn : n ≤ 9223372036854775807) :
    Calls Tryd.prog 66 #[.pointer (some ⟨g, 0, none⟩), .string s, .int .i64 n] w fun e w' => e = .returned (.tuple #[]) ∧ Did w0 w' g b c f (l ++ [(s, n)]) :=
  (more_calls w g b _ nm24 _ s n h.at_ hc hin (has_small hin) hn).mono fun e w' h' => ⟨h'.1, by rw [List.length_append, app_snoc]; exact h'.2.1, h.mov.trans h'.2.2⟩
structure Ev where
  who : Int
  kind : Int
  ka : Option Addr
  nk : Nat
  kc : Nat
  flags : Int
  exp : Int
  value : ByteArray
  cas : Int
  delta : Int
  quiet : Bool
  now : Int
  code : Int
  ha : Option Addr
  nh : Nat
  hc : Nat
  n : Int
  da : Option Addr
  nd : Nat
  dc : Nat
def Ev.cells (e : Ev) : Array Value := #[.int .i64 e.who, .int .i64 e.kind, .slice e.ka e.nk e.kc, .int .u32 e.flags, .int .i64 e.exp, .string e.value, .int .u64 e.cas, .int .u64 e.delta, .bool e.quiet, .int .i64 e.now, .int .i64 e.code, .slice e.ha e.nh e.hc, .int .u64 e.n, .slice e.da e.nd e.dc]
def readsI (kind nk nh : Int) : Inc := [(Nm.cmd_get, nk), (Nm.get_hits, nh), (Nm.get_misses, nk - nh)] ++ if kind = 3 ∨ kind = 4 then [(Nm.cmd_touch, nh), (Nm.touch_hits, nh)] else []
theorem Did.from {w0 w1 w : World} {g b c : Nat} {f : Figs} {l : Inc} (h : Did w1 w g b c f l) (hb : Below w0.heap.size w0 w1) : Did w0 w g b c f l := ⟨h.at_, (Mut.of_below hb).trans h.mov⟩
structure Bx (W0 w : World) (g b c : Nat) (f : Figs) (l : Inc) (T : Nat) (e : Ev) : Prop where
  did : Did W0 w g b c f l
  box : w.heap[T]? = some (.cells e.cells 99)
  n1 : T ≠ g
  n2 : T ≠ b
theorem Bx.start {w : World} {g b c : Nat} {f : Figs} (h : At w g b c nm24 f) (e : Ev) : Bx (w.alloc (.cells e.cells 99)) (w.alloc (.cells e.cells 99)) g b c f [] w.heap.size e :=
  ⟨Did.start (h.alloc _), heap_alloc_new _ _, Nat.ne_of_gt h.lt, Nat.ne_of_gt h.ltb⟩
theorem Bx.then {W0 w w' : World} {g b c : Nat} {f : Figs} {l k : Inc} {T : Nat} {e : Ev} (h : Bx W0 w g b c f l T e) (d : Did w w' g b (c + l.length) (app f l) k) : Bx W0 w' g b c f (l ++ k) T e :=
  ⟨h.did.then d, d.mov.heap h.box h.n1 h.n2, h.n1, h.n2⟩
theorem Bx.below {W0 w w' : World} {g b c : Nat} {f : Figs} {l : Inc} {T : Nat} {e : Ev} (h : Bx W0 w g b c f l T e) (hb : Below w.heap.size w w') : Bx W0 w' g b c f l T e :=
  ⟨h.did.below hb, (hb.block T (blk_lt h.box)).trans h.box, h.n1, h.n2⟩
theorem below_drewN (w : World) (n : Nat) : Below w.heap.size w (w.drewN n) := ⟨rfl, rfl, rfl, Nat.le_refl _, fun _ _ => rfl⟩
theorem Bx.cells {W0 w : World} {g b c : Nat} {f : Figs} {l : Inc} {T : Nat} {e : Ev} (h : Bx W0 w g b c f l T e) :
    w.cell? ⟨T, 0, none⟩ = some (.int .i64 e.who) ∧ w.cell? ⟨T, 1, none⟩ = some (.int .i64 e.kind) ∧ w.cell? ⟨T, 2, none⟩ = some (.slice e.ka e.nk e.kc) ∧ w.cell? ⟨T, 3, none⟩ = some (.int .u32 e.flags) ∧ w.cell? ⟨T, 4, none⟩ = some (.int .i64 e.exp) ∧ w.cell? ⟨T, 5, none⟩ = some (.string e.value) ∧ w.cell? ⟨T, 6, none⟩ = some (.int .u64 e.cas) ∧
    w.cell? ⟨T, 7, none⟩ = some (.int .u64 e.delta) ∧ w.cell? ⟨T, 8, none⟩ = some (.bool e.quiet) ∧ w.cell? ⟨T, 9, none⟩ = some (.int .i64 e.now) ∧ w.cell? ⟨T, 10, none⟩ = some (.int .i64 e.code) ∧ w.cell? ⟨T, 11, none⟩ = some (.slice e.ha e.nh e.hc) ∧ w.cell? ⟨T, 12, none⟩ = some (.int .u64 e.n) ∧ w.cell? ⟨T, 13, none⟩ = some (.slice e.da e.nd e.dc) :=
  ⟨fresh_cell h.box 0, fresh_cell h.box 1, fresh_cell h.box 2, fresh_cell h.box 3, fresh_cell h.box 4, fresh_cell h.box 5, fresh_cell h.box 6, fresh_cell h.box 7, fresh_cell h.box 8, fresh_cell h.box 9, fresh_cell h.box 10, fresh_cell h.box 11, fresh_cell h.box 12, fresh_cell h.box 13⟩
theorem more_b {W0 w : World} {g b c : Nat} {f : Figs} {l : Inc} {T : Nat} {e : Ev} (h : Bx W0 w g b c f l T e) (s : ByteArray) (n : Int) (hc : c + l.length < maxLen) (hin : has s nm24 = true) (hn : n ≤ 9223372036854775807) :
    Calls Tryd.prog 66 #[.pointer (some ⟨g, 0, none⟩), .string s, .int .i64 n] w fun x w' => x = .returned (.tuple #[]) ∧ Bx W0 w' g b c f (l ++ [(s, n)]) T e :=
  (more_d (Did.start h.did.at_) s n hc hin hn).mono fun e w' h' => ⟨h'.1, h.then h'.2⟩
set_option maxHeartbeats 4000000 in
set_option maxRecDepth 100000 in
theorem reads_calls (w : World) (g b c : Nat) (f : Figs) (e : Ev) (hA : At w g b c nm24 f) (hc : c + 100 < maxLen) (hk : e.nk ≤ maxLen) (hh : e.nh ≤ maxLen) :
    Calls Tryd.prog 84 #[.pointer (some ⟨g, 0, none⟩), .agg e.cells] w fun x w' => x = .returned (.tuple #[]) ∧ Did w w' g b c f (readsI e.kind e.nk e.nh) := by
  have B0 := Aside0.mk (Bx.start hA e)
  have HB := Aside0.mk ((Below.refl w.heap.size w).alloc (Nat.le_refl _) (.cells e.cells 99))
  obtain ⟨t0, t1, t2, t3, t4, t5, t6, t7, t8, t9, t10, t11, t12, t13⟩ := B0.out.cells
  have hkb : (e.nk : Int) ≤ 9223372036854775807 := by unfold maxLen at hk; omega
  have hhb : (e.nh : Int) ≤ 9223372036854775807 := by unfold maxLen at hh; omega
  clear hA
  unfold Ev.cells
  go_enter Tryd.func84, Tryd.ntmps84
  go_upto_region 1 with fail
  change Code.wp _ _ _ _ (w.alloc (.cells e.cells 99))
  obtain ⟨W0, hW0⟩ : ∃ W0, W0 = w.alloc (.cells e.cells 99) := ⟨_, rfl⟩
  rw [← hW0] at B0 HB t1 t2 t11 ⊢
  clear hW0 t0 t3 t4 t5 t6 t7 t8 t9 t10 t12 t13 hk hh
  go_quiet (fail)
  go_wp2_with fail
  refine (more_b (B0.out.below (below_drewN _ _)) Nm.cmd_get e.nk (by simp; omega) (by kernel_rfl) (by omega)).mono ?_
  rintro x w1 ⟨rfl, hB⟩
  have B1 := Aside0.mk hB
  clear hB t1 t2 t11 B0
  go_wp2_with fail
  refine (more_b B1.out Nm.get_hits e.nh (by simp; omega) (by kernel_rfl) (by omega)).mono ?_
  rintro x w2 ⟨rfl, hB⟩
  have B2 := Aside0.mk hB
  clear hB B1
  go_wp2_with fail
  refine (more_b B2.out Nm.get_misses (e.nk - e.nh) (by simp; omega) (by kernel_rfl) (by omega)).mono ?_
  rintro x w3 ⟨rfl, hB⟩
  have B3 := Aside0.mk hB
  obtain ⟨t0, t1, t2, t3, t4, t5, t6, t7, t8, t9, t10, t11, t12, t13⟩ := B3.out.cells
  clear hB B2 t0 t2 t3 t4 t5 t6 t7 t8 t9 t10 t11 t12 t13
  by_cases hk : e.kind = 3 ∨ e.kind = 4
  · have hi : readsI e.kind e.nk e.nh = [(Nm.cmd_get, (e.nk : Int)), (Nm.get_hits, (e.nh : Int)), (Nm.get_misses, (e.nk : Int) - e.nh)] ++ [(Nm.cmd_touch, (e.nh : Int)), (Nm.touch_hits, (e.nh : Int))] := by unfold readsI; rw [if_pos hk]
    have HI := Lib.hid hi
    obtain ⟨q1, q2, e1, e2, hqq⟩ : ∃ q1 q2, (e.kind == 3) = q1 ∧ (e.kind == 4) = q2 ∧ (q1 = true ∨ q1 = false ∧ q2 = true) := by
      refine ⟨_, _, rfl, rfl, ?_⟩
      rcases hk with h | h
      · exact .inl (beq_iff_eq.2 h)
      · rw [h]; exact .inr ⟨rfl, rfl⟩
    clear hk hi
    rcases hqq with rfl | ⟨rfl, rfl⟩
    all_goals
      go_wp2_with fail
      refine (more_b B3.out Nm.cmd_touch e.nh (by simp; omega) (by kernel_rfl) (by omega)).mono ?_
      rintro x w4 ⟨rfl, hB⟩
      have B4 := Aside0.mk hB
      clear hB B3 t1
      go_wp2_with fail
      refine (more_b B4.out Nm.touch_hits e.nh (by simp; omega) (by kernel_rfl) (by omega)).mono ?_
      rintro x w5 ⟨rfl, hB⟩
      have B5 := Aside0.mk hB
      clear hB B4
      go_wp2
      go_end0
      rw [HI.out]
      exact ⟨rfl, B5.out.did.from HB.out⟩
  · have hi : readsI e.kind e.nk e.nh = [(Nm.cmd_get, (e.nk : Int)), (Nm.get_hits, (e.nh : Int)), (Nm.get_misses, (e.nk : Int) - e.nh)] := by unfold readsI; rw [if_neg hk, List.append_nil]
    have HI := Lib.hid hi
    have e1 : (e.kind == 3) = false := beq_eq_false_iff_ne.2 (fun h => hk (.inl h))
    have e2 : (e.kind == 4) = false := beq_eq_false_iff_ne.2 (fun h => hk (.inr h))
    clear hk hi
    go_wp2
    go_end0
    rw [HI.out]
    exact ⟨rfl, B3.out.did.from HB.out⟩
end Go.Proofs.YteddljbdjgdlnaaDoor.St
end
section
namespace Go.Proofs.YteddljbdjgdlnaaDoor.St
open Go.RowKit Go.Proofs.YteddljbdjgdlnaaDoorW.PrintWords Go.Proofs.YteddljbdjgdlnaaDoorW.PrintLast Go.Proofs.YteddljbdjgdlnaaDoorW.PrintMore Go.WideMaps Go.Proofs.YteddljbdjgdlnaaDoor.XSb
set_option linter.unusedVariables false
set_option linter.unusedSimpArgs false
attribute [local go_sem ↓] Go.wp_at_zero Go.wp_at_succ
def hits : ByteArray := ⟨#[95, 104, 105, 116, 115]⟩
def misses : ByteArray := ⟨#[95, 109, 105, 115, 115, 101, 115]⟩
def foundI (what : ByteArray) (code hit : Int) : Inc := if code = hit then [(what ++ hits, 1)] else if code = 5 then [(what ++ misses, 1)] else []
theorem found_len (what : ByteArray) (code hit : Int) : (foundI what code hit).length ≤ 1 := by
  unfold foundI
  split
  · exact Nat.le_refl 1
  · split
    · exact Nat.le_refl 1
    · exact Nat.zero_le 1
set_option maxHeartbeats 2000000 in
theorem found_d (w : World) (g b c : Nat) (f : Figs) (what : ByteArray) (code hit : Int) (hA : At w g b c nm24 f) (hc : c + 100 < maxLen) (hw : what.size ≤ 100) (h1 : has (what ++ hits) nm24 = true) (h2 : has (what ++ misses) nm24 = true) :
    Calls Tryd.prog 85 #[.pointer (some ⟨g, 0, none⟩), .string what, .int .i64 code, .int .i64 hit] w fun x w' => x = .returned (.tuple #[]) ∧ Did w w' g b c f (foundI what code hit) := by
  have HD := Aside0.mk (Did.start hA)
  have H1 := Aside0.mk h1
  have H2 := Aside0.mk h2
  have hs1 : (what.size : Int) + 5 ≤ 9223372036854775807 := by omega
  have hs2 : (what.size : Int) + 7 ≤ 9223372036854775807 := by omega
  clear hA h1 h2
  go_enter Tryd.func85, Tryd.ntmps85
  by_cases h : code = hit
  · have HI := Lib.hid (show foundI what code hit = [(what ++ hits, 1)] from if_pos h)
    have e1 : (code == hit) = true := beq_iff_eq.2 h
    clear h
    go_wp2_with fail
    refine (more_d HD.out (what ++ hits) 1 (by simp; omega) H1.out (by omega)).mono ?_
    rintro x w1 ⟨rfl, hB⟩
    have B1 := Aside0.mk hB
    clear hB
    go_wp2
    go_end0
    rw [HI.out]
    exact ⟨rfl, B1.out⟩
  · have e1 : (code == hit) = false := beq_eq_false_iff_ne.2 h
    by_cases h5 : code = 5
    · have HI := Lib.hid (show foundI what code hit = [(what ++ misses, 1)] from (if_neg h).trans (if_pos h5))
      have e2 : (code == 5) = true := beq_iff_eq.2 h5
      clear h h5
      go_wp2_with fail
      refine (more_d HD.out (what ++ misses) 1 (by simp; omega) H2.out (by omega)).mono ?_
      rintro x w1 ⟨rfl, hB⟩
      have B1 := Aside0.mk hB
      clear hB
      go_wp2
      go_end0
      rw [HI.out]
      exact ⟨rfl, B1.out⟩
    · have HI := Lib.hid (show foundI what code hit = [] from (if_neg h).trans (if_neg h5))
      have e2 : (code == 5) = false := beq_eq_false_iff_ne.2 h5
      clear h h5
      go_wp2
      go_end0
      rw [HI.out]
      exact ⟨rfl, HD.out⟩
theorem found_b {W0 w : World} {g b c : Nat} {f : Figs} {l : Inc} {T : Nat} {e : Ev} (h : Bx W0 w g b c f l T e) (what : ByteArray) (code hit : Int) (hc : c + l.length + 100 < maxLen) (hw : what.size ≤ 100) (h1 : has (what ++ hits) nm24 = true) (h2 : has (what ++ misses) nm24 = true) :
    Calls Tryd.prog 85 #[.pointer (some ⟨g, 0, none⟩), .string what, .int .i64 code, .int .i64 hit] w fun x w' => x = .returned (.tuple #[]) ∧ Bx W0 w' g b c f (l ++ foundI what code hit) T e :=
  (found_d w g b _ _ what code hit h.did.at_ hc hw h1 h2).mono fun e w' h' => ⟨h'.1, h.then h'.2⟩
theorem reads_b {W0 w : World} {g b c : Nat} {f : Figs} {l : Inc} {T : Nat} {e : Ev} (h : Bx W0 w g b c f l T e) (e' : Ev) (hc : c + l.length + 100 < maxLen) (hk : e'.nk ≤ maxLen) (hh : e'.nh ≤ maxLen) :
    Calls Tryd.prog 84 #[.pointer (some ⟨g, 0, none⟩), .agg e'.cells] w fun x w' => x = .returned (.tuple #[]) ∧ Bx W0 w' g b c f (l ++ readsI e'.kind e'.nk e'.nh) T e :=
  (reads_calls w g b _ _ e' h.did.at_ hc hk hh).mono fun e w' h' => ⟨h'.1, h.then h'.2⟩
namespace Wt
def cas : ByteArray := ⟨#[99, 97, 115]⟩
def delete : ByteArray := ⟨#[100, 101, 108, 101, 116, 101]⟩
def incr : ByteArray := ⟨#[105, 110, 99, 114]⟩
def decr : ByteArray := ⟨#[100, 101, 99, 114]⟩
def touch : ByteArray := ⟨#[116, 111, 117, 99, 104]⟩
end Wt
def commandI (kind nk nh code : Int) : Inc :=
  if kind = 1 ∨ kind = 2 ∨ kind = 3 ∨ kind = 4 then readsI kind nk nh
  else if kind = 10 then [(Nm.cmd_set, 1)] ++ foundI Wt.cas code 2 ++ if code = 4 then [(Nm.cas_badval, 1)] else []
  else if kind = 5 ∨ kind = 6 ∨ kind = 7 ∨ kind = 8 ∨ kind = 9 then [(Nm.cmd_set, 1)]
  else if kind = 11 then foundI Wt.delete code 6
  else if kind = 12 then foundI Wt.incr code 7
  else if kind = 13 then foundI Wt.decr code 7
  else if kind = 14 then [(Nm.cmd_touch, 1)] ++ foundI Wt.touch code 9
  else if kind = 15 then [(Nm.cmd_flush, 1)]
  else []
def isCmd (kind : Int) : Bool := decide (1 ≤ kind ∧ kind ≤ 15)
theorem command_len (kind nk nh code : Int) : (commandI kind nk nh code).length ≤ 5 := by
  unfold commandI
  have hr : (readsI kind nk nh).length ≤ 5 := by unfold readsI; split <;> simp
  have hf : ∀ x q, (foundI x code q).length ≤ 1 := fun x q => found_len x code q
  have h1 := hf Wt.cas 2
  have h2 := hf Wt.delete 6
  have h3 := hf Wt.incr 7
  have h4 := hf Wt.decr 7
  have h5 := hf Wt.touch 9
  split
  · exact hr
  split
  · rw [List.length_append, List.length_append]
    split <;> simp <;> omega
  split
  · simp
  split
  · omega
  split
  · omega
  split
  · omega
  split
  · rw [List.length_append]; simp; omega
  split
  · simp
  · simp
end Go.Proofs.YteddljbdjgdlnaaDoor.St
end
section
namespace Go.Proofs.YteddljbdjgdlnaaDoor.St
open Go.RowKit Go.Proofs.YteddljbdjgdlnaaDoorW.PrintWords Go.Proofs.YteddljbdjgdlnaaDoorW.PrintLast Go.Proofs.YteddljbdjgdlnaaDoorW.PrintMore Go.WideMaps Go.Proofs.YteddljbdjgdlnaaDoor.XSb
set_option linter.unusedVariables false
set_option linter.unusedSimpArgs false
attribute [local go_sem ↓] Go.wp_at_zero Go.wp_at_succ
set_option maxHeartbeats 16000000 in
set_option maxRecDepth 100000 in
theorem command_calls (w : World) (g b c : Nat) (f : Figs) (e : Ev) (hA : At w g b c nm24 f) (hc : c + 1000 < maxLen) (hk : e.nk ≤ maxLen) (hh : e.nh ≤ maxLen) :
    Calls Tryd.prog 65 #[.pointer (some ⟨g, 0, none⟩), .agg e.cells] w fun x w' => x = .returned (.bool (isCmd e.kind)) ∧ Did w w' g b c f (commandI e.kind e.nk e.nh e.code) := by
  have B0 := Aside0.mk (Bx.start hA e)
  have HB := Aside0.mk ((Below.refl w.heap.size w).alloc (Nat.le_refl _) (.cells e.cells 99))
  obtain ⟨t0, t1, t2, t3, t4, t5, t6, t7, t8, t9, t10, t11, t12, t13⟩ := B0.out.cells
  clear hA
  have hc0 : c + 100 < maxLen := by omega
  have hc1 : c + 1 + 100 < maxLen := by omega
  have hc2 : c + 1 < maxLen := by omega
  have hc3 : ∀ {k : Nat}, k ≤ 1 → c + (1 + k) < maxLen := fun h => by omega
  have hc4 : c < maxLen := by omega
  have hc3' : ∀ code, c + List.length ([] ++ [(Nm.cmd_set, (1 : Int))] ++ foundI Wt.cas code 2) < maxLen := fun code => by
    have := found_len Wt.cas code 2
    simp only [List.nil_append, List.length_append, List.length_singleton]
    omega
  unfold Ev.cells
  go_enter Tryd.func65, Tryd.ntmps65
  go_upto_region 1 with fail
  change Code.wp _ _ _ _ (w.alloc (.cells e.cells 99))
  obtain ⟨W0, hW0⟩ : ∃ W0, W0 = w.alloc (.cells e.cells 99) := ⟨_, rfl⟩
  obtain ⟨T, hT⟩ : ∃ T, T = w.heap.size := ⟨_, rfl⟩
  rw [← hW0] at B0 HB t0 t1 t2 t3 t4 t5 t6 t7 t8 t9 t10 t11 t12 t13 ⊢
  rw [← hT] at B0 t0 t1 t2 t3 t4 t5 t6 t7 t8 t9 t10 t11 t12 t13 ⊢
  clear hW0 hT
  have hcase : e.kind = 1 ∨ e.kind = 2 ∨ e.kind = 3 ∨ e.kind = 4 ∨ e.kind = 5 ∨ e.kind = 6 ∨ e.kind = 7 ∨ e.kind = 8 ∨ e.kind = 9 ∨ e.kind = 10 ∨ e.kind = 11 ∨ e.kind = 12 ∨ e.kind = 13 ∨ e.kind = 14 ∨ e.kind = 15 ∨ ¬ (1 ≤ e.kind ∧ e.kind ≤ 15) := by omega
  rcases hcase with h | h | h | h | h | h | h | h | h | h | h | h | h | h | h | h
  · have HI := Lib.hid (show commandI e.kind e.nk e.nh e.code = readsI 1 e.nk e.nh by unfold commandI; rw [h]; rfl)
    have HK := Lib.hid (show isCmd e.kind = true by rw [h]; rfl)
    have q1 : (e.kind == 1) = true := by rw [h]; rfl
    clear h
    go_wp2_with fail
    refine (reads_b B0.out e hc0 hk hh).mono ?_
    rintro x w1 ⟨rfl, hB⟩
    have B1 := Aside0.mk hB
    obtain ⟨t0, t1, t2, t3, t4, t5, t6, t7, t8, t9, t10, t11, t12, t13⟩ := B1.out.cells
    clear hB B0
    have hh2 : readsI e.kind e.nk e.nh = readsI 1 e.nk e.nh := by rw [beq_iff_eq.1 q1]
    go_wp2
    go_ret
    rw [HI.out, HK.out, ← hh2]
    exact ⟨rfl, B1.out.did.from HB.out⟩
  · have HI := Lib.hid (show commandI e.kind e.nk e.nh e.code = readsI 2 e.nk e.nh by unfold commandI; rw [h]; rfl)
    have HK := Lib.hid (show isCmd e.kind = true by rw [h]; rfl)
    have q1 : (e.kind == 1) = false := by rw [h]; rfl
    have q2 : (e.kind == 2) = true := by rw [h]; rfl
    clear h
    go_wp2_with fail
    refine (reads_b B0.out e hc0 hk hh).mono ?_
    rintro x w1 ⟨rfl, hB⟩
    have B1 := Aside0.mk hB
    obtain ⟨t0, t1, t2, t3, t4, t5, t6, t7, t8, t9, t10, t11, t12, t13⟩ := B1.out.cells
    clear hB B0
    have hh2 : readsI e.kind e.nk e.nh = readsI 2 e.nk e.nh := by rw [beq_iff_eq.1 q2]
    go_wp2
    go_ret
    rw [HI.out, HK.out, ← hh2]
    exact ⟨rfl, B1.out.did.from HB.out⟩
  · have HI := Lib.hid (show commandI e.kind e.nk e.nh e.code = readsI 3 e.nk e.nh by unfold commandI; rw [h]; rfl)
    have HK := Lib.hid (show isCmd e.kind = true by rw [h]; rfl)
    have q1 : (e.kind == 1) = false := by rw [h]; rfl
    have q2 : (e.kind == 2) = false := by rw [h]; rfl
    have q3 : (e.kind == 3) = true := by rw [h]; rfl
    clear h
    go_wp2_with fail
    refine (reads_b B0.out e hc0 hk hh).mono ?_
    rintro x w1 ⟨rfl, hB⟩
    have B1 := Aside0.mk hB
    obtain ⟨t0, t1, t2, t3, t4, t5, t6, t7, t8, t9, t10, t11, t12, t13⟩ := B1.out.cells
    clear hB B0
    have hh2 : readsI e.kind e.nk e.nh = readsI 3 e.nk e.nh := by rw [beq_iff_eq.1 q3]
    go_wp2
    go_ret
    rw [HI.out, HK.out, ← hh2]
    exact ⟨rfl, B1.out.did.from HB.out⟩
  · have HI := Lib.hid (show commandI e.kind e.nk e.nh e.code = readsI 4 e.nk e.nh by unfold commandI; rw [h]; rfl)
    have HK := Lib.hid (show isCmd e.kind = true by rw [h]; rfl)
    have q1 : (e.kind == 1) = false := by rw [h]; rfl
    have q2 : (e.kind == 2) = false := by rw [h]; rfl
    have q3 : (e.kind == 3) = false := by rw [h]; rfl
    have q4 : (e.kind == 4) = true := by rw [h]; rfl
    clear h
    go_wp2_with fail
    refine (reads_b B0.out e hc0 hk hh).mono ?_
    rintro x w1 ⟨rfl, hB⟩
    have B1 := Aside0.mk hB
    obtain ⟨t0, t1, t2, t3, t4, t5, t6, t7, t8, t9, t10, t11, t12, t13⟩ := B1.out.cells
    clear hB B0
    have hh2 : readsI e.kind e.nk e.nh = readsI 4 e.nk e.nh := by rw [beq_iff_eq.1 q4]
    go_wp2
    go_ret
    rw [HI.out, HK.out, ← hh2]
    exact ⟨rfl, B1.out.did.from HB.out⟩
  · have HI := Lib.hid (show commandI e.kind e.nk e.nh e.code = [(Nm.cmd_set, 1)] by unfold commandI; rw [h]; rfl)
    have HK := Lib.hid (show isCmd e.kind = true by rw [h]; rfl)
    have q1 : (e.kind == 1) = false := by rw [h]; rfl
    have q2 : (e.kind == 2) = false := by rw [h]; rfl
    have q3 : (e.kind == 3) = false := by rw [h]; rfl
    have q4 : (e.kind == 4) = false := by rw [h]; rfl
    have q10 : (e.kind == 10) = false := by rw [h]; rfl
    have q5 : (e.kind == 5) = true := by rw [h]; rfl
    clear h
    go_wp2_with fail
    refine (more_b B0.out Nm.cmd_set 1 hc4 (by kernel_rfl) (by decide)).mono ?_
    rintro x w1 ⟨rfl, hB⟩
    have B1 := Aside0.mk hB
    obtain ⟨t0, t1, t2, t3, t4, t5, t6, t7, t8, t9, t10, t11, t12, t13⟩ := B1.out.cells
    clear hB B0
    go_wp2
    go_ret
    rw [HI.out, HK.out]
    exact ⟨rfl, B1.out.did.from HB.out⟩
  · have HI := Lib.hid (show commandI e.kind e.nk e.nh e.code = [(Nm.cmd_set, 1)] by unfold commandI; rw [h]; rfl)
    have HK := Lib.hid (show isCmd e.kind = true by rw [h]; rfl)
    have q1 : (e.kind == 1) = false := by rw [h]; rfl
    have q2 : (e.kind == 2) = false := by rw [h]; rfl
    have q3 : (e.kind == 3) = false := by rw [h]; rfl
    have q4 : (e.kind == 4) = false := by rw [h]; rfl
    have q10 : (e.kind == 10) = false := by rw [h]; rfl
    have q5 : (e.kind == 5) = false := by rw [h]; rfl
    have q6 : (e.kind == 6) = true := by rw [h]; rfl
    clear h
    go_wp2_with fail
    refine (more_b B0.out Nm.cmd_set 1 hc4 (by kernel_rfl) (by decide)).mono ?_
    rintro x w1 ⟨rfl, hB⟩
    have B1 := Aside0.mk hB
    obtain ⟨t0, t1, t2, t3, t4, t5, t6, t7, t8, t9, t10, t11, t12, t13⟩ := B1.out.cells
    clear hB B0
    go_wp2
    go_ret
    rw [HI.out, HK.out]
    exact ⟨rfl, B1.out.did.from HB.out⟩
  · have HI := Lib.hid (show commandI e.kind e.nk e.nh e.code = [(Nm.cmd_set, 1)] by unfold commandI; rw [h]; rfl)
    have HK := Lib.hid (show isCmd e.kind = true by rw [h]; rfl)
    have q1 : (e.kind == 1) = false := by rw [h]; rfl
    have q2 : (e.kind == 2) = false := by rw [h]; rfl
    have q3 : (e.kind == 3) = false := by rw [h]; rfl
    have q4 : (e.kind == 4) = false := by rw [h]; rfl
    have q10 : (e.kind == 10) = false := by rw [h]; rfl
    have q5 : (e.kind == 5) = false := by rw [h]; rfl
    have q6 : (e.kind == 6) = false := by rw [h]; rfl
    have q7 : (e.kind == 7) = true := by rw [h]; rfl
    clear h
    go_wp2_with fail
    refine (more_b B0.out Nm.cmd_set 1 hc4 (by kernel_rfl) (by decide)).mono ?_
    rintro x w1 ⟨rfl, hB⟩
    have B1 := Aside0.mk hB
    obtain ⟨t0, t1, t2, t3, t4, t5, t6, t7, t8, t9, t10, t11, t12, t13⟩ := B1.out.cells
    clear hB B0
    go_wp2
    go_ret
    rw [HI.out, HK.out]
    exact ⟨rfl, B1.out.did.from HB.out⟩
  · have HI := Lib.hid (show commandI e.kind e.nk e.nh e.code = [(Nm.cmd_set, 1)] by unfold commandI; rw [h]; rfl)
    have HK := Lib.hid (show isCmd e.kind = true by rw [h]; rfl)
    have q1 : (e.kind == 1) = false := by rw [h]; rfl
    have q2 : (e.kind == 2) = false := by rw [h]; rfl
    have q3 : (e.kind == 3) = false := by rw [h]; rfl
    have q4 : (e.kind == 4) = false := by rw [h]; rfl
    have q10 : (e.kind == 10) = false := by rw [h]; rfl
    have q5 : (e.kind == 5) = false := by rw [h]; rfl
    have q6 : (e.kind == 6) = false := by rw [h]; rfl
    have q7 : (e.kind == 7) = false := by rw [h]; rfl
    have q8 : (e.kind == 8) = true := by rw [h]; rfl
    clear h
    go_wp2_with fail
    refine (more_b B0.out Nm.cmd_set 1 hc4 (by kernel_rfl) (by decide)).mono ?_
    rintro x w1 ⟨rfl, hB⟩
    have B1 := Aside0.mk hB
    obtain ⟨t0, t1, t2, t3, t4, t5, t6, t7, t8, t9, t10, t11, t12, t13⟩ := B1.out.cells
    clear hB B0
    go_wp2
    go_ret
    rw [HI.out, HK.out]
    exact ⟨rfl, B1.out.did.from HB.out⟩
  · have HI := Lib.hid (show commandI e.kind e.nk e.nh e.code = [(Nm.cmd_set, 1)] by unfold commandI; rw [h]; rfl)
    have HK := Lib.hid (show isCmd e.kind = true by rw [h]; rfl)
    have q1 : (e.kind == 1) = false := by rw [h]; rfl
    have q2 : (e.kind == 2) = false := by rw [h]; rfl
    have q3 : (e.kind == 3) = false := by rw [h]; rfl
    have q4 : (e.kind == 4) = false := by rw [h]; rfl
    have q10 : (e.kind == 10) = false := by rw [h]; rfl
    have q5 : (e.kind == 5) = false := by rw [h]; rfl
    have q6 : (e.kind == 6) = false := by rw [h]; rfl
    have q7 : (e.kind == 7) = false := by rw [h]; rfl
    have q8 : (e.kind == 8) = false := by rw [h]; rfl
    have q9 : (e.kind == 9) = true := by rw [h]; rfl
    clear h
    go_wp2_with fail
    refine (more_b B0.out Nm.cmd_set 1 hc4 (by kernel_rfl) (by decide)).mono ?_
    rintro x w1 ⟨rfl, hB⟩
    have B1 := Aside0.mk hB
    obtain ⟨t0, t1, t2, t3, t4, t5, t6, t7, t8, t9, t10, t11, t12, t13⟩ := B1.out.cells
    clear hB B0
    go_wp2
    go_ret
    rw [HI.out, HK.out]
    exact ⟨rfl, B1.out.did.from HB.out⟩
  · have HI := Lib.hid (show commandI e.kind e.nk e.nh e.code = [(Nm.cmd_set, 1)] ++ foundI Wt.cas e.code 2 ++ if e.code = 4 then [(Nm.cas_badval, 1)] else [] by unfold commandI; rw [h]; rfl)
    have HK := Lib.hid (show isCmd e.kind = true by rw [h]; rfl)
    have q1 : (e.kind == 1) = false := by rw [h]; rfl
    have q2 : (e.kind == 2) = false := by rw [h]; rfl
    have q3 : (e.kind == 3) = false := by rw [h]; rfl
    have q4 : (e.kind == 4) = false := by rw [h]; rfl
    have q10 : (e.kind == 10) = true := by rw [h]; rfl
    clear h
    go_wp2_with fail
    refine (more_b B0.out Nm.cmd_set 1 hc4 (by kernel_rfl) (by decide)).mono ?_
    rintro x w1 ⟨rfl, hB⟩
    have B1 := Aside0.mk hB
    obtain ⟨t0, t1, t2, t3, t4, t5, t6, t7, t8, t9, t10, t11, t12, t13⟩ := B1.out.cells
    clear hB B0
    go_wp2_with fail
    refine (found_b B1.out Wt.cas e.code 2 hc1 (by decide) (by kernel_rfl) (by kernel_rfl)).mono ?_
    rintro x w2 ⟨rfl, hB⟩
    have B2 := Aside0.mk hB
    obtain ⟨t0, t1, t2, t3, t4, t5, t6, t7, t8, t9, t10, t11, t12, t13⟩ := B2.out.cells
    clear hB B1
    by_cases h4 : e.code = 4
    · have r4 : (e.code == 4) = true := beq_iff_eq.2 h4
      rw [if_pos h4] at HI
      clear h4
      go_wp2_with fail
      refine (more_b B2.out Nm.cas_badval 1 (hc3' e.code) (by kernel_rfl) (by decide)).mono ?_
      rintro x w3 ⟨rfl, hB⟩
      have B3 := Aside0.mk hB
      obtain ⟨t0, t1, t2, t3, t4, t5, t6, t7, t8, t9, t10, t11, t12, t13⟩ := B3.out.cells
      clear hB B2
      go_wp2
      go_ret
      rw [HI.out, HK.out]
      exact ⟨rfl, B3.out.did.from HB.out⟩
    · have r4 : (e.code == 4) = false := beq_eq_false_iff_ne.2 h4
      rw [if_neg h4, List.append_nil] at HI
      clear h4
      go_wp2
      go_ret
      rw [HI.out, HK.out]
      exact ⟨rfl, B2.out.did.from HB.out⟩
  · have HI := Lib.hid (show commandI e.kind e.nk e.nh e.code = foundI Wt.delete e.code 6 by unfold commandI; rw [h]; rfl)
    have HK := Lib.hid (show isCmd e.kind = true by rw [h]; rfl)
    have q1 : (e.kind == 1) = false := by rw [h]; rfl
    have q2 : (e.kind == 2) = false := by rw [h]; rfl
    have q3 : (e.kind == 3) = false := by rw [h]; rfl
    have q4 : (e.kind == 4) = false := by rw [h]; rfl
    have q10 : (e.kind == 10) = false := by rw [h]; rfl
    have q5 : (e.kind == 5) = false := by rw [h]; rfl
    have q6 : (e.kind == 6) = false := by rw [h]; rfl
    have q7 : (e.kind == 7) = false := by rw [h]; rfl
    have q8 : (e.kind == 8) = false := by rw [h]; rfl
    have q9 : (e.kind == 9) = false := by rw [h]; rfl
    have q11 : (e.kind == 11) = true := by rw [h]; rfl
    clear h
    go_wp2_with fail
    refine (found_b B0.out Wt.delete e.code 6 hc0 (by decide) (by kernel_rfl) (by kernel_rfl)).mono ?_
    rintro x w1 ⟨rfl, hB⟩
    have B1 := Aside0.mk hB
    obtain ⟨t0, t1, t2, t3, t4, t5, t6, t7, t8, t9, t10, t11, t12, t13⟩ := B1.out.cells
    clear hB B0
    go_wp2
    go_ret
    rw [HI.out, HK.out]
    exact ⟨rfl, B1.out.did.from HB.out⟩
  · have HI := Lib.hid (show commandI e.kind e.nk e.nh e.code = foundI Wt.incr e.code 7 by unfold commandI; rw [h]; rfl)
    have HK := Lib.hid (show isCmd e.kind = true by rw [h]; rfl)
    have q1 : (e.kind == 1) = false := by rw [h]; rfl
    have q2 : (e.kind == 2) = false := by rw [h]; rfl
    have q3 : (e.kind == 3) = false := by rw [h]; rfl
    have q4 : (e.kind == 4) = false := by rw [h]; rfl
    have q10 : (e.kind == 10) = false := by rw [h]; rfl
    have q5 : (e.kind == 5) = false := by rw [h]; rfl
    have q6 : (e.kind == 6) = false := by rw [h]; rfl
    have q7 : (e.kind == 7) = false := by rw [h]; rfl
    have q8 : (e.kind == 8) = false := by rw [h]; rfl
    have q9 : (e.kind == 9) = false := by rw [h]; rfl
    have q11 : (e.kind == 11) = false := by rw [h]; rfl
    have q12 : (e.kind == 12) = true := by rw [h]; rfl
    clear h
    go_wp2_with fail
    refine (found_b B0.out Wt.incr e.code 7 hc0 (by decide) (by kernel_rfl) (by kernel_rfl)).mono ?_
    rintro x w1 ⟨rfl, hB⟩
    have B1 := Aside0.mk hB
    obtain ⟨t0, t1, t2, t3, t4, t5, t6, t7, t8, t9, t10, t11, t12, t13⟩ := B1.out.cells
    clear hB B0
    go_wp2
    go_ret
    rw [HI.out, HK.out]
    exact ⟨rfl, B1.out.did.from HB.out⟩
  · have HI := Lib.hid (show commandI e.kind e.nk e.nh e.code = foundI Wt.decr e.code 7 by unfold commandI; rw [h]; rfl)
    have HK := Lib.hid (show isCmd e.kind = true by rw [h]; rfl)
    have q1 : (e.kind == 1) = false := by rw [h]; rfl
    have q2 : (e.kind == 2) = false := by rw [h]; rfl
    have q3 : (e.kind == 3) = false := by rw [h]; rfl
    have q4 : (e.kind == 4) = false := by rw [h]; rfl
    have q10 : (e.kind == 10) = false := by rw [h]; rfl
    have q5 : (e.kind == 5) = false := by rw [h]; rfl
    have q6 : (e.kind == 6) = false := by rw [h]; rfl
    have q7 : (e.kind == 7) = false := by rw [h]; rfl
    have q8 : (e.kind == 8) = false := by rw [h]; rfl
    have q9 : (e.kind == 9) = false := by rw [h]; rfl
    have q11 : (e.kind == 11) = false := by rw [h]; rfl
    have q12 : (e.kind == 12) = false := by rw [h]; rfl
    have q13 : (e.kind == 13) = true := by rw [h]; rfl
    clear h
    go_wp2_with fail
    refine (found_b B0.out Wt.decr e.code 7 hc0 (by decide) (by kernel_rfl) (by kernel_rfl)).mono ?_
    rintro x w1 ⟨rfl, hB⟩
    have B1 := Aside0.mk hB
    obtain ⟨t0, t1, t2, t3, t4, t5, t6, t7, t8, t9, t10, t11, t12, t13⟩ := B1.out.cells
    clear hB B0
    go_wp2
    go_ret
    rw [HI.out, HK.out]
    exact ⟨rfl, B1.out.did.from HB.out⟩
  · have HI := Lib.hid (show commandI e.kind e.nk e.nh e.code = [(Nm.cmd_touch, 1)] ++ foundI Wt.touch e.code 9 by unfold commandI; rw [h]; rfl)
    have HK := Lib.hid (show isCmd e.kind = true by rw [h]; rfl)
    have q1 : (e.kind == 1) = false := by rw [h]; rfl
    have q2 : (e.kind == 2) = false := by rw [h]; rfl
    have q3 : (e.kind == 3) = false := by rw [h]; rfl
    have q4 : (e.kind == 4) = false := by rw [h]; rfl
    have q10 : (e.kind == 10) = false := by rw [h]; rfl
    have q5 : (e.kind == 5) = false := by rw [h]; rfl
    have q6 : (e.kind == 6) = false := by rw [h]; rfl
    have q7 : (e.kind == 7) = false := by rw [h]; rfl
    have q8 : (e.kind == 8) = false := by rw [h]; rfl
    have q9 : (e.kind == 9) = false := by rw [h]; rfl
    have q11 : (e.kind == 11) = false := by rw [h]; rfl
    have q12 : (e.kind == 12) = false := by rw [h]; rfl
    have q13 : (e.kind == 13) = false := by rw [h]; rfl
    have q14 : (e.kind == 14) = true := by rw [h]; rfl
    clear h
    go_wp2_with fail
    refine (more_b B0.out Nm.cmd_touch 1 hc4 (by kernel_rfl) (by decide)).mono ?_
    rintro x w1 ⟨rfl, hB⟩
    have B1 := Aside0.mk hB
    obtain ⟨t0, t1, t2, t3, t4, t5, t6, t7, t8, t9, t10, t11, t12, t13⟩ := B1.out.cells
    clear hB B0
    go_wp2_with fail
    refine (found_b B1.out Wt.touch e.code 9 hc1 (by decide) (by kernel_rfl) (by kernel_rfl)).mono ?_
    rintro x w2 ⟨rfl, hB⟩
    have B2 := Aside0.mk hB
    obtain ⟨t0, t1, t2, t3, t4, t5, t6, t7, t8, t9, t10, t11, t12, t13⟩ := B2.out.cells
    clear hB B1
    go_wp2
    go_ret
    rw [HI.out, HK.out]
    exact ⟨rfl, B2.out.did.from HB.out⟩
  · have HI := Lib.hid (show commandI e.kind e.nk e.nh e.code = [(Nm.cmd_flush, 1)] by unfold commandI; rw [h]; rfl)
    have HK := Lib.hid (show isCmd e.kind = true by rw [h]; rfl)
    have q1 : (e.kind == 1) = false := by rw [h]; rfl
    have q2 : (e.kind == 2) = false := by rw [h]; rfl
    have q3 : (e.kind == 3) = false := by rw [h]; rfl
    have q4 : (e.kind == 4) = false := by rw [h]; rfl
    have q10 : (e.kind == 10) = false := by rw [h]; rfl
    have q5 : (e.kind == 5) = false := by rw [h]; rfl
    have q6 : (e.kind == 6) = false := by rw [h]; rfl
    have q7 : (e.kind == 7) = false := by rw [h]; rfl
    have q8 : (e.kind == 8) = false := by rw [h]; rfl
    have q9 : (e.kind == 9) = false := by rw [h]; rfl
    have q11 : (e.kind == 11) = false := by rw [h]; rfl
    have q12 : (e.kind == 12) = false := by rw [h]; rfl
    have q13 : (e.kind == 13) = false := by rw [h]; rfl
    have q14 : (e.kind == 14) = false := by rw [h]; rfl
    have q15 : (e.kind == 15) = true := by rw [h]; rfl
    clear h
    go_wp2_with fail
    refine (more_b B0.out Nm.cmd_flush 1 hc4 (by kernel_rfl) (by decide)).mono ?_
    rintro x w1 ⟨rfl, hB⟩
    have B1 := Aside0.mk hB
    obtain ⟨t0, t1, t2, t3, t4, t5, t6, t7, t8, t9, t10, t11, t12, t13⟩ := B1.out.cells
    clear hB B0
    go_wp2
    go_ret
    rw [HI.out, HK.out]
    exact ⟨rfl, B1.out.did.from HB.out⟩
  · have HI := Lib.hid (show commandI e.kind e.nk e.nh e.code = [] by unfold commandI; rw [if_neg (by omega), if_neg (by omega), if_neg (by omega), if_neg (by omega), if_neg (by omega), if_neg (by omega), if_neg (by omega), if_neg (by omega)])
    have HK := Lib.hid (show isCmd e.kind = false from decide_eq_false h)
    have q1 : (e.kind == 1) = false := beq_eq_false_iff_ne.2 (by omega)
    have q2 : (e.kind == 2) = false := beq_eq_false_iff_ne.2 (by omega)
    have q3 : (e.kind == 3) = false := beq_eq_false_iff_ne.2 (by omega)
    have q4 : (e.kind == 4) = false := beq_eq_false_iff_ne.2 (by omega)
    have q10 : (e.kind == 10) = false := beq_eq_false_iff_ne.2 (by omega)
    have q5 : (e.kind == 5) = false := beq_eq_false_iff_ne.2 (by omega)
    have q6 : (e.kind == 6) = false := beq_eq_false_iff_ne.2 (by omega)
    have q7 : (e.kind == 7) = false := beq_eq_false_iff_ne.2 (by omega)
    have q8 : (e.kind == 8) = false := beq_eq_false_iff_ne.2 (by omega)
    have q9 : (e.kind == 9) = false := beq_eq_false_iff_ne.2 (by omega)
    have q11 : (e.kind == 11) = false := beq_eq_false_iff_ne.2 (by omega)
    have q12 : (e.kind == 12) = false := beq_eq_false_iff_ne.2 (by omega)
    have q13 : (e.kind == 13) = false := beq_eq_false_iff_ne.2 (by omega)
    have q14 : (e.kind == 14) = false := beq_eq_false_iff_ne.2 (by omega)
    have q15 : (e.kind == 15) = false := beq_eq_false_iff_ne.2 (by omega)
    clear h
    go_wp2
    go_ret
    rw [HI.out, HK.out]
    exact ⟨rfl, B0.out.did.from HB.out⟩
end Go.Proofs.YteddljbdjgdlnaaDoor.St
end
section
namespace Go.Proofs.YteddljbdjgdlnaaDoor.St
open Go.RowKit Go.Proofs.YteddljbdjgdlnaaDoorW.PrintWords Go.Proofs.YteddljbdjgdlnaaDoorW.PrintLast Go.Proofs.YteddljbdjgdlnaaDoorW.PrintMore Go.WideMaps Go.Proofs.YteddljbdjgdlnaaDoor.XSb
set_option linter.unusedVariables false
set_option linter.unusedSimpArgs false
attribute [local go_sem ↓] Go.wp_at_zero Go.wp_at_succ
def codeI (code : Int) : Inc := if code = 3 then [(Nm.not_stored, 1)] else if code = 12 then [(Nm.too_large, 1)] else if code = 11 then [(Nm.no_memory, 1)] else if code = 8 then [(Nm.no_number, 1)] else []
def tellI (kind code : Int) : Inc := if isCmd kind = true then codeI code else []
def whyI (y : Int) : Inc := if y = 1 then [(Nm.evictions, 1)] else if y = 2 then [(Nm.moved, 1)] else if y = 3 then [(Nm.failed, 1)] else []
theorem why_len (y : Int) : (whyI y).length ≤ 1 := by
  unfold whyI
  repeat' split
  all_goals simp
theorem whys_len : ∀ l : List Int, (l.flatMap whyI).length ≤ l.length
  | [] => Nat.le_refl 0
  | y :: l => by
    rw [List.flatMap_cons, List.length_append, List.length_cons]
    have := why_len y
    have := whys_len l
    omega
theorem tell_len (kind code : Int) : (tellI kind code).length ≤ 1 := by
  unfold tellI codeI
  repeat' split
  all_goals simp
def noteI (kind nk nh code : Int) (whys : List Int) : Inc := commandI kind nk nh code ++ tellI kind code ++ whys.flatMap whyI
theorem note_len (kind nk nh code : Int) (whys : List Int) : (noteI kind nk nh code whys).length ≤ 6 + whys.length := by
  unfold noteI
  rw [List.length_append, List.length_append]
  have := command_len kind nk nh code
  have := tell_len kind code
  have := whys_len whys
  omega
def DropsAt (w : World) (g b : Nat) (A : Option Addr) (whys : List Int) : Prop := ∀ (j : Nat) y, whys[j]? = some y → ∃ ad key, A = some ad ∧ ad.block ≠ g ∧ ad.block ≠ b ∧ w.cell? (ad.add (j * 2)) = some (.string key) ∧ w.cell? ⟨(ad.add (j * 2)).block, (ad.add (j * 2)).off + 1, none⟩ = some (.int .i64 y)
theorem DropsAt.below {w w' : World} {g b : Nat} {A : Option Addr} {l : List Int} (h : DropsAt w g b A l) (hb : Below w.heap.size w w') : DropsAt w' g b A l := fun j y hy => by
  obtain ⟨ad, key, e, h1, h2, h3, h4⟩ := h j y hy
  exact ⟨ad, key, e, h1, h2, keepC hb h3, keepC hb h4⟩
theorem DropsAt.mov {w w' : World} {g b : Nat} {A : Option Addr} {l : List Int} (h : DropsAt w g b A l) (m : Mut g b w w') : DropsAt w' g b A l := fun j y hy => by
  obtain ⟨ad, key, e, h1, h2, h3, h4⟩ := h j y hy
  exact ⟨ad, key, e, h1, h2, m.cell h3 (by rw [add_block]; exact h1) (by rw [add_block]; exact h2), m.cell h4 (by rw [add_block]; exact h1) (by rw [add_block]; exact h2)⟩
theorem command_b {W0 w : World} {g b c : Nat} {f : Figs} {l : Inc} {T : Nat} {e : Ev} (h : Bx W0 w g b c f l T e) (e' : Ev) (hc : c + l.length + 1000 < maxLen) (hk : e'.nk ≤ maxLen) (hh : e'.nh ≤ maxLen) :
    Calls Tryd.prog 65 #[.pointer (some ⟨g, 0, none⟩), .agg e'.cells] w fun x w' => x = .returned (.bool (isCmd e'.kind)) ∧ Bx W0 w' g b c f (l ++ commandI e'.kind e'.nk e'.nh e'.code) T e ∧ Mut g b w w' :=
  (command_calls w g b _ _ e' h.did.at_ hc hk hh).mono fun e w' h' => ⟨h'.1, h.then h'.2, h'.2.mov⟩
theorem more_m {W0 w : World} {g b c : Nat} {f : Figs} {l : Inc} {T : Nat} {e : Ev} (h : Bx W0 w g b c f l T e) (s : ByteArray) (n : Int) (hc : c + l.length < maxLen) (hin : has s nm24 = true) (hn : n ≤ 9223372036854775807) :
    Calls Tryd.prog 66 #[.pointer (some ⟨g, 0, none⟩), .string s, .int .i64 n] w fun x w' => x = .returned (.tuple #[]) ∧ Bx W0 w' g b c f (l ++ [(s, n)]) T e ∧ Mut g b w w' :=
  (more_d (Did.start h.did.at_) s n hc hin hn).mono fun e w' h' => ⟨h'.1, h.then h'.2, h'.2.mov⟩
theorem take_flat {l : List Int} {j : Nat} {y : Int} (h : l[j]? = some y) : (l.take (j + 1)).flatMap whyI = (l.take j).flatMap whyI ++ whyI y := by
  rw [List.take_add_one, h, List.flatMap_append]
  simp
set_option maxHeartbeats 16000000 in
set_option maxRecDepth 100000 in
theorem Note_calls (w : World) (g b c : Nat) (f : Figs) (e : Ev) (whys : List Int) (hA : At w g b c nm24 f) (hl : whys.length = e.nd) (hD : DropsAt w g b e.da whys) (hc : c + 2000 + whys.length < maxLen) (hk : e.nk ≤ maxLen) (hh : e.nh ≤ maxLen) :
    Calls Tryd.prog 35 #[.pointer (some ⟨g, 0, none⟩), .agg e.cells] w fun x w' => x = .returned (.tuple #[]) ∧ Did w w' g b c f (noteI e.kind e.nk e.nh e.code whys) := by
  have B0 := Aside0.mk (Bx.start hA e)
  have HB := Aside0.mk ((Below.refl w.heap.size w).alloc (Nat.le_refl _) (.cells e.cells 99))
  have HD := Aside0.mk (hD.below HB.out)
  obtain ⟨t0, t1, t2, t3, t4, t5, t6, t7, t8, t9, t10, t11, t12, t13⟩ := B0.out.cells
  have hndm : (e.nd : Int) ≤ 9223372036854775807 := by unfold maxLen at hc; omega
  have HL := Lib.hid hl
  clear hA hD hl
  unfold Ev.cells
  go_enter Tryd.func35, Tryd.ntmps35
  go_upto_region 1 with fail
  change Code.wp _ _ _ _ (w.alloc (.cells e.cells 99))
  obtain ⟨W0, hW0⟩ : ∃ W0, W0 = w.alloc (.cells e.cells 99) := ⟨_, rfl⟩
  obtain ⟨T, hT⟩ : ∃ T, T = w.heap.size := ⟨_, rfl⟩
  rw [← hW0] at B0 HB HD t0 t1 t2 t3 t4 t5 t6 t7 t8 t9 t10 t11 t12 t13 ⊢
  rw [← hT] at B0 t0 t1 t2 t3 t4 t5 t6 t7 t8 t9 t10 t11 t12 t13 ⊢
  clear hW0 hT
  go_wp2_with fail
  refine (command_b B0.out e (by simp; omega) hk hh).mono ?_
  rintro x w1 ⟨rfl, hB, hM⟩
  have B1 := Aside0.mk hB
  have HD1 := Aside0.mk (HD.out.mov hM)
  clear hB hM t0 t1 t2 t3 t4 t5 t6 t7 t8 t9 t10 t11 t12 t13 HD B0
  go_upto_if 8 with fail
  go_cut [8] (fun v8 wc => Aside0 (Bx W0 wc g b c f ([] ++ commandI e.kind e.nk e.nh e.code ++ tellI e.kind e.code) T e) ∧ Aside0 (DropsAt wc g b e.da whys))
  case first =>
    obtain ⟨t0, t1, t2, t3, t4, t5, t6, t7, t8, t9, t10, t11, t12, t13⟩ := B1.out.cells
    cases hq : isCmd e.kind with
    | false =>
      have HI := Lib.hid (show tellI e.kind e.code = [] by unfold tellI; rw [hq]; rfl)
      clear hq
      go_wp2_with fail
      go_meet
      case rel =>
        rw [HI.out, List.append_nil]
        exact ⟨B1, HD1⟩
    | true =>
      have HI := Lib.hid (show tellI e.kind e.code = codeI e.code by unfold tellI; rw [hq]; rfl)
      clear hq
      have hcase : e.code = 3 ∨ e.code = 12 ∨ e.code = 11 ∨ e.code = 8 ∨ ¬ (e.code = 3 ∨ e.code = 12 ∨ e.code = 11 ∨ e.code = 8) := by omega
      have hcl : c + ([] ++ commandI e.kind e.nk e.nh e.code).length < maxLen := by have := command_len e.kind e.nk e.nh e.code; rw [List.nil_append]; omega
      rcases hcase with h | h | h | h | h
      · have HJ := Lib.hid (show codeI e.code = [(Nm.not_stored, 1)] by unfold codeI; rw [h]; rfl)
        have q3 : (e.code == 3) = true := by rw [h]; rfl
        clear h
        go_wp2_with fail
        refine (more_m B1.out Nm.not_stored 1 hcl (by kernel_rfl) (by decide)).mono ?_
        rintro x w2 ⟨rfl, hB, hM⟩
        have B2 := Aside0.mk hB
        have HD2 := Aside0.mk (HD1.out.mov hM)
        clear hB hM t0 t1 t2 t3 t4 t5 t6 t7 t8 t9 t10 t11 t12 t13
        go_wp2_with fail
        go_meet
        case rel =>
          rw [HI.out, HJ.out]
          exact ⟨B2, HD2⟩
      · have HJ := Lib.hid (show codeI e.code = [(Nm.too_large, 1)] by unfold codeI; rw [h]; rfl)
        have q3 : (e.code == 3) = false := by rw [h]; rfl
        have q12 : (e.code == 12) = true := by rw [h]; rfl
        clear h
        go_wp2_with fail
        refine (more_m B1.out Nm.too_large 1 hcl (by kernel_rfl) (by decide)).mono ?_
        rintro x w2 ⟨rfl, hB, hM⟩
        have B2 := Aside0.mk hB
        have HD2 := Aside0.mk (HD1.out.mov hM)
        clear hB hM t0 t1 t2 t3 t4 t5 t6 t7 t8 t9 t10 t11 t12 t13
        go_wp2_with fail
        go_meet
        case rel =>
          rw [HI.out, HJ.out]
          exact ⟨B2, HD2⟩
      · have HJ := Lib.hid (show codeI e.code = [(Nm.no_memory, 1)] by unfold codeI; rw [h]; rfl)
        have q3 : (e.code == 3) = false := by rw [h]; rfl
        have q12 : (e.code == 12) = false := by rw [h]; rfl
        have q11 : (e.code == 11) = true := by rw [h]; rfl
        clear h
        go_wp2_with fail
        refine (more_m B1.out Nm.no_memory 1 hcl (by kernel_rfl) (by decide)).mono ?_
        rintro x w2 ⟨rfl, hB, hM⟩
        have B2 := Aside0.mk hB
        have HD2 := Aside0.mk (HD1.out.mov hM)
        clear hB hM t0 t1 t2 t3 t4 t5 t6 t7 t8 t9 t10 t11 t12 t13
        go_wp2_with fail
        go_meet
        case rel =>
          rw [HI.out, HJ.out]
          exact ⟨B2, HD2⟩
      · have HJ := Lib.hid (show codeI e.code = [(Nm.no_number, 1)] by unfold codeI; rw [h]; rfl)
        have q3 : (e.code == 3) = false := by rw [h]; rfl
        have q12 : (e.code == 12) = false := by rw [h]; rfl
        have q11 : (e.code == 11) = false := by rw [h]; rfl
        have q8 : (e.code == 8) = true := by rw [h]; rfl
        clear h
        go_wp2_with fail
        refine (more_m B1.out Nm.no_number 1 hcl (by kernel_rfl) (by decide)).mono ?_
        rintro x w2 ⟨rfl, hB, hM⟩
        have B2 := Aside0.mk hB
        have HD2 := Aside0.mk (HD1.out.mov hM)
        clear hB hM t0 t1 t2 t3 t4 t5 t6 t7 t8 t9 t10 t11 t12 t13
        go_wp2_with fail
        go_meet
        case rel =>
          rw [HI.out, HJ.out]
          exact ⟨B2, HD2⟩
      · have HJ := Lib.hid (show codeI e.code = [] by unfold codeI; rw [if_neg (by omega), if_neg (by omega), if_neg (by omega), if_neg (by omega)])
        have q3 : (e.code == 3) = false := beq_eq_false_iff_ne.2 (by omega)
        have q12 : (e.code == 12) = false := beq_eq_false_iff_ne.2 (by omega)
        have q11 : (e.code == 11) = false := beq_eq_false_iff_ne.2 (by omega)
        have q8 : (e.code == 8) = false := beq_eq_false_iff_ne.2 (by omega)
        clear h
        go_wp2_with fail
        go_meet
        case rel =>
          rw [HI.out, HJ.out, List.append_nil]
          exact ⟨B1, HD1⟩
  case rest =>
    obtain ⟨B2, HD2⟩ := hcut
    clear B1 HD1
    obtain ⟨base, hbase⟩ : ∃ base, base = [] ++ commandI e.kind e.nk e.nh e.code ++ tellI e.kind e.code := ⟨_, rfl⟩
    have hbl : base.length ≤ 6 := by
      have := command_len e.kind e.nk e.nh e.code
      have := tell_len e.kind e.code
      rw [hbase, List.nil_append, List.length_append]
      omega
    have HBASE := Lib.hid hbase
    rw [← hbase] at B2
    clear hbase
    obtain ⟨t0, t1, t2, t3, t4, t5, t6, t7, t8, t9, t10, t11, t12, t13⟩ := B2.out.cells
    have B2' : Aside0 (Bx W0 wc g b c f (base ++ (whys.take 0).flatMap whyI) T e) := ⟨by rw [List.take_zero, List.flatMap_nil, List.append_nil]; exact B2.out⟩
    clear t0 t1 t2 t3 t4 t5 t6 t7 t8 t9 t10 t11 t12 B2
    obtain ⟨A, hda⟩ : ∃ A, A = e.da := ⟨_, rfl⟩
    rw [← hda] at t13 HD2 ⊢
    have HDA := Lib.hid hda
    clear hda
    go_wp2_with fail
    go_loopg [31] e.nd (fun gg v31 wr => ∃ (j : Nat), v31 = .int .i64 j ∧ j ≤ e.nd ∧ e.nd - j ≤ gg ∧ Aside0 (Bx W0 wr g b c f (base ++ (whys.take j).flatMap whyI) T e) ∧ Aside0 (DropsAt wr g b A whys))
    case atStart => exact ⟨0, rfl, Nat.zero_le _, by omega, B2', HD2⟩
    case round =>
      clear B2' HD2 t13
      obtain ⟨j, rfl, hj, hgj, BR, HDR⟩ := hrel
      by_cases hlt : j < e.nd
      · have hji : (j : Int) < (e.nd : Int) := by omega
        obtain ⟨y, hy⟩ : ∃ y, whys[j]? = some y := ⟨_, List.getElem?_eq_getElem (by rw [HL.out]; exact hlt)⟩
        obtain ⟨ad, key, rfl, hn1, hn2, k0, k1⟩ := HDR.out j y hy
        have HFL := Lib.hid (take_flat hy)
        have hcl : c + (base ++ (whys.take j).flatMap whyI).length < maxLen := by
          have := whys_len (whys.take j)
          have h2 : (whys.take j).length ≤ whys.length := List.length_take_le' _ _
          rw [List.length_append]
          omega
        have hcase : y = 1 ∨ y = 2 ∨ y = 3 ∨ ¬ (y = 1 ∨ y = 2 ∨ y = 3) := by omega
        have hal := Aside0.mk ((Below.refl wr.heap.size wr).alloc (Nat.le_refl _) (.cells #[.string key, .int .i64 y] 144))
        have BA := Aside0.mk (BR.out.below hal.out)
        have HDA2 := Aside0.mk (HDR.out.below hal.out)
        clear hy BR HDR
        rcases hcase with h | h | h | h
        · have HJ := Lib.hid (show whyI y = [(Nm.evictions, 1)] by unfold whyI; rw [h]; rfl)
          have q1 : (y == 1) = true := by rw [h]; rfl
          clear h
          go_wp2_with fail
          refine (more_m BA.out Nm.evictions 1 hcl (by kernel_rfl) (by decide)).mono ?_
          rintro x w2 ⟨rfl, hB, hM⟩
          have BN : Aside0 (Bx W0 w2 g b c f (base ++ (whys.take (j + 1)).flatMap whyI) T e) := ⟨by rw [HFL.out, HJ.out, ← List.append_assoc]; exact hB⟩
          have HDN := Aside0.mk (HDA2.out.mov hM)
          clear hB hM k0 k1 BA HDA2
          go_wp2
          go_roundg (e.nd - (j + 1))
          case measure => omega
          case rel => exact ⟨j + 1, by go_num, by omega, by omega, BN, HDN⟩
        · have HJ := Lib.hid (show whyI y = [(Nm.moved, 1)] by unfold whyI; rw [h]; rfl)
          have q1 : (y == 1) = false := by rw [h]; rfl
          have q2 : (y == 2) = true := by rw [h]; rfl
          clear h
          go_wp2_with fail
          refine (more_m BA.out Nm.moved 1 hcl (by kernel_rfl) (by decide)).mono ?_
          rintro x w2 ⟨rfl, hB, hM⟩
          have BN : Aside0 (Bx W0 w2 g b c f (base ++ (whys.take (j + 1)).flatMap whyI) T e) := ⟨by rw [HFL.out, HJ.out, ← List.append_assoc]; exact hB⟩
          have HDN := Aside0.mk (HDA2.out.mov hM)
          clear hB hM k0 k1 BA HDA2
          go_wp2
          go_roundg (e.nd - (j + 1))
          case measure => omega
          case rel => exact ⟨j + 1, by go_num, by omega, by omega, BN, HDN⟩
        · have HJ := Lib.hid (show whyI y = [(Nm.failed, 1)] by unfold whyI; rw [h]; rfl)
          have q1 : (y == 1) = false := by rw [h]; rfl
          have q2 : (y == 2) = false := by rw [h]; rfl
          have q3 : (y == 3) = true := by rw [h]; rfl
          clear h
          go_wp2_with fail
          refine (more_m BA.out Nm.failed 1 hcl (by kernel_rfl) (by decide)).mono ?_
          rintro x w2 ⟨rfl, hB, hM⟩
          have BN : Aside0 (Bx W0 w2 g b c f (base ++ (whys.take (j + 1)).flatMap whyI) T e) := ⟨by rw [HFL.out, HJ.out, ← List.append_assoc]; exact hB⟩
          have HDN := Aside0.mk (HDA2.out.mov hM)
          clear hB hM k0 k1 BA HDA2
          go_wp2
          go_roundg (e.nd - (j + 1))
          case measure => omega
          case rel => exact ⟨j + 1, by go_num, by omega, by omega, BN, HDN⟩
        · have HJ := Lib.hid (show whyI y = [] by unfold whyI; rw [if_neg (by omega), if_neg (by omega), if_neg (by omega)])
          have q1 : (y == 1) = false := beq_eq_false_iff_ne.2 (by omega)
          have q2 : (y == 2) = false := beq_eq_false_iff_ne.2 (by omega)
          have q3 : (y == 3) = false := beq_eq_false_iff_ne.2 (by omega)
          have BN : Aside0 (Bx W0 (wr.alloc (.cells #[.string key, .int .i64 y] 144)) g b c f (base ++ (whys.take (j + 1)).flatMap whyI) T e) := ⟨by rw [HFL.out, HJ.out, List.append_nil]; exact BA.out⟩
          clear h
          go_wp2
          go_roundg (e.nd - (j + 1))
          case measure => omega
          case rel => exact ⟨j + 1, by go_num, by omega, by omega, BN, HDA2⟩
      · have hji : ¬ (j : Int) < (e.nd : Int) := by omega
        have hjn : j = e.nd := by omega
        have hfin : base ++ (whys.take j).flatMap whyI = noteI e.kind e.nk e.nh e.code whys := by
          rw [List.take_of_length_le (by rw [HL.out]; omega), HBASE.out]
          rfl
        have HFIN := Lib.hid hfin
        clear hfin
        go_wp2
        go_end0
        rw [← HFIN.out]
        exact ⟨rfl, BR.out.did.from HB.out⟩
end Go.Proofs.YteddljbdjgdlnaaDoor.St
end
section
namespace Go.Proofs.YteddljbdjgdlnaaDoor.Text
open Go

theorem ib_hit (c : UInt8) (r : List UInt8) : ∀ x : List UInt8, c ∉ x → Lib.indexByte (x ++ c :: r) c = (x.length : Int)
  | [], _ => by simp [Lib.indexByte]
  | b :: x, h => by
    have h1 : b ≠ c := fun e => h (by rw [e]; exact List.mem_cons_self)
    have h2 := ib_hit c r x (fun hm => h (List.mem_cons_of_mem _ hm))
    show Lib.indexByte (b :: (x ++ c :: r)) c = _
    unfold Lib.indexByte
    rw [if_neg (by simpa using h1), h2, if_neg (by simp)]
    simp
theorem ib_miss (c : UInt8) : ∀ x : List UInt8, c ∉ x → Lib.indexByte x c = -1
  | [], _ => rfl
  | b :: x, h => by
    have h1 : b ≠ c := fun e => h (by rw [e]; exact List.mem_cons_self)
    have h2 := ib_miss c x (fun hm => h (List.mem_cons_of_mem _ hm))
    unfold Lib.indexByte
    rw [if_neg (by simpa using h1), h2]
    rfl
theorem split_join (c : UInt8) : ∀ (r : List (List UInt8)) (x : List UInt8), (∀ y ∈ x :: r, c ∉ y) → Lib.splitK [c] 0 (Lib.count (Lib.join (x :: r) [c]) [c]) (Lib.join (x :: r) [c]) = x :: r
  | [], x, h => by
    have hi : Lib.index x [c] = -1 := by rw [Lib.index_one]; exact ib_miss c x (h x List.mem_cons_self)
    rw [Lib.join_one, Lib.count_miss hi]
    rfl
  | y :: r, x, h => by
    have ih := split_join c r y (fun z hz => h z (List.mem_cons_of_mem _ hz))
    have hj : Lib.join (x :: y :: r) [c] = x ++ c :: Lib.join (y :: r) [c] := by
      rw [Lib.join_cons, Lib.join_cons]
      simp [Lib.joinTail]
    have hi : Lib.index (x ++ c :: Lib.join (y :: r) [c]) [c] = (x.length : Int) := by rw [Lib.index_one]; exact ib_hit c _ x (h x List.mem_cons_self)
    have hd : (x ++ c :: Lib.join (y :: r) [c]).drop (x.length + [c].length) = Lib.join (y :: r) [c] := by
      rw [List.length_singleton, List.drop_append, List.drop_of_length_le (by omega)]
      simp
    rw [hj, Lib.count_hit (by simp) hi, hd, Nat.add_comm]
    have hm : ¬ (Lib.index (x ++ c :: Lib.join (y :: r) [c]) [c] == -1) = true := by rw [hi]; simp
    rw [Lib.splitK, if_neg hm, hi]
    rw [show ((x.length : Int)).toNat = x.length from Int.toNat_natCast _, hd, ih]
    simp
theorem map_data_inj : ∀ (a b : List ByteArray), a.map (·.data.toList) = b.map (·.data.toList) → a = b
  | [], [], _ => rfl
  | [], _ :: _, h => by cases h
  | _ :: _, [], h => by cases h
  | x :: a, y :: b, h => by
    simp only [List.map_cons, List.cons.injEq] at h
    have e : x = y := by
      obtain ⟨x⟩ := x
      obtain ⟨y⟩ := y
      congr 1
      exact Array.toList_inj.1 h.1
    rw [e, map_data_inj a b h.2]
theorem splitB_join (x : ByteArray) (r : List ByteArray) (h : ∀ y ∈ x :: r, (32 : UInt8) ∉ y.data.toList) :
    Lib.splitB ⟨#[32]⟩ 0 (Lib.countB ⟨(Lib.join ((x :: r).map (·.data.toList)) [32]).toArray⟩ ⟨#[32]⟩) ⟨(Lib.join ((x :: r).map (·.data.toList)) [32]).toArray⟩ = x :: r := by
  apply map_data_inj
  rw [Lib.splitB_data]
  show Lib.splitK [32] 0 (Lib.count (Lib.join ((x :: r).map (·.data.toList)) [32]).toArray.toList [32]) (Lib.join ((x :: r).map (·.data.toList)) [32]).toArray.toList = _
  rw [List.toList_toArray, List.map_cons]
  refine split_join 32 _ _ (fun y hy => ?_)
  have hy' : y ∈ (x :: r).map (fun z : ByteArray => z.data.toList) := hy
  obtain ⟨z, hz, rfl⟩ := List.mem_map.1 hy'
  exact h z hz
theorem parse_snoc (M : Nat) (c : UInt8) (hc : 48 ≤ c.toNat ∧ c.toNat ≤ 57) : ∀ (l : List UInt8) (acc u : Nat), Lib.parseUintM M acc l = .ok u → u < 1844674407370955162 → u * 10 + (c.toNat - 48) ≤ M → Lib.parseUintM M acc (l ++ [c]) = .ok (u * 10 + (c.toNat - 48))
  | [], acc, u, h, h1, h2 => by
    obtain rfl : acc = u := by simpa [Lib.parseUintM] using h
    show Lib.parseUintM M acc [c] = _
    unfold Lib.parseUintM
    rw [if_pos hc, if_neg (by omega), if_neg (by omega)]
    rfl
  | b :: l, acc, u, h, h1, h2 => by
    show Lib.parseUintM M acc (b :: (l ++ [c])) = _
    unfold Lib.parseUintM at h ⊢
    split at h
    · rename_i hb
      rw [if_pos hb]
      split at h
      · cases h
      · rename_i ha
        rw [if_neg ha]
        split at h
        · cases h
        · rename_i hm
          rw [if_neg hm]
          exact parse_snoc M c hc l _ u h h1 h2
    · cases h
theorem dec_small (u : Nat) (h : u < 10) : Lib.decDigits u = [UInt8.ofNat (48 + u)] := by rw [Lib.decDigits, dif_pos h]
theorem dec_big (u : Nat) (h : ¬ u < 10) : Lib.decDigits u = Lib.decDigits (u / 10) ++ [UInt8.ofNat (48 + u % 10)] := by rw [Lib.decDigits, dif_neg h]
theorem dig_toNat (d : Nat) (h : d < 10) : (UInt8.ofNat (48 + d)).toNat = 48 + d := by
  show (48 + d) % 256 = 48 + d
  omega
theorem dec_parse : ∀ (n u : Nat), u < n → u < 18446744073709551616 → Lib.parseUintM 18446744073709551615 0 (Lib.decDigits u) = .ok u
  | 0, u, h, _ => absurd h (by omega)
  | n + 1, u, h, hu => by
    by_cases h10 : u < 10
    · rw [dec_small u h10]
      unfold Lib.parseUintM
      rw [dig_toNat u h10, if_pos (by omega), if_neg (by omega), if_neg (by omega)]
      show Lib.NumEnd.ok _ = Lib.NumEnd.ok _
      congr 1
      omega
    · rw [dec_big u h10]
      have ih := dec_parse n (u / 10) (by omega) (by omega)
      have hd := dig_toNat (u % 10) (by omega)
      rw [parse_snoc _ (UInt8.ofNat (48 + u % 10)) (by rw [hd]; omega) _ _ _ ih (by omega) (by rw [hd]; omega), hd]
      congr 1
      omega
theorem dec_dig : ∀ (n u : Nat), u < n → ∀ c ∈ Lib.decDigits u, 48 ≤ c.toNat ∧ c.toNat ≤ 57
  | 0, u, h => absurd h (by omega)
  | n + 1, u, h => by
    intro c hc
    by_cases h10 : u < 10
    · rw [dec_small u h10] at hc
      obtain rfl := List.mem_singleton.1 hc
      rw [dig_toNat u h10]
      omega
    · rw [dec_big u h10] at hc
      rcases List.mem_append.1 hc with hc | hc
      · exact dec_dig n (u / 10) (by omega) c hc
      · obtain rfl := List.mem_singleton.1 hc
        rw [dig_toNat _ (by omega)]
        omega
theorem dec_ne (u : Nat) : Lib.decDigits u ≠ [] := by
  by_cases h10 : u < 10
  · rw [dec_small u h10]; simp
  · rw [dec_big u h10]; simp
theorem dec_len : ∀ (k u : Nat), u < 10 ^ (k + 1) → (Lib.decDigits u).length ≤ k + 1
  | 0, u, h => by rw [dec_small u (by simpa using h)]; simp
  | k + 1, u, h => by
    by_cases h10 : u < 10
    · rw [dec_small u h10]; simp
    · rw [dec_big u h10, List.length_append, List.length_singleton]
      have := dec_len k (u / 10) (by rw [Nat.pow_succ] at h; omega)
      omega
end Go.Proofs.YteddljbdjgdlnaaDoor.Text
end
section
namespace Go.Proofs.YteddljbdjgdlnaaDoor.St
open Go.RowKit Go.Proofs.YteddljbdjgdlnaaDoorW.PrintWords Go.Proofs.YteddljbdjgdlnaaDoorW.PrintLast Go.Proofs.YteddljbdjgdlnaaDoorW.PrintMore Go.WideMaps Go.Proofs.YteddljbdjgdlnaaDoor.XSb
set_option linter.unusedVariables false
set_option linter.unusedSimpArgs false
attribute [local go_sem ↓] Go.wp_at_zero Go.wp_at_succ
noncomputable def dec (n : Int) : ByteArray := ⟨(Lib.decDigits n.toNat).toArray⟩
theorem dec_is {n : Int} (h0 : 0 ≤ n) (h1 : n < 18446744073709551616) : digits_Text.f n = some (dec n) := by
  unfold digits_Text.f strconv_FormatUint_68.f strconv_FormatUint_86.f
  rw [if_pos ⟨h0, h1, rfl⟩]
  rfl
def Okf (f : Figs) : Prop := ∀ s, 0 ≤ f s ∧ f s < 18446744073709551616
theorem ok_zero : Okf (fun _ => 0) := fun _ => ⟨Int.le_refl 0, show (0 : Int) < 18446744073709551616 by decide⟩
theorem ok_add {f : Figs} (h : Okf f) (s : ByteArray) (n : Int) : Okf (addF f s n) := fun x => by
  unfold addF upd
  by_cases e : x = s
  · rw [if_pos e]
    have h0 := Int.emod_nonneg (f s + (if 0 < n then n else 0)) (show (18446744073709551616 : Int) ≠ 0 by decide)
    have h1 := Int.emod_lt_of_pos (f s + (if 0 < n then n else 0)) (show (0 : Int) < 18446744073709551616 by decide)
    exact ⟨h0, h1⟩
  · rw [if_neg e]
    exact h x
theorem ok_app {l : Inc} : ∀ {f : Figs}, Okf f → Okf (app f l) := by
  induction l with
  | nil => exact fun h => h
  | cons p l ih => exact fun h => ih (ok_add h p.1 p.2)
noncomputable def genL (f : Figs) (l : List ByteArray) : List S83 := l.map fun s => ⟨s, dec (f s)⟩
theorem gen_next {f : Figs} {j : Nat} {s : ByteArray} (h : nm24[j]? = some s) : genL f (nm24.take (j + 1)) = genL f (nm24.take j) ++ [⟨s, dec (f s)⟩] := by
  unfold genL
  rw [List.take_add_one, h, List.map_append]
  rfl
theorem nm_has {j : Nat} {s : ByteArray} (h : nm24[j]? = some s) : has s nm24 = true := mem_has (List.mem_of_getElem? h)
theorem val_in {f : Figs} {j : Nat} {s : ByteArray} (h : nm24[j]? = some s) : valF nm24 f s = f s := if_pos (nm_has h)
structure Gn (w wr : World) (f : Figs) (j : Nat) (v : Value) (ad : Addr) : Prop where
  row : Kd.R k83 83 wr w.heap.size (fun _ => True) v (genL f (nm24.take j))
  bel : Below w.heap.size w wr
  names : Names wr ad
  away : w.heap.size ≤ ad.block
  kept : ∀ k, v.ownBlock = some k → k ≠ ad.block
set_option maxHeartbeats 8000000 in
set_option maxRecDepth 100000 in
theorem General_calls (w : World) (g b c : Nat) (f : Figs) (hv : Vars w) (hA : At w g b c nm24 f) (hf : Okf f) :
    Calls Tryd.prog 14 #[.pointer (some ⟨g, 0, none⟩)] w fun e w' => ∃ v, e = .returned v ∧ Kd.R k83 83 w' w.heap.size (fun _ => True) v (genL f nm24) ∧ Below w.heap.size w w' := by
  have HV := Aside0.mk hv
  have HA := Aside0.mk hA
  have HF := Aside0.mk hf
  clear hv hA hf
  go_enter Tryd.func14, Tryd.ntmps14
  go_wp2_with fail
  refine (names_c w).mono ?_
  rintro e w1 ⟨ad, c1, rfl, hc1, had, hN, hb1⟩
  have G0 : Aside0 (Gn w w1 f 0 (.slice none 0 0) ad) := ⟨⟨Kd.R_nil _ _ _ _ _, hb1, hN, had, fun k hk => by cases hk⟩⟩
  clear hN hb1 had
  go_wp2_with fail
  go_loopg [3, 8] 24 (fun gg v3 v8 wr => ∃ (j : Nat), v8 = .int .i64 j ∧ j ≤ 24 ∧ 24 - j ≤ gg ∧ Aside0 (Gn w wr f j v3 ad))
  case atStart => exact ⟨0, rfl, Nat.zero_le _, by omega, G0⟩
  case round =>
    clear G0
    obtain ⟨j, rfl, hj, hgj, GR⟩ := hrel
    by_cases hlt : j < 24
    · have hji : (j : Int) < 24 := by omega
      obtain ⟨s, hs⟩ := nm_at hlt
      have hcell := GR.out.names j s hs
      have HAr := HA.out.below GR.out.bel
      have g0 := HAr.gcell
      have hlook := HAr.look (nm_small hs)
      rw [val_in hs] at hlook
      have HS := Lib.hid hs
      have hf0 := (HF.out s).1
      have hf1 := (HF.out s).2
      clear hs HAr
      go_wp2_with fail
      refine (digits_Text.calls (f s) (dec (f s)) wr (HV.out.below GR.out.bel) (dec_is hf0 hf1)).mono ?_
      rintro e w2 ⟨rfl, hb2⟩
      have hB2 : Below w.heap.size w w2 := GR.out.bel.trans (hb2.mono GR.out.bel.size)
      have HR2 := Aside0.mk (Kd.R_below GR.out.row hb2)
      have HB2 := Aside0.mk hB2
      have HN2 := Aside0.mk (GR.out.names.below hb2)
      have had2 : ad.block < w2.heap.size := by
        have h := World.block_lt_of_cell? _ _ (HN2.out 0 _ rfl)
        rw [add_block] at h
        exact h
      have HKEPT := Aside0.mk GR.out.kept
      have HAWAY := Aside0.mk GR.out.away
      clear hb2 hB2 hlook g0 hcell GR
      go_wp2_with (at_builtin; refine Kd.R_append k83 (w0 := w) w.heap.size (by rfl) (.tmp 12) (.tmp 22) 47 83 (.agg #[(.string ⟨#[]⟩), (.string ⟨#[]⟩)]) 32 rfl Tryd.underlying47 info83 rfl (by decide) (by omega) u3 (genL f (nm24.take j)) (⟨s, dec (f s)⟩ : S83) [.string s, .string (dec (f s))] (fun _ => True) (fun _ => False) rfl rfl ?aP (fun _ hk => hk.elim) ?aF ?aO ?aB ?aS ?aL ?_)
      case aP => exact k83_mkM _ _ _ (⟨s, dec (f s)⟩ : S83)
      case aF => exact fun _ _ => trivial
      case aO => exact HR2.out
      case aB => exact HB2.out
      case aS => exact HB2.out.size
      case aL =>
        have : (genL f (nm24.take j)).length ≤ 24 := by unfold genL; rw [List.length_map, List.length_take]; exact Nat.le_trans (Nat.min_le_left _ _) (by omega)
        omega
      intro v1 w3 ho hb3 hg3 hat
      have hN3 : Names w3 ad := fun i x hx => by
        have h := HN2.out i x hx
        exact (World.cell?_of_block (hg3.block _ (World.block_lt_of_cell? _ _ h) (fun e => HKEPT.out _ e.symm (add_block ad i)))).trans h
      have hkept3 : ∀ k, v1.ownBlock = some k → k ≠ ad.block := fun k hk e => by
        rcases hat with h | ⟨q, h, hq⟩
        · exact HKEPT.out k (h.symm.trans hk) e
        · rw [h] at hk
          injection hk with hk
          omega
      have GN : Aside0 (Gn w w3 f (j + 1) v1 ad) := ⟨⟨by rw [gen_next HS.out]; exact ho, hb3, hN3, HAWAY.out, hkept3⟩⟩
      clear ho hb3 hg3 hat hN3 hkept3 HR2 HB2 HN2 HKEPT had2
      go_wp2
      go_roundg (24 - (j + 1))
      case measure => omega
      case rel => exact ⟨j + 1, by go_num, by omega, by omega, GN⟩
    · have hji : ¬ (j : Int) < 24 := by omega
      obtain rfl : j = 24 := by omega
      go_wp2
      go_ret
      exact ⟨_, rfl, GR.out.row, GR.out.bel⟩
structure Two (w wr : World) (g b c g' b' c' : Nat) (f h : Figs) : Prop where
  one : At wr g b c nm24 f
  two : At wr g' b' c' nm24 h
  mov : Mut g b w wr
def addsF (f h : Figs) (l : List ByteArray) : Figs := fun s => if has s l = true then (f s + h s) % 18446744073709551616 else f s
theorem adds_next {f h : Figs} {j : Nat} {s : ByteArray} (hs : nm24[j]? = some s) (hn : has s (nm24.take j) = false) : upd (addsF f h (nm24.take j)) s ((addsF f h (nm24.take j) s + h s) % 18446744073709551616) = addsF f h (nm24.take (j + 1)) := by
  funext x
  unfold upd addsF
  rw [take_next hs, hn]
  by_cases e : x = s
  · rw [if_pos e, e, has_same, if_neg Bool.false_ne_true, if_pos rfl]
  · rw [if_neg e, has_other e]
theorem nm_new : ∀ j : Nat, j < 24 → ∀ s, nm24[j]? = some s → has s (nm24.take j) = false := by
  have h : ((List.range 24).all fun j => match nm24[j]? with | some s => !has s (nm24.take j) | none => true) = true := by kernel_rfl
  intro j hj s hs
  have h2 := List.all_eq_true.1 h j (List.mem_range.2 hj)
  rw [hs] at h2
  simpa using h2
end Go.Proofs.YteddljbdjgdlnaaDoor.St
end
section
namespace Go.Proofs.YteddljbdjgdlnaaDoor.XSb
open Go.RowKit Go.Proofs.YteddljbdjgdlnaaDoorW.PrintWords Go.Proofs.YteddljbdjgdlnaaDoorW.PrintLast Go.Proofs.YteddljbdjgdlnaaDoorW.PrintMore
abbrev L (b : ByteArray) : List UInt8 := b.data.toList
abbrev ba (l : List UInt8) : ByteArray := ⟨l.toArray⟩
theorem ext {x y : ByteArray} (h : L x = L y) : x = y := by
  cases x; cases y
  exact congrArg ByteArray.mk (Array.toList_inj.1 h)
theorem L_append (a b : ByteArray) : L (a ++ b) = L a ++ L b := by
  show (a ++ b).data.toList = _
  rw [ByteArray.data_append, Array.toList_append]
theorem L_size (a : ByteArray) : a.size = (L a).length := (Array.length_toList).symm
theorem wrap_succ (a : Nat) (h : a < 4611686018427387904) : wrap64 ((a : Int) + 1) = ((a + 1 : Nat) : Int) := by unfold wrap64; omega
theorem bt_list (s : ByteArray) (i : Nat) (c : UInt8) (h : (L s)[i]? = some c) : bt s (i : Int) = (c.toNat : Int) := by
  have hi : i < s.size := by
    rcases Nat.lt_or_ge i s.size with h' | h'
    · exact h'
    · rw [List.getElem?_eq_none (by rw [← L_size]; exact h')] at h; cases h
  unfold bt
  rw [Int.toNat_natCast, dif_pos hi]
  have e : (L s)[i]? = some s[i] := by
    rw [List.getElem?_eq_getElem (by rw [← L_size]; exact hi)]; rfl
  rw [e] at h
  injection h with h
  rw [h]
def inR (lo hi : Nat) (l : List UInt8) : Bool := l.all fun c => decide (lo ≤ c.toNat) && decide (c.toNat ≤ hi)
theorem inR_cons (lo hi : Nat) (c : UInt8) (l : List UInt8) : inR lo hi (c :: l) = (decide (lo ≤ c.toNat) && decide (c.toNat ≤ hi) && inR lo hi l) := rfl
theorem within_loop (a : ByteArray) (ha : a.size ≤ 1099511627776) (lo hi : Nat) (d : Nat) : ∀ i, i + d = a.size → Ev (fun k => stat_within.l0 k a (lo : Int) (hi : Int) (a.size : Int) (i : Int)) (inR lo hi ((L a).drop i)) := by
  induction d with
  | zero =>
    intro i hi'
    rw [List.drop_of_length_le (by rw [← L_size]; omega)]
    refine ⟨1, fun k hk => ?_⟩
    obtain ⟨k, rfl⟩ : ∃ m, k = m + 1 := ⟨k - 1, by omega⟩
    simp only [stat_within.l0]
    rw [if_neg (by omega)]; rfl
  | succ d ih =>
    intro i hi'
    have hl : i < (L a).length := by rw [← L_size]; omega
    have hc := List.getElem?_eq_getElem hl
    rw [List.drop_eq_getElem_cons hl, inR_cons]
    generalize (L a)[i] = c at hc
    have e : ∀ k, stat_within.l0 (k + 1) a (lo : Int) (hi : Int) (a.size : Int) (i : Int) = (if (c.toNat : Int) < lo then some false else if (c.toNat : Int) > hi then some false else stat_within.l0 k a (lo : Int) (hi : Int) (a.size : Int) ((i + 1 : Nat) : Int)) := by
      intro k
      simp only [stat_within.l0]
      rw [if_pos (by omega), if_pos (by omega), if_pos (by omega), bt_list a i c hc, wrap_succ i (by omega)]
    by_cases h1 : lo ≤ c.toNat
    · by_cases h2 : c.toNat ≤ hi
      · rw [decide_eq_true h1, decide_eq_true h2]
        refine Ev.step (fun k => ?_) (ih (i + 1) (by omega))
        rw [e, if_neg (by omega), if_neg (by omega)]
      · rw [decide_eq_false h2, Bool.and_false, Bool.false_and]
        refine ⟨1, fun k hk => ?_⟩
        obtain ⟨k, rfl⟩ : ∃ m, k = m + 1 := ⟨k - 1, by omega⟩
        show stat_within.l0 (k + 1) _ _ _ _ _ = _
        rw [e, if_neg (by omega), if_pos (by omega)]
    · rw [decide_eq_false h1, Bool.false_and, Bool.false_and]
      refine ⟨1, fun k hk => ?_⟩
      obtain ⟨k, rfl⟩ : ∃ m, k = m + 1 := ⟨k - 1, by omega⟩
      show stat_within.l0 (k + 1) _ _ _ _ _ = _
      rw [e, if_pos (by omega)]
def ends (l : List UInt8) : Bool := decide (l.head? ≠ some 32) && decide (l.getLast? ≠ some 32)
def mayB (n v : ByteArray) : Bool := decide (1 ≤ n.size) && decide (n.size ≤ 64) && decide (1 ≤ v.size) && decide (v.size ≤ 200) && inR 33 126 (L n) && inR 32 126 (L v) && ends (L v)
theorem dropWhile_le (p : UInt8 → Bool) (l : List UInt8) : (l.dropWhile p).length ≤ l.length := by
  induction l with
  | nil => exact Nat.le_refl _
  | cons x l ih =>
    rw [List.dropWhile_cons]
    split
    · rw [List.length_cons]; omega
    · exact Nat.le_refl _
theorem trim_ends (l : List UInt8) : (Lib.trimB l 32 == l) = ends l := by
  have hr : ∀ m : List UInt8, m.head? ≠ some 32 → m.dropWhile (· == (32 : UInt8)) = m := by
    intro m hm
    cases m with
    | nil => rfl
    | cons x m =>
      have : ¬ x = 32 := fun e => hm (by rw [e]; rfl)
      rw [List.dropWhile_cons, if_neg (by simpa using this)]
  have hs : ∀ m : List UInt8, m.head? = some 32 → (m.dropWhile (· == (32 : UInt8))).length < m.length := by
    intro m hm
    cases m with
    | nil => cases hm
    | cons x m =>
      have : x = 32 := by simpa using hm
      rw [List.dropWhile_cons, if_pos (by simpa using this), List.length_cons]
      have := dropWhile_le (· == (32 : UInt8)) m
      omega
  have hlast : l.getLast? = l.reverse.head? := by rw [List.head?_reverse]
  unfold ends
  by_cases h2 : l.getLast? = some 32
  · rw [show decide (l.getLast? ≠ some 32) = false from decide_eq_false (fun hh => hh h2), Bool.and_false]
    apply beq_eq_false_iff_ne.2
    intro e
    have h3 := hs l.reverse (by rw [← hlast]; exact h2)
    have h4 := congrArg List.length e
    unfold Lib.trimB Lib.trimLeftB Lib.trimRightB at h4
    have h5 := dropWhile_le (· == (32 : UInt8)) (l.reverse.dropWhile (· == (32 : UInt8))).reverse
    rw [List.length_reverse] at h5 h3
    omega
  · rw [show decide (l.getLast? ≠ some 32) = true from decide_eq_true h2, Bool.and_true]
    have e1 : Lib.trimRightB l 32 = l := by
      unfold Lib.trimRightB
      rw [hr l.reverse (by rw [← hlast]; exact h2), List.reverse_reverse]
    unfold Lib.trimB
    rw [e1]
    unfold Lib.trimLeftB
    by_cases h1 : l.head? = some 32
    · rw [show decide (l.head? ≠ some 32) = false from decide_eq_false (fun hh => hh h1)]
      apply beq_eq_false_iff_ne.2
      intro e
      have := hs l h1
      rw [e] at this
      omega
    · rw [show decide (l.head? ≠ some 32) = true from decide_eq_true h1, hr l h1]
      exact beq_self_eq_true l
theorem prog_may (n v : ByteArray) (hn : n.size ≤ 1099511627776) (hv : v.size ≤ 1099511627776) : Ev (fun k => stat_may.f k n v) (mayB n v) := by
  have no : ∀ {b : Bool}, b = true → Ev (fun k => stat_may.j0 k b n v) false := by
    rintro b rfl
    refine ⟨1, fun k hk => ?_⟩
    obtain ⟨k, rfl⟩ : ∃ m, k = m + 1 := ⟨k - 1, by omega⟩
    simp only [stat_may.j0]
    rw [if_pos trivial]
  have e0 : ∀ a : ByteArray, (a.toList = ([] : List UInt8)) ↔ a.size = 0 := by
    intro a
    rw [ByteArray.toList_eq, L_size, List.length_eq_zero_iff]
  unfold mayB
  by_cases c1 : n.size = 0
  · rw [decide_eq_false (by omega : ¬ 1 ≤ n.size)]
    simp only [Bool.false_and]
    refine Ev.congr (fun k => ?_) (no (b := n.toList == ([] : List UInt8)) (beq_iff_eq.2 ((e0 n).2 c1)))
    unfold stat_may.f
    rw [if_pos ((e0 n).2 c1)]
  · rw [decide_eq_true (by omega : 1 ≤ n.size), Bool.true_and]
    by_cases c2 : n.size ≤ 64
    · rw [decide_eq_true c2, Bool.true_and]
      by_cases c3 : v.size = 0
      · rw [decide_eq_false (by omega : ¬ 1 ≤ v.size)]
        simp only [Bool.false_and]
        refine Ev.congr (fun k => ?_) (no (b := v.toList == ([] : List UInt8)) (beq_iff_eq.2 ((e0 v).2 c3)))
        unfold stat_may.f
        rw [if_neg (fun h => c1 ((e0 n).1 h)), if_neg (by omega), if_pos ((e0 v).2 c3)]
      · rw [decide_eq_true (by omega : 1 ≤ v.size), Bool.true_and]
        by_cases c4 : v.size ≤ 200
        · rw [decide_eq_true c4, Bool.true_and]
          have hf : ∀ k, stat_may.f k n v = stat_may.j0 k false n v := by
            intro k
            unfold stat_may.f
            rw [if_neg (fun h => c1 ((e0 n).1 h)), if_neg (by omega), if_neg (fun h => c3 ((e0 v).1 h)), decide_eq_false (by omega)]
          refine Ev.congr hf ?_
          have w1 := within_loop n hn 33 126 n.size 0 (by omega)
          have w2 := within_loop v hv 32 126 v.size 0 (by omega)
          rw [List.drop_zero] at w1 w2
          have ht : strings_Trim.f v (⟨#[32]⟩ : ByteArray) = some ⟨(Lib.trimB (L v) 32).toArray⟩ := by
            unfold strings_Trim.f
            show (if _ then _ else _) = _
            rw [if_pos ⟨by decide, by omega⟩]
          have h := Ev.bind (f := fun k t111 => (if t111 = true then ((stat_within.f k v 32 126).bind fun t112 => (if t112 = true then ((strings_Trim.f v (⟨#[32]⟩ : ByteArray)).bind fun t113 => (some (t113.toList == v.toList))) else (some false))) else (some false))) (r := inR 33 126 (L n) && inR 32 126 (L v) && ends (L v)) (show Ev (fun k => stat_within.f k n 33 126) _ from w1) (by
            cases inR 33 126 (L n) with
            | false => exact Ev.now _
            | true =>
              rw [Bool.true_and]
              refine Ev.bind (f := fun k t112 => (if t112 = true then ((strings_Trim.f v (⟨#[32]⟩ : ByteArray)).bind fun t113 => (some (t113.toList == v.toList))) else (some false))) (show Ev (fun k => stat_within.f k v 32 126) _ from w2) ?_
              cases inR 32 126 (L v) with
              | false => exact Ev.now _
              | true =>
                refine ⟨0, fun k _ => ?_⟩
                show (if true = true then _ else _) = _
                rw [if_pos rfl, ht, Option.bind_some, Bool.true_and, ← trim_ends (L v), ByteArray.toList_eq, ByteArray.toList_eq])
          refine Ev.step (fun k => ?_) h
          simp only [stat_may.j0]
          rw [if_neg Bool.false_ne_true]
        · rw [decide_eq_false c4]
          simp only [Bool.false_and]
          refine Ev.congr (fun k => ?_) (no (b := decide ((v.size : Int) > 200)) (decide_eq_true (by omega)))
          unfold stat_may.f
          rw [if_neg (fun h => c1 ((e0 n).1 h)), if_neg (by omega), if_neg (fun h => c3 ((e0 v).1 h))]
    · rw [decide_eq_false c2]
      simp only [Bool.false_and]
      refine Ev.congr (fun k => ?_) (no (b := decide ((n.size : Int) > 64)) (decide_eq_true (by omega)))
      unfold stat_may.f
      rw [if_neg (fun h => c1 ((e0 n).1 h)), if_pos (by omega)]
end Go.Proofs.YteddljbdjgdlnaaDoor.XSb
end
section
namespace Go.Proofs.YteddljbdjgdlnaaDoor.XSb
open Go.RowKit Go.Proofs.YteddljbdjgdlnaaDoorW.PrintWords Go.Proofs.YteddljbdjgdlnaaDoorW.PrintLast Go.Proofs.YteddljbdjgdlnaaDoorW.PrintMore
abbrev F := S52
abbrev G := S83
def conv (p : F) : G := ⟨p.f0, p.f1⟩
def back (p : G) : F := ⟨p.f0, p.f1⟩
theorem L_ba (l : List UInt8) : L (ba l) = l := by simp
theorem rd_at (l : List F) (i : Nat) (hi : i < l.length) : rd_T52 l (i : Int) = l[i] := by
  unfold rd_T52
  rw [Int.toNat_natCast, List.getD_eq_getElem?_getD, List.getElem?_eq_getElem hi]; rfl
theorem rd_atG (l : List G) (i : Nat) (hi : i < l.length) : rd_T83 l (i : Int) = l[i] := by
  unfold rd_T83
  rw [Int.toNat_natCast, List.getD_eq_getElem?_getD, List.getElem?_eq_getElem hi]; rfl
def tot (l : List F) : Nat := (l.map fun p => p.f0.size + p.f1.size).sum
theorem tot_cons (p : F) (l : List F) : tot (p :: l) = p.f0.size + p.f1.size + tot l := by simp [tot]
theorem tot_append (a b : List F) : tot (a ++ b) = tot a + tot b := by simp [tot]
theorem tot_take (l : List F) (i : Nat) : tot (l.take i) ≤ tot l := by
  have := tot_append (l.take i) (l.drop i)
  rw [List.take_append_drop] at this
  omega
def Fit (l : List F) : Prop := ∀ p ∈ l, p.f0.size ≤ 140737488351232 ∧ p.f1.size ≤ 140737488351232
theorem great_loop (l : List F) (hf : Fit l) (hl : l.length ≤ 1100) (d : Nat) : ∀ i, i + d = l.length → Ev (fun k => tallboylaw32_Great.l0 k l ((tot (l.take i) : Nat) : Int) (i : Int)) (decide (50000 ≤ tot l)) := by
  induction d with
  | zero =>
    intro i hi
    rw [List.take_of_length_le (by omega)]
    refine ⟨1, fun k hk => ?_⟩
    obtain ⟨k, rfl⟩ : ∃ m, k = m + 1 := ⟨k - 1, by omega⟩
    simp only [tallboylaw32_Great.l0]
    rw [if_neg (by omega)]
    congr 1
    by_cases h : 50000 ≤ tot l
    · rw [decide_eq_true h, decide_eq_true (by omega)]
    · rw [decide_eq_false h, decide_eq_false (by omega)]
  | succ d ih =>
    intro i hi
    have hil : i < l.length := by omega
    by_cases h : tot (l.take i) < 50000
    · have h1 := ih (i + 1) (by omega)
      have hp := hf l[i] (List.getElem_mem hil)
      rw [List.take_add_one, List.getElem?_eq_getElem hil, tot_append, show tot (some l[i]).toList = l[i].f0.size + l[i].f1.size from by simp [tot]] at h1
      refine Ev.step (fun k => ?_) h1
      simp only [tallboylaw32_Great.l0]
      rw [if_pos (by omega), if_pos (by omega), if_pos (by omega), rd_at l i hil, wrap_succ i (by omega)]
      have w1 : wrap64 (((tot (l.take i) : Nat) : Int) + (l[i].f0.size : Int)) = ((tot (l.take i) + l[i].f0.size : Nat) : Int) := by unfold wrap64; omega
      have w2 : wrap64 (((tot (l.take i) + l[i].f0.size : Nat) : Int) + (l[i].f1.size : Int)) = ((tot (l.take i) + (l[i].f0.size + l[i].f1.size) : Nat) : Int) := by unfold wrap64; omega
      rw [w1, w2]
    · have := tot_take l i
      refine ⟨1, fun k hk => ?_⟩
      obtain ⟨k, rfl⟩ : ∃ m, k = m + 1 := ⟨k - 1, by omega⟩
      simp only [tallboylaw32_Great.l0]
      rw [if_pos (by omega), if_neg (by omega), decide_eq_true (by omega), decide_eq_true (by omega)]
theorem great (l : List F) (hf : Fit l) (hl : l.length ≤ 1100) : Ev (fun k => tallboylaw32_Great.f k l) (decide (50000 ≤ tot l)) := by
  refine Ev.congr (fun k => ?_) (great_loop l hf hl l.length 0 (by omega))
  unfold tallboylaw32_Great.f
  rw [if_neg (by omega)]; rfl
theorem to_pairs (l : List F) (hl : l.length ≤ 4398046511100) : Ev (fun k => tallboylaw32_To.f k l) (l.map conv) := by
  have loop : ∀ d i, i + d = l.length → Ev (fun k => tallboylaw32_To.l0 k l ((l.take i).map conv) (i : Int)) (l.map conv) := by
    intro d
    induction d with
    | zero =>
      intro i hi
      rw [List.take_of_length_le (by omega)]
      refine ⟨1, fun k hk => ?_⟩
      obtain ⟨k, rfl⟩ : ∃ m, k = m + 1 := ⟨k - 1, by omega⟩
      simp only [tallboylaw32_To.l0]
      rw [if_neg (by omega)]
    | succ d ih =>
      intro i hi
      have hil : i < l.length := by omega
      refine Ev.step (fun k => ?_) (ih (i + 1) (by omega))
      simp only [tallboylaw32_To.l0]
      rw [if_pos (by omega), if_pos (by omega), if_pos (by rw [List.length_map, List.length_take]; omega), rd_at l i hil, wrap_succ i (by omega), List.take_add_one, List.getElem?_eq_getElem hil, List.map_append]
      rfl
  exact loop l.length 0 (by omega)
theorem from_pairs (l : List G) (hl : l.length ≤ 4398046511100) : Ev (fun k => tallboylaw32_From.f k l) (l.map back) := by
  have loop : ∀ d i, i + d = l.length → Ev (fun k => tallboylaw32_From.l0 k l ((l.take i).map back) (i : Int)) (l.map back) := by
    intro d
    induction d with
    | zero =>
      intro i hi
      rw [List.take_of_length_le (by omega)]
      refine ⟨1, fun k hk => ?_⟩
      obtain ⟨k, rfl⟩ : ∃ m, k = m + 1 := ⟨k - 1, by omega⟩
      simp only [tallboylaw32_From.l0]
      rw [if_neg (by omega)]
    | succ d ih =>
      intro i hi
      have hil : i < l.length := by omega
      refine Ev.step (fun k => ?_) (ih (i + 1) (by omega))
      simp only [tallboylaw32_From.l0]
      rw [if_pos (by omega), if_pos (by omega), if_pos (by rw [List.length_map, List.length_take]; omega), rd_atG l i hil, wrap_succ i (by omega), List.take_add_one, List.getElem?_eq_getElem hil, List.map_append]
      rfl
  exact loop l.length 0 (by omega)
theorem same_same (l : List F) (hl : l.length ≤ 4398046511100) : Ev (fun k => tallboyref32_Same.f k l l) true := by
  have loop : ∀ d i, i + d = l.length → Ev (fun k => tallboyref32_Same.l0 k l l (i : Int)) true := by
    intro d
    induction d with
    | zero =>
      intro i hi
      refine ⟨1, fun k hk => ?_⟩
      obtain ⟨k, rfl⟩ : ∃ m, k = m + 1 := ⟨k - 1, by omega⟩
      simp only [tallboyref32_Same.l0]
      rw [if_neg (by omega)]
    | succ d ih =>
      intro i hi
      refine Ev.step (fun k => ?_) (ih (i + 1) (by omega))
      simp only [tallboyref32_Same.l0]
      rw [if_pos (by omega), if_pos (by omega), if_pos (by omega), wrap_succ i (by omega), if_neg (by simp)]
  refine Ev.congr (fun k => ?_) (loop l.length 0 (by omega))
  unfold tallboyref32_Same.f
  rw [if_pos rfl]; rfl

def lineL (p : F) : List UInt8 := [83, 84, 65, 84, 32] ++ L p.f0 ++ [32] ++ L p.f1 ++ [13, 10]
def wrT : List F → List UInt8 → ByteArray × Int
  | [], acc => (ba (acc ++ [69, 78, 68, 13, 10]), 0)
  | p :: l, acc => if mayB p.f0 p.f1 = true then wrT l (acc ++ lineL p) else (⟨#[]⟩, 6)
theorem line_L (p : F) : L (stat_Write.line p.f0 p.f1) = lineL p := by
  unfold stat_Write.line lineL
  rw [L_append, L_append, L_append, L_append]
theorem lineL_length (p : F) : (lineL p).length = p.f0.size + p.f1.size + 8 := by
  rw [← line_L, ← L_size, stat_Write.line_size]
theorem prog_write (l : List F) : ∀ acc : List UInt8, acc.length + tot l + 8 * l.length ≤ 1099511627776 → stat_Write.go (l.map conv) acc = some (wrT l acc) := by
  induction l with
  | nil =>
    intro acc h
    simp only [List.map_nil, stat_Write.go, wrT]
    rw [if_pos (by simp [tot] at h; omega)]
  | cons p l ih =>
    intro acc h
    rw [tot_cons, List.length_cons] at h
    simp only [List.map_cons, stat_Write.go, wrT]
    rw [if_pos (by show acc.length + p.f0.size + p.f1.size ≤ _; omega), show stat_Write.mayO (conv p).f0 (conv p).f1 = some (mayB p.f0 p.f1) from stat_Write.mayO_of _ _ _ (prog_may p.f0 p.f1 (by omega) (by omega)), Option.bind_some]
    cases mayB p.f0 p.f1 with
    | false => rfl
    | true =>
      rw [if_pos rfl, if_pos rfl]
      have := ih (acc ++ lineL p) (by rw [List.length_append, lineL_length]; omega)
      rw [← this]
      show stat_Write.go _ (acc ++ L (stat_Write.line p.f0 p.f1)) = _
      rw [line_L]
end Go.Proofs.YteddljbdjgdlnaaDoor.XSb
end
section
namespace Go.Proofs.YteddljbdjgdlnaaDoor.XSb
open Go.RowKit Go.Proofs.YteddljbdjgdlnaaDoorW.PrintWords Go.Proofs.YteddljbdjgdlnaaDoorW.PrintLast Go.Proofs.YteddljbdjgdlnaaDoorW.PrintMore
theorem L_sub (s : ByteArray) (a b : Nat) : L (sub s a b) = ((L s).drop a).take (b - a) := by
  show (s.extract a b).data.toList = _
  rw [Lib.extract_data]
theorem index_room (l q : List UInt8) (h : 0 ≤ Lib.index l q) : (Lib.index l q).toNat + q.length ≤ l.length := by
  induction l with
  | nil =>
    unfold Lib.index at h ⊢
    by_cases hq : q.isEmpty = true
    · rw [if_pos hq]; rw [List.isEmpty_iff.1 hq]; simp
    · rw [if_neg hq] at h; omega
  | cons b l ih =>
    unfold Lib.index at h ⊢
    by_cases hp : q.isPrefixOf (b :: l) = true
    · rw [if_pos hp]
      have := (List.isPrefixOf_iff_prefix.1 hp).length_le
      simpa using this
    · rw [if_neg hp] at h ⊢
      by_cases h1 : (Lib.index l q == -1) = true
      · rw [if_pos h1] at h; omega
      · rw [if_neg h1] at h ⊢
        have hg := Lib.index_ge l q
        have h2 : Lib.index l q ≠ -1 := by simpa using h1
        have := ih (by omega)
        rw [List.length_cons]; omega
abbrev ix (l : List UInt8) : Int := Lib.index l [13, 10]
abbrev sp (l : List UInt8) : Int := Lib.index l [32]
theorem ix_one (c : UInt8) : ix [c] = -1 := by
  show (if ([13, 10] : List UInt8).isPrefixOf [c] then (0 : Int) else if Lib.index [] [13, 10] == -1 then -1 else Lib.index [] [13, 10] + 1) = -1
  rw [if_neg (by simp [List.isPrefixOf])]; rfl
theorem ix_two (c e : UInt8) (l : List UInt8) : ix (c :: e :: l) = if c = 13 ∧ e = 10 then 0 else if ix (e :: l) = -1 then -1 else ix (e :: l) + 1 := by
  show (if ([13, 10] : List UInt8).isPrefixOf (c :: e :: l) then (0 : Int) else if Lib.index (e :: l) [13, 10] == -1 then -1 else Lib.index (e :: l) [13, 10] + 1) = _
  have hp : (([13, 10] : List UInt8).isPrefixOf (c :: e :: l) = true) ↔ (c = 13 ∧ e = 10) := by
    show ((13 : UInt8) == c && ((10 : UInt8) == e && true)) = true ↔ _
    rw [Bool.and_true, Bool.and_eq_true, beq_iff_eq, beq_iff_eq]
    exact ⟨fun h => ⟨h.1.symm, h.2.symm⟩, fun h => ⟨h.1.symm, h.2.symm⟩⟩
  by_cases h : c = 13 ∧ e = 10
  · rw [if_pos (hp.2 h), if_pos h]
  · rw [if_neg (fun q => h (hp.1 q)), if_neg h]
    by_cases h1 : Lib.index (e :: l) [13, 10] = -1
    · rw [if_pos (by simpa using h1), if_pos h1]
    · rw [if_neg (by simpa using h1), if_neg h1]
def posn : List UInt8 → Nat
  | [] => 0
  | c :: l => if c = 32 then 0 else posn l + 1
theorem posn_le : ∀ l, posn l ≤ l.length
  | [] => Nat.le_refl _
  | c :: l => by
    unfold posn
    have := posn_le l
    split
    · exact Nat.zero_le _
    · rw [List.length_cons]; omega
theorem sp_posn : ∀ l, sp l = if posn l < l.length then (posn l : Int) else -1
  | [] => rfl
  | c :: l => by
    show (if ([32] : List UInt8).isPrefixOf (c :: l) then (0 : Int) else if Lib.index l [32] == -1 then -1 else Lib.index l [32] + 1) = _
    have ih : Lib.index l [32] = if posn l < l.length then (posn l : Int) else -1 := sp_posn l
    have hp : (([32] : List UInt8).isPrefixOf (c :: l) = true) ↔ c = 32 := by
      show ((32 : UInt8) == c && true) = true ↔ _
      rw [Bool.and_true, beq_iff_eq]
      exact eq_comm
    unfold posn
    by_cases h : c = 32
    · rw [if_pos (hp.2 h), if_pos h, if_pos (by rw [List.length_cons]; omega)]; rfl
    · rw [if_neg (fun q => h (hp.1 q)), if_neg h, ih]
      by_cases h1 : posn l < l.length
      · rw [if_pos h1, if_neg (by rw [beq_iff_eq]; omega), if_pos (by rw [List.length_cons]; omega)]; rfl
      · rw [if_neg h1, if_pos (by rfl), if_neg (by rw [List.length_cons]; omega)]
def pairB (t : List UInt8) : Option F :=
  if t.take 5 = [83, 84, 65, 84, 32] then (if posn (t.drop 5) < (t.drop 5).length then (if mayB (ba ((t.drop 5).take (posn (t.drop 5)))) (ba ((t.drop 5).drop (posn (t.drop 5) + 1))) = true then some ⟨ba ((t.drop 5).take (posn (t.drop 5))), ba ((t.drop 5).drop (posn (t.drop 5) + 1))⟩ else none) else none) else none
def rdT (N : Nat) : Nat → List UInt8 → List F → List F × Int × Int
  | 0, _, _ => ([], 0, 6)
  | d + 1, rest, acc => if ix rest < 0 then ([], 0, 6) else
    if rest.take (ix rest).toNat = [69, 78, 68] then (if 1000 < acc.length then ([], 0, 7) else (acc, ((N - (rest.length - ((ix rest).toNat + 2)) : Nat) : Int), 0))
    else match pairB (rest.take (ix rest).toNat) with
      | none => ([], 0, 6)
      | some p => rdT N d (rest.drop ((ix rest).toNat + 2)) (acc ++ [p])
def cv (x : List F × Int × Int) : List G × Int × Int := (x.1.map conv, x.2.1, x.2.2)
theorem ba_size (l : List UInt8) : (ba l).size = l.length := by rw [L_size, L_ba]
theorem cut_f (l q : List UInt8) (h : l.length < 4294967281) : strings_Cut.f (ba l) (ba q) = some (ba (Lib.cut l q).1, ba (Lib.cut l q).2.1, (Lib.cut l q).2.2) := by
  unfold strings_Cut.f
  rw [if_pos (by rw [ba_size]; exact h)]
theorem cut_prefix (t : List UInt8) (ht : t.length ≤ 1099511627776) : strings_CutPrefix.f (ba t) (⟨#[83, 84, 65, 84, 32]⟩ : ByteArray) = some (if t.take 5 = [83, 84, 65, 84, 32] then ba (t.drop 5) else ba t, decide (t.take 5 = [83, 84, 65, 84, 32])) := by
  unfold strings_CutPrefix.f stringslite_CutPrefix.f stringslite_HasPrefix.f
  have hsz : ((⟨#[83, 84, 65, 84, 32]⟩ : ByteArray).size : Int) = 5 := rfl
  rw [hsz, ba_size]
  by_cases h5 : 5 ≤ t.length
  · rw [if_pos (by omega), if_pos (by omega), if_pos (by omega)]
    have e : (sub (ba t) 0 (5 : Int).toNat).toList = t.take 5 := by
      rw [ByteArray.toList_eq]
      show L (sub (ba t) 0 5) = _
      rw [L_sub, L_ba]; rfl
    have e2 : (⟨#[83, 84, 65, 84, 32]⟩ : ByteArray).toList = [83, 84, 65, 84, 32] := by rw [ByteArray.toList_eq]
    have e3 : sub (ba t) (5 : Int).toNat t.length = ba (t.drop 5) := by
      apply ext
      rw [L_sub, L_ba, L_ba]
      show (t.drop 5).take (t.length - 5) = _
      rw [List.take_of_length_le (by rw [List.length_drop]; omega)]
    rw [e, e2]
    simp only [Option.bind_some]
    by_cases hp : t.take 5 = [83, 84, 65, 84, 32]
    · rw [if_pos (by rw [hp]; rfl), if_pos (by omega), if_pos (by omega), if_pos hp, decide_eq_true hp]
      simp only [Option.bind_some]
      rw [e3]
    · rw [if_neg (by rw [beq_iff_eq]; exact hp), if_neg hp, decide_eq_false hp]
      rfl
  · have hp : ¬ t.take 5 = [83, 84, 65, 84, 32] := fun q => by
      have := congrArg List.length q
      rw [List.length_take] at this
      simp at this
      omega
    rw [if_neg (by omega), if_neg hp, decide_eq_false hp]
    rfl
theorem cut_ix (l : List UInt8) : Lib.cut l [13, 10] = if ix l < 0 then (l, [], false) else (l.take (ix l).toNat, l.drop ((ix l).toNat + 2), true) := by
  unfold Lib.cut
  by_cases h : ix l < 0
  · rw [if_neg (by show ¬ 0 ≤ ix l; omega), if_pos h]
  · rw [if_pos (by show 0 ≤ ix l; omega), if_neg h]; rfl
theorem cut_sp (l : List UInt8) : Lib.cut l [32] = if posn l < l.length then (l.take (posn l), l.drop (posn l + 1), true) else (l, [], false) := by
  unfold Lib.cut
  have h := sp_posn l
  by_cases h1 : posn l < l.length
  · rw [if_pos h1] at h
    rw [if_pos (by show 0 ≤ sp l; omega), if_pos h1, show (Lib.index l [32]).toNat = posn l from by show (sp l).toNat = _; omega]; rfl
  · rw [if_neg h1] at h
    rw [if_neg (by show ¬ 0 ≤ sp l; omega), if_neg h1]
theorem ix_room (l : List UInt8) (h : ¬ ix l < 0) : (ix l).toNat + 2 ≤ l.length := index_room l [13, 10] (by show 0 ≤ ix l; omega)
theorem prog_read (s : ByteArray) (hs : s.size ≤ 1000000) : ∀ (d : Nat) (rest : List UInt8) (acc : List F), rest.length < d → rest.length ≤ s.size → acc.length + rest.length ≤ 2000000 →
    Ev (fun k => stat_Read.l0 k s (acc.map conv) (ba rest)) (cv (rdT s.size d rest acc)) := by
  intro d
  induction d with
  | zero => intro rest acc h; omega
  | succ d ih =>
    intro rest acc hd hr ha
    have hc := cut_f rest [13, 10] (by omega)
    rw [cut_ix] at hc
    unfold rdT
    by_cases h0 : ix rest < 0
    · rw [if_pos h0] at hc ⊢
      refine ⟨1, fun k hk => ?_⟩
      obtain ⟨k, rfl⟩ : ∃ m, k = m + 1 := ⟨k - 1, by omega⟩
      simp only [stat_Read.l0]
      rw [show (⟨#[13, 10]⟩ : ByteArray) = ba [13, 10] from rfl, hc]
      rfl
    · rw [if_neg h0] at hc ⊢
      have hroom := ix_room rest h0
      generalize (ix rest).toNat = i at *
      have ht : (rest.take i).length ≤ 1000000 := by rw [List.length_take]; omega
      have hp := cut_prefix (rest.take i) (by omega)
      have hmore : (rest.drop (i + 2)).length = rest.length - (i + 2) := List.length_drop
      have ihm := ih (rest.drop (i + 2))
      generalize rest.take i = t at *
      generalize rest.drop (i + 2) = more at *
      have hml : more.length = rest.length - (i + 2) := hmore
      by_cases he : t = [69, 78, 68]
      · rw [if_pos he]
        refine ⟨1, fun k hk => ?_⟩
        obtain ⟨k, rfl⟩ : ∃ m, k = m + 1 := ⟨k - 1, by omega⟩
        simp only [stat_Read.l0]
        rw [show (⟨#[13, 10]⟩ : ByteArray) = ba [13, 10] from rfl, hc]
        simp only [Option.bind_some]
        rw [if_pos trivial, if_pos (by rw [ByteArray.toList_eq]; exact he), List.length_map, ba_size more]
        by_cases hl : 1000 < acc.length
        · rw [if_pos hl, if_pos (by omega)]; rfl
        · rw [if_neg hl, if_neg (by omega)]
          unfold cv
          congr 3
          show _ = ((s.size - (rest.length - (i + 2)) : Nat) : Int)
          unfold wrap64
          omega
      · rw [if_neg he]
        have hstep : ∀ k, stat_Read.l0 (k + 1) s (acc.map conv) (ba rest) = (strings_CutPrefix.f (ba t) (⟨#[83, 84, 65, 84, 32]⟩ : ByteArray)).bind fun bt130 => ((strings_Cut.f bt130.1 (⟨#[32]⟩ : ByteArray)).bind fun bt132 => (if bt130.2 = true then (if bt132.2.2 = true then ((stat_may.f k bt132.1 bt132.2.1).bind fun t136 => (if t136 = true then (if (acc.map conv).length < 4398046511104 then (stat_Read.l0 k s (acc.map conv ++ [(⟨bt132.1, bt132.2.1⟩ : G)]) (ba more)) else (none)) else (some (([] : List G), 0, 6)))) else (some (([] : List G), 0, 6))) else (some (([] : List G), 0, 6)))) := by
          intro k
          simp only [stat_Read.l0]
          rw [show (⟨#[13, 10]⟩ : ByteArray) = ba [13, 10] from rfl, hc]
          simp only [Option.bind_some]
          rw [if_pos trivial, if_neg (by rw [ByteArray.toList_eq]; exact he)]
        unfold pairB
        have hbad : ∀ b : List UInt8, b.length < 4294967281 → ∃ y, strings_Cut.f (ba b) (⟨#[32]⟩ : ByteArray) = some y := fun b hb => ⟨_, cut_f b [32] hb⟩
        by_cases hpre : t.take 5 = [83, 84, 65, 84, 32]
        · rw [if_pos hpre] at hp ⊢
          rw [decide_eq_true hpre] at hp
          have hu : (t.drop 5).length ≤ 1000000 := by rw [List.length_drop]; omega
          have hc2 := cut_f (t.drop 5) [32] (by omega)
          rw [cut_sp] at hc2
          generalize t.drop 5 = u at *
          by_cases hsp : posn u < u.length
          · rw [if_pos hsp] at hc2 ⊢
            have hmay := prog_may (ba (u.take (posn u))) (ba (u.drop (posn u + 1))) (by rw [ba_size, List.length_take]; omega) (by rw [ba_size, List.length_drop]; omega)
            have hstep2 : ∀ k, stat_Read.l0 (k + 1) s (acc.map conv) (ba rest) = (stat_may.f k (ba (u.take (posn u))) (ba (u.drop (posn u + 1)))).bind fun t136 => (if t136 = true then (stat_Read.l0 k s ((acc ++ [(⟨ba (u.take (posn u)), ba (u.drop (posn u + 1))⟩ : F)]).map conv) (ba more)) else (some (([] : List G), 0, 6))) := by
              intro k
              rw [hstep, hp]
              simp only [Option.bind_some]
              rw [show (⟨#[32]⟩ : ByteArray) = ba [32] from rfl, hc2]
              simp only [Option.bind_some]
              rw [if_pos trivial, if_pos trivial, if_pos (by rw [List.length_map]; omega), List.map_append]
              rfl
            refine Ev.step hstep2 ?_
            refine Ev.bind (f := fun k t136 => (if t136 = true then (stat_Read.l0 k s ((acc ++ [(⟨ba (u.take (posn u)), ba (u.drop (posn u + 1))⟩ : F)]).map conv) (ba more)) else (some (([] : List G), 0, 6)))) hmay ?_
            cases mayB (ba (u.take (posn u))) (ba (u.drop (posn u + 1))) with
            | false => exact Ev.now _
            | true => exact ihm (acc ++ [⟨ba (u.take (posn u)), ba (u.drop (posn u + 1))⟩]) (by omega) (by omega) (by rw [List.length_append, List.length_singleton]; omega)
          · rw [if_neg hsp] at hc2 ⊢
            refine Ev.step (f := fun _ => some (([] : List G), (0 : Int), (6 : Int))) (fun k => ?_) (Ev.now _)
            rw [hstep, hp]
            simp only [Option.bind_some]
            rw [show (⟨#[32]⟩ : ByteArray) = ba [32] from rfl, hc2]
            rfl
        · rw [if_neg hpre] at hp ⊢
          rw [decide_eq_false hpre] at hp
          refine Ev.step (f := fun _ => some (([] : List G), (0 : Int), (6 : Int))) (fun k => ?_) (Ev.now _)
          obtain ⟨y, hy⟩ := hbad t (by omega)
          rw [hstep, hp]
          simp only [Option.bind_some]
          rw [hy]
          rfl
theorem Ev.via {α β : Type} {g : Nat → Option α} {F f : Nat → Option β} {a : α} {r : β} (hg : Ev g a) (h : ∀ k, g k = some a → F (k + 1) = f k) (hf : Ev f r) : Ev F r := by
  obtain ⟨K1, h1⟩ := hg
  obtain ⟨K2, h2⟩ := hf
  refine ⟨max K1 K2 + 1, fun k hk => ?_⟩
  obtain ⟨k, rfl⟩ : ∃ m, k = m + 1 := ⟨k - 1, by omega⟩
  rw [h k (h1 k (by omega)), h2 k (by omega)]
theorem rd_len (N : Nat) : ∀ (d : Nat) (rest : List UInt8) (acc : List F), (rdT N d rest acc).1.length ≤ 1000
  | 0, _, _ => Nat.zero_le _
  | d + 1, rest, acc => by
    unfold rdT
    split
    · exact Nat.zero_le _
    · split
      · split
        · exact Nat.zero_le _
        · show acc.length ≤ 1000
          omega
      · split
        · exact Nat.zero_le _
        · exact rd_len N d _ _
theorem back_conv (l : List F) : (l.map conv).map back = l := by
  rw [List.map_map]
  exact (List.map_congr_left (fun x _ => rfl)).trans (List.map_id _)
end Go.Proofs.YteddljbdjgdlnaaDoor.XSb
end
section
namespace Go.Proofs.YteddljbdjgdlnaaDoor.XSb
open Go.RowKit Go.Proofs.YteddljbdjgdlnaaDoorW.PrintWords Go.Proofs.YteddljbdjgdlnaaDoorW.PrintLast Go.Proofs.YteddljbdjgdlnaaDoorW.PrintMore
def allMay (l : List F) : Bool := l.all fun p => mayB p.f0 p.f1
theorem wr_all : ∀ (l : List F) (acc : List UInt8), allMay l = true → wrT l acc = (ba (acc ++ l.flatMap lineL ++ [69, 78, 68, 13, 10]), 0)
  | [], acc, _ => by simp [wrT]
  | p :: l, acc, h => by
    unfold allMay at h
    rw [List.all_cons, Bool.and_eq_true] at h
    unfold wrT
    rw [if_pos h.1, wr_all l _ h.2, List.flatMap_cons, List.append_assoc acc]
theorem wr_not : ∀ (l : List F) (acc : List UInt8), allMay l = false → wrT l acc = (⟨#[]⟩, 6)
  | [], acc, h => by cases h
  | p :: l, acc, h => by
    unfold wrT
    cases hp : mayB p.f0 p.f1 with
    | false => rfl
    | true =>
      unfold allMay at h
      rw [List.all_cons, hp, Bool.true_and] at h
      rw [if_pos rfl]
      exact wr_not l _ h
theorem ix_at (r : List UInt8) : ∀ x : List UInt8, (13 : UInt8) ∉ x → ix (x ++ 13 :: 10 :: r) = (x.length : Int)
  | [], _ => by
    show ix (13 :: 10 :: r) = 0
    rw [ix_two, if_pos ⟨rfl, rfl⟩]
  | c :: x, h => by
    have hc : c ≠ 13 := fun e => h (by rw [e]; exact List.mem_cons_self)
    have ih := ix_at r x (fun m => h (List.mem_cons_of_mem _ m))
    rw [List.cons_append]
    obtain ⟨e, y, hy⟩ : ∃ e y, x ++ 13 :: 10 :: r = e :: y := by
      cases x with
      | nil => exact ⟨_, _, rfl⟩
      | cons a b => exact ⟨_, _, rfl⟩
    rw [hy] at ih ⊢
    rw [ix_two, if_neg (fun h => hc h.1), ih, if_neg (by omega), List.length_cons]
    omega
theorem posn_at (r : List UInt8) : ∀ x : List UInt8, (32 : UInt8) ∉ x → posn (x ++ 32 :: r) = x.length
  | [], _ => by simp [posn]
  | c :: x, h => by
    have hc : c ≠ 32 := fun e => h (by rw [e]; exact List.mem_cons_self)
    rw [List.cons_append]
    unfold posn
    rw [if_neg hc, posn_at r x (fun m => h (List.mem_cons_of_mem _ m)), List.length_cons]
theorem inR_mem {lo hi : Nat} {l : List UInt8} (h : inR lo hi l = true) {c : UInt8} (hc : c ∈ l) : lo ≤ c.toNat ∧ c.toNat ≤ hi := by
  have := List.all_eq_true.1 h c hc
  simpa using this
theorem may_parts {n v : ByteArray} (h : mayB n v = true) : 1 ≤ n.size ∧ n.size ≤ 64 ∧ v.size ≤ 200 ∧ inR 33 126 (L n) = true ∧ inR 32 126 (L v) = true := by
  unfold mayB at h
  simp only [Bool.and_eq_true, decide_eq_true_eq] at h
  exact ⟨h.1.1.1.1.1.1, h.1.1.1.1.1.2, h.1.1.1.2, h.1.1.2, h.1.2⟩
def headL (p : F) : List UInt8 := [83, 84, 65, 84, 32] ++ (L p.f0 ++ 32 :: L p.f1)
theorem line_head (p : F) (r : List UInt8) : lineL p ++ r = headL p ++ 13 :: 10 :: r := by simp [lineL, headL]
theorem head_13 {p : F} (h : mayB p.f0 p.f1 = true) : (13 : UInt8) ∉ headL p := fun m => by
  obtain ⟨_, _, _, h1, h2⟩ := may_parts h
  unfold headL at m
  rcases List.mem_append.1 m with m | m
  · revert m; decide
  · rcases List.mem_append.1 m with m | m
    · have := (inR_mem h1 m).1
      revert this; decide
    · rcases List.mem_cons.1 m with m | m
      · revert m; decide
      · have := (inR_mem h2 m).1
        revert this; decide
theorem pair_head {p : F} (h : mayB p.f0 p.f1 = true) : pairB (headL p) = some p := by
  obtain ⟨h0, _, _, h1, h2⟩ := may_parts h
  have h32 : (32 : UInt8) ∉ L p.f0 := fun m => by
    have := (inR_mem h1 m).1
    revert this; decide
  have e1 : (headL p).take 5 = [83, 84, 65, 84, 32] := rfl
  have e2 : (headL p).drop 5 = L p.f0 ++ 32 :: L p.f1 := rfl
  have e3 : posn (L p.f0 ++ 32 :: L p.f1) = (L p.f0).length := posn_at _ _ h32
  have b : ∀ x : ByteArray, ba (L x) = x := fun x => ext (L_ba _)
  unfold pairB
  rw [e1, if_pos rfl, e2, e3, if_pos (by simp), List.take_left' rfl, show (L p.f0 ++ 32 :: L p.f1).drop ((L p.f0).length + 1) = L p.f1 by rw [← List.drop_drop, List.drop_left' rfl]; rfl, b, b, if_pos h]
theorem head_end (p : F) : headL p ≠ [69, 78, 68] := fun h => by
  have : (headL p).head? = some 69 := by rw [h]; rfl
  cases this
theorem drop_two (x r : List UInt8) : (x ++ 13 :: 10 :: r).drop (x.length + 2) = r := by
  rw [List.drop_append, List.drop_of_length_le (by omega), show x.length + 2 - x.length = 2 by omega]
  rfl
theorem read_back (N : Nat) (more : List UInt8) : ∀ (l : List F) (d : Nat) (acc : List F), allMay l = true → l.length < d → acc.length + l.length ≤ 1000 →
    rdT N d (l.flatMap lineL ++ [69, 78, 68, 13, 10] ++ more) acc = (acc ++ l, ((N - more.length : Nat) : Int), 0)
  | [], d, acc, _, hd, hl => by
    obtain ⟨d, rfl⟩ : ∃ m, d = m + 1 := ⟨d - 1, by simp at hd; omega⟩
    have e : ([] : List F).flatMap lineL ++ [69, 78, 68, 13, 10] ++ more = [69, 78, 68] ++ 13 :: 10 :: more := rfl
    have hix := ix_at more [69, 78, 68] (by decide)
    rw [e]
    unfold rdT
    rw [hix, if_neg (by decide), show ((([69, 78, 68] : List UInt8).length : Int)).toNat = 3 from rfl, if_pos (show List.take 3 ([69, 78, 68] ++ 13 :: 10 :: more) = [69, 78, 68] from rfl), if_neg (by simp at hl; omega), List.append_nil]
    congr 3
  | p :: l, d, acc, h, hd, hl => by
    obtain ⟨d, rfl⟩ : ∃ m, d = m + 1 := ⟨d - 1, by simp at hd; omega⟩
    unfold allMay at h
    rw [List.all_cons, Bool.and_eq_true] at h
    have e : (p :: l).flatMap lineL ++ [69, 78, 68, 13, 10] ++ more = headL p ++ 13 :: 10 :: (l.flatMap lineL ++ [69, 78, 68, 13, 10] ++ more) := by
      rw [List.flatMap_cons, List.append_assoc, List.append_assoc, line_head, List.append_assoc]
    have hix := ix_at (l.flatMap lineL ++ [69, 78, 68, 13, 10] ++ more) (headL p) (head_13 h.1)
    rw [e]
    unfold rdT
    rw [hix, if_neg (by omega), Int.toNat_natCast, List.take_left' rfl, if_neg (head_end p), pair_head h.1]
    simp only
    rw [drop_two]
    rw [List.length_cons] at hd hl
    rw [read_back N more l d (acc ++ [p]) h.2 (by omega) (by rw [List.length_append, List.length_singleton]; omega), List.append_assoc]
    rfl
theorem lines_len : ∀ l : List F, (l.flatMap lineL).length = tot l + 8 * l.length
  | [] => rfl
  | p :: l => by
    rw [List.flatMap_cons, List.length_append, lineL_length, lines_len l, tot_cons, List.length_cons]
    omega
def bytesL (l : List F) : ByteArray := ba (l.flatMap lineL ++ [69, 78, 68, 13, 10])
theorem bytes_size (l : List F) : (bytesL l).size = tot l + 8 * l.length + 5 := by
  rw [bytesL, ba_size, List.length_append, lines_len]
  rfl
theorem write_all (l : List F) (h : allMay l = true) (hs : tot l + 8 * l.length ≤ 1099511627776) : stat_Write.f (l.map conv) = some (bytesL l, 0) := by
  show stat_Write.go (l.map conv) [] = _
  rw [prog_write l [] (by show 0 + _ + _ ≤ _; omega), wr_all l [] h]
  rfl
theorem write_not (l : List F) (h : allMay l = false) (hs : tot l + 8 * l.length ≤ 1099511627776) : stat_Write.f (l.map conv) = some (⟨#[]⟩, 6) := by
  show stat_Write.go (l.map conv) [] = _
  rw [prog_write l [] (by show 0 + _ + _ ≤ _; omega), wr_not l [] h]
theorem back_all (l : List F) (h : allMay l = true) (hl : l.length ≤ 1000) (more : ByteArray) (hs : tot l + 8 * l.length + more.size ≤ 900000) : ∃ k, stat_Read.f k (bytesL l ++ more) = some (l.map conv, ((bytesL l).size : Int), 0) := by
  have hsz : (bytesL l ++ more).size = tot l + 8 * l.length + 5 + more.size := by rw [ByteArray.size_append, bytes_size]
  have hL : L (bytesL l ++ more) = l.flatMap lineL ++ [69, 78, 68, 13, 10] ++ L more := by rw [L_append]; unfold bytesL; rw [L_ba]
  have e := prog_read (bytesL l ++ more) (by omega) ((bytesL l ++ more).size + 1) (L (bytesL l ++ more)) [] (by rw [← L_size]; omega) (by rw [← L_size]; omega) (by rw [← L_size]; show 0 + _ ≤ _; omega)
  have hr := read_back (bytesL l ++ more).size (L more) l ((bytesL l ++ more).size + 1) [] h (by rw [hsz]; omega) (by show 0 + _ ≤ _; omega)
  rw [← hL] at hr
  rw [hr] at e
  obtain ⟨k, hk⟩ := e.rounds
  refine ⟨k, (show stat_Read.f k _ = _ from hk).trans ?_⟩
  show some (l.map conv, (((bytesL l ++ more).size - (L more).length : Nat) : Int), (0 : Int)) = _
  rw [← L_size, ByteArray.size_append, Nat.add_sub_cancel]
end Go.Proofs.YteddljbdjgdlnaaDoor.XSb
end
section
namespace Go.Proofs.YteddljbdjgdlnaaDoor.St
open Go.RowKit Go.Proofs.YteddljbdjgdlnaaDoorW.PrintWords Go.Proofs.YteddljbdjgdlnaaDoorW.PrintLast Go.Proofs.YteddljbdjgdlnaaDoorW.PrintMore Go.WideMaps Go.Proofs.YteddljbdjgdlnaaDoor.XSb
set_option linter.unusedVariables false
set_option linter.unusedSimpArgs false
attribute [local go_sem ↓] Go.wp_at_zero Go.wp_at_succ
namespace Wk
def f0 : Figs := app (fun _ => 0) (noteI 1 2 1 1 [])
theorem v1 : valF nm24 f0 Nm.cmd_get = 2 := by kernel_rfl
theorem v2 : valF nm24 f0 Nm.get_hits = 1 := by kernel_rfl
theorem v3 : valF nm24 f0 Nm.get_misses = 1 := by kernel_rfl
theorem h1 : has Nm.cmd_get nm24 = true := by kernel_rfl
theorem h2 : has Nm.get_hits nm24 = true := by kernel_rfl
theorem h3 : has Nm.get_misses nm24 = true := by kernel_rfl
def what : ByteArray := ⟨#[119, 104, 97, 116]⟩
theorem h4 : has what nm24 = false := by kernel_rfl
def p1 : F := ⟨⟨#[97]⟩, ⟨#[98, 32, 99]⟩⟩
def p2 : F := ⟨⟨#[97, 32, 98]⟩, ⟨#[99]⟩⟩
theorem m1 : allMay [p1] = true := by kernel_rfl
theorem m2 : allMay [p2] = false := by kernel_rfl
theorem t1 : tot [p1] = 4 := by kernel_rfl
theorem t2 : tot [p2] = 4 := by kernel_rfl
theorem b1 : bytesL [p1] = ⟨#[83, 84, 65, 84, 32, 97, 32, 98, 32, 99, 13, 10, 69, 78, 68, 13, 10]⟩ := by kernel_rfl
def ev (A B : Nat) : Ev := ⟨0, 1, some ⟨A, 0, none⟩, 2, 2, 0, 0, ⟨#[]⟩, 0, 0, false, 0, 1, some ⟨B, 0, none⟩, 1, 1, 0, none, 0, 0⟩
end Wk
theorem row_one (w : World) (a b : ByteArray) : Kd.C k83 (w.alloc (.cells #[.string a, .string b] 83)) (some ⟨w.heap.size, 0, none⟩) 1 [⟨a, b⟩] := by
  refine ⟨rfl, by decide, fun _ => ⟨_, rfl, ?_⟩⟩
  intro j p hp
  have hb : (w.alloc (.cells #[.string a, .string b] 83)).heap[w.heap.size]? = some (.cells #[.string a, .string b] 83) := heap_alloc_new w _
  match j with
  | 0 =>
    obtain rfl := Option.some.inj hp
    refine ⟨_, rfl, k83_mk _ _, fun i u hu => ?_⟩
    match i with
    | 0 => obtain rfl := Option.some.inj hu; exact fresh_cell hb 0
    | 1 => obtain rfl := Option.some.inj hu; exact fresh_cell hb 1
    | n + 2 => simp at hu
  | n + 1 => simp at hp
set_option maxHeartbeats 16000000 in
set_option maxRecDepth 100000 in
theorem works_calls (w : World) (hv : Vars w) : Calls Tryd.prog 25 #[] w fun e w' => e = .returned (.bool true) ∧ Below w.heap.size w w' := by
  have HV := Aside0.mk hv
  clear hv
  go_enter Tryd.func25, Tryd.ntmps25
  go_wp2_with fail
  refine (New_calls w).mono ?_
  rintro e w1 ⟨g, b, rfl, hA, hg, hb, hb1⟩
  have A1 := Aside0.mk hA
  have B1 := Aside0.mk hb1
  clear hA hb1
  go_wp2_with fail
  have hb2 := (((Below.refl w1.heap.size w1).alloc (Nat.le_refl _) (.cells #[.string ⟨#[97]⟩, .string ⟨#[98]⟩] 9)).alloc (by rw [size_al]; omega) (.cells #[.string ⟨#[97]⟩, .int .u32 0, .string ⟨#[]⟩, .int .u64 0] 135))
  have A2 := Aside0.mk (A1.out.below hb2)
  have B2 := Aside0.mk (B1.out.trans (hb2.mono B1.out.size))
  clear hb2
  refine (Note_calls _ g b 24 (fun _ => 0) (Wk.ev w1.heap.size (w1.heap.size + 1)) [] A2.out rfl (fun j y h => by cases h) (by decide) (show (2 : Nat) ≤ maxLen by decide) (show (1 : Nat) ≤ maxLen by decide)).mono ?_
  rintro e w3 ⟨rfl, hD⟩
  have A3 : Aside0 (At w3 g b 100 nm24 Wk.f0) := ⟨hD.at_.more (by have := note_len (Wk.ev w1.heap.size (w1.heap.size + 1)).kind (Wk.ev w1.heap.size (w1.heap.size + 1)).nk (Wk.ev w1.heap.size (w1.heap.size + 1)).nh (Wk.ev w1.heap.size (w1.heap.size + 1)).code []; simp only [List.length_nil] at this; omega)⟩
  have B3 := Aside0.mk (B2.out.trans (hD.mov.below hg hb B2.out.size))
  clear hD A2 B2 A1 B1
  go_wp2_with fail
  refine (Get_calls w3 g b 100 nm24 Wk.f0 Nm.cmd_get A3.out (by decide)).mono ?_
  rintro e w4 ⟨rfl, rfl⟩
  rw [Wk.v1, Wk.h1]
  go_wp2_with fail
  refine (Get_calls w4 g b 100 nm24 Wk.f0 Nm.get_hits A3.out (by decide)).mono ?_
  rintro e w5 ⟨rfl, rfl⟩
  rw [Wk.v2, Wk.h2]
  go_wp2_with fail
  refine (Get_calls w5 g b 100 nm24 Wk.f0 Nm.get_misses A3.out (by decide)).mono ?_
  rintro e w6 ⟨rfl, rfl⟩
  rw [Wk.v3, Wk.h3]
  go_wp2_with fail
  refine (Get_calls w6 g b 100 nm24 Wk.f0 Wk.what A3.out (by decide)).mono ?_
  rintro e w7 ⟨rfl, rfl⟩
  rw [Wk.h4]
  generalize valF nm24 Wk.f0 Wk.what = x0
  go_wp2_with fail
  have hb8 := (Below.refl w7.heap.size w7).alloc (Nat.le_refl _) (.cells #[.string ⟨#[97]⟩, .string ⟨#[98, 32, 99]⟩] 83)
  have A8 := Aside0.mk (A3.out.below hb8)
  have B8 := Aside0.mk (B3.out.trans (hb8.mono B3.out.size))
  clear hb8
  refine (stat_Write.calls (some ⟨w7.heap.size, 0, none⟩) 1 [⟨⟨#[97]⟩, ⟨#[98, 32, 99]⟩⟩] (bytesL [Wk.p1]) 0 _ (row_one w7 _ _) (Nat.le_refl 1) (write_all [Wk.p1] Wk.m1 (by rw [Wk.t1]; decide))).mono ?_
  rintro e w9 ⟨rfl, hb9⟩
  have A9 := Aside0.mk (A8.out.below hb9)
  have B9 := Aside0.mk (B8.out.trans (hb9.mono B8.out.size))
  clear hb9 A8 B8 A3 B3
  obtain ⟨kr, hkr⟩ := back_all [Wk.p1] Wk.m1 (by decide) ⟨#[109, 111, 114, 101]⟩ (by rw [Wk.t1]; decide)
  have HKR := Lib.hid hkr
  obtain ⟨T, hT⟩ : ∃ T, T = bytesL [Wk.p1] := ⟨_, rfl⟩
  rw [← hT] at HKR ⊢
  have hsz : T.size = 17 := by rw [hT, Wk.b1]; rfl
  have hTl : (T.toList == [83, 84, 65, 84, 32, 97, 32, 98, 32, 99, 13, 10, 69, 78, 68, 13, 10]) = true := by rw [hT, Wk.b1]; kernel_rfl
  have HT := Lib.hid hT
  have HTL := Lib.hid hTl
  clear hT hkr hTl
  go_wp2_with fail
  have hX := stat_Read.calls kr (T ++ ⟨#[109, 111, 114, 101]⟩) ([Wk.p1].map conv) (T.size : Int) 0 w9 (HV.out.below B9.out) HKR.out
  refine hX.mono ?_
  clear hX
  rintro e w10 ⟨v, rfl, hR, hb10⟩
  obtain ⟨Av, cv, rfl, hcv, hC⟩ := Kd.R_reads hR
  have A10 := Aside0.mk (A9.out.below hb10)
  have B10 := Aside0.mk (B9.out.trans (hb10.mono B9.out.size))
  have HC := Aside0.mk hC
  clear hR hb10 hC A9 B9
  go_wp2_with fail
  have hb11 := (Below.refl w10.heap.size w10).alloc (Nat.le_refl _) (.cells #[.string ⟨#[97, 32, 98]⟩, .string ⟨#[99]⟩] 83)
  have A11 := Aside0.mk (A10.out.below hb11)
  have B11 := Aside0.mk (B10.out.trans (hb11.mono B10.out.size))
  have HC11 := Aside0.mk (Kd.C_below HC.out hb11)
  clear hb11 A10 B10 HC
  refine (stat_Write.calls (some ⟨w10.heap.size, 0, none⟩) 1 [⟨⟨#[97, 32, 98]⟩, ⟨#[99]⟩⟩] ⟨#[]⟩ 6 _ (row_one w10 _ _) (Nat.le_refl 1) (write_not [Wk.p2] Wk.m2 (by rw [Wk.t2]; decide))).mono ?_
  rintro e w12 ⟨rfl, hb12⟩
  have A12 := Aside0.mk (A11.out.below hb12)
  have B12 := Aside0.mk (B11.out.trans (hb12.mono B11.out.size))
  have HC12 := Aside0.mk (Kd.C_below HC11.out hb12)
  clear hb12 A11 B11 HC11
  obtain ⟨adv, hadv, c0, c1⟩ := at_T83 HC12.out 0 (by decide) (by decide)
  subst hadv
  have c0a : w12.cell? (adv.add 0) = some (.string ⟨#[97]⟩) := c0
  have c1a : w12.cell? ⟨(adv.add 0).block, (adv.add 0).off + 1, none⟩ = some (.string ⟨#[98, 32, 99]⟩) := c1
  have c0' : w12.cell? adv = some (.string ⟨#[97]⟩) := by simpa [Addr.add] using c0a
  have c1' : w12.cell? ⟨adv.block, adv.off + 1, none⟩ = some (.string ⟨#[98, 32, 99]⟩) := by simpa [Addr.add] using c1a
  clear c0 c1 c0a c1a
  have hTl : T.toList = [83, 84, 65, 84, 32, 97, 32, 98, 32, 99, 13, 10, 69, 78, 68, 13, 10] := beq_iff_eq.1 HTL.out
  go_wp2_with fail
  have hY := General_calls w12 g b 100 Wk.f0 (HV.out.below B12.out) A12.out (ok_app ok_zero)
  refine hY.mono ?_
  clear hY
  rintro e w13 ⟨v13, rfl, hR13, hb13⟩
  obtain ⟨A13, c13, rfl, -, -⟩ := Kd.R_reads hR13
  have B13 := Aside0.mk (B12.out.trans (hb13.mono B12.out.size))
  have hgl : (genL Wk.f0 nm24).length = 24 := by unfold genL; rw [List.length_map]; rfl
  rw [hgl]
  clear hR13 hb13 hgl c0' c1'
  go_wp2
  go_ret
  exact ⟨rfl, B13.out⟩
end Go.Proofs.YteddljbdjgdlnaaDoor.St
end
section
namespace Go.Proofs.YteddljbdjgdlnaaDoor.St
open Go.RowKit Go.Proofs.YteddljbdjgdlnaaDoorW.PrintWords Go.Proofs.YteddljbdjgdlnaaDoorW.PrintLast Go.Proofs.YteddljbdjgdlnaaDoorW.PrintMore Go.WideMaps Go.Proofs.YteddljbdjgdlnaaDoor.XSb
set_option linter.unusedVariables false
set_option linter.unusedSimpArgs false
attribute [local go_sem ↓] Go.wp_at_zero Go.wp_at_succ
theorem great_is (l : List F) (hf : Fit l) : ∃ k g, tallboylaw32_Great.f k l = some g ∧ (g = false → l.length ≤ 1100 ∧ tot l < 50000) := by
  by_cases hl : l.length ≤ 1100
  · obtain ⟨k, hk⟩ := (great l hf hl).rounds
    exact ⟨k, _, hk, fun h => ⟨hl, by have := of_decide_eq_false h; omega⟩⟩
  · refine ⟨1, true, ?_, fun h => by cases h⟩
    unfold tallboylaw32_Great.f
    rw [if_pos (by omega)]
set_option maxHeartbeats 16000000 in
set_option maxRecDepth 100000 in
theorem back_calls (w : World) (hv : Vars w) (A0 : Option Addr) (l0 : List F) (c0 : Nat) (more : ByteArray) (hc0 : l0.length ≤ c0) (hC0 : Kd.C k52 w A0 l0.length l0) (hF : Fit l0) :
    Calls Tryd.prog 5 #[.slice A0 l0.length c0, .string more] w fun e w' => e = .returned (.bool true) ∧ Below w.heap.size w w' := by
  have HV := Aside0.mk hv
  have HC0 := Aside0.mk hC0
  obtain ⟨kg, gr, hgr, hgt⟩ := great_is l0 hF
  have HG := Lib.hid hgr
  have HGT := Lib.hid hgt
  clear hv hC0 hF hgr hgt
  go_enter Tryd.func5, Tryd.ntmps5
  go_wp2_with fail
  refine (works_calls w HV.out).mono ?_
  rintro e w1 ⟨rfl, hb1⟩
  have B1 := Aside0.mk hb1
  have C1 := Aside0.mk (Kd.C_below HC0.out hb1)
  clear hb1 HC0
  go_wp2_with fail
  have hX := tallboylaw32_Great.calls kg A0 c0 l0 gr w1 C1.out hc0 HG.out
  refine hX.mono ?_
  clear hX
  rintro e w2 ⟨rfl, nd, rfl⟩
  have B2 : Aside0 (Below w.heap.size w (w1.drewN nd)) := ⟨B1.out.trans ((below_drewN w1 nd).mono B1.out.size)⟩
  have C2 : Aside0 (Kd.C k52 (w1.drewN nd) A0 l0.length l0) := ⟨Kd.C_below C1.out (below_drewN w1 nd)⟩
  cases gr with
  | true =>
    go_wp2
    go_ret
    exact ⟨rfl, B2.out⟩
  | false =>
    obtain ⟨hl11, ht⟩ := HGT.out rfl
    by_cases hl : 1000 < l0.length
    · have hli : (1000 : Int) < (l0.length : Int) := by omega
      clear hl11 ht
      go_wp2
      go_ret
      exact ⟨rfl, B2.out⟩
    have hli : ¬ (1000 : Int) < (l0.length : Int) := by omega
    by_cases hm : 1000 < more.size
    · have hmi : (1000 : Int) < (more.size : Int) := by omega
      clear hl11 ht
      go_wp2
      go_ret
      exact ⟨rfl, B2.out⟩
    have hmi : ¬ (1000 : Int) < (more.size : Int) := by omega
    have HTT := Lib.hid ht
    have HLL := Lib.hid hl
    have HMM := Lib.hid hm
    clear ht hl11 hl hm
    generalize w1.drewN nd = w3 at B2 C2 ⊢
    clear B1 C1
    go_wp2_with fail
    obtain ⟨kt, hkt⟩ := (to_pairs l0 (by have := HLL.out; omega)).rounds
    have hX := tallboylaw32_To.calls kt A0 c0 l0 (l0.map conv) w3 C2.out hc0 hkt
    refine hX.mono ?_
    clear hX hkt
    rintro e w4 ⟨v4, rfl, hR, hb4⟩
    obtain ⟨A4, c4, rfl, hc4, hC4⟩ := Kd.R_reads hR
    have B4 := Aside0.mk (B2.out.trans (hb4.mono B2.out.size))
    have C4 := Aside0.mk (Kd.C_below C2.out hb4)
    have D4 := Aside0.mk hC4
    clear hR hb4 hC4 B2 C2
    have hsz : tot l0 + 8 * l0.length ≤ 1099511627776 := by have := HTT.out; have := HLL.out; omega
    cases hall : allMay l0 with
    | false =>
      have hX := stat_Write.calls A4 c4 (l0.map conv) ⟨#[]⟩ 6 w4 D4.out hc4 (write_not l0 hall hsz)
      rw [List.length_map] at hX
      have HX := Aside0.mk hX
      clear hX hall hsz
      go_wp2_with fail
      refine HX.out.mono ?_
      clear HX
      rintro e w5 ⟨rfl, hb5⟩
      have B5 := Aside0.mk (B4.out.trans (hb5.mono B4.out.size))
      clear hb5
      go_wp2
      go_ret
      exact ⟨rfl, B5.out⟩
    | true =>
      have hX := stat_Write.calls A4 c4 (l0.map conv) (bytesL l0) 0 w4 D4.out hc4 (write_all l0 hall hsz)
      rw [List.length_map] at hX
      have HX := Aside0.mk hX
      have HALL := Lib.hid hall
      clear hX hall hsz
      go_wp2_with fail
      refine HX.out.mono ?_
      clear HX
      rintro e w5 ⟨rfl, hb5⟩
      have B5 := Aside0.mk (B4.out.trans (hb5.mono B4.out.size))
      have C5 := Aside0.mk (Kd.C_below C4.out hb5)
      clear hb5 B4 C4 D4
      have hTs : (bytesL l0).size = tot l0 + 8 * l0.length + 5 := bytes_size l0
      obtain ⟨kr, hkr⟩ := back_all l0 HALL.out (by have := HLL.out; omega) more (by have := HTT.out; have := HLL.out; have := HMM.out; omega)
      have hTb : (bytesL l0).size ≤ 60000 := by have := HTT.out; have := HLL.out; omega
      have hmb : more.size ≤ 1000 := by have := HMM.out; omega
      clear hTs
      have HKR := Lib.hid hkr
      clear hkr
      obtain ⟨T, hT⟩ : ∃ T, T = bytesL l0 := ⟨_, rfl⟩
      rw [← hT] at HKR hTb ⊢
      clear hT
      have hTi : (T.size : Int) ≤ 60000 := by omega
      have hmi2 : (more.size : Int) ≤ 1000 := by omega
      go_wp2_with fail
      have hX := stat_Read.calls kr (T ++ more) (l0.map conv) (T.size : Int) 0 w5 (HV.out.below B5.out) HKR.out
      refine hX.mono ?_
      clear hX
      rintro e w6 ⟨v6, rfl, hR, hb6⟩
      obtain ⟨A6, c6, rfl, hc6, hC6⟩ := Kd.R_reads hR
      have B6 := Aside0.mk (B5.out.trans (hb6.mono B5.out.size))
      have C6 := Aside0.mk (Kd.C_below C5.out hb6)
      have D6 := Aside0.mk hC6
      clear hR hb6 hC6 B5 C5
      go_wp2_with fail
      obtain ⟨kf, hkf⟩ := (from_pairs (l0.map conv) (by rw [List.length_map]; have := HLL.out; omega)).rounds
      rw [back_conv] at hkf
      have hX := tallboylaw32_From.calls kf A6 c6 (l0.map conv) l0 w6 D6.out hc6 hkf
      rw [List.length_map] at hX
      refine hX.mono ?_
      clear hX hkf
      rintro e w7 ⟨v7, rfl, hR, hb7⟩
      obtain ⟨A7, c7, rfl, hc7, hC7⟩ := Kd.R_reads hR
      have B7 := Aside0.mk (B6.out.trans (hb7.mono B6.out.size))
      have C7 := Aside0.mk (Kd.C_below C6.out hb7)
      have D7 := Aside0.mk hC7
      clear hR hb7 hC7 B6 C6 D6
      go_wp2_with fail
      obtain ⟨ks, hks⟩ := (same_same l0 (by have := HLL.out; omega)).rounds
      have hX := tallboyref32_Same.calls ks A7 c7 l0 A0 c0 l0 true w7 D7.out hc7 C7.out hc0 hks
      refine hX.mono ?_
      clear hX hks
      rintro e w8 ⟨rfl, nd8, rfl⟩
      have B8 : Aside0 (Below w.heap.size w (w7.drewN nd8)) := ⟨B7.out.trans ((below_drewN w7 nd8).mono B7.out.size)⟩
      go_wp2
      go_ret
      exact ⟨rfl, B8.out⟩
end Go.Proofs.YteddljbdjgdlnaaDoor.St
end
section
namespace Go.Proofs.YteddljbdjgdlnaaDoor
open Go.RowKit Go.Proofs.YteddljbdjgdlnaaDoorW.PrintWords

def Sm (P : Program) (t : TypeId) {H : Type} (d : DataW H) : Prop := ∀ n ∈ DataW.weights P t d, n ≤ reachBytes
theorem weights_mem_all {H : Type} {P : Program} {e : TypeId} {d : DataW H} {n : Nat} (hn : n ∈ d.weights P e) : ∀ {l : List (DataW H)}, d ∈ l → n ∈ DataW.weightsAll P e l
  | x :: l, h => by
    rw [DataW.weightsAll, List.mem_append]
    rcases List.mem_cons.1 h with rfl | h
    · exact Or.inl hn
    · exact Or.inr (weights_mem_all hn h)
def OpensW (P : Program) (t : TypeId) {α : Type} (d : Kd α) (Q : α → Prop) : Prop :=
  ∀ (H : Type) (enc : TypeId × Value → H) (w : World) (base : Nat) (spare : Nat → Bool) (held : Bool) (fuel : Nat) (cs : List Value) (x : DataW H × List MemPlace),
    DataW.trod enc P w base spare held fuel t cs = some x → Sm P t x.1 → ∃ v, d.K w v cs ∧ Q v
def OpensWAt (P : Program) (fs : List Field) (off : Nat) {α : Type} (d : Kd α) (Q : α → Prop) : Prop :=
  ∀ (H : Type) (enc : TypeId × Value → H) (w : World) (base : Nat) (spare : Nat → Bool) (held : Bool) (n : Nat) (cs : List Value), cs.length = off + d.sz →
    (∀ f ∈ fs, ∃ x, DataW.trod enc P w base spare held n f.type ((cs.drop f.offset).take (P.cellsOf f.type)) = some x ∧ Sm P f.type x.1) → ∃ v, d.K w v (cs.drop off) ∧ Q v
section
variable {P : Program} {t e : TypeId} {α β : Type} {d : Kd α} {d0 : Kd α} {d1 : Kd β} {Q : α → Prop} {Q1 : β → Prop}
theorem opensW_int {k : IntKind} (ht : P.underlying t = some (.int k)) : OpensW P t (Kd.int k) (fun n => (Lit.int k n).wf = true) := by
  intro H enc w base spare held fuel cs x h hw_
  obtain ⟨n, rfl, _, hw⟩ := DataW.trod_int ht h
  exact ⟨n, rfl, hw⟩
theorem opensW_bool (ht : P.underlying t = some .bool) : OpensW P t Kd.bool (fun _ => True) := by
  intro H enc w base spare held fuel cs x h hw_
  obtain ⟨n, rfl, _⟩ := DataW.trod_bool ht h
  exact ⟨n, rfl, trivial⟩
theorem opensW_string (ht : P.underlying t = some .string) : OpensW P t Kd.string (fun s => s.size ≤ reachBytes) := by
  intro H enc w base spare held fuel cs x h hw_
  obtain ⟨s, rfl, rfl, _⟩ := DataW.trod_string ht h
  have := hw_ s.data.toList.length (by simp [DataW.weights])
  rw [Array.length_toList] at this
  exact ⟨s, rfl, this⟩
theorem opensW_iso {γ : Type} (h : OpensW P t d Q) (f : γ → α) (g : α → γ) (hg : ∀ a, f (g a) = a) : OpensW P t (Kd.iso d f) (fun b => Q (f b)) := by
  intro H enc w base spare held fuel cs x hx hw_
  obtain ⟨v, hv, hq⟩ := h H enc w base spare held fuel cs x hx hw_
  exact ⟨g v, (show d.K w (f (g v)) cs by rw [hg]; exact hv), show Q (f (g v)) by rw [hg]; exact hq⟩
theorem opensWAt_one {f : Field} {off : Nat} (ho : f.offset = off) (hc : P.cellsOf f.type = d.sz) (h : OpensW P f.type d Q) : OpensWAt P [f] off d Q := by
  intro H enc w base spare held n cs hl hf
  obtain ⟨x, hx, hs_⟩ := hf f List.mem_cons_self
  rw [ho, hc, List.take_of_length_le (by rw [List.length_drop]; omega)] at hx
  exact h H enc w base spare held n _ x hx hs_
theorem opensWAt_cons {f : Field} {fs : List Field} {off : Nat} (ho : f.offset = off) (hc : P.cellsOf f.type = d0.sz) (h0 : OpensW P f.type d0 Q) (h1 : OpensWAt P fs (off + d0.sz) d1 Q1) :
    OpensWAt P (f :: fs) off (Kd.pair d0 d1) (fun v => Q v.1 ∧ Q1 v.2) := by
  intro H enc w base spare held n cs hl hf
  have hsz : (Kd.pair d0 d1).sz = d0.sz + d1.sz := rfl
  obtain ⟨x, hx, hs_⟩ := hf f List.mem_cons_self
  rw [ho, hc] at hx
  obtain ⟨a, ha, hq⟩ := h0 H enc w base spare held n _ x hx hs_
  obtain ⟨b, hb, hq1⟩ := h1 H enc w base spare held n cs (by omega) (fun g hg => hf g (List.mem_cons_of_mem _ hg))
  refine ⟨(a, b), ⟨_, _, ?_, ha, hb⟩, hq, hq1⟩
  rw [← List.drop_drop]
  exact (List.take_append_drop _ _).symm
theorem opensW_struct {fs : List Field} (ht : P.underlying t = some (.struct fs.toArray)) (hc : P.cellsOf t = d.sz) (h : OpensWAt P fs 0 d Q) : OpensW P t d Q := by
  intro H enc w base spare held fuel cs x hx hw_
  obtain ⟨xs, n, _, rfl, hl, hlen, hf⟩ := DataW.trod_struct ht hx
  have := h H enc w base spare held n cs (by omega) (by
    intro f hm
    obtain ⟨i, hi, rfl⟩ := List.mem_iff_getElem.1 hm
    have e := hf i fs[i] (by rw [List.getElem?_toArray, List.getElem?_eq_getElem hi])
    rw [List.size_toArray] at hlen
    rw [List.getElem?_eq_getElem (by omega)] at e
    refine ⟨_, e, fun m hm => hw_ m ?_⟩
    unfold DataW.weights
    simp only [ht]
    exact DataW.weights_mem_each (j := i) (t := fs[i].type) (d := xs[i].1) (by rw [List.getElem?_map, List.getElem?_eq_getElem hi]; rfl) (by rw [List.getElem?_map, List.getElem?_eq_getElem (by omega)]; rfl) m hm)
  simpa using this
theorem listW_of {R : Nat → α → Prop} : ∀ n : Nat, (∀ i, i < n → ∃ v, R i v) → ∃ xs : List α, xs.length = n ∧ ∀ i v, xs[i]? = some v → R i v
  | 0, _ => ⟨[], rfl, fun i v h => by simp at h⟩
  | n + 1, h => by
    obtain ⟨xs, hl, hx⟩ := listW_of n fun i hi => h i (by omega)
    obtain ⟨v, hv⟩ := h n (by omega)
    refine ⟨xs ++ [v], by rw [List.length_append, hl]; rfl, fun i u hu => ?_⟩
    rcases Nat.lt_or_ge i xs.length with hi | hi
    · rw [List.getElem?_append_left hi] at hu; exact hx i u hu
    · rw [List.getElem?_append_right hi] at hu
      rcases Nat.eq_zero_or_pos (i - xs.length) with h0 | h0
      · rw [h0] at hu
        obtain rfl : v = u := by simpa using hu
        rw [show i = n from by omega]; exact hv
      · rw [List.getElem?_eq_none (by simp; omega)] at hu; cases hu
theorem opensW_slice (ht : P.underlying t = some (.slice e)) (hc : P.cellsOf e = d.sz) (h : OpensW P e d Q) : OpensW P t (Kd.slice e d) (fun xs => (∀ x ∈ xs, Q x) ∧ xs.length * P.bytesOf e ≤ reachBytes) := by
  intro H enc w base spare held fuel cs x hx hw_
  rcases DataW.trod_slice ht hx with ⟨rfl, _⟩ | ⟨a, len, cap, elems, rest, n, _, rfl, rfl, hb, hl, hm, hlen, hel, _, _⟩
  · exact ⟨[], ⟨none, 0, rfl, Nat.le_refl _, rfl, Nat.zero_le _, fun h => absurd h (Nat.lt_irrefl 0)⟩, fun x hx => absurd hx List.not_mem_nil, by show 0 * _ ≤ _; omega⟩
  · obtain ⟨xs, hxl, hxs⟩ := listW_of (R := fun i v => (∃ c : List Value, c.length = d.sz ∧ d.K w v c ∧ ∀ j u, c[j]? = some u → w.cell? (a.add (i * d.sz + j)) = some u) ∧ Q v) len (by
      intro i hi
      have e1 := hel i hi
      rw [List.getElem?_eq_getElem (by omega)] at e1
      obtain ⟨c, hcs, hcd⟩ := Option.bind_eq_some_iff.1 e1
      obtain ⟨v, hv, hq⟩ := h H enc w base spare held n c _ hcd (fun m hm => hw_ m (by
        unfold DataW.weights
        simp only [ht]
        rw [List.mem_cons, List.mem_append]
        exact Or.inr (Or.inl (weights_mem_all hm (List.mem_map.2 ⟨_, List.getElem_mem _, rfl⟩)))))
      obtain ⟨q1, q2, q3⟩ := World.cells?_some hcs
      refine ⟨v, ⟨c, by rw [← hc]; exact q2, hv, fun j u hu => ?_⟩, hq⟩
      have hj : j < P.cellsOf e := by
        rcases Nat.lt_or_ge j c.length with h' | h'
        · omega
        · rw [List.getElem?_eq_none h'] at hu; cases hu
      have := q3 j hj
      rw [Addr.add_add, hc] at this
      rw [this, hu])
    refine ⟨xs, ⟨some a, cap, by rw [hxl], by omega, rfl, by rw [hxl]; unfold maxLen at hm; omega, fun _ => ⟨a, rfl, fun j p hp => (hxs j p hp).1⟩⟩, fun x hx => ?_, ?_⟩
    · obtain ⟨i, hi, rfl⟩ := List.mem_iff_getElem.1 hx
      exact (hxs i _ (List.getElem?_eq_getElem hi)).2
    · have := hw_ ((elems.length + rest.length) * P.bytesOf e) (by unfold DataW.weights; simp [ht])
      refine Nat.le_trans (Nat.mul_le_mul_right _ ?_) this
      omega
end
end Go.Proofs.YteddljbdjgdlnaaDoor
end
section
namespace Go.Proofs.YteddljbdjgdlnaaDoor.statBack
open Go.ChangeShapes Go.WideShapes Go.ChangeAt Go.RowKit
open Go.ChangeMaps (open_string shut_string)

theorem own : ownKnob Tryd.prog.godebug = none := by kernel_rfl
theorem laid_met (os : Os) (args : Array Value) : laidMetH Tryd.prog Rows.statBackRow.laid ((World.laidAll Tryd.prog os Rows.statBackRow.laid).forCall (fun _ _ => 0) ⟨#[], args, []⟩).memory := by
  rw [MakeChecks.laidMetH_plain _ _ _ (by kernel_rfl)]
  exact laidMet_laidAll _ (by kernel_rfl) (by kernel_rfl)
theorem shaped (os : Os) (args : Array Value) : ((World.laidAll Tryd.prog os Rows.statBackRow.laid).forCall (fun _ _ => 0) ⟨#[], args, []⟩).Shaped Tryd.prog :=
  World.shaped_of_ZipB (by kernel_rfl) (by kernel_rfl)

theorem laidOut : laidOutB Tryd.prog = true := by kernel_rfl
theorem vars_of {W : World} (h : laidMetH Tryd.prog Rows.statBackRow.laid W) (hsh : W.ShapedOpen Tryd.prog) : Vars W := by
  rw [MakeChecks.laidMetH_plain _ _ _ (by kernel_rfl)] at h
  exact ⟨trivial, Lib.tabIs_of_head gPow (by kernel_rfl) Tryd.underlying188 Tryd.underlying28 (by kernel_rfl) (by kernel_rfl) h.tail.tail,
    cell_of_shapedOpen_int (P := Tryd.prog) (g := 0) (t := 3) (zero := #[.int .i64 0]) hsh (of_decide_eq_true (by kernel_rfl)) (by kernel_rfl) rfl (by kernel_rfl) (by kernel_rfl) Tryd.underlying3⟩
open Go.Proofs.YteddljbdjgdlnaaDoorW.PrintWords in
theorem opens_arg : OpensW Tryd.prog 43 (Kd.slice 52 XSb.k52) (fun xs => (∀ x ∈ xs, x.f0.size ≤ reachBytes ∧ x.f1.size ≤ reachBytes) ∧ xs.length * Tryd.prog.bytesOf 52 ≤ reachBytes) :=
  opensW_slice Tryd.underlying43 (by kernel_rfl) (opensW_iso (opensW_struct Tryd.underlying52 (by kernel_rfl) (opensWAt_cons rfl (by kernel_rfl) (opensW_string Tryd.underlying9) (opensWAt_one rfl (by kernel_rfl) (opensW_string Tryd.underlying9)))) _ (fun a => ⟨a.1, a.2⟩) (fun _ => rfl))
set_option maxRecDepth 100000 in
theorem lifted (os : Os) (started : os.Started) (H : Type) (enc : TypeId × Value → H) (F : Stop.Interp) :
    ReturnsInHanded {} Tryd.checked os 5 .any ((OpenSpec.ofChange Rows.statBackSpec).preRow enc Tryd.prog Tryd.f5 Rows.statBackRow.domain false Rows.statBackRow.laid) (((OpenSpec.ofChange Rows.statBackSpec).at F).post enc Tryd.prog Tryd.f5 false true false false) := by
  refine returnsInHanded_of_row (C := Tryd.checked) (s := OpenSpec.ofChange Rows.statBackSpec) own started (by kernel_rfl) Tryd.func5
    (ChangeSpec.witness_shaped (enc := enc) (C := Tryd.checked) (os := os) (s := Rows.statBackSpec) (X := fun w _ => laidMetH Tryd.prog Rows.statBackRow.laid w) false (World.laidAll Tryd.prog os Rows.statBackRow.laid) #[.slice none 0 0, .string ByteArray.empty] 8 (World.laidAll_os _ _ _)
      (shaped os _) (by kernel_rfl) (by kernel_rfl) (by kernel_rfl) (laid_met os _)) ?_
  intro W base args ds gs before hval0 hW _ _ hsz0 hL hsh _
  have hsz : (DataW.weightsEach Tryd.prog (Tryd.f5.params.toList ++ Rows.statBackSpec.plain.varTypes Tryd.prog) (ds ++ gs)).all (· ≤ reachBytes) = true := hsz0
  have hval : ∀ (j : Nat) t v, Tryd.f5.params[j]? = some t → args[j]? = some v → Value.okWide Tryd.prog W .any base t v := hval0
  have hW' := hW
  obtain ⟨p, q, hA0, hV, rfl, hfz, hnd⟩ := hW
  have hA : DataW.TrodAll enc Tryd.prog W 0 (fun _ => true) true Tryd.f5.params.toList args.toList ds p := hA0
  rw [Tryd.params5] at hA hval hsz
  obtain ⟨v0, vs0, d0, ds0, p0, q0, hargs, rfl, rfl, h0, r0⟩ := trodAll_cons hA
  obtain ⟨v1, vs1, d1, ds1, p1, q1, rfl, rfl, rfl, h1, r1⟩ := trodAll_cons r0
  obtain ⟨rfl, rfl, rfl⟩ := trodAll_nil r1
  obtain rfl : args = #[v0, v1] := by cases args; simp_all
  obtain ⟨rfl, rfl⟩ := trodVars_none hV
  have k0 := h0
  have lt0 : ∀ x ∈ p0, x.block < W.heap.size := by obtain ⟨m, hm⟩ := k0; exact DataW.trod_lt m _ _ _ hm
  obtain ⟨A, n, c, rfl⟩ := okWide_slice Tryd.underlying43 (hval 0 43 v0 rfl rfl)
  obtain ⟨s, rfl, rfl, rfl, y1⟩ := open_string Tryd.underlying9 (hval 1 9 v1 rfl rfl) h1
  have w1 : s.size ≤ 140737488351232 := by
    have z := sized_string hsz (j := 1) (t := 9) rfl rfl
    rw [Array.length_toList] at z
    exact z
  have hw0 : Sm Tryd.prog 43 d0 := fun m hm => by
    have := List.all_eq_true.1 hsz m (DataW.weights_mem_each (j := 0) (t := 43) (d := d0) rfl rfl m hm)
    simpa using this
  obtain ⟨fuel, hf⟩ := h0
  obtain ⟨l, hK, hfit, -⟩ := opens_arg H enc W 0 _ true fuel _ _ hf hw0
  obtain ⟨A', c', e0, hc, hC⟩ := hK
  have e1 : Value.slice A n c = .slice A' l.length c' := List.head_eq_of_cons_eq e0
  injection e1 with e1 e2 e3
  subst e1 e2 e3
  clear hA0 hval0 hsz0 hsz hf e0 hw0
  have hv : Vars W := vars_of hL hsh
  refine (St.back_calls W hv A l c s hc hC hfit).mono fun e W' ⟨he, bel⟩ => ?_
  subst he
  exact ⟨_, rfl, _, _, _, [], _, [], hW', trodAll_mk1 (shut_bool Tryd.underlying4 _), (trodAll_cons_mk (Below.trod laidOut (by kernel_rfl) (of_decide_eq_true (by kernel_rfl)) k0 bel lt0) (trodAll_cons_mk (shut_string Tryd.underlying9 y1) trodAll_mk0)), rfl, bel.frame _, fun h => by cases h⟩

theorem said : Rows.StatBackSaid :=
  OpenClaim.holds_of_cond 5 Tryd.f5 rfl rfl rfl rfl rfl rfl rfl ⟨rfl, rfl, rfl, rfl, rfl⟩ rfl rfl rfl rfl rfl (by kernel_rfl) Tryd.func5 (by kernel_rfl)
    (of_decide_eq_true (by kernel_rfl)) (by unfold Func.isWrapper; first | (rw [if_pos (by decide +kernel)]; kernel_rfl) | (rw [if_neg (by decide +kernel)]; exact ⟨rfl, rfl⟩))
    (fun os started H enc _ F => by rw [OpenClaim.pre_eq_preRow]; exact lifted os started H enc F)

theorem plain (f : FuncId) (fn : Func) (hf : Tryd.pinned.checked.prog.funcNamed "tallboy/tallboylaw32.StatBack" = some f) (hfn : Tryd.pinned.checked.prog.funcs[f]? = some fn) :
    false = Tryd.pinned.checked.prog.looks [] ∧ ∀ (j : Nat) t, fn.params[j]? = some t → Tryd.pinned.checked.prog.wantsStandIn t = false := by
  obtain rfl : f = 5 := Option.some.inj ((show Tryd.prog.funcNamed "tallboy/tallboylaw32.StatBack" = some 5 by kernel_rfl).symm.trans hf) |>.symm
  obtain rfl : fn = Tryd.f5 := (Option.some.inj (Tryd.func5.symm.trans hfn)).symm
  refine ⟨by kernel_rfl, fun j t ht => ?_⟩
  rw [Tryd.params5] at ht
  have hm := Array.mem_of_getElem? ht
  have hall : (Tryd.f5.params.toList.all fun u => !Tryd.prog.wantsStandIn u) = true := by kernel_rfl
  rw [Tryd.params5] at hall
  exact (show Tryd.prog.wantsStandIn t = false by simpa using List.all_eq_true.1 hall t (by simpa using hm))

theorem card : Rows.StatBackCardSaid :=
  Claim7.holds_tied_plain_at .later [] _ _ _ _ said (fun _ h => by cases h) (by kernel_rfl) (fun _ h => by cases h) statBack_row_tie rfl ⟨rfl, rfl⟩ (by kernel_rfl) rfl plain (by kernel_rfl)
end Go.Proofs.YteddljbdjgdlnaaDoor.statBack
namespace Go.Proofs.YteddljbdjgdlnaaDoor
theorem statBack_card : Rows.StatBackCardSaid := statBack.card
#print axioms statBack_card
end Go.Proofs.YteddljbdjgdlnaaDoor
end
