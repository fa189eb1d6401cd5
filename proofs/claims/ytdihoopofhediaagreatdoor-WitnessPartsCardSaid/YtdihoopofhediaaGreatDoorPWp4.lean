/- Put together by wip/pack.py (this session's own program) out of this session's texts; a kit's tool laid the words and the shelf, of which only what is used stands here. Lean checks it. -/
import Derived.Test.YtdihoopofhediaaGreatDoorPWp3
import Derived.Test.YtdihoopofhediaaGreatDoorProg
import Derived.Lib.Split
import Derived.Lib.Join
import Derived.Lib.ItoaNum
import Derived.Lib.ParseIntB
import Derived.Lib.IndexBytes
import Derived.Laws.AppendOwn
import Derived.Deep.AppendLies
import Derived.Deep.CutRange
import Derived.LoopTactic
import Derived.Deep.LoopGhost
section
namespace Go.Proofs.YtdihoopofhediaaGreatDoor.Mdl
open Go.RowKit Go.Proofs.YtdihoopofhediaaGreatDoorW.PrintWords Go.Proofs.YtdihoopofhediaaGreatDoorW.PrintLast Go.Proofs.YtdihoopofhediaaGreatDoorW.PrintMore Go.WideMaps Go.Proofs.YtdihoopofhediaaGreatDoor.XMd
set_option linter.unusedVariables false
set_option linter.unusedSimpArgs false
attribute [local go_sem ↓] Go.wp_at_zero Go.wp_at_succ

section
variable {w : World} {g b c : Nat} {E : Tab} {laid : Int}
theorem At.gcell (h : At w g b c E laid) : w.cell? ⟨g, 0, none⟩ = some (.map (some b)) := by rw [Lib.cell_of_heap h.cell]; rfl
theorem At.lcell (h : At w g b c E laid) : w.cell? ⟨g, 1, none⟩ = some (.int .u64 laid) := by rw [Lib.cell_of_heap h.cell]; rfl
theorem small_put (h : ∀ n x, E n = some x → x.value.size ≤ 2000) (n : List UInt8) (x : Option Ent) (hx : ∀ y, x = some y → y.value.size ≤ 2000) : ∀ m y, putT E n x m = some y → y.value.size ≤ 2000 := fun m y hy => by
  unfold putT at hy
  split at hy
  · exact hx y hy
  · exact h m y hy
theorem At.put (h : At w g b c E laid) (hc : c < maxLen) (n : List UInt8) (hn : n.length = 32) (x : Ent) (hx : x.value.size ≤ 2000) :
    ∃ w', (Instr.mapUpdate 73 (.map (some b)) (nameV n) (.agg #[.string x.value, .int .u32 x.flags, .int .i64 x.exp, .int .u64 x.cas])).run Tryz.prog w = .ok () w' ∧ At w' g b (c + 1) (putT E n (some x)) laid ∧ Mut g b w w' := by
  obtain ⟨D, ho, h1, h2⟩ := h.map
  obtain ⟨w', hrun, ho', hg'⟩ := ho.update law Tryz.underlying73 hc (key_name n hn) (val := x.v) (d := .held x.v) (ps := []) rfl
  refine ⟨w', hrun, ⟨?_, (hg'.block g h.lt (fun e => h.ne (by injection e))).trans h.cell, h.ne, small_put h.small n _ (fun y hy => by injection hy with hy; rw [← hy]; exact hx)⟩, (Mut.refl g b w).grown hg' (fun k e => by injection e with e; exact .inr (.inr e.symm))⟩
  have hm : mapF w' Tryz.prog 83 b (c + 1) (putF (litF E) (.string n) (some x.v)) := ⟨_, ho', h1.put _ _, fun l hl => by
    by_cases e1 : l = .string n
    · subst e1
      rw [putF_same]
      exact ⟨fun z => Maps.atKey_put_same h1 hl _ _, Maps.has_put_same h1 hl _⟩
    · rw [putF_other _ _ e1]
      refine ⟨fun z => ?_, ?_⟩
      · rw [Maps.atKey_put_other e1]; exact (h2 l hl).1 z
      · rw [Maps.has_put_other e1]; exact (h2 l hl).2⟩
  rw [← litF_put E n (some x)]
  exact hm
theorem At.del (h : At w g b c E laid) (n : List UInt8) (hn : n.length = 32) (ty : TypeId) :
    ∃ w', (Builtin.delete_ #[73, 83] ty #[.map (some b), nameV n]).run Tryz.prog w = .ok (.tuple #[]) w' ∧ At w' g b c (putT E n none) laid ∧ Mut g b w w' := by
  obtain ⟨D, ho, h1, h2⟩ := h.map
  obtain ⟨w', hrun, ho', es, clock, es', clock', hbk, rfl⟩ := ho.drop law Tryz.underlying73 (key_name n hn) ty
  have hother : ∀ i, i ≠ b → (Go.ChangeMaps.setBlock w b (.map es' clock')).heap[i]? = w.heap[i]? := fun i hi => Go.ChangeMaps.heap_setBlock_other hbk _ hi
  refine ⟨_, hrun, ⟨?_, (hother g h.ne).trans h.cell, h.ne, small_put h.small n _ (fun y hy => by cases hy)⟩, ⟨rfl, rfl, rfl, by simp [Go.ChangeMaps.setBlock], fun i _ _ hi => hother i hi⟩⟩
  have hm : mapF (Go.ChangeMaps.setBlock w b (.map es' clock')) Tryz.prog 83 b c (putF (litF E) (.string n) none) := ⟨_, ho', h1.del _, fun l hl => by
    by_cases e1 : l = .string n
    · subst e1
      rw [putF_same]
      exact ⟨fun z => Maps.atKey_del_same _, Maps.has_del_same⟩
    · rw [putF_other _ _ e1]
      refine ⟨fun z => ?_, ?_⟩
      · rw [Maps.atKey_del_other e1]; exact (h2 l hl).1 z
      · rw [Maps.has_del_other e1]; exact (h2 l hl).2⟩
  rw [← litF_put E n none]
  exact hm
end
def dropB (E : Tab) (key : ByteArray) : Bool := (E (nm key)).isSome && decide (strip (nm key) = key.data.toList)
def dropT (E : Tab) (key : ByteArray) : Tab := if dropB E key = true then putT E (nm key) none else E
set_option maxHeartbeats 8000000 in
set_option maxRecDepth 100000 in
theorem Drop_calls (w : World) (g b c : Nat) (E : Tab) (laid : Int) (key : ByteArray) (hA : At w g b c E laid) :
    Calls Tryz.prog 21 #[.pointer (some ⟨g, 0, none⟩), .string key] w fun e w' => e = .returned (.bool (dropB E key)) ∧ At w' g b c (dropT E key) laid ∧ Mut g b w w' := by
  have hg := hA.lt
  have hgb := hA.ltb
  have H0 := Aside0.mk hA
  obtain ⟨x, hx⟩ : ∃ x, (E (nm key)).getD Ent.z = x := ⟨_, rfl⟩
  obtain ⟨ok, ho⟩ : ∃ ok, (E (nm key)).isSome = ok := ⟨_, rfl⟩
  have HX := Aside0.mk hx
  have HO := Aside0.mk ho
  clear hA hx ho
  go_enter Tryz.func21, Tryz.ntmps21
  go_upto_region 1 with fail
  go_cut [6] (fun v6 wc => v6 = .bool ok ∧ Aside0 (At wc g b c E laid) ∧ Aside0 (Below w.heap.size w wc))
  case first =>
    have HS := Aside0.mk (H0.out.look (nm key) (nm_len key) x ok HX.out HO.out)
    go_region_held3 (fun w' => At w' g b c E laid ∧ w'.cell? ⟨g, 0, none⟩ = some (.map (some b)) ∧ (Instr.lookup 73 (.map (some b)) (nameV (nm key)) true).run Tryz.prog w' = .ok (.tuple #[.agg #[.string x.value, .int .u32 x.flags, .int .i64 x.exp, .int .u64 x.cas], .bool ok]) w')
      ((refine At.look (E := E) (laid := laid) (c := c) ?_ _ (nm_len key) _ _ HX.out HO.out; first | exact And.left (by assumption) | exact HS.out.1.drew | exact At.alloc (At.below HS.out.1.drew hb) _ | exact (At.alloc HS.out.1 _).drew | (refine At.below ?_ hb; exact And.left (by assumption)) | (refine At.alloc ?_ _; exact And.left (by assumption)) | (repeat refine At.setCell ?_ (show w.heap.size ≠ g by omega) (show w.heap.size ≠ b by omega) _); exact And.left (by assumption)))
      (first | (go_at_call 27; refine (named_calls key _).mono ?_; rintro e w' ⟨rfl, hb⟩; (first | (have hq := fresh_block (B := w.heap.size) hb rfl; have q0 := fresh_cell hq 0; have q1 := fresh_cell hq 1; have q2 := fresh_cell hq 2; have q3 := fresh_cell hq 3; simp only [List.getElem?_toArray, List.getElem?_cons_zero, List.getElem?_cons_succ] at q0 q1 q2 q3; have f0 := fresh_frozen hq 0; have f1 := fresh_frozen hq 1; have f2 := fresh_frozen hq 2; have f3 := fresh_frozen hq 3) | skip)))
    all_goals
      go_wp2_with fail
      go_meet
      case rel =>
        first
          | exact ⟨rfl, ⟨And.left (by assumption)⟩, ⟨(wayA hb rfl).2.2⟩⟩
          | exact ⟨rfl, ⟨And.left (by assumption)⟩, ⟨(wayB hb rfl).2.2⟩⟩
  case rest =>
    obtain ⟨rfl, HA, HW⟩ := hcut
    cases ok with
    | false =>
      go_wp2
      go_ret
      have e : dropB E key = false := by unfold dropB; rw [HO.out]; rfl
      unfold dropT
      rw [e, if_neg Bool.false_ne_true]
      exact ⟨rfl, HA.out, .of_below HW.out⟩
    | true =>
      go_wp2_with fail
      refine (named_calls key _).mono ?_
      rintro e w1 ⟨rfl, hb1⟩
      go_wp2_with fail
      by_cases hs : strip (nm key) = key.data.toList
      · have hk : (⟨(strip (nm key)).toArray⟩ : ByteArray) = key := by rw [hs]
        have hkc := key_calls _ (nm_len key)
        rw [hk] at hkc
        refine (hkc _).mono ?_
        rintro e w2 ⟨rfl, hb2⟩
        have hb12 : Below wc.heap.size wc w2 := hb1.trans (hb2.mono hb1.size)
        have HA2 := Aside0.mk (HA.out.below hb12)
        have HW2 := Aside0.mk (HW.out.trans (hb12.mono HW.out.size))
        have q0 := HA2.out.gcell
        have HS := Lib.hid hs
        clear hb1 hb2 hb12 hkc hk hs HA HW
        go_upto_region 4 with fail
        go_region_held3 (fun w' => w'.cell? ⟨g, 0, none⟩ = some (.map (some b)))
          ((first | exact HA2.out.drew.gcell | exact HA3.out.gcell | exact HA4.gcell))
          (first | (go_at_call 27; refine (named_calls key _).mono ?_; rintro e w3 ⟨rfl, hb3⟩; have HA3 := Aside0.mk (HA2.out.drew.below hb3); obtain ⟨w4, hr4, HA4, HM4⟩ := HA3.out.del (nm key) (nm_len key) 0))
        go_wp2
        go_ret
        have e : dropB E key = true := by unfold dropB; rw [HO.out, decide_eq_true HS.out]; rfl
        unfold dropT
        rw [e, if_pos rfl]
        exact ⟨rfl, HA4, (((Mut.of_below HW2.out).drew).then_below hb3).trans HM4⟩
      · refine (key_calls _ (nm_len key) _).mono ?_
        rintro e w2 ⟨rfl, hb2⟩
        have hb12 : Below wc.heap.size wc w2 := hb1.trans (hb2.mono hb1.size)
        have HA2 := Aside0.mk (HA.out.below hb12)
        have HW2 := Aside0.mk (HW.out.trans (hb12.mono HW.out.size))
        have hs' : (strip (nm key) == key.toList) = false := beq_eq_false_iff_ne.2 (by rw [ByteArray.toList_eq]; exact hs)
        have HS := Lib.hid hs
        clear hb1 hb2 hb12 HW hs HA
        go_wp2
        go_ret
        have e : dropB E key = false := by unfold dropB; rw [decide_eq_false HS.out, Bool.and_false]
        unfold dropT
        rw [e, if_neg Bool.false_ne_true]
        exact ⟨rfl, HA2.out, .of_below HW2.out⟩
end Go.Proofs.YtdihoopofhediaaGreatDoor.Mdl
end
section
namespace Go.Proofs.YtdihoopofhediaaGreatDoor.Mdl
open Go.RowKit Go.Proofs.YtdihoopofhediaaGreatDoorW.PrintWords Go.Proofs.YtdihoopofhediaaGreatDoorW.PrintLast Go.Proofs.YtdihoopofhediaaGreatDoorW.PrintMore Go.WideMaps Go.Proofs.YtdihoopofhediaaGreatDoor.XMd
set_option linter.unusedVariables false
set_option linter.unusedSimpArgs false
attribute [local go_sem ↓] Go.wp_at_zero Go.wp_at_succ

structure Cmd where
  kind : Int
  keys : List ByteArray
  flags : Int
  exp : Int
  value : ByteArray
  cas : Int
  delta : Int
  quiet : Bool
def ActAt (w : World) (a g : Nat) (k : Cmd) (A : Option Addr) (cap : Nat) (now ends : Int) (failed : Bool) (old : Ent) (is : Bool) : Prop :=
  w.heap[a]? = some (.cells #[.pointer (some ⟨g, 0, none⟩), .int .i64 k.kind, .slice A k.keys.length cap, .int .u32 k.flags, .int .i64 k.exp, .string k.value, .int .u64 k.cas, .int .u64 k.delta, .bool k.quiet, .int .i64 now, .int .i64 ends, .bool failed, .string old.value, .int .u32 old.flags, .int .i64 old.exp, .int .u64 old.cas, .bool is] 94)
def KeyAt (w : World) (g b : Nat) (A : Option Addr) (k : Cmd) (key : ByteArray) : Prop := 0 < k.keys.length ∧ ∃ ad, A = some ad ∧ w.cell? ad = some (.string key) ∧ ad.block ≠ g ∧ ad.block ≠ b
theorem set3 {w : World} {B : Nat} {x0 x1 x2 a b c : Value} {t : TypeId} (h : w.heap[B]? = some (.cells #[x0, x1, x2] t)) :
    (((w.setCell ⟨B, 0, none⟩ a).setCell ⟨B, 1, none⟩ b).setCell ⟨B, 2, none⟩ c).heap[B]? = some (.cells #[a, b, c] t) :=
  Lib.heap_setCell_same (Lib.heap_setCell_same (Lib.heap_setCell_same (i := 0) h a) (i := 1) b) (i := 2) c
theorem keepC {w w' : World} {a : Addr} {v : Value} (hb : Below w.heap.size w w') (h : w.cell? a = some v) : w'.cell? a = some v := (hb.cell (World.block_lt_of_cell? w a h)).trans h
theorem keepA {w : World} {a : Addr} {v : Value} (h : w.cell? a = some v) (o : Obj) : (w.alloc o).drew.cell? a = some v := keepC ((Below.refl _ w).alloc (Nat.le_refl _) o).drew h
theorem At.setLaid {w : World} {g b c : Nat} {E : Tab} {laid : Int} (h : At w g b c E laid) (n : Int) : At (w.setCell ⟨g, 1, none⟩ (.int .u64 n)) g b c E n :=
  ⟨h.map.same (Below.heap_setCell w _ _ b h.ne.symm), Lib.heap_setCell_same (i := 1) h.cell _, h.ne, h.small⟩
def layT (E : Tab) (laid : Int) (key : ByteArray) (x : Ent) (failed : Bool) : Tab := if failed = true then E else putT E (nm key) (some { x with cas := (laid + 1) % 18446744073709551616 })
def layN (laid : Int) (failed : Bool) : Int := if failed = true then laid else (laid + 1) % 18446744073709551616
set_option maxHeartbeats 8000000 in
set_option maxRecDepth 100000 in
theorem lay_calls (w : World) (g b c a : Nat) (E : Tab) (laid : Int) (k : Cmd) (A : Option Addr) (cap : Nat) (now ends : Int) (failed : Bool) (old : Ent) (is : Bool) (key : ByteArray) (x : Ent) (code : Int)
    (hA : At w g b c E laid) (hc : c < maxLen) (ha : ActAt w a g k A cap now ends failed old is) (hag : a ≠ g) (hab : a ≠ b) (hk : KeyAt w g b A k key) (hx : x.value.size ≤ 2000) :
    Calls Tryz.prog 47 #[.pointer (some ⟨a, 0, none⟩), .agg #[.string x.value, .int .u32 x.flags, .int .i64 x.exp, .int .u64 x.cas], .int .i64 code] w fun e w' =>
      e = .returned (.agg #[.int .i64 (if failed = true then 11 else code), .slice none 0 0, .int .u64 0]) ∧ At w' g b (c + 1) (layT E laid key x failed) (layN laid failed) ∧ Mut g b w w' := by
  have hg := hA.lt
  have hgb := hA.ltb
  have hal : a < w.heap.size := blk_lt ha
  obtain ⟨hk0, ad, rfl, hkc, hk1, hk2⟩ := hk
  have hkl := World.block_lt_of_cell? w ad hkc
  have a0 := fresh_cell ha 0
  have a2 := fresh_cell ha 2
  have a11 := fresh_cell ha 11
  simp only [List.getElem?_toArray, List.getElem?_cons_zero, List.getElem?_cons_succ] at a0 a2 a11
  have g0 := hA.gcell
  have g1 := hA.lcell
  have gf := fresh_frozen hA.cell 1
  have H0 := Aside0.mk hA
  have HAct := Lib.hid ha
  clear hA ha
  go_enter Tryz.func47, Tryz.ntmps47
  cases failed with
  | true =>
    go_wp2
    refine bodyPost_ret (results_cell_row rfl _ _ (w.heap.size + 1) 38 #[.int .i64 11, .slice none 0 0, .int .u64 0] (0, 0) _ rfl ?_ Tryz.underlying38 rfl (by kernel_rfl)) rfl ?_
    · rw [← size_al w (.cells #[.string x.value, .int .u32 x.flags, .int .i64 x.exp, .int .u64 x.cas] 51)]
      exact heap_alloc_new _ _
    · exact ⟨rfl, ((H0.out.alloc _).alloc _).more (by omega), ((Mut.refl g b w).alloc _).alloc _⟩
  | false =>
    go_upto_region 5 with fail
    rw [IntKind.wrap_u64]
    obtain ⟨n, hn⟩ : ∃ n, n = (laid + 1) % 18446744073709551616 := ⟨_, rfl⟩
    rw [← hn]
    have HN := Lib.hid hn
    have hA1 := H0.out.setLaid n
    have hM1 := (Mut.refl g b w).setCell (p := ⟨g, 1, none⟩) (.inr (.inl rfl)) (.int .u64 n)
    have hsz : (w.setCell ⟨g, 1, none⟩ (.int .u64 n)).heap.size = w.heap.size := by simp [World.setCell]
    have hb1 := heap_alloc_new (w.setCell ⟨g, 1, none⟩ (.int .u64 n)) (.cells #[.string x.value, .int .u32 x.flags, .int .i64 x.exp, .int .u64 n] 51)
    have hb2 := heap_alloc_new ((w.setCell ⟨g, 1, none⟩ (.int .u64 n)).alloc (.cells #[.string x.value, .int .u32 x.flags, .int .i64 x.exp, .int .u64 n] 51)) (.cells #[.int .i64 0, .slice none 0 0, .int .u64 0] 38)
    rw [hsz] at hb1
    rw [size_al, hsz] at hb2
    have hb1' := (Below.heap_alloc ((w.setCell ⟨g, 1, none⟩ (.int .u64 n)).alloc (.cells #[.string x.value, .int .u32 x.flags, .int .i64 x.exp, .int .u64 n] 51)) (.cells #[.int .i64 0, .slice none 0 0, .int .u64 0] 38) w.heap.size (by rw [size_al, hsz]; omega)).trans hb1
    have hA2 := (hA1.alloc (.cells #[.string x.value, .int .u32 x.flags, .int .i64 x.exp, .int .u64 n] 51)).alloc (.cells #[.int .i64 0, .slice none 0 0, .int .u64 0] 38)
    have hM2 := (hM1.alloc (.cells #[.string x.value, .int .u32 x.flags, .int .i64 x.exp, .int .u64 n] 51)).alloc (.cells #[.int .i64 0, .slice none 0 0, .int .u64 0] 38)
    generalize ((w.setCell ⟨g, 1, none⟩ (.int .u64 n)).alloc (.cells #[.string x.value, .int .u32 x.flags, .int .i64 x.exp, .int .u64 n] 51)).alloc (.cells #[.int .i64 0, .slice none 0 0, .int .u64 0] 38) = W at hb1' hb2 hA2 hM2 ⊢
    clear hn hA1 hM1 hsz hb1 g0 g1 gf a11
    have c0 := hM2.cell a0 hag hab
    have c2 := hM2.cell a2 hag hab
    have ck := hM2.cell hkc hk1 hk2
    have g0 := hA2.gcell
    have x0 := fresh_cell hb1' 0
    have x1 := fresh_cell hb1' 1
    have x2 := fresh_cell hb1' 2
    have x3 := fresh_cell hb1' 3
    simp only [List.getElem?_toArray, List.getElem?_cons_zero, List.getElem?_cons_succ] at x0 x1 x2 x3
    have HA2 := Aside0.mk hA2
    have HM2 := Aside0.mk hM2
    have HB2 := Lib.hid hb2
    have HF := Lib.hid (show _ ∧ _ ∧ _ ∧ _ ∧ _ ∧ _ ∧ _ ∧ _ from ⟨c0, g0, c2, ck, x0, x1, x2, x3⟩)
    clear a0 a2 hkc hA2 hM2 hb1' hb2 c0 c2 ck g0 x0 x1 x2 x3
    have hk0' : (0 : Int) < (k.keys.length : Int) := by omega
    go_region_held3 (fun w' => w'.cell? ⟨a, 0, none⟩ = some (.pointer (some ⟨g, 0, none⟩)) ∧ w'.cell? ⟨g, 0, none⟩ = some (.map (some b)) ∧ w'.cell? ⟨a, 2, none⟩ = some (.slice (some ad) k.keys.length cap) ∧ w'.cell? ad = some (.string key) ∧
        w'.cell? ⟨w.heap.size, 0, none⟩ = some (.string x.value) ∧ w'.cell? ⟨w.heap.size, 1, none⟩ = some (.int .u32 x.flags) ∧ w'.cell? ⟨w.heap.size, 2, none⟩ = some (.int .i64 x.exp) ∧ w'.cell? ⟨w.heap.size, 3, none⟩ = some (.int .u64 n))
      ((first | exact HF.out | exact HF3.out | exact HF4.out))
      (first | (go_at_call 27; refine (named_calls key _).mono ?_; rintro e w3 ⟨rfl, hb3⟩; have HA3 := Aside0.mk (HA2.out.drew.below hb3); have HF3 := Lib.hid (show _ ∧ _ ∧ _ ∧ _ ∧ _ ∧ _ ∧ _ ∧ _ from ⟨keepC hb3 HF.out.1, keepC hb3 HF.out.2.1, keepC hb3 HF.out.2.2.1, keepC hb3 HF.out.2.2.2.1, keepC hb3 HF.out.2.2.2.2.1, keepC hb3 HF.out.2.2.2.2.2.1, keepC hb3 HF.out.2.2.2.2.2.2.1, keepC hb3 HF.out.2.2.2.2.2.2.2⟩); obtain ⟨w4, hr4, HA4, HM4⟩ := HA3.out.put hc (nm key) (nm_len key) ⟨x.value, x.flags, x.exp, n⟩ hx; have HF4 := Lib.hid (show _ ∧ _ ∧ _ ∧ _ ∧ _ ∧ _ ∧ _ ∧ _ from ⟨HM4.cell HF3.out.1 hag hab, HA4.gcell, HM4.cell HF3.out.2.2.1 hag hab, HM4.cell HF3.out.2.2.2.1 hk1 hk2, HM4.cell HF3.out.2.2.2.2.1 (by simp; omega) (by simp; omega), HM4.cell HF3.out.2.2.2.2.2.1 (by simp; omega) (by simp; omega), HM4.cell HF3.out.2.2.2.2.2.2.1 (by simp; omega) (by simp; omega), HM4.cell HF3.out.2.2.2.2.2.2.2 (by simp; omega) (by simp; omega)⟩)))
    have hr4b := HM4.heap ((hb3.block _ (blk_lt HB2.out)).trans HB2.out) (by omega) (by omega)
    have r0 := fresh_cell hr4b 0
    have r1 := fresh_cell hr4b 1
    have r2 := fresh_cell hr4b 2
    have f0 := fresh_frozen hr4b 0
    have f1 := fresh_frozen hr4b 1
    have f2 := fresh_frozen hr4b 2
    simp only [List.getElem?_toArray, List.getElem?_cons_zero, List.getElem?_cons_succ] at r0 r1 r2
    have HR4 := Lib.hid hr4b
    clear hr4b
    go_wp2
    refine bodyPost_ret (results_cell_row rfl _ _ (w.heap.size + 1) _ _ _ _ rfl (set3 HR4.out) Tryz.underlying38 rfl (by kernel_rfl)) rfl ?_
    have e1 : layT E laid key x false = putT E (nm key) (some ⟨x.value, x.flags, x.exp, n⟩) := by unfold layT; rw [if_neg Bool.false_ne_true, HN.out]
    have e2 : layN laid false = n := by unfold layN; rw [if_neg Bool.false_ne_true, HN.out]
    rw [e1, e2]
    refine ⟨rfl, ?_, ?_⟩
    · exact ((HA4.setCell (by simp; omega) (by simp; omega) _).setCell (by simp; omega) (by simp; omega) _).setCell (by simp; omega) (by simp; omega) _
    · exact ((((HM2.out.drew.then_below hb3).trans HM4).setCell (.inl (by simp)) _).setCell (.inl (by simp)) _).setCell (.inl (by simp)) _
end Go.Proofs.YtdihoopofhediaaGreatDoor.Mdl
end
section
namespace Go.Proofs.YtdihoopofhediaaGreatDoor.Mdl
open Go.RowKit Go.Proofs.YtdihoopofhediaaGreatDoorW.PrintWords Go.Proofs.YtdihoopofhediaaGreatDoorW.PrintLast Go.Proofs.YtdihoopofhediaaGreatDoorW.PrintMore Go.WideMaps Go.Proofs.YtdihoopofhediaaGreatDoor.XMd
set_option linter.unusedVariables false
set_option linter.unusedSimpArgs false
attribute [local go_sem ↓] Go.wp_at_zero Go.wp_at_succ

def mayC (k : Cmd) (is : Bool) (old : Ent) : Int :=
  if k.kind = 6 then (if is = true then 3 else 0) else if k.kind = 7 ∨ k.kind = 8 ∨ k.kind = 9 then (if is = true then 0 else 3)
  else if k.kind = 10 then (if is = true then (if old.cas = k.cas then 0 else 4) else 5) else 0
def mayT (E : Tab) (key : ByteArray) (k : Cmd) (failed : Bool) : Tab := if k.kind = 5 ∧ failed = true then dropT E key else E
set_option maxHeartbeats 8000000 in
set_option maxRecDepth 100000 in
theorem may_calls (w : World) (g b c a : Nat) (E : Tab) (laid : Int) (k : Cmd) (A : Option Addr) (cap : Nat) (now ends : Int) (failed : Bool) (old : Ent) (is : Bool) (key : ByteArray)
    (hA : At w g b c E laid) (ha : ActAt w a g k A cap now ends failed old is) (hag : a ≠ g) (hab : a ≠ b) (hk : KeyAt w g b A k key) (hkind : 5 ≤ k.kind ∧ k.kind ≤ 10) :
    Calls Tryz.prog 46 #[.pointer (some ⟨a, 0, none⟩)] w fun e w' => e = .returned (.int .i64 (mayC k is old)) ∧ At w' g b c (mayT E key k failed) laid ∧ Mut g b w w' := by
  have hg := hA.lt
  have hgb := hA.ltb
  have hal : a < w.heap.size := blk_lt ha
  obtain ⟨hk0, ad, rfl, hkc, hk1, hk2⟩ := hk
  obtain ⟨kind, keys, kflags, kexp, kvalue, kcas, kdelta, kquiet⟩ := k
  have a0 := fresh_cell ha 0
  have a1 := fresh_cell ha 1
  have a2 := fresh_cell ha 2
  have a6 := fresh_cell ha 6
  have a11 := fresh_cell ha 11
  have a15 := fresh_cell ha 15
  have a16 := fresh_cell ha 16
  simp only [List.getElem?_toArray, List.getElem?_cons_zero, List.getElem?_cons_succ] at a0 a1 a2 a6 a11 a15 a16
  have H0 := Aside0.mk hA
  have hkk : kind = 5 ∨ kind = 6 ∨ kind = 7 ∨ kind = 8 ∨ kind = 9 ∨ kind = 10 := by have := hkind; simp only at this; omega
  have hk0' : (0 : Int) < (keys.length : Int) := by have := hk0; simp only at this; omega
  have hk0n : 0 < keys.length := by omega
  clear hA ha hkind hk0
  go_enter Tryz.func46, Tryz.ntmps46
  rcases hkk with rfl | rfl | rfl | rfl | rfl | rfl
  · cases failed with
    | false =>
      go_wp2
      go_ret
      exact ⟨rfl, H0.out, Mut.refl g b w⟩
    | true =>
      go_upto_region 17 with fail
      have HF := Lib.hid (show _ ∧ _ ∧ _ from ⟨a0, a2, hkc⟩)
      clear a0 a1 a2 a6 a11 a15 a16 hkc
      go_region_held3 (fun w' => w'.cell? ⟨a, 0, none⟩ = some (.pointer (some ⟨g, 0, none⟩)) ∧ w'.cell? ⟨a, 2, none⟩ = some (.slice (some ad) keys.length cap) ∧ w'.cell? ad = some (.string key))
        ((first | exact HF.out | exact HF4.out))
        (first | (go_at_call 21; refine (Drop_calls _ g b c E laid key H0.out.drew).mono ?_; rintro e w4 ⟨rfl, HA4, HM4⟩; have HF4 := Lib.hid (show _ ∧ _ ∧ _ from ⟨HM4.cell HF.out.1 hag hab, HM4.cell HF.out.2.1 hag hab, HM4.cell HF.out.2.2 hk1 hk2⟩)))
      go_wp2
      go_ret
      exact ⟨rfl, HA4, (Mut.refl g b w).drew.trans HM4⟩
  · cases is
    · go_wp2
      go_ret
      exact ⟨rfl, H0.out, Mut.refl g b w⟩
    · go_wp2
      go_ret
      exact ⟨rfl, H0.out, Mut.refl g b w⟩
  · cases is
    · go_wp2
      go_ret
      exact ⟨rfl, H0.out, Mut.refl g b w⟩
    · go_wp2
      go_ret
      exact ⟨rfl, H0.out, Mut.refl g b w⟩
  · cases is
    · go_wp2
      go_ret
      exact ⟨rfl, H0.out, Mut.refl g b w⟩
    · go_wp2
      go_ret
      exact ⟨rfl, H0.out, Mut.refl g b w⟩
  · cases is
    · go_wp2
      go_ret
      exact ⟨rfl, H0.out, Mut.refl g b w⟩
    · go_wp2
      go_ret
      exact ⟨rfl, H0.out, Mut.refl g b w⟩
  · cases is
    · go_wp2
      go_ret
      exact ⟨rfl, H0.out, Mut.refl g b w⟩
    · by_cases hcas : old.cas = kcas
      · have e1 : (old.cas != kcas) = false := bne_eq_false_iff_eq.2 hcas
        have HC := Lib.hid hcas
        clear hcas
        go_wp2_with fail
        go_quiet (fail)
        go_wp2
        go_ret
        have e : mayC ⟨10, keys, kflags, kexp, kvalue, kcas, kdelta, kquiet⟩ true old = 0 := by simp [mayC, HC.out]
        rw [e]
        exact ⟨rfl, H0.out.below ⟨rfl, rfl, rfl, Nat.le_refl _, fun _ _ => rfl⟩, (Mut.refl g b w).drewN _⟩
      · have e1 : (old.cas != kcas) = true := bne_iff_ne.2 hcas
        have HC := Lib.hid hcas
        clear hcas
        go_wp2_with fail
        go_quiet (fail)
        go_wp2
        go_ret
        have e : mayC ⟨10, keys, kflags, kexp, kvalue, kcas, kdelta, kquiet⟩ true old = 4 := by simp [mayC, HC.out]
        rw [e]
        exact ⟨rfl, H0.out.below ⟨rfl, rfl, rfl, Nat.le_refl _, fun _ _ => rfl⟩, (Mut.refl g b w).drewN _⟩
end Go.Proofs.YtdihoopofhediaaGreatDoor.Mdl
end
section
namespace Go.Proofs.YtdihoopofhediaaGreatDoor.Mdl
open Go.RowKit Go.Proofs.YtdihoopofhediaaGreatDoorW.PrintWords Go.Proofs.YtdihoopofhediaaGreatDoorW.PrintLast Go.Proofs.YtdihoopofhediaaGreatDoorW.PrintMore Go.WideMaps Go.Proofs.YtdihoopofhediaaGreatDoor.XMd
set_option linter.unusedVariables false
set_option linter.unusedSimpArgs false
attribute [local go_sem ↓] Go.wp_at_zero Go.wp_at_succ

def newEnt (k : Cmd) (old : Ent) (ends : Int) : Ent :=
  if k.kind = 8 then { old with value := old.value ++ k.value } else if k.kind = 9 then { old with value := k.value ++ old.value } else ⟨k.value, k.flags, ends, 0⟩
def storeR (k : Cmd) (is : Bool) (old : Ent) (ends : Int) (failed : Bool) (key : ByteArray) (E : Tab) (laid : Int) : Int × Tab × Int :=
  if mayC k is old ≠ 0 then (mayC k is old, mayT E key k failed, laid)
  else if 2000 < (newEnt k old ends).value.size then (12, mayT E key k failed, laid)
  else (if failed = true then 11 else 2, layT (mayT E key k failed) laid key (newEnt k old ends) failed, layN laid failed)
set_option maxHeartbeats 8000000 in
set_option maxRecDepth 100000 in
theorem store_calls (w : World) (g b c a : Nat) (E : Tab) (laid : Int) (k : Cmd) (A : Option Addr) (cap : Nat) (now ends : Int) (failed : Bool) (old : Ent) (is : Bool) (key : ByteArray)
    (hA : At w g b c E laid) (hc : c < maxLen) (ha : ActAt w a g k A cap now ends failed old is) (hag : a ≠ g) (hab : a ≠ b) (hk : KeyAt w g b A k key) (hkind : 5 ≤ k.kind ∧ k.kind ≤ 10) (hkv : k.value.size ≤ 2000) (hov : old.value.size ≤ 2000) :
    Calls Tryz.prog 33 #[.pointer (some ⟨a, 0, none⟩)] w fun e w' =>
      e = .returned (.agg #[.int .i64 (storeR k is old ends failed key E laid).1, .slice none 0 0, .int .u64 0]) ∧ At w' g b (c + 1) (storeR k is old ends failed key E laid).2.1 (storeR k is old ends failed key E laid).2.2 ∧ Mut g b w w' := by
  have hg := hA.lt
  have hgb := hA.ltb
  have hal : a < w.heap.size := blk_lt ha
  have H0 := Aside0.mk hA
  have HAct := Lib.hid ha
  have HK := Lib.hid hk
  have HKind := Lib.hid hkind
  clear hA ha hk hkind
  go_enter Tryz.func33, Tryz.ntmps33
  go_wp2_with fail
  have hA1 := H0.out.alloc (.cells #[.int .i64 0, .slice none 0 0, .int .u64 0] 38)
  have hM1 := (Mut.refl g b w).alloc (.cells #[.int .i64 0, .slice none 0 0, .int .u64 0] 38)
  have ha1 : ActAt (w.alloc (.cells #[.int .i64 0, .slice none 0 0, .int .u64 0] 38)) a g k A cap now ends failed old is := hM1.heap HAct.out hag hab
  have hk1 : KeyAt (w.alloc (.cells #[.int .i64 0, .slice none 0 0, .int .u64 0] 38)) g b A k key := by
    obtain ⟨h1, ad, h2, h3, h4, h5⟩ := HK.out
    exact ⟨h1, ad, h2, hM1.cell h3 h4 h5, h4, h5⟩
  refine (may_calls _ g b c a E laid k A cap now ends failed old is key hA1 ha1 hag hab hk1 HKind.out).mono ?_
  rintro e w1 ⟨rfl, hA2, hM2⟩
  have hr2 := hM2.heap (heap_alloc_new w (.cells #[.int .i64 0, .slice none 0 0, .int .u64 0] 38)) (by omega) (by omega)
  have ha2 : ActAt w1 a g k A cap now ends failed old is := hM2.heap ha1 hag hab
  have hk2 : KeyAt w1 g b A k key := by
    obtain ⟨h1, ad, h2, h3, h4, h5⟩ := hk1
    exact ⟨h1, ad, h2, hM2.cell h3 h4 h5, h4, h5⟩
  have HM := Aside0.mk (hM1.trans hM2)
  have HA := Aside0.mk hA2
  have hws : w.heap.size < w1.heap.size := by have := hM2.size; rw [size_al] at this; omega
  clear HAct HK hA1 hM1 ha1 hk1 hA2 hM2 H0
  obtain ⟨code, hcode⟩ : ∃ code, mayC k is old = code := ⟨_, rfl⟩
  rw [hcode]
  have HC := Lib.hid hcode
  clear hcode
  by_cases h0 : code = 0
  · subst h0
    have HR := Lib.hid hr2
    have HAct := Lib.hid ha2
    have HK := Lib.hid hk2
    have a0 := fresh_cell ha2 0
    have a3 := fresh_cell ha2 3
    have a5 := fresh_cell ha2 5
    have a10 := fresh_cell ha2 10
    simp only [List.getElem?_toArray, List.getElem?_cons_zero, List.getElem?_cons_succ] at a0 a3 a5 a10
    clear hr2 ha2 hk2
    go_upto_region 4 with fail
    have HF := Lib.hid (show _ ∧ _ ∧ _ from ⟨a5, a3, a10⟩)
    clear a0 a3 a5 a10
    go_region_held3 (fun w' => w'.cell? ⟨a, 5, none⟩ = some (.string k.value) ∧ w'.cell? ⟨a, 3, none⟩ = some (.int .u32 k.flags) ∧ w'.cell? ⟨a, 10, none⟩ = some (.int .i64 ends))
      ((first | exact HF.out | exact ⟨keepA HF.out.1 _, keepA HF.out.2.1 _, keepA HF.out.2.2 _⟩))
      (fail)
    have hA3 := (HA.out.alloc (.cells #[.string k.value, .int .u32 k.flags, .int .i64 ends, .int .u64 0] 51)).drew
    have hM3 := (HM.out.alloc (.cells #[.string k.value, .int .u32 k.flags, .int .i64 ends, .int .u64 0] 51)).drew
    have hB3 : (w1.alloc (.cells #[.string k.value, .int .u32 k.flags, .int .i64 ends, .int .u64 0] 51)).drew.heap[w1.heap.size]? = some (.cells #[.string k.value, .int .u32 k.flags, .int .i64 ends, .int .u64 0] 51) := heap_alloc_new _ _
    have hk3 : KeyAt (w1.alloc (.cells #[.string k.value, .int .u32 k.flags, .int .i64 ends, .int .u64 0] 51)).drew g b A k key := by
      obtain ⟨h1, ad, h2, h3, h4, h5⟩ := HK.out
      exact ⟨h1, ad, h2, keepA h3 _, h4, h5⟩
    have ha3 : ActAt (w1.alloc (.cells #[.string k.value, .int .u32 k.flags, .int .i64 ends, .int .u64 0] 51)).drew a g k A cap now ends failed old is := (Below.heap_alloc w1 _ a (blk_lt HAct.out)).trans HAct.out
    have hr3 : (w1.alloc (.cells #[.string k.value, .int .u32 k.flags, .int .i64 ends, .int .u64 0] 51)).drew.heap[w.heap.size]? = some (.cells #[.int .i64 0, .slice none 0 0, .int .u64 0] 38) := (Below.heap_alloc w1 _ _ hws).trans HR.out
    have HK0 : Hid (∀ ad, A = some ad → w1.cell? ad = some (.string key)) := Lib.hid (fun ad e => by obtain ⟨h1, ad', h2, h3, h4, h5⟩ := HK.out; rw [h2] at e; injection e with e; rw [← e]; exact h3)
    obtain ⟨B, hBe⟩ : ∃ B, B = w1.heap.size := ⟨_, rfl⟩
    have hBg : B ≠ g := by have := HA.out.lt; omega
    have hBb : B ≠ b := by have := HA.out.ltb; omega
    have hBa : B ≠ a := by have := blk_lt HAct.out; omega
    have hBr : B ≠ w.heap.size := by omega
    have hBw : w.heap.size ≤ B := by omega
    rw [← hBe] at hB3 ⊢
    generalize (w1.alloc (.cells #[.string k.value, .int .u32 k.flags, .int .i64 ends, .int .u64 0] 51)).drew = W at hA3 hM3 hB3 hk3 ha3 hr3 ⊢
    have HBe := Lib.hid hBe
    clear HA HM HR HAct HK HF hws hBe
    have a0 := fresh_cell ha3 0
    have a1 := fresh_cell ha3 1
    have a5 := fresh_cell ha3 5
    have a12 := fresh_cell ha3 12
    have a13 := fresh_cell ha3 13
    have a14 := fresh_cell ha3 14
    have a15 := fresh_cell ha3 15
    have b0 := fresh_cell hB3 0
    have b1 := fresh_cell hB3 1
    have b2 := fresh_cell hB3 2
    have b3 := fresh_cell hB3 3
    have f0 := fresh_frozen hB3 0
    have f1 := fresh_frozen hB3 1
    have f2 := fresh_frozen hB3 2
    have f3 := fresh_frozen hB3 3
    simp only [List.getElem?_toArray, List.getElem?_cons_zero, List.getElem?_cons_succ] at a0 a1 a5 a12 a13 a14 a15 b0 b1 b2 b3
    have hs1 : old.value.size + k.value.size ≤ 9223372036854775807 := by omega
    have hs2 : k.value.size + old.value.size ≤ 9223372036854775807 := by omega
    have HA := Aside0.mk hA3
    have HM := Aside0.mk hM3
    have HB := Lib.hid hB3
    have HK := Lib.hid hk3
    have HAct := Lib.hid ha3
    have HR := Lib.hid hr3
    clear hA3 hM3 hB3 hk3 ha3 hr3
    have HKO : Hid (∀ ad, A = some ad → w1.cell? ad = some (.string key)) := HK0
    clear HK0
    by_cases k8 : k.kind = 8
    · have k8' : (k.kind == 8) = true := beq_iff_eq.2 k8
      go_upto_region 8 with fail
      go_region
      go_upto_region 12 with fail
      have o : Only B W ((((((W.setCell ⟨B, 0, none⟩ (.string old.value)).setCell ⟨B, 1, none⟩ (.int .u32 old.flags)).setCell ⟨B, 2, none⟩ (.int .i64 old.exp)).setCell ⟨B, 3, none⟩ (.int .u64 old.cas)).setCell ⟨B, 0, none⟩ (.string (old.value ++ k.value))).drew) := (((((Only.refl B W).setCell 0 _).setCell 1 _).setCell 2 _).setCell 3 _).setCell 0 _ |>.drew
      have hV : ((((((W.setCell ⟨B, 0, none⟩ (.string old.value)).setCell ⟨B, 1, none⟩ (.int .u32 old.flags)).setCell ⟨B, 2, none⟩ (.int .i64 old.exp)).setCell ⟨B, 3, none⟩ (.int .u64 old.cas)).setCell ⟨B, 0, none⟩ (.string (old.value ++ k.value))).drew).heap[B]? = some (.cells #[.string (newEnt k old ends).value, .int .u32 (newEnt k old ends).flags, .int .i64 (newEnt k old ends).exp, .int .u64 (newEnt k old ends).cas] 51) := by
        have e : newEnt k old ends = ⟨old.value ++ k.value, old.flags, old.exp, old.cas⟩ := by unfold newEnt; rw [if_pos k8]
        rw [e]
        exact Lib.heap_setCell_same (i := 0) (set4 HB.out) _
      generalize (((((W.setCell ⟨B, 0, none⟩ (.string old.value)).setCell ⟨B, 1, none⟩ (.int .u32 old.flags)).setCell ⟨B, 2, none⟩ (.int .i64 old.exp)).setCell ⟨B, 3, none⟩ (.int .u64 old.cas)).setCell ⟨B, 0, none⟩ (.string (old.value ++ k.value))).drew = V at o hV ⊢
      have hVr := o.heap HR.out hBr.symm
      have hVa : ActAt V a g k A cap now ends failed old is := o.heap HAct.out hBa.symm
      have hVk : KeyAt V g b A k key := by
        obtain ⟨h1, ad, h2, h3, h4, h5⟩ := HK.out
        exact ⟨h1, ad, h2, o.cell h3 (by have := World.block_lt_of_cell? w1 ad (HKO.out ad h2); have := HBe.out; omega), h4, h5⟩
      have HA := Aside0.mk (HA.out.only o hBg hBb)
      have HM := Aside0.mk (HM.out.only o hBw)
      have HVr := Lib.hid hVr
      have HVa := Lib.hid hVa
      have HVk := Lib.hid hVk
      clear hVr hVa hVk o HR HAct HK HB a0 a1 a5 a12 a13 a14 a15 b0 b1 b2 b3 f0 f1 f2 f3
      have b0 := fresh_cell hV 0
      have b1 := fresh_cell hV 1
      have b2 := fresh_cell hV 2
      have b3 := fresh_cell hV 3
      simp only [List.getElem?_toArray, List.getElem?_cons_zero, List.getElem?_cons_succ] at b0 b1 b2 b3
      clear hV
      obtain ⟨x, hx⟩ : ∃ x, newEnt k old ends = x := ⟨_, rfl⟩
      rw [hx] at b0 b1 b2 b3
      have HX := Lib.hid hx
      clear hx
      by_cases hlen : 2000 < x.value.size
      · have hl' : (2000 : Int) < (x.value.size : Int) := by omega
        have r0 := fresh_cell HVr.out 0
        have r1 := fresh_cell HVr.out 1
        have r2 := fresh_cell HVr.out 2
        have f0 := fresh_frozen HVr.out 0
        have f1 := fresh_frozen HVr.out 1
        have f2 := fresh_frozen HVr.out 2
        simp only [List.getElem?_toArray, List.getElem?_cons_zero, List.getElem?_cons_succ] at r0 r1 r2
        have HL := Lib.hid hlen
        clear hlen
        go_wp2
        refine bodyPost_ret (results_cell_row rfl _ _ w.heap.size _ _ _ _ rfl (set3 HVr.out) Tryz.underlying38 rfl (by kernel_rfl)) rfl ?_
        have e : storeR k is old ends failed key E laid = (12, mayT E key k failed, laid) := by unfold storeR; rw [HC.out, if_neg (by omega), HX.out, if_pos HL.out]
        rw [e]
        exact ⟨rfl, (((HA.out.setCell (by simp; omega) (by simp; omega) _).setCell (by simp; omega) (by simp; omega) _).setCell (by simp; omega) (by simp; omega) _).more (by omega), ((HM.out.setCell (.inl (by simp)) _).setCell (.inl (by simp)) _).setCell (.inl (by simp)) _⟩
      · have hl' : ¬ (2000 : Int) < (x.value.size : Int) := by omega
        have HL := Lib.hid hlen
        have hx2 : x.value.size ≤ 2000 := by omega
        clear hlen
        go_wp2_with fail
        have hlay := lay_calls _ g b c a _ laid k A cap now ends failed old is key x 2 HA.out hc HVa.out hag hab HVk.out hx2
        obtain ⟨cd, hcd⟩ : ∃ cd : Int, (if failed = true then 11 else 2) = cd := ⟨_, rfl⟩
        rw [hcd] at hlay
        have HCD := Lib.hid hcd
        clear hcd
        refine hlay.mono ?_
        clear hlay
        rintro e V2 ⟨rfl, hA4, hM4⟩
        have hr4 := hM4.heap HVr.out (by omega) (by omega)
        have r0 := fresh_cell hr4 0
        have r1 := fresh_cell hr4 1
        have r2 := fresh_cell hr4 2
        have f0 := fresh_frozen hr4 0
        have f1 := fresh_frozen hr4 1
        have f2 := fresh_frozen hr4 2
        simp only [List.getElem?_toArray, List.getElem?_cons_zero, List.getElem?_cons_succ] at r0 r1 r2
        have HR4 := Lib.hid hr4
        have HA4 := Aside0.mk hA4
        have HM4 := Aside0.mk (HM.out.trans hM4)
        clear hr4 hA4 hM4 b0 b1 b2 b3
        go_wp2
        refine bodyPost_ret (results_cell_row rfl _ _ w.heap.size _ _ _ _ rfl (set3 HR4.out) Tryz.underlying38 rfl (by kernel_rfl)) rfl ?_
        have e : storeR k is old ends failed key E laid = (cd, layT (mayT E key k failed) laid key x failed, layN laid failed) := by unfold storeR; rw [HC.out, if_neg (by omega), HX.out, if_neg HL.out, HCD.out]
        rw [e]
        exact ⟨rfl, ((HA4.out.setCell (by simp; omega) (by simp; omega) _).setCell (by simp; omega) (by simp; omega) _).setCell (by simp; omega) (by simp; omega) _, ((HM4.out.setCell (.inl (by simp)) _).setCell (.inl (by simp)) _).setCell (.inl (by simp)) _⟩
    · have k8' : (k.kind == 8) = false := beq_eq_false_iff_ne.2 k8
      by_cases k9 : k.kind = 9
      · have k9' : (k.kind == 9) = true := beq_iff_eq.2 k9
        go_upto_region 11 with fail
        go_region
        go_upto_region 12 with fail
        have o : Only B W ((((((W.setCell ⟨B, 0, none⟩ (.string old.value)).setCell ⟨B, 1, none⟩ (.int .u32 old.flags)).setCell ⟨B, 2, none⟩ (.int .i64 old.exp)).setCell ⟨B, 3, none⟩ (.int .u64 old.cas)).setCell ⟨B, 0, none⟩ (.string (k.value ++ old.value))).drew) := (((((Only.refl B W).setCell 0 _).setCell 1 _).setCell 2 _).setCell 3 _).setCell 0 _ |>.drew
        have hV : ((((((W.setCell ⟨B, 0, none⟩ (.string old.value)).setCell ⟨B, 1, none⟩ (.int .u32 old.flags)).setCell ⟨B, 2, none⟩ (.int .i64 old.exp)).setCell ⟨B, 3, none⟩ (.int .u64 old.cas)).setCell ⟨B, 0, none⟩ (.string (k.value ++ old.value))).drew).heap[B]? = some (.cells #[.string (newEnt k old ends).value, .int .u32 (newEnt k old ends).flags, .int .i64 (newEnt k old ends).exp, .int .u64 (newEnt k old ends).cas] 51) := by
          have e : newEnt k old ends = ⟨k.value ++ old.value, old.flags, old.exp, old.cas⟩ := by unfold newEnt; rw [if_neg k8, if_pos k9]
          rw [e]
          exact Lib.heap_setCell_same (i := 0) (set4 HB.out) _
        generalize (((((W.setCell ⟨B, 0, none⟩ (.string old.value)).setCell ⟨B, 1, none⟩ (.int .u32 old.flags)).setCell ⟨B, 2, none⟩ (.int .i64 old.exp)).setCell ⟨B, 3, none⟩ (.int .u64 old.cas)).setCell ⟨B, 0, none⟩ (.string (k.value ++ old.value))).drew = V at o hV ⊢
        have hVr := o.heap HR.out hBr.symm
        have hVa : ActAt V a g k A cap now ends failed old is := o.heap HAct.out hBa.symm
        have hVk : KeyAt V g b A k key := by
          obtain ⟨h1, ad, h2, h3, h4, h5⟩ := HK.out
          exact ⟨h1, ad, h2, o.cell h3 (by have := World.block_lt_of_cell? w1 ad (HKO.out ad h2); have := HBe.out; omega), h4, h5⟩
        have HA := Aside0.mk (HA.out.only o hBg hBb)
        have HM := Aside0.mk (HM.out.only o hBw)
        have HVr := Lib.hid hVr
        have HVa := Lib.hid hVa
        have HVk := Lib.hid hVk
        clear hVr hVa hVk o HR HAct HK HB a0 a1 a5 a12 a13 a14 a15 b0 b1 b2 b3 f0 f1 f2 f3
        have b0 := fresh_cell hV 0
        have b1 := fresh_cell hV 1
        have b2 := fresh_cell hV 2
        have b3 := fresh_cell hV 3
        simp only [List.getElem?_toArray, List.getElem?_cons_zero, List.getElem?_cons_succ] at b0 b1 b2 b3
        clear hV
        obtain ⟨x, hx⟩ : ∃ x, newEnt k old ends = x := ⟨_, rfl⟩
        rw [hx] at b0 b1 b2 b3
        have HX := Lib.hid hx
        clear hx
        by_cases hlen : 2000 < x.value.size
        · have hl' : (2000 : Int) < (x.value.size : Int) := by omega
          have r0 := fresh_cell HVr.out 0
          have r1 := fresh_cell HVr.out 1
          have r2 := fresh_cell HVr.out 2
          have f0 := fresh_frozen HVr.out 0
          have f1 := fresh_frozen HVr.out 1
          have f2 := fresh_frozen HVr.out 2
          simp only [List.getElem?_toArray, List.getElem?_cons_zero, List.getElem?_cons_succ] at r0 r1 r2
          have HL := Lib.hid hlen
          clear hlen
          go_wp2
          refine bodyPost_ret (results_cell_row rfl _ _ w.heap.size _ _ _ _ rfl (set3 HVr.out) Tryz.underlying38 rfl (by kernel_rfl)) rfl ?_
          have e : storeR k is old ends failed key E laid = (12, mayT E key k failed, laid) := by unfold storeR; rw [HC.out, if_neg (by omega), HX.out, if_pos HL.out]
          rw [e]
          exact ⟨rfl, (((HA.out.setCell (by simp; omega) (by simp; omega) _).setCell (by simp; omega) (by simp; omega) _).setCell (by simp; omega) (by simp; omega) _).more (by omega), ((HM.out.setCell (.inl (by simp)) _).setCell (.inl (by simp)) _).setCell (.inl (by simp)) _⟩
        · have hl' : ¬ (2000 : Int) < (x.value.size : Int) := by omega
          have HL := Lib.hid hlen
          have hx2 : x.value.size ≤ 2000 := by omega
          clear hlen
          go_wp2_with fail
          have hlay := lay_calls _ g b c a _ laid k A cap now ends failed old is key x 2 HA.out hc HVa.out hag hab HVk.out hx2
          obtain ⟨cd, hcd⟩ : ∃ cd : Int, (if failed = true then 11 else 2) = cd := ⟨_, rfl⟩
          rw [hcd] at hlay
          have HCD := Lib.hid hcd
          clear hcd
          refine hlay.mono ?_
          clear hlay
          rintro e V2 ⟨rfl, hA4, hM4⟩
          have hr4 := hM4.heap HVr.out (by omega) (by omega)
          have r0 := fresh_cell hr4 0
          have r1 := fresh_cell hr4 1
          have r2 := fresh_cell hr4 2
          have f0 := fresh_frozen hr4 0
          have f1 := fresh_frozen hr4 1
          have f2 := fresh_frozen hr4 2
          simp only [List.getElem?_toArray, List.getElem?_cons_zero, List.getElem?_cons_succ] at r0 r1 r2
          have HR4 := Lib.hid hr4
          have HA4 := Aside0.mk hA4
          have HM4 := Aside0.mk (HM.out.trans hM4)
          clear hr4 hA4 hM4 b0 b1 b2 b3
          go_wp2
          refine bodyPost_ret (results_cell_row rfl _ _ w.heap.size _ _ _ _ rfl (set3 HR4.out) Tryz.underlying38 rfl (by kernel_rfl)) rfl ?_
          have e : storeR k is old ends failed key E laid = (cd, layT (mayT E key k failed) laid key x failed, layN laid failed) := by unfold storeR; rw [HC.out, if_neg (by omega), HX.out, if_neg HL.out, HCD.out]
          rw [e]
          exact ⟨rfl, ((HA4.out.setCell (by simp; omega) (by simp; omega) _).setCell (by simp; omega) (by simp; omega) _).setCell (by simp; omega) (by simp; omega) _, ((HM4.out.setCell (.inl (by simp)) _).setCell (.inl (by simp)) _).setCell (.inl (by simp)) _⟩
      · have k9' : (k.kind == 9) = false := beq_eq_false_iff_ne.2 k9
        go_upto_region 12 with fail
        have o : Only B W W := Only.refl B W
        have hV : W.heap[B]? = some (.cells #[.string (newEnt k old ends).value, .int .u32 (newEnt k old ends).flags, .int .i64 (newEnt k old ends).exp, .int .u64 (newEnt k old ends).cas] 51) := by
          have e : newEnt k old ends = ⟨k.value, k.flags, ends, 0⟩ := by unfold newEnt; rw [if_neg k8, if_neg k9]
          rw [e]
          exact HB.out
        obtain ⟨V, hVe⟩ : ∃ V, V = W := ⟨_, rfl⟩
        rw [← hVe] at hV
        have o : Only B W V := by rw [hVe]; exact o
        rw [← hVe]
        clear hVe
        have hVr := o.heap HR.out hBr.symm
        have hVa : ActAt V a g k A cap now ends failed old is := o.heap HAct.out hBa.symm
        have hVk : KeyAt V g b A k key := by
          obtain ⟨h1, ad, h2, h3, h4, h5⟩ := HK.out
          exact ⟨h1, ad, h2, o.cell h3 (by have := World.block_lt_of_cell? w1 ad (HKO.out ad h2); have := HBe.out; omega), h4, h5⟩
        have HA := Aside0.mk (HA.out.only o hBg hBb)
        have HM := Aside0.mk (HM.out.only o hBw)
        have HVr := Lib.hid hVr
        have HVa := Lib.hid hVa
        have HVk := Lib.hid hVk
        clear hVr hVa hVk o HR HAct HK HB a0 a1 a5 a12 a13 a14 a15 b0 b1 b2 b3 f0 f1 f2 f3
        have b0 := fresh_cell hV 0
        have b1 := fresh_cell hV 1
        have b2 := fresh_cell hV 2
        have b3 := fresh_cell hV 3
        simp only [List.getElem?_toArray, List.getElem?_cons_zero, List.getElem?_cons_succ] at b0 b1 b2 b3
        clear hV
        obtain ⟨x, hx⟩ : ∃ x, newEnt k old ends = x := ⟨_, rfl⟩
        rw [hx] at b0 b1 b2 b3
        have HX := Lib.hid hx
        clear hx
        by_cases hlen : 2000 < x.value.size
        · have hl' : (2000 : Int) < (x.value.size : Int) := by omega
          have r0 := fresh_cell HVr.out 0
          have r1 := fresh_cell HVr.out 1
          have r2 := fresh_cell HVr.out 2
          have f0 := fresh_frozen HVr.out 0
          have f1 := fresh_frozen HVr.out 1
          have f2 := fresh_frozen HVr.out 2
          simp only [List.getElem?_toArray, List.getElem?_cons_zero, List.getElem?_cons_succ] at r0 r1 r2
          have HL := Lib.hid hlen
          clear hlen
          go_wp2
          refine bodyPost_ret (results_cell_row rfl _ _ w.heap.size _ _ _ _ rfl (set3 HVr.out) Tryz.underlying38 rfl (by kernel_rfl)) rfl ?_
          have e : storeR k is old ends failed key E laid = (12, mayT E key k failed, laid) := by unfold storeR; rw [HC.out, if_neg (by omega), HX.out, if_pos HL.out]
          rw [e]
          exact ⟨rfl, (((HA.out.setCell (by simp; omega) (by simp; omega) _).setCell (by simp; omega) (by simp; omega) _).setCell (by simp; omega) (by simp; omega) _).more (by omega), ((HM.out.setCell (.inl (by simp)) _).setCell (.inl (by simp)) _).setCell (.inl (by simp)) _⟩
        · have hl' : ¬ (2000 : Int) < (x.value.size : Int) := by omega
          have HL := Lib.hid hlen
          have hx2 : x.value.size ≤ 2000 := by omega
          clear hlen
          go_wp2_with fail
          have hlay := lay_calls _ g b c a _ laid k A cap now ends failed old is key x 2 HA.out hc HVa.out hag hab HVk.out hx2
          obtain ⟨cd, hcd⟩ : ∃ cd : Int, (if failed = true then 11 else 2) = cd := ⟨_, rfl⟩
          rw [hcd] at hlay
          have HCD := Lib.hid hcd
          clear hcd
          refine hlay.mono ?_
          clear hlay
          rintro e V2 ⟨rfl, hA4, hM4⟩
          have hr4 := hM4.heap HVr.out (by omega) (by omega)
          have r0 := fresh_cell hr4 0
          have r1 := fresh_cell hr4 1
          have r2 := fresh_cell hr4 2
          have f0 := fresh_frozen hr4 0
          have f1 := fresh_frozen hr4 1
          have f2 := fresh_frozen hr4 2
          simp only [List.getElem?_toArray, List.getElem?_cons_zero, List.getElem?_cons_succ] at r0 r1 r2
          have HR4 := Lib.hid hr4
          have HA4 := Aside0.mk hA4
          have HM4 := Aside0.mk (HM.out.trans hM4)
          clear hr4 hA4 hM4 b0 b1 b2 b3
          go_wp2
          refine bodyPost_ret (results_cell_row rfl _ _ w.heap.size _ _ _ _ rfl (set3 HR4.out) Tryz.underlying38 rfl (by kernel_rfl)) rfl ?_
          have e : storeR k is old ends failed key E laid = (cd, layT (mayT E key k failed) laid key x failed, layN laid failed) := by unfold storeR; rw [HC.out, if_neg (by omega), HX.out, if_neg HL.out, HCD.out]
          rw [e]
          exact ⟨rfl, ((HA4.out.setCell (by simp; omega) (by simp; omega) _).setCell (by simp; omega) (by simp; omega) _).setCell (by simp; omega) (by simp; omega) _, ((HM4.out.setCell (.inl (by simp)) _).setCell (.inl (by simp)) _).setCell (.inl (by simp)) _⟩
  · have h0' : (code != 0) = true := bne_iff_ne.2 h0
    have r0 := fresh_cell hr2 0
    have r1 := fresh_cell hr2 1
    have r2 := fresh_cell hr2 2
    have f0 := fresh_frozen hr2 0
    have f1 := fresh_frozen hr2 1
    have f2 := fresh_frozen hr2 2
    simp only [List.getElem?_toArray, List.getElem?_cons_zero, List.getElem?_cons_succ] at r0 r1 r2
    have HR := Lib.hid hr2
    have H0 := Lib.hid h0
    clear hr2 h0 ha2 hk2
    go_wp2
    refine bodyPost_ret (results_cell_row rfl _ _ w.heap.size _ _ _ _ rfl (set3 HR.out) Tryz.underlying38 rfl (by kernel_rfl)) rfl ?_
    have e : storeR k is old ends failed key E laid = (code, mayT E key k failed, laid) := by unfold storeR; rw [HC.out, if_pos H0.out]
    rw [e]
    exact ⟨rfl, (((HA.out.setCell (by simp; omega) (by simp; omega) _).setCell (by simp; omega) (by simp; omega) _).setCell (by simp; omega) (by simp; omega) _).more (by omega), ((HM.out.setCell (.inl (by simp)) _).setCell (.inl (by simp)) _).setCell (.inl (by simp)) _⟩
end Go.Proofs.YtdihoopofhediaaGreatDoor.Mdl
end
section
namespace Go.Proofs.YtdihoopofhediaaGreatDoor.Text
open Go

theorem ib_hit (c : UInt8) (r : List UInt8) : ∀ x : List UInt8, c ∉ x → Lib.indexByte (x ++ c :: r) c = (x.length : Int)
  | [], _ => by simp [Lib.indexByte]
  | b :: x, h => by
    have h1 : b ≠ c := fun e => h (by rw [e]; exact List.mem_cons_self)
    have h2 := ib_hit c r x (fun hm => h (List.mem_cons_of_mem _ hm))
    show Lib.indexByte (b :: (x ++ c :: r)) c = _
    unfold Lib.indexByte
    rw [if_neg (by simpa using h1), h2, if_neg (by simp)]
    simp
theorem ib_miss (c : UInt8) : ∀ x : List UInt8, c ∉ x → Lib.indexByte x c = -1
  | [], _ => rfl
  | b :: x, h => by
    have h1 : b ≠ c := fun e => h (by rw [e]; exact List.mem_cons_self)
    have h2 := ib_miss c x (fun hm => h (List.mem_cons_of_mem _ hm))
    unfold Lib.indexByte
    rw [if_neg (by simpa using h1), h2]
    rfl
theorem split_join (c : UInt8) : ∀ (r : List (List UInt8)) (x : List UInt8), (∀ y ∈ x :: r, c ∉ y) → Lib.splitK [c] 0 (Lib.count (Lib.join (x :: r) [c]) [c]) (Lib.join (x :: r) [c]) = x :: r
  | [], x, h => by
    have hi : Lib.index x [c] = -1 := by rw [Lib.index_one]; exact ib_miss c x (h x List.mem_cons_self)
    rw [Lib.join_one, Lib.count_miss hi]
    rfl
  | y :: r, x, h => by
    have ih := split_join c r y (fun z hz => h z (List.mem_cons_of_mem _ hz))
    have hj : Lib.join (x :: y :: r) [c] = x ++ c :: Lib.join (y :: r) [c] := by
      rw [Lib.join_cons, Lib.join_cons]
      simp [Lib.joinTail]
    have hi : Lib.index (x ++ c :: Lib.join (y :: r) [c]) [c] = (x.length : Int) := by rw [Lib.index_one]; exact ib_hit c _ x (h x List.mem_cons_self)
    have hd : (x ++ c :: Lib.join (y :: r) [c]).drop (x.length + [c].length) = Lib.join (y :: r) [c] := by
      rw [List.length_singleton, List.drop_append, List.drop_of_length_le (by omega)]
      simp
    rw [hj, Lib.count_hit (by simp) hi, hd, Nat.add_comm]
    have hm : ¬ (Lib.index (x ++ c :: Lib.join (y :: r) [c]) [c] == -1) = true := by rw [hi]; simp
    rw [Lib.splitK, if_neg hm, hi]
    rw [show ((x.length : Int)).toNat = x.length from Int.toNat_natCast _, hd, ih]
    simp
theorem map_data_inj : ∀ (a b : List ByteArray), a.map (·.data.toList) = b.map (·.data.toList) → a = b
  | [], [], _ => rfl
  | [], _ :: _, h => by cases h
  | _ :: _, [], h => by cases h
  | x :: a, y :: b, h => by
    simp only [List.map_cons, List.cons.injEq] at h
    have e : x = y := by
      obtain ⟨x⟩ := x
      obtain ⟨y⟩ := y
      congr 1
      exact Array.toList_inj.1 h.1
    rw [e, map_data_inj a b h.2]
theorem splitB_join (x : ByteArray) (r : List ByteArray) (h : ∀ y ∈ x :: r, (32 : UInt8) ∉ y.data.toList) :
    Lib.splitB ⟨#[32]⟩ 0 (Lib.countB ⟨(Lib.join ((x :: r).map (·.data.toList)) [32]).toArray⟩ ⟨#[32]⟩) ⟨(Lib.join ((x :: r).map (·.data.toList)) [32]).toArray⟩ = x :: r := by
  apply map_data_inj
  rw [Lib.splitB_data]
  show Lib.splitK [32] 0 (Lib.count (Lib.join ((x :: r).map (·.data.toList)) [32]).toArray.toList [32]) (Lib.join ((x :: r).map (·.data.toList)) [32]).toArray.toList = _
  rw [List.toList_toArray, List.map_cons]
  refine split_join 32 _ _ (fun y hy => ?_)
  have hy' : y ∈ (x :: r).map (fun z : ByteArray => z.data.toList) := hy
  obtain ⟨z, hz, rfl⟩ := List.mem_map.1 hy'
  exact h z hz
theorem parse_snoc (M : Nat) (c : UInt8) (hc : 48 ≤ c.toNat ∧ c.toNat ≤ 57) : ∀ (l : List UInt8) (acc u : Nat), Lib.parseUintM M acc l = .ok u → u < 1844674407370955162 → u * 10 + (c.toNat - 48) ≤ M → Lib.parseUintM M acc (l ++ [c]) = .ok (u * 10 + (c.toNat - 48))
  | [], acc, u, h, h1, h2 => by
    obtain rfl : acc = u := by simpa [Lib.parseUintM] using h
    show Lib.parseUintM M acc [c] = _
    unfold Lib.parseUintM
    rw [if_pos hc, if_neg (by omega), if_neg (by omega)]
    rfl
  | b :: l, acc, u, h, h1, h2 => by
    show Lib.parseUintM M acc (b :: (l ++ [c])) = _
    unfold Lib.parseUintM at h ⊢
    split at h
    · rename_i hb
      rw [if_pos hb]
      split at h
      · cases h
      · rename_i ha
        rw [if_neg ha]
        split at h
        · cases h
        · rename_i hm
          rw [if_neg hm]
          exact parse_snoc M c hc l _ u h h1 h2
    · cases h
theorem dec_small (u : Nat) (h : u < 10) : Lib.decDigits u = [UInt8.ofNat (48 + u)] := by rw [Lib.decDigits, dif_pos h]
theorem dec_big (u : Nat) (h : ¬ u < 10) : Lib.decDigits u = Lib.decDigits (u / 10) ++ [UInt8.ofNat (48 + u % 10)] := by rw [Lib.decDigits, dif_neg h]
theorem dig_toNat (d : Nat) (h : d < 10) : (UInt8.ofNat (48 + d)).toNat = 48 + d := by
  show (48 + d) % 256 = 48 + d
  omega
theorem dec_parse : ∀ (n u : Nat), u < n → u < 18446744073709551616 → Lib.parseUintM 18446744073709551615 0 (Lib.decDigits u) = .ok u
  | 0, u, h, _ => absurd h (by omega)
  | n + 1, u, h, hu => by
    by_cases h10 : u < 10
    · rw [dec_small u h10]
      unfold Lib.parseUintM
      rw [dig_toNat u h10, if_pos (by omega), if_neg (by omega), if_neg (by omega)]
      show Lib.NumEnd.ok _ = Lib.NumEnd.ok _
      congr 1
      omega
    · rw [dec_big u h10]
      have ih := dec_parse n (u / 10) (by omega) (by omega)
      have hd := dig_toNat (u % 10) (by omega)
      rw [parse_snoc _ (UInt8.ofNat (48 + u % 10)) (by rw [hd]; omega) _ _ _ ih (by omega) (by rw [hd]; omega), hd]
      congr 1
      omega
theorem dec_dig : ∀ (n u : Nat), u < n → ∀ c ∈ Lib.decDigits u, 48 ≤ c.toNat ∧ c.toNat ≤ 57
  | 0, u, h => absurd h (by omega)
  | n + 1, u, h => by
    intro c hc
    by_cases h10 : u < 10
    · rw [dec_small u h10] at hc
      obtain rfl := List.mem_singleton.1 hc
      rw [dig_toNat u h10]
      omega
    · rw [dec_big u h10] at hc
      rcases List.mem_append.1 hc with hc | hc
      · exact dec_dig n (u / 10) (by omega) c hc
      · obtain rfl := List.mem_singleton.1 hc
        rw [dig_toNat _ (by omega)]
        omega
theorem dec_ne (u : Nat) : Lib.decDigits u ≠ [] := by
  by_cases h10 : u < 10
  · rw [dec_small u h10]; simp
  · rw [dec_big u h10]; simp
theorem dec_len : ∀ (k u : Nat), u < 10 ^ (k + 1) → (Lib.decDigits u).length ≤ k + 1
  | 0, u, h => by rw [dec_small u (by simpa using h)]; simp
  | k + 1, u, h => by
    by_cases h10 : u < 10
    · rw [dec_small u h10]; simp
    · rw [dec_big u h10, List.length_append, List.length_singleton]
      have := dec_len k (u / 10) (by rw [Nat.pow_succ] at h; omega)
      omega
end Go.Proofs.YtdihoopofhediaaGreatDoor.Text
end
section
namespace Go.Proofs.YtdihoopofhediaaGreatDoor.Mdl
open Go.RowKit Go.Proofs.YtdihoopofhediaaGreatDoorW.PrintWords Go.Proofs.YtdihoopofhediaaGreatDoorW.PrintLast Go.Proofs.YtdihoopofhediaaGreatDoorW.PrintMore Go.WideMaps Go.Proofs.YtdihoopofhediaaGreatDoor.XMd
set_option linter.unusedVariables false
set_option linter.unusedSimpArgs false
attribute [local go_sem ↓] Go.wp_at_zero Go.wp_at_succ

def countN (k : Cmd) (n : Int) : Int := if k.kind = 12 then IntKind.u64.wrap (n + k.delta) else n - min n k.delta
def numText (n : Int) : ByteArray := ⟨(Lib.decDigits n.toNat).toArray⟩
def countR (k : Cmd) (old : Ent) (failed : Bool) (key : ByteArray) (E : Tab) (laid : Int) : Int × Int × Tab × Int :=
  if (digits_Parse.val old.value.data.toList).2 ≠ 0 then (8, 0, E, laid)
  else (if failed = true then 11 else 7, if failed = true then 0 else countN k (digits_Parse.val old.value.data.toList).1,
    layT E laid key { old with value := numText (countN k (digits_Parse.val old.value.data.toList).1) } failed, layN laid failed)
theorem val_nn (l : List UInt8) : 0 ≤ (digits_Parse.val l).1 := by
  unfold digits_Parse.val
  repeat' split
  all_goals first | exact Int.natCast_nonneg _ | exact Int.le_refl _
theorem uintM_le (m : Nat) : ∀ (s : List UInt8) (n u : Nat), Lib.parseUintM m n s = .ok u → n ≤ m → u ≤ m
  | [], n, u, h, hn => by unfold Lib.parseUintM at h; injection h with h; omega
  | x :: s, n, u, h, hn => by
    unfold Lib.parseUintM at h
    split at h
    · split at h
      · cases h
      · split at h
        · cases h
        · exact uintM_le m s _ u h (by omega)
    · cases h
theorem val_lt (l : List UInt8) : (digits_Parse.val l).1 < 18446744073709551616 := by
  have h0 : (0 : Int) < 18446744073709551616 := by decide
  unfold digits_Parse.val
  split
  · split
    · exact h0
    · split
      · exact h0
      · cases hp : Lib.parseUintB 64 l with
        | ok u =>
          have h2 : u ≤ 18446744073709551615 := by
            unfold Lib.parseUintB at hp
            split at hp
            · cases hp
            · exact uintM_le _ l 0 u hp (by decide)
          show (u : Int) < _
          omega
        | _ => exact h0
  · exact h0
theorem numText_small (m : Int) (h1 : m < 18446744073709551616) : (numText m).size ≤ 2000 := by
  show (Lib.decDigits m.toNat).toArray.size ≤ 2000
  rw [List.size_toArray]
  have := Text.dec_len 19 m.toNat (by have : (10 : Nat) ^ (19 + 1) = 100000000000000000000 := by decide
                                      omega)
  omega
theorem text_is (m : Int) (h0 : 0 ≤ m) (h1 : m < 18446744073709551616) : digits_Text.f m = some (numText m) := by
  unfold digits_Text.f strconv_FormatUint_68.f strconv_FormatUint_81.f
  rw [if_pos ⟨h0, h1, rfl⟩]
  rfl
set_option maxHeartbeats 8000000 in
set_option maxRecDepth 100000 in
theorem count_calls (w : World) (g b c a : Nat) (E : Tab) (laid : Int) (k : Cmd) (A : Option Addr) (cap : Nat) (now ends : Int) (failed : Bool) (old : Ent) (is : Bool) (key : ByteArray)
    (hv : Vars w) (hA : At w g b c E laid) (hc : c < maxLen) (ha : ActAt w a g k A cap now ends failed old is) (hag : a ≠ g) (hab : a ≠ b) (hk : KeyAt w g b A k key) (hkind : k.kind = 12 ∨ k.kind = 13) (hd : 0 ≤ k.delta) (hov : old.value.size ≤ 2000) :
    Calls Tryz.prog 34 #[.pointer (some ⟨a, 0, none⟩)] w fun e w' =>
      e = .returned (.agg #[.int .i64 (countR k old failed key E laid).1, .slice none 0 0, .int .u64 (countR k old failed key E laid).2.1]) ∧ At w' g b (c + 1) (countR k old failed key E laid).2.2.1 (countR k old failed key E laid).2.2.2 ∧ Mut g b w w' := by
  have hg := hA.lt
  have hgb := hA.ltb
  have hal : a < w.heap.size := blk_lt ha
  have a12 := fresh_cell ha 12
  simp only [List.getElem?_toArray, List.getElem?_cons_zero, List.getElem?_cons_succ] at a12
  have H0 := Aside0.mk hA
  have HAct := Lib.hid ha
  have HK := Lib.hid hk
  have HV := Aside0.mk hv
  have HKind := Lib.hid hkind
  clear hA ha hk hv hkind
  go_enter Tryz.func34, Tryz.ntmps34
  go_wp2_with fail
  have hA1 := H0.out.alloc (.cells #[.int .i64 0, .slice none 0 0, .int .u64 0] 38)
  have hb1 : Below w.heap.size w (w.alloc (.cells #[.int .i64 0, .slice none 0 0, .int .u64 0] 38)) := (Below.refl _ w).alloc (Nat.le_refl _) _
  obtain ⟨n, hn⟩ : ∃ n, (digits_Parse.val old.value.data.toList).1 = n := ⟨_, rfl⟩
  obtain ⟨er, her⟩ : ∃ er, (digits_Parse.val old.value.data.toList).2 = er := ⟨_, rfl⟩
  have hnn : 0 ≤ n := by rw [← hn]; exact val_nn _
  have hnl : n < 18446744073709551616 := by rw [← hn]; exact val_lt _
  have hp : digits_Parse.f old.value = some (n, er) := by unfold digits_Parse.f; rw [if_pos (by omega), ← hn, ← her]
  refine (digits_Parse.calls old.value n er _ (HV.out.below hb1) hp).mono ?_
  rintro e w1 ⟨rfl, hb2⟩
  have hb12 : Below w.heap.size w w1 := hb1.trans (hb2.mono hb1.size)
  have hr1 := (hb2.block w.heap.size (by simp)).trans (heap_alloc_new w (.cells #[.int .i64 0, .slice none 0 0, .int .u64 0] 38))
  have hA1' := H0.out.below hb12
  have ha1 : ActAt w1 a g k A cap now ends failed old is := (hb12.block a hal).trans HAct.out
  have hk1 : KeyAt w1 g b A k key := by
    obtain ⟨h1, ad, h2, h3, h4, h5⟩ := HK.out
    exact ⟨h1, ad, h2, keepC hb12 h3, h4, h5⟩
  have hws : w.heap.size < w1.heap.size := blk_lt hr1
  have HN := Lib.hid hn
  have HER := Lib.hid her
  have HV1 := Aside0.mk (HV.out.below hb12)
  have HB := Aside0.mk hb12
  have HA := Aside0.mk hA1'
  clear hA1 hb1 hn her hp hb2 hb12 hA1' HV a12 HAct HK H0
  by_cases he : er = 0
  · subst he
    have a0 := fresh_cell ha1 0
    have a1 := fresh_cell ha1 1
    have a7 := fresh_cell ha1 7
    have a12 := fresh_cell ha1 12
    have a13 := fresh_cell ha1 13
    have a14 := fresh_cell ha1 14
    have a15 := fresh_cell ha1 15
    simp only [List.getElem?_toArray, List.getElem?_cons_zero, List.getElem?_cons_succ] at a0 a1 a7 a12 a13 a14 a15
    have HR := Lib.hid hr1
    have HAct := Lib.hid ha1
    have HK := Lib.hid hk1
    clear hr1 ha1 hk1
    by_cases k12 : k.kind = 12
    · have k12' : (k.kind == 12) = true := beq_iff_eq.2 k12
      go_upto_region 8 with fail
      have hm : countN k n = IntKind.u64.wrap (n + k.delta) := by unfold countN; rw [if_pos k12]
      have hm0 : 0 ≤ IntKind.u64.wrap (n + k.delta) := by rw [IntKind.wrap_u64]; omega
      have hm1 : IntKind.u64.wrap (n + k.delta) < 18446744073709551616 := by rw [IntKind.wrap_u64]; omega
      generalize IntKind.u64.wrap (n + k.delta) = m at hm hm0 hm1 ⊢
      have HM := Lib.hid hm
      have hW := (Below.refl _ w1).alloc (Nat.le_refl _) (.cells #[.string old.value, .int .u32 old.flags, .int .i64 old.exp, .int .u64 old.cas] 51)
      have hB1 := heap_alloc_new w1 (.cells #[.string old.value, .int .u32 old.flags, .int .i64 old.exp, .int .u64 old.cas] 51)
      go_wp2_with fail
      refine (digits_Text.calls m (numText m) _ (HV1.out.below hW) (text_is m hm0 hm1)).mono ?_
      rintro e w2 ⟨rfl, hb3⟩
      have hb13 : Below w1.heap.size w1 w2 := hW.trans (hb3.mono hW.size)
      have hB2 := (hb3.block w1.heap.size (by simp)).trans hB1
      obtain ⟨B, hBe⟩ : ∃ B, B = w1.heap.size := ⟨_, rfl⟩
      have hBg : B ≠ g := by have := HA.out.lt; omega
      have hBb : B ≠ b := by have := HA.out.ltb; omega
      have hBa : B ≠ a := by have := blk_lt HAct.out; omega
      have hBr : B ≠ w.heap.size := by omega
      have hBw : w.heap.size ≤ B := by omega
      rw [← hBe] at hB2 ⊢
      have hr2 := (hb13.block _ hws).trans HR.out
      have ha2 : ActAt w2 a g k A cap now ends failed old is := (hb13.block a (blk_lt HAct.out)).trans HAct.out
      have o : Only B w2 (w2.setCell ⟨B, 0, none⟩ (.string (numText m))) := (Only.refl B w2).setCell 0 _
      have hA3 := (HA.out.below hb13).only o hBg hBb
      have hM3 := (Mut.of_below (g := g) (b := b) (HB.out.trans (hb13.mono HB.out.size))).only o hBw
      have ha3 : ActAt (w2.setCell ⟨B, 0, none⟩ (.string (numText m))) a g k A cap now ends failed old is := o.heap ha2 hBa.symm
      have hr3 := o.heap hr2 hBr.symm
      have hk3 : KeyAt (w2.setCell ⟨B, 0, none⟩ (.string (numText m))) g b A k key := by
        obtain ⟨h1, ad, h2, h3, h4, h5⟩ := HK.out
        exact ⟨h1, ad, h2, o.cell (keepC hb13 h3) (by have := World.block_lt_of_cell? w1 ad h3; omega), h4, h5⟩
      have b0 := fresh_cell hB2 0
      have b1 := fresh_cell hB2 1
      have b2 := fresh_cell hB2 2
      have b3 := fresh_cell hB2 3
      have f0 := fresh_frozen hB2 0
      simp only [List.getElem?_toArray, List.getElem?_cons_zero, List.getElem?_cons_succ] at b0 b1 b2 b3
      have HA3 := Aside0.mk hA3
      have HM3 := Aside0.mk hM3
      have Ha3 := Lib.hid ha3
      have Hr3 := Lib.hid hr3
      have Hk3 := Lib.hid hk3
      clear hW hB1 hb3 hb13 hB2 hr2 ha2 o hA3 hM3 ha3 hr3 hk3 hBe a0 a1 a7 a12 a13 a14 a15 HA HB HAct HK HR HV1 hm hws
      go_wp2_with fail
      refine (lay_calls _ g b c a E laid k A cap now ends failed old is key { old with value := numText m } 7 HA3.out hc Ha3.out hag hab Hk3.out (numText_small m hm1)).mono ?_
      rintro e V ⟨rfl, hA4, hM4⟩
      have hr4 := hM4.heap Hr3.out (by omega) (by omega)
      have HA4 := Aside0.mk hA4
      have HM4 := Aside0.mk (HM3.out.trans hM4)
      have HR4 := Lib.hid hr4
      have hws4 : w.heap.size < V.heap.size := blk_lt hr4
      clear hr4 hA4 hM4 b0 b1 b2 b3
      obtain ⟨cd, hcd⟩ : ∃ cd : Int, (if failed = true then 11 else 7) = cd := ⟨_, rfl⟩
      rw [hcd]
      go_upto_region 10 with fail
      have hA5 := HA4.out.alloc (.cells #[.int .i64 cd, .slice none 0 0, .int .u64 0] 38)
      have hM5 := HM4.out.alloc (.cells #[.int .i64 cd, .slice none 0 0, .int .u64 0] 38)
      have hC5 := heap_alloc_new V (.cells #[.int .i64 cd, .slice none 0 0, .int .u64 0] 38)
      have hr5 := (Below.heap_alloc V (.cells #[.int .i64 cd, .slice none 0 0, .int .u64 0] 38) _ hws4).trans HR4.out
      obtain ⟨C, hCe⟩ : ∃ C, C = V.heap.size := ⟨_, rfl⟩
      have hCg : C ≠ g := by have := HA4.out.lt; omega
      have hCb : C ≠ b := by have := HA4.out.ltb; omega
      have hCr : C ≠ w.heap.size := by omega
      have hCw : w.heap.size ≤ C := by omega
      rw [← hCe] at hC5 ⊢
      generalize V.alloc (.cells #[.int .i64 cd, .slice none 0 0, .int .u64 0] 38) = U at hA5 hM5 hC5 hr5 ⊢
      have c0 := fresh_cell hC5 0
      have c1 := fresh_cell hC5 1
      have c2 := fresh_cell hC5 2
      have cf2 := fresh_frozen hC5 2
      simp only [List.getElem?_toArray, List.getElem?_cons_zero, List.getElem?_cons_succ] at c0 c1 c2
      have HA5 := Aside0.mk hA5
      have HM5 := Aside0.mk hM5
      have HC5 := Lib.hid hC5
      have HR5 := Lib.hid hr5
      have HCD := Lib.hid hcd
      clear hA5 hM5 hC5 hr5 hCe hws4 hcd HA4 HM4 HR4
      cases failed with
      | true =>
        obtain rfl : (11 : Int) = cd := HCD.out
        have r0 := fresh_cell HR5.out 0
        have r1 := fresh_cell HR5.out 1
        have r2 := fresh_cell HR5.out 2
        have f0 := fresh_frozen HR5.out 0
        have f1 := fresh_frozen HR5.out 1
        have f2 := fresh_frozen HR5.out 2
        simp only [List.getElem?_toArray, List.getElem?_cons_zero, List.getElem?_cons_succ] at r0 r1 r2
        go_wp2
        refine bodyPost_ret (results_cell_row rfl _ _ w.heap.size _ _ _ _ rfl (set3 HR5.out) Tryz.underlying38 rfl (by kernel_rfl)) rfl ?_
        have e : countR k old true key E laid = (11, 0, layT E laid key { old with value := numText m } true, layN laid true) := by unfold countR; rw [HER.out, if_neg (by omega), HN.out, HM.out, if_pos rfl, if_pos rfl]
        rw [e]
        exact ⟨rfl, ((HA5.out.setCell (by simp; omega) (by simp; omega) _).setCell (by simp; omega) (by simp; omega) _).setCell (by simp; omega) (by simp; omega) _, ((HM5.out.setCell (.inl (by simp)) _).setCell (.inl (by simp)) _).setCell (.inl (by simp)) _⟩
      | false =>
        obtain rfl : (7 : Int) = cd := HCD.out
        go_upto_region 12 with fail
        have o5 : Only C U (U.setCell ⟨C, 2, none⟩ (.int .u64 m)) := (Only.refl C U).setCell 2 _
        have hC6 := Lib.heap_setCell_same (i := 2) HC5.out (.int .u64 m)
        have hr6 := o5.heap HR5.out hCr.symm
        have HA6 := Aside0.mk (HA5.out.only o5 hCg hCb)
        have HM6 := Aside0.mk (HM5.out.only o5 hCw)
        generalize U.setCell ⟨C, 2, none⟩ (.int .u64 m) = U6 at o5 hC6 hr6 HA6 HM6 ⊢
        clear c0 c1 c2 cf2 o5
        have c0 := fresh_cell hC6 0
        have c1 := fresh_cell hC6 1
        have c2 := fresh_cell hC6 2
        have r0 := fresh_cell hr6 0
        have r1 := fresh_cell hr6 1
        have r2 := fresh_cell hr6 2
        have f0 := fresh_frozen hr6 0
        have f1 := fresh_frozen hr6 1
        have f2 := fresh_frozen hr6 2
        simp only [List.setIfInBounds_toArray, List.set_cons_zero, List.set_cons_succ, List.getElem?_toArray, List.getElem?_cons_zero, List.getElem?_cons_succ] at c0 c1 c2 r0 r1 r2
        have HR6 := Lib.hid hr6
        clear hr6 hC6
        go_wp2
        refine bodyPost_ret (results_cell_row rfl _ _ w.heap.size _ _ _ _ rfl (set3 HR6.out) Tryz.underlying38 rfl (by kernel_rfl)) rfl ?_
        have e : countR k old false key E laid = (7, m, layT E laid key { old with value := numText m } false, layN laid false) := by unfold countR; rw [HER.out, if_neg (by omega), HN.out, HM.out, if_neg Bool.false_ne_true, if_neg Bool.false_ne_true]
        rw [e]
        exact ⟨rfl, ((HA6.out.setCell (by simp; omega) (by simp; omega) _).setCell (by simp; omega) (by simp; omega) _).setCell (by simp; omega) (by simp; omega) _, ((HM6.out.setCell (.inl (by simp)) _).setCell (.inl (by simp)) _).setCell (.inl (by simp)) _⟩
    · have k12' : (k.kind == 12) = false := beq_eq_false_iff_ne.2 k12
      go_upto_region 8 with fail
      have hm : countN k n = n - min n k.delta := by unfold countN; rw [if_neg k12]
      have hm0 : 0 ≤ n - min n k.delta := by omega
      have hm1 : n - min n k.delta < 18446744073709551616 := by omega
      generalize n - min n k.delta = m at hm hm0 hm1 ⊢
      have HM := Lib.hid hm
      have hW := (Below.refl _ w1).alloc (Nat.le_refl _) (.cells #[.string old.value, .int .u32 old.flags, .int .i64 old.exp, .int .u64 old.cas] 51)
      have hB1 := heap_alloc_new w1 (.cells #[.string old.value, .int .u32 old.flags, .int .i64 old.exp, .int .u64 old.cas] 51)
      go_wp2_with fail
      refine (digits_Text.calls m (numText m) _ (HV1.out.below hW) (text_is m hm0 hm1)).mono ?_
      rintro e w2 ⟨rfl, hb3⟩
      have hb13 : Below w1.heap.size w1 w2 := hW.trans (hb3.mono hW.size)
      have hB2 := (hb3.block w1.heap.size (by simp)).trans hB1
      obtain ⟨B, hBe⟩ : ∃ B, B = w1.heap.size := ⟨_, rfl⟩
      have hBg : B ≠ g := by have := HA.out.lt; omega
      have hBb : B ≠ b := by have := HA.out.ltb; omega
      have hBa : B ≠ a := by have := blk_lt HAct.out; omega
      have hBr : B ≠ w.heap.size := by omega
      have hBw : w.heap.size ≤ B := by omega
      rw [← hBe] at hB2 ⊢
      have hr2 := (hb13.block _ hws).trans HR.out
      have ha2 : ActAt w2 a g k A cap now ends failed old is := (hb13.block a (blk_lt HAct.out)).trans HAct.out
      have o : Only B w2 (w2.setCell ⟨B, 0, none⟩ (.string (numText m))) := (Only.refl B w2).setCell 0 _
      have hA3 := (HA.out.below hb13).only o hBg hBb
      have hM3 := (Mut.of_below (g := g) (b := b) (HB.out.trans (hb13.mono HB.out.size))).only o hBw
      have ha3 : ActAt (w2.setCell ⟨B, 0, none⟩ (.string (numText m))) a g k A cap now ends failed old is := o.heap ha2 hBa.symm
      have hr3 := o.heap hr2 hBr.symm
      have hk3 : KeyAt (w2.setCell ⟨B, 0, none⟩ (.string (numText m))) g b A k key := by
        obtain ⟨h1, ad, h2, h3, h4, h5⟩ := HK.out
        exact ⟨h1, ad, h2, o.cell (keepC hb13 h3) (by have := World.block_lt_of_cell? w1 ad h3; omega), h4, h5⟩
      have b0 := fresh_cell hB2 0
      have b1 := fresh_cell hB2 1
      have b2 := fresh_cell hB2 2
      have b3 := fresh_cell hB2 3
      have f0 := fresh_frozen hB2 0
      simp only [List.getElem?_toArray, List.getElem?_cons_zero, List.getElem?_cons_succ] at b0 b1 b2 b3
      have HA3 := Aside0.mk hA3
      have HM3 := Aside0.mk hM3
      have Ha3 := Lib.hid ha3
      have Hr3 := Lib.hid hr3
      have Hk3 := Lib.hid hk3
      clear hW hB1 hb3 hb13 hB2 hr2 ha2 o hA3 hM3 ha3 hr3 hk3 hBe a0 a1 a7 a12 a13 a14 a15 HA HB HAct HK HR HV1 hm hws
      go_wp2_with fail
      refine (lay_calls _ g b c a E laid k A cap now ends failed old is key { old with value := numText m } 7 HA3.out hc Ha3.out hag hab Hk3.out (numText_small m hm1)).mono ?_
      rintro e V ⟨rfl, hA4, hM4⟩
      have hr4 := hM4.heap Hr3.out (by omega) (by omega)
      have HA4 := Aside0.mk hA4
      have HM4 := Aside0.mk (HM3.out.trans hM4)
      have HR4 := Lib.hid hr4
      have hws4 : w.heap.size < V.heap.size := blk_lt hr4
      clear hr4 hA4 hM4 b0 b1 b2 b3
      obtain ⟨cd, hcd⟩ : ∃ cd : Int, (if failed = true then 11 else 7) = cd := ⟨_, rfl⟩
      rw [hcd]
      go_upto_region 10 with fail
      have hA5 := HA4.out.alloc (.cells #[.int .i64 cd, .slice none 0 0, .int .u64 0] 38)
      have hM5 := HM4.out.alloc (.cells #[.int .i64 cd, .slice none 0 0, .int .u64 0] 38)
      have hC5 := heap_alloc_new V (.cells #[.int .i64 cd, .slice none 0 0, .int .u64 0] 38)
      have hr5 := (Below.heap_alloc V (.cells #[.int .i64 cd, .slice none 0 0, .int .u64 0] 38) _ hws4).trans HR4.out
      obtain ⟨C, hCe⟩ : ∃ C, C = V.heap.size := ⟨_, rfl⟩
      have hCg : C ≠ g := by have := HA4.out.lt; omega
      have hCb : C ≠ b := by have := HA4.out.ltb; omega
      have hCr : C ≠ w.heap.size := by omega
      have hCw : w.heap.size ≤ C := by omega
      rw [← hCe] at hC5 ⊢
      generalize V.alloc (.cells #[.int .i64 cd, .slice none 0 0, .int .u64 0] 38) = U at hA5 hM5 hC5 hr5 ⊢
      have c0 := fresh_cell hC5 0
      have c1 := fresh_cell hC5 1
      have c2 := fresh_cell hC5 2
      have cf2 := fresh_frozen hC5 2
      simp only [List.getElem?_toArray, List.getElem?_cons_zero, List.getElem?_cons_succ] at c0 c1 c2
      have HA5 := Aside0.mk hA5
      have HM5 := Aside0.mk hM5
      have HC5 := Lib.hid hC5
      have HR5 := Lib.hid hr5
      have HCD := Lib.hid hcd
      clear hA5 hM5 hC5 hr5 hCe hws4 hcd HA4 HM4 HR4
      cases failed with
      | true =>
        obtain rfl : (11 : Int) = cd := HCD.out
        have r0 := fresh_cell HR5.out 0
        have r1 := fresh_cell HR5.out 1
        have r2 := fresh_cell HR5.out 2
        have f0 := fresh_frozen HR5.out 0
        have f1 := fresh_frozen HR5.out 1
        have f2 := fresh_frozen HR5.out 2
        simp only [List.getElem?_toArray, List.getElem?_cons_zero, List.getElem?_cons_succ] at r0 r1 r2
        go_wp2
        refine bodyPost_ret (results_cell_row rfl _ _ w.heap.size _ _ _ _ rfl (set3 HR5.out) Tryz.underlying38 rfl (by kernel_rfl)) rfl ?_
        have e : countR k old true key E laid = (11, 0, layT E laid key { old with value := numText m } true, layN laid true) := by unfold countR; rw [HER.out, if_neg (by omega), HN.out, HM.out, if_pos rfl, if_pos rfl]
        rw [e]
        exact ⟨rfl, ((HA5.out.setCell (by simp; omega) (by simp; omega) _).setCell (by simp; omega) (by simp; omega) _).setCell (by simp; omega) (by simp; omega) _, ((HM5.out.setCell (.inl (by simp)) _).setCell (.inl (by simp)) _).setCell (.inl (by simp)) _⟩
      | false =>
        obtain rfl : (7 : Int) = cd := HCD.out
        go_upto_region 12 with fail
        have o5 : Only C U (U.setCell ⟨C, 2, none⟩ (.int .u64 m)) := (Only.refl C U).setCell 2 _
        have hC6 := Lib.heap_setCell_same (i := 2) HC5.out (.int .u64 m)
        have hr6 := o5.heap HR5.out hCr.symm
        have HA6 := Aside0.mk (HA5.out.only o5 hCg hCb)
        have HM6 := Aside0.mk (HM5.out.only o5 hCw)
        generalize U.setCell ⟨C, 2, none⟩ (.int .u64 m) = U6 at o5 hC6 hr6 HA6 HM6 ⊢
        clear c0 c1 c2 cf2 o5
        have c0 := fresh_cell hC6 0
        have c1 := fresh_cell hC6 1
        have c2 := fresh_cell hC6 2
        have r0 := fresh_cell hr6 0
        have r1 := fresh_cell hr6 1
        have r2 := fresh_cell hr6 2
        have f0 := fresh_frozen hr6 0
        have f1 := fresh_frozen hr6 1
        have f2 := fresh_frozen hr6 2
        simp only [List.setIfInBounds_toArray, List.set_cons_zero, List.set_cons_succ, List.getElem?_toArray, List.getElem?_cons_zero, List.getElem?_cons_succ] at c0 c1 c2 r0 r1 r2
        have HR6 := Lib.hid hr6
        clear hr6 hC6
        go_wp2
        refine bodyPost_ret (results_cell_row rfl _ _ w.heap.size _ _ _ _ rfl (set3 HR6.out) Tryz.underlying38 rfl (by kernel_rfl)) rfl ?_
        have e : countR k old false key E laid = (7, m, layT E laid key { old with value := numText m } false, layN laid false) := by unfold countR; rw [HER.out, if_neg (by omega), HN.out, HM.out, if_neg Bool.false_ne_true, if_neg Bool.false_ne_true]
        rw [e]
        exact ⟨rfl, ((HA6.out.setCell (by simp; omega) (by simp; omega) _).setCell (by simp; omega) (by simp; omega) _).setCell (by simp; omega) (by simp; omega) _, ((HM6.out.setCell (.inl (by simp)) _).setCell (.inl (by simp)) _).setCell (.inl (by simp)) _⟩
  · have he' : (er != 0) = true := bne_iff_ne.2 he
    have r0 := fresh_cell hr1 0
    have r1 := fresh_cell hr1 1
    have r2 := fresh_cell hr1 2
    have f0 := fresh_frozen hr1 0
    have f1 := fresh_frozen hr1 1
    have f2 := fresh_frozen hr1 2
    simp only [List.getElem?_toArray, List.getElem?_cons_zero, List.getElem?_cons_succ] at r0 r1 r2
    have HR := Lib.hid hr1
    have HE := Lib.hid he
    clear hr1 he ha1 hk1
    go_wp2
    refine bodyPost_ret (results_cell_row rfl _ _ w.heap.size _ _ _ _ rfl (set3 HR.out) Tryz.underlying38 rfl (by kernel_rfl)) rfl ?_
    have e : countR k old failed key E laid = (8, 0, E, laid) := by unfold countR; rw [HER.out, if_pos HE.out]
    rw [e]
    exact ⟨rfl, (((HA.out.setCell (by simp; omega) (by simp; omega) _).setCell (by simp; omega) (by simp; omega) _).setCell (by simp; omega) (by simp; omega) _).more (by omega), (((Mut.of_below HB.out).setCell (.inl (by simp)) _).setCell (.inl (by simp)) _).setCell (.inl (by simp)) _⟩
end Go.Proofs.YtdihoopofhediaaGreatDoor.Mdl
end
section
namespace Go.Proofs.YtdihoopofhediaaGreatDoor.Mdl
open Go.RowKit Go.Proofs.YtdihoopofhediaaGreatDoorW.PrintWords Go.Proofs.YtdihoopofhediaaGreatDoorW.PrintLast Go.Proofs.YtdihoopofhediaaGreatDoorW.PrintMore Go.WideMaps Go.Proofs.YtdihoopofhediaaGreatDoor.XMd
set_option linter.unusedVariables false
set_option linter.unusedSimpArgs false
attribute [local go_sem ↓] Go.wp_at_zero Go.wp_at_succ

structure Hit where
  key : ByteArray
  flags : Int
  value : ByteArray
  cas : Int
def Hit.cells (h : Hit) : List Value := [.string h.key, .int .u32 h.flags, .string h.value, .int .u64 h.cas]
def hitsC (l : List Hit) : List Value := l.flatMap Hit.cells
theorem hitsC_len : ∀ l : List Hit, (hitsC l).length = l.length * 4
  | [] => rfl
  | x :: l => by unfold hitsC; rw [List.flatMap_cons, List.length_append, List.length_cons]; have := hitsC_len l; unfold hitsC at this; rw [this]; show 4 + _ = _; omega
def readOne (k : Cmd) (now ends : Int) (key : ByteArray) (E : Tab) : List Hit × Tab := match get E key now with
  | none => ([], E)
  | some x => ([⟨key, x.flags, x.value, x.cas⟩], if k.kind = 3 ∨ k.kind = 4 then putT E (nm key) (some { x with exp := ends }) else E)
def readsR (k : Cmd) (now ends : Int) : List ByteArray → Tab → List Hit × Tab
  | [], E => ([], E)
  | key :: l, E => ((readOne k now ends key E).1 ++ (readsR k now ends l (readOne k now ends key E).2).1, (readsR k now ends l (readOne k now ends key E).2).2)
def KeysAt (w : World) (g b : Nat) (A : Option Addr) (ks : List ByteArray) : Prop := ∀ j p, ks[j]? = some p → ∃ ad, A = some ad ∧ ad.block ≠ g ∧ ad.block ≠ b ∧ w.cell? (ad.add j) = some (.string p)
theorem KeysAt.mut {w w' : World} {g b : Nat} {A : Option Addr} {ks : List ByteArray} (h : KeysAt w g b A ks) (m : Mut g b w w') : KeysAt w' g b A ks := fun j p hp => by
  obtain ⟨ad, h1, h2, h3, h4⟩ := h j p hp
  exact ⟨ad, h1, h2, h3, m.cell h4 (by rw [add_block]; exact h2) (by rw [add_block]; exact h3)⟩
theorem KeysAt.first {w : World} {g b : Nat} {A : Option Addr} {k : Cmd} {key : ByteArray} {l : List ByteArray} (h : KeysAt w g b A k.keys) (hk : k.keys = key :: l) : KeyAt w g b A k key := by
  obtain ⟨ad, h1, h2, h3, h4⟩ := h 0 key (by rw [hk]; rfl)
  refine ⟨by rw [hk]; simp, ad, h1, ?_, h2, h3⟩
  simpa [Addr.add] using h4
theorem get_small {E : Tab} (hs : ∀ n x, E n = some x → x.value.size ≤ 2000) {key : ByteArray} {now : Int} {x : Ent} (h : get E key now = some x) : x.value.size ≤ 2000 := by
  unfold get at h
  cases he : E (nm key) with
  | none => rw [he] at h; cases h
  | some y =>
    rw [he] at h
    simp only at h
    split at h
    · injection h with h; rw [← h]; exact hs _ _ he
    · cases h
theorem ownsRow_below {w w' : World} {base e size n : Nat} {v : Value} {xs : List Value} (h : w.ownsRow base e size v n xs) (hb : Below w.heap.size w w') : w'.ownsRow base e size v n xs := by
  refine ⟨h.1, ?_⟩
  rcases h.2 with h0 | ⟨g, cap, cur, h1, h2, h3, h4⟩
  · exact .inl h0
  · exact .inr ⟨g, cap, cur, h1, h2, (hb.block g (blk_lt h3)).trans h3, h4⟩
theorem ownsRow_other {w w' : World} {base e size n : Nat} {v : Value} {xs : List Value} (h : w.ownsRow base e size v n xs) (hb : ∀ i, i < w.heap.size → base ≤ i → w'.heap[i]? = w.heap[i]?) : w'.ownsRow base e size v n xs := by
  refine ⟨h.1, ?_⟩
  rcases h.2 with h0 | ⟨g, cap, cur, h1, h2, h3, h4⟩
  · exact .inl h0
  · exact .inr ⟨g, cap, cur, h1, h2, (hb g (blk_lt h3) h2).trans h3, h4⟩
theorem ownBlock_ge {w : World} {base e size n : Nat} {v : Value} {xs : List Value} (h : w.ownsRow base e size v n xs) : ∀ i, v.ownBlock = some i → base ≤ i := by
  intro i hi
  rcases h.2 with ⟨rfl, _⟩ | ⟨g, cap, cur, rfl, h2, _⟩
  · simp [Value.ownBlock] at hi
  · simp [Value.ownBlock] at hi; omega
theorem keepD {w : World} {a : Addr} {v : Value} (h : w.cell? a = some v) : w.drew.cell? a = some v := h
theorem keepAl {w : World} {a : Addr} {v : Value} (h : w.cell? a = some v) (o : Obj) : (w.alloc o).cell? a = some v := keepC ((Below.refl _ w).alloc (Nat.le_refl _) o) h
theorem only4 (B : Nat) (w : World) (a b c d : Value) : Only B w ((((w.setCell ⟨B, 0, none⟩ a).setCell ⟨B, 1, none⟩ b).setCell ⟨B, 2, none⟩ c).setCell ⟨B, 3, none⟩ d) := ((((Only.refl B w).setCell 0 _).setCell 1 _).setCell 2 _).setCell 3 _
theorem Get_c (w : World) (g b c : Nat) (E : Tab) (laid : Int) (key : ByteArray) (now : Int) (hA : At w g b c E laid) (x : Ent) (ok : Bool) (hx : (get E key now).getD Ent.z = x) (ho : (get E key now).isSome = ok) :
    Calls Tryz.prog 19 #[.pointer (some ⟨g, 0, none⟩), .string key, .int .i64 now] w fun e w' => e = .returned (.tuple #[.agg #[.string x.value, .int .u32 x.flags, .int .i64 x.exp, .int .u64 x.cas], .bool ok]) ∧ Below w.heap.size w w' := by
  subst hx ho
  exact Get_calls w g b c E laid key now hA
theorem append_keep {wc w3 : World} {O : Obj} {base e size n : Nat} {vs : Value} {xs : List Value} (h : wc.ownsRow base e size vs n xs) (hg : (wc.alloc O).grownBy w3 vs.ownBlock) {i : Nat} {o : Obj} (hi : wc.heap[i]? = some o) (hne : i < base ∨ ∃ cs t, o = .cells cs t (0, 0) ∧ t ≠ e) : w3.heap[i]? = some o := by
  refine (hg.block i (by have := blk_lt hi; rw [size_al]; omega) (fun e0 => ?_)).trans ((Below.heap_alloc wc O i (blk_lt hi)).trans hi)
  rcases h.2 with ⟨rfl, _⟩ | ⟨r, cap, cur, rfl, h2, h3, _⟩
  · simp [Value.ownBlock] at e0
  · simp [Value.ownBlock] at e0
    subst e0
    rcases hne with h | ⟨cs, t, rfl, ht⟩
    · omega
    · rw [hi] at h3
      injection h3 with h3
      injection h3 with h4 h5
      exact ht h5
theorem At.keep {w w' : World} {g b c : Nat} {E : Tab} {laid : Int} (h : At w g b c E laid) (hb : w'.heap[b]? = w.heap[b]?) (hg : w'.heap[g]? = w.heap[g]?) : At w' g b c E laid :=
  ⟨h.map.same hb, hg.trans h.cell, h.ne, h.small⟩
theorem heap_some {w : World} {i : Nat} (h : i < w.heap.size) : ∃ o, w.heap[i]? = some o := ⟨_, Array.getElem?_eq_getElem h⟩
theorem ownsRow_blk {w w' : World} {base e size n m cap r : Nat} {xs : List Value} (h : w.ownsRow base e size (.slice (some ⟨r, 0, none⟩) m cap) n xs) (hr : w'.heap[r]? = w.heap[r]?) : w'.ownsRow base e size (.slice (some ⟨r, 0, none⟩) m cap) n xs := by
  refine ⟨h.1, ?_⟩
  rcases h.2 with ⟨h0, _⟩ | ⟨g, cap', cur, h1, h2, h3, h4⟩
  · cases h0
  · have h5 := h1
    injection h1 with h1 _ _
    injection h1 with h1
    injection h1 with h1
    subst h1
    exact .inr ⟨r, cap', cur, h5, h2, hr.trans h3, h4⟩
theorem ownsRow_type {w : World} {base e size n m cap r B t : Nat} {xs : List Value} {cs : Array Value} (h : w.ownsRow base e size (.slice (some ⟨r, 0, none⟩) m cap) n xs) (hB : w.heap[B]? = some (.cells cs t (0, 0))) (ht : t ≠ e) : base ≤ r ∧ r ≠ B := by
  rcases h.2 with ⟨h0, _⟩ | ⟨g, cap', cur, h1, h2, h3, h4⟩
  · cases h0
  · injection h1 with h1 _ _
    injection h1 with h1
    injection h1 with h1
    subst h1
    refine ⟨h2, fun e0 => ?_⟩
    rw [e0, hB] at h3
    injection h3 with h3
    injection h3 with _ h3
    exact ht h3
theorem hitsC_snoc (l : List Hit) (h : Hit) : hitsC (l ++ [h]) = hitsC l ++ h.cells := by simp [hitsC]
theorem ownsRow_mut {w w' : World} {base e size n g b : Nat} {v : Value} {xs : List Value} (h : w.ownsRow base e size v n xs) (m : Mut g b w w') (hg : g < base) (hb : b < base) : w'.ownsRow base e size v n xs :=
  ownsRow_other h fun i hi hb' => m.block i hi (by omega) (by omega)
theorem ownsRow_base {w : World} {base base' e size n : Nat} {v : Value} {xs : List Value} (h : w.ownsRow base e size v n xs) (hb : base' ≤ base) : w.ownsRow base' e size v n xs := by
  refine ⟨h.1, ?_⟩
  rcases h.2 with h0 | ⟨r, cap, cur, h1, h2, h3⟩
  · exact .inl h0
  · exact .inr ⟨r, cap, cur, h1, Nat.le_trans hb h2, h3⟩
structure Rd (w : World) (g b c : Nat) (E : Tab) (laid : Int) (k : Cmd) (now ends : Int) (j : Nat) (wr : World) (hs : List Hit) (E' : Tab) (vs : Value) : Prop where
  at_ : At wr g b (c + j) E' laid
  kept : Mut g b w wr
  row : wr.ownsRow (w.heap.size + 2) 44 4 vs hs.length (hitsC hs)
  blk : wr.heap[w.heap.size + 1]? = some (.cells #[.int .i64 1, vs, .int .u64 0] 38)
  res : wr.heap[w.heap.size]? = some (.cells #[.int .i64 0, .slice none 0 0, .int .u64 0] 38)
  done : readsR k now ends k.keys E = (hs ++ (readsR k now ends (k.keys.drop j) E').1, (readsR k now ends (k.keys.drop j) E').2)
  le : hs.length ≤ j
set_option maxHeartbeats 8000000 in
set_option maxRecDepth 100000 in
theorem reads_calls (w : World) (g b c a : Nat) (E : Tab) (laid : Int) (k : Cmd) (A : Option Addr) (cap : Nat) (now ends : Int) (failed : Bool) (old : Ent) (is : Bool)
    (hA : At w g b c E laid) (hc : c + 1000 < maxLen) (ha : ActAt w a g k A cap now ends failed old is) (hag : a ≠ g) (hab : a ≠ b) (hk : KeysAt w g b A k.keys) (hkl : k.keys.length ≤ 100) (hcap : k.keys.length ≤ cap) :
    Calls Tryz.prog 31 #[.pointer (some ⟨a, 0, none⟩)] w fun e w' => ∃ vs,
      e = .returned (.agg #[.int .i64 1, vs, .int .u64 0]) ∧ w'.ownsRow w.heap.size 44 4 vs (readsR k now ends k.keys E).1.length (hitsC (readsR k now ends k.keys E).1) ∧ At w' g b (c + 100) (readsR k now ends k.keys E).2 laid ∧ Mut g b w w' := by
  have hg := hA.lt
  have hgb := hA.ltb
  have hal : a < w.heap.size := blk_lt ha
  have a2 := fresh_cell ha 2
  simp only [List.getElem?_toArray, List.getElem?_cons_zero, List.getElem?_cons_succ] at a2
  have H0 := Aside0.mk hA
  have HAct := Lib.hid ha
  have HK := Lib.hid hk
  clear hA ha hk
  obtain ⟨i0, hi, hz0, hz1, hz2⟩ : ∃ i : TypeInfo, Tryz.prog.info? 44 = some i ∧ i.zero = some (.agg #[.string ⟨#[]⟩, .int .u32 0, .string ⟨#[]⟩, .int .u64 0]) ∧ i.size = 4 ∧ i.bytes = 48 := ⟨_, rfl, rfl, rfl, rfl⟩
  have HI := Lib.hid (show _ ∧ _ ∧ _ ∧ _ from ⟨hi, hz0, hz1, hz2⟩)
  clear hi hz0 hz1 hz2
  go_enter Tryz.func31, Tryz.ntmps31
  go_wp2_with fail
  go_loopg [15] k.keys.length (fun gg v15 wr => ∃ (j : Nat) (hs : List Hit) (E' : Tab) (vs : Value), j ≤ k.keys.length ∧ k.keys.length - j ≤ gg ∧ v15 = .int .i64 j ∧ Aside0 (Rd w g b c E laid k now ends j wr hs E' vs))
  case atStart =>
    refine ⟨0, [], E, .slice none 0 0, Nat.zero_le _, by omega, rfl, ⟨⟨(H0.out.alloc (.cells #[.int .i64 0, .slice none 0 0, .int .u64 0] 38)).alloc (.cells #[.int .i64 1, .slice none 0 0, .int .u64 0] 38), ((Mut.refl g b w).alloc _).alloc _, World.ownsRow_nil _ _ _ _, ?_, ?_, ?_, Nat.le_refl _⟩⟩⟩
    · rw [← size_al w (.cells #[.int .i64 0, .slice none 0 0, .int .u64 0] 38)]
      exact heap_alloc_new _ _
    · exact (Below.heap_alloc _ _ _ (by simp)).trans (heap_alloc_new w _)
    · rw [List.drop_zero]; rfl
  case round =>
    obtain ⟨j, hs, E', vs, hj, hgg, rfl, HR⟩ := hrel
    by_cases hlt : j < k.keys.length
    · have hji : (j : Int) < (k.keys.length : Int) := by omega
      obtain ⟨key, hkey⟩ : ∃ key, k.keys[j]? = some key := ⟨_, List.getElem?_eq_getElem hlt⟩
      obtain ⟨ad, rfl, had1, had2, hkc⟩ := (HK.out.mut HR.out.kept) j key hkey
      have HKEY := Lib.hid hkey
      have hdrop : k.keys.drop j = key :: k.keys.drop (j + 1) := by
        rw [List.drop_eq_getElem_cons hlt]
        rw [List.getElem?_eq_getElem hlt] at hkey
        injection hkey with hkey
        rw [hkey]
      have HD := Lib.hid hdrop
      have ha1 : ActAt wr a g k (some ad) cap now ends failed old is := HR.out.kept.heap HAct.out hag hab
      have a0 := fresh_cell ha1 0
      have a1 := fresh_cell ha1 1
      have a2 := fresh_cell ha1 2
      have a9 := fresh_cell ha1 9
      simp only [List.getElem?_toArray, List.getElem?_cons_zero, List.getElem?_cons_succ] at a0 a1 a2 a9
      have HA1 := Lib.hid ha1
      obtain ⟨x, hx⟩ : ∃ x, (get E' key now).getD Ent.z = x := ⟨_, rfl⟩
      obtain ⟨ok, ho⟩ : ∃ ok, (get E' key now).isSome = ok := ⟨_, rfl⟩
      have HX := Aside0.mk hx
      have HO := Aside0.mk ho
      have hwr : w.heap.size + 1 < wr.heap.size := blk_lt HR.out.blk
      clear hkey hdrop ha1 hx ho
      go_upto_region 5 with fail
      go_cut [6, 7] (fun v6 v7 wc => ∃ B, v6 = .pointer (some ⟨B, 0, none⟩) ∧ v7 = .bool ok ∧ wc.heap[B]? = some (.cells #[.string x.value, .int .u32 x.flags, .int .i64 x.exp, .int .u64 x.cas] 51) ∧ wr.heap.size ≤ B ∧ Aside0 (Below wr.heap.size wr wc))
      case first =>
        have HF := Lib.hid (show _ ∧ _ from ⟨a0, a9⟩)
        clear a0 a1 a2 a9 hkc
        go_region_held3 (fun w' => w'.cell? ⟨a, 0, none⟩ = some (.pointer (some ⟨g, 0, none⟩)) ∧ w'.cell? ⟨a, 9, none⟩ = some (.int .i64 now))
          ((first | (with_reducible exact ⟨keepD HF.out.1, keepD HF.out.2⟩) | (with_reducible exact HF3.out) | (with_reducible exact ⟨keepA HF.out.1 _, keepA HF.out.2 _⟩) | (with_reducible exact ⟨keepAl HF3.out.1 _, keepAl HF3.out.2 _⟩) | (with_reducible exact ⟨(only4 _ _ _ _ _ _).cell HF3.out.1 hne, (only4 _ _ _ _ _ _).cell HF3.out.2 hne⟩)))
          (first | (go_at_call 19; (first | ((with_reducible refine (Get_c _ g b (c + j) E' laid key now (HR.out.at_.alloc _).drew x ok HX.out HO.out).mono ?_); rintro e w' ⟨rfl, hb⟩; have HF3 := Lib.hid (show _ ∧ _ from ⟨keepC hb (keepA HF.out.1 _), keepC hb (keepA HF.out.2 _)⟩); have hne : a ≠ wr.heap.size := (by have := blk_lt HA1.out; omega); have hq := fresh_block (B := wr.heap.size) hb rfl; have q0 := fresh_cell hq 0; have q1 := fresh_cell hq 1; have q2 := fresh_cell hq 2; have q3 := fresh_cell hq 3; simp only [List.getElem?_toArray, List.getElem?_cons_zero, List.getElem?_cons_succ] at q0 q1 q2 q3; have f0 := fresh_frozen hq 0; have f1 := fresh_frozen hq 1; have f2 := fresh_frozen hq 2; have f3 := fresh_frozen hq 3) | ((with_reducible refine (Get_c _ g b (c + j) E' laid key now HR.out.at_.drew x ok HX.out HO.out).mono ?_); rintro e w' ⟨rfl, hb⟩; have HF3 := Lib.hid (show _ ∧ _ from ⟨keepC hb (keepD HF.out.1), keepC hb (keepD HF.out.2)⟩)))))
        all_goals
          go_wp2_with fail
          go_meet
          case rel =>
            first
              | exact ⟨_, rfl, rfl, (wayA hb rfl).1, (wayA (Z := .cells #[] 0) hb rfl).2.1, ⟨(wayA hb rfl).2.2⟩⟩
              | exact ⟨_, rfl, rfl, (wayB hb rfl).1, Nat.le_refl _, ⟨(wayB hb rfl).2.2⟩⟩
      case rest =>
        obtain ⟨B, rfl, rfl, hB, hBn, HW⟩ := hcut
        have hlt5 : B < wc.heap.size := blk_lt hB
        have hA5 := HR.out.at_.below HW.out
        have hM5 := HR.out.kept.then_below HW.out
        have hrow5 := ownsRow_below HR.out.row HW.out
        have hblk5 := (HW.out.block _ hwr).trans HR.out.blk
        have hres5 := (HW.out.block _ (by omega)).trans HR.out.res
        have ha5 : ActAt wc a g k (some ad) cap now ends failed old is := (HW.out.block a (blk_lt HA1.out)).trans HA1.out
        have hBw : w.heap.size + 1 < B := by omega
        have hBg : B ≠ g := by omega
        have hBb : B ≠ b := by omega
        have hBa : B ≠ a := by have := blk_lt HA1.out; omega
        have hdone := HR.out.done
        have hle := HR.out.le
        rw [HD.out] at hdone
        have HDONE := Lib.hid hdone
        have hsm := HR.out.at_.small
        have HSM := Lib.hid hsm
        clear hdone hsm HR HW HA1 a0 a1 a2 a9 hkc HD
        cases ok with
        | false =>
          have hget : get E' key now = none := by
            have := HO.out
            cases hg' : get E' key now with
            | none => rfl
            | some y => rw [hg'] at this; cases this
          have HG := Lib.hid hget
          have HA5 := Aside0.mk hA5
          have HM5 := Aside0.mk hM5
          have HROW5 := Aside0.mk hrow5
          have HBLK5 := Lib.hid hblk5
          have HRES5 := Lib.hid hres5
          clear hget hA5 hM5 hrow5 hblk5 hres5 ha5 hB
          go_wp2
          go_roundg (k.keys.length - (j + 1))
          case measure => omega
          case rel =>
            refine ⟨j + 1, hs, E', vs, by omega, by omega, by go_num, ⟨⟨HA5.out.more (by omega), HM5.out, HROW5.out, HBLK5.out, HRES5.out, ?_, by omega⟩⟩⟩
            have e := HDONE.out
            simp only [readsR, readOne, HG.out, List.nil_append] at e
            exact e
        | true =>
          have hget : get E' key now = some x := by
            have h1 := HO.out
            have h2 := HX.out
            cases hg' : get E' key now with
            | none => rw [hg'] at h1; cases h1
            | some y => rw [hg'] at h2; exact congrArg some h2
          have HG := Lib.hid hget
          have hxs : x.value.size ≤ 2000 := get_small HSM.out hget
          clear hget
          have b0 := fresh_cell hB 0
          have b1 := fresh_cell hB 1
          have b2 := fresh_cell hB 2
          have b3 := fresh_cell hB 3
          have s0 := fresh_cell hblk5 0
          have s1 := fresh_cell hblk5 1
          have s2 := fresh_cell hblk5 2
          simp only [List.getElem?_toArray, List.getElem?_cons_zero, List.getElem?_cons_succ] at b0 b1 b2 b3 s0 s1 s2
          have HA5 := Aside0.mk hA5
          have HM5 := Aside0.mk hM5
          have HROW5 := Aside0.mk hrow5
          have HBLK5 := Lib.hid hblk5
          have HRES5 := Lib.hid hres5
          have Ha5 := Lib.hid ha5
          have HB5 := Lib.hid hB
          clear hA5 hM5 hrow5 hblk5 hres5 ha5 hB
          go_wp2_with (at_builtin; refine wpList_append_own _ rfl _ _ 36 rfl (w.heap.size + 2) 44 i0 (.agg #[.string ⟨#[]⟩, .int .u32 0, .string ⟨#[]⟩, .int .u64 0]) 4 48 Tryz.underlying36 HI.out.1 HI.out.2.1 HI.out.2.2.1 HI.out.2.2.2 rfl (by decide) vs hs.length (hitsC hs) rfl (HROW5.out.alloc _) ⟨wc.heap.size, 0, none⟩ 1 1 (Hit.cells ⟨key, x.flags, x.value, x.cas⟩) rfl rfl ?qc1 ?qc2 ?qc3 ?qc4 ?qc5 ?_)
          case qc1 => exact World.news_of_block (heap_alloc_new wc _)
          case qc2 => intro u hu; simp only [Hit.cells, List.mem_cons, List.not_mem_nil, or_false] at hu; rcases hu with rfl | rfl | rfl | rfl <;> rfl
          case qc3 => unfold maxLen; omega
          case qc4 => omega
          case qc5 => simp; omega
          intro v' w3 hown3 hgrow hnil
          obtain ⟨r, cap', rfl⟩ : ∃ r cap', v' = .slice (some ⟨r, 0, none⟩) (hs.length + 1) cap' := by
            rcases hown3.2 with ⟨_, h⟩ | ⟨r, cap', cur, h, _⟩
            · exact absurd h (by omega)
            · exact ⟨r, cap', h⟩
          have hkeep : ∀ {i : Nat} {o : Obj}, wc.heap[i]? = some o → (i < w.heap.size + 2 ∨ ∃ cs t, o = .cells cs t (0, 0) ∧ t ≠ 44) → w3.heap[i]? = some o := fun h1 h2 => append_keep HROW5.out hgrow h1 h2
          have hA6 : At w3 g b (c + j) E' laid := HA5.out.keep (by obtain ⟨o, ho⟩ := heap_some HA5.out.ltb; rw [hkeep ho (.inl (by omega)), ho]) (by obtain ⟨o, ho⟩ := heap_some HA5.out.lt; rw [hkeep ho (.inl (by omega)), ho])
          have hM6 : Mut g b w w3 := (HM5.out.alloc _).grown hgrow (fun r hr => .inl (by have := ownBlock_ge HROW5.out r hr; omega))
          have hblk6 := hkeep HBLK5.out (.inl (by omega))
          have hres6 := hkeep HRES5.out (.inl (by omega))
          have ha6 : ActAt w3 a g k (some ad) cap now ends failed old is := hkeep Ha5.out (.inl (by omega))
          have hB6 := hkeep HB5.out (.inr ⟨_, _, rfl, by decide⟩)
          have hB3 : B < w3.heap.size := blk_lt hB6
          have hk6 : w3.cell? (ad.add j) = some (.string key) := by
            obtain ⟨ad', e', _, _, h⟩ := (HK.out.mut hM6) j key HKEY.out
            injection e' with e'
            rw [e']; exact h
          clear hkeep hgrow
          have HA6 := Aside0.mk hA6
          have HM6 := Aside0.mk hM6
          have HROW6 := Aside0.mk hown3
          have HBLK6 := Lib.hid hblk6
          have HRES6 := Lib.hid hres6
          have Ha6 := Lib.hid ha6
          have HB6 := Lib.hid hB6
          clear b0 b1 b2 b3 s0 s1 s2 HA5 HM5 HROW5 HBLK5 HRES5 Ha5 HB5
          have s1 := fresh_cell hblk6 1
          have sf := fresh_frozen hblk6 1
          have a0 := fresh_cell ha6 0
          have a1 := fresh_cell ha6 1
          have a10 := fresh_cell ha6 10
          simp only [List.getElem?_toArray, List.getElem?_cons_zero, List.getElem?_cons_succ] at s1 a0 a1 a10
          clear hA6 hM6 hblk6 hres6 ha6 hB6 hown3 hnil
          by_cases hg3 : k.kind = 3 ∨ k.kind = 4
          · have HG3 := Lib.hid hg3
            have f2 := fresh_frozen HB6.out 2
            have b2 := fresh_cell HB6.out 2
            simp only [List.getElem?_toArray, List.getElem?_cons_zero, List.getElem?_cons_succ] at b2
            have hk5 : ∃ b3 b4, (k.kind == 3) = b3 ∧ (k.kind == 4) = b4 ∧ (b3 = true ∨ b3 = false ∧ b4 = true) := by
              refine ⟨_, _, rfl, rfl, ?_⟩
              rcases hg3 with h | h
              · exact .inl (beq_iff_eq.2 h)
              · rw [h]; exact .inr ⟨rfl, rfl⟩
            obtain ⟨b3, b4, e3, e4, hbb⟩ := hk5
            clear hg3
            have hrB := ownsRow_type HROW6.out HB6.out (by decide)
            have hk5' : (0 : Int) ≤ (j : Int) := by omega
            rcases hbb with rfl | ⟨rfl, rfl⟩
            all_goals
              go_upto_region 10 with fail
              have hW1 := (HA6.out.setCell (p := ⟨w.heap.size + 1, 1, none⟩) (by simp; omega) (by simp; omega) (.slice (some ⟨r, 0, none⟩) (hs.length + 1) cap')).setCell (p := ⟨B, 2, none⟩) (by simpa using hBg) (by simpa using hBb) (.int .i64 ends)
              have hW2 := (HM6.out.setCell (p := ⟨w.heap.size + 1, 1, none⟩) (.inl (by simp)) (.slice (some ⟨r, 0, none⟩) (hs.length + 1) cap')).setCell (p := ⟨B, 2, none⟩) (.inl (by simp; omega)) (.int .i64 ends)
              have hW3 := ownsRow_blk HROW6.out ((Below.heap_setCell (w3.setCell ⟨w.heap.size + 1, 1, none⟩ (.slice (some ⟨r, 0, none⟩) (hs.length + 1) cap')) ⟨B, 2, none⟩ (.int .i64 ends) r hrB.2).trans (Below.heap_setCell w3 ⟨w.heap.size + 1, 1, none⟩ (.slice (some ⟨r, 0, none⟩) (hs.length + 1) cap') r (by have := hrB.1; simp; omega)))
              have hW4 := (Below.heap_setCell (w3.setCell ⟨w.heap.size + 1, 1, none⟩ (.slice (some ⟨r, 0, none⟩) (hs.length + 1) cap')) ⟨B, 2, none⟩ (.int .i64 ends) (w.heap.size + 1) (by simp; omega)).trans (Lib.heap_setCell_same (i := 1) HBLK6.out (.slice (some ⟨r, 0, none⟩) (hs.length + 1) cap'))
              have hW5 := (Below.heap_setCell (w3.setCell ⟨w.heap.size + 1, 1, none⟩ (.slice (some ⟨r, 0, none⟩) (hs.length + 1) cap')) ⟨B, 2, none⟩ (.int .i64 ends) w.heap.size (by simp; omega)).trans ((Below.heap_setCell w3 ⟨w.heap.size + 1, 1, none⟩ (.slice (some ⟨r, 0, none⟩) (hs.length + 1) cap') w.heap.size (by simp)).trans HRES6.out)
              have hW6 := Lib.heap_setCell_same (i := 2) ((Below.heap_setCell w3 ⟨w.heap.size + 1, 1, none⟩ (.slice (some ⟨r, 0, none⟩) (hs.length + 1) cap') B (by simp; omega)).trans HB6.out) (.int .i64 ends)
              have hW7 : ActAt ((w3.setCell ⟨w.heap.size + 1, 1, none⟩ (.slice (some ⟨r, 0, none⟩) (hs.length + 1) cap')).setCell ⟨B, 2, none⟩ (.int .i64 ends)) a g k (some ad) cap now ends failed old is := (Below.heap_setCell (w3.setCell ⟨w.heap.size + 1, 1, none⟩ (.slice (some ⟨r, 0, none⟩) (hs.length + 1) cap')) ⟨B, 2, none⟩ (.int .i64 ends) a (by simpa using hBa.symm)).trans ((Below.heap_setCell w3 ⟨w.heap.size + 1, 1, none⟩ (.slice (some ⟨r, 0, none⟩) (hs.length + 1) cap') a (by simp; omega)).trans Ha6.out)
              generalize (w3.setCell ⟨w.heap.size + 1, 1, none⟩ (.slice (some ⟨r, 0, none⟩) (hs.length + 1) cap')).setCell ⟨B, 2, none⟩ (.int .i64 ends) = V at hW1 hW2 hW3 hW4 hW5 hW6 hW7 ⊢
              have hW6' : V.heap[B]? = some (.cells #[.string x.value, .int .u32 x.flags, .int .i64 ends, .int .u64 x.cas] 51) := hW6
              have hW4' : V.heap[w.heap.size + 1]? = some (.cells #[.int .i64 1, .slice (some ⟨r, 0, none⟩) (hs.length + 1) cap', .int .u64 0] 38) := hW4
              have c0 := fresh_cell hW7 0
              have g0 := hW1.gcell
              have x0 := fresh_cell hW6' 0
              have x1 := fresh_cell hW6' 1
              have x2 := fresh_cell hW6' 2
              have x3 := fresh_cell hW6' 3
              simp only [List.getElem?_toArray, List.getElem?_cons_zero, List.getElem?_cons_succ] at c0 x0 x1 x2 x3
              have HV1 := Aside0.mk hW1
              have HV2 := Aside0.mk hW2
              have HV3 := Aside0.mk hW3
              have HV4 := Lib.hid hW4'
              have HV5 := Lib.hid hW5
              have HVB : B < V.heap.size := blk_lt hW6'
              have HF := Lib.hid (show _ ∧ _ ∧ _ ∧ _ ∧ _ ∧ _ from ⟨c0, g0, x0, x1, x2, x3⟩)
              have hcj : c + j < maxLen := by omega
              clear hW1 hW2 hW3 hW4 hW4' hW5 hW6 hW6' hW7 c0 g0 x0 x1 x2 x3 HA6 HM6 HROW6 HBLK6 HRES6 Ha6 HB6 sf s1 a0 a1 a10 f2 b2 hk6 hB3 hlt5
              go_region_held3 (fun w' => w'.cell? ⟨a, 0, none⟩ = some (.pointer (some ⟨g, 0, none⟩)) ∧ w'.cell? ⟨g, 0, none⟩ = some (.map (some b)) ∧
                  w'.cell? ⟨B, 0, none⟩ = some (.string x.value) ∧ w'.cell? ⟨B, 1, none⟩ = some (.int .u32 x.flags) ∧ w'.cell? ⟨B, 2, none⟩ = some (.int .i64 ends) ∧ w'.cell? ⟨B, 3, none⟩ = some (.int .u64 x.cas))
                ((first | exact HF.out | exact HF3.out | exact HF4.out))
                (first | (go_at_call 27; refine (named_calls key _).mono ?_; rintro e w5 ⟨rfl, hb5⟩; have HA3 := Aside0.mk (HV1.out.drew.below hb5); have HF3 := Lib.hid (show _ ∧ _ ∧ _ ∧ _ ∧ _ ∧ _ from ⟨keepC hb5 HF.out.1, keepC hb5 HF.out.2.1, keepC hb5 HF.out.2.2.1, keepC hb5 HF.out.2.2.2.1, keepC hb5 HF.out.2.2.2.2.1, keepC hb5 HF.out.2.2.2.2.2⟩); obtain ⟨w4, hr4, HA4, HM4⟩ := HA3.out.put hcj (nm key) (nm_len key) ⟨x.value, x.flags, ends, x.cas⟩ hxs; have HF4 := Lib.hid (show _ ∧ _ ∧ _ ∧ _ ∧ _ ∧ _ from ⟨HM4.cell HF3.out.1 hag hab, HA4.gcell, HM4.cell HF3.out.2.2.1 hBg hBb, HM4.cell HF3.out.2.2.2.1 hBg hBb, HM4.cell HF3.out.2.2.2.2.1 hBg hBb, HM4.cell HF3.out.2.2.2.2.2 hBg hBb⟩)))
              have HMV := HV2.out.drew.then_below hb5
              have HMW := HMV.trans HM4
              have hR1 := ownsRow_mut (ownsRow_below HV3.out.drew hb5) HM4 (by omega) (by omega)
              have hR2 := HM4.heap ((hb5.block _ (blk_lt HV4.out)).trans HV4.out) (by omega) (by omega)
              have hR3 := HM4.heap ((hb5.block _ (blk_lt HV5.out)).trans HV5.out) (by omega) (by omega)
              have HR0 := Aside0.mk HA4
              have HR1 := Aside0.mk hR1
              have HR2 := Lib.hid hR2
              have HR3 := Lib.hid hR3
              have HR4 := Aside0.mk HMW
              clear hR1 hR2 hR3 HMV HMW HF HF3 HF4 HA3 HA4 hr4 hb5 HM4
              go_wp2
              go_roundg (k.keys.length - (j + 1))
              case measure => omega
              case rel =>
                refine ⟨j + 1, hs ++ [⟨key, x.flags, x.value, x.cas⟩], _, .slice (some ⟨r, 0, none⟩) (hs.length + 1) cap', by omega, by omega, by go_num, ⟨⟨HR0.out.more (by omega), HR4.out, ?_, HR2.out, HR3.out, ?_, by simp; omega⟩⟩⟩
                · rw [List.length_append, hitsC_snoc]
                  exact HR1.out
                · have e := HDONE.out
                  simp only [readsR, readOne, HG.out] at e
                  rw [if_pos HG3.out] at e
                  rw [e, List.append_assoc]
          · have e3 : (k.kind == 3) = false := beq_eq_false_iff_ne.2 (fun h => hg3 (.inl h))
            have e4 : (k.kind == 4) = false := beq_eq_false_iff_ne.2 (fun h => hg3 (.inr h))
            have HG3 := Lib.hid hg3
            clear hg3
            go_wp2
            go_roundg (k.keys.length - (j + 1))
            case measure => omega
            case rel =>
              refine ⟨j + 1, hs ++ [⟨key, x.flags, x.value, x.cas⟩], E', .slice (some ⟨r, 0, none⟩) (hs.length + 1) cap', by omega, by omega, by go_num, ⟨⟨(HA6.out.setCell (by simp; omega) (by simp; omega) _).more (by omega), HM6.out.setCell (.inl (by simp)) _, ?_, Lib.heap_setCell_same (i := 1) HBLK6.out _, (Below.heap_setCell _ _ _ _ (by simp)).trans HRES6.out, ?_, by simp; omega⟩⟩⟩
              · rw [List.length_append, hitsC_snoc]
                have hr := (ownsRow_type HROW6.out HB6.out (by decide)).1
                exact ownsRow_blk HROW6.out (Below.heap_setCell _ _ _ _ (by simp; omega))
              · have e := HDONE.out
                simp only [readsR, readOne, HG.out] at e
                rw [if_neg HG3.out] at e
                rw [e, List.append_assoc]
    · have hji : ¬ (j : Int) < (k.keys.length : Int) := by omega
      have hjl : j = k.keys.length := by omega
      subst hjl
      have hdone := HR.out.done
      rw [List.drop_length] at hdone
      simp only [readsR, List.append_nil] at hdone
      have HDONE := Lib.hid hdone
      have hblk := HR.out.blk
      have hres := HR.out.res
      have HR' := HR
      have hvs := HR.out.row.2
      clear hdone
      rcases hvs with ⟨rfl, hn⟩ | ⟨r, cap', cur, rfl, hr1, hr2⟩
      all_goals
        have s0 := fresh_cell hblk 0
        have s1 := fresh_cell hblk 1
        have s2 := fresh_cell hblk 2
        have r0 := fresh_cell hres 0
        have r1 := fresh_cell hres 1
        have r2 := fresh_cell hres 2
        have f0 := fresh_frozen hres 0
        have f1 := fresh_frozen hres 1
        have f2 := fresh_frozen hres 2
        simp only [List.getElem?_toArray, List.getElem?_cons_zero, List.getElem?_cons_succ] at s0 s1 s2 r0 r1 r2
        have HRES := Lib.hid hres
        clear hblk hres
        try clear hr2
        go_wp2
        refine bodyPost_ret (results_cell_row rfl _ _ w.heap.size _ _ _ _ rfl (set3 HRES.out) Tryz.underlying38 rfl (by kernel_rfl)) rfl ?_
        rw [HDONE.out]
        refine ⟨_, rfl, ownsRow_base (base := w.heap.size + 2) ?_ (by omega), ?_, ?_⟩
        · refine ownsRow_other HR'.out.row fun i hi hb' => ?_
          exact ((Below.heap_setCell _ _ _ i (by simp; omega)).trans (Below.heap_setCell _ _ _ i (by simp; omega))).trans (Below.heap_setCell _ _ _ i (by simp; omega))
        · exact (((HR'.out.at_.setCell (by simp; omega) (by simp; omega) _).setCell (by simp; omega) (by simp; omega) _).setCell (by simp; omega) (by simp; omega) _).more (by omega)
        · exact ((HR'.out.kept.setCell (.inl (by simp)) _).setCell (.inl (by simp)) _).setCell (.inl (by simp)) _
end Go.Proofs.YtdihoopofhediaaGreatDoor.Mdl
end
section
namespace Go.Proofs.YtdihoopofhediaaGreatDoor.Mdl
open Go.RowKit Go.Proofs.YtdihoopofhediaaGreatDoorW.PrintWords Go.Proofs.YtdihoopofhediaaGreatDoorW.PrintLast Go.Proofs.YtdihoopofhediaaGreatDoorW.PrintMore Go.WideMaps Go.Proofs.YtdihoopofhediaaGreatDoor.XMd
set_option linter.unusedVariables false
set_option linter.unusedSimpArgs false
attribute [local go_sem ↓] Go.wp_at_zero Go.wp_at_succ

theorem At.clear {w : World} {g b c : Nat} {E : Tab} {laid : Int} (h : At w g b c E laid) (ty : TypeId) :
    ∃ w', (Builtin.clear_ #[73] ty #[.map (some b)]).run Tryz.prog w = .ok (.tuple #[]) w' ∧ At w' g b c (fun _ => none) laid ∧ Mut g b w w' := by
  obtain ⟨D, ⟨es, clock, hb, F, hs, rfl⟩, h1, h2⟩ := h.map
  have hother : ∀ i, i ≠ b → (Go.ChangeMaps.setBlock w b (.map #[] clock)).heap[i]? = w.heap[i]? := fun i hi => Go.ChangeMaps.heap_setBlock_other hb _ hi
  refine ⟨Go.ChangeMaps.setBlock w b (.map #[] clock), ?_, ⟨⟨.map [], ⟨#[], clock, Go.ChangeMaps.heap_setBlock_same hb _, ⟨by simp, MapKept.stamped_empty clock, by simp⟩, Nat.zero_le _, rfl⟩, ⟨[], rfl⟩, fun kl _ => ?_⟩, (hother g h.ne).trans h.cell, h.ne, fun n x hx => by cases hx⟩, ⟨rfl, rfl, rfl, by simp [Go.ChangeMaps.setBlock], fun i _ _ hi => hother i hi⟩⟩
  · simp [Builtin.clear_, run_underlying Tryz.underlying73, MapKept.run_getObj_map hb, MapKept.run_setObj_map _ hb, Result.andThen, Go.ChangeMaps.setBlock]
  · cases kl <;> exact ⟨fun _ => rfl, rfl⟩
structure Out where
  code : Int
  hits : List Hit
  n : Int
  err : Int
  E : Tab
  laid : Int
def touchT (E : Tab) (key : ByteArray) (x : Ent) (ends : Int) : Tab := putT E (nm key) (some { x with exp := ends })
def doOne (k : Cmd) (now ends : Int) (failed : Bool) (key : ByteArray) (E : Tab) (laid : Int) : Out :=
  let is := (get E key now).isSome
  let old := (get E key now).getD Ent.z
  if k.kind ≤ 10 then ⟨(storeR k is old ends failed key E laid).1, [], 0, 0, (storeR k is old ends failed key E laid).2.1, (storeR k is old ends failed key E laid).2.2⟩
  else if is = false then ⟨5, [], 0, 0, E, laid⟩
  else if k.kind = 11 then ⟨6, [], 0, 0, dropT E key, laid⟩
  else if k.kind = 14 then ⟨9, [], 0, 0, touchT E key old ends, laid⟩
  else ⟨(countR k old failed key E laid).1, [], (countR k old failed key E laid).2.1, 0, (countR k old failed key E laid).2.2.1, (countR k old failed key E laid).2.2.2⟩
def doR (ck en ee : Int) (k : Cmd) (now : Int) (failed : Bool) (E : Tab) (laid : Int) : Out :=
  if ck ≠ 0 then ⟨0, [], 0, ck, E, laid⟩
  else if ee ≠ 0 then ⟨0, [], 0, ee, E, laid⟩
  else if k.kind = 15 then ⟨10, [], 0, 0, fun _ => none, laid⟩
  else if k.kind ≤ 4 then ⟨1, (readsR k now en k.keys E).1, 0, 0, (readsR k now en k.keys E).2, laid⟩
  else match k.keys with
    | [] => ⟨0, [], 0, 0, E, laid⟩
    | key :: _ => doOne k now en failed key E laid
structure Fine (k : Cmd) : Prop where
  lo : 1 ≤ k.kind
  hi : k.kind ≤ 15
  value : k.value.size ≤ 2000
  keys : k.keys.length ≤ 100
  one : 5 ≤ k.kind → k.kind ≤ 14 → k.keys ≠ []
def OutAt (w : World) (g b c : Nat) (o : Out) (e : Ending) (w' : World) : Prop := ∃ vs, (o.code ≠ 1 → vs = .slice none 0 0) ∧
  e = .returned (.tuple #[.agg #[.int .i64 o.code, vs, .int .u64 o.n], .int .i64 o.err]) ∧ w'.ownsRow w.heap.size 44 4 vs o.hits.length (hitsC o.hits) ∧ At w' g b (c + 100) o.E o.laid ∧ Mut g b w w'
def cmdC (k : Cmd) (A : Option Addr) (cap : Nat) : Array Value := #[.int .i64 k.kind, .slice A k.keys.length cap, .int .u32 k.flags, .int .i64 k.exp, .string k.value, .int .u64 k.cas, .int .u64 k.delta, .bool k.quiet]
structure Ds (w W : World) (g b c : Nat) (E : Tab) (laid : Int) (k : Cmd) (A : Option Addr) (cap : Nat) : Prop where
  at_ : At W g b c E laid
  bel : Below w.heap.size w W
  cmd : W.heap[w.heap.size]? = some (.cells (cmdC k A cap) 35)
  res : W.heap[w.heap.size + 1]? = some (.cells #[.int .i64 0, .slice none 0 0, .int .u64 0] 38)
theorem Ds.below {w W W' : World} {g b c : Nat} {E : Tab} {laid : Int} {k : Cmd} {A : Option Addr} {cap : Nat} (h : Ds w W g b c E laid k A cap) (hb : Below W.heap.size W W') : Ds w W' g b c E laid k A cap :=
  ⟨h.at_.below hb, h.bel.trans (hb.mono h.bel.size), (hb.block _ (blk_lt h.cmd)).trans h.cmd, (hb.block _ (blk_lt h.res)).trans h.res⟩
theorem Ds.cells {w W : World} {g b c : Nat} {E : Tab} {laid : Int} {k : Cmd} {A : Option Addr} {cap : Nat} (h : Ds w W g b c E laid k A cap) :
    W.cell? ⟨w.heap.size, 0, none⟩ = some (.int .i64 k.kind) ∧ W.cell? ⟨w.heap.size, 1, none⟩ = some (.slice A k.keys.length cap) ∧ W.cell? ⟨w.heap.size, 2, none⟩ = some (.int .u32 k.flags) ∧ W.cell? ⟨w.heap.size, 3, none⟩ = some (.int .i64 k.exp) ∧
    W.cell? ⟨w.heap.size, 4, none⟩ = some (.string k.value) ∧ W.cell? ⟨w.heap.size, 5, none⟩ = some (.int .u64 k.cas) ∧ W.cell? ⟨w.heap.size, 6, none⟩ = some (.int .u64 k.delta) ∧ W.cell? ⟨w.heap.size, 7, none⟩ = some (.bool k.quiet) :=
  ⟨fresh_cell h.cmd 0, fresh_cell h.cmd 1, fresh_cell h.cmd 2, fresh_cell h.cmd 3, fresh_cell h.cmd 4, fresh_cell h.cmd 5, fresh_cell h.cmd 6, fresh_cell h.cmd 7⟩
theorem Ds.only {w W W' : World} {g b c : Nat} {E : Tab} {laid : Int} {k : Cmd} {A : Option Addr} {cap a : Nat} (h : Ds w W g b c E laid k A cap) (o : Only a W W') (ha : w.heap.size + 1 < a) (hg : a ≠ g) (hb : a ≠ b) : Ds w W' g b c E laid k A cap :=
  ⟨h.at_.only o hg hb, ⟨o.os.trans h.bel.os, o.tape.trans h.bel.tape, o.output.trans h.bel.output, Nat.le_trans h.bel.size o.size, fun i hi => (o.block i (by omega)).trans (h.bel.block i hi)⟩, (o.block _ (by omega)).trans h.cmd, (o.block _ (by omega)).trans h.res⟩
theorem actCells {W : World} {a g : Nat} {k : Cmd} {A : Option Addr} {cap : Nat} {now ends : Int} {failed : Bool} {old : Ent} {is : Bool} (h : ActAt W a g k A cap now ends failed old is) :
    W.cell? ⟨a, 12, none⟩ = some (.string old.value) ∧ W.cell? ⟨a, 13, none⟩ = some (.int .u32 old.flags) ∧ W.cell? ⟨a, 14, none⟩ = some (.int .i64 old.exp) ∧ W.cell? ⟨a, 15, none⟩ = some (.int .u64 old.cas) ∧ W.cell? ⟨a, 16, none⟩ = some (.bool is) ∧
    W.frozen? ⟨a, 12, none⟩ = false ∧ W.frozen? ⟨a, 13, none⟩ = false ∧ W.frozen? ⟨a, 14, none⟩ = false ∧ W.frozen? ⟨a, 15, none⟩ = false ∧ W.frozen? ⟨a, 16, none⟩ = false :=
  ⟨fresh_cell h 12, fresh_cell h 13, fresh_cell h 14, fresh_cell h 15, fresh_cell h 16, fresh_frozen h 12, fresh_frozen h 13, fresh_frozen h 14, fresh_frozen h 15, fresh_frozen h 16⟩
theorem KeyAt.below {w w' : World} {g b : Nat} {A : Option Addr} {k : Cmd} {key : ByteArray} (h : KeyAt w g b A k key) (hb : Below w.heap.size w w') : KeyAt w' g b A k key := by
  obtain ⟨h1, ad, h2, h3, h4, h5⟩ := h
  exact ⟨h1, ad, h2, keepC hb h3, h4, h5⟩
theorem zres {W : World} {B : Nat} {x y z : Value} (h : W.heap[B]? = some (.cells #[x, y, z] 38)) :
    W.cell? ⟨B, 0, none⟩ = some x ∧ W.cell? ⟨B, 1, none⟩ = some y ∧ W.cell? ⟨B, 2, none⟩ = some z ∧ W.frozen? ⟨B, 0, none⟩ = false ∧ W.frozen? ⟨B, 1, none⟩ = false ∧ W.frozen? ⟨B, 2, none⟩ = false :=
  ⟨fresh_cell h 0, fresh_cell h 1, fresh_cell h 2, fresh_frozen h 0, fresh_frozen h 1, fresh_frozen h 2⟩
theorem Out.plain {w W : World} {g b c : Nat} {E : Tab} {laid code n err : Int} (h : At W g b c E laid) (hm : Mut g b w W) :
    OutAt w g b c ⟨code, [], n, err, E, laid⟩ (.returned (.tuple #[.agg #[.int .i64 code, .slice none 0 0, .int .u64 n], .int .i64 err])) W :=
  ⟨_, fun _ => rfl, rfl, World.ownsRow_nil _ _ _ _, h.more (by omega), hm⟩
set_option maxHeartbeats 8000000 in
set_option maxRecDepth 100000 in
theorem Do_calls (w : World) (g b c : Nat) (E : Tab) (laid : Int) (k : Cmd) (A : Option Addr) (cap : Nat) (now : Int) (failed : Bool) (f : Nat) (ck en ee : Int)
    (hv : Vars w) (hA : At w g b c E laid) (hc : c + 1000 < maxLen) (hC : Kd.string.C w A k.keys.length k.keys) (hK : KeysAt w g b A k.keys) (hcap : k.keys.length ≤ cap) (hd : 0 ≤ k.delta)
    (hck : verb_Check.f f k.kind k.keys k.flags k.exp k.value k.cas k.delta k.quiet = some ck) (hfine : ck = 0 → Fine k) (hen : clock_Ends.f now k.exp = some (en, ee)) (hen0 : 0 ≤ en) (hen1 : en ≤ 4294967295) :
    Calls Tryz.prog 22 #[.pointer (some ⟨g, 0, none⟩), .agg #[.int .i64 k.kind, .slice A k.keys.length cap, .int .u32 k.flags, .int .i64 k.exp, .string k.value, .int .u64 k.cas, .int .u64 k.delta, .bool k.quiet], .int .i64 now, .bool failed] w
      (OutAt w g b c (doR ck en ee k now failed E laid)) := by
  have hg := hA.lt
  have hgb := hA.ltb
  have H0 := Aside0.mk hA
  have HV := Aside0.mk hv
  have HC := Aside0.mk hC
  have HK := Lib.hid hK
  have HCK := Lib.hid hck
  have HF := Lib.hid hfine
  have HEN := Lib.hid hen
  have HD := Lib.hid hd
  clear hA hv hC hK hck hfine hen hd
  go_enter Tryz.func22, Tryz.ntmps22
  go_wp2_with fail
  have hs0 : Ds w ((w.alloc (.cells (cmdC k A cap) 35)).alloc (.cells #[.int .i64 0, .slice none 0 0, .int .u64 0] 38)) g b c E laid k A cap :=
    ⟨(H0.out.alloc _).alloc _, ((Below.refl _ w).alloc (Nat.le_refl _) _).alloc (by simp) _, (Below.heap_alloc _ _ _ (by simp)).trans (heap_alloc_new w _), by
      rw [← size_al w (.cells (cmdC k A cap) 35)]
      exact heap_alloc_new _ _⟩
  refine (verb_Check.calls f k.kind A cap k.keys k.flags k.exp k.value k.cas k.delta k.quiet ck _ (Kd.C_below HC.out hs0.bel) hcap HCK.out).mono ?_
  rintro e w1 ⟨rfl, hb1⟩
  have HS := Aside0.mk (hs0.below hb1)
  clear hs0 hb1
  obtain ⟨r0, r1, r2, f0, f1, f2⟩ := zres HS.out.res
  by_cases hz : ck = 0
  · subst hz
    have HFI := Lib.hid (HF.out rfl)
    obtain ⟨c0, c1, c2, c3, c4, c5, c6, c7⟩ := HS.out.cells
    go_wp2_with fail
    refine (clock_Ends.calls now k.exp en ee _ HEN.out).mono ?_
    rintro e w2 ⟨rfl, hb2⟩
    have HS2 := Aside0.mk (HS.out.below hb2)
    clear hb2 HS c0 c1 c2 c3 c4 c5 c6 c7 r0 r1 r2 f0 f1 f2
    obtain ⟨r0, r1, r2, f0, f1, f2⟩ := zres HS2.out.res
    by_cases hee : ee = 0
    · subst hee
      obtain ⟨c0, c1, c2, c3, c4, c5, c6, c7⟩ := HS2.out.cells
      have hconv : IntKind.i64.wrap en = en := by rw [IntKind.wrap_i64]; omega
      go_upto_region 8 with fail
      have hs3 := HS2.out.below ((Below.refl _ w2).alloc (Nat.le_refl _) (.cells #[.pointer (some ⟨g, 0, none⟩), .int .i64 k.kind, .slice A k.keys.length cap, .int .u32 k.flags, .int .i64 k.exp, .string k.value, .int .u64 k.cas, .int .u64 k.delta, .bool k.quiet, .int .i64 now, .int .i64 en, .bool failed, .string Ent.z.value, .int .u32 Ent.z.flags, .int .i64 Ent.z.exp, .int .u64 Ent.z.cas, .bool false] 94))
      have ha3 : ActAt (w2.alloc (.cells #[.pointer (some ⟨g, 0, none⟩), .int .i64 k.kind, .slice A k.keys.length cap, .int .u32 k.flags, .int .i64 k.exp, .string k.value, .int .u64 k.cas, .int .u64 k.delta, .bool k.quiet, .int .i64 now, .int .i64 en, .bool failed, .string Ent.z.value, .int .u32 Ent.z.flags, .int .i64 Ent.z.exp, .int .u64 Ent.z.cas, .bool false] 94)) w2.heap.size g k A cap now en failed Ent.z false := heap_alloc_new _ _
      have hw2 := HS2.out.bel.size
      have hwr2 := blk_lt HS2.out.res
      obtain ⟨a, hae⟩ : ∃ a, w2.heap.size = a := ⟨_, rfl⟩
      have hag : a ≠ g := by omega
      have hab : a ≠ b := by omega
      have haw : w.heap.size + 1 < a := by omega
      rw [hae] at ha3 ⊢
      change ActAt (w2.alloc (.cells #[.pointer (some ⟨g, 0, none⟩), .int .i64 k.kind, .slice A k.keys.length cap, .int .u32 k.flags, .int .i64 k.exp, .string k.value, .int .u64 k.cas, .int .u64 k.delta, .bool k.quiet, .int .i64 now, .int .i64 en, .bool failed, .string ⟨#[]⟩, .int .u32 0, .int .i64 0, .int .u64 0, .bool false] 94)) a g k A cap now en failed Ent.z false at ha3
      change Ds w (w2.alloc (.cells #[.pointer (some ⟨g, 0, none⟩), .int .i64 k.kind, .slice A k.keys.length cap, .int .u32 k.flags, .int .i64 k.exp, .string k.value, .int .u64 k.cas, .int .u64 k.delta, .bool k.quiet, .int .i64 now, .int .i64 en, .bool failed, .string ⟨#[]⟩, .int .u32 0, .int .i64 0, .int .u64 0, .bool false] 94)) g b c E laid k A cap at hs3
      generalize w2.alloc (.cells #[.pointer (some ⟨g, 0, none⟩), .int .i64 k.kind, .slice A k.keys.length cap, .int .u32 k.flags, .int .i64 k.exp, .string k.value, .int .u64 k.cas, .int .u64 k.delta, .bool k.quiet, .int .i64 now, .int .i64 en, .bool failed, .string ⟨#[]⟩, .int .u32 0, .int .i64 0, .int .u64 0, .bool false] 94) = W at hs3 ha3 ⊢
      have HS := Aside0.mk hs3
      have HAct := Lib.hid ha3
      clear c0 c1 c2 c3 c4 c5 c6 c7 r0 r1 r2 f0 f1 f2 HS2 hs3 ha3 hae hw2 hwr2
      obtain ⟨c0, c1, c2, c3, c4, c5, c6, c7⟩ := HS.out.cells
      have hmut := Mut.of_below (g := g) (b := b) HS.out.bel
      have HM := Aside0.mk hmut
      have HKA := Lib.hid (HK.out.mut hmut)
      clear hmut
      by_cases k15 : k.kind = 15
      · have e15 : (k.kind == 15) = true := beq_iff_eq.2 k15
        have g0 := HS.out.at_.gcell
        obtain ⟨w4, hr4, hA4, hM4⟩ := HS.out.at_.clear 0
        have hres := hM4.heap HS.out.res (by omega) (by omega)
        have HA4 := Aside0.mk hA4
        have HM4 := Aside0.mk (HM.out.trans hM4)
        obtain ⟨r0, r1, r2, f0, f1, f2⟩ := zres hres
        have HRES := Lib.hid hres
        have e : doR 0 en 0 k now failed E laid = ⟨10, [], 0, 0, fun _ => none, laid⟩ := by unfold doR; rw [if_neg (fun h => h rfl), if_neg (fun h => h rfl), if_pos k15]
        have HE := Lib.hid e
        clear hA4 hM4 hres k15 e
        go_wp2
        refine bodyPost_ret (results_cell_tmp_row rfl _ _ (w.heap.size + 1) _ _ _ _ rfl (set3 HRES.out) Tryz.underlying38 rfl (by kernel_rfl)) rfl ?_
        rw [HE.out]
        exact Out.plain (((HA4.out.setCell (by simp; omega) (by simp; omega) _).setCell (by simp; omega) (by simp; omega) _).setCell (by simp; omega) (by simp; omega) _) (((HM4.out.setCell (.inl (by simp)) _).setCell (.inl (by simp)) _).setCell (.inl (by simp)) _)
      · have e15 : (k.kind == 15) = false := beq_eq_false_iff_ne.2 k15
        by_cases k4 : k.kind ≤ 4
        · have e : doR 0 en 0 k now failed E laid = ⟨1, (readsR k now en k.keys E).1, 0, 0, (readsR k now en k.keys E).2, laid⟩ := by unfold doR; rw [if_neg (fun h => h rfl), if_neg (fun h => h rfl), if_neg k15, if_pos k4]
          have HE := Lib.hid e
          clear e k15
          go_wp2_with fail
          refine (reads_calls W g b c a E laid k A cap now en failed Ent.z false HS.out.at_ hc HAct.out hag hab HKA.out HFI.out.keys hcap).mono ?_
          rintro e w4 ⟨vs, rfl, hrow, hA4, hM4⟩
          have hres := hM4.heap HS.out.res (by omega) (by omega)
          have hws : w.heap.size + 1 < W.heap.size := blk_lt HS.out.res
          have HROW := Aside0.mk hrow
          have HA4 := Aside0.mk hA4
          have HM4 := Aside0.mk (HM.out.trans hM4)
          obtain ⟨r0, r1, r2, f0, f1, f2⟩ := zres hres
          have HRES := Lib.hid hres
          have hvs := hrow.2
          clear hrow hA4 hM4 hres c0 c1 c2 c3 c4 c5 c6 c7
          have hfin : ∀ W4, (∀ i, W.heap.size ≤ i → W4.heap[i]? = w4.heap[i]?) → At W4 g b (c + 100) (readsR k now en k.keys E).2 laid → Mut g b w W4 → OutAt w g b c (doR 0 en 0 k now failed E laid) (.returned (.tuple #[.agg #[.int .i64 1, vs, .int .u64 0], .int .i64 0])) W4 := by
            intro W4 h1 h2 h3
            rw [HE.out]
            exact ⟨_, fun h => absurd rfl h, rfl, ownsRow_base (ownsRow_other HROW.out fun i _ hb' => h1 i hb') (by omega), h2, h3⟩
          have HFIN := Aside0.mk hfin
          clear hfin
          rcases hvs with ⟨rfl, hn⟩ | ⟨r, cap', cur, rfl, hr1, hr2⟩
          all_goals
            try clear hr2
            try clear hn
            go_wp2
            refine bodyPost_ret (results_cell_tmp_row rfl _ _ (w.heap.size + 1) _ _ _ _ rfl (set3 HRES.out) Tryz.underlying38 rfl (by kernel_rfl)) rfl ?_
            refine HFIN.out _ (fun i hi => ?_) ?_ ?_
            · exact ((Below.heap_setCell _ _ _ i (by simp; omega)).trans (Below.heap_setCell _ _ _ i (by simp; omega))).trans (Below.heap_setCell _ _ _ i (by simp; omega))
            · exact ((HA4.out.setCell (by simp; omega) (by simp; omega) _).setCell (by simp; omega) (by simp; omega) _).setCell (by simp; omega) (by simp; omega) _
            · exact ((HM4.out.setCell (.inl (by simp)) _).setCell (.inl (by simp)) _).setCell (.inl (by simp)) _
        · have e4 : ¬ k.kind ≤ 4 := k4
          obtain ⟨key, hkeys⟩ : ∃ key, ∃ l, k.keys = key :: l := by
            have h1 := HFI.out.one (by omega) (by have := HFI.out.hi; omega)
            cases hk : k.keys with
            | nil => exact absurd hk h1
            | cons key l => exact ⟨key, l, rfl⟩
          obtain ⟨l, hkeys⟩ := hkeys
          have e : doR 0 en 0 k now failed E laid = doOne k now en failed key E laid := by unfold doR; rw [if_neg (fun h => h rfl), if_neg (fun h => h rfl), if_neg k15, if_neg k4, hkeys]
          have HE := Lib.hid e
          have HKY := Lib.hid (HKA.out.first hkeys)
          clear e k15
          obtain ⟨_, ad, rfl, hkc, had1, had2⟩ := HKY.out
          have hk0n : 0 < k.keys.length := by rw [hkeys]; simp
          have hk0 : (0 : Int) < (k.keys.length : Int) := by omega
          have HKS := Lib.hid hkeys
          have hadl : ad.block < w.heap.size := by
            obtain ⟨ad0, e0, _, _, h0⟩ := HK.out 0 key (by rw [hkeys]; rfl)
            injection e0 with e0
            rw [e0]
            exact World.block_lt_of_cell? w _ h0
          clear hkeys
          obtain ⟨x, hx⟩ : ∃ x, (get E key now).getD Ent.z = x := ⟨_, rfl⟩
          obtain ⟨ok, ho⟩ : ∃ ok, (get E key now).isSome = ok := ⟨_, rfl⟩
          have hxs : x.value.size ≤ 2000 := by
            cases hg' : get E key now with
            | none => rw [hg'] at hx; rw [← hx]; exact Nat.zero_le _
            | some y => rw [hg'] at hx; have h2 : y = x := hx; rw [← h2]; exact get_small HS.out.at_.small hg'
          have HX := Aside0.mk hx
          have HO := Aside0.mk ho
          clear hx ho
          go_wp2_with fail
          refine (Get_c W g b c E laid key now HS.out.at_ x ok HX.out HO.out).mono ?_
          rintro e w4 ⟨rfl, hb4⟩
          have hact4 := (hb4.block a (blk_lt HAct.out)).trans HAct.out
          have hs4 := HS.out.below hb4
          obtain ⟨a12, a13, a14, a15, a16, f12, f13, f14, f15, f16⟩ := actCells hact4
          have HS4 := Aside0.mk hs4
          have HAct4 := Lib.hid hact4
          clear hb4 hact4 hs4 HS HAct HM HKA HKY c0 c1 c2 c3 c4 c5 c6 c7
          go_upto_region 14 with fail
          have o : Only a w4 (((((w4.setCell ⟨a, 12, none⟩ (.string x.value)).setCell ⟨a, 13, none⟩ (.int .u32 x.flags)).setCell ⟨a, 14, none⟩ (.int .i64 x.exp)).setCell ⟨a, 15, none⟩ (.int .u64 x.cas)).setCell ⟨a, 16, none⟩ (.bool ok)) := (((((Only.refl a w4).setCell 12 _).setCell 13 _).setCell 14 _).setCell 15 _).setCell 16 _
          have hact5 : ActAt (((((w4.setCell ⟨a, 12, none⟩ (.string x.value)).setCell ⟨a, 13, none⟩ (.int .u32 x.flags)).setCell ⟨a, 14, none⟩ (.int .i64 x.exp)).setCell ⟨a, 15, none⟩ (.int .u64 x.cas)).setCell ⟨a, 16, none⟩ (.bool ok)) a g k (some ad) cap now en failed x ok :=
            Lib.heap_setCell_same (i := 16) (Lib.heap_setCell_same (i := 15) (Lib.heap_setCell_same (i := 14) (Lib.heap_setCell_same (i := 13) (Lib.heap_setCell_same (i := 12) HAct4.out _) _) _) _) _
          generalize ((((w4.setCell ⟨a, 12, none⟩ (.string x.value)).setCell ⟨a, 13, none⟩ (.int .u32 x.flags)).setCell ⟨a, 14, none⟩ (.int .i64 x.exp)).setCell ⟨a, 15, none⟩ (.int .u64 x.cas)).setCell ⟨a, 16, none⟩ (.bool ok) = V at o hact5 ⊢
          have hs5 := HS4.out.only o haw hag hab
          have HS := Aside0.mk hs5
          have HAct := Lib.hid hact5
          have hmut := Mut.of_below (g := g) (b := b) hs5.bel
          have HM := Aside0.mk hmut
          have hKA5 := HK.out.mut hmut
          have HKY := Lib.hid (hKA5.first HKS.out)
          clear o hact5 hs5 hmut hKA5 HS4 HAct4 a12 a13 a14 a15 a16 f12 f13 f14 f15 f16 HKS
          obtain ⟨c0, c1, c2, c3, c4, c5, c6, c7⟩ := HS.out.cells
          have hfin : ∀ (o : Out) (w5 W5 : World), doOne k now en failed key E laid = o → At w5 g b (c + 1) o.E o.laid → Mut g b w w5 → o.hits = [] → Only (w.heap.size + 1) w5 W5 →
              OutAt w g b c (doR 0 en 0 k now failed E laid) (.returned (.tuple #[.agg #[.int .i64 o.code, .slice none 0 0, .int .u64 o.n], .int .i64 o.err])) W5 := by
            intro o w5 W5 h0 h1 h2 h3 h4
            rw [HE.out, h0]
            refine ⟨_, fun _ => rfl, rfl, ?_, (h1.only h4 (by omega) (by omega)).more (by omega), h2.only h4 (by omega)⟩
            rw [h3]
            exact World.ownsRow_nil _ _ _ _
          have HFIN := Aside0.mk hfin
          clear hfin HE
          by_cases k10 : k.kind ≤ 10
          · have hst : verb_Stores.f k.kind = some true := by unfold verb_Stores.f; rw [if_pos (by omega), decide_eq_true (by omega)]
            have HST := Lib.hid hst
            have hone : doOne k now en failed key E laid = ⟨(storeR k ok x en failed key E laid).1, [], 0, 0, (storeR k ok x en failed key E laid).2.1, (storeR k ok x en failed key E laid).2.2⟩ := by
              unfold doOne
              simp only [HX.out, HO.out]
              rw [if_pos k10]
            have HONE := Lib.hid hone
            clear hst hone
            go_wp2_with fail
            refine (verb_Stores.calls k.kind true _ HST.out).mono ?_
            rintro e w5 ⟨rfl, hb5⟩
            have HS5 := Aside0.mk (HS.out.below hb5)
            have hact6 : ActAt w5 a g k (some ad) cap now en failed x ok := (hb5.block a (blk_lt HAct.out)).trans HAct.out
            have HAct5 := Lib.hid hact6
            have HKY5 := Lib.hid (HKY.out.below hb5)
            have HM5 := Aside0.mk (HM.out.trans (Mut.of_below (g := g) (b := b) hb5))
            clear hb5 hact6 HKY c0 c1 c2 c3 c4 c5 c6 c7
            go_wp2_with fail
            refine (store_calls w5 g b c a E laid k (some ad) cap now en failed x ok key HS5.out.at_ (by omega) HAct5.out hag hab HKY5.out ⟨by omega, k10⟩ HFI.out.value hxs).mono ?_
            rintro e w6 ⟨rfl, hA6, hM6⟩
            have hres := hM6.heap HS5.out.res (by omega) (by omega)
            have HA6 := Aside0.mk hA6
            have HM6 := Aside0.mk (HM5.out.trans hM6)
            obtain ⟨r0, r1, r2, f0, f1, f2⟩ := zres hres
            have HRES := Lib.hid hres
            clear hA6 hM6 hres
            generalize storeR k ok x en failed key E laid = S at *
            obtain ⟨S1, S2, S3⟩ := S
            go_wp2
            refine bodyPost_ret (results_cell_tmp_row rfl _ _ (w.heap.size + 1) _ _ _ _ rfl (set3 HRES.out) Tryz.underlying38 rfl (by kernel_rfl)) rfl ?_
            exact HFIN.out ⟨S1, [], 0, 0, S2, S3⟩ w6 _ HONE.out HA6.out HM6.out rfl ((((Only.refl _ w6).setCell 0 _).setCell 1 _).setCell 2 _)
          · have hst : verb_Stores.f k.kind = some false := by unfold verb_Stores.f; rw [if_pos (by omega), decide_eq_false (by omega)]
            have HST := Lib.hid hst
            clear hst
            go_wp2_with fail
            refine (verb_Stores.calls k.kind false _ HST.out).mono ?_
            rintro e w5 ⟨rfl, hb5⟩
            have HS5 := Aside0.mk (HS.out.below hb5)
            have hact6 : ActAt w5 a g k (some ad) cap now en failed x ok := (hb5.block a (blk_lt HAct.out)).trans HAct.out
            have HAct5 := Lib.hid hact6
            have HKY5 := Lib.hid (HKY.out.below hb5)
            have HM5 := Aside0.mk (HM.out.trans (Mut.of_below (g := g) (b := b) hb5))
            clear hb5 HKY c0 c1 c2 c3 c4 c5 c6 c7
            obtain ⟨_, ad', hade, hkc, _, _⟩ := HKY5.out
            injection hade with hade
            subst hade
            obtain ⟨a12, a13, a14, a15, a16, f12, f13, f14, f15, f16⟩ := actCells hact6
            have a10 := fresh_cell hact6 10
            simp only [List.getElem?_toArray, List.getElem?_cons_zero, List.getElem?_cons_succ] at a10
            clear hact6
            obtain ⟨r0, r1, r2, rf0, rf1, rf2⟩ := zres HS5.out.res
            obtain ⟨c0, c1, c2, c3, c4, c5, c6, c7⟩ := HS5.out.cells
            have hres5 := HS5.out.res
            have HRES5 := Lib.hid hres5
            clear hres5
            cases ok with
            | false =>
              have hone : doOne k now en failed key E laid = ⟨5, [], 0, 0, E, laid⟩ := by
                unfold doOne
                simp only [HX.out, HO.out]
                rw [if_neg (show ¬ k.kind ≤ 10 by omega), if_pos trivial]
              have HONE := Lib.hid hone
              clear hone
              go_wp2
              refine bodyPost_ret (results_cell_tmp_row rfl _ _ (w.heap.size + 1) _ _ _ _ rfl (set3 HRES5.out) Tryz.underlying38 rfl (by kernel_rfl)) rfl ?_
              exact HFIN.out ⟨5, [], 0, 0, E, laid⟩ w5 _ HONE.out (HS5.out.at_.more (by omega)) HM5.out rfl ((((Only.refl _ w5).setCell 0 _).setCell 1 _).setCell 2 _)
            | true =>
              by_cases k11 : k.kind = 11
              · have e11 : (k.kind == 11) = true := beq_iff_eq.2 k11
                have hone : doOne k now en failed key E laid = ⟨6, [], 0, 0, dropT E key, laid⟩ := by
                  unfold doOne
                  simp only [HX.out, HO.out]
                  rw [if_neg (show ¬ k.kind ≤ 10 by omega), if_neg (by decide), if_pos k11]
                have HONE := Lib.hid hone
                clear hone k11
                go_wp2_with fail
                refine (Drop_calls w5 g b c E laid key HS5.out.at_).mono ?_
                rintro e w6 ⟨rfl, hA6, hM6⟩
                have hres := hM6.heap HRES5.out (by omega) (by omega)
                have HA6 := Aside0.mk hA6
                have HM6 := Aside0.mk (HM5.out.trans hM6)
                clear r0 r1 r2 rf0 rf1 rf2
                obtain ⟨r0, r1, r2, rf0, rf1, rf2⟩ := zres hres
                have HRES := Lib.hid hres
                clear hA6 hM6 hres
                go_wp2
                refine bodyPost_ret (results_cell_tmp_row rfl _ _ (w.heap.size + 1) _ _ _ _ rfl (set3 HRES.out) Tryz.underlying38 rfl (by kernel_rfl)) rfl ?_
                exact HFIN.out ⟨6, [], 0, 0, dropT E key, laid⟩ w6 _ HONE.out (HA6.out.more (by omega)) HM6.out rfl ((((Only.refl _ w6).setCell 0 _).setCell 1 _).setCell 2 _)
              · have e11 : (k.kind == 11) = false := beq_eq_false_iff_ne.2 k11
                by_cases k14 : k.kind = 14
                · have e14 : (k.kind == 14) = true := beq_iff_eq.2 k14
                  have hone : doOne k now en failed key E laid = ⟨9, [], 0, 0, touchT E key x en, laid⟩ := by
                    unfold doOne
                    simp only [HX.out, HO.out]
                    rw [if_neg (show ¬ k.kind ≤ 10 by omega), if_neg (by decide), if_neg k11, if_pos k14]
                  have HONE := Lib.hid hone
                  clear hone k11 k14
                  go_upto_region 24 with fail
                  have o : Only a w5 (w5.setCell ⟨a, 14, none⟩ (.int .i64 en)) := (Only.refl a w5).setCell 14 _
                  have hact7 : ActAt (w5.setCell ⟨a, 14, none⟩ (.int .i64 en)) a g k (some ad) cap now en failed { x with exp := en } true := Lib.heap_setCell_same (i := 14) HAct5.out _
                  generalize w5.setCell ⟨a, 14, none⟩ (.int .i64 en) = V6 at o hact7 ⊢
                  have hs6 := HS5.out.only o haw hag hab
                  have hM6 := HM5.out.only o (by omega)
                  have hkc6 : V6.cell? ad = some (.string key) := o.cell hkc (by omega)
                  have HS6 := Aside0.mk hs6
                  have HM6 := Aside0.mk hM6
                  clear a12 a13 a14 a15 a16 f12 f13 f14 f15 f16 a10 hkc hs6 hM6 o HAct5 c0 c1 c2 c3 c4 c5 c6 c7 r0 r1 r2 rf0 rf1 rf2
                  obtain ⟨a12, a13, a14, a15, a16, f12, f13, f14, f15, f16⟩ := actCells hact7
                  obtain ⟨c0, c1, c2, c3, c4, c5, c6, c7⟩ := HS6.out.cells
                  have g0 := HS6.out.at_.gcell
                  have HF := Lib.hid (show _ ∧ _ ∧ _ ∧ _ ∧ _ ∧ _ ∧ _ from ⟨g0, c1, hkc6, a12, a13, a14, a15⟩)
                  have hNg : w.heap.size ≠ g := by omega
                  have hNb : w.heap.size ≠ b := by omega
                  clear a12 a13 a14 a15 a16 f12 f13 f14 f15 f16 c0 c1 c2 c3 c4 c5 c6 c7 g0 hkc6 hact7
                  go_region_held3 (fun w' => w'.cell? ⟨g, 0, none⟩ = some (.map (some b)) ∧ w'.cell? ⟨w.heap.size, 1, none⟩ = some (.slice (some ad) k.keys.length cap) ∧ w'.cell? ad = some (.string key) ∧
                      w'.cell? ⟨a, 12, none⟩ = some (.string x.value) ∧ w'.cell? ⟨a, 13, none⟩ = some (.int .u32 x.flags) ∧ w'.cell? ⟨a, 14, none⟩ = some (.int .i64 en) ∧ w'.cell? ⟨a, 15, none⟩ = some (.int .u64 x.cas))
                    ((first | exact HF.out | exact HF3.out | exact HF4.out))
                    (first | (go_at_call 27; refine (named_calls key _).mono ?_; rintro e w3 ⟨rfl, hb3⟩; have HA3 := Aside0.mk (HS6.out.at_.drew.below hb3); have HF3 := Lib.hid (show _ ∧ _ ∧ _ ∧ _ ∧ _ ∧ _ ∧ _ from ⟨keepC hb3 HF.out.1, keepC hb3 HF.out.2.1, keepC hb3 HF.out.2.2.1, keepC hb3 HF.out.2.2.2.1, keepC hb3 HF.out.2.2.2.2.1, keepC hb3 HF.out.2.2.2.2.2.1, keepC hb3 HF.out.2.2.2.2.2.2⟩); obtain ⟨w4, hr4, HA4, HM4⟩ := HA3.out.put (by omega) (nm key) (nm_len key) ⟨x.value, x.flags, en, x.cas⟩ hxs; have HF4 := Lib.hid (show _ ∧ _ ∧ _ ∧ _ ∧ _ ∧ _ ∧ _ from ⟨HA4.gcell, HM4.cell HF3.out.2.1 hNg hNb, HM4.cell HF3.out.2.2.1 had1 had2, HM4.cell HF3.out.2.2.2.1 hag hab, HM4.cell HF3.out.2.2.2.2.1 hag hab, HM4.cell HF3.out.2.2.2.2.2.1 hag hab, HM4.cell HF3.out.2.2.2.2.2.2 hag hab⟩)))
                  have hres := HM4.heap ((hb3.block _ (blk_lt HS6.out.res)).trans HS6.out.res) (by omega) (by omega)
                  have HA6 := Aside0.mk HA4
                  have HM7 := Aside0.mk ((HM6.out.drew.then_below hb3).trans HM4)
                  clear HF HF3 HF4 HA3 hr4
                  obtain ⟨r0, r1, r2, rf0, rf1, rf2⟩ := zres hres
                  have HRES := Lib.hid hres
                  clear hres HA4 HM4 hb3
                  go_wp2
                  refine bodyPost_ret (results_cell_tmp_row rfl _ _ (w.heap.size + 1) _ _ _ _ rfl (set3 HRES.out) Tryz.underlying38 rfl (by kernel_rfl)) rfl ?_
                  exact HFIN.out ⟨9, [], 0, 0, touchT E key x en, laid⟩ _ _ HONE.out HA6.out HM7.out rfl ((((Only.refl _ _).setCell 0 _).setCell 1 _).setCell 2 _)
                · have e14 : (k.kind == 14) = false := beq_eq_false_iff_ne.2 k14
                  have hone : doOne k now en failed key E laid = ⟨(countR k x failed key E laid).1, [], (countR k x failed key E laid).2.1, 0, (countR k x failed key E laid).2.2.1, (countR k x failed key E laid).2.2.2⟩ := by
                    unfold doOne
                    simp only [HX.out, HO.out]
                    rw [if_neg (show ¬ k.kind ≤ 10 by omega), if_neg (by decide), if_neg k11, if_neg k14]
                  have HONE := Lib.hid hone
                  have hk12 : k.kind = 12 ∨ k.kind = 13 := by
                    have h15 : k.kind ≠ 15 := beq_eq_false_iff_ne.1 e15
                    have := HFI.out.hi
                    omega
                  have HK12 := Lib.hid hk12
                  clear hone k11 k14 hk12
                  go_wp2_with fail
                  refine (count_calls w5 g b c a E laid k (some ad) cap now en failed x true key (HV.out.below HS5.out.bel) HS5.out.at_ (by omega) HAct5.out hag hab HKY5.out HK12.out HD.out hxs).mono ?_
                  rintro e w6 ⟨rfl, hA6, hM6⟩
                  have hres := hM6.heap HRES5.out (by omega) (by omega)
                  have HA6 := Aside0.mk hA6
                  have HM6 := Aside0.mk (HM5.out.trans hM6)
                  clear r0 r1 r2 rf0 rf1 rf2
                  obtain ⟨r0, r1, r2, rf0, rf1, rf2⟩ := zres hres
                  have HRES := Lib.hid hres
                  clear hA6 hM6 hres
                  generalize countR k x failed key E laid = S at *
                  obtain ⟨S1, S2, S3, S4⟩ := S
                  go_wp2
                  refine bodyPost_ret (results_cell_tmp_row rfl _ _ (w.heap.size + 1) _ _ _ _ rfl (set3 HRES.out) Tryz.underlying38 rfl (by kernel_rfl)) rfl ?_
                  exact HFIN.out ⟨S1, [], S2, 0, S3, S4⟩ w6 _ HONE.out HA6.out HM6.out rfl ((((Only.refl _ w6).setCell 0 _).setCell 1 _).setCell 2 _)
    · have hz2 : (ee != 0) = true := bne_iff_ne.2 hee
      go_wp2
      refine bodyPost_ret (results_cell_tmp_row rfl _ _ (w.heap.size + 1) _ _ _ _ rfl (set3 HS2.out.res) Tryz.underlying38 rfl (by kernel_rfl)) rfl ?_
      have e : doR 0 en ee k now failed E laid = ⟨0, [], 0, ee, E, laid⟩ := by unfold doR; rw [if_neg (fun h => h rfl), if_pos hee]
      rw [e]
      exact Out.plain (((HS2.out.at_.setCell (by simp; omega) (by simp; omega) _).setCell (by simp; omega) (by simp; omega) _).setCell (by simp; omega) (by simp; omega) _) ((((Mut.of_below HS2.out.bel).setCell (.inl (by simp)) _).setCell (.inl (by simp)) _).setCell (.inl (by simp)) _)
  · have hz1 : (ck != 0) = true := bne_iff_ne.2 hz
    go_wp2
    refine bodyPost_ret (results_cell_tmp_row rfl _ _ (w.heap.size + 1) _ _ _ _ rfl (set3 HS.out.res) Tryz.underlying38 rfl (by kernel_rfl)) rfl ?_
    have e : doR ck en ee k now failed E laid = ⟨0, [], 0, ck, E, laid⟩ := by unfold doR; rw [if_pos hz]
    rw [e]
    exact Out.plain (((HS.out.at_.setCell (by simp; omega) (by simp; omega) _).setCell (by simp; omega) (by simp; omega) _).setCell (by simp; omega) (by simp; omega) _) ((((Mut.of_below HS.out.bel).setCell (.inl (by simp)) _).setCell (.inl (by simp)) _).setCell (.inl (by simp)) _)
end Go.Proofs.YtdihoopofhediaaGreatDoor.Mdl
end
section
namespace Go.Proofs.YtdihoopofhediaaGreatDoor.Mdl
open Go.RowKit Go.Proofs.YtdihoopofhediaaGreatDoorW.PrintWords Go.Proofs.YtdihoopofhediaaGreatDoorW.PrintLast Go.Proofs.YtdihoopofhediaaGreatDoorW.PrintMore Go.Proofs.YtdihoopofhediaaGreatDoor.XMd
set_option linter.unusedVariables false
set_option linter.unusedSimpArgs false
def sameC (kind flags exp : Int) (value : List UInt8) (cas delta : Int) (quiet : Bool) : Bool :=
  (decide (5 ≤ kind ∧ kind ≤ 10) || decide (value = [])) && (decide (kind = 5 ∨ kind = 6 ∨ kind = 7 ∨ kind = 10) || decide (flags = 0)) &&
  (decide (kind = 3 ∨ kind = 4 ∨ kind = 14 ∨ kind = 5 ∨ kind = 6 ∨ kind = 7 ∨ kind = 10) || decide (exp = 0)) && (decide (kind = 10) || decide (cas = 0)) &&
  (decide (kind = 12 ∨ kind = 13) || decide (delta = 0)) && (decide (5 ≤ kind) || decide (quiet = false))
def keysC (kind : Int) (n : Nat) : Bool := if kind ≤ 4 then decide (1 ≤ n ∧ n ≤ 8) else if kind = 15 then decide (n = 0) else decide (n = 1)
def chk (kind : Int) (keys : List ByteArray) (flags exp : Int) (value : ByteArray) (cas delta : Int) (quiet : Bool) : Int :=
  if ¬ (1 ≤ kind ∧ kind ≤ 15) then 70
  else if sameC kind flags exp value.toList cas delta quiet = false ∨ keysC kind keys.length = false ∨ keys.any (fun s => !(fnv_Key.is s)) = true then 6
  else if 2000 < value.size then 7 else 0
theorem keys_is (kind : Int) (h : 1 ≤ kind ∧ kind ≤ 15) (n : Nat) : verb_keys.f kind (n : Int) = some (keysC kind n) := by
  unfold verb_keys.f verb_reads.f keysC
  rw [if_pos (show kind ≥ 1 from h.1)]
  simp only [Option.bind_some]
  by_cases h4 : kind ≤ 4
  · rw [decide_eq_true h4, if_pos rfl, if_pos h4]
    by_cases h1 : 1 ≤ n
    · rw [if_pos (by omega)]
      congr 1
      by_cases h8 : n ≤ 8
      · rw [decide_eq_true (by omega), decide_eq_true (by omega)]
      · rw [decide_eq_false (by omega), decide_eq_false (by omega)]
    · rw [if_neg (by omega), decide_eq_false (by omega)]
  · rw [decide_eq_false h4, if_neg Bool.false_ne_true, if_neg h4]
    by_cases h15 : kind = 15
    · rw [if_pos h15, if_pos h15]
      by_cases h0 : n = 0
      · rw [decide_eq_true h0, h0]; rfl
      · rw [decide_eq_false h0]; exact congrArg some (beq_eq_false_iff_ne.2 (by omega))
    · rw [if_neg h15, if_neg h15]
      by_cases h0 : n = 1
      · rw [decide_eq_true h0, h0]; rfl
      · rw [decide_eq_false h0]; exact congrArg some (beq_eq_false_iff_ne.2 (by omega))
theorem keysC_le {kind : Int} {n : Nat} (h : keysC kind n = true) : n ≤ 8 := by
  unfold keysC at h
  split at h
  · have := of_decide_eq_true h; omega
  · split at h <;> (have := of_decide_eq_true h; omega)
theorem j9_is (b : Bool) (kind : Int) (keys : List ByteArray) (flags exp : Int) (value : ByteArray) (cas delta : Int) (quiet : Bool) :
    verb_Check.j9 1 b kind keys flags exp value cas delta quiet = some (if b = true then 6 else if 2000 < value.size then 7 else 0) := by
  simp only [verb_Check.j9]
  cases b
  · rw [if_neg Bool.false_ne_true, if_neg Bool.false_ne_true]
    by_cases h : 2000 < value.size
    · rw [if_pos (by omega), if_pos h]
    · rw [if_neg (by omega), if_neg h]
  · rfl
theorem j8_is (kind : Int) (s : Bool) (h : 1 ≤ kind ∧ kind ≤ 15) (keys : List ByteArray) (flags exp : Int) (value : ByteArray) (cas delta : Int) (quiet : Bool) :
    verb_Check.j8 2 kind s kind keys flags exp value cas delta quiet = some (if s = false ∨ keysC kind keys.length = false ∨ keys.any (fun s => !(fnv_Key.is s)) = true then 6 else if 2000 < value.size then 7 else 0) := by
  simp only [verb_Check.j8]
  cases s
  · rw [if_neg Bool.false_ne_true, j9_is]; simp
  · rw [if_pos rfl, keys_is kind h]
    simp only [Option.bind_some]
    cases hk : keysC kind keys.length
    · rw [if_neg Bool.false_ne_true, j9_is]; simp
    · rw [if_pos rfl, slices_ContainsFunc_string_string.f, if_pos ⟨rfl, by have := keysC_le hk; omega⟩]
      simp only [Option.bind_some]
      rw [j9_is]
      cases keys.any (fun s => !(fnv_Key.is s)) <;> simp
theorem nil_is : (⟨#[]⟩ : ByteArray).toList = [] := by rw [ByteArray.toList_eq]
set_option maxHeartbeats 4000000 in
theorem chk_is (kind : Int) (keys : List ByteArray) (flags exp : Int) (value : ByteArray) (cas delta : Int) (quiet : Bool) :
    verb_Check.f 10 kind keys flags exp value cas delta quiet = some (chk kind keys flags exp value cas delta quiet) := by
  by_cases h : 1 ≤ kind ∧ kind ≤ 15
  · have e : chk kind keys flags exp value cas delta quiet = (if sameC kind flags exp value.toList cas delta quiet = false ∨ keysC kind keys.length = false ∨ keys.any (fun s => !(fnv_Key.is s)) = true then 6 else if 2000 < value.size then 7 else 0) := by
      unfold chk
      rw [if_neg (fun hn => hn h)]
    rw [e, ← j8_is kind (sameC kind flags exp value.toList cas delta quiet) h keys flags exp value cas delta quiet]
    have hk : kind = 1 ∨ kind = 2 ∨ kind = 3 ∨ kind = 4 ∨ kind = 5 ∨ kind = 6 ∨ kind = 7 ∨ kind = 8 ∨ kind = 9 ∨ kind = 10 ∨ kind = 11 ∨ kind = 12 ∨ kind = 13 ∨ kind = 14 ∨ kind = 15 := by omega
    have c0 : ∀ x : Int, (0 = x) = (x = 0) := fun x => propext eq_comm
    have c1 : ∀ x : List UInt8, ([] = x) = (x = []) := fun x => propext eq_comm
    clear h e
    rcases hk with rfl | rfl | rfl | rfl | rfl | rfl | rfl | rfl | rfl | rfl | rfl | rfl | rfl | rfl | rfl
    all_goals
      simp only [verb_Check.f, verb_kind.f, verb_Stores.f, verb_Check.j0, verb_Check.j1, verb_Check.j2, verb_Check.j3, verb_Check.j4, verb_Check.j5, verb_Check.j6, verb_Check.j7, verb_ends.f, verb_reads.f, nil_is, sameC]
      simp (config := { decide := true }) only [if_true, if_false, ite_true, ite_false, Option.bind_some, Bool.not_true, Bool.not_false, Bool.true_or, Bool.false_or, Bool.true_and, decide_true, decide_false]
      simp only [c0, c1]
      generalize verb_Check.j8 2 _ = F
      by_cases h2 : flags = 0 <;> by_cases h3 : exp = 0 <;> by_cases h4 : cas = 0 <;> by_cases h5 : delta = 0 <;> by_cases h6 : value.toList = [] <;> cases quiet <;> simp only [h2, h3, h4, h5, h6, decide_true, decide_false, if_true, if_false, Bool.and_true, Bool.true_and, Bool.and_false, Bool.false_and, ite_self, reduceCtorEq, Bool.true_eq_false, Bool.false_eq_true] <;> rfl
  · have e : verb_kind.f kind = some false := by
      unfold verb_kind.f
      split
      · rw [decide_eq_false (by omega)]
      · rfl
    unfold verb_Check.f chk
    rw [e, if_pos h]
    rfl
end Go.Proofs.YtdihoopofhediaaGreatDoor.Mdl
end
section
namespace Go.Proofs.YtdihoopofhediaaGreatDoor.Mdl
open Go.RowKit Go.Proofs.YtdihoopofhediaaGreatDoorW.PrintWords Go.Proofs.YtdihoopofhediaaGreatDoorW.PrintLast Go.Proofs.YtdihoopofhediaaGreatDoorW.PrintMore Go.WideMaps Go.Proofs.YtdihoopofhediaaGreatDoor.XMd
set_option linter.unusedVariables false
set_option linter.unusedSimpArgs false
attribute [local go_sem ↓] Go.wp_at_zero Go.wp_at_succ

def endsE (now : Int) : Int := if 1 ≤ now ∧ now ≤ 2147483647 then 0 else 1
def endsV (now exp : Int) : Int :=
  if ¬ (1 ≤ now ∧ now ≤ 2147483647) then 0 else if exp < 0 then 1 else if 0 < exp ∧ exp ≤ 2592000 then (mn (wrap64 (exp + now)) 4294967295) % 4294967296 else (mn exp 4294967295) % 4294967296
theorem ends_is (now exp : Int) : clock_Ends.f now exp = some (endsV now exp, endsE now) := by
  unfold clock_Ends.f clock_second.f endsV endsE
  by_cases h1 : 1 ≤ now
  · by_cases h2 : now ≤ 2147483647
    · by_cases h3 : exp < 0
      · simp [h1, h2, h3]
      · by_cases h4 : 0 < exp
        · by_cases h5 : exp ≤ 2592000
          · simp [h1, h2, h3, h4, h5]
          · simp [h1, h2, h3, h4, h5]
        · simp [h1, h2, h3, h4]
    · simp [h1, h2]
  · simp [h1]
theorem endsV_lo (now exp : Int) : 0 ≤ endsV now exp ∧ endsV now exp ≤ 4294967295 := by
  unfold endsV
  split
  · omega
  · split
    · omega
    · split
      · have := Int.emod_nonneg (mn (wrap64 (exp + now)) 4294967295) (show (4294967296 : Int) ≠ 0 by decide)
        have := Int.emod_lt_of_pos (mn (wrap64 (exp + now)) 4294967295) (show (0 : Int) < 4294967296 by decide)
        omega
      · have := Int.emod_nonneg (mn exp 4294967295) (show (4294967296 : Int) ≠ 0 by decide)
        have := Int.emod_lt_of_pos (mn exp 4294967295) (show (0 : Int) < 4294967296 by decide)
        omega
def chkC (k : Cmd) : Int := chk k.kind k.keys k.flags k.exp k.value k.cas k.delta k.quiet
theorem fine_of (k : Cmd) (h : chkC k = 0) : Fine k := by
  unfold chkC chk at h
  split at h
  · cases h
  · rename_i h1
    have h1 := Classical.not_not.1 h1
    split at h
    · cases h
    · rename_i h2
      split at h
      · cases h
      · rename_i h3
        have hk : keysC k.kind k.keys.length = true := by
          cases hk : keysC k.kind k.keys.length
          · exact absurd (.inr (.inl hk)) h2
          · rfl
        refine ⟨h1.1, h1.2, by omega, by have := keysC_le hk; omega, fun h5 h14 hn => ?_⟩
        unfold keysC at hk
        rw [if_neg (by omega), if_neg (by omega), hn] at hk
        exact absurd hk (by decide)
def doP (k : Cmd) (now : Int) (failed : Bool) (E : Tab) (laid : Int) : Out := doR (chkC k) (endsV now k.exp) (endsE now) k now failed E laid
theorem Do_c (w : World) (g b c : Nat) (E : Tab) (laid : Int) (k : Cmd) (A : Option Addr) (cap : Nat) (now : Int) (failed : Bool)
    (hv : Vars w) (hA : At w g b c E laid) (hc : c + 1000 < maxLen) (hC : Kd.string.C w A k.keys.length k.keys) (hK : KeysAt w g b A k.keys) (hcap : k.keys.length ≤ cap) (hd : 0 ≤ k.delta) :
    Calls Tryz.prog 22 #[.pointer (some ⟨g, 0, none⟩), .agg #[.int .i64 k.kind, .slice A k.keys.length cap, .int .u32 k.flags, .int .i64 k.exp, .string k.value, .int .u64 k.cas, .int .u64 k.delta, .bool k.quiet], .int .i64 now, .bool failed] w
      (OutAt w g b c (doP k now failed E laid)) :=
  Do_calls w g b c E laid k A cap now failed 10 (chkC k) (endsV now k.exp) (endsE now) hv hA hc hC hK hcap hd (chk_is _ _ _ _ _ _ _ _) (fine_of k) (ends_is now k.exp) (endsV_lo now k.exp).1 (endsV_lo now k.exp).2
theorem row_cell {w : World} {B : Nat} {l : List ByteArray} {t : TypeId} (h : w.heap[B]? = some (.cells (l.map Value.string).toArray t)) {j : Nat} {p : ByteArray} (hp : l[j]? = some p) : w.cell? ⟨B, j, none⟩ = some (.string p) := by
  rw [fresh_cell h j]
  simp [hp]
theorem keys_row {w : World} {B : Nat} {l : List ByteArray} {t : TypeId} (h : w.heap[B]? = some (.cells (l.map Value.string).toArray t)) (hl : l.length ≤ 100) : Kd.string.C w (some ⟨B, 0, none⟩) l.length l := by
  refine ⟨rfl, by omega, fun _ => ⟨⟨B, 0, none⟩, rfl, fun j p hp => ⟨[.string p], rfl, rfl, fun i u hu => ?_⟩⟩⟩
  cases i with
  | zero =>
    injection hu with hu
    subst hu
    have := row_cell h hp
    rw [Addr.add_lit, Nat.zero_add]
    simpa [Kd.string, Kd.scalar] using this
  | succ i => simp at hu
theorem keys_at {w : World} {g b B : Nat} {l : List ByteArray} {t : TypeId} (h : w.heap[B]? = some (.cells (l.map Value.string).toArray t)) (hg : B ≠ g) (hb : B ≠ b) : KeysAt w g b (some ⟨B, 0, none⟩) l :=
  fun j p hp => ⟨⟨B, 0, none⟩, rfl, hg, hb, by rw [Addr.add_lit, Nat.zero_add]; exact row_cell h hp⟩
structure Lw (w0 w : World) (g b c : Nat) (E : Tab) (laid : Int) : Prop where
  at_ : At w g b c E laid
  bel : Below w0.heap.size w0 w
  hg : w0.heap.size ≤ g
  hb : w0.heap.size ≤ b
theorem Lw.below {w0 w w' : World} {g b c : Nat} {E : Tab} {laid : Int} (h : Lw w0 w g b c E laid) (hb : Below w.heap.size w w') : Lw w0 w' g b c E laid :=
  ⟨h.at_.below hb, h.bel.trans (hb.mono h.bel.size), h.hg, h.hb⟩
theorem Lw.mut {w0 w w' : World} {g b c c' : Nat} {E E' : Tab} {laid laid' : Int} (h : Lw w0 w g b c E laid) (hA : At w' g b c' E' laid') (hM : Mut g b w w') : Lw w0 w' g b c' E' laid' :=
  ⟨hA, h.bel.trans (hM.below h.hg h.hb h.bel.size), h.hg, h.hb⟩
theorem Lw.set {w0 w : World} {g b c : Nat} {E : Tab} {laid : Int} (h : Lw w0 w g b c E laid) {p : Addr} (hp : w0.heap.size ≤ p.block) (h1 : p.block ≠ g) (h2 : p.block ≠ b) (u : Value) : Lw w0 (w.setCell p u) g b c E laid :=
  ⟨h.at_.setCell h1 h2 u, h.bel.setCell hp u, h.hg, h.hb⟩
theorem heap_alloc2 (w : World) (o1 o2 : Obj) : ((w.alloc o1).alloc o2).heap[w.heap.size + 1]? = some o2 := by
  have := heap_alloc_new (w.alloc o1) o2
  rwa [size_al] at this
def setCmd (key value : ByteArray) : Cmd := ⟨5, [key], 0, 0, value, 0, 0, false⟩
end Go.Proofs.YtdihoopofhediaaGreatDoor.Mdl
end
