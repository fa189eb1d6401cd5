/- Put together by wip/pack.py (this session's own program) out of this session's texts; a kit's tool laid the words and the shelf, of which only what is used stands here. Lean checks it. -/
import Derived.Test.YtbggcimjlkjclaaGreatDoorPNm3
import Derived.Test.YtbggcimjlkjclaaGreatDoorCards
import Derived.Test.YtbggcimjlkjclaaGreatDoorTie
import Derived.WalkKit
import Derived.ProofKit
import Derived.OpenShut
import Derived.ShutString
import Derived.ChangeOld
import Derived.Below
import Derived.SizedLaws
import Derived.LaidMore
import Derived.Lay
import Derived.SevenTiedAt
import Derived.Stop.Joined
import Derived.Deep.DeepHandedRow
import Derived.Shelf.Vars
import Derived.Stop.LaidErr
section
namespace Go.Proofs.YtbggcimjlkjclaaGreatDoor.Mdl
open Go.RowKit Go.Proofs.YtbggcimjlkjclaaGreatDoorW.PrintWords Go.Proofs.YtbggcimjlkjclaaGreatDoorW.PrintLast Go.Proofs.YtbggcimjlkjclaaGreatDoorW.PrintMore Go.WideMaps Go.Proofs.YtbggcimjlkjclaaGreatDoor.XMd
set_option linter.unusedVariables false
set_option linter.unusedSimpArgs false
theorem str_back (key : ByteArray) : (⟨key.data.toList.toArray⟩ : ByteArray) = key := by cases key; simp
theorem own_at {w : World} {base e n : Nat} {v : Value} {ks : List (List UInt8)} (h : w.ownsRow base e 1 v n (ks.map encStr)) (hn : 0 < n) :
    ∃ ad cap, v = .slice (some ad) n cap ∧ ad.block < w.heap.size ∧ n ≤ maxLen ∧ ∀ k t, ks[k]? = some t → w.cell? (ad.add k) = some (encStr t) := by
  rcases h.2 with ⟨rfl, rfl⟩ | ⟨r, cap, cur, rfl, h1, h2, h3⟩
  · omega
  · refine ⟨⟨r, 0, none⟩, cap, rfl, blk_lt h2, Nat.le_trans h3.1 h3.2.1, fun k t ht => h.cells rfl k _ ?_⟩
    rw [List.getElem?_map, ht]
    rfl
theorem nodup_at {α : Type} {l : List α} (h : l.Nodup) {i j : Nat} (hij : i < j) {x : α} (hi : l[i]? = some x) (hj : l[j]? = some x) : False := by
  obtain ⟨h1, e1⟩ := List.getElem?_eq_some_iff.1 hi
  obtain ⟨h2, e2⟩ := List.getElem?_eq_some_iff.1 hj
  exact List.pairwise_iff_getElem.1 h i j h1 h2 hij (e1.trans e2.symm)
namespace Nmb
def Old (E : Tab) (ks : List (List UInt8)) (k : Nat) (l : List Int) : Prop := ∀ c ∈ l, ∃ i t key x, i < k ∧ ks[i]? = some t ∧ t = strip (nm key) ∧ E (nm key) = some x ∧ x.cas = c
theorem old_nil (E : Tab) (ks : List (List UInt8)) : Old E ks 0 [] := fun c h => by cases h
theorem old_put {E : Tab} {ks : List (List UInt8)} {k : Nat} {l : List Int} (h : Old E ks k l) {t : List UInt8} {key : ByteArray} {x : Ent} (ht : ks[k]? = some t) (e : t = strip (nm key)) (hx : E (nm key) = some x) : Old E ks (k + 1) (x.cas :: l) := fun c hc => by
  rcases List.mem_cons.1 hc with rfl | hc
  · exact ⟨k, t, key, x, by omega, ht, e, hx, rfl⟩
  · obtain ⟨i, t, key, x, hi, h1, h2, h3, h4⟩ := h c hc
    exact ⟨i, t, key, x, by omega, h1, h2, h3, h4⟩
theorem old_not {E : Tab} {laid : Int} (hN : Nums E laid) {ks : List (List UInt8)} (hd : ks.Nodup) {k : Nat} {l : List Int} (h : Old E ks k l) {t : List UInt8} {key : ByteArray} {x : Ent} (ht : ks[k]? = some t) (e : t = strip (nm key)) (hx : E (nm key) = some x) : x.cas ∉ l := fun hc => by
  obtain ⟨i, t', key', x', hi, h1, h2, h3, h4⟩ := h _ hc
  have hn := hN.one _ _ _ _ h3 hx h4
  rw [hn, ← e] at h2
  rw [h2] at h1
  exact nodup_at hd hi h1 ht
structure In (w5 wr : World) (S k : Nat) (l : List Int) (E : Tab) (ks : List (List UInt8)) : Prop where
  bel : Below w5.heap.size w5 wr
  seen : Seen.At wr S k l
  old : Old E ks k l
theorem In.start (w5 : World) (E : Tab) (ks : List (List UInt8)) : In w5 (w5.alloc (.map #[] 0)) w5.heap.size 0 [] E ks :=
  ⟨(Below.refl _ w5).alloc (Nat.le_refl _) _, Seen.made w5, old_nil E ks⟩
theorem In.next {w5 wr w7 W9 : World} {S k : Nat} {l : List Int} {E : Tab} {ks : List (List UInt8)} {n : Int} (h : In w5 wr S k l E ks) (hb : Below wr.heap.size wr w7) {o : Obj} (hs : Seen.At W9 S (k + 1) (n :: l)) (hg : (w7.alloc o).grownBy W9 (some S)) (hS : w5.heap.size ≤ S) (ho : Old E ks (k + 1) (n :: l)) : In w5 W9 S (k + 1) (n :: l) E ks :=
  have h1 : Below w5.heap.size w5 w7 := h.bel.trans (hb.mono h.bel.size)
  ⟨(h1.alloc h1.size o).grown hg (Nat.le_trans h1.size (by rw [size_al]; exact Nat.le_succ _)) (fun k hk => by cases hk; exact hS), hs, ho⟩
theorem turn {E : Tab} {top laid : Int} {ns : List (List UInt8)} (hN : Named E) (hU : Nums E laid) (hk : KeysOut E 1000 ns) {k : Nat} {l : List Int} (hl : Old E ((texts ns).mergeSort fun x y => decide (x ≤ y)) k l) (h : k < ns.length) :
    ∃ key x t, ((texts ns).mergeSort fun x y => decide (x ≤ y))[k]? = some t ∧ encStr t = .string key ∧ get E key 1000 = some x ∧ 1 ≤ x.cas ∧ x.cas ≤ laid ∧ x.cas ∉ l ∧ Old E ((texts ns).mergeSort fun x y => decide (x ≤ y)) (k + 1) (x.cas :: l) := by
  have hlen : ((texts ns).mergeSort fun x y => decide (x ≤ y)).length = ns.length := by rw [List.length_mergeSort]; simp [texts]
  obtain ⟨t, ht⟩ : ∃ t, ((texts ns).mergeSort fun x y => decide (x ≤ y))[k]? = some t := ⟨_, List.getElem?_eq_getElem (by rw [hlen]; exact h)⟩
  obtain ⟨key, x, e, hv, hx, hg⟩ := sorted_key hN hk ht
  have e2 : t = strip (nm key) := by rw [(good_of hv).back]; exact e
  refine ⟨key, x, t, ht, ?_, hg, (hU.lo _ _ hx).1, (hU.lo _ _ hx).2, old_not hU (texts_nodup hN hk) hl ht e2 hx, old_put hl ht e2 hx⟩
  show Value.string ⟨t.toArray⟩ = _
  rw [e, str_back]
theorem rows (w7 : World) (key : ByteArray) (x : Ent) :
    (((w7.alloc (.cells #[.string x.value, .int .u32 x.flags, .int .i64 x.exp, .int .u64 x.cas] 44)).alloc (.cells #[.string key] 9)).alloc (.cells #[.int .i64 10, .slice (some ⟨w7.heap.size + 1, 0, none⟩) 1 1, .int .u32 0, .int .i64 0, .string ⟨#[110, 101, 119]⟩, .int .u64 x.cas, .int .u64 0, .bool false] 31)).heap[w7.heap.size + 1]? = some (.cells ([key].map Value.string).toArray 9) ∧
    (((w7.alloc (.cells #[.string x.value, .int .u32 x.flags, .int .i64 x.exp, .int .u64 x.cas] 44)).alloc (.cells #[.string key] 9)).alloc (.cells #[.int .i64 10, .slice (some ⟨w7.heap.size + 1, 0, none⟩) 1 1, .int .u32 0, .int .i64 0, .string ⟨#[110, 101, 119]⟩, .int .u64 x.cas, .int .u64 0, .bool false] 31)).heap[w7.heap.size + 1 + 1]? = some (.cells #[.int .i64 10, .slice (some ⟨w7.heap.size + 1, 0, none⟩) 1 1, .int .u32 0, .int .i64 0, .string ⟨#[110, 101, 119]⟩, .int .u64 x.cas, .int .u64 0, .bool false] 31) := by
  constructor
  · exact (Below.heap_alloc _ _ _ (by simp)).trans (heap_alloc2 w7 _ _)
  · have h := heap_alloc_new ((w7.alloc (.cells #[.string x.value, .int .u32 x.flags, .int .i64 x.exp, .int .u64 x.cas] 44)).alloc (.cells #[.string key] 9)) (.cells #[.int .i64 10, .slice (some ⟨w7.heap.size + 1, 0, none⟩) 1 1, .int .u32 0, .int .i64 0, .string ⟨#[110, 101, 119]⟩, .int .u64 x.cas, .int .u64 0, .bool false] 31)
    rwa [size_al, size_al] at h
theorem below3 (w : World) (o1 o2 o3 : Obj) : Below w.heap.size w (((w.alloc o1).alloc o2).alloc o3) :=
  (((Below.refl w.heap.size w).alloc (Nat.le_refl _) o1).alloc (by rw [size_al]; omega) o2).alloc (by rw [size_al, size_al]; omega) o3
theorem rows_keep {g b p q : Nat} {w8 w9 W : World} {o1 o2 : Obj} (h : w8.heap[p]? = some o1 ∧ w8.heap[q]? = some o2) (hM : Mut g b w8 w9) (h1 : p ≠ g) (h2 : p ≠ b) (h3 : q ≠ g) (h4 : q ≠ b) (hb : Below w9.heap.size w9 W) : W.heap[p]? = some o1 ∧ W.heap[q]? = some o2 :=
  ⟨(hb.block p (blk_lt (hM.heap h.1 h1 h2))).trans (hM.heap h.1 h1 h2), (hb.block q (blk_lt (hM.heap h.2 h3 h4))).trans (hM.heap h.2 h3 h4)⟩
end Nmb
end Go.Proofs.YtbggcimjlkjclaaGreatDoor.Mdl
end
section
namespace Go.Proofs.YtbggcimjlkjclaaGreatDoor.Mdl
open Go.RowKit Go.Proofs.YtbggcimjlkjclaaGreatDoorW.PrintWords Go.Proofs.YtbggcimjlkjclaaGreatDoorW.PrintLast Go.Proofs.YtbggcimjlkjclaaGreatDoorW.PrintMore Go.WideMaps Go.Proofs.YtbggcimjlkjclaaGreatDoor.XMd
set_option linter.unusedVariables false
set_option linter.unusedSimpArgs false
attribute [local go_sem ↓] Go.wp_at_zero Go.wp_at_succ
theorem owns_slice' {w : World} {base e s n : Nat} {v : Value} {xs : List Value} (h : w.ownsRow base e s v n xs) : ∃ A cap, v = .slice A n cap := by
  rcases h.2 with ⟨rfl, rfl⟩ | ⟨r, cap, cur, rfl, _⟩
  · exact ⟨none, 0, rfl⟩
  · exact ⟨some ⟨r, 0, none⟩, cap, rfl⟩
theorem keep9 {w w' : World} {q : Addr} (hk : ∀ p v, p.block = q.block → w.cell? p = some v → w'.cell? p = some v) {v0 v1 v2 v3 v4 v5 v6 v7 v8 : Value} (h : w.cell? q = some v0 ∧ w.cell? ⟨q.block, q.off + 1, none⟩ = some v1 ∧ w.cell? ⟨q.block, q.off + 2, none⟩ = some v2 ∧ w.cell? ⟨q.block, q.off + 3, none⟩ = some v3 ∧ w.cell? ⟨q.block, q.off + 4, none⟩ = some v4 ∧ w.cell? ⟨q.block, q.off + 5, none⟩ = some v5 ∧ w.cell? ⟨q.block, q.off + 6, none⟩ = some v6 ∧ w.cell? ⟨q.block, q.off + 7, none⟩ = some v7 ∧ w.cell? ⟨q.block, q.off + 9, none⟩ = some v8) : w'.cell? q = some v0 ∧ w'.cell? ⟨q.block, q.off + 1, none⟩ = some v1 ∧ w'.cell? ⟨q.block, q.off + 2, none⟩ = some v2 ∧ w'.cell? ⟨q.block, q.off + 3, none⟩ = some v3 ∧ w'.cell? ⟨q.block, q.off + 4, none⟩ = some v4 ∧ w'.cell? ⟨q.block, q.off + 5, none⟩ = some v5 ∧ w'.cell? ⟨q.block, q.off + 6, none⟩ = some v6 ∧ w'.cell? ⟨q.block, q.off + 7, none⟩ = some v7 ∧ w'.cell? ⟨q.block, q.off + 9, none⟩ = some v8 :=
  ⟨hk _ _ rfl h.1, hk _ _ rfl h.2.1, hk _ _ rfl h.2.2.1, hk _ _ rfl h.2.2.2.1, hk _ _ rfl h.2.2.2.2.1, hk _ _ rfl h.2.2.2.2.2.1, hk _ _ rfl h.2.2.2.2.2.2.1, hk _ _ rfl h.2.2.2.2.2.2.2.1, hk _ _ rfl h.2.2.2.2.2.2.2.2⟩
theorem keepB {w w' : World} {q : Addr} (hb : Below w.heap.size w w') : ∀ p v, p.block = q.block → w.cell? p = some v → w'.cell? p = some v := fun _ _ _ h => keepC hb h
theorem keepM {g b : Nat} {w w' : World} {q : Addr} (hm : Mut g b w w') (h1 : q.block ≠ g) (h2 : q.block ≠ b) : ∀ p v, p.block = q.block → w.cell? p = some v → w'.cell? p = some v := fun _ _ e h => hm.cell h (e ▸ h1) (e ▸ h2)
theorem Do_o (w : World) (g b c : Nat) (E : Tab) (laid : Int) (k : Cmd) (A : Option Addr) (cap : Nat) (now : Int) (failed : Bool) (o : Out) (ho : doP k now failed E laid = o)
    (hv : Vars w) (hA : At w g b c E laid) (hc : c + 1000 < maxLen) (hC : Kd.string.C w A k.keys.length k.keys) (hK : KeysAt w g b A k.keys) (hcap : k.keys.length ≤ cap) (hd : 0 ≤ k.delta) :
    Calls Tryz.prog 7 #[.pointer (some ⟨g, 0, none⟩), .agg #[.int .i64 k.kind, .slice A k.keys.length cap, .int .u32 k.flags, .int .i64 k.exp, .string k.value, .int .u64 k.cas, .int .u64 k.delta, .bool k.quiet], .int .i64 now, .bool failed] w (OutAt w g b c o) :=
  ho ▸ Do_c w g b c E laid k A cap now failed hv hA hc hC hK hcap hd
theorem keepT {w : World} {T : Nat} {a0 a1 a2 : Value} {q : Addr} (h : q.block ≠ T) : ∀ p v, p.block = q.block → w.cell? p = some v → (((w.setCell ⟨T, 0, none⟩ a0).setCell ⟨T, 1, none⟩ a1).setCell ⟨T, 2, none⟩ a2).cell? p = some v := fun p v e hp => by
  have hn : p.block ≠ T := e ▸ h
  rw [World.cell?_of_block ((Below.heap_setCell _ _ _ _ hn).trans ((Below.heap_setCell _ _ _ _ hn).trans (Below.heap_setCell _ _ _ _ hn)))]
  exact hp
theorem wayT {w0 w : World} {g b c T : Nat} {E : Tab} {laid : Int} {x0 x1 x2 a0 a1 a2 : Value} {t : TypeId} (h : w.heap[T]? = some (.cells #[x0, x1, x2] t)) (L : Lw w0 w g b c E laid) (h0 : w0.heap.size ≤ T) (h1 : T ≠ g) (h2 : T ≠ b) :
    (((w.setCell ⟨T, 0, none⟩ a0).setCell ⟨T, 1, none⟩ a1).setCell ⟨T, 2, none⟩ a2).heap[T]? = some (.cells #[a0, a1, a2] t) ∧ Lw w0 (((w.setCell ⟨T, 0, none⟩ a0).setCell ⟨T, 1, none⟩ a1).setCell ⟨T, 2, none⟩ a2) g b c E laid :=
  ⟨set3 h, ((L.set h0 h1 h2 _).set h0 h1 h2 _).set h0 h1 h2 _⟩
namespace Nmb
structure Rd (w wr : World) (g b j : Nat) (top : Int) : Prop where
  st : ∃ E, Lw w wr g b (100 * (j + 1)) E top ∧ Named E ∧ Nums E top
  lo : 0 ≤ top
  hi : top ≤ j
end Nmb
set_option maxHeartbeats 16000000 in
set_option maxRecDepth 100000 in
theorem numbers_calls (w : World) (hv : Vars w) (A0 : Option Addr) (l0 : List ActT) (c0 : Nat) (key : ByteArray) (hc0 : l0.length ≤ c0) (hC0 : kAct.C w A0 l0.length l0) (hQ : ∀ x ∈ l0, actQ x) :
    Calls Tryz.prog 3 #[.slice A0 l0.length c0, .string key] w fun e w' => e = .returned (.bool true) ∧ Below w.heap.size w w' := by
  have HV := Aside0.mk hv
  have HC0 := Aside0.mk hC0
  have HQ := Aside0.mk hQ
  have hmm := @run_makeMap Tryz.prog
  clear hv hC0 hQ
  go_enter Tryz.func3, Tryz.ntmps3
  go_wp2_with fail
  refine (works_calls w HV.out).mono ?_
  rintro e v ⟨rfl, hb⟩
  have BV := Aside0.mk hb
  clear hb
  go_wp2_with fail
  refine (New_calls v).mono ?_
  rintro e v0 ⟨g, b, rfl, hA0, hg, hb, hb0⟩
  have HS : Aside0 (Nmb.Rd w v0 g b 0 0) := ⟨⟨⟨_, Lw.mk (w0 := w) (hA0.more (by omega)) (BV.out.trans (hb0.mono BV.out.size)) (Nat.le_trans BV.out.size hg) (Nat.le_trans BV.out.size hb), named_none, nums_none⟩, Int.le_refl 0, Int.le_refl 0⟩⟩
  have hgw : w.heap.size ≤ g := Nat.le_trans BV.out.size hg
  have hbw : w.heap.size ≤ b := Nat.le_trans BV.out.size hb
  clear hA0 hb0 hg hb
  go_wp2_with fail
  go_loopg [6, 7] l0.length (fun gg v6 v7 wr => ∃ (j : Nat) (top : Int), v6 = .int .u64 top ∧ v7 = .int .i64 j ∧ j ≤ l0.length ∧ j ≤ 40 ∧ l0.length - j ≤ gg ∧ Aside0 (Nmb.Rd w wr g b j top))
  case atStart => exact ⟨0, 0, rfl, rfl, Nat.zero_le _, Nat.zero_le _, by omega, HS⟩
  case round =>
    clear HS
    obtain ⟨j, top, rfl, rfl, hj, hj40, hgg, HR⟩ := hrel
    have htop0 := HR.out.lo
    have htop1 := HR.out.hi
    obtain ⟨E, hL, hnamed, hnums⟩ := HR.out.st
    have L := Aside0.mk hL
    have HNM := Aside0.mk hnamed
    have HNU := Aside0.mk hnums
    clear hL hnamed hnums
    by_cases hlt : j < l0.length ∧ j < 40
    · obtain ⟨hl1, hl40⟩ := hlt
      have hji : (j : Int) < (l0.length : Int) := by omega
      have hj40i : (j : Int) < 40 := by omega
      obtain ⟨x, hx⟩ : ∃ x, l0[j]? = some x := ⟨_, List.getElem?_eq_getElem hl1⟩
      obtain ⟨ad, Ak, ck, rfl, hactw⟩ := act_at HC0.out j x hx
      have hact := hactw.below L.out.bel
      have hadl : (ad.add (j * 11)).block < w.heap.size := World.block_lt_of_cell? w _ hactw.c0
      clear hactw
      have hQx := HQ.out x (List.mem_of_getElem? hx)
      obtain ⟨kk, hkk⟩ : ∃ kk, kk = cmdOf x := ⟨_, rfl⟩
      have hdl : 0 ≤ kk.delta := by rw [hkk]; exact (wf_u64' hQx.2.2.2.2.2.2).1
      have hkl : kk.keys.length ≤ 9223372036854775807 := by rw [hkk]; exact hQx.2.1.2
      have HACT := Lib.hid hact
      obtain ⟨hkeys, hcap, k0, k1, k2, k3, k4, k5, k6, k7, k8, k9, k10⟩ := hact
      rw [← hkk] at hkeys hcap k0 k1 k2 k3 k4 k5 k6 k7
      obtain ⟨gf, gr, hgreat⟩ := great_is kk hkl
      have HGREAT := Lib.hid hgreat
      have HKEYS := Aside0.mk hkeys
      have HKL := Aside0.mk hkl
      have HKK := Lib.hid hkk
      have hcb : 100 * (j + 1) + 1000 < maxLen := by unfold maxLen; omega
      clear hx hQx hkeys hkk hgreat hkl
      go_wp2_with fail
      refine (tallboylaw15_Great.calls gf kk.kind Ak ck kk.keys kk.flags kk.exp kk.value kk.cas kk.delta kk.quiet gr _ HKEYS.out hcap HGREAT.out).mono ?_
      rintro e w2 ⟨rfl, hb2⟩
      have L2 := Aside0.mk (L.out.below hb2)
      have hact2 := HACT.out.below hb2
      have HK2 := Aside0.mk (Kd.C_below HKEYS.out hb2)
      clear k0 k1 k2 k3 k4 k5 k6 k7 k8 k9 k10
      obtain ⟨_, _, k0, k1, k2, k3, k4, k5, k6, k7, k8, k9, k10⟩ := hact2
      rw [← HKK.out] at k0 k1 k2 k3 k4 k5 k6 k7
      clear hb2 HACT L HKEYS
      cases gr with
      | true =>
        go_wp2
        go_ret
        exact ⟨rfl, L2.out.bel⟩
      | false =>
        have hk100 : kk.keys.length ≤ 100 := great_small _ 0 _ HKL.out (by have := HGREAT.out; unfold tallboylaw15_Great.f at this; exact this)
        go_upto_region 10 with fail
        have HF := Lib.hid (show _ ∧ _ ∧ _ ∧ _ ∧ _ ∧ _ ∧ _ ∧ _ ∧ _ from ⟨k0, k1, k2, k3, k4, k5, k6, k7, k9⟩)
        have hpg : (ad.add (j * 11)).block ≠ g := by omega
        have hpb : (ad.add (j * 11)).block ≠ b := by omega
        have hown : tallboylaw15_Own.f kk.kind kk.keys kk.flags kk.exp kk.value kk.cas kk.delta kk.quiet = some (kk.kind, kk.keys, kk.flags, kk.exp, kk.value, kk.cas, kk.delta, kk.quiet) := by
          unfold tallboylaw15_Own.f
          simp only [Option.bind_some, List.length_nil, Nat.zero_add, List.nil_append]
          rw [if_pos (by omega)]
        have HOWN := Lib.hid hown
        clear k0 k1 k2 k3 k4 k5 k6 k7 k8 k9 k10 hown
        have hcb2 : 100 * (j + 1) + 1000 < maxLen := hcb
        obtain ⟨o, ho⟩ : ∃ o, doP kk 1000 x.2.2.1 E top = o := ⟨_, rfl⟩
        have HO := Lib.hid ho
        have BD := Aside0.mk (Below.refl w2.heap.size w2).drew
        have BA := Aside0.mk ((Below.refl w2.heap.size w2).alloc (Nat.le_refl _) (.cells #[.int .i64 0, .slice none 0 0, .int .u64 0] 36)).drew
        have NG := Lib.hid (show w2.heap.size ≠ g ∧ w2.heap.size ≠ b ∧ w.heap.size ≤ w2.heap.size from ⟨Nat.ne_of_gt L2.out.at_.lt, Nat.ne_of_gt L2.out.at_.ltb, L2.out.bel.size⟩)
        clear ho
        go_cut [8, 9] (fun v8 v9 wc => ∃ B vs, v8 = .pointer (some ⟨B, 0, none⟩) ∧ v9 = .int .i64 o.err ∧ wc.heap[B]? = some (.cells #[.int .i64 o.code, vs, .int .u64 o.n] 36) ∧ B ≠ g ∧ B ≠ b ∧ w.heap.size ≤ B ∧ Aside0 (Lw w wc g b (100 * (j + 1) + 100) o.E o.laid))
        case first =>
          go_region_held3 (fun w' => w'.cell? (ad.add (j * 11)) = some (.int .i64 kk.kind) ∧ w'.cell? ⟨(ad.add (j * 11)).block, (ad.add (j * 11)).off + 1, none⟩ = some (.slice Ak kk.keys.length ck) ∧ w'.cell? ⟨(ad.add (j * 11)).block, (ad.add (j * 11)).off + 2, none⟩ = some (.int .u32 kk.flags) ∧ w'.cell? ⟨(ad.add (j * 11)).block, (ad.add (j * 11)).off + 3, none⟩ = some (.int .i64 kk.exp) ∧ w'.cell? ⟨(ad.add (j * 11)).block, (ad.add (j * 11)).off + 4, none⟩ = some (.string kk.value) ∧
              w'.cell? ⟨(ad.add (j * 11)).block, (ad.add (j * 11)).off + 5, none⟩ = some (.int .u64 kk.cas) ∧ w'.cell? ⟨(ad.add (j * 11)).block, (ad.add (j * 11)).off + 6, none⟩ = some (.int .u64 kk.delta) ∧ w'.cell? ⟨(ad.add (j * 11)).block, (ad.add (j * 11)).off + 7, none⟩ = some (.bool kk.quiet) ∧ w'.cell? ⟨(ad.add (j * 11)).block, (ad.add (j * 11)).off + 9, none⟩ = some (.bool x.2.2.1))
            ((first | with_reducible exact HF.out | with_reducible exact HF3.out | with_reducible exact HF4.out | with_reducible exact keep9 (keepB BD.out) HF.out | with_reducible exact keep9 (keepB BA.out) HF.out | with_reducible exact keep9 (keepB ((Below.refl _ _).alloc (Nat.le_refl _) _)) HF3.out | with_reducible exact keep9 (keepB ((Below.refl _ _).alloc (Nat.le_refl _) _)) HF4.out | with_reducible exact keep9 (keepT (Nat.ne_of_lt (Nat.lt_of_lt_of_le hadl NG.out.2.2))) HF4.out | with_reducible exact keep9 (keepT (Nat.ne_of_lt (Nat.lt_of_lt_of_le hadl L3.out.bel.size))) HF4.out | with_reducible exact keep9 (keepB ((Below.refl _ _).alloc (Nat.le_refl _) _)) HF.out))
            (first
              | (go_at_call 8; refine (tallboylaw15_Own.calls kk.kind Ak ck kk.keys kk.flags kk.exp kk.value kk.cas kk.delta kk.quiet _ _ _ _ _ _ _ _ _ (Kd.C_below HK2.out (by first | exact BD.out | exact BA.out)) hcap HOWN.out).mono ?_; rintro e w3 ⟨v1, rfl, hR, hb3⟩; obtain ⟨A3, c3, rfl, hc3, hC3, hKA3⟩ := keysAt_R hR (by first | exact L2.out.at_.drew.lt | exact (L2.out.at_.alloc _).drew.lt) (by first | exact L2.out.at_.drew.ltb | exact (L2.out.at_.alloc _).drew.ltb); (have hb23 : Below w2.heap.size w2 w3 := (by first | exact BD.out.trans (hb3.mono BD.out.size) | exact BA.out.trans (hb3.mono BA.out.size))); (have L3 := Aside0.mk (L2.out.below hb23)); (have HF3 := Lib.hid (keep9 (keepB hb23) HF.out)); (have HC3 := Aside0.mk hC3); (have HKA3 := Aside0.mk hKA3); (first | (have HQ3 := Lib.hid (fresh_block hb3 rfl)) | skip); clear hR hb3 hC3 hKA3 hb23)
              | (go_at_call 7; refine (Do_o _ g b (100 * (j + 1)) E top kk A3 c3 1000 x.2.2.1 o HO.out (HV.out.below (by first | exact L3.out.bel | exact L3.out.bel.alloc L3.out.bel.size _)) (by first | exact L3.out.at_ | exact L3.out.at_.alloc _) hcb2 (by first | exact HC3.out | exact Kd.C_below HC3.out ((Below.refl _ w3).alloc (Nat.le_refl _) _)) (by first | exact HKA3.out | exact KeysAt.mut HKA3.out (Mut.of_below ((Below.refl _ w3).alloc (Nat.le_refl _) _))) hc3 hdl).mono ?_; rintro e w4 ⟨vs, hvs, rfl, hown4, hA4, hM4⟩; obtain ⟨A4, c4, rfl⟩ := owns_slice' hown4; (have hM34 : Mut g b w3 w4 := (by first | exact hM4 | exact ((Mut.refl g b w3).alloc _).trans hM4)); (have L4 := Aside0.mk (L3.out.mut hA4 hM34)); (have HF4 := Lib.hid (keep9 (keepM hM34 hpg hpb) HF3.out)); (first | (have HQ4 := Lib.hid (hM34.heap HQ3.out NG.out.1 NG.out.2.1)) | (have HQ4 := Lib.hid (hM4.heap (heap_alloc_new w3 (.cells #[.int .i64 0, .slice none 0 0, .int .u64 0] 36)) (Nat.ne_of_gt L3.out.at_.lt) (Nat.ne_of_gt L3.out.at_.ltb))) | skip); (first | (have q0 := fresh_cell HQ4.out 0; have q1 := fresh_cell HQ4.out 1; have q2 := fresh_cell HQ4.out 2; have f0 := fresh_frozen HQ4.out 0; have f1 := fresh_frozen HQ4.out 1; have f2 := fresh_frozen HQ4.out 2; simp only [List.getElem?_toArray, List.getElem?_cons_zero, List.getElem?_cons_succ] at q0 q1 q2) | skip); clear hvs hown4 hA4 hM4 hM34))
          all_goals
            go_wp2_with fail
            go_meet
            case rel =>
              first
                | exact ⟨_, _, rfl, rfl, (wayT HQ4.out L4.out NG.out.2.2 NG.out.1 NG.out.2.1).1, NG.out.1, NG.out.2.1, NG.out.2.2, ⟨(wayT HQ4.out L4.out NG.out.2.2 NG.out.1 NG.out.2.1).2⟩⟩
                | exact ⟨_, _, rfl, rfl, (wayT HQ4.out L4.out L3.out.bel.size (Nat.ne_of_gt L3.out.at_.lt) (Nat.ne_of_gt L3.out.at_.ltb)).1, Nat.ne_of_gt L3.out.at_.lt, Nat.ne_of_gt L3.out.at_.ltb, L3.out.bel.size, ⟨(wayT HQ4.out L4.out L3.out.bel.size (Nat.ne_of_gt L3.out.at_.lt) (Nat.ne_of_gt L3.out.at_.ltb)).2⟩⟩
                | exact ⟨_, _, rfl, rfl, heap_alloc_new _ _, Nat.ne_of_gt L4.out.at_.lt, Nat.ne_of_gt L4.out.at_.ltb, L4.out.bel.size, ⟨L4.out.below ((Below.refl _ _).alloc (Nat.le_refl _) _)⟩⟩
        case rest =>
          obtain ⟨B, vs, rfl, rfl, hB, hBg, hBb, hBw, HL⟩ := hcut
          have hout : NumsOut o top := by rw [← HO.out]; exact nums_do HNU.out htop0 (by omega) kk 1000 _
          have hnm : Named o.E := by rw [← HO.out]; exact named_do HNM.out kk 1000 _ top
          have HOUT := Lib.hid hout
          have HNM2 := Aside0.mk hnm
          have HB := Lib.hid hB
          clear hB hout hnm BD BA L2 HK2 HKL HF
          go_wp2_with fail
          refine (Keys_calls wc g b _ o.E o.laid 1000 HL.out.at_ (by omega) HNM2.out).mono ?_
          rintro e w5 ⟨vs5, ns, hko, rfl, hown, hb5⟩
          have L5 := Aside0.mk (HL.out.below hb5)
          have HB5 := Lib.hid ((hb5.block B (blk_lt HB.out)).trans HB.out)
          have HKO := Aside0.mk hko
          have HOWN5 := Aside0.mk hown
          obtain ⟨As, cs, rfl⟩ := owns_slice' hown
          have HIN : Aside0 (Nmb.In w5 (w5.alloc (.map #[] 0)) w5.heap.size 0 [] o.E ((texts ns).mergeSort fun x y => decide (x ≤ y))) := ⟨Nmb.In.start w5 o.E _⟩
          clear hko hown hb5 HL HB
          go_wp2_with fail
          obtain ⟨S, hS⟩ : ∃ S, S = w5.heap.size := ⟨_, rfl⟩
          have HIN2 : Aside0 (∃ l, Nmb.In w5 (w5.alloc (.map #[] 0)) S 0 l o.E ((texts ns).mergeSort fun x y => decide (x ≤ y))) := ⟨_, hS ▸ HIN.out⟩
          have hSw : w5.heap.size ≤ S := hS ▸ Nat.le_refl _
          rw [← hS]
          clear hS HIN
          go_loopg [12, 13] ns.length (fun gg v12 v13 wi => ∃ (k : Nat) (most : Int), v12 = .int .u64 most ∧ v13 = .int .i64 k ∧ k ≤ ns.length ∧ ns.length - k ≤ gg ∧ (top ≤ most ∧ most ≤ o.laid ∨ most = top) ∧ Aside0 (∃ l, Nmb.In w5 wi S k l o.E ((texts ns).mergeSort fun x y => decide (x ≤ y))))
          case atStart => exact ⟨0, top, rfl, rfl, Nat.zero_le _, by omega, .inr rfl, HIN2⟩
          case round =>
            clear HIN2
            obtain ⟨k, most, rfl, rfl, hk, hgk, hmost, HI⟩ := hrel
            have hlaid : o.laid ≤ top + 1 ∧ top ≤ o.laid := by rcases HOUT.out.2 with ⟨_, _, h⟩ | ⟨_, h⟩ <;> omega
            obtain ⟨hlaid1, hlaid0⟩ := hlaid
            have LI := Aside0.mk (L5.out.below (by obtain ⟨l, h⟩ := HI.out; exact h.bel))
            have HBI := Lib.hid ((show wr.heap[B]? = _ from (by obtain ⟨l, h⟩ := HI.out; exact h.bel.block B (blk_lt HB5.out))).trans HB5.out)
            by_cases hkn : k < ns.length
            · obtain ⟨l, hIn⟩ := HI.out
              have HI2 := Aside0.mk hIn
              have hki : (k : Int) < (ns.length : Int) := by omega
              obtain ⟨key', x', t, ht, henc, hget, hc1, hc2, hcl, hold⟩ := Nmb.turn (laid := o.laid) (top := top) HNM2.out HOUT.out.1 HKO.out HI2.out.old hkn
              obtain ⟨ad0, cap0, hsl, hadl0, hmx, hcells⟩ := own_at HOWN5.out (show 0 < ns.length by omega)
              injection hsl with hs1 _ hs3
              subst hs1 hs3
              have hcell : wr.cell? (ad0.add k) = some (.string key') := by
                have h := hcells k t ht
                rw [henc] at h
                exact (HI2.out.bel.cell (by rw [add_block]; exact hadl0)).trans h
              have HGET := Lib.hid hget
              have HOLD := Lib.hid hold
              have HCL := Lib.hid hcl
              have e1 : (x'.cas == 0) = false := beq_eq_false_iff_ne.2 (by omega)
              have hgt : ¬ top + 1 < x'.cas := by omega
              have hkm : k < maxLen := by omega
              clear ht henc hget hcells hadl0 hold hIn HI hcl hmx
              go_wp2_with fail
              refine (Get_c wr g b _ o.E o.laid key' 1000 LI.out.at_ x' true (by rw [HGET.out]; rfl) (by rw [HGET.out]; rfl)).mono ?_
              rintro e w7 ⟨rfl, hb7⟩
              have hs8 : Seen.At (w7.alloc (.cells #[.string x'.value, .int .u32 x'.flags, .int .i64 x'.exp, .int .u64 x'.cas] 44)) S k l := HI2.out.seen.same ((Below.heap_alloc w7 _ S (Nat.lt_of_lt_of_le HI2.out.seen.lt hb7.size)).trans (hb7.block S HI2.out.seen.lt))
              have hlook := hs8.look x'.cas (by omega) (by omega)
              rw [decide_eq_false HCL.out] at hlook
              obtain ⟨W9, hput, hs9, hg9⟩ := hs8.put hkm x'.cas (by omega) (by omega)
              have c9 : W9.heap[w7.heap.size]? = some (.cells #[.string x'.value, .int .u32 x'.flags, .int .i64 x'.exp, .int .u64 x'.cas] 44) := (hg9.block _ (by rw [size_al]; exact Nat.lt_succ_self _) (fun e => by injection e with e; exact absurd (Nat.lt_of_lt_of_le HI2.out.seen.lt hb7.size) (by rw [e]; exact Nat.lt_irrefl _))).trans (heap_alloc_new _ _)
              have d3 := fresh_cell c9 3
              simp only [List.getElem?_toArray, List.getElem?_cons_zero, List.getElem?_cons_succ] at d3
              have hnext : Nmb.In w5 W9 S (k + 1) (x'.cas :: l) o.E ((texts ns).mergeSort fun x y => decide (x ≤ y)) := HI2.out.next hb7 hs9 hg9 hSw HOLD.out
              have HNEXT := Aside0.mk hnext
              clear hnext c9 hs8 hs9 hg9 hb7
              go_wp2
              have hkb : (k : Int) < 9223372036854775807 := by
                obtain ⟨_, _, _, _, hmx, _⟩ := own_at HOWN5.out (show 0 < ns.length by omega)
                unfold maxLen at hmx
                omega
              go_roundg (ns.length - (k + 1))
              case measure => omega
              case rel => exact ⟨k + 1, _, rfl, by rw [show wrap64 ((k : Int) + 1) = ((k + 1 : Nat) : Int) from by unfold wrap64; omega], by omega, by omega, .inl (by omega), ⟨_, HNEXT.out⟩⟩
            · have hki : ¬ (k : Int) < (ns.length : Int) := by omega
              have b0 := fresh_cell HBI.out 0
              simp only [List.getElem?_toArray, List.getElem?_cons_zero, List.getElem?_cons_succ] at b0
              have hmost2 : top ≤ most ∧ most ≤ o.laid := by omega
              have hfinal : Nmb.Rd w wr g b (j + 1) o.laid := ⟨⟨o.E, ⟨LI.out.at_.more (by omega), LI.out.bel, LI.out.hg, LI.out.hb⟩, HNM2.out, HOUT.out.1⟩, by omega, by omega⟩
              have HFINAL := Aside0.mk hfinal
              clear hfinal hmost HI
              have hcase : (o.err == 0) = true ∧ ((o.code == 2) = true ∨ (o.code == 2) = false ∧ (o.code == 7) = true) ∧ o.laid = top + 1 ∨ ((o.err == 0) = false ∨ (o.err == 0) = true ∧ (o.code == 2) = false ∧ (o.code == 7) = false) ∧ o.laid = top := by
                rcases HOUT.out.2 with ⟨h0, h1, h2⟩ | ⟨h0, h2⟩
                · refine .inl ⟨beq_iff_eq.2 h0, ?_, h2⟩
                  rcases h1 with h1 | h1
                  · exact .inl (beq_iff_eq.2 h1)
                  · exact .inr ⟨by rw [h1]; rfl, beq_iff_eq.2 h1⟩
                · refine .inr ⟨?_, h2⟩
                  by_cases he : o.err = 0
                  · exact .inr ⟨beq_iff_eq.2 he, beq_eq_false_iff_ne.2 fun h => h0 ⟨he, .inl h⟩, beq_eq_false_iff_ne.2 fun h => h0 ⟨he, .inr h⟩⟩
                  · exact .inl (beq_eq_false_iff_ne.2 he)
              rcases hcase with ⟨e1, e2, e3⟩ | ⟨e1, e3⟩
              · have E3 := Lib.hid e3
                clear e3
                rcases e2 with e2 | ⟨e2, e4⟩
                all_goals
                  go_wp2
                  go_roundg (l0.length - (j + 1))
                  case measure => omega
                  case rel => exact ⟨j + 1, o.laid, by rw [E3.out], by go_num, by omega, by omega, by omega, HFINAL⟩
              · have hgt : ¬ top < most := by omega
                have E3 := Lib.hid e3
                clear e3
                rcases e1 with e1 | ⟨e1, e2, e4⟩
                all_goals
                  go_wp2
                  go_roundg (l0.length - (j + 1))
                  case measure => omega
                  case rel => exact ⟨j + 1, o.laid, by rw [E3.out], by go_num, by omega, by omega, by omega, HFINAL⟩
    · have hfin : (j : Int) < (l0.length : Int) ∧ ¬ (j : Int) < 40 ∨ ¬ (j : Int) < (l0.length : Int) := by omega
      clear HR
      rcases hfin with ⟨hji, hj40i⟩ | hji
      all_goals
        go_wp2_with fail
        cases hgk : get E key 1000 with
        | none =>
          refine (Get_c _ g b _ E top key 1000 L.out.at_ Ent.z false (by rw [hgk]; rfl) (by rw [hgk]; rfl)).mono ?_
          rintro e w7 ⟨rfl, hb7⟩
          have BEL := Aside0.mk (L.out.below (hb7.alloc hb7.size (.cells #[.string ⟨#[]⟩, .int .u32 0, .int .i64 0, .int .u64 0] 44))).bel
          clear hb7 hgk
          unfold Ent.z
          go_wp2
          go_ret
          exact ⟨rfl, BEL.out⟩
        | some x =>
          refine (Get_c _ g b _ E top key 1000 L.out.at_ x true (by rw [hgk]; rfl) (by rw [hgk]; rfl)).mono ?_
          rintro e w7 ⟨rfl, hb7⟩
          have L7 := Aside0.mk (L.out.below hb7)
          have HGK := Lib.hid hgk
          have HGOOD := Lib.hid (key_valid HNM.out hgk)
          have hx1 := HNU.out.lo _ _ (get_entry hgk)
          obtain ⟨hx1, hx2⟩ := hx1
          have hcb : 100 * (j + 1) + 100 + 1000 < maxLen := by unfold maxLen; omega
          clear hb7 hgk
          go_wp2_with fail
          have ROW1 := Lib.hid (Nmb.rows w7 key x)
          have N7 := Lib.hid (show w7.heap.size + 1 ≠ g ∧ w7.heap.size + 1 ≠ b by have h1 := L7.out.at_.lt; have h2 := L7.out.at_.ltb; omega)
          have hb1 := Nmb.below3 w7 (.cells #[.string x.value, .int .u32 x.flags, .int .i64 x.exp, .int .u64 x.cas] 44) (.cells #[.string key] 9) (.cells #[.int .i64 10, .slice (some ⟨w7.heap.size + 1, 0, none⟩) 1 1, .int .u32 0, .int .i64 0, .string ⟨#[110, 101, 119]⟩, .int .u64 x.cas, .int .u64 0, .bool false] 31)
          have L8 := Aside0.mk (L7.out.below hb1)
          refine (Do_o _ g b (100 * (j + 1)) E top (Nmb.casCmd key x.cas) (some ⟨w7.heap.size + 1, 0, none⟩) 1 1000 false _ (Nmb.first HGOOD.out htop0 (by omega) HGK.out) (HV.out.below L8.out.bel) L8.out.at_ (by omega) (keys_row ROW1.out.1 (show (1 : Nat) ≤ 100 by decide)) (keys_at ROW1.out.1 N7.out.1 N7.out.2) (Nat.le_refl 1) (Int.le_refl 0)).mono ?_
          rintro e w9 ⟨vs9, hvs9, rfl, hown9, hA9, hM9⟩
          obtain rfl := hvs9 (by show (2 : Int) ≠ 1; decide)
          have hb9 := (Below.refl w9.heap.size w9).alloc (Nat.le_refl _) (.cells #[.int .i64 2, .slice none 0 0, .int .u64 0] 36)
          have L9 := Aside0.mk ((L8.out.mut hA9 hM9).below hb9)
          have NR := Lib.hid (show w9.heap.size ≠ g ∧ w9.heap.size ≠ b from ⟨Nat.ne_of_gt hA9.lt, Nat.ne_of_gt hA9.ltb⟩)
          have ROW2 := Lib.hid (Nmb.rows_keep ROW1.out hM9 N7.out.1 N7.out.2 (show w7.heap.size + 1 + 1 ≠ g by have h1 := L7.out.at_.lt; omega) (show w7.heap.size + 1 + 1 ≠ b by have h1 := L7.out.at_.ltb; omega) hb9)
          have HR9 := Lib.hid (heap_alloc_new w9 (.cells #[.int .i64 2, .slice none 0 0, .int .u64 0] 36))
          have m0 := fresh_cell ROW2.out.2 0
          have m1 := fresh_cell ROW2.out.2 1
          have m2 := fresh_cell ROW2.out.2 2
          have m3 := fresh_cell ROW2.out.2 3
          have m4 := fresh_cell ROW2.out.2 4
          have m5 := fresh_cell ROW2.out.2 5
          have m6 := fresh_cell ROW2.out.2 6
          have m7 := fresh_cell ROW2.out.2 7
          simp only [List.getElem?_toArray, List.getElem?_cons_zero, List.getElem?_cons_succ] at m0 m1 m2 m3 m4 m5 m6 m7
          obtain ⟨o2, ho2⟩ : ∃ o2, doP (Nmb.casCmd key x.cas) 1000 false (putT E (nm key) (some ⟨Nmb.new, 0, 0, top + 1⟩)) (top + 1) = o2 := ⟨_, rfl⟩
          have h4 : o2.code = 4 := by rw [← ho2]; exact Nmb.second HGOOD.out x.cas (by omega)
          have HO2 := Lib.hid ho2
          have H4 := Lib.hid h4
          clear hb1 hown9 hA9 hM9 hvs9 hb9 ho2 h4 L7 L8 ROW1
          go_wp2_with fail
          refine (Do_o _ g b (100 * (j + 1) + 100) _ (top + 1) (Nmb.casCmd key x.cas) (some ⟨w7.heap.size + 1, 0, none⟩) 1 1000 false o2 HO2.out (HV.out.below L9.out.bel) L9.out.at_ (by omega) (keys_row ROW2.out.1 (show (1 : Nat) ≤ 100 by decide)) (keys_at ROW2.out.1 N7.out.1 N7.out.2) (Nat.le_refl 1) (Int.le_refl 0)).mono ?_
          rintro e w11 ⟨vs11, hvs11, rfl, hown11, hA11, hM11⟩
          obtain rfl := hvs11 (by rw [H4.out]; decide)
          rw [H4.out]
          have hR11 := hM11.heap HR9.out NR.out.1 NR.out.2
          have r0 := fresh_cell ((Below.heap_alloc w11 (.cells #[.int .i64 4, .slice none 0 0, .int .u64 o2.n] 36) _ (blk_lt hR11)).trans hR11) 0
          simp only [List.getElem?_toArray, List.getElem?_cons_zero, List.getElem?_cons_succ] at r0
          have BEL := Aside0.mk ((L9.out.mut hA11 hM11).below ((Below.refl w11.heap.size w11).alloc (Nat.le_refl _) (.cells #[.int .i64 4, .slice none 0 0, .int .u64 o2.n] 36))).bel
          clear hvs11 hown11 hA11 hM11 hR11 m0 m1 m2 m3 m4 m5 m6 m7
          go_wp2
          go_ret
          exact ⟨rfl, BEL.out⟩
end Go.Proofs.YtbggcimjlkjclaaGreatDoor.Mdl
end
section
namespace Go.Proofs.YtbggcimjlkjclaaGreatDoor.modelNumbers
open Go.ChangeShapes Go.WideShapes Go.ChangeAt Go.RowKit
open Go.ChangeMaps (open_string shut_string)

theorem own : ownKnob Tryz.prog.godebug = none := by kernel_rfl
theorem laid_met (os : Os) (args : Array Value) : laidMetH Tryz.prog Rows.modelNumbersRow.laid ((World.laidAll Tryz.prog os Rows.modelNumbersRow.laid).forCall (fun _ _ => 0) ⟨#[], args, []⟩).memory := by
  rw [MakeChecks.laidMetH_plain _ _ _ (by kernel_rfl)]
  exact laidMet_laidAll _ (by kernel_rfl) (by kernel_rfl)
theorem shaped (os : Os) (args : Array Value) : ((World.laidAll Tryz.prog os Rows.modelNumbersRow.laid).forCall (fun _ _ => 0) ⟨#[], args, []⟩).Shaped Tryz.prog :=
  World.shaped_of_ZipB (by kernel_rfl) (by kernel_rfl)
theorem laidOut : laidOutB Tryz.prog = true := by kernel_rfl
theorem star : "*" ++ "errors.errorString" = "*errors.errorString" := by decide
theorem star_row (u : TypeId) (h : Tryz.prog.typeName? 3 u = some "*errors.errorString") : u = 143 :=
  typeName_ptr_named (nm := "errors.errorString") (by rw [star]; kernel_rfl) (by kernel_rfl) (by decide) u (by rw [star]; exact h)
theorem vars_of {W : World} (h : laidMetH Tryz.prog Rows.modelNumbersRow.laid W) (hsh : W.ShapedOpen Tryz.prog) : Vars W := by
  rw [MakeChecks.laidMetH_plain _ _ _ (by kernel_rfl)] at h
  obtain ⟨a0, s0, h0, -, -, -⟩ := laid_sentinel h.tail.tail.tail.tail gRange (ti := 85) (by kernel_rfl) Tryz.underlying85 star_row Tryz.underlying143 Tryz.underlying145 rfl rfl Tryz.underlying9 (by kernel_rfl) (by kernel_rfl)
  obtain ⟨a1, s1, h1, -, -, -⟩ := laid_sentinel h.tail.tail.tail.tail.tail gSyntax (ti := 85) (by kernel_rfl) Tryz.underlying85 star_row Tryz.underlying143 Tryz.underlying145 rfl rfl Tryz.underlying9 (by kernel_rfl) (by kernel_rfl)
  exact ⟨trivial, Lib.tabIs_of_head gPow (by kernel_rfl) Tryz.underlying138 Tryz.underlying26 (by kernel_rfl) (by kernel_rfl) h.tail.tail,
    cell_of_shapedOpen_int (P := Tryz.prog) (g := 0) (t := 3) (zero := #[.int .i64 0]) hsh (of_decide_eq_true (by kernel_rfl)) (by kernel_rfl) rfl (by kernel_rfl) (by kernel_rfl) Tryz.underlying3, ⟨_, _, h1⟩, ⟨_, _, h0⟩⟩
theorem wf_u64 {n : Int} (h : (Lit.int .u64 n).wf = true) : 0 ≤ n ∧ n < 18446744073709551616 := by
  simp [Lit.wf, IntKind.min, IntKind.max, IntKind.signed, IntKind.bits] at h
  omega
theorem wf_i64 {n : Int} (h : (Lit.int .i64 n).wf = true) : -9223372036854775808 ≤ n ∧ n ≤ 9223372036854775807 := by
  simp [Lit.wf, IntKind.min, IntKind.max, IntKind.signed, IntKind.bits] at h
  omega
open Go.Proofs.YtbggcimjlkjclaaGreatDoorW.PrintWords in
theorem opens_arg0 : Opens Tryz.prog 22 (Kd.slice 33 Mdl.kAct) (fun xs => (∀ x ∈ xs, Mdl.actQ x) ∧ xs.length ≤ maxLen) := opens_slice Tryz.underlying22 (by kernel_rfl) Mdl.opens_act
set_option maxRecDepth 100000 in
theorem lifted (os : Os) (started : os.Started) (H : Type) (enc : TypeId × Value → H) (F : Stop.Interp) :
    ReturnsInHanded {} Tryz.checked os 3 .any ((OpenSpec.ofChange Rows.modelNumbersSpec).preRow enc Tryz.prog Tryz.f3 Rows.modelNumbersRow.domain false Rows.modelNumbersRow.laid) (((OpenSpec.ofChange Rows.modelNumbersSpec).at F).post enc Tryz.prog Tryz.f3 false true false false) := by
  refine returnsInHanded_of_row (C := Tryz.checked) (s := OpenSpec.ofChange Rows.modelNumbersSpec) own started (by kernel_rfl) Tryz.func3
    (ChangeSpec.witness_shaped (enc := enc) (C := Tryz.checked) (os := os) (s := Rows.modelNumbersSpec) (X := fun w _ => laidMetH Tryz.prog Rows.modelNumbersRow.laid w) false (World.laidAll Tryz.prog os Rows.modelNumbersRow.laid) #[.slice none 0 0, .string ByteArray.empty] 8 (World.laidAll_os _ _ _)
      (shaped os _) (by kernel_rfl) (by kernel_rfl) (by kernel_rfl) (laid_met os _)) ?_
  intro W base args ds gs before hval0 hW _ _ hsz0 hL hsh _
  have hsz : (DataW.weightsEach Tryz.prog (Tryz.f3.params.toList ++ Rows.modelNumbersSpec.plain.varTypes Tryz.prog) (ds ++ gs)).all (· ≤ reachBytes) = true := hsz0
  have hval : ∀ (j : Nat) t v, Tryz.f3.params[j]? = some t → args[j]? = some v → Value.okWide Tryz.prog W .any base t v := hval0
  have hW' := hW
  obtain ⟨p, q, hA0, hV, rfl, hfz, hnd⟩ := hW
  have hA : DataW.TrodAll enc Tryz.prog W 0 (fun _ => true) true Tryz.f3.params.toList args.toList ds p := hA0
  rw [Tryz.params3] at hA hval hsz
  obtain ⟨v0, vs0, d0, ds0, p0, q0, hargs, rfl, rfl, h0, r0⟩ := trodAll_cons hA
  obtain ⟨v1, vs1, d1, ds1, p1, q1, rfl, rfl, rfl, h1, r1⟩ := trodAll_cons r0
  obtain ⟨rfl, rfl, rfl⟩ := trodAll_nil r1
  obtain rfl : args = #[v0, v1] := by cases args; simp_all
  obtain ⟨rfl, rfl⟩ := trodVars_none hV
  have k0 := h0
  have k1 := h1
  have lt0 : ∀ x ∈ p0, x.block < W.heap.size := by obtain ⟨m, hm⟩ := k0; exact DataW.trod_lt m _ _ _ hm
  have lt1 : ∀ x ∈ p1, x.block < W.heap.size := by obtain ⟨m, hm⟩ := k1; exact DataW.trod_lt m _ _ _ hm
  obtain ⟨A0, m0_, c0, rfl⟩ := okWide_slice Tryz.underlying22 (hval 0 22 v0 rfl rfl)
  obtain ⟨fuel0, hf0⟩ := h0
  obtain ⟨l0, hK0, m0⟩ := opens_arg0 H enc W 0 _ true fuel0 _ _ hf0
  obtain ⟨A0', c0', e0, hc0, hC0⟩ := hK0
  have z0 : Value.slice A0 m0_ c0 = .slice A0' l0.length c0' := List.head_eq_of_cons_eq e0
  injection z0 with z0a z0b z0c
  subst z0a z0b z0c
  obtain ⟨s1, rfl, rfl, rfl, y1⟩ := open_string Tryz.underlying9 (hval 1 9 v1 rfl rfl) h1
  have hv : Vars W := vars_of hL hsh
  clear hA0 hval0 hsz0 hsz hval hL hsh
  refine (Mdl.numbers_calls W hv A0 l0 c0 s1 hc0 hC0 m0.1).mono fun e W' ⟨he, bel⟩ => ?_
  subst he
  exact ⟨_, rfl, _, _, _, [], _, [], hW', trodAll_mk1 (shut_bool Tryz.underlying4 _), (trodAll_cons_mk (Below.trod laidOut (by kernel_rfl) (of_decide_eq_true (by kernel_rfl)) k0 bel lt0) (trodAll_cons_mk (Below.trod laidOut (by kernel_rfl) (of_decide_eq_true (by kernel_rfl)) k1 bel lt1) trodAll_mk0)), rfl, bel.frame _, fun h => by cases h⟩

theorem said : Rows.ModelNumbersSaid :=
  OpenClaim.holds_of_cond 3 Tryz.f3 rfl rfl rfl rfl rfl rfl rfl ⟨rfl, rfl, rfl, rfl, rfl⟩ rfl rfl rfl rfl rfl (by kernel_rfl) Tryz.func3 (by kernel_rfl)
    (of_decide_eq_true (by kernel_rfl)) (by unfold Func.isWrapper; first | (rw [if_pos (by decide +kernel)]; kernel_rfl) | (rw [if_neg (by decide +kernel)]; exact ⟨rfl, rfl⟩))
    (fun os started H enc _ F => by rw [OpenClaim.pre_eq_preRow]; exact lifted os started H enc F)

theorem plain (f : FuncId) (fn : Func) (hf : Tryz.pinned.checked.prog.funcNamed "tallboy/tallboylaw16.ModelNumbers" = some f) (hfn : Tryz.pinned.checked.prog.funcs[f]? = some fn) :
    true = Tryz.pinned.checked.prog.looks [] ∧ ∀ (j : Nat) t, fn.params[j]? = some t → Tryz.pinned.checked.prog.wantsStandIn t = false := by
  obtain rfl : f = 3 := Option.some.inj ((show Tryz.prog.funcNamed "tallboy/tallboylaw16.ModelNumbers" = some 3 by kernel_rfl).symm.trans hf) |>.symm
  obtain rfl : fn = Tryz.f3 := (Option.some.inj (Tryz.func3.symm.trans hfn)).symm
  refine ⟨by kernel_rfl, fun j t ht => ?_⟩
  rw [Tryz.params3] at ht
  have hm := Array.mem_of_getElem? ht
  have hall : (Tryz.f3.params.toList.all fun u => !Tryz.prog.wantsStandIn u) = true := by kernel_rfl
  rw [Tryz.params3] at hall
  exact (show Tryz.prog.wantsStandIn t = false by simpa using List.all_eq_true.1 hall t (by simpa using hm))

theorem card : Rows.ModelNumbersCardSaid :=
  Claim7.holds_tied_plain_at .later [] _ _ _ _ said (fun _ h => by cases h) (by kernel_rfl) (fun _ h => by cases h) modelNumbers_row_tie rfl ⟨rfl, rfl⟩ (by kernel_rfl) rfl plain (by kernel_rfl)
end Go.Proofs.YtbggcimjlkjclaaGreatDoor.modelNumbers
namespace Go.Proofs.YtbggcimjlkjclaaGreatDoor
theorem modelNumbers_card : Rows.ModelNumbersCardSaid := modelNumbers.card
#print axioms modelNumbers_card
end Go.Proofs.YtbggcimjlkjclaaGreatDoor
end
