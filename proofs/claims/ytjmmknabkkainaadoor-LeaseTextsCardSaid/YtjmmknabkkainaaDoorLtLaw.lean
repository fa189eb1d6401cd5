/- LeaseTexts: for any answer the law returns true, and the answer reads as it did. Conditions: none beyond the row's own (the listed variables read as its list says; arguments within the row's reach). -/
import Derived.Test.YtjmmknabkkainaaDoorLtPure
import Derived.Test.YtjmmknabkkainaaDoorOpen
import Derived.Test.YtjmmknabkkainaaDoorCards
import Derived.Test.YtjmmknabkkainaaDoorTie
import Derived.WalkKit
import Derived.ProofKit
import Derived.OpenShut
import Derived.ShutString
import Derived.ChangeOld
import Derived.Below
import Derived.SizedLaws
import Derived.LaidMore
import Derived.Lay
import Derived.SevenTiedAt
import Derived.Stop.Joined
import Derived.Deep.DeepHandedRow
import Derived.Shelf.Vars
namespace Go.Proofs.YtjmmknabkkainaaDoor.leaseTexts
open Go.ChangeShapes Go.WideShapes Go.ChangeAt Go.RowKit
open Go.ChangeMaps (open_string shut_string)

theorem own : ownKnob Tryd.prog.godebug = none := by kernel_rfl
theorem laid_met (os : Os) (args : Array Value) : laidMetH Tryd.prog Rows.leaseTextsRow.laid ((World.laidAll Tryd.prog os Rows.leaseTextsRow.laid).forCall (fun _ _ => 0) ⟨#[], args, []⟩).memory := by
  rw [MakeChecks.laidMetH_plain _ _ _ (by kernel_rfl)]
  exact laidMet_laidAll _ (by kernel_rfl) (by kernel_rfl)
theorem shaped (os : Os) (args : Array Value) : ((World.laidAll Tryd.prog os Rows.leaseTextsRow.laid).forCall (fun _ _ => 0) ⟨#[], args, []⟩).Shaped Tryd.prog :=
  World.shaped_of_ZipB (by kernel_rfl) (by kernel_rfl)

theorem laidOut : laidOutB Tryd.prog = true := by kernel_rfl
theorem laidMet_tail {P : Program} {W : World} {x : String × DataW Unit} {rest : List (String × DataW Unit)} (h : laidMet P (x :: rest) W) : laidMet P rest W := by
  obtain ⟨ps, ⟨g', t', cs, fuel, p, q, hg', ht', hvar, hd, hr, rfl⟩, hn, hc⟩ := h
  exact ⟨q, hr, (List.nodup_append.1 hn).2.1, fun b off hm => hc b off (List.mem_append_right _ hm)⟩
theorem vars_of {W : World} (h : laidMetH Tryd.prog Rows.leaseTextsRow.laid W) (hsh : W.ShapedOpen Tryd.prog) : Vars W := by
  rw [MakeChecks.laidMetH_plain _ _ _ (by kernel_rfl)] at h
  exact ⟨trivial, Lib.tabIs_of_head (rest := []) gPow (by kernel_rfl) Tryd.underlying89 Tryd.underlying43 (by kernel_rfl) (by kernel_rfl) (laidMet_tail (laidMet_tail h)),
    cell_of_shapedOpen_int (P := Tryd.prog) (g := 1) (t := 3) (zero := #[.int .i64 0]) hsh (of_decide_eq_true (by kernel_rfl)) (by kernel_rfl) rfl (by kernel_rfl) (by kernel_rfl) Tryd.underlying3⟩
open Go.Proofs.YtjmmknabkkainaaDoorW.PrintWords in
theorem opens_arg : Opens Tryd.prog 24 (Kd.pair (Kd.int .i64) (Kd.pair Kd.string (Kd.pair (Kd.slice 26 XLt.k26) Kd.bool))) (fun _ => True) := by
  intro H enc w base spare held fuel cs x hx
  have hF : Opens Tryd.prog 26 XLt.k26 _ := opens_iso (opens_struct Tryd.underlying26 (by kernel_rfl) (opensAt_cons rfl (by kernel_rfl) (opens_int Tryd.underlying5) (opensAt_one rfl (by kernel_rfl) (opens_string Tryd.underlying9)))) _ (fun a => ⟨a.1, a.2⟩) (fun _ => rfl)
  obtain ⟨v, hv, _⟩ := opens_struct Tryd.underlying24 (by kernel_rfl) (opensAt_cons rfl (by kernel_rfl) (opens_int Tryd.underlying3) (opensAt_cons rfl (by kernel_rfl) (opens_string Tryd.underlying9) (opensAt_cons rfl (by kernel_rfl) (opens_slice Tryd.underlying22 (by kernel_rfl) hF) (opensAt_one rfl (by kernel_rfl) (opens_bool Tryd.underlying4))))) H enc w base spare held fuel cs x hx
  exact ⟨v, hv, trivial⟩
set_option maxRecDepth 100000 in
theorem lifted (os : Os) (started : os.Started) (H : Type) (enc : TypeId × Value → H) (F : Stop.Interp) :
    ReturnsInHanded {} Tryd.checked os 3 .any ((OpenSpec.ofChange Rows.leaseTextsSpec).preRow enc Tryd.prog Tryd.f3 Rows.leaseTextsRow.domain false Rows.leaseTextsRow.laid) (((OpenSpec.ofChange Rows.leaseTextsSpec).at F).post enc Tryd.prog Tryd.f3 false true false false) := by
  refine returnsInHanded_of_row (C := Tryd.checked) (s := OpenSpec.ofChange Rows.leaseTextsSpec) own started (by kernel_rfl) Tryd.func3
    (ChangeSpec.witness_shaped (enc := enc) (C := Tryd.checked) (os := os) (s := Rows.leaseTextsSpec) (X := fun w _ => laidMetH Tryd.prog Rows.leaseTextsRow.laid w) false (World.laidAll Tryd.prog os Rows.leaseTextsRow.laid) #[.agg #[.int .i64 0, .string ByteArray.empty, .slice none 0 0, .bool false]] 8 (World.laidAll_os _ _ _)
      (shaped os _) (by kernel_rfl) (by kernel_rfl) (by kernel_rfl) (laid_met os _)) ?_
  intro W base args ds gs before hval0 hW _ _ hsz0 hL hsh _
  have hsz : (DataW.weightsEach Tryd.prog (Tryd.f3.params.toList ++ Rows.leaseTextsSpec.plain.varTypes Tryd.prog) (ds ++ gs)).all (· ≤ reachBytes) = true := hsz0
  have hval : ∀ (j : Nat) t v, Tryd.f3.params[j]? = some t → args[j]? = some v → Value.okWide Tryd.prog W .any base t v := hval0
  have hW' := hW
  obtain ⟨p, q, hA0, hV, rfl, hfz, hnd⟩ := hW
  have hA : DataW.TrodAll enc Tryd.prog W 0 (fun _ => true) true Tryd.f3.params.toList args.toList ds p := hA0
  rw [Tryd.params3] at hA hval hsz
  obtain ⟨v0, vs0, d0, ds0, p0, q0, hargs, rfl, rfl, h0, r0⟩ := trodAll_cons hA
  obtain ⟨rfl, rfl, rfl⟩ := trodAll_nil r0
  obtain rfl : args = #[v0] := by cases args; simp_all
  obtain ⟨rfl, rfl⟩ := trodVars_none hV
  have k0 := h0
  have lt0 : ∀ x ∈ p0, x.block < W.heap.size := by obtain ⟨m, hm⟩ := k0; exact DataW.trod_lt m _ _ _ hm
  obtain ⟨cs, rfl, _⟩ := okWide_struct Tryd.underlying24 (hval 0 24 v0 rfl rfl)
  obtain ⟨fuel, hf⟩ := h0
  obtain ⟨⟨code, v, l, s⟩, hK, -⟩ := opens_arg H enc W 0 _ true fuel _ _ hf
  obtain ⟨c0, c1, e0, rfl, c2, c3, rfl, rfl, c4, c5, rfl, ⟨A, c, rfl, hc, hC⟩, rfl⟩ := hK
  have ecs : cs = #[.int .i64 code, .string v, .slice A l.length c, .bool s] := Array.toList_inj.1 e0
  subst ecs
  clear hA0 hval0 hsz0 hsz hf e0
  have hv : Vars W := vars_of hL hsh
  obtain ⟨k, hk⟩ := XLt.law_true code v l s
  refine (XLt.tallboylaw28_LeaseTexts.calls k code v A c l s true W hC hc hv hk).mono fun e W' ⟨he, bel⟩ => ?_
  subst he
  exact ⟨_, rfl, _, _, _, [], _, [], hW', trodAll_mk1 (shut_bool Tryd.underlying4 _), (trodAll_cons_mk (Below.trod laidOut (by kernel_rfl) (of_decide_eq_true (by kernel_rfl)) k0 bel lt0) trodAll_mk0), rfl, bel.frame _, fun h => by cases h⟩

theorem said : Rows.LeaseTextsSaid :=
  OpenClaim.holds_of_cond 3 Tryd.f3 rfl rfl rfl rfl rfl rfl rfl ⟨rfl, rfl, rfl, rfl, rfl⟩ rfl rfl rfl rfl rfl (by kernel_rfl) Tryd.func3 (by kernel_rfl)
    (of_decide_eq_true (by kernel_rfl)) (by unfold Func.isWrapper; first | (rw [if_pos (by decide +kernel)]; kernel_rfl) | (rw [if_neg (by decide +kernel)]; exact ⟨rfl, rfl⟩))
    (fun os started H enc _ F => by rw [OpenClaim.pre_eq_preRow]; exact lifted os started H enc F)

/-- No parameter wants a stand-in; the program's own looks are off. -/
theorem plain (f : FuncId) (fn : Func) (hf : Tryd.pinned.checked.prog.funcNamed "tallboy/tallboylaw28.LeaseTexts" = some f) (hfn : Tryd.pinned.checked.prog.funcs[f]? = some fn) :
    false = Tryd.pinned.checked.prog.looks [] ∧ ∀ (j : Nat) t, fn.params[j]? = some t → Tryd.pinned.checked.prog.wantsStandIn t = false := by
  obtain rfl : f = 3 := Option.some.inj ((show Tryd.prog.funcNamed "tallboy/tallboylaw28.LeaseTexts" = some 3 by kernel_rfl).symm.trans hf) |>.symm
  obtain rfl : fn = Tryd.f3 := (Option.some.inj (Tryd.func3.symm.trans hfn)).symm
  refine ⟨by kernel_rfl, fun j t ht => ?_⟩
  rw [Tryd.params3] at ht
  have hm := Array.mem_of_getElem? ht
  have hall : (Tryd.f3.params.toList.all fun u => !Tryd.prog.wantsStandIn u) = true := by kernel_rfl
  rw [Tryd.params3] at hall
  exact (show Tryd.prog.wantsStandIn t = false by simpa using List.all_eq_true.1 hall t (by simpa using hm))

/-- The card. -/
theorem card : Rows.LeaseTextsCardSaid :=
  Claim7.holds_tied_plain_at .later [] _ _ _ _ said (fun _ h => by cases h) (by kernel_rfl) (fun _ h => by cases h) leaseTexts_row_tie rfl ⟨rfl, rfl⟩ (by kernel_rfl) rfl plain (by kernel_rfl)
end Go.Proofs.YtjmmknabkkainaaDoor.leaseTexts
namespace Go.Proofs.YtjmmknabkkainaaDoor
/-- The card, under a short name, for the claim. -/
theorem leaseTexts_card : Rows.LeaseTextsCardSaid := leaseTexts.card
#print axioms leaseTexts_card
end Go.Proofs.YtjmmknabkkainaaDoor
