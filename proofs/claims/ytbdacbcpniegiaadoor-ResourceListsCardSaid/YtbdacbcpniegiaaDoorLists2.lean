/- The tied card of ResourceLists: for every list of things, every thing, every key and either choice the law returns true, and the list reads behind the call as it read before. Conditions: the tables of Go's library and the two errors that the row lists are as the program's text lays them. -/
import Derived.Test.YtbdacbcpniegiaaDoorLists1
import Derived.Test.YtbdacbcpniegiaaDoorTie
import Derived.Test.YtbdacbcpniegiaaDoorCards
import Derived.Carry
import Derived.LaidMore
import Derived.Lay
import Derived.SevenTiedAt
import Derived.Stop.Joined
namespace Go.Proofs.YtbdacbcpniegiaaDoor
open Go Go.ChangeShapes Go.WideShapes Go.ChangeAt Go.RowKit
set_option maxRecDepth 100000
theorem listsOwn : ownKnob Tryd.prog.godebug = none := by kernel_rfl
theorem listsLaidOut : laidOutB Tryd.prog = true := by kernel_rfl
theorem listsLifted (os : Os) (started : os.Started) (H : Type) (enc : TypeId × Value → H) :
    ReturnsInHanded {} Tryd.checked os 15 .any (fun w args => (Rows.resourceListsSpec.pre enc Tryd.prog Tryd.f15 Rows.resourceListsRow.domain false w args ∧ laidMetH Tryd.prog Rows.resourceListsRow.laid w) ∧ sizedMet enc Tryd.prog Tryd.f15 (OpenSpec.ofChange Rows.resourceListsSpec) false w args)
      (Rows.resourceListsSpec.post enc Tryd.prog Tryd.f15 false true false false) := by
  refine returnsInHanded_of_change_and (C := Tryd.checked) (X := fun w _ => laidMetH Tryd.prog Rows.resourceListsRow.laid w) (fun _ _ _ hh h => h.of_heap hh) listsOwn started (by kernel_rfl) Tryd.func15
    (ChangeSpec.witness_shaped (enc := enc) (C := Tryd.checked) (os := os) (X := fun w _ => laidMetH Tryd.prog Rows.resourceListsRow.laid w) false (World.laidAll Tryd.prog os Rows.resourceListsRow.laid) #[.slice none 0 0, .agg #[.int .i64 0, .string ByteArray.empty, .int .u64 0, .bool false, .string ByteArray.empty, .bool false, .int .u8 0], .agg #[.int .i64 0, .string ByteArray.empty], .bool false] 8 (World.laidAll_os _ _ _)
      (World.shaped_of_ZipB (by kernel_rfl) (by kernel_rfl)) (by kernel_rfl) (by kernel_rfl) (by kernel_rfl)
      (by rw [MakeChecks.laidMetH_plain _ _ _ (by kernel_rfl)]; exact laidMet_laidAll _ (by kernel_rfl) (by kernel_rfl))) ?_
  intro W base args ds gs before hval0 hW hc hsz hL _
  have hval : ∀ (j : Nat) t v, Tryd.f15.params[j]? = some t → args[j]? = some v → Value.okWide Tryd.prog W .any base t v := hval0
  have hW' := hW
  obtain ⟨p, q, hA0, hV, rfl, _, _⟩ := hW
  have hA : DataW.TrodAll enc Tryd.prog W 0 (fun _ => true) true Tryd.f15.params.toList args.toList ds p := hA0
  rw [Tryd.params15] at hA hval
  obtain ⟨v0, vs0, d0, ds0, p0, q0, hargs, rfl, rfl, h0, r0⟩ := trodAll_cons hA
  obtain ⟨v1, vs1, d1, ds1, p1, q1, rfl, rfl, rfl, h1, r1⟩ := trodAll_cons r0
  obtain ⟨v2, vs2, d2, ds2, p2, q2, rfl, rfl, rfl, h2, r2⟩ := trodAll_cons r1
  obtain ⟨v3, vs3, d3, ds3, p3, q3, rfl, rfl, rfl, h3, r3⟩ := trodAll_cons r2
  obtain ⟨rfl, rfl, rfl⟩ := trodAll_nil r3
  obtain rfl : args = #[v0, v1, v2, v3] := by cases args; simp_all
  obtain ⟨rfl, rfl⟩ := trodVars_none hV
  obtain ⟨q0', len0, cap0, rfl⟩ := okWide_slice Tryd.underlying106 (hval 0 106 v0 rfl rfl)
  have lt0 : ∀ x ∈ p0, x.block < W.heap.size := by obtain ⟨m, hm⟩ := h0; exact DataW.trod_lt m _ _ _ hm
  obtain ⟨xs0, hx0, ho0, hc0⟩ := Q.thingRow h0
  subst hx0
  obtain ⟨cs1, rfl, _⟩ := okWide_struct Tryd.underlying96 (hval 1 96 v1 rfl rfl)
  have lt1 : ∀ x ∈ p1, x.block < W.heap.size := by obtain ⟨m, hm⟩ := h1; exact DataW.trod_lt m _ _ _ hm
  obtain ⟨y1, hy1, hx1⟩ := Q.thing_in h1
  subst hx1
  obtain ⟨cs2, rfl, _⟩ := okWide_struct Tryd.underlying26 (hval 2 26 v2 rfl rfl)
  have lt2 : ∀ x ∈ p2, x.block < W.heap.size := by obtain ⟨m, hm⟩ := h2; exact DataW.trod_lt m _ _ _ hm
  obtain ⟨t2, s2, ta2, tb2, tl2, hx2⟩ := Q.key_in h2
  subst hx2
  obtain ⟨x3, rfl, rfl, rfl⟩ := open_bool Tryd.underlying4 (hval 3 4 v3 rfl rfl) h3
  obtain ⟨e, he, hG⟩ := Q.gw_of_laid (by rw [← MakeChecks.laidMetH_plain _ _ _ (by kernel_rfl)]; exact hL)
  clear hsz
  refine (Q.lists_any xs0 q0' cap0 y1 hy1 t2 s2 ta2 tb2 tl2 x3 W ho0 hc0 he hG).mono fun e W' ⟨he, hb⟩ => ?_
  subst he
  exact ⟨_, rfl, _, _, _, [], _, [], hW', trodAll_mk1 (shut_bool Tryd.underlying4 _), (trodAll_cons_mk (Below.trod listsLaidOut (by kernel_rfl) (of_decide_eq_true (by kernel_rfl)) h0 hb lt0) (trodAll_cons_mk (Below.trod listsLaidOut (by kernel_rfl) (of_decide_eq_true (by kernel_rfl)) h1 hb lt1) (trodAll_cons_mk (Below.trod listsLaidOut (by kernel_rfl) (of_decide_eq_true (by kernel_rfl)) h2 hb lt2) (trodAll_cons_mk (shut_bool Tryd.underlying4 _) trodAll_mk0)))), rfl, hb.frame _, fun h => by cases h⟩
theorem listsSaid : Rows.ResourceListsSaid :=
  OpenClaim.holds_of_wide 15 Tryd.f15 rfl rfl rfl rfl rfl rfl rfl ⟨rfl, rfl, rfl, rfl, rfl⟩ rfl rfl rfl rfl rfl (by kernel_rfl) Tryd.func15 (by kernel_rfl)
    (of_decide_eq_true (by kernel_rfl)) (by unfold Func.isWrapper; first | (rw [if_pos (by decide +kernel)]; kernel_rfl) | (rw [if_neg (by decide +kernel)]; exact ⟨rfl, rfl⟩))
    (fun os started H enc _ => listsLifted os started H enc)
theorem listsPlain (f : FuncId) (fn : Func) (hf : Tryd.pinned.checked.prog.funcNamed "noria/norialaw04.ResourceLists" = some f) (hfn : Tryd.pinned.checked.prog.funcs[f]? = some fn) :
    true = Tryd.pinned.checked.prog.looks [] ∧ ∀ (j : Nat) t, fn.params[j]? = some t → Tryd.pinned.checked.prog.wantsStandIn t = false := by
  obtain rfl : f = 15 := Option.some.inj ((show Tryd.prog.funcNamed "noria/norialaw04.ResourceLists" = some 15 by kernel_rfl).symm.trans hf) |>.symm
  obtain rfl : fn = Tryd.f15 := (Option.some.inj (Tryd.func15.symm.trans hfn)).symm
  refine ⟨by kernel_rfl, fun j t ht => ?_⟩
  rw [Tryd.params15] at ht
  have hm : t ∈ [106, 96, 26, 4] := by simpa using Array.mem_of_getElem? ht
  have hall : ([106, 96, 26, 4].all fun u => !Tryd.prog.wantsStandIn u) = true := by kernel_rfl
  exact (show Tryd.prog.wantsStandIn t = false by simpa using List.all_eq_true.1 hall t hm)
theorem listsCard : Rows.ResourceListsCardSaid :=
  Claim7.holds_tied_plain_at .later [] _ _ _ _ listsSaid (fun _ h => by cases h) (by kernel_rfl) (fun _ h => by cases h) resourceLists_row_tie rfl ⟨rfl, rfl⟩ (by kernel_rfl) rfl listsPlain (by kernel_rfl)
#print axioms listsCard
end Go.Proofs.YtbdacbcpniegiaaDoor
