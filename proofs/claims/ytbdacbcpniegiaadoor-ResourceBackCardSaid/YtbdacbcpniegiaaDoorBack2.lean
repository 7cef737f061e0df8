/- The tied card of ResourceBack: for every thing, every number of a field from 6 on, every value of it, and every place to cut at, the law returns true. Conditions: the tables of Go's library and the two errors that the row lists are as the program's text lays them. -/
import Derived.Test.YtbdacbcpniegiaaDoorBack1
import Derived.Test.YtbdacbcpniegiaaDoorTie
import Derived.Test.YtbdacbcpniegiaaDoorCards
import Derived.Carry
import Derived.LaidMore
import Derived.Lay
import Derived.SevenTiedAt
import Derived.Stop.Joined
namespace Go.Proofs.YtbdacbcpniegiaaDoor
open Go Go.ChangeShapes Go.WideShapes Go.ChangeAt Go.RowKit
set_option maxRecDepth 100000
theorem backOwn : ownKnob Tryd.prog.godebug = none := by kernel_rfl
theorem backLaidOut : laidOutB Tryd.prog = true := by kernel_rfl
theorem backLifted (os : Os) (started : os.Started) (H : Type) (enc : TypeId × Value → H) :
    ReturnsInHanded {} Tryd.checked os 12 .any (fun w args => (Rows.resourceBackSpec.pre enc Tryd.prog Tryd.f12 Rows.resourceBackRow.domain false w args ∧ laidMetH Tryd.prog Rows.resourceBackRow.laid w) ∧ sizedMet enc Tryd.prog Tryd.f12 (OpenSpec.ofChange Rows.resourceBackSpec) false w args)
      (Rows.resourceBackSpec.post enc Tryd.prog Tryd.f12 false true false false) := by
  refine returnsInHanded_of_change_and (C := Tryd.checked) (X := fun w _ => laidMetH Tryd.prog Rows.resourceBackRow.laid w) (fun _ _ _ hh h => h.of_heap hh) backOwn started (by kernel_rfl) Tryd.func12
    (ChangeSpec.witness_shaped (enc := enc) (C := Tryd.checked) (os := os) (X := fun w _ => laidMetH Tryd.prog Rows.resourceBackRow.laid w) false (World.laidAll Tryd.prog os Rows.resourceBackRow.laid) #[.agg #[.int .i64 0, .string ByteArray.empty, .int .u64 0, .bool false, .string ByteArray.empty, .bool false, .int .u8 0], .int .u16 0, .int .u64 0, .int .u16 0] 8 (World.laidAll_os _ _ _)
      (World.shaped_of_ZipB (by kernel_rfl) (by kernel_rfl)) (by kernel_rfl) (by kernel_rfl) (by kernel_rfl)
      (by rw [MakeChecks.laidMetH_plain _ _ _ (by kernel_rfl)]; exact laidMet_laidAll _ (by kernel_rfl) (by kernel_rfl))) ?_
  intro W base args ds gs before hval0 hW hc _ hL _
  have hval : ∀ (j : Nat) t v, Tryd.f12.params[j]? = some t → args[j]? = some v → Value.okWide Tryd.prog W .any base t v := hval0
  have hW' := hW
  obtain ⟨p, q, hA0, hV, rfl, _, _⟩ := hW
  have hA : DataW.TrodAll enc Tryd.prog W 0 (fun _ => true) true Tryd.f12.params.toList args.toList ds p := hA0
  rw [Tryd.params12] at hA hval
  obtain ⟨v0, vs0, d0, ds0, p0, q0, hargs, rfl, rfl, h0, r0⟩ := trodAll_cons hA
  obtain ⟨v1, vs1, d1, ds1, p1, q1, rfl, rfl, rfl, h1, r1⟩ := trodAll_cons r0
  obtain ⟨v2, vs2, d2, ds2, p2, q2, rfl, rfl, rfl, h2, r2⟩ := trodAll_cons r1
  obtain ⟨v3, vs3, d3, ds3, p3, q3, rfl, rfl, rfl, h3, r3⟩ := trodAll_cons r2
  obtain ⟨rfl, rfl, rfl⟩ := trodAll_nil r3
  obtain rfl : args = #[v0, v1, v2, v3] := by cases args; simp_all
  obtain ⟨rfl, rfl⟩ := trodVars_none hV
  obtain ⟨cs0, rfl, _⟩ := okWide_struct Tryd.underlying96 (hval 0 96 v0 rfl rfl)
  have lt0 : ∀ x ∈ p0, x.block < W.heap.size := by obtain ⟨m, hm⟩ := h0; exact DataW.trod_lt m _ _ _ hm
  obtain ⟨y0, hy0, hx0⟩ := Q.thing_in h0
  subst hx0
  obtain ⟨x1, rfl, rfl, rfl, w1⟩ := open_int Tryd.underlying103 (hval 1 103 v1 rfl rfl) h1
  have b1 := u16_of w1
  obtain ⟨a1, rfl⟩ : ∃ a : Nat, x1 = a := ⟨x1.toNat, by omega⟩
  obtain ⟨x2, rfl, rfl, rfl, w2⟩ := open_int Tryd.underlying22 (hval 2 22 v2 rfl rfl) h2
  have b2 := u64_of w2
  obtain ⟨a2, rfl⟩ : ∃ a : Nat, x2 = a := ⟨x2.toNat, by omega⟩
  obtain ⟨x3, rfl, rfl, rfl, w3⟩ := open_int Tryd.underlying103 (hval 3 103 v3 rfl rfl) h3
  have b3 := u16_of w3
  obtain ⟨a3, rfl⟩ : ∃ a : Nat, x3 = a := ⟨x3.toNat, by omega⟩
  obtain ⟨e, he, hG⟩ := Q.gw_of_laid (by rw [← MakeChecks.laidMetH_plain _ _ _ (by kernel_rfl)]; exact hL)
  refine (Q.back_any y0 hy0 a1 (by omega) a2 (by omega) a3 (by omega) W he hG).mono fun e W' ⟨he, hb⟩ => ?_
  subst he
  exact ⟨_, rfl, _, _, _, [], _, [], hW', trodAll_mk1 (shut_bool Tryd.underlying4 _), (trodAll_cons_mk (Below.trod backLaidOut (by kernel_rfl) (of_decide_eq_true (by kernel_rfl)) h0 hb lt0) (trodAll_cons_mk (shut_int Tryd.underlying103 w1) (trodAll_cons_mk (shut_int Tryd.underlying22 w2) (trodAll_cons_mk (shut_int Tryd.underlying103 w3) trodAll_mk0)))), rfl, hb.frame _, fun h => by cases h⟩
theorem backSaid : Rows.ResourceBackSaid :=
  OpenClaim.holds_of_wide 12 Tryd.f12 rfl rfl rfl rfl rfl rfl rfl ⟨rfl, rfl, rfl, rfl, rfl⟩ rfl rfl rfl rfl rfl (by kernel_rfl) Tryd.func12 (by kernel_rfl)
    (of_decide_eq_true (by kernel_rfl)) (by unfold Func.isWrapper; first | (rw [if_pos (by decide +kernel)]; kernel_rfl) | (rw [if_neg (by decide +kernel)]; exact ⟨rfl, rfl⟩))
    (fun os started H enc _ => backLifted os started H enc)
theorem backPlain (f : FuncId) (fn : Func) (hf : Tryd.pinned.checked.prog.funcNamed "noria/norialaw04.ResourceBack" = some f) (hfn : Tryd.pinned.checked.prog.funcs[f]? = some fn) :
    true = Tryd.pinned.checked.prog.looks [] ∧ ∀ (j : Nat) t, fn.params[j]? = some t → Tryd.pinned.checked.prog.wantsStandIn t = false := by
  obtain rfl : f = 12 := Option.some.inj ((show Tryd.prog.funcNamed "noria/norialaw04.ResourceBack" = some 12 by kernel_rfl).symm.trans hf) |>.symm
  obtain rfl : fn = Tryd.f12 := (Option.some.inj (Tryd.func12.symm.trans hfn)).symm
  refine ⟨by kernel_rfl, fun j t ht => ?_⟩
  rw [Tryd.params12] at ht
  have hm : t ∈ [96, 103, 22, 103] := by simpa using Array.mem_of_getElem? ht
  have hall : ([96, 103, 22, 103].all fun u => !Tryd.prog.wantsStandIn u) = true := by kernel_rfl
  exact (show Tryd.prog.wantsStandIn t = false by simpa using List.all_eq_true.1 hall t hm)
theorem backCard : Rows.ResourceBackCardSaid :=
  Claim7.holds_tied_plain_at .later [] _ _ _ _ backSaid (fun _ h => by cases h) (by kernel_rfl) (fun _ h => by cases h) resourceBack_row_tie rfl ⟨rfl, rfl⟩ (by kernel_rfl) rfl backPlain (by kernel_rfl)
#print axioms backCard
end Go.Proofs.YtbdacbcpniegiaaDoor
