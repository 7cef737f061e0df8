/- The second form's tied card of ResourceCodes (what it reads is of bulk at most 1048576): for every thing, every text, every bend of a text the law returns true. Conditions: the tables of Go's library and the two errors that the row lists are as the program's text lays them. -/
import Derived.Test.YtbdacbcpniegiaaDoorCodes1
import Derived.Test.YtbdacbcpniegiaaDoorTie
import Derived.Test.YtbdacbcpniegiaaDoorCards
import Derived.Carry
import Derived.LaidMore
import Derived.Lay
import Derived.SevenTiedAt
import Derived.Stop.Joined
import Derived.Deep.DeepHandedRow
set_option maxRecDepth 100000
set_option maxHeartbeats 64000000
set_option linter.unusedSimpArgs false
set_option linter.unusedVariables false
namespace Go.Proofs.YtbdacbcpniegiaaDoor
open Go Go.ChangeShapes Go.WideShapes Go.ChangeAt Go.RowKit
theorem codesOwn : ownKnob Tryd.prog.godebug = none := by kernel_rfl
theorem codesLaidOut : laidOutB Tryd.prog = true := by kernel_rfl
theorem codesReads (os : Os) {H : Type} (enc : TypeId × Value → H) : ∃ places, DataW.whole enc Tryd.prog ((World.laidAll Tryd.prog os Rows.resourceCodesUptoRow.laid).forCall (fun _ _ => 0) ⟨#[], #[.agg #[.int .i64 0, .string ByteArray.empty, .int .u64 0, .bool false, .string ByteArray.empty, .bool false, .int .u8 0], .string ByteArray.empty, .bool false, .int .i64 0, .int .u8 0], []⟩).memory Tryd.f11.params.toList (Rows.OpenSpec.upto Rows.resourceCodesSpec).vars false (#[.agg #[.int .i64 0, .string ByteArray.empty, .int .u64 0, .bool false, .string ByteArray.empty, .bool false, .int .u8 0], .string ByteArray.empty, .bool false, .int .i64 0, .int .u8 0] : Array Value).toList 8 = some ([.agg [.agg [.agg [.lit (.int .i64 0), .lit (.string [])], .lit (.int .u64 0), .lit (.bool false), .lit (.string [])], .lit (.bool false), .lit (.int .u8 0)], .lit (.string []), .lit (.bool false), .lit (.int .i64 0), .lit (.int .u8 0)], [], places) :=
  ⟨[], by kernel_rfl⟩
theorem codesOk (os : Os) : Input.okWideB Tryd.prog ((World.laidAll Tryd.prog os Rows.resourceCodesUptoRow.laid).forCall (fun _ _ => 0) ⟨#[], #[.agg #[.int .i64 0, .string ByteArray.empty, .int .u64 0, .bool false, .string ByteArray.empty, .bool false, .int .u8 0], .string ByteArray.empty, .bool false, .int .i64 0, .int .u8 0], []⟩) 11 ⟨#[], #[.agg #[.int .i64 0, .string ByteArray.empty, .int .u64 0, .bool false, .string ByteArray.empty, .bool false, .int .u8 0], .string ByteArray.empty, .bool false, .int .i64 0, .int .u8 0], []⟩ = true := by kernel_rfl
theorem codesLifted (os : Os) (started : os.Started) (H : Type) (enc : TypeId × Value → H) (Fi : Stop.Interp) :
    ReturnsInHanded {} Tryd.checked os 11 .any ((Rows.OpenSpec.upto Rows.resourceCodesSpec).preRow enc Tryd.prog Tryd.f11 Rows.resourceCodesUptoRow.domain false Rows.resourceCodesUptoRow.laid) (((Rows.OpenSpec.upto Rows.resourceCodesSpec).at Fi).post enc Tryd.prog Tryd.f11 false true false false) := by
  obtain ⟨places, hx⟩ := codesReads os enc
  refine returnsInHanded_of_row (C := Tryd.checked) (s := (Rows.OpenSpec.upto Rows.resourceCodesSpec)) codesOwn started (by kernel_rfl) Tryd.func11
    ⟨(World.laidAll Tryd.prog os Rows.resourceCodesUptoRow.laid), fun _ _ => 0, ⟨#[], #[.agg #[.int .i64 0, .string ByteArray.empty, .int .u64 0, .bool false, .string ByteArray.empty, .bool false, .int .u8 0], .string ByteArray.empty, .bool false, .int .i64 0, .int .u8 0], []⟩, World.laidAll_os _ _ _, World.shaped_of_ZipB (by kernel_rfl) (by kernel_rfl), (Input.okWide_of_okWideB (base := 0) (codesOk os)).1, (Input.okWide_of_okWideB (codesOk os)).2,
      OpenSpec.preRow_of_cond 8 hx (by kernel_rfl) (fun k hk => by cases hk; kernel_rfl) (by kernel_rfl) (by rw [MakeChecks.laidMetH_plain _ _ _ (by kernel_rfl)]; exact laidMet_laidAll _ (by kernel_rfl) (by kernel_rfl)), by
      simp only [Assume.holds]
      exact ⟨by simp, by simp, fun _ => Modest.zero, by simp, by simp⟩⟩ ?_
  intro W base args ds gs before hval0 hW hc hk hsz hL _ _
  have hval : ∀ (j : Nat) t v, Tryd.f11.params[j]? = some t → args[j]? = some v → Value.okWide Tryd.prog W .any base t v := hval0
  have hW' := hW
  obtain ⟨p, q, hA0, hV, rfl, _, _⟩ := hW
  have hA : DataW.TrodAll enc Tryd.prog W 0 (fun _ => true) true Tryd.f11.params.toList args.toList ds p := hA0
  rw [Tryd.params11] at hA hval
  obtain ⟨v0, vs0, d0, ds0, p0, q0, hargs, rfl, rfl, h0, r0⟩ := trodAll_cons hA
  obtain ⟨v1, vs1, d1, ds1, p1, q1, rfl, rfl, rfl, h1, r1⟩ := trodAll_cons r0
  obtain ⟨v2, vs2, d2, ds2, p2, q2, rfl, rfl, rfl, h2, r2⟩ := trodAll_cons r1
  obtain ⟨v3, vs3, d3, ds3, p3, q3, rfl, rfl, rfl, h3, r3⟩ := trodAll_cons r2
  obtain ⟨v4, vs4, d4, ds4, p4, q4, rfl, rfl, rfl, h4, r4⟩ := trodAll_cons r3
  obtain ⟨rfl, rfl, rfl⟩ := trodAll_nil r4
  obtain rfl : args = #[v0, v1, v2, v3, v4] := by cases args; simp_all
  obtain ⟨rfl, rfl⟩ := trodVars_none hV
  obtain ⟨cs0, rfl, _⟩ := okWide_struct Tryd.underlying96 (hval 0 96 v0 rfl rfl)
  have lt0 : ∀ x ∈ p0, x.block < W.heap.size := by obtain ⟨m, hm⟩ := h0; exact DataW.trod_lt m _ _ _ hm
  obtain ⟨y0, hy0, hx0⟩ := Q.thing_in h0
  subst hx0
  obtain ⟨x1, rfl, rfl, rfl, w1⟩ := Go.ChangeMaps.open_string Tryd.underlying9 (hval 1 9 v1 rfl rfl) h1
  obtain ⟨l1, rfl⟩ : ∃ l : List UInt8, x1 = Go.Sx.B l := ⟨x1.data.toList, by obtain ⟨⟨x⟩⟩ := x1; rfl⟩
  obtain ⟨x2, rfl, rfl, rfl⟩ := open_bool Tryd.underlying4 (hval 2 4 v2 rfl rfl) h2
  obtain ⟨x3, rfl, rfl, rfl, w3⟩ := open_int Tryd.underlying3 (hval 3 3 v3 rfl rfl) h3
  have b3 := i64_of w3
  obtain ⟨x4, rfl, rfl, rfl, w4⟩ := open_int Tryd.underlying5 (hval 4 5 v4 rfl rfl) h4
  have b4 := u8_of w4
  obtain ⟨a4, rfl⟩ : ∃ a : Nat, x4 = a := ⟨x4.toNat, by omega⟩
  obtain ⟨e, he, hG⟩ := Q.gw_of_laid (by rw [← MakeChecks.laidMetH_plain _ _ _ (by kernel_rfl)]; exact hL)
  clear hsz
  have hbk := of_decide_eq_true (hk _ rfl)
  clear hk
  simp only [List.append_nil, Rows.uptoBulkAll, Rows.uptoBulk] at hbk
  have hl1 : l1.length ≤ 1048576 := by have e1 : (Go.Sx.B l1).data.toList = l1 := by simp [Go.Sx.B]
                                       rw [e1] at hbk; omega
  obtain ⟨u4, rfl⟩ : ∃ u : UInt8, a4 = u.toNat := ⟨UInt8.ofNat a4, by simp [UInt8.toNat_ofNat']; omega⟩
  refine (Q.codes_any y0 hy0 l1 (by omega) x2 x3 (by omega) (by omega) u4 W he hG).mono fun e W' ⟨he, hb⟩ => ?_
  subst he
  exact ⟨_, rfl, _, _, _, [], _, [], hW', trodAll_mk1 (shut_bool Tryd.underlying4 _), (trodAll_cons_mk (Below.trod codesLaidOut (by kernel_rfl) (of_decide_eq_true (by kernel_rfl)) h0 hb lt0) (trodAll_cons_mk (Go.ChangeMaps.shut_string Tryd.underlying9 w1) (trodAll_cons_mk (shut_bool Tryd.underlying4 _) (trodAll_cons_mk (shut_int Tryd.underlying3 w3) (trodAll_cons_mk (shut_int Tryd.underlying5 w4) trodAll_mk0))))), rfl, hb.frame _, fun h => by cases h⟩
theorem codesSaid : Rows.ResourceCodesUptoSaid :=
  OpenClaim.holds_of_cond 11 Tryd.f11 rfl rfl rfl rfl rfl rfl rfl ⟨rfl, rfl, rfl, rfl, rfl⟩ rfl rfl rfl rfl rfl (by kernel_rfl) Tryd.func11 (by kernel_rfl)
    (of_decide_eq_true (by kernel_rfl)) (by unfold Func.isWrapper; first | (rw [if_pos (by decide +kernel)]; kernel_rfl) | (rw [if_neg (by decide +kernel)]; exact ⟨rfl, rfl⟩))
    (fun os started H enc _ Fi => by rw [OpenClaim.pre_eq_preRow]; exact codesLifted os started H enc Fi)
theorem codesPlain (f : FuncId) (fn : Func) (hf : Tryd.pinned.checked.prog.funcNamed "noria/norialaw04.ResourceCodes" = some f) (hfn : Tryd.pinned.checked.prog.funcs[f]? = some fn) :
    true = Tryd.pinned.checked.prog.looks [] ∧ ∀ (j : Nat) t, fn.params[j]? = some t → Tryd.pinned.checked.prog.wantsStandIn t = false := by
  obtain rfl : f = 11 := Option.some.inj ((show Tryd.prog.funcNamed "noria/norialaw04.ResourceCodes" = some 11 by kernel_rfl).symm.trans hf) |>.symm
  obtain rfl : fn = Tryd.f11 := (Option.some.inj (Tryd.func11.symm.trans hfn)).symm
  refine ⟨by kernel_rfl, fun j t ht => ?_⟩
  rw [Tryd.params11] at ht
  have hm : t ∈ [96, 9, 4, 3, 5] := by simpa using Array.mem_of_getElem? ht
  have hall : ([96, 9, 4, 3, 5].all fun u => !Tryd.prog.wantsStandIn u) = true := by kernel_rfl
  exact (show Tryd.prog.wantsStandIn t = false by simpa using List.all_eq_true.1 hall t hm)
theorem codesCard : Rows.ResourceCodesUptoCardSaid :=
  Claim7.holds_tied_plain_at .later [] _ _ _ _ codesSaid (fun _ h => by cases h) (by kernel_rfl) (fun _ h => by cases h) resourceCodesUpto_row_tie rfl ⟨rfl, rfl⟩ (by kernel_rfl) rfl codesPlain (by kernel_rfl)
#print axioms codesCard
end Go.Proofs.YtbdacbcpniegiaaDoor
