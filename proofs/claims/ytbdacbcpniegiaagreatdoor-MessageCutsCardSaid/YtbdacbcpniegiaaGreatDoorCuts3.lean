/- The tied card of MessageCuts: for every request and response by their parts and every number the law returns true. Conditions: the tables of Go's library and the four errors that the row lists are as the program's text lays them. -/
import Derived.Test.YtbdacbcpniegiaaGreatDoorCuts2
import Derived.Test.YtbdacbcpniegiaaGreatDoorTie
import Derived.Test.YtbdacbcpniegiaaGreatDoorCards
import Derived.Carry
import Derived.LaidMore
import Derived.Lay
import Derived.SevenTiedAt
import Derived.Stop.Joined
set_option maxRecDepth 100000
set_option maxHeartbeats 64000000
set_option linter.unusedSimpArgs false
set_option linter.unusedVariables false
namespace Go.Proofs.YtbdacbcpniegiaaGreatDoor
open Go Go.ChangeShapes Go.WideShapes Go.ChangeAt Go.RowKit
theorem cutsOwn : ownKnob Tryz.prog.godebug = none := by kernel_rfl
theorem cutsLaidOut : laidOutB Tryz.prog = true := by kernel_rfl
theorem cutsLifted (os : Os) (started : os.Started) (H : Type) (enc : TypeId × Value → H) :
    ReturnsInHanded {} Tryz.checked os 6 .any (fun w args => (Rows.messageCutsSpec.pre enc Tryz.prog Tryz.f6 Rows.messageCutsRow.domain false w args ∧ laidMetH Tryz.prog Rows.messageCutsRow.laid w) ∧ sizedMet enc Tryz.prog Tryz.f6 (OpenSpec.ofChange Rows.messageCutsSpec) false w args)
      (Rows.messageCutsSpec.post enc Tryz.prog Tryz.f6 false true false false) := by
  refine returnsInHanded_of_change_and (C := Tryz.checked) (X := fun w _ => laidMetH Tryz.prog Rows.messageCutsRow.laid w) (fun _ _ _ hh h => h.of_heap hh) cutsOwn started (by kernel_rfl) Tryz.func6
    (ChangeSpec.witness_shaped (enc := enc) (C := Tryz.checked) (os := os) (X := fun w _ => laidMetH Tryz.prog Rows.messageCutsRow.laid w) false (World.laidAll Tryz.prog os Rows.messageCutsRow.laid) #[.agg #[.int .i64 0,.bool false,.int .u64 0,.slice none 0 0,.slice none 0 0,.slice none 0 0,.string ByteArray.empty,.bool false,.slice none 0 0,.slice none 0 0],.agg #[.int .i64 0,.bool false,.bool false,.int .u64 0,.int .u64 0,.slice none 0 0,.slice none 0 0,.bool false,.slice none 0 0,.slice none 0 0],.int .u16 0] 8 (World.laidAll_os _ _ _)
      (World.shaped_of_ZipB (by kernel_rfl) (by kernel_rfl)) (by kernel_rfl) (by kernel_rfl) (by kernel_rfl)
      (by rw [MakeChecks.laidMetH_plain _ _ _ (by kernel_rfl)];exact laidMet_laidAll _ (by kernel_rfl) (by kernel_rfl))) ?_
  intro W base args ds gs before hval0 hW hc hsz hL _
  have hval : ∀ (j : Nat) t v,Tryz.f6.params[j]? = some t → args[j]? = some v → Value.okWide Tryz.prog W .any base t v := hval0
  have hW' := hW
  obtain ⟨p,q,hA0,hV,rfl,_,_⟩ := hW
  have hA : DataW.TrodAll enc Tryz.prog W 0 (fun _ => true) true Tryz.f6.params.toList args.toList ds p := hA0
  rw [Tryz.params6] at hA hval
  obtain ⟨v0,vs0,d0,ds0,p0,q0,hargs,rfl,rfl,h0,r0⟩ := trodAll_cons hA
  obtain ⟨v1,vs1,d1,ds1,p1,q1,rfl,rfl,rfl,h1,r1⟩ := trodAll_cons r0
  obtain ⟨v2,vs2,d2,ds2,p2,q2,rfl,rfl,rfl,h2,r2⟩ := trodAll_cons r1
  obtain ⟨rfl,rfl,rfl⟩ := trodAll_nil r2
  obtain rfl : args = #[v0,v1,v2] := by cases args;simp_all
  obtain ⟨rfl,rfl⟩ := trodVars_none hV
  obtain ⟨cs0,rfl,_⟩ := okWide_struct Tryz.underlying29 (hval 0 29 v0 rfl rfl)
  have lt0 : ∀ x ∈ p0,x.block < W.heap.size := by obtain ⟨m,hm⟩ := h0;exact DataW.trod_lt m _ _ _ hm
  obtain ⟨y0,hy0,hx0⟩ := Q.ask_in h0
  subst hx0
  obtain ⟨cs1,rfl,_⟩ := okWide_struct Tryz.underlying70 (hval 1 70 v1 rfl rfl)
  have lt1 : ∀ x ∈ p1,x.block < W.heap.size := by obtain ⟨m,hm⟩ := h1;exact DataW.trod_lt m _ _ _ hm
  obtain ⟨y1,hy1,hx1⟩ := Q.tell_in h1
  subst hx1
  obtain ⟨x2,rfl,rfl,rfl,w2⟩ := open_int Tryz.underlying84 (hval 2 84 v2 rfl rfl) h2
  have b2 := u16_of w2
  obtain ⟨a2,rfl⟩ : ∃ a : Nat,x2 = a := ⟨x2.toNat,by omega⟩
  obtain ⟨e,he,hG⟩ := Q.ge_of_laid (by rw [← MakeChecks.laidMetH_plain _ _ _ (by kernel_rfl)];exact hL)
  clear hsz
  refine (Q.cuts_any y0 y1 a2 (by omega) W hy0 hy1 he hG).mono fun e W' ⟨he,hb⟩ => ?_
  subst he
  exact ⟨_,rfl,_,_,_,[],_,[],hW',trodAll_mk1 (shut_bool Tryz.underlying4 _),(trodAll_cons_mk (Below.trod cutsLaidOut (by kernel_rfl) (of_decide_eq_true (by kernel_rfl)) h0 hb lt0) (trodAll_cons_mk (Below.trod cutsLaidOut (by kernel_rfl) (of_decide_eq_true (by kernel_rfl)) h1 hb lt1) (trodAll_cons_mk (shut_int Tryz.underlying84 w2) trodAll_mk0))),rfl,hb.frame _,fun h => by cases h⟩
theorem cutsSaid : Rows.MessageCutsSaid :=
  OpenClaim.holds_of_wide 6 Tryz.f6 rfl rfl rfl rfl rfl rfl rfl ⟨rfl,rfl,rfl,rfl,rfl⟩ rfl rfl rfl rfl rfl (by kernel_rfl) Tryz.func6 (by kernel_rfl)
    (of_decide_eq_true (by kernel_rfl)) (by unfold Func.isWrapper;first | (rw [if_pos (by decide +kernel)];kernel_rfl) | (rw [if_neg (by decide +kernel)];exact ⟨rfl,rfl⟩))
    (fun os started H enc _ => cutsLifted os started H enc)
theorem cutsPlain (f : FuncId) (fn : Func) (hf : Tryz.pinned.checked.prog.funcNamed "noria/norialaw05.MessageCuts" = some f) (hfn : Tryz.pinned.checked.prog.funcs[f]? = some fn) :
    true = Tryz.pinned.checked.prog.looks [] ∧ ∀ (j : Nat) t,fn.params[j]? = some t → Tryz.pinned.checked.prog.wantsStandIn t = false := by
  obtain rfl : f = 6 := Option.some.inj ((show Tryz.prog.funcNamed "noria/norialaw05.MessageCuts" = some 6 by kernel_rfl).symm.trans hf) |>.symm
  obtain rfl : fn = Tryz.f6 := (Option.some.inj (Tryz.func6.symm.trans hfn)).symm
  refine ⟨by kernel_rfl,fun j t ht => ?_⟩
  rw [Tryz.params6] at ht
  have hm : t ∈ [29,70,84] := by simpa using Array.mem_of_getElem? ht
  have hall : ([29,70,84].all fun u => !Tryz.prog.wantsStandIn u) = true := by kernel_rfl
  exact (show Tryz.prog.wantsStandIn t = false by simpa using List.all_eq_true.1 hall t hm)
theorem cutsCard : Rows.MessageCutsCardSaid :=
  Claim7.holds_tied_plain_at .later [] _ _ _ _ cutsSaid (fun _ h => by cases h) (by kernel_rfl) (fun _ h => by cases h) messageCuts_row_tie rfl ⟨rfl,rfl⟩ (by kernel_rfl) rfl cutsPlain (by kernel_rfl)
#print axioms cutsCard
end Go.Proofs.YtbdacbcpniegiaaGreatDoor
