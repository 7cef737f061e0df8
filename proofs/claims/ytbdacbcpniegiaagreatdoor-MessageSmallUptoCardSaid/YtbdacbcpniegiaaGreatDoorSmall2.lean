/- The second form's tied card of MessageSmall (what it reads is of bulk at most 1048576): for every status, number and text, and every bend of a text the law returns true. Conditions: the tables of Go's library and the four errors that the row lists are as the program's text lays them. -/
import Derived.Test.YtbdacbcpniegiaaGreatDoorSmall1
import Derived.Test.YtbdacbcpniegiaaGreatDoorTie
import Derived.Test.YtbdacbcpniegiaaGreatDoorCards
import Derived.Carry
import Derived.LaidMore
import Derived.Lay
import Derived.SevenTiedAt
import Derived.Stop.Joined
import Derived.Deep.DeepHandedRow
set_option maxRecDepth 100000
set_option maxHeartbeats 64000000
set_option linter.unusedSimpArgs false
set_option linter.unusedVariables false
namespace Go.Proofs.YtbdacbcpniegiaaGreatDoor
open Go Go.ChangeShapes Go.WideShapes Go.ChangeAt Go.RowKit
theorem smallOwn : ownKnob Tryz.prog.godebug = none := by kernel_rfl
theorem smallLaidOut : laidOutB Tryz.prog = true := by kernel_rfl
theorem smallReads (os : Os) {H : Type} (enc : TypeId × Value → H) : ∃ places,DataW.whole enc Tryz.prog ((World.laidAll Tryz.prog os Rows.messageSmallUptoRow.laid).forCall (fun _ _ => 0) ⟨#[],#[.agg #[.int .i64 0,.string ByteArray.empty,.int .u64 0,.bool false,.string ByteArray.empty],.bool false,.int .u64 0,.string ByteArray.empty,.int .u8 0,.int .i64 0,.int .u8 0],[]⟩).memory Tryz.f4.params.toList (Rows.OpenSpec.upto Rows.messageSmallSpec).vars false (#[.agg #[.int .i64 0,.string ByteArray.empty,.int .u64 0,.bool false,.string ByteArray.empty],.bool false,.int .u64 0,.string ByteArray.empty,.int .u8 0,.int .i64 0,.int .u8 0] : Array Value).toList 8 = some ([.agg [.agg [.lit (.int .i64 0),.lit (.string [])],.lit (.int .u64 0),.lit (.bool false),.lit (.string [])],.lit (.bool false),.lit (.int .u64 0),.lit (.string []),.lit (.int .u8 0),.lit (.int .i64 0),.lit (.int .u8 0)],[],places) :=
  ⟨[],by kernel_rfl⟩
theorem smallOk (os : Os) : Input.okWideB Tryz.prog ((World.laidAll Tryz.prog os Rows.messageSmallUptoRow.laid).forCall (fun _ _ => 0) ⟨#[],#[.agg #[.int .i64 0,.string ByteArray.empty,.int .u64 0,.bool false,.string ByteArray.empty],.bool false,.int .u64 0,.string ByteArray.empty,.int .u8 0,.int .i64 0,.int .u8 0],[]⟩) 4 ⟨#[],#[.agg #[.int .i64 0,.string ByteArray.empty,.int .u64 0,.bool false,.string ByteArray.empty],.bool false,.int .u64 0,.string ByteArray.empty,.int .u8 0,.int .i64 0,.int .u8 0],[]⟩ = true := by kernel_rfl
theorem smallLifted (os : Os) (started : os.Started) (H : Type) (enc : TypeId × Value → H) (Fi : Stop.Interp) :
    ReturnsInHanded {} Tryz.checked os 4 .any ((Rows.OpenSpec.upto Rows.messageSmallSpec).preRow enc Tryz.prog Tryz.f4 Rows.messageSmallUptoRow.domain false Rows.messageSmallUptoRow.laid) (((Rows.OpenSpec.upto Rows.messageSmallSpec).at Fi).post enc Tryz.prog Tryz.f4 false true false false) := by
  obtain ⟨places,hx⟩ := smallReads os enc
  refine returnsInHanded_of_row (C := Tryz.checked) (s := (Rows.OpenSpec.upto Rows.messageSmallSpec)) smallOwn started (by kernel_rfl) Tryz.func4
    ⟨(World.laidAll Tryz.prog os Rows.messageSmallUptoRow.laid),fun _ _ => 0,⟨#[],#[.agg #[.int .i64 0,.string ByteArray.empty,.int .u64 0,.bool false,.string ByteArray.empty],.bool false,.int .u64 0,.string ByteArray.empty,.int .u8 0,.int .i64 0,.int .u8 0],[]⟩,World.laidAll_os _ _ _,World.shaped_of_ZipB (by kernel_rfl) (by kernel_rfl),(Input.okWide_of_okWideB (base := 0) (smallOk os)).1,(Input.okWide_of_okWideB (smallOk os)).2,
      OpenSpec.preRow_of_cond 8 hx (by kernel_rfl) (fun k hk => by cases hk;kernel_rfl) (by kernel_rfl) (by rw [MakeChecks.laidMetH_plain _ _ _ (by kernel_rfl)];exact laidMet_laidAll _ (by kernel_rfl) (by kernel_rfl)),by
      simp only [Assume.holds]
      exact ⟨by simp,by simp,fun _ => Modest.zero,by simp,by simp⟩⟩ ?_
  intro W base args ds gs before hval0 hW hc hk hsz hL _ _
  have hval : ∀ (j : Nat) t v,Tryz.f4.params[j]? = some t → args[j]? = some v → Value.okWide Tryz.prog W .any base t v := hval0
  have hW' := hW
  obtain ⟨p,q,hA0,hV,rfl,_,_⟩ := hW
  have hA : DataW.TrodAll enc Tryz.prog W 0 (fun _ => true) true Tryz.f4.params.toList args.toList ds p := hA0
  rw [Tryz.params4] at hA hval
  obtain ⟨v0,vs0,d0,ds0,p0,q0,hargs,rfl,rfl,h0,r0⟩ := trodAll_cons hA
  obtain ⟨v1,vs1,d1,ds1,p1,q1,rfl,rfl,rfl,h1,r1⟩ := trodAll_cons r0
  obtain ⟨v2,vs2,d2,ds2,p2,q2,rfl,rfl,rfl,h2,r2⟩ := trodAll_cons r1
  obtain ⟨v3,vs3,d3,ds3,p3,q3,rfl,rfl,rfl,h3,r3⟩ := trodAll_cons r2
  obtain ⟨v4,vs4,d4,ds4,p4,q4,rfl,rfl,rfl,h4,r4⟩ := trodAll_cons r3
  obtain ⟨v5,vs5,d5,ds5,p5,q5,rfl,rfl,rfl,h5,r5⟩ := trodAll_cons r4
  obtain ⟨v6,vs6,d6,ds6,p6,q6,rfl,rfl,rfl,h6,r6⟩ := trodAll_cons r5
  obtain ⟨rfl,rfl,rfl⟩ := trodAll_nil r6
  obtain rfl : args = #[v0,v1,v2,v3,v4,v5,v6] := by cases args;simp_all
  obtain ⟨rfl,rfl⟩ := trodVars_none hV
  obtain ⟨cs0,rfl,_⟩ := okWide_struct Tryz.underlying52 (hval 0 52 v0 rfl rfl)
  have lt0 : ∀ x ∈ p0,x.block < W.heap.size := by obtain ⟨m,hm⟩ := h0;exact DataW.trod_lt m _ _ _ hm
  obtain ⟨y0,hy0,hx0⟩ := Q.stat_in h0
  subst hx0
  obtain ⟨x1,rfl,rfl,rfl⟩ := open_bool Tryz.underlying4 (hval 1 4 v1 rfl rfl) h1
  obtain ⟨x2,rfl,rfl,rfl,w2⟩ := open_int Tryz.underlying22 (hval 2 22 v2 rfl rfl) h2
  have b2 := u64_of w2
  obtain ⟨a2,rfl⟩ : ∃ a : Nat,x2 = a := ⟨x2.toNat,by omega⟩
  obtain ⟨x3,rfl,rfl,rfl,w3⟩ := Go.ChangeMaps.open_string Tryz.underlying9 (hval 3 9 v3 rfl rfl) h3
  obtain ⟨l3,rfl⟩ : ∃ l : List UInt8,x3 = Go.Sx.B l := ⟨x3.data.toList,by obtain ⟨⟨x⟩⟩ := x3;rfl⟩
  obtain ⟨x4,rfl,rfl,rfl,w4⟩ := open_int Tryz.underlying5 (hval 4 5 v4 rfl rfl) h4
  have b4 := u8_of w4
  obtain ⟨a4,rfl⟩ : ∃ a : Nat,x4 = a := ⟨x4.toNat,by omega⟩
  obtain ⟨x5,rfl,rfl,rfl,w5⟩ := open_int Tryz.underlying3 (hval 5 3 v5 rfl rfl) h5
  have b5 := i64_of w5
  obtain ⟨x6,rfl,rfl,rfl,w6⟩ := open_int Tryz.underlying5 (hval 6 5 v6 rfl rfl) h6
  have b6 := u8_of w6
  obtain ⟨a6,rfl⟩ : ∃ a : Nat,x6 = a := ⟨x6.toNat,by omega⟩
  obtain ⟨e,he,hG⟩ := Q.ge_of_laid (by rw [← MakeChecks.laidMetH_plain _ _ _ (by kernel_rfl)];exact hL)
  clear hsz
  have hbk := of_decide_eq_true (hk _ rfl)
  clear hk
  simp only [List.append_nil,Rows.uptoBulkAll,Rows.uptoBulk] at hbk
  have hl3 : l3.length ≤ 1048576 := by have e1 : (Go.Sx.B l3).data.toList = l3 := by simp [Go.Sx.B]
                                       rw [e1] at hbk;omega
  obtain ⟨u6,rfl⟩ : ∃ u : UInt8,a6 = u.toNat := ⟨UInt8.ofNat a6,by simp [UInt8.toNat_ofNat'];omega⟩
  refine (Q.small_any y0 hy0 x1 a2 (by omega) l3 hl3 a4 x5 (by omega) (by omega) u6 W he hG).mono fun e W' ⟨he,hb⟩ => ?_
  subst he
  exact ⟨_,rfl,_,_,_,[],_,[],hW',trodAll_mk1 (shut_bool Tryz.underlying4 _),(trodAll_cons_mk (Below.trod smallLaidOut (by kernel_rfl) (of_decide_eq_true (by kernel_rfl)) h0 hb lt0) (trodAll_cons_mk (shut_bool Tryz.underlying4 _) (trodAll_cons_mk (shut_int Tryz.underlying22 w2) (trodAll_cons_mk (Go.ChangeMaps.shut_string Tryz.underlying9 w3) (trodAll_cons_mk (shut_int Tryz.underlying5 w4) (trodAll_cons_mk (shut_int Tryz.underlying3 w5) (trodAll_cons_mk (shut_int Tryz.underlying5 w6) trodAll_mk0))))))),rfl,hb.frame _,fun h => by cases h⟩
theorem smallSaid : Rows.MessageSmallUptoSaid :=
  OpenClaim.holds_of_cond 4 Tryz.f4 rfl rfl rfl rfl rfl rfl rfl ⟨rfl,rfl,rfl,rfl,rfl⟩ rfl rfl rfl rfl rfl (by kernel_rfl) Tryz.func4 (by kernel_rfl)
    (of_decide_eq_true (by kernel_rfl)) (by unfold Func.isWrapper;first | (rw [if_pos (by decide +kernel)];kernel_rfl) | (rw [if_neg (by decide +kernel)];exact ⟨rfl,rfl⟩))
    (fun os started H enc _ Fi => by rw [OpenClaim.pre_eq_preRow];exact smallLifted os started H enc Fi)
theorem smallPlain (f : FuncId) (fn : Func) (hf : Tryz.pinned.checked.prog.funcNamed "noria/norialaw05.MessageSmall" = some f) (hfn : Tryz.pinned.checked.prog.funcs[f]? = some fn) :
    true = Tryz.pinned.checked.prog.looks [] ∧ ∀ (j : Nat) t,fn.params[j]? = some t → Tryz.pinned.checked.prog.wantsStandIn t = false := by
  obtain rfl : f = 4 := Option.some.inj ((show Tryz.prog.funcNamed "noria/norialaw05.MessageSmall" = some 4 by kernel_rfl).symm.trans hf) |>.symm
  obtain rfl : fn = Tryz.f4 := (Option.some.inj (Tryz.func4.symm.trans hfn)).symm
  refine ⟨by kernel_rfl,fun j t ht => ?_⟩
  rw [Tryz.params4] at ht
  have hm : t ∈ [52,4,22,9,5,3,5] := by simpa using Array.mem_of_getElem? ht
  have hall : ([52,4,22,9,5,3,5].all fun u => !Tryz.prog.wantsStandIn u) = true := by kernel_rfl
  exact (show Tryz.prog.wantsStandIn t = false by simpa using List.all_eq_true.1 hall t hm)
theorem smallCard : Rows.MessageSmallUptoCardSaid :=
  Claim7.holds_tied_plain_at .later [] _ _ _ _ smallSaid (fun _ h => by cases h) (by kernel_rfl) (fun _ h => by cases h) messageSmallUpto_row_tie rfl ⟨rfl,rfl⟩ (by kernel_rfl) rfl smallPlain (by kernel_rfl)
#print axioms smallCard
end Go.Proofs.YtbdacbcpniegiaaGreatDoor
