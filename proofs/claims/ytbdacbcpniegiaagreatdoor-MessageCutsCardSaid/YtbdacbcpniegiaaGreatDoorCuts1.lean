/- Own work: a part of the symbolic executor and of the walks of the functions that the claim reaches. -/
import Derived.Test.YtbdacbcpniegiaaGreatDoorBase4
import Derived.WalkKit
import Derived.ProofKit
import Derived.OpenShut
import Derived.ChangeSame
import Derived.Below
import Derived.ChangeSlices
import Derived.Test.YtbdacbcpniegiaaGreatDoorProg
import Derived.Deep.Slices
import Derived.ChangeArms
import Derived.Test.YtbdacbcpniegiaaGreatDoorRows
import Derived.LaidLaws
set_option maxRecDepth 100000
set_option maxHeartbeats 64000000
set_option linter.unusedSimpArgs false
set_option linter.unusedVariables false
namespace Go.Proofs.YtbdacbcpniegiaaGreatDoor
open Go Go.RowKit Go.ChangeShapes Go.WideShapes Go.ChangeAt
theorem u8_of {n : Int} (h : (Lit.int .u8 n).wf = true) : 0 ≤ n ∧ n < 256 := by
  simp only [Lit.wf,Bool.and_eq_true,decide_eq_true_eq] at h
  have e1 : IntKind.u8.min = 0 := rfl
  have e2 : IntKind.u8.max = 255 := rfl
  omega
theorem u64_of {n : Int} (h : (Lit.int .u64 n).wf = true) : 0 ≤ n ∧ n < 18446744073709551616 := by
  simp only [Lit.wf,Bool.and_eq_true,decide_eq_true_eq] at h
  have e1 : IntKind.u64.min = 0 := rfl
  have e2 : IntKind.u64.max = 18446744073709551615 := rfl
  omega
theorem u8row {H : Type} {enc : TypeId × Value → H} {P : Program} {W : World} {t e : TypeId} {a : Option Addr} {len cap : Nat} {d : DataW H} {p : List MemPlace} (ht : P.underlying t = some (.slice e)) (he : P.underlying e = some (.int .u8)) (hc : P.cellsOf e = 1)
    (h : DataW.Trod enc P W 0 (fun _ => true) true t (.slice a len cap) d p) :
    ∃ xs : List UInt8,len = xs.length ∧ ∀ i,i < xs.length → ∃ ad,a = some ad ∧ W.cell? (ad.add (i * 1)) = some (.int .u8 ((xs.getD i 0).toNat : Nat)) := by
  obtain ⟨fuel,hf⟩ := h
  rcases open_ints ht he hc hf with ⟨hcs,_⟩ | ⟨x,l,c,zs,hcs,_,hl,hm,hz,_,hcell,hwz⟩
  · simp [Value.cells] at hcs
    obtain ⟨rfl,rfl,rfl⟩ := hcs
    exact ⟨[],rfl,fun i hi => by simp at hi⟩
  · simp [Value.cells] at hcs
    obtain ⟨rfl,rfl,rfl⟩ := hcs
    have hz' : zs.length = cap := by simpa using hz
    refine ⟨(zs.take len).map fun z => UInt8.ofNat z.toNat,by simp;omega,fun i hi => ⟨x,rfl,?_⟩⟩
    have hi' : i < len := by simp at hi;omega
    rw [Nat.mul_one,hcell i (by omega)]
    have hw := u8_of (hwz (zs[i]'(by omega)) (List.getElem_mem _))
    have e1 : zs.getD i 0 = zs[i]'(by omega) := by rw [List.getD_eq_getElem?_getD,List.getElem?_eq_getElem (by omega)];rfl
    have e2 : ((zs.take len).map fun z => UInt8.ofNat z.toNat).getD i 0 = UInt8.ofNat (zs[i]'(by omega)).toNat := by
      rw [List.getD_eq_getElem?_getD,List.getElem?_map,List.getElem?_take,if_pos hi',List.getElem?_eq_getElem (by omega)];rfl
    rw [e1,e2]
    simp only [UInt8.toNat_ofNat',Option.some.injEq,Value.int.injEq,true_and]
    omega
end Go.Proofs.YtbdacbcpniegiaaGreatDoor
namespace Go.Proofs.YtbdacbcpniegiaaGreatDoor
open Go Go.RowKit Go.ChangeShapes Go.WideShapes Go.ChangeAt Go.Sx
structure Dd where
  kd : Nat
  nm : Nat
  t : Int
  ks : List UInt8
  q : Nat
  ok : Bool
  s : List UInt8
deriving Inhabited
def Dd.cells (d : Dd) : List Value := [.int .u8 (d.kd : Int),.int .u8 (d.nm : Int),.int .i64 d.t,.string (B d.ks),.int .u64 (d.q : Int),.bool d.ok,.string (B d.s)]
structure Dd.Ok (d : Dd) : Prop where
  kd : d.kd < 256
  nm : d.nm < 256
  t0 : -9223372036854775808 ≤ d.t
  t1 : d.t < 9223372036854775808
  ks : d.ks.length ≤ 9223372036854775807
  q : d.q < 18446744073709551616
  s : d.s.length ≤ 9223372036854775807
theorem at1 {cs : List Value} {o : Nat} {v : Value} (h : (cs.drop o).take 1 = [v]) : cs[o]? = some v := by
  have := congrArg (·[0]?) h
  simpa using this
theorem B_data (s : ByteArray) : B s.data.toList = s := by cases s;simp [B]
end Go.Proofs.YtbdacbcpniegiaaGreatDoor
namespace Go.Sx
open Go Go.RowKit
theorem SX.moveAt {X : Ctx} {c : Cfg} {code : Code} {K : Exit → Cfg → Prop} {j k i : Nat} {t e sz n : Nat} {l : List SC} {xs : List Value} (hj : c.loc[j]? = some (.cells l t)) (hk : l[k]? = some (.row i)) (hi : c.loc[i]? = some (.row e sz n xs))
    (h : SX X code ⟨c.env,(c.loc.set i .gone ++ [LO.row e sz n xs]).set j (.cells (l.set k (.row c.loc.length)) t)⟩ K) : SX X code c K := fun ρ σ a w hr => by
  obtain ⟨fp,hfp⟩ := hr.locAt hi
  obtain ⟨v,hdv⟩ := hr.hdl hfp
  obtain ⟨hd,hkk⟩ := hr.loc i _ fp _ hi hfp hdv
  have hR := hr.move (w' := w) (fp' := fp) (v' := v) (o' := .row e sz n xs) (List.getElem?_eq_some_iff.1 hi).1 hfp (Fr.refl _ _) (fun b hb => .inl hb) (hr.fpNodup hfp) ⟨hd,hkk⟩ (ownsRow_one hd)
  have hne : i ≠ j := fun e => by subst e;rw [hi] at hj;cases hj
  refine h _ _ a w (Rel.retell (l := l) hR (by rw [List.getElem?_append_left (by rw [List.length_set];exact (List.getElem?_eq_some_iff.1 hj).1),List.getElem?_set_ne hne];exact hj) (fun cs hcs => ?_))
  obtain ⟨u,hu,hdu⟩ := hcs.get hk
  have hdu : (σ ++ [v])[i]? = some u := hdu
  have hlt : i < σ.length := (List.getElem?_eq_some_iff.1 hdv).1
  rw [List.getElem?_append_left hlt,hdv] at hdu
  cases hdu
  have hs := hcs.set (i := k) (a := SC.row c.loc.length) (b := v) (by
    show (σ ++ [v])[c.loc.length]? = some v
    rw [← hr.lenS];simp)
  obtain ⟨hlt,he⟩ := List.getElem?_eq_some_iff.1 hu
  have e3 : cs.set k v = cs := by rw [← he,List.set_getElem_self hlt]
  rw [e3] at hs
  exact hs
end Go.Sx
namespace Go.Proofs.YtbdacbcpniegiaaGreatDoor
open Go Go.RowKit Go.Proofs Go.Sx
def textsB (num : Nat) (xs : List (List UInt8)) : List UInt8 := xs.flatMap (textB num)
theorem textsB_snoc (num : Nat) (xs : List (List UInt8)) (s : List UInt8) : textsB num (xs ++ [s]) = textsB num xs ++ textB num s := by simp [textsB]
theorem take_snoc (xs : List (List UInt8)) (i : Nat) (h : i < xs.length) : xs.take (i + 1) = xs.take i ++ [xs.getD i []] := by
  rw [List.take_add_one,List.getElem?_eq_getElem h,List.getD_eq_getElem?_getD,List.getElem?_eq_getElem h];rfl
theorem textsB_take (num : Nat) (xs : List (List UInt8)) (i : Nat) : (textsB num (xs.take i)).length ≤ (textsB num xs).length := by
  have e : textsB num xs = textsB num (xs.take i) ++ textsB num (xs.drop i) := by unfold textsB;rw [← List.flatMap_append,List.take_append_drop]
  rw [e,List.length_append];omega
theorem wlist_ctr (l : List UInt8) (xs : List (List UInt8)) (num : Nat) (h1 : 1 ≤ num) (h2 : num < 536870912) (hx : xs.length ≤ 1099511627776) (hs : ∀ s ∈ xs,s.length < 4294967296) (hl : l.length + (textsB num xs).length ≤ 1148000000000) :
    Ctr Tryz.prog [] 45 (bldr l ++ [srow xs]) [.one (.c (.loc 0 0)),vv (.int .i64 num),.one (.c (.row 2))]
    (fun os r => os = [.cells [.loc 0 0,.row 3] 96,.gone,srow xs,.row 5 1 (l ++ textsB num xs).length (bcells (l ++ textsB num xs))] ∧ r = .tup []) := by
  have hget : ∀ i,i < xs.length → (xs.getD i []).length < 4294967296 := fun i h => by
    rw [List.getD_eq_getElem?_getD,List.getElem?_eq_getElem h];exact hs _ (List.getElem_mem h)
  have htxt : ∀ i,i < xs.length → ∀ w : World,Calls Tryz.prog 83 #[.int .i64 num,.string (B (xs.getD i []))] w fun e w' => e = .returned (.string (B (textB num (xs.getD i [])))) ∧ Below w.heap.size w w' := fun i h w => text_any num (xs.getD i []) h1 h2 (by have := hget i h;omega) w
  have hlen : ∀ i,i < xs.length → (l ++ textsB num (xs.take i)).length + (textB num (xs.getD i [])).length ≤ 1152921504606 := fun i h => by
    have e := textsB_take num xs (i + 1)
    rw [take_snoc xs i h,textsB_snoc,List.length_append] at e
    rw [List.length_append];omega
  refine Ctr.less ?_
  intro X0 hP0 hG0 N0 hN0
  refine CallVC.inline (f := 45) (by rw [hP0];exact Tryz.func45) rfl Tryz.ntmps45 rfl (by simp) ?_
  intro X K hU hnt hbl hK
  have hP : X.P = Tryz.prog := hU.P.trans hP0
  have hG := hG0.under hU
  have hT := Ty.T45 hP
  simp only [GA,↓GB,GX,simprocAttr] at hbl ⊢
  repeat' (first|(refine SX.seqK ?_;intro N hN)|((first | (refine SX.ops ?_) | (refine SX.planT (id := 3) [.q [(0,[0]),(1,[14]),(2,[15]),(3,[1]),(4,[7]),(5,[17,18])] none,.s 6] ?_ ?_ ?_;(focus first | (rw [hP];kernel_rfl) | (rw [hU1P,hP];kernel_rfl));(focus kernel_rfl)));simp only [GA,↓GB,GX,simprocAttr,hnt,hT])|((first | refine SX.skip ?_ | refine SX.exit ?_ | refine SX.label ?_ | refine SX.ret ?_);try simp only [GA,↓GB,GX,simprocAttr])|(refine hN _ ?_;clear hN N)|((first | refine hK _ _ (FinI.ret3 ?_) | refine hK _ _ (FinI.nrm3 ?_));simp only [GA,↓GB,GX,simprocAttr,finP_s,hnt,hT];refine Done.out ?_)|(clear hN N;first | (refine hN _ ?_;clear hN N) | (clear hN N;refine hN _ ?_;clear hN N))|((first | refine SX.cond rfl (fun hb => ?_) (fun hb => ?_) | (refine bif2.mk (fun hb => ?_) (fun hb => ?_) <;> (try simp only [hb,GA,↓GB,GX,simprocAttr,hnt,hT]))) <;> ((first | cases hb | (simp only [HBs] at hb) | skip) <;> (first | (exfalso;omega) | skip)))|((first | (refine CallVC.pv hP (htxt i hlt) rfl ?_) | (refine CallQ.pv hP (htxt i hlt) rfl ?_) | (refine Ctr.use (writeString_ctr (l ++ textsB num (xs.take i)) (textB num (xs.getD i [])) (hlen i hlt)) hP ?_ [0,3] ?_ rfl rfl ?_;(focus (intro p hp;cases hp));(focus (refine LeR.of rfl trivial ?_ ?_ ?_ ?_ ?_ <;> first | decide | (simp only [GA,↓GB,GX,simprocAttr,GDs];done)));intro os' s hR;obtain ⟨rfl,rfl⟩ := hR));simp only [GA,↓GB,GX,simprocAttr,hnt,hT])|(refine SX.moveAt (j := 0) (k := 1) (i := 1) rfl rfl rfl ?_ <;> refine SX.loop (ι := { i : Nat // i ≤ xs.length }) (fun i => ⟨[(0,.one (.c (.loc 0 0))),(1,vv (.int .i64 num)),(8,.one (.c (.row 2))),(9,vv (.int .i64 xs.length)),(10,vv (.int .i64 i.1))],[.cells [.loc 0 0,.row 3] 96,.gone,srow xs,.row 5 1 (l ++ textsB num (xs.take i.1)).length (bcells (l ++ textsB num (xs.take i.1)))]⟩) (fun i => xs.length - i.1) ⟨0,Nat.zero_le _⟩ ⟨[0,1,2,3],by (refine LeR.of ?_ ?_ ?_ ?_ ?_ ?_ ?_ <;> first | (rw [hbl];decide) | decide | (simp only [GA,↓GB,GX,simprocAttr,GDs];done) | (simp only [GA,↓GB,GX,simprocAttr,GDs];first | rfl | (rw [show l ++ textsB num [] = l from List.append_nil l]);done))⟩ ?_ <;> rintro ⟨i,hi⟩ <;> simp only [] at hi ⊢ <;> rcases Nat.lt_or_eq_of_le hi with hlt | rfl <;> (try simp only [List.take_length]))|(refine ⟨_,srow_at _ _ (by omega),?_⟩ <;> (try simp only [GA,↓GB,GX,simprocAttr,hnt,hT]))|(refine SX.block ?_)|(refine and_mk ?_ ?_;(focus first | decide | omega | rfl | assumption | (simp only [LBs];omega) | (simp;done)))|(refine And.intro ?_ ?_))
  all_goals (try refine Done.mk ?_)
  · exact ⟨⟨i + 1,by omega⟩,[0,1,2,4],by (refine LeR.of ?_ ?_ ?_ ?_ ?_ ?_ ?_ <;> first | (rw [hbl];decide) | decide | (simp only [GA,↓GB,GX,simprocAttr,GDs];done) | (simp only [GA,↓GB,GX,simprocAttr,GDs];first | rfl | (rw [wI64 (by omega) (by omega)];rfl) | (simp only [take_snoc xs i hlt,textsB_snoc,List.append_assoc];done);done)),by show xs.length - (i + 1) < xs.length - i;omega⟩
  · (refine hN0 _ _ ⟨[0,1,2,3],_,_,?_,?_,?_,⟨rfl,rfl⟩⟩;(focus exact LeR.of rfl trivial (by simp only [GA,↓GB,GX,simprocAttr,GDs]) (by decide) rfl rfl rfl);rotate_left;(focus rfl))
    rfl
end Go.Proofs.YtbdacbcpniegiaaGreatDoor
namespace Go.Sx
open Go Go.RowKit
theorem Ctr.moveBldr {P : Program} {G : List (Addr × Value)} {f : FuncId} {os : List LO} {args : List SV} {R : SV → Prop} {t e sz n : Nat} {xs : List Value}
    (h : Ctr P G f os args (fun os' r => os' = [.cells [.loc 0 0,.row 1] t,.row e sz n xs] ∧ R r)) : Ctr P G f os args (fun os' r => os' = [.cells [.loc 0 0,.row 2] t,.gone,.row e sz n xs] ∧ R r) := by
  intro X hP hG N hN ρ σ a w hr vals ha
  refine (h X hP hG (fun c s => c = ⟨[],[.cells [.loc 0 0,.row 1] t,.row e sz n xs]⟩ ∧ R s) (fun os' s hR => ⟨by rw [hR.1],hR.2⟩) ρ σ a w hr vals ha).mono ?_
  rintro ev w' ⟨v,c',ρ',σ',s,rfl,hr',hd,rfl,hR⟩
  have hi : ([.cells [.loc 0 0,.row 1] t,.row e sz n xs] : List LO)[1]? = some (.row e sz n xs) := rfl
  obtain ⟨fp,hfp⟩ := hr'.locAt hi
  obtain ⟨u,hu⟩ := hr'.hdl hfp
  obtain ⟨hd1,hk⟩ := hr'.loc 1 _ fp u hi hfp hu
  have hl2 : σ'.length = 2 := hr'.lenS
  have hR1 := hr'.move (w' := w') (fp' := fp) (v' := u) (o' := .row e sz n xs) (by simp) hfp (Fr.refl _ _) (fun b hb => .inl hb) (hr'.fpNodup hfp) ⟨hd1,hk⟩ (ownsRow_one hd1)
  have hR2 := Rel.retell (l' := [.loc 0 0,.row 2]) hR1 (i := 0) (l := [.loc 0 0,.row 1]) (t := t) rfl (fun cs hcs => by
    obtain ⟨u1,hu1,hd2⟩ := hcs.get (i := 1) (a := SC.row 1) rfl
    have h1 : (σ' ++ [u])[1]? = some u1 := hd2
    rw [List.getElem?_append_left (by omega),hu] at h1
    cases h1
    have hs := hcs.set (i := 1) (a := SC.row 2) (b := u) (by
      show (σ' ++ [u])[2]? = some u
      rw [← hl2];simp)
    obtain ⟨hlt,he⟩ := List.getElem?_eq_some_iff.1 hu1
    have e3 : cs.set 1 u = cs := by rw [← he,List.set_getElem_self hlt]
    rw [e3] at hs
    exact hs)
  exact ⟨v,_,_,_,s,rfl,hR2,DV.mono (Up.append _ _) _ _ hd,hN _ _ ⟨rfl,hR⟩⟩
end Go.Sx
namespace Go.Proofs.YtbdacbcpniegiaaGreatDoor
open Go Go.RowKit Go.Proofs Go.Sx
def numZ (num n : Nat) : List UInt8 := if n = 0 then [] else numB num n
def flagZ (num : Nat) (b : Bool) : List UInt8 := if b then numB num 1 else []
theorem wnumberNo (l : List UInt8) (num : Nat) : Ctr Tryz.prog [] 43 (bldr l) [.one (.c (.loc 0 0)),vv (.int .i64 num),vv (.int .u64 0)] (fun os r => os = bldr l ∧ r = .tup []) := by
  intro X0 hP0 hG0 N0 hN0
  refine CallVC.inline (f := 43) (by rw [hP0];exact Tryz.func43) rfl Tryz.ntmps43 rfl (by simp) ?_
  intro X K hU hnt hbl hK
  have hP : X.P = Tryz.prog := hU.P.trans hP0
  have hG := hG0.under hU
  have hT := Ty.T43 hP
  simp only [GA,↓GB,GX,simprocAttr] at hbl ⊢
  repeat' (first|(refine SX.seqK ?_;intro N hN)|((first | (refine SX.ops ?_) | (refine SX.planT (id := 1) [.f 0,.f 1,.f 2,.q [(3,[1]),(4,[2])] none,.s 5,.s 6] ?_ ?_ ?_;(focus first | (rw [hP];kernel_rfl) | (rw [hU1P,hP];kernel_rfl));(focus kernel_rfl)));simp only [GA,↓GB,GX,simprocAttr,hnt,hT])|((first | refine SX.skip ?_ | refine SX.exit ?_ | refine SX.label ?_ | refine SX.ret ?_);try simp only [GA,↓GB,GX,simprocAttr])|(refine hN _ ?_;clear hN N)|((first | refine hK _ _ (FinI.ret3 ?_) | refine hK _ _ (FinI.nrm3 ?_));simp only [GA,↓GB,GX,simprocAttr,finP_s,hnt,hT];refine Done.out ?_)|((first | refine SX.cond rfl (fun hb => ?_) (fun hb => ?_) | (refine bif2.mk (fun hb => ?_) (fun hb => ?_) <;> (try simp only [hb,GA,↓GB,GX,simprocAttr,hnt,hT]))) <;> ((first | cases hb | (simp only [HBs] at hb) | skip) <;> (first | (exfalso;omega) | skip)))|(refine and_mk ?_ ?_;(focus first | decide | omega | rfl | assumption | (simp only [LBs];omega) | (simp;done)))|(refine And.intro ?_ ?_))
  all_goals (try refine Done.mk ?_)
  all_goals exact hN0 _ _ ⟨rfl,rfl⟩
theorem wnumZ (l : List UInt8) (num n : Nat) (h1 : 1 ≤ num) (h2 : num < 536870912) (hn : n < 18446744073709551616) (hl : l.length ≤ 1152921504000) :
    Ctr Tryz.prog [] 43 (bldr l) [.one (.c (.loc 0 0)),vv (.int .i64 num),vv (.int .u64 n)] (fun os r => os = bldr' (l ++ numZ num n) ∧ r = .tup []) := by
  unfold numZ
  split
  · subst n
    rw [List.append_nil]
    exact Ctr.moveBldr (R := fun r => r = .tup []) (wnumberNo l num)
  · exact wnumber_ctr l num n h1 h2 (by omega) hn hl
theorem wflagZ (l : List UInt8) (num : Nat) (b : Bool) (h1 : 1 ≤ num) (h2 : num < 536870912) (hl : l.length ≤ 1152921504000) :
    Ctr Tryz.prog [] 44 (bldr l) [.one (.c (.loc 0 0)),vv (.int .i64 num),vv (.bool b)] (fun os r => os = bldr' (l ++ flagZ num b) ∧ r = .tup []) := by
  unfold flagZ
  cases b with
  | false =>
    rw [show (if false = true then numB num 1 else []) = ([] : List UInt8) from rfl,List.append_nil]
    exact Ctr.moveBldr (R := fun r => r = .tup []) (wflag_no l num)
  | true => exact wflag_yes l num h1 h2 hl
@[reducible] def bldr0 : LO := .cells [.v (.pointer none),.v (.slice none 0 0)] 96
theorem writeString0 (s : List UInt8) (hn : s.length ≤ 1152921504606) : Ctr Tryz.prog [] 82 [bldr0] [.one (.c (.loc 0 0)),vv (.string (B s))]
    (fun os r => os = bldr s ∧ r = .tup [.c (.v (.int .i64 s.length)),.c (.v .nilIface)]) := by
  refine Ctr.less ?_
  intro X0 hP0 hG0 N0 hN0
  refine CallVC.inline (f := 82) (by rw [hP0];exact Tryz.func82) rfl Tryz.ntmps82 rfl (by simp) ?_
  intro X K hU hnt hbl hK
  have hP : X.P = Tryz.prog := hU.P.trans hP0
  have hG := hG0.under hU
  have hT := Ty.T82 hP
  simp only [GA,↓GB,GX,simprocAttr] at hbl ⊢
  have hnt1 := True.intro;have hT1 := True.intro;have hU1P := True.intro
  repeat' (first|(refine SX.seqK ?_;intro N hN)|((first | (refine SX.ops ?_));simp only [GA,↓GB,GX,simprocAttr,hnt,hT,hnt1,hT1,hU1P,Nat.zero_add])|((first | refine SX.skip ?_ | refine SX.exit ?_ | refine SX.label ?_ | refine SX.ret ?_);try simp only [GA,↓GB,GX,simprocAttr])|(refine hN _ ?_;clear hN N)|((first | refine hK1 _ _ (FinI.ret3 ?_) | refine hK1 _ _ (FinI.nrm3 ?_));(repeat (clear hN N));clear hK1 K1;simp only [GA,↓GB,GX,simprocAttr,finP_s,hnt,hT,hnt1,hT1,hU1P,Nat.zero_add])|((first | refine hK _ _ (FinI.ret3 ?_) | refine hK _ _ (FinI.nrm3 ?_));simp only [GA,↓GB,GX,simprocAttr,finP_s,hnt,hT,hnt1,hT1,hU1P,Nat.zero_add];refine Done.out ?_)|((first | refine SX.cond rfl (fun hb => ?_) (fun hb => ?_) | (refine bif2.mk (fun hb => ?_) (fun hb => ?_) <;> (try simp only [hb,GA,↓GB,GX,simprocAttr,hnt,hT,hnt1,hT1,hU1P,Nat.zero_add]))) <;> ((first | cases hb | (simp only [HBs] at hb) | skip) <;> (first | (exfalso;omega) | skip)))|(refine CallVC.inline (f := 81) ?_ rfl Tryz.ntmps81 rfl ?_ ?_;(focus rw [hP];exact Tryz.func81);(focus simp);have hT1 := Ty.T81 hP;intro X1 K1 hU1 hnt1 hbl1 hK1;have hU1P := hU1.P;simp only [GA,↓GB,GX,simprocAttr] at hbl1 ⊢)|(refine VO.toUnsafe (src := 92) (t := 94) rfl (by rw [hU1P,hP];kernel_rfl) (by rw [hU1P,hP];kernel_rfl) (n := 1) (by rw [hU1P,hP];kernel_rfl) rfl (by decide) ?_;simp only [GA,↓GB,GX,simprocAttr,hnt,hnt1,hT,hT1,hU1P])|(refine VO.same rfl (noEscape_run (hU1P.trans hP)) ?_;simp only [GA,↓GB,GX,simprocAttr,hnt,hnt1,hT,hT1,hU1P])|(refine VO.fromUnsafe (src := 165) (u := 94) rfl (by rw [hU1P,hP];kernel_rfl) (by rw [hU1P,hP];kernel_rfl) (n := 2) (by rw [hU1P,hP];kernel_rfl) rfl (by rw [hU1P,hP];kernel_rfl) ?_;simp only [GA,↓GB,GX,simprocAttr,hnt,hnt1,hT,hT1,hU1P])|(refine VO.ptrNil (e := 94) rfl rfl (by rw [hU1P,hP];kernel_rfl) ?_;simp only [GA,↓GB,GX,simprocAttr,hnt,hnt1,hT,hT1,hU1P])|(refine VO.ptrSame (e := 94) (n := 2) rfl rfl (by rw [hU1P,hP];kernel_rfl) (by rw [hU1P,hP];kernel_rfl) ?_;simp only [GA,↓GB,GX,simprocAttr,hnt,hnt1,hT,hT1,hU1P])|(refine and_mk ?_ ?_;(focus first | decide | omega | rfl | assumption | (simp only [LBs];omega) | (simp;done)))|(refine And.intro ?_ ?_))
  all_goals (try refine Done.mk ?_)
  all_goals ((refine hN0 _ _ ⟨[0,2],_,_,?_,?_,?_,⟨rfl,rfl⟩⟩;(focus exact LeR.of rfl trivial (by simp only [GA,↓GB,GX,simprocAttr,GDs]) (by decide) rfl rfl rfl);rotate_left;(focus rfl));rfl)
theorem wlist0 (s : List UInt8) (num : Nat) (h1 : 1 ≤ num) (h2 : num < 536870912) (hs : s.length < 4294967296) :
    Ctr Tryz.prog [] 45 [bldr0,.cells [.v (.string (B s))] 9] [.one (.c (.loc 0 0)),vv (.int .i64 num),.one (.c (.sl 1 0 1 1))]
    (fun os r => os = [.cells [.loc 0 0,.row 2] 96,.cells [.v (.string (B s))] 9,.row 5 1 (textB num s).length (bcells (textB num s))] ∧ r = .tup []) := by
  have hl1 := NW.varint_len10 (n := num * 8 + 2) (by omega)
  have hl2 := NW.varint_len10 (n := s.length) (by omega)
  have hlen : (textB num s).length ≤ 1152921504606 := by simp [textB];omega
  refine Ctr.less ?_
  intro X0 hP0 hG0 N0 hN0
  refine CallVC.inline (f := 45) (by rw [hP0];exact Tryz.func45) rfl Tryz.ntmps45 rfl (by simp) ?_
  intro X K hU hnt hbl hK
  have hP : X.P = Tryz.prog := hU.P.trans hP0
  have hG := hG0.under hU
  have hT := Ty.T45 hP
  simp only [GA,↓GB,GX,simprocAttr] at hbl ⊢
  repeat' (first|(refine SX.seqK ?_;intro N hN)|((first | (refine SX.ops ?_) | (refine SX.planT (id := 3) [.q [(0,[0]),(1,[14]),(2,[15]),(3,[1]),(4,[7]),(5,[17,18])] none,.s 6] ?_ ?_ ?_;(focus first | (rw [hP];kernel_rfl) | (rw [hU1P,hP];kernel_rfl));(focus kernel_rfl)));simp only [GA,↓GB,GX,simprocAttr,hnt,hT])|((first | refine SX.skip ?_ | refine SX.exit ?_ | refine SX.label ?_ | refine SX.ret ?_);try simp only [GA,↓GB,GX,simprocAttr])|(refine hN _ ?_;clear hN N)|((first | refine hK _ _ (FinI.ret3 ?_) | refine hK _ _ (FinI.nrm3 ?_));simp only [GA,↓GB,GX,simprocAttr,finP_s,hnt,hT];refine Done.out ?_)|(clear hN N;first | (refine hN _ ?_;clear hN N) | (clear hN N;refine hN _ ?_;clear hN N))|((first | refine SX.cond rfl (fun hb => ?_) (fun hb => ?_) | (refine bif2.mk (fun hb => ?_) (fun hb => ?_) <;> (try simp only [hb,GA,↓GB,GX,simprocAttr,hnt,hT]))) <;> ((first | cases hb | (simp only [HBs] at hb) | skip) <;> (first | (exfalso;omega) | skip)))|((first | (refine CallVC.pv hP (text_any num s h1 h2 (by omega)) rfl ?_) | (refine CallQ.pv hP (text_any num s h1 h2 (by omega)) rfl ?_) | (refine Ctr.use (writeString0 (textB num s) hlen) hP ?_ [0] ?_ rfl rfl ?_;(focus (intro p hp;cases hp));(focus (refine LeR.of rfl trivial ?_ ?_ ?_ ?_ ?_ <;> first | decide | (simp only [GA,↓GB,GX,simprocAttr,GDs];done)));intro os' s hR;obtain ⟨rfl,rfl⟩ := hR));simp only [GA,↓GB,GX,simprocAttr,hnt,hT])|(refine SX.loopN 2 ?_)|(refine SXr.stepK ?_;intro N hN)|(refine SX.block ?_)|(refine and_mk ?_ ?_;(focus first | decide | omega | rfl | assumption | (simp only [LBs];omega) | (simp;done)))|(refine And.intro ?_ ?_))
  all_goals (try refine Done.mk ?_)
  all_goals ((refine hN0 _ _ ⟨[0,1,2],_,_,?_,?_,?_,⟨rfl,rfl⟩⟩;(focus exact LeR.of rfl trivial (by simp only [GA,↓GB,GX,simprocAttr,GDs]) (by decide) rfl rfl rfl);rotate_left;(focus rfl));rfl)
def haveB (h : HvS) : List UInt8 := textB 1 h.1 ++ numZ 2 h.2
def havesB (hv : List HvS) : List UInt8 := hv.flatMap fun h => textB 6 (haveB h)
theorem havesB_snoc (hv : List HvS) (h : HvS) : havesB (hv ++ [h]) = havesB hv ++ textB 6 (haveB h) := by simp [havesB]
theorem takeH_snoc (hv : List HvS) (i : Nat) (h : i < hv.length) : hv.take (i + 1) = hv.take i ++ [hv.getD i default] := by
  rw [List.take_add_one,List.getElem?_eq_getElem h,List.getD_eq_getElem?_getD,List.getElem?_eq_getElem h];rfl
theorem havesB_take (hv : List HvS) (i : Nat) : (havesB (hv.take i)).length ≤ (havesB hv).length := by
  have e : havesB hv = havesB (hv.take i) ++ havesB (hv.drop i) := by unfold havesB;rw [← List.flatMap_append,List.take_append_drop]
  rw [e,List.length_append];omega
def reqHead (t : Nat) (dl : Bool) (q : Nat) (sb un : List (List UInt8)) : List UInt8 := 1 :: (numZ 1 t ++ flagZ 2 dl ++ numZ 3 q ++ textsB 4 sb ++ textsB 5 un)
def reqBytes (t : Nat) (dl : Bool) (q : Nat) (sb un : List (List UInt8)) (hv : List HvS) (d : List UInt8) : List UInt8 :=
  reqHead t dl q sb un ++ havesB hv ++ (if d = [] then [] else textB 7 d)
theorem numZ_len (num n : Nat) (h1 : num < 536870912) (hn : n < 18446744073709551616) : (numZ num n).length ≤ 20 := by
  have := numB_len num n h1 hn
  unfold numZ;split <;> simp;omega
theorem flagZ_len (num : Nat) (b : Bool) (h1 : num < 536870912) : (flagZ num b).length ≤ 20 := by
  have := numB_len num 1 h1 (by decide)
  unfold flagZ;split <;> simp;omega
theorem putReq_no (t : Int) (dl : Bool) (q : Nat) (sb un : List (List UInt8)) (hv : List HvS) (d : List UInt8) (h1 : sb.length ≤ 1099511627776) (h2 : un.length ≤ 1099511627776) (h3 : hv.length ≤ 1048576)
    (b1 : ∀ s ∈ sb,s.length ≤ 9223372036854775807) (b2 : ∀ s ∈ un,s.length ≤ 9223372036854775807) (b3 : ∀ s ∈ hv.map (·.1),s.length ≤ 9223372036854775807) (h : reqB t dl q sb un hv d = false) :
    Ctr Tryz.prog [] 10 [srow sb,srow un,hrow hv] [.one (.agg [.v (.int .i64 t),.v (.bool dl),.v (.int .u64 q),.row 0,.row 1,.row 2,.v (.string (B d))])] (fun os v => os = [srow sb,srow un,hrow hv] ∧ v = .tup [.c (.v (.string (B []))),.c (.v (.bool false))]) := by
  have hr := rightReq_ctr t dl q sb un hv d h1 h2 h3 b1 b2 b3
  rw [h] at hr
  refine Ctr.less ?_
  intro X0 hP0 hG0 N0 hN0
  refine CallVC.inline (f := 10) (by rw [hP0];exact Tryz.func10) rfl Tryz.ntmps10 rfl (by simp) ?_
  intro X K hU hnt hbl hK
  have hP : X.P = Tryz.prog := hU.P.trans hP0
  have hG := hG0.under hU
  have hT := Ty.T10 hP
  simp only [GA,↓GB,GX,simprocAttr] at hbl ⊢
  repeat' (first|(refine SX.seqK ?_;intro N hN)|((first | (refine SX.ops ?_));simp only [GA,↓GB,GX,simprocAttr,hnt,hT])|((first | refine SX.skip ?_ | refine SX.exit ?_ | refine SX.label ?_ | refine SX.ret ?_);try simp only [GA,↓GB,GX,simprocAttr])|(refine hN _ ?_;clear hN N)|((first | refine hK _ _ (FinI.ret3 ?_) | refine hK _ _ (FinI.nrm3 ?_));simp only [GA,↓GB,GX,simprocAttr,finP_s,hnt,hT];refine Done.out ?_)|(clear hN N;first | (refine hN _ ?_;clear hN N) | (clear hN N;refine hN _ ?_;clear hN N))|((first | refine SX.cond rfl (fun hb => ?_) (fun hb => ?_) | (refine bif2.mk (fun hb => ?_) (fun hb => ?_) <;> (try simp only [hb,GA,↓GB,GX,simprocAttr,hnt,hT]))) <;> ((first | cases hb | (simp only [HBs] at hb) | skip) <;> (first | (exfalso;omega) | skip)))|((first | (refine Ctr.use (hr) hP ?_ [0,1,2] ?_ rfl rfl ?_;(focus (intro p hp;cases hp));(focus (refine LeR.of rfl trivial ?_ ?_ ?_ ?_ ?_ <;> first | decide | (simp only [GA,↓GB,GX,simprocAttr,GDs];done)));intro os' s hR;obtain ⟨rfl,rfl⟩ := hR));simp only [GA,↓GB,GX,simprocAttr,hnt,hT])|(refine SX.loopN 1 ?_)|(refine SXr.stepK ?_;intro N hN)|(refine SX.block ?_)|(refine and_mk ?_ ?_;(focus first | decide | omega | rfl | assumption | (simp only [LBs];omega) | (simp;done)))|(refine And.intro ?_ ?_))
  all_goals (try refine Done.mk ?_)
  all_goals ((refine hN0 _ _ ⟨[0,1,2],_,_,?_,?_,?_,⟨rfl,rfl⟩⟩;(focus exact LeR.of rfl trivial (by simp only [GA,↓GB,GX,simprocAttr,GDs]) (by decide) rfl rfl rfl);rotate_left;(focus rfl));rfl)
theorem putReq_yes (t : Nat) (dl : Bool) (q : Nat) (sb un : List (List UInt8)) (hv : List HvS) (d : List UInt8) (ht : t < 18446744073709551616) (hq : q < 18446744073709551616) (h1 : sb.length ≤ 1099511627776) (h2 : un.length ≤ 1099511627776) (h3 : hv.length ≤ 1048576)
    (b1 : ∀ s ∈ sb,s.length < 4294967296) (b2 : ∀ s ∈ un,s.length < 4294967296) (b3 : ∀ h ∈ hv,h.1.length < 100000000 ∧ h.2 < 18446744073709551616)
    (c1 : (textsB 4 sb).length ≤ 100000000000) (c2 : (textsB 5 un).length ≤ 100000000000) (c3 : (havesB hv).length ≤ 100000000000) (hd : d.length < 4294967296) (h : reqB t dl q sb un hv d = true) :
    Ctr Tryz.prog [] 10 [srow sb,srow un,hrow hv] [.one (.agg [.v (.int .i64 t),.v (.bool dl),.v (.int .u64 q),.row 0,.row 1,.row 2,.v (.string (B d))])] (fun os v => os = [srow sb,srow un,hrow hv] ∧ v = .tup [.c (.v (.string (B (reqBytes t dl q sb un hv d)))),.c (.v (.bool true))]) := by
  have hr := rightReq_ctr t dl q sb un hv d h1 h2 h3 (fun s hs => by have := b1 s hs;omega) (fun s hs => by have := b2 s hs;omega) (fun s hs => by
    obtain ⟨x,hx,rfl⟩ := List.mem_map.1 hs
    have := (b3 x hx).1;omega)
  rw [h] at hr
  have e1 := numZ_len 1 t (by decide) ht
  have e2 := flagZ_len 2 dl (by decide)
  have e3 := numZ_len 3 q (by decide) hq
  have hH : (reqHead t dl q sb un).length ≤ 200000000100 := by simp only [reqHead,List.length_cons,List.length_append];omega
  have hw : IntKind.u64.wrap (t : Int) = t := wU64 (by omega) (by omega)
  have hx : ∀ i,i < hv.length → (hv.getD i default).1.length < 100000000 ∧ (hv.getD i default).2 < 18446744073709551616 := fun i hi => by
    rw [List.getD_eq_getElem?_getD,List.getElem?_eq_getElem hi];exact b3 _ (List.getElem_mem hi)
  have hx1 : ∀ i,i < hv.length → (hv.getD i default).1.length < 4294967296 := fun i hi => by have := (hx i hi).1;omega
  have hxl : ∀ i,i < hv.length → (textB 1 (hv.getD i default).1).length ≤ 100000100 := fun i hi => by
    have := (hx i hi).1
    have l1 := NW.varint_len10 (n := 1 * 8 + 2) (by omega)
    have l2 := NW.varint_len10 (n := (hv.getD i default).1.length) (by omega)
    simp only [textB,List.length_append];omega
  have hxh : ∀ i,i < hv.length → (haveB (hv.getD i default)).length ≤ 100000200 := fun i hi => by
    have := hxl i hi
    have l1 := numZ_len 2 (hv.getD i default).2 (by decide) (hx i hi).2
    simp only [haveB,List.length_append];omega
  have hx0 : ∀ i,i < hv.length → 0 < (haveB (hv.getD i default)).length := fun i hi => by
    have : 0 < (textB 1 (hv.getD i default).1).length := by
      simp only [textB,List.length_append]
      have : 0 < (NW.varint (1 * 8 + 2)).length := by rw [NW.varint_lt (by decide)];decide
      omega
    simp only [haveB,List.length_append];omega
  have hxs : ∀ i,i < hv.length → (textB 1 (hv.getD i default).1 ++ numZ 2 (hv.getD i default).2).length ≤ 1152921504606 := fun i hi => by have : (haveB (hv.getD i default)).length ≤ _ := hxh i hi;unfold haveB at this;omega
  have hxt : ∀ i,i < hv.length → (textB 1 (hv.getD i default).1 ++ numZ 2 (hv.getD i default).2).length < 4294967296 := fun i hi => by have : (haveB (hv.getD i default)).length ≤ _ := hxh i hi;unfold haveB at this;omega
  have hc0 : (reqHead t dl q sb un ++ havesB hv).length ≤ 400000000000 := by rw [List.length_append];omega
  have hd7 : (textB 7 d).length ≤ 4294967396 := by
    have l1 := NW.varint_len10 (n := 7 * 8 + 2) (by omega)
    have l2 := NW.varint_len10 (n := d.length) (by omega)
    simp only [textB,List.length_append];omega
  have f1 : d = [] → reqHead t dl q sb un ++ havesB hv = reqBytes t dl q sb un hv d := fun e => by rw [reqBytes,if_pos e,List.append_nil]
  have f2 : ¬ d = [] → reqHead t dl q sb un ++ havesB hv ++ textB 7 d = reqBytes t dl q sb un hv d := fun e => by rw [reqBytes,if_neg e]
  have hc : ∀ i,(reqHead t dl q sb un ++ havesB (hv.take i)).length ≤ 400000000000 := fun i => by
    have := havesB_take hv i
    rw [List.length_append];omega
  have hfold : 1 :: (numZ 1 t ++ flagZ 2 dl ++ numZ 3 q ++ textsB 4 sb ++ textsB 5 un) = reqHead t dl q sb un := rfl
  have hz : 0 < (reqHead t dl q sb un).length := by simp [reqHead]
  refine Ctr.less ?_
  intro X0 hP0 hG0 N0 hN0
  refine CallVC.inline (f := 10) (by rw [hP0];exact Tryz.func10) rfl Tryz.ntmps10 rfl (by simp) ?_
  intro X K hU hnt hbl hK
  have hP : X.P = Tryz.prog := hU.P.trans hP0
  have hG := hG0.under hU
  have hT := Ty.T10 hP
  simp only [GA,↓GB,GX,simprocAttr] at hbl ⊢
  repeat' (first|(refine SX.seqK ?_;intro N hN)|((first | (refine SX.ops ?_));simp only [GA,↓GB,GX,simprocAttr,hnt,hT,hw])|((first | refine SX.skip ?_ | refine SX.exit ?_ | refine SX.label ?_ | refine SX.ret ?_);try simp only [GA,↓GB,GX,simprocAttr])|(refine hN _ ?_;clear hN N)|((first | refine hK _ _ (FinI.ret3 ?_) | refine hK _ _ (FinI.nrm3 ?_));simp only [GA,↓GB,GX,simprocAttr,finP_s,hnt,hT,hw];refine Done.out ?_)|(clear hN N;first | (refine hN _ ?_;clear hN N) | (clear hN N;refine hN _ ?_;clear hN N))|((first | refine SX.cond rfl (fun hb => ?_) (fun hb => ?_) | (refine bif2.mk (fun hb => ?_) (fun hb => ?_) <;> (try simp only [hb,GA,↓GB,GX,simprocAttr,hnt,hT,hw]))) <;> ((first | cases hb | (simp only [HBs] at hb) | skip) <;> (first | (exfalso;omega) | skip)))|((first | (refine Ctr.use (hr) hP ?_ [0,1,2] ?_ rfl rfl ?_;(focus (intro p hp;cases hp));(focus (refine LeR.of rfl trivial ?_ ?_ ?_ ?_ ?_ <;> first | decide | (simp only [GA,↓GB,GX,simprocAttr,GDs];done)));intro os' s hR;obtain ⟨rfl,rfl⟩ := hR) | (refine Ctr.use (writeByte_ctr 1) hP ?_ [4] ?_ rfl rfl ?_;(focus (intro p hp;cases hp));(focus (refine LeR.of rfl trivial ?_ ?_ ?_ ?_ ?_ <;> first | decide | (simp only [GA,↓GB,GX,simprocAttr,GDs];done)));intro os' s hR;obtain ⟨rfl,rfl⟩ := hR) | (refine Ctr.use (wnumZ [1] 1 t (by decide) (by decide) ht (by decide)) hP ?_ [4,7] ?_ rfl rfl ?_;(focus (intro p hp;cases hp));(focus (refine LeR.of rfl trivial ?_ ?_ ?_ ?_ ?_ <;> first | decide | (simp only [GA,↓GB,GX,simprocAttr,GDs];done)));intro os' s hR;obtain ⟨rfl,rfl⟩ := hR) | (refine Ctr.use (wflagZ (1 :: numZ 1 t) 2 dl (by decide) (by decide) (by simp;omega)) hP ?_ [4,8] ?_ rfl rfl ?_;(focus (intro p hp;cases hp));(focus (refine LeR.of rfl trivial ?_ ?_ ?_ ?_ ?_ <;> first | decide | (simp only [GA,↓GB,GX,simprocAttr,GDs];done)));intro os' s hR;obtain ⟨rfl,rfl⟩ := hR) | (refine Ctr.use (wnumZ (1 :: (numZ 1 t ++ flagZ 2 dl)) 3 q (by decide) (by decide) hq (by simp;omega)) hP ?_ [4,9] ?_ rfl rfl ?_;(focus (intro p hp;cases hp));(focus (refine LeR.of rfl trivial ?_ ?_ ?_ ?_ ?_ <;> first | decide | (simp only [GA,↓GB,GX,simprocAttr,GDs];done)));intro os' s hR;obtain ⟨rfl,rfl⟩ := hR) | (refine Ctr.use (wlist_ctr (1 :: (numZ 1 t ++ flagZ 2 dl ++ numZ 3 q)) sb 4 (by decide) (by decide) h1 b1 (by simp;omega)) hP ?_ [4,10,0] ?_ rfl rfl ?_;(focus (intro p hp;cases hp));(focus (refine LeR.of rfl trivial ?_ ?_ ?_ ?_ ?_ <;> first | decide | (simp only [GA,↓GB,GX,simprocAttr,GDs];done)));intro os' s hR;obtain ⟨rfl,rfl⟩ := hR) | (refine Ctr.use (wlist_ctr (1 :: (numZ 1 t ++ flagZ 2 dl ++ numZ 3 q ++ textsB 4 sb)) un 5 (by decide) (by decide) h2 b2 (by simp;omega)) hP ?_ [4,11,1] ?_ rfl rfl ?_;(focus (intro p hp;cases hp));(focus (refine LeR.of rfl trivial ?_ ?_ ?_ ?_ ?_ <;> first | decide | (simp only [GA,↓GB,GX,simprocAttr,GDs];done)));intro os' s hR;obtain ⟨rfl,rfl⟩ := hR) | (refine Ctr.use (wlist0 (hv.getD i default).1 1 (by decide) (by decide) (hx1 i hlt)) hP ?_ [7,8] ?_ rfl rfl ?_;(focus (intro p hp;cases hp));(focus (refine LeR.of rfl trivial ?_ ?_ ?_ ?_ ?_ <;> first | decide | (simp only [GA,↓GB,GX,simprocAttr,GDs];done)));intro os' s hR;obtain ⟨rfl,rfl⟩ := hR) | (refine Ctr.use (wnumZ (textB 1 (hv.getD i default).1) 2 (hv.getD i default).2 (by decide) (by decide) (hx i hlt).2 (by have := hxl i hlt;omega)) hP ?_ [7,9] ?_ rfl rfl ?_;(focus (intro p hp;cases hp));(focus (refine LeR.of rfl trivial ?_ ?_ ?_ ?_ ?_ <;> first | decide | (simp only [GA,↓GB,GX,simprocAttr,GDs];done)));intro os' s hR;obtain ⟨rfl,rfl⟩ := hR) | (refine Ctr.use (string_ctr (textB 1 (hv.getD i default).1 ++ numZ 2 (hv.getD i default).2) (hx0 i hlt) (hxs i hlt)) hP ?_ [7,10] ?_ rfl rfl ?_;(focus (intro p hp;cases hp));(focus (refine LeR.of rfl trivial ?_ ?_ ?_ ?_ ?_ <;> first | decide | (simp only [GA,↓GB,GX,simprocAttr,GDs];done)));intro os' s hR;obtain ⟨rfl,rfl⟩ := hR) | (refine Ctr.use (wlist1_ctr (reqHead t dl q sb un ++ havesB (hv.take i)) (textB 1 (hv.getD i default).1 ++ numZ 2 (hv.getD i default).2) 6 (by decide) (by decide) (hxt i hlt) (by have := hc i;omega)) hP ?_ [4,5,11] ?_ rfl rfl ?_;(focus (intro p hp;cases hp));(focus (refine LeR.of rfl trivial ?_ ?_ ?_ ?_ ?_ <;> first | decide | (simp only [GA,↓GB,GX,simprocAttr,GDs];done)));intro os' s hR;obtain ⟨rfl,rfl⟩ := hR) | (refine Ctr.use (wlist1_ctr (reqHead t dl q sb un ++ havesB hv) d 7 (by decide) (by decide) hd (by omega)) hP ?_ [4,5,6] ?_ rfl rfl ?_;(focus (intro p hp;cases hp));(focus (refine LeR.of rfl trivial ?_ ?_ ?_ ?_ ?_ <;> first | decide | (simp only [GA,↓GB,GX,simprocAttr,GDs];done)));intro os' s hR;obtain ⟨rfl,rfl⟩ := hR) | (refine Ctr.use (string_ctr (reqHead t dl q sb un ++ havesB hv ++ textB 7 d) (by rw [List.length_append,List.length_append];omega) (by rw [List.length_append];omega)) hP ?_ [4,7] ?_ rfl rfl ?_;(focus (intro p hp;cases hp));(focus (refine LeR.of rfl trivial ?_ ?_ ?_ ?_ ?_ <;> first | decide | (simp only [GA,↓GB,GX,simprocAttr,GDs];done)));intro os' s hR;obtain ⟨rfl,rfl⟩ := hR) | (refine Ctr.use (string_ctr (reqHead t dl q sb un ++ havesB hv) (by rw [List.length_append];omega) (by omega)) hP ?_ [4,5] ?_ rfl rfl ?_;(focus (intro p hp;cases hp));(focus (refine LeR.of rfl trivial ?_ ?_ ?_ ?_ ?_ <;> first | decide | (simp only [GA,↓GB,GX,simprocAttr,GDs];done)));intro os' s hR;obtain ⟨rfl,rfl⟩ := hR));simp only [GA,↓GB,GX,simprocAttr,hnt,hT,hw])|((try rw [hfold]) <;> refine SX.loop (ι := { i : Nat // i ≤ hv.length }) (fun i => ⟨[(1,.one (.c (.loc 3 0))),(2,vv (.string (B []))),(3,vv (.bool false)),(4,.one (.c (.loc 4 0))),(30,.one (.c (.row 2))),(31,vv (.int .i64 hv.length)),(32,vv (.int .i64 i.1))],[srow sb,srow un,hrow hv,.cells [.v (.int .i64 t),.v (.bool dl),.v (.int .u64 q),.row 0,.row 1,.row 2,.v (.string (B d))] 26,.cells [.loc 4 0,.row 5] 96,.row 5 1 (reqHead t dl q sb un ++ havesB (hv.take i.1)).length (bcells (reqHead t dl q sb un ++ havesB (hv.take i.1)))]⟩) (fun i => hv.length - i.1) ⟨0,Nat.zero_le _⟩ ⟨[0,1,2,3,4,12],by (refine LeR.of ?_ ?_ ?_ ?_ ?_ ?_ ?_ <;> first | (rw [hbl];decide) | decide | (simp only [GA,↓GB,GX,simprocAttr,GDs];done) | (simp only [GA,↓GB,GX,simprocAttr,GDs];first | rfl | (rw [show reqHead t dl q sb un ++ havesB [] = reqHead t dl q sb un from List.append_nil _];rfl);done))⟩ ?_ <;> rintro ⟨i,hi⟩ <;> simp only [] at hi ⊢ <;> rcases Nat.lt_or_eq_of_le hi with hlt | rfl <;> (try simp only [List.take_length]))|(refine ⟨_,rfl,hcells_at _ _ (by omega),?_⟩ <;> (try simp only [GA,↓GB,GX,simprocAttr,hnt,hT]))|(refine SX.block ?_)|(refine and_mk ?_ ?_;(focus first | decide | omega | rfl | assumption | (simp only [LBs];omega) | (simp;done)))|(refine And.intro ?_ ?_))
  all_goals (try refine Done.mk ?_)
  · exact ⟨⟨i + 1,by omega⟩,[0,1,2,3,4,12],by (refine LeR.of ?_ ?_ ?_ ?_ ?_ ?_ ?_ <;> first | (rw [hbl];decide) | decide | (simp only [GA,↓GB,GX,simprocAttr,GDs];done) | (simp only [GA,↓GB,GX,simprocAttr,GDs];first | rfl | (rw [wI64 (by omega) (by omega)];rfl) | (simp only [takeH_snoc hv i hlt,havesB_snoc,haveB,List.append_assoc];done);done)),by show hv.length - (i + 1) < hv.length - i;omega⟩
  · rw [f2 (by simpa using hb)]
    (refine hN0 _ _ ⟨[0,1,2],_,_,?_,?_,?_,⟨rfl,rfl⟩⟩;(focus exact LeR.of rfl trivial (by simp only [GA,↓GB,GX,simprocAttr,GDs]) (by decide) rfl rfl rfl);rotate_left;(focus rfl))
    rfl
  · rw [f1 (by simpa using hb)]
    (refine hN0 _ _ ⟨[0,1,2],_,_,?_,?_,?_,⟨rfl,rfl⟩⟩;(focus exact LeR.of rfl trivial (by simp only [GA,↓GB,GX,simprocAttr,GDs]) (by decide) rfl rfl rfl);rotate_left;(focus rfl))
    rfl
theorem starB_len {s : List UInt8} (h : starB s = true) : s.length ≤ 64 := by
  simp only [starB,Bool.or_eq_true,beq_iff_eq] at h
  rcases h with h | h
  · subst h;decide
  · exact nameB_len h
theorem textB_le (num : Nat) (s : List UInt8) (h : num < 536870912) (hs : s.length < 4294967296) : (textB num s).length ≤ s.length + 20 := by
  have l1 := NW.varint_len10 (n := num * 8 + 2) (by omega)
  have l2 := NW.varint_len10 (n := s.length) (by omega)
  simp only [textB,List.length_append];omega
theorem textsB_le (num : Nat) (h : num < 536870912) : ∀ xs : List (List UInt8),(∀ s ∈ xs,s.length ≤ 64) → (textsB num xs).length ≤ xs.length * 84
  | [],_ => by simp [textsB]
  | s :: xs,hs => by
    have h1 := textB_le num s h (by have := hs s (by simp);omega)
    have h2 := textsB_le num h xs (fun x hx => hs x (by simp [hx]))
    have h3 := hs s (by simp)
    have e : textsB num (s :: xs) = textB num s ++ textsB num xs := rfl
    rw [e,List.length_append,List.length_cons];omega
theorem havesB_le : ∀ hv : List HvS,(∀ h ∈ hv,h.1.length ≤ 64 ∧ h.2 < 18446744073709551616) → (havesB hv).length ≤ hv.length * 124
  | [],_ => by simp [havesB]
  | x :: hv,hs => by
    have h0 := hs x (by simp)
    have h1 := textB_le 1 x.1 (by decide) (by omega)
    have h4 := numZ_len 2 x.2 (by decide) h0.2
    have h5 : (haveB x).length ≤ 104 := by simp only [haveB,List.length_append];omega
    have h6 := textB_le 6 (haveB x) (by decide) (by omega)
    have h2 := havesB_le hv (fun y hy => hs y (by simp [hy]))
    have e : havesB (x :: hv) = textB 6 (haveB x) ++ havesB hv := rfl
    rw [e,List.length_append,List.length_cons];omega
theorem reqB_spec {t : Int} {dl : Bool} {q : Nat} {sb un : List (List UInt8)} {hv : List HvS} {d : List UInt8} (h : reqB t dl q sb un hv d = true) :
    1 ≤ t ∧ t ≤ 5 ∧ sb.length ≤ 64 ∧ (∀ s ∈ sb,s.length ≤ 64) ∧ un.length ≤ 64 ∧ (∀ s ∈ un,s.length ≤ 64) ∧ hv.length ≤ 64 ∧ (∀ x ∈ hv,x.1.length ≤ 64) ∧ d.length ≤ 256 := by
  simp only [reqB,Bool.and_eq_true,decide_eq_true_eq,List.all_eq_true,List.length_map] at h
  obtain ⟨⟨h1,h2⟩,⟨h3,h4⟩,⟨h5,h6⟩,⟨h7,h8⟩,h9,_⟩ := h
  refine ⟨h1,h2,by omega,fun s hs => starB_len (h4 s hs),by omega,fun s hs => starB_len (h6 s hs),by omega,fun x hx => nameB_len (h8 _ (List.mem_map_of_mem hx)),by omega⟩
theorem putReq_ctr (t : Int) (dl : Bool) (q : Nat) (sb un : List (List UInt8)) (hv : List HvS) (d : List UInt8) (hq : q < 18446744073709551616) (h1 : sb.length ≤ 1099511627776) (h2 : un.length ≤ 1099511627776) (h3 : hv.length ≤ 1048576)
    (b1 : ∀ s ∈ sb,s.length ≤ 9223372036854775807) (b2 : ∀ s ∈ un,s.length ≤ 9223372036854775807) (b3 : ∀ x ∈ hv,x.1.length ≤ 9223372036854775807 ∧ x.2 < 18446744073709551616) :
    Ctr Tryz.prog [] 10 [srow sb,srow un,hrow hv] [.one (.agg [.v (.int .i64 t),.v (.bool dl),.v (.int .u64 q),.row 0,.row 1,.row 2,.v (.string (B d))])]
      (fun os v => os = [srow sb,srow un,hrow hv] ∧ v = .tup [.c (.v (.string (B (if reqB t dl q sb un hv d then reqBytes t.toNat dl q sb un hv d else [])))),.c (.v (.bool (reqB t dl q sb un hv d)))]) := by
  cases h : reqB t dl q sb un hv d with
  | false =>
    exact putReq_no t dl q sb un hv d h1 h2 h3 b1 b2 (fun s hs => by
      obtain ⟨x,hx,rfl⟩ := List.mem_map.1 hs
      exact (b3 x hx).1) h
  | true =>
    obtain ⟨g1,g2,g3,g4,g5,g6,g7,g8,g9⟩ := reqB_spec h
    obtain ⟨n,rfl⟩ : ∃ n : Nat,t = n := ⟨t.toNat,by omega⟩
    have c1 := textsB_le 4 (by decide) sb g4
    have c2 := textsB_le 5 (by decide) un g6
    have c3 := havesB_le hv (fun x hx => ⟨g8 x hx,(b3 x hx).2⟩)
    exact putReq_yes n dl q sb un hv d (by omega) hq h1 h2 h3 (fun s hs => by have := g4 s hs;omega) (fun s hs => by have := g6 s hs;omega) (fun x hx => ⟨by have := g8 x hx;omega,(b3 x hx).2⟩) (by omega) (by omega) (by omega) (by omega) h
theorem encs_app (a b : List NW.Fld) : NW.encs (a ++ b) = NW.encs a ++ NW.encs b := by simp [NW.encs]
theorem takeX_app {S : Type} {step : NW.Fld → S → S × Bool} : ∀ {l : List NW.Fld} {s s' : S} (m : List NW.Fld),takeX step l s = (s',true) → takeX step (l ++ m) s = takeX step m s'
  | [],s,s',m,h => by
    have h : (s,true) = (s',true) := h
    cases h;rfl
  | f :: l,s,s',m,h => by
    rw [takeX] at h
    rw [List.cons_append,takeX]
    split at h
    · rename_i h1;rw [if_pos h1];exact takeX_app m h
    · cases h
def nF (num n : Nat) : List NW.Fld := if n = 0 then [] else [⟨num,0,n,[]⟩]
def bF (num : Nat) (b : Bool) : List NW.Fld := if b then [⟨num,0,1,[]⟩] else []
def lF (num : Nat) (xs : List (List UInt8)) : List NW.Fld := xs.map fun s => ⟨num,2,0,s⟩
def hF (hv : List HvS) : List NW.Fld := hv.map fun h => ⟨6,2,0,haveB h⟩
def dF (d : List UInt8) : List NW.Fld := if d = [] then [] else [⟨7,2,0,d⟩]
theorem encs_nF (num n : Nat) : NW.encs (nF num n) = numZ num n := by unfold nF numZ;split <;> simp [NW.encs,NW.Fld.enc,numB]
theorem encs_bF (num : Nat) (b : Bool) : NW.encs (bF num b) = flagZ num b := by unfold bF flagZ;cases b <;> simp [NW.encs,NW.Fld.enc,numB]
theorem encs_lF (num : Nat) : ∀ xs : List (List UInt8),NW.encs (lF num xs) = textsB num xs
  | [] => rfl
  | s :: xs => by
    have e : NW.encs (lF num (s :: xs)) = (⟨num,2,0,s⟩ : NW.Fld).enc ++ NW.encs (lF num xs) := rfl
    have e2 : textsB num (s :: xs) = textB num s ++ textsB num xs := rfl
    rw [e,e2,encs_lF num xs];simp [NW.Fld.enc,textB]
theorem encs_hF : ∀ hv : List HvS,NW.encs (hF hv) = havesB hv
  | [] => rfl
  | x :: hv => by
    have e : NW.encs (hF (x :: hv)) = (⟨6,2,0,haveB x⟩ : NW.Fld).enc ++ NW.encs (hF hv) := rfl
    have e2 : havesB (x :: hv) = textB 6 (haveB x) ++ havesB hv := rfl
    rw [e,e2,encs_hF hv];simp [NW.Fld.enc,textB]
theorem encs_dF (d : List UInt8) : NW.encs (dF d) = if d = [] then [] else textB 7 d := by unfold dF;split <;> simp [NW.encs,NW.Fld.enc,textB]
theorem nF_ok {num n : Nat} (h1 : 1 ≤ num) (h2 : num < 536870912) (hn : n < 18446744073709551616) : ∀ f ∈ nF num n,f.Ok := by
  unfold nF;split <;> intro f hf <;> simp at hf
  subst hf;exact ⟨h1,h2,.inl ⟨rfl,rfl,hn⟩⟩
theorem bF_ok {num : Nat} {b : Bool} (h1 : 1 ≤ num) (h2 : num < 536870912) : ∀ f ∈ bF num b,f.Ok := by
  unfold bF;cases b <;> intro f hf <;> simp at hf
  subst hf;exact ⟨h1,h2,.inl ⟨rfl,rfl,by show 1 < _;decide⟩⟩
theorem lF_ok {num : Nat} {xs : List (List UInt8)} (h1 : 1 ≤ num) (h2 : num < 536870912) (hs : ∀ s ∈ xs,s.length < 4294967296) : ∀ f ∈ lF num xs,f.Ok := by
  intro f hf
  obtain ⟨s,h,rfl⟩ := List.mem_map.1 hf
  exact ⟨h1,h2,.inr (.inr (.inl ⟨rfl,by have := hs s h;show s.length < _;omega,rfl⟩))⟩
theorem hF_ok {hv : List HvS} (hs : ∀ x ∈ hv,x.1.length ≤ 64 ∧ x.2 < 18446744073709551616) : ∀ f ∈ hF hv,f.Ok := by
  intro f hf
  obtain ⟨x,h,rfl⟩ := List.mem_map.1 hf
  have h0 := hs x h
  have h4 := textB_le 1 x.1 (by decide) (by omega)
  have h5 := numZ_len 2 x.2 (by decide) h0.2
  exact ⟨by show 1 ≤ 6;decide,by show 6 < _;decide,.inr (.inr (.inl ⟨rfl,by show (haveB x).length < _;simp only [haveB,List.length_append];omega,rfl⟩))⟩
theorem dF_ok {d : List UInt8} (hd : d.length ≤ 256) : ∀ f ∈ dF d,f.Ok := by
  unfold dF;split <;> intro f hf <;> simp at hf
  subst hf;exact ⟨by show 1 ≤ 7;decide,by show 7 < _;decide,.inr (.inr (.inl ⟨rfl,by show d.length < _;omega,rfl⟩))⟩
theorem haveB_back {x : HvS} (h1 : x.1.length ≤ 64) (h2 : x.2 < 18446744073709551616) : takeB stepH (haveB x) ([],0) = (x,true) := by
  have e : haveB x = NW.encs ([⟨1,2,0,x.1⟩] ++ nF 2 x.2) := by
    rw [encs_app,encs_nF];simp [haveB,NW.encs,NW.Fld.enc,textB]
  rw [e,takeB,NW.parse_encs']
  · obtain ⟨s,n⟩ := x
    by_cases hn : n = 0
    · subst hn;rfl
    · have e2 : nF 2 n = [⟨2,0,n,[]⟩] := by rw [nF,if_neg hn]
      rw [e2];rfl
  · intro f hf
    rcases List.mem_append.1 hf with h | h
    · simp at h;subst h;exact ⟨by show 1 ≤ 1;decide,by show 1 < _;decide,.inr (.inr (.inl ⟨rfl,by show x.1.length < _;omega,rfl⟩))⟩
    · exact nF_ok (by decide) (by decide) h2 f h
theorem take4 : ∀ (xs : List (List UInt8)) (m : RqS),takeX stepQ (lF 4 xs) m = ({ m with sb := m.sb ++ xs },true)
  | [],m => by simp [lF,takeX]
  | s :: xs,m => by
    have e : takeX stepQ (lF 4 (s :: xs)) m = takeX stepQ (lF 4 xs) { m with sb := m.sb ++ [s] } := rfl
    rw [e,take4 xs];simp
theorem take5 : ∀ (xs : List (List UInt8)) (m : RqS),takeX stepQ (lF 5 xs) m = ({ m with un := m.un ++ xs },true)
  | [],m => by simp [lF,takeX]
  | s :: xs,m => by
    have e : takeX stepQ (lF 5 (s :: xs)) m = takeX stepQ (lF 5 xs) { m with un := m.un ++ [s] } := rfl
    rw [e,take5 xs];simp
theorem take6 : ∀ (hv : List HvS) (m : RqS),(∀ x ∈ hv,x.1.length ≤ 64 ∧ x.2 < 18446744073709551616) → takeX stepQ (hF hv) m = ({ m with hv := m.hv ++ hv },true)
  | [],m,_ => by simp [hF,takeX]
  | x :: hv,m,h => by
    have hb := haveB_back (h x (by simp)).1 (h x (by simp)).2
    have e1 : stepQ ⟨6,2,0,haveB x⟩ m = ({ m with hv := m.hv ++ [x] },true) := by
      show ({ m with hv := m.hv ++ [(takeB stepH (haveB x) ([],0)).1] },(takeB stepH (haveB x) ([],0)).2) = _
      rw [hb]
    have e : takeX stepQ (hF (x :: hv)) m = if (stepQ ⟨6,2,0,haveB x⟩ m).2 = true then takeX stepQ (hF hv) (stepQ ⟨6,2,0,haveB x⟩ m).1 else ((stepQ ⟨6,2,0,haveB x⟩ m).1,false) := rfl
    rw [e,e1,if_pos rfl,take6 hv _ (fun y hy => h y (by simp [hy]))];simp
theorem takeExt : ∀ (l : List NW.Fld) (m : RqS),(∀ f ∈ l,8 ≤ f.num) → takeX stepQ l m = (m,true)
  | [],m,_ => rfl
  | f :: l,m,h => by
    have h8 := h f (by simp)
    have e1 : stepQ f m = (m,true) := by
      unfold stepQ
      rw [if_neg (by omega),if_neg (by omega),if_neg (by omega),if_neg (by omega),if_neg (by omega),if_neg (by omega),if_neg (by omega)]
    rw [takeX,e1,if_pos rfl];exact takeExt l m (fun g hg => h g (by simp [hg]))
def reqFlds (t : Nat) (dl : Bool) (q : Nat) (sb un : List (List UInt8)) (hv : List HvS) (d : List UInt8) : List NW.Fld :=
  nF 1 t ++ (bF 2 dl ++ (nF 3 q ++ (lF 4 sb ++ (lF 5 un ++ (hF hv ++ dF d)))))
theorem reqBytes_encs (t : Nat) (dl : Bool) (q : Nat) (sb un : List (List UInt8)) (hv : List HvS) (d : List UInt8) : reqBytes t dl q sb un hv d = 1 :: NW.encs (reqFlds t dl q sb un hv d) := by
  simp only [reqBytes,reqHead,reqFlds,encs_app,encs_nF,encs_bF,encs_lF,encs_hF,encs_dF,List.cons_append,List.append_assoc]
theorem reqR_more {t : Nat} {dl : Bool} {q : Nat} {sb un : List (List UInt8)} {hv : List HvS} {d : List UInt8} (hq : q < 18446744073709551616) (b3 : ∀ x ∈ hv,x.2 < 18446744073709551616) (h : reqB (t : Int) dl q sb un hv d = true)
    (ext : List NW.Fld) (hx : ∀ f ∈ ext,f.Ok ∧ 8 ≤ f.num) : reqR (reqBytes t dl q sb un hv d ++ NW.encs ext) = some ⟨t,if dl then 1 else 0,q,sb,un,hv,d⟩ := by
  obtain ⟨g1,g2,g3,g4,g5,g6,g7,g8,g9⟩ := reqB_spec h
  have g8' : ∀ x ∈ hv,x.1.length ≤ 64 ∧ x.2 < 18446744073709551616 := fun x hx => ⟨g8 x hx,b3 x hx⟩
  have e : reqBytes t dl q sb un hv d ++ NW.encs ext = 1 :: NW.encs (reqFlds t dl q sb un hv d ++ ext) := by
    rw [reqBytes_encs,encs_app,List.cons_append]
  have hk : kindL (1 :: NW.encs (reqFlds t dl q sb un hv d ++ ext)) = 1 := rfl
  have hok : ∀ f ∈ reqFlds t dl q sb un hv d ++ ext,f.Ok := by
    intro f hf
    simp only [reqFlds,List.mem_append] at hf
    rcases hf with (hf | hf | hf | hf | hf | hf | hf) | hf
    · exact nF_ok (by decide) (by decide) (by omega) f hf
    · exact bF_ok (by decide) (by decide) f hf
    · exact nF_ok (by decide) (by decide) hq f hf
    · exact lF_ok (by decide) (by decide) (fun s hs => by have := g4 s hs;omega) f hf
    · exact lF_ok (by decide) (by decide) (fun s hs => by have := g6 s hs;omega) f hf
    · exact hF_ok g8' f hf
    · exact dF_ok g9 f hf
    · exact (hx f hf).1
  have s1 : takeX stepQ (nF 1 t) .zero = (⟨t,0,0,[],[],[],[]⟩,true) := by rw [nF,if_neg (by omega)];rfl
  have s2 : takeX stepQ (bF 2 dl) ⟨t,0,0,[],[],[],[]⟩ = (⟨t,if dl then 1 else 0,0,[],[],[],[]⟩,true) := by cases dl <;> rfl
  have s3 : takeX stepQ (nF 3 q) ⟨t,if dl then 1 else 0,0,[],[],[],[]⟩ = (⟨t,if dl then 1 else 0,q,[],[],[],[]⟩,true) := by
    unfold nF;split
    · subst q;rfl
    · rfl
  have s7 : takeX stepQ (dF d) ⟨t,if dl then 1 else 0,q,sb,un,hv,[]⟩ = (⟨t,if dl then 1 else 0,q,sb,un,hv,d⟩,true) := by
    unfold dF;split
    · subst d;rfl
    · rfl
  have hp : takeXB stepQ ((1 :: NW.encs (reqFlds t dl q sb un hv d ++ ext)).drop 1) .zero = (⟨t,if dl then 1 else 0,q,sb,un,hv,d⟩,true) := by
    rw [List.drop_succ_cons,List.drop_zero,takeXB,NW.parse_encs' _ hok]
    show takeX stepQ (reqFlds t dl q sb un hv d ++ ext) .zero = _
    simp only [reqFlds,List.append_assoc]
    rw [takeX_app _ s1,takeX_app _ s2,takeX_app _ s3,takeX_app _ (take4 sb _),takeX_app _ (take5 un _),takeX_app _ (take6 hv _ g8')]
    simp only [List.nil_append]
    rw [takeX_app _ s7,takeExt ext _ (fun f hf => (hx f hf).2)]
  have hm : ((min t 6 : Nat) : Int) = (t : Int) := by omega
  have hdl : (((if dl then 1 else 0 : Nat) : Int) == 1) = dl := by cases dl <;> rfl
  rw [e,reqR,if_pos hk,hp]
  simp only [okQ,hm,hdl,h,Bool.and_true]
  rw [if_pos]
  exact ⟨trivial,by cases dl <;> rfl⟩
end Go.Proofs.YtbdacbcpniegiaaGreatDoor
namespace Go.Sx
open Go Go.RowKit Go.MapKept
inductive Put (k : Value) (s : S1) : List (Value × S1) → List (Value × S1) → Prop
  | nil : Put k s [] [(k,s)]
  | hit {p es} : k = p.1 → Put k s (p :: es) ((k,s) :: es)
  | miss {p es es'} : k ≠ p.1 → Put k s es es' → Put k s (p :: es) (p :: es')
theorem sameBits_key {d : TypeDesc} {k : Value} (hk : KeyOf d k = true) : Instr.sameBits 10000 k k = true := by
  unfold KeyOf at hk
  split at hk
  · simp [Instr.sameBits]
  · unfold Instr.sameBits;exact (bytes_beq _ _).2 rfl
  · cases hk
abbrev MR (σ : List Value) (p : Value × S1) (m : MapEntry) : Prop := m.key = p.1 ∧ D1 σ p.2 m.val
theorem findNow_put {σ : List Value} {d : TypeDesc} {k v : Value} {s : S1} (hk : KeyOf d k = true) (hd : D1 σ s v) : ∀ {es es' : List (Value × S1)} {ms : List MapEntry} (i : Nat),
    All2 (MR σ) es ms → (es.all fun p => KeyOf d p.1) = true → Put k s es es' →
    (Instr.findNow d k ms i = some none ∧ ∀ clock,All2 (MR σ) es' (ms ++ [⟨k,v,clock⟩])) ∨
    (∃ j v0 e0,Instr.findNow d k ms i = some (some (i + j,v0)) ∧ ms[j]? = some e0 ∧ e0.key = k ∧ All2 (MR σ) es' (ms.modify j fun e => { e with key := k,val := v }))
  | [],es',[],i,_,_,h => by cases h;exact .inl ⟨rfl,fun c => ⟨⟨rfl,hd⟩,trivial⟩⟩
  | p :: es,es',m :: ms,i,ha,hks,h => by
    simp only [List.all_cons,Bool.and_eq_true] at hks
    cases h with
    | hit e =>
      have : Instr.sameNow d k m.key = some true := sameNow_beq hk (by rw [ha.1.1];exact hks.1) (by rw [ha.1.1];simp [e])
      refine .inr ⟨0,m.val,m,by simp [Instr.findNow,this],rfl,ha.1.1.trans e.symm,?_⟩
      exact ⟨⟨rfl,hd⟩,ha.2⟩
    | miss e h =>
      have : Instr.sameNow d k m.key = some false := sameNow_beq hk (by rw [ha.1.1];exact hks.1) (by rw [ha.1.1];simp [e])
      rcases findNow_put hk hd (i + 1) ha.2 hks.2 h with ⟨h1,h2⟩ | ⟨j,v0,e0,h1,h2,h3,h4⟩
      · exact .inl ⟨by simp [Instr.findNow,this,h1],fun c => ⟨ha.1,h2 c⟩⟩
      · refine .inr ⟨j + 1,v0,e0,by simp [Instr.findNow,this,h1];omega,by simpa using h2,h3,?_⟩
        rw [List.modify_succ_cons]
        exact ⟨ha.1,h4⟩
  | [],_,_ :: _,_,h,_,_ => h.elim
  | _ :: _,_,[],_,h,_,_ => h.elim
open Classical in
noncomputable def repl (k v : Value) (e : MapEntry) : MapEntry := if e.key = k then { e with key := k,val := v } else e
theorem modify_map {k v : Value} : ∀ {ms : List MapEntry} {j : Nat} {e : MapEntry},(ms.map (·.key)).Nodup → ms[j]? = some e → e.key = k → (ms.modify j fun e => { e with key := k,val := v }) = ms.map (repl k v)
  | [],j,e,_,h,_ => by simp at h
  | m :: ms,0,e,hn,h,hk => by
    rw [List.map_cons,List.nodup_cons] at hn
    simp at h
    subst h
    rw [List.modify_zero_cons,List.map_cons]
    congr 1
    · simp [repl,hk]
    · symm
      rw [List.map_congr_left (g := id),List.map_id]
      intro x hx
      have : x.key ≠ k := fun e => hn.1 (List.mem_map.2 ⟨x,hx,e.trans hk.symm⟩)
      simp [repl,this]
  | m :: ms,j + 1,e,hn,h,hk => by
    rw [List.map_cons,List.nodup_cons] at hn
    rw [List.modify_succ_cons,List.map_cons,modify_map hn.2 (by simpa using h) hk]
    congr 1
    have he : e ∈ ms := List.mem_of_getElem? (by simpa using h)
    have : m.key ≠ k := fun e' => hn.1 (List.mem_map.2 ⟨e,he,hk.trans e'.symm⟩)
    simp [repl,this]
section
variable {X : Ctx} {c : Cfg} {N : Cfg → Prop} {ty : TypeId} {pos : String} {af : Array Edge} {g : Option (Nat × Bool)}
theorem VO.mapSet {t kt et i : Nat} {m k x : Operand} {kv : Value} {s : S1} {es es' : List (Value × S1)} {kd : TypeDesc} (hm : c.ev m = .one (.c (.row i))) (hi : c.loc[i]? = some (.map es)) (hk : c.ev k = vv kv) (hx : c.ev x = .one s)
    (ht : X.P.underlying t = some (.map kt et)) (hkt : X.P.underlying kt = some kd) (hkv : KeyOf kd kv = true) (hks : (es.all fun p => KeyOf kd p.1) = true) (hp : Put kv s es es')
    (h : N { c with loc := c.loc.set i (.map es') }) : VO X ⟨none,.mapUpdate t m k x,ty,pos,af,g⟩ c N :=
  .of_skip rfl fun ρ σ a w hr => by
    have e1 := hr.ev m
    rw [hm] at e1
    have e1 : σ[i]? = some (a.eval m) := e1
    have e2 := hr.ev k
    rw [hk] at e2
    have e2 : a.eval k = kv := e2
    have e3 := hr.ev x
    rw [hx] at e3
    obtain ⟨b,ms,clock,ms',fp,hb,hm0,e0,hw,hpm,ha⟩ := hr.getMap hi e1
    obtain ⟨hpe,hnd⟩ := hpm
    have hkm : ∀ m ∈ ms.toList,KeyOf kd m.key = true := fun m hm => by
      obtain ⟨p,h1,h2,_⟩ := All2.memR ha m (hpe.mem_iff.2 hm)
      rw [h2]
      exact List.all_eq_true.1 hks p h1
    rcases findNow_put hkv e3 0 ha hks hp with ⟨hf0,hA⟩ | ⟨j0,v0,en0,hf0,h20,h30,hA⟩
    · have hno : ∀ m ∈ ms',m.key ≠ kv := by
        rcases findNow_mem hkv 0 (fun m hm => hkm m (hpe.mem_iff.1 hm)) with ⟨h1,_⟩ | ⟨j,e,_,_,h3⟩
        · exact h1
        · rw [hf0] at h3;cases h3
      have hf : Instr.findNow kd kv ms.toList 0 = some none := by
        rcases findNow_mem hkv 0 hkm with ⟨_,h2⟩ | ⟨j,e,h1,h2,_⟩
        · exact h2
        · exact absurd h2 (hno e (hpe.mem_iff.2 (List.mem_of_getElem? h1)))
      refine ⟨{ w with heap := w.heap.setIfInBounds b (.map (ms.push ⟨kv,a.eval x,clock⟩) (clock + 1)) },_,ρ,σ,?_,hr.setObj _ (List.getElem?_eq_some_iff.1 hi).1 hb hm0 e1 (o := .map es') ?_,h⟩
      · simp [execOp,e0,e2,Instr.mapUpdate,run_underlying ht,MapKept.run_getObj_map hw,run_checkKey hkt (isKey_of hkv),run_findKey hkt hf,MapKept.run_setObj_map _ hw,Result.andThen]
      · refine ⟨b,_,_,ms' ++ [⟨kv,a.eval x,clock⟩],e0,hm0,Array.getElem?_setIfInBounds_self_of_lt (Array.getElem?_eq_some_iff.1 hw).1,⟨?_,?_⟩,hA clock⟩
        · rw [Array.toList_push];exact hpe.append_right _
        · rw [List.map_append,List.nodup_append]
          refine ⟨hnd,by simp,fun x hx y hy => ?_⟩
          obtain ⟨m,hm,rfl⟩ := List.mem_map.1 hx
          simp at hy
          subst hy
          exact hno m hm
    · have hme : en0 ∈ ms' := List.mem_of_getElem? h20
      obtain ⟨j,en,h2,h3,hf⟩ : ∃ j e,ms.toList[j]? = some e ∧ e.key = kv ∧ Instr.findNow kd kv ms.toList 0 = some (some (0 + j,e.val)) := by
        rcases findNow_mem hkv 0 hkm with ⟨h1,_⟩ | ⟨j,e,h1,h2,h3⟩
        · exact absurd h30 (h1 en0 (hpe.mem_iff.1 hme))
        · exact ⟨j,e,h1,h2,h3⟩
      rw [Nat.zero_add] at hf
      have h2' : ms[j]? = some en := by rw [← Array.getElem?_toList];exact h2
      refine ⟨{ w with heap := w.heap.setIfInBounds b (.map (ms.modify j fun e => { e with key := kv,val := a.eval x }) clock) },_,ρ,σ,?_,hr.setObj _ (List.getElem?_eq_some_iff.1 hi).1 hb hm0 e1 (o := .map es') ?_,h⟩
      · simp [execOp,e0,e2,Instr.mapUpdate,run_underlying ht,MapKept.run_getObj_map hw,run_checkKey hkt (isKey_of hkv),run_findKey hkt hf,MapKept.run_setObj_map _ hw,Result.andThen,h2',h3,Instr.keyThatStays,sameBits_key hkv]
      · have hndm : (ms.toList.map (·.key)).Nodup := (hpe.map _).nodup_iff.1 hnd
        refine ⟨b,_,_,ms'.modify j0 fun e => { e with key := kv,val := a.eval x },e0,hm0,Array.getElem?_setIfInBounds_self_of_lt (Array.getElem?_eq_some_iff.1 hw).1,⟨?_,?_⟩,hA⟩
        · rw [Array.toList_modify,modify_map hnd h20 h30,modify_map hndm h2 h3]
          exact hpe.map _
        · rw [modify_map hnd h20 h30,List.map_map]
          have : ((fun e : MapEntry => e.key) ∘ repl kv (a.eval x)) = fun e => e.key := by
            funext e;simp only [Function.comp,repl];split
            · rename_i h;exact h.symm
            · rfl
          rw [this];exact hnd
end
end Go.Sx
namespace Go.Proofs.YtbdacbcpniegiaaGreatDoor
open Go Go.RowKit Go.Proofs Go.Sx
structure Rs where
  t : Int
  s : List UInt8
  q : Nat
  g : Bool
  b : List UInt8
deriving Inhabited,DecidableEq
def rightB (r : Rs) : Bool := keyB r.t r.s && !(r.s == [42]) && decide ((r.b.length : Int) ≤ 1024) && !(r.g && !(r.b == [])) && decide (0 < (r.q : Int)) && decide ((r.q : Int) ≤ 4611686018427387904)
def Rs.cells (r : Rs) : List Value := [.int .i64 r.t,.string (B r.s),.int .u64 r.q,.bool r.g,.string (B r.b)]
theorem right_any (r : Rs) (hs : r.s.length ≤ 9223372036854775807) (w : World) :
    Calls Tryz.prog 77 #[.agg #[.int .i64 r.t,.string (B r.s),.int .u64 r.q,.bool r.g,.string (B r.b)]] w fun e w' => e = .returned (.bool (rightB r)) ∧ Below w.heap.size w w' := by
  refine calls_pureK (args := [.agg #[.int .i64 r.t,.string (B r.s),.int .u64 r.q,.bool r.g,.string (B r.b)]]) w Tryz.func77 rfl Tryz.ntmps77 (by simp) ?_
  intro X K hX hK
  have hnt : X.nt = 38 := by rw [hX]
  have hwi : X.wi = w := by rw [hX]
  have hP : X.P = Tryz.prog := by rw [hX]
  have hown : X.own = [] := by rw [hX]
  have hbl : X.base.length = 0 := by rw [hX];rfl
  clear hX
  have hT := Ty.T77 hP
  repeat' (first|(refine SX.seqK ?_;intro N hN)|((first | (refine SX.ops ?_));simp only [GA,↓GB,GX,simprocAttr,hnt,hT])|((first | refine SX.skip ?_ | refine SX.exit ?_ | refine SX.label ?_ | refine SX.ret ?_);try simp only [GA,↓GB,GX,simprocAttr])|(refine hN _ ?_;clear hN N)|(refine hK _ _ (Fin.res rfl hown ?_);simp only [GA,↓GB,GX,simprocAttr,f_a,f_b,f_n,f_c,f_B,f_v,f_g,f_0,f_1,f_2,hT,hwi];intro w' hbel;refine Done.out ?_)|(refine bif2.mk (fun hb => ?_) (fun hb => ?_) <;> (try simp only [hb,GA,↓GB,GX,simprocAttr,hnt,hT]) <;> ((first | cases hb | (simp only [HBs] at hb) | skip) <;> (first | (exfalso;omega) | skip)))|((first | (refine CallVC.pv hP (key_any _ _ hs) rfl ?_) | (refine CallQ.pv hP (key_any _ _ hs) rfl ?_));simp only [GA,↓GB,GX,simprocAttr,hnt,hT])|(refine and_mk ?_ ?_;(focus first | decide | omega | rfl | assumption | (simp only [LBs];omega) | (simp;done)))|(refine And.intro ?_ ?_))
  all_goals (try refine Done.mk ?_)
  all_goals (refine ⟨?_,hbel⟩;clear hK hT hP hnt hwi hown hbl;simp_all [rightB] <;> (intros;omega))
def resB (r : Rs) (t : Nat) : List UInt8 := numB 1 t ++ textB 2 r.s ++ numB 3 r.q ++ (if r.g then numB 4 1 else []) ++ (if r.b = [] then [] else textB 5 r.b)
theorem right_type {r : Rs} (h : rightB r = true) : 1 ≤ r.t ∧ r.t ≤ 5 ∧ r.s.length ≤ 64 ∧ r.b.length ≤ 1024 ∧ 0 < r.q ∧ r.q ≤ 4611686018427387904 := by
  simp only [rightB,keyB,nameB,Bool.and_eq_true,Bool.or_eq_true,decide_eq_true_eq,beq_iff_eq] at h
  obtain ⟨⟨⟨⟨⟨⟨⟨h1,h2⟩,h3⟩,_⟩,h4⟩,_⟩,h5⟩,h6⟩ := h
  refine ⟨h1,h2,?_,by omega,by omega,by omega⟩
  rcases h3 with h3 | h3
  · rw [h3];decide
  · omega
theorem put_yes (r : Rs) (h : rightB r = true) (w : World) :
    Calls Tryz.prog 71 #[.agg #[.int .i64 r.t,.string (B r.s),.int .u64 r.q,.bool r.g,.string (B r.b)]] w fun e w' => e = .returned (.tuple #[.string (B (resB r r.t.toNat)),.bool true]) ∧ Below w.heap.size w w' := by
  obtain ⟨h1,h2,h3,h4,h5,h6⟩ := right_type h
  have hr := right_any r (by omega)
  obtain ⟨t,s,q,g,b⟩ := r
  simp only [] at h1 h2 h3 h4 h5 h6 hr
  obtain ⟨t,rfl⟩ : ∃ n : Nat,t = n := ⟨t.toNat,by omega⟩
  have e1 : IntKind.u64.wrap (t : Int) = (t : Int) := wU64 (by omega) (by omega)
  rw [Int.toNat_natCast]
  have n1 := numB_len 1 t (by decide) (by omega)
  have n2 := textB_len 2 s (by decide) (by omega)
  have n3 := numB_len 3 q (by decide) (by omega)
  have n4 := numB_len 4 1 (by decide) (by decide)
  have n5 := textB_len 5 b (by decide) (by omega)
  cases g with
  | true =>
    by_cases hb : b = []
    · subst hb
      refine calls_pureK (args := [.agg #[.int .i64 t,.string (B s),.int .u64 q,.bool true,.string (B [])]]) w Tryz.func71 rfl Tryz.ntmps71 (by simp) ?_
      intro X K hX hK
      have hnt : X.nt = 36 := by rw [hX]
      have hwi : X.wi = w := by rw [hX]
      have hP : X.P = Tryz.prog := by rw [hX]
      have hown : X.own = [] := by rw [hX]
      have hbl : X.base.length = 0 := by rw [hX];rfl
      clear hX
      have hT := Ty.T71 hP
      repeat' (first|(refine SX.seqK ?_;intro N hN)|((first | (refine SX.ops ?_) | (refine SX.planT (id := 3) [.q [(0,[1]),(1,[8]),(2,[9]),(3,[10]),(4,[11]),(5,[1]),(6,[13]),(7,[14]),(8,[15]),(9,[12,16]),(10,[1]),(11,[18]),(12,[19]),(13,[17,20]),(14,[21])] none] ?_ ?_ ?_;(focus first | (rw [hP];kernel_rfl) | (rw [hU1P,hP];kernel_rfl));(focus kernel_rfl)));simp only [GA,↓GB,GX,simprocAttr,hnt,hT,h,e1])|((first | refine SX.skip ?_ | refine SX.exit ?_ | refine SX.label ?_ | refine SX.ret ?_);try simp only [GA,↓GB,GX,simprocAttr])|(refine hN _ ?_;clear hN N)|(refine hK _ _ (Fin.res rfl hown ?_);simp only [GA,↓GB,GX,simprocAttr,f_a,f_b,f_n,f_c,f_B,f_v,f_g,f_0,f_1,f_2,hT,hwi,h,e1];intro w' hbel;refine Done.out ?_)|((first | refine SX.cond rfl (fun hb => ?_) (fun hb => ?_) | (refine bif2.mk (fun hb => ?_) (fun hb => ?_) <;> (try simp only [hb,GA,↓GB,GX,simprocAttr,hnt,hT,h,e1]))) <;> ((first | cases hb | (simp only [HBs] at hb) | skip) <;> (first | (exfalso;omega) | skip)))|((first | (refine CallVC.pv hP (hr) rfl ?_) | (refine CallQ.pv hP (hr) rfl ?_) | (refine CallVC.pv hP (number_any 1 t (by decide) (by decide) (by omega)) rfl ?_) | (refine CallQ.pv hP (number_any 1 t (by decide) (by decide) (by omega)) rfl ?_) | (refine CallVC.pv hP (number_any 3 q (by decide) (by decide) (by omega)) rfl ?_) | (refine CallQ.pv hP (number_any 3 q (by decide) (by decide) (by omega)) rfl ?_) | (refine CallVC.pv hP (number_any 4 1 (by decide) (by decide) (by decide)) rfl ?_) | (refine CallQ.pv hP (number_any 4 1 (by decide) (by decide) (by decide)) rfl ?_) | (refine CallVC.pv hP (text_any 2 s (by decide) (by decide) (by omega)) rfl ?_) | (refine CallQ.pv hP (text_any 2 s (by decide) (by decide) (by omega)) rfl ?_));simp only [GA,↓GB,GX,simprocAttr,hnt,hT,h,e1])|(refine and_mk ?_ ?_;(focus first | decide | omega | rfl | assumption | (simp only [LBs];omega) | (simp;done)))|(refine And.intro ?_ ?_))
      all_goals (try refine Done.mk ?_)
      all_goals first|((try simp only [List.length_append]);omega)|(refine ⟨?_,hbel⟩;simp_all [resB])
    · exfalso
      simp [rightB,hb] at h
  | false =>
    by_cases hb : b = []
    · subst hb
      refine calls_pureK (args := [.agg #[.int .i64 t,.string (B s),.int .u64 q,.bool false,.string (B [])]]) w Tryz.func71 rfl Tryz.ntmps71 (by simp) ?_
      intro X K hX hK
      have hnt : X.nt = 36 := by rw [hX]
      have hwi : X.wi = w := by rw [hX]
      have hP : X.P = Tryz.prog := by rw [hX]
      have hown : X.own = [] := by rw [hX]
      have hbl : X.base.length = 0 := by rw [hX];rfl
      clear hX
      have hT := Ty.T71 hP
      repeat' (first|(refine SX.seqK ?_;intro N hN)|((first | (refine SX.ops ?_) | (refine SX.planT (id := 3) [.q [(0,[1]),(1,[8]),(2,[9]),(3,[10]),(4,[11]),(5,[1]),(6,[13]),(7,[14]),(8,[15]),(9,[12,16]),(10,[1]),(11,[18]),(12,[19]),(13,[17,20]),(14,[21])] none] ?_ ?_ ?_;(focus first | (rw [hP];kernel_rfl) | (rw [hU1P,hP];kernel_rfl));(focus kernel_rfl)));simp only [GA,↓GB,GX,simprocAttr,hnt,hT,h,e1])|((first | refine SX.skip ?_ | refine SX.exit ?_ | refine SX.label ?_ | refine SX.ret ?_);try simp only [GA,↓GB,GX,simprocAttr])|(refine hN _ ?_;clear hN N)|(refine hK _ _ (Fin.res rfl hown ?_);simp only [GA,↓GB,GX,simprocAttr,f_a,f_b,f_n,f_c,f_B,f_v,f_g,f_0,f_1,f_2,hT,hwi,h,e1];intro w' hbel;refine Done.out ?_)|((first | refine SX.cond rfl (fun hb => ?_) (fun hb => ?_) | (refine bif2.mk (fun hb => ?_) (fun hb => ?_) <;> (try simp only [hb,GA,↓GB,GX,simprocAttr,hnt,hT,h,e1]))) <;> ((first | cases hb | (simp only [HBs] at hb) | skip) <;> (first | (exfalso;omega) | skip)))|((first | (refine CallVC.pv hP (hr) rfl ?_) | (refine CallQ.pv hP (hr) rfl ?_) | (refine CallVC.pv hP (number_any 1 t (by decide) (by decide) (by omega)) rfl ?_) | (refine CallQ.pv hP (number_any 1 t (by decide) (by decide) (by omega)) rfl ?_) | (refine CallVC.pv hP (number_any 3 q (by decide) (by decide) (by omega)) rfl ?_) | (refine CallQ.pv hP (number_any 3 q (by decide) (by decide) (by omega)) rfl ?_) | (refine CallVC.pv hP (text_any 2 s (by decide) (by decide) (by omega)) rfl ?_) | (refine CallQ.pv hP (text_any 2 s (by decide) (by decide) (by omega)) rfl ?_));simp only [GA,↓GB,GX,simprocAttr,hnt,hT,h,e1])|(refine and_mk ?_ ?_;(focus first | decide | omega | rfl | assumption | (simp only [LBs];omega) | (simp;done)))|(refine And.intro ?_ ?_))
      all_goals (try refine Done.mk ?_)
      all_goals first|((try simp only [List.length_append]);omega)|(refine ⟨?_,hbel⟩;simp_all [resB])
    · have gb : (b == []) = false := by cases b <;> simp_all
      refine calls_pureK (args := [.agg #[.int .i64 t,.string (B s),.int .u64 q,.bool false,.string (B b)]]) w Tryz.func71 rfl Tryz.ntmps71 (by simp) ?_
      intro X K hX hK
      have hnt : X.nt = 36 := by rw [hX]
      have hwi : X.wi = w := by rw [hX]
      have hP : X.P = Tryz.prog := by rw [hX]
      have hown : X.own = [] := by rw [hX]
      have hbl : X.base.length = 0 := by rw [hX];rfl
      clear hX
      have hT := Ty.T71 hP
      repeat' (first|(refine SX.seqK ?_;intro N hN)|((first | (refine SX.ops ?_) | (refine SX.planT (id := 3) [.q [(0,[1]),(1,[8]),(2,[9]),(3,[10]),(4,[11]),(5,[1]),(6,[13]),(7,[14]),(8,[15]),(9,[12,16]),(10,[1]),(11,[18]),(12,[19]),(13,[17,20]),(14,[21])] none] ?_ ?_ ?_;(focus first | (rw [hP];kernel_rfl) | (rw [hU1P,hP];kernel_rfl));(focus kernel_rfl)));simp only [GA,↓GB,GX,simprocAttr,hnt,hT,h,e1,gb])|((first | refine SX.skip ?_ | refine SX.exit ?_ | refine SX.label ?_ | refine SX.ret ?_);try simp only [GA,↓GB,GX,simprocAttr])|(refine hN _ ?_;clear hN N)|(refine hK _ _ (Fin.res rfl hown ?_);simp only [GA,↓GB,GX,simprocAttr,f_a,f_b,f_n,f_c,f_B,f_v,f_g,f_0,f_1,f_2,hT,hwi,h,e1,gb];intro w' hbel;refine Done.out ?_)|((first | refine SX.cond rfl (fun hb => ?_) (fun hb => ?_) | (refine bif2.mk (fun hb => ?_) (fun hb => ?_) <;> (try simp only [hb,GA,↓GB,GX,simprocAttr,hnt,hT,h,e1,gb]))) <;> ((first | cases hb | (simp only [HBs] at hb) | skip) <;> (first | (exfalso;omega) | skip)))|((first | (refine CallVC.pv hP (hr) rfl ?_) | (refine CallQ.pv hP (hr) rfl ?_) | (refine CallVC.pv hP (number_any 1 t (by decide) (by decide) (by omega)) rfl ?_) | (refine CallQ.pv hP (number_any 1 t (by decide) (by decide) (by omega)) rfl ?_) | (refine CallVC.pv hP (number_any 3 q (by decide) (by decide) (by omega)) rfl ?_) | (refine CallQ.pv hP (number_any 3 q (by decide) (by decide) (by omega)) rfl ?_) | (refine CallVC.pv hP (text_any 2 s (by decide) (by decide) (by omega)) rfl ?_) | (refine CallQ.pv hP (text_any 2 s (by decide) (by decide) (by omega)) rfl ?_) | (refine CallVC.pv hP (text_any 5 b (by decide) (by decide) (by omega)) rfl ?_) | (refine CallQ.pv hP (text_any 5 b (by decide) (by decide) (by omega)) rfl ?_));simp only [GA,↓GB,GX,simprocAttr,hnt,hT,h,e1,gb])|(refine and_mk ?_ ?_;(focus first | decide | omega | rfl | assumption | (simp only [LBs];omega) | (simp;done)))|(refine And.intro ?_ ?_))
      all_goals (try refine Done.mk ?_)
      all_goals first|((try simp only [List.length_append]);omega)|(refine ⟨?_,hbel⟩;simp_all [resB])
structure Mk where
  t : Int
  s : List UInt8
  q : Int
  st : Int
  d : List UInt8
deriving DecidableEq,Inhabited
def Mk.cells (m : Mk) : List Value := [.int .i64 m.t,.string (B m.s),.int .u64 m.q,.int .i64 m.st,.string (B m.d)]
def mks (ms : List Mk) : List Value := ms.flatMap Mk.cells
theorem mks_cons (m : Mk) (ms : List Mk) : mks (m :: ms) = m.cells ++ mks ms := rfl
theorem mks_append (a b : List Mk) : mks (a ++ b) = mks a ++ mks b := by simp [mks]
theorem mks_drop : ∀ (i : Nat) (ms : List Mk),(mks ms).drop (i * 5) = mks (ms.drop i)
  | 0,ms => by simp
  | i + 1,[] => by simp [mks]
  | i + 1,m :: ms => by
    rw [mks_cons,show (i + 1) * 5 = m.cells.length + i * 5 by simp [Mk.cells];omega,List.drop_append,Nat.add_sub_cancel_left,mks_drop i ms,List.drop_of_length_le (by omega)]
    rfl
theorem mks_at (ms : List Mk) (i : Nat) (h : i < ms.length) : ((mks ms).drop (i * 5)).take 5 = (ms.getD i default).cells := by
  rw [mks_drop,List.drop_eq_getElem_cons h,mks_cons,List.getD_eq_getElem?_getD,List.getElem?_eq_getElem h]
  simp [Mk.cells]
def idxI (p : Mk → Bool) (ms : List Mk) : Int := match ms.findIdx? p with | some i => i | none => -1
theorem idxN (p : Mk → Bool) (ms : List Mk) (i : Nat) (hi : i < ms.length) (hp : p (ms.getD i default) = true) (hn : ∀ j,j < i → p (ms.getD j default) = false) : idxI p ms = i := by
  have : ms.findIdx? p = some i := by
    rw [List.findIdx?_eq_some_iff_getElem]
    refine ⟨hi,by simpa [List.getD_eq_getElem?_getD,List.getElem?_eq_getElem hi] using hp,fun j hj => ?_⟩
    have := hn j hj
    rw [List.getD_eq_getElem?_getD,List.getElem?_eq_getElem (by omega)] at this
    simpa using this
  simp [idxI,this]
theorem idxNone (p : Mk → Bool) (ms : List Mk) (hn : ∀ j,j < ms.length → p (ms.getD j default) = false) : idxI p ms = -1 := by
  have : ms.findIdx? p = none := by
    rw [List.findIdx?_eq_none_iff]
    intro x hx
    obtain ⟨j,hj,rfl⟩ := List.mem_iff_getElem.1 hx
    have := hn j hj
    rw [List.getD_eq_getElem?_getD,List.getElem?_eq_getElem hj] at this
    simpa using this
  simp [idxI,this]
end Go.Proofs.YtbdacbcpniegiaaGreatDoor
namespace Go.Proofs.YtbdacbcpniegiaaGreatDoor.Q
open Go Go.RowKit Go.Proofs Go.Sx
def isK (b : Int) (t : List UInt8) (m : Rs) : Bool := m.t == b && m.s == t
def isO (x m : Rs) : Bool := decide (0 < cmpKey m.t m.s x.t x.s)
def mks (ms : List Rs) : List Value := ms.flatMap Rs.cells
theorem mks_cons (m : Rs) (ms : List Rs) : mks (m :: ms) = m.cells ++ mks ms := rfl
theorem mks_append (a b : List Rs) : mks (a ++ b) = mks a ++ mks b := by simp [mks]
theorem mks_drop : ∀ (i : Nat) (ms : List Rs),(mks ms).drop (i * 5) = mks (ms.drop i)
  | 0,ms => by simp
  | i + 1,[] => by simp [mks]
  | i + 1,m :: ms => by
    rw [mks_cons,show (i + 1) * 5 = m.cells.length + i * 5 by simp [Rs.cells];omega,List.drop_append,Nat.add_sub_cancel_left,mks_drop i ms,List.drop_of_length_le (by omega)]
    rfl
theorem mks_at (ms : List Rs) (i : Nat) (h : i < ms.length) : ((mks ms).drop (i * 5)).take 5 = (ms.getD i default).cells := by
  rw [mks_drop,List.drop_eq_getElem_cons h,mks_cons,List.getD_eq_getElem?_getD,List.getElem?_eq_getElem h]
  simp [Rs.cells]
@[reducible] def mrow (ms : List Rs) : LO := .row 139 5 ms.length (mks ms)
def idxI (p : Rs → Bool) (ms : List Rs) : Int := match ms.findIdx? p with | some i => i | none => -1
theorem idxN (p : Rs → Bool) (ms : List Rs) (i : Nat) (hi : i < ms.length) (hp : p (ms.getD i default) = true) (hn : ∀ j,j < i → p (ms.getD j default) = false) : idxI p ms = i := by
  have : ms.findIdx? p = some i := by
    rw [List.findIdx?_eq_some_iff_getElem]
    refine ⟨hi,by simpa [List.getD_eq_getElem?_getD,List.getElem?_eq_getElem hi] using hp,fun j hj => ?_⟩
    have := hn j hj
    rw [List.getD_eq_getElem?_getD,List.getElem?_eq_getElem (by omega)] at this
    simpa using this
  simp [idxI,this]
theorem idxNone (p : Rs → Bool) (ms : List Rs) (hn : ∀ j,j < ms.length → p (ms.getD j default) = false) : idxI p ms = -1 := by
  have : ms.findIdx? p = none := by
    rw [List.findIdx?_eq_none_iff]
    intro x hx
    obtain ⟨j,hj,rfl⟩ := List.mem_iff_getElem.1 hx
    have := hn j hj
    rw [List.getD_eq_getElem?_getD,List.getElem?_eq_getElem hj] at this
    simpa using this
  simp [idxI,this]
def wrongB (t : Int) (r : Rs) : Bool := !rightB r || (r.t != t || r.g)
theorem wrong1_ctr (r : Rs) (hs : r.s.length ≤ 9223372036854775807) (t : Int) (dl mo : Bool) (q v : Nat) (rs : List Rs) (rm : List (List UInt8)) :
    Ctr Tryz.prog [] 76 [.cells [.v (.int .i64 t),.v (.bool dl),.v (.bool mo),.v (.int .u64 q),.v (.int .u64 v),.row 1,.row 2] 68,mrow rs,srow rm] [.one (.agg [.v (.int .i64 r.t),.v (.string (B r.s)),.v (.int .u64 r.q),.v (.bool r.g),.v (.string (B r.b))]),.one (.c (.loc 0 0))]
      (fun os u => os = [.cells [.v (.int .i64 t),.v (.bool dl),.v (.bool mo),.v (.int .u64 q),.v (.int .u64 v),.row 1,.row 2] 68,mrow rs,srow rm] ∧ u = vv (.bool (wrongB t r))) := by
  have hr := right_any r hs
  refine Ctr.less ?_
  intro X0 hP0 hG0 N0 hN0
  refine CallVC.inline (f := 76) (by rw [hP0];exact Tryz.func76) rfl Tryz.ntmps76 rfl (by simp) ?_
  intro X K hU hnt hbl hK
  have hP : X.P = Tryz.prog := hU.P.trans hP0
  have hG := hG0.under hU
  have hT := Ty.T76 hP
  simp only [GA,↓GB,GX,simprocAttr] at hbl ⊢
  have key : ∀ (b : Bool) (os' : List LO),wrongB t r = b → LeR 3 [0,1,2] ⟨[],[.cells [.v (.int .i64 t),.v (.bool dl),.v (.bool mo),.v (.int .u64 q),.v (.int .u64 v),.row 1,.row 2] 68,mrow rs,srow rm]⟩ ⟨[],os'⟩ → N0 ⟨[],os'⟩ (vv (.bool b)) := fun b os' h hl => by
    subst h
    exact hN0 _ _ ⟨[0,1,2],_,_,hl,rfl,rfl,rfl,rfl⟩
  repeat' (first|(refine SX.seqK ?_;intro N hN)|((first | (refine SX.ops ?_));simp only [GA,↓GB,GX,simprocAttr,hnt,hT])|((first | refine SX.skip ?_ | refine SX.exit ?_ | refine SX.label ?_ | refine SX.ret ?_);try simp only [GA,↓GB,GX,simprocAttr])|(refine hN _ ?_;clear hN N)|((first | refine hK _ _ (FinI.ret3 ?_) | refine hK _ _ (FinI.nrm3 ?_));simp only [GA,↓GB,GX,simprocAttr,finP_s,hnt,hT];refine Done.out ?_)|(refine bif2.mk (fun hb => ?_) (fun hb => ?_) <;> (try simp only [hb,GA,↓GB,GX,simprocAttr,hnt,hT]) <;> ((first | cases hb | (simp only [HBs] at hb) | skip) <;> (first | (exfalso;omega) | skip)))|((first | (refine CallVC.pv hP (hr) rfl ?_) | (refine CallQ.pv hP (hr) rfl ?_));simp only [GA,↓GB,GX,simprocAttr,hnt,hT])|(refine and_mk ?_ ?_;(focus first | decide | omega | rfl | assumption | (simp only [LBs];omega) | (simp;done)))|(refine And.intro ?_ ?_))
  all_goals (try refine Done.mk ?_)
  all_goals
    refine key _ _ ?_ ?_
    · clear hK hT hP hnt hN0 hG hG0 hbl key hP0 hr
      simp only [wrongB]
      generalize rightB r = A at *
      cases A <;> simp_all
    · exact LeR.of rfl trivial (by simp only [GA,↓GB,GX,simprocAttr,GDs]) (by decide) rfl rfl rfl
theorem indexFuncW (t : Int) (dl mo : Bool) (q v : Nat) (rs : List Rs) (rm : List (List UInt8)) (hms : rs.length ≤ 1099511627776) (hs : ∀ r ∈ rs,r.s.length ≤ 9223372036854775807) :
    Ctr Tryz.prog [] 97 [.cells [.v (.int .i64 t),.v (.bool dl),.v (.bool mo),.v (.int .u64 q),.v (.int .u64 v),.row 1,.row 2] 68,mrow rs,srow rm] [.one (.c (.row 1)),.one (.c (.clo 76 [] [.loc 0 0]))]
    (fun os u => os = [.cells [.v (.int .i64 t),.v (.bool dl),.v (.bool mo),.v (.int .u64 q),.v (.int .u64 v),.row 1,.row 2] 68,mrow rs,srow rm] ∧ u = vv (.int .i64 (idxI (wrongB t) rs))) := by
  have hrun : ∀ i,i < rs.length → Ctr Tryz.prog [] 76 [.cells [.v (.int .i64 t),.v (.bool dl),.v (.bool mo),.v (.int .u64 q),.v (.int .u64 v),.row 1,.row 2] 68,mrow rs,srow rm] [.one (.agg [.v (.int .i64 (rs.getD i default).t),.v (.string (B (rs.getD i default).s)),.v (.int .u64 (rs.getD i default).q),.v (.bool (rs.getD i default).g),.v (.string (B (rs.getD i default).b))]),.one (.c (.loc 0 0))]
    (fun os u => os = [.cells [.v (.int .i64 t),.v (.bool dl),.v (.bool mo),.v (.int .u64 q),.v (.int .u64 v),.row 1,.row 2] 68,mrow rs,srow rm] ∧ u = vv (.bool (wrongB t (rs.getD i default)))) := fun i hi =>
    wrong1_ctr (rs.getD i default) (by rw [List.getD_eq_getElem?_getD,List.getElem?_eq_getElem hi];exact hs _ (List.getElem_mem hi)) t dl mo q v rs rm
  intro X0 hP0 hG0 N0 hN0
  refine CallVC.inline (f := 97) (by rw [hP0];exact Tryz.func97) rfl Tryz.ntmps97 rfl (by simp) ?_
  intro X K hU hnt hbl hK
  have hP : X.P = Tryz.prog := hU.P.trans hP0
  have hG := hG0.under hU
  have hT := Ty.T97 hP
  simp only [GA,↓GB,GX,simprocAttr] at hbl ⊢
  have hc : calleeOk X.P 76 = true := by rw [hP];kernel_rfl
  repeat' (first|(refine SX.seqK ?_;intro N hN)|((first | (refine SX.ops ?_));simp only [GA,↓GB,GX,simprocAttr,hnt,hT,hc])|((first | refine SX.skip ?_ | refine SX.exit ?_ | refine SX.label ?_ | refine SX.ret ?_);try simp only [GA,↓GB,GX,simprocAttr])|(refine hN _ ?_;clear hN N)|((first | refine hK _ _ (FinI.ret3 ?_) | refine hK _ _ (FinI.nrm3 ?_));simp only [GA,↓GB,GX,simprocAttr,finP_s,hnt,hT,hc];refine Done.out ?_)|(clear hN N;first | (refine hN _ ?_;clear hN N) | (clear hN N;refine hN _ ?_;clear hN N))|((first | refine SX.cond rfl (fun hb => ?_) (fun hb => ?_) | (refine bif2.mk (fun hb => ?_) (fun hb => ?_) <;> (try simp only [hb,GA,↓GB,GX,simprocAttr,hnt,hT,hc]))) <;> ((first | cases hb | (simp only [HBs] at hb) | skip) <;> (first | (exfalso;omega) | skip)))|((first | (refine Ctr.use (hrun i (by omega)) hP ?_ [0,1,2] ?_ rfl rfl ?_;(focus (intro p hp;cases hp));(focus (refine LeR.of rfl trivial ?_ ?_ ?_ ?_ ?_ <;> first | decide | (simp only [GA,↓GB,GX,simprocAttr,GDs];done)));intro os' s hR;obtain ⟨rfl,rfl⟩ := hR));simp only [GA,↓GB,GX,simprocAttr,hnt,hT,hc])|(refine SX.loop (ι := { i : Nat // i ≤ rs.length ∧ ∀ j,j < i → (wrongB t) (rs.getD j default) = false }) (fun i => ⟨[(0,.one (.c (.row 1))),(1,.one (.c (.clo 76 [] [.loc 0 0]))),(7,vv (.int .i64 rs.length)),(8,vv (.int .i64 i.1))],[.cells [.v (.int .i64 t),.v (.bool dl),.v (.bool mo),.v (.int .u64 q),.v (.int .u64 v),.row 1,.row 2] 68,mrow rs,srow rm]⟩) (fun i => rs.length - i.1) ⟨0,by omega,fun j hj => absurd hj (Nat.not_lt_zero j)⟩ ⟨[0,1,2],(LeR.of (by rw [hbl];decide) (by simp only [GA,↓GB,GX,simprocAttr,GDs]) (by simp only [GA,↓GB,GX,simprocAttr,GDs]) (by decide) (by simp only [GA,↓GB,GX,simprocAttr,GDs]) (by simp only [GA,↓GB,GX,simprocAttr,GDs]) (by simp only [GA,↓GB,GX,simprocAttr,GDs]))⟩ ?_ <;> rintro ⟨i,hi,hno⟩ <;> simp only [] at hi hno ⊢)|(refine ⟨(rs.getD i default).cells,rfl,mks_at _ _ (by omega),?_⟩ <;> simp only [Rs.cells,GA,↓GB,GX,simprocAttr,hnt,hT])|(refine SX.block ?_)|(refine and_mk ?_ ?_;(focus first | decide | omega | rfl | assumption | (simp only [LBs];omega) | (simp;done)))|(refine And.intro ?_ ?_))
  all_goals (try refine Done.mk ?_)
  · exact hN0 _ _ ⟨rfl,by rw [idxN _ _ i (by omega) hb hno];rfl⟩
  · refine ⟨⟨i + 1,by omega,fun j hj => ?_⟩,[0,1,2],(LeR.of (by rw [hbl];decide) (by simp only [GA,↓GB,GX,simprocAttr,GDs];try (rw [wI64 (by omega) (by omega)];simp)) (by simp only [GA,↓GB,GX,simprocAttr,GDs];try (rw [wI64 (by omega) (by omega)];simp)) (by decide) (by simp only [GA,↓GB,GX,simprocAttr,GDs]) (by simp only [GA,↓GB,GX,simprocAttr,GDs]) (by simp only [GA,↓GB,GX,simprocAttr,GDs])),by show rs.length - (i + 1) < rs.length - i;omega⟩
    rcases Nat.lt_or_eq_of_le (Nat.le_of_lt_succ hj) with h | h
    · exact hno j h
    · rw [h];exact hb
  · exact hN0 _ _ ⟨rfl,by rw [idxNone _ _ (fun j hj => hno j (by omega))];rfl⟩
theorem containsW (t : Int) (dl mo : Bool) (q v : Nat) (rs : List Rs) (rm : List (List UInt8)) (hms : rs.length ≤ 1099511627776) (hs : ∀ r ∈ rs,r.s.length ≤ 9223372036854775807) :
    Ctr Tryz.prog [] 78 [.cells [.v (.int .i64 t),.v (.bool dl),.v (.bool mo),.v (.int .u64 q),.v (.int .u64 v),.row 1,.row 2] 68,mrow rs,srow rm] [.one (.c (.row 1)),.one (.c (.clo 76 [] [.loc 0 0]))]
    (fun os u => os = [.cells [.v (.int .i64 t),.v (.bool dl),.v (.bool mo),.v (.int .u64 q),.v (.int .u64 v),.row 1,.row 2] 68,mrow rs,srow rm] ∧ u = vv (.bool (decide (0 ≤ idxI (wrongB t) rs)))) := by
  intro X0 hP0 hG0 N0 hN0
  refine CallVC.inline (f := 78) (by rw [hP0];exact Tryz.func78) rfl Tryz.ntmps78 rfl (by simp) ?_
  intro X K hU hnt hbl hK
  have hP : X.P = Tryz.prog := hU.P.trans hP0
  have hG := hG0.under hU
  have hT := Ty.T78 hP
  simp only [GA,↓GB,GX,simprocAttr] at hbl ⊢
  repeat' (first|(refine SX.seqK ?_;intro N hN)|((first | (refine SX.ops ?_));simp only [GA,↓GB,GX,simprocAttr,hnt,hT])|((first | refine SX.skip ?_ | refine SX.exit ?_ | refine SX.label ?_ | refine SX.ret ?_);try simp only [GA,↓GB,GX,simprocAttr])|(refine hN _ ?_;clear hN N)|((first | refine hK _ _ (FinI.ret3 ?_) | refine hK _ _ (FinI.nrm3 ?_));simp only [GA,↓GB,GX,simprocAttr,finP_s,hnt,hT];refine Done.out ?_)|(refine bif2.mk (fun hb => ?_) (fun hb => ?_) <;> (try simp only [hb,GA,↓GB,GX,simprocAttr,hnt,hT]) <;> ((first | cases hb | (simp only [HBs] at hb) | skip) <;> (first | (exfalso;omega) | skip)))|((first | (refine Ctr.use (indexFuncW t dl mo q v rs rm hms hs) hP ?_ [0,1,2] ?_ rfl rfl ?_;(focus (intro p hp;cases hp));(focus (refine LeR.of rfl trivial ?_ ?_ ?_ ?_ ?_ <;> first | decide | (simp only [GA,↓GB,GX,simprocAttr,GDs];done)));intro os' s hR;obtain ⟨rfl,rfl⟩ := hR));simp only [GA,↓GB,GX,simprocAttr,hnt,hT])|(refine and_mk ?_ ?_;(focus first | decide | omega | rfl | assumption | (simp only [LBs];omega) | (simp;done)))|(refine And.intro ?_ ?_))
  all_goals (try refine Done.mk ?_)
  all_goals exact hN0 _ _ ⟨rfl,rfl⟩
def respB (t : Int) (dl mo : Bool) (q : Nat) (rs : List Rs) (rm : List (List UInt8)) : Bool :=
  (decide (1 ≤ t) && decide (t ≤ 5)) && (decide (0 < (q : Int)) && (decide ((rs.length : Int) ≤ 64) && (!decide (0 ≤ idxI (wrongB t) rs) && ((decide ((rm.length : Int) ≤ 64) && rm.all nameB) && (dl || (((rm.length : Int) == 0) && !mo))))))
theorem rightResp_ctr (t : Int) (dl mo : Bool) (q v : Nat) (rs : List Rs) (rm : List (List UInt8)) (hms : rs.length ≤ 1099511627776) (hs : ∀ r ∈ rs,r.s.length ≤ 9223372036854775807) (h2 : rm.length ≤ 1099511627776) (b2 : ∀ s ∈ rm,s.length ≤ 9223372036854775807) :
    Ctr Tryz.prog [] 37 [mrow rs,srow rm] [.one (.agg [.v (.int .i64 t),.v (.bool dl),.v (.bool mo),.v (.int .u64 q),.v (.int .u64 v),.row 0,.row 1])] (fun os u => os = [mrow rs,srow rm] ∧ u = vv (.bool (respB t dl mo q rs rm))) := by
  have n3 := namedName rm h2 b2
  have hc := containsW t dl mo q v rs rm hms hs
  refine Ctr.less ?_
  intro X0 hP0 hG0 N0 hN0
  refine CallVC.inline (f := 37) (by rw [hP0];exact Tryz.func37) rfl Tryz.ntmps37 rfl (by simp) ?_
  intro X K hU hnt hbl hK
  have hP : X.P = Tryz.prog := hU.P.trans hP0
  have hG := hG0.under hU
  have hT := Ty.T37 hP
  simp only [GA,↓GB,GX,simprocAttr] at hbl ⊢
  have key : ∀ (b : Bool) (os' : List LO),respB t dl mo q rs rm = b → LeR 2 [0,1] ⟨[],[mrow rs,srow rm]⟩ ⟨[],os'⟩ → N0 ⟨[],os'⟩ (vv (.bool b)) := fun b os' h hl => by
    subst h
    exact hN0 _ _ ⟨[0,1],_,_,hl,rfl,rfl,rfl,rfl⟩
  repeat' (first|(refine SX.seqK ?_;intro N hN)|((first | (refine SX.ops ?_));simp only [GA,↓GB,GX,simprocAttr,hnt,hT])|((first | refine SX.skip ?_ | refine SX.exit ?_ | refine SX.label ?_ | refine SX.ret ?_);try simp only [GA,↓GB,GX,simprocAttr])|(refine hN _ ?_;clear hN N)|((first | refine hK _ _ (FinI.ret3 ?_) | refine hK _ _ (FinI.nrm3 ?_));simp only [GA,↓GB,GX,simprocAttr,finP_s,hnt,hT];refine Done.out ?_)|(refine bif2.mk (fun hb => ?_) (fun hb => ?_) <;> (try simp only [hb,GA,↓GB,GX,simprocAttr,hnt,hT]) <;> ((first | cases hb | (simp only [HBs] at hb) | skip) <;> (first | (exfalso;omega) | skip)))|((first | (refine CallVC.pv hP (typed_any t) rfl ?_) | (refine CallQ.pv hP (typed_any t) rfl ?_) | (refine Ctr.use (n3) hP ?_ [1] ?_ rfl rfl ?_;(focus (intro p hp;cases hp));(focus (refine LeR.of rfl trivial ?_ ?_ ?_ ?_ ?_ <;> first | decide | (simp only [GA,↓GB,GX,simprocAttr,GDs];done)));intro os' s hR;obtain ⟨rfl,rfl⟩ := hR) | (refine Ctr.use (hc) hP ?_ [2,0,1] ?_ rfl rfl ?_;(focus (intro p hp;cases hp));(focus (refine LeR.of rfl trivial ?_ ?_ ?_ ?_ ?_ <;> first | decide | (simp only [GA,↓GB,GX,simprocAttr,GDs];done)));intro os' s hR;obtain ⟨rfl,rfl⟩ := hR));simp only [GA,↓GB,GX,simprocAttr,hnt,hT])|(refine and_mk ?_ ?_;(focus first | decide | omega | rfl | assumption | (simp only [LBs];omega) | (simp;done)))|(refine And.intro ?_ ?_))
  all_goals (try refine Done.mk ?_)
  all_goals
    refine key _ _ ?_ ?_
    · clear hK hT hP hnt hN0 hG hG0 hbl n3 key hP0 hc
      simp only [respB]
      generalize rm.all nameB = A2 at *
      generalize idxI (wrongB t) rs = W at *
      clear b2 hs
      first | (cases A2 <;> simp_all <;> done) | grind | (cases A2 <;> simp_all <;> first | omega | (intros;omega) | grind)
    · exact LeR.of rfl trivial (by simp only [GA,↓GB,GX,simprocAttr,GDs]) (by decide) rfl rfl rfl
theorem putResp_no (t : Int) (dl mo : Bool) (q v : Nat) (rs : List Rs) (rm : List (List UInt8)) (hms : rs.length ≤ 1099511627776) (hs : ∀ r ∈ rs,r.s.length ≤ 9223372036854775807) (h2 : rm.length ≤ 1099511627776) (b2 : ∀ s ∈ rm,s.length ≤ 9223372036854775807) (h : respB t dl mo q rs rm = false) :
    Ctr Tryz.prog [] 31 [mrow rs,srow rm] [.one (.agg [.v (.int .i64 t),.v (.bool dl),.v (.bool mo),.v (.int .u64 q),.v (.int .u64 v),.row 0,.row 1])] (fun os u => os = [mrow rs,srow rm] ∧ u = .tup [.c (.v (.string (B []))),.c (.v (.bool false))]) := by
  have hr := rightResp_ctr t dl mo q v rs rm hms hs h2 b2
  rw [h] at hr
  refine Ctr.less ?_
  intro X0 hP0 hG0 N0 hN0
  refine CallVC.inline (f := 31) (by rw [hP0];exact Tryz.func31) rfl Tryz.ntmps31 rfl (by simp) ?_
  intro X K hU hnt hbl hK
  have hP : X.P = Tryz.prog := hU.P.trans hP0
  have hG := hG0.under hU
  have hT := Ty.T31 hP
  simp only [GA,↓GB,GX,simprocAttr] at hbl ⊢
  repeat' (first|(refine SX.seqK ?_;intro N hN)|((first | (refine SX.ops ?_));simp only [GA,↓GB,GX,simprocAttr,hnt,hT])|((first | refine SX.skip ?_ | refine SX.exit ?_ | refine SX.label ?_ | refine SX.ret ?_);try simp only [GA,↓GB,GX,simprocAttr])|(refine hN _ ?_;clear hN N)|((first | refine hK _ _ (FinI.ret3 ?_) | refine hK _ _ (FinI.nrm3 ?_));simp only [GA,↓GB,GX,simprocAttr,finP_s,hnt,hT];refine Done.out ?_)|(clear hN N;first | (refine hN _ ?_;clear hN N) | (clear hN N;refine hN _ ?_;clear hN N))|((first | refine SX.cond rfl (fun hb => ?_) (fun hb => ?_) | (refine bif2.mk (fun hb => ?_) (fun hb => ?_) <;> (try simp only [hb,GA,↓GB,GX,simprocAttr,hnt,hT]))) <;> ((first | cases hb | (simp only [HBs] at hb) | skip) <;> (first | (exfalso;omega) | skip)))|((first | (refine Ctr.use (hr) hP ?_ [0,1] ?_ rfl rfl ?_;(focus (intro p hp;cases hp));(focus (refine LeR.of rfl trivial ?_ ?_ ?_ ?_ ?_ <;> first | decide | (simp only [GA,↓GB,GX,simprocAttr,GDs];done)));intro os' s hR;obtain ⟨rfl,rfl⟩ := hR));simp only [GA,↓GB,GX,simprocAttr,hnt,hT])|(refine SX.loopN 1 ?_)|(refine SXr.stepK ?_;intro N hN)|(refine SX.block ?_)|(refine and_mk ?_ ?_;(focus first | decide | omega | rfl | assumption | (simp only [LBs];omega) | (simp;done)))|(refine And.intro ?_ ?_))
  all_goals (try refine Done.mk ?_)
  all_goals ((refine hN0 _ _ ⟨[0,1],_,_,?_,?_,?_,⟨rfl,rfl⟩⟩;(focus exact LeR.of rfl trivial (by simp only [GA,↓GB,GX,simprocAttr,GDs]) (by decide) rfl rfl rfl);rotate_left;(focus rfl));rfl)
def rsB (rs : List Rs) : List UInt8 := rs.flatMap fun r => textB 5 (resB r r.t.toNat)
theorem rsB_snoc (rs : List Rs) (r : Rs) : rsB (rs ++ [r]) = rsB rs ++ textB 5 (resB r r.t.toNat) := by simp [rsB]
theorem takeR_snoc (rs : List Rs) (i : Nat) (h : i < rs.length) : rs.take (i + 1) = rs.take i ++ [rs.getD i default] := by
  rw [List.take_add_one,List.getElem?_eq_getElem h,List.getD_eq_getElem?_getD,List.getElem?_eq_getElem h];rfl
theorem rsB_take (rs : List Rs) (i : Nat) : (rsB (rs.take i)).length ≤ (rsB rs).length := by
  have e : rsB rs = rsB (rs.take i) ++ rsB (rs.drop i) := by unfold rsB;rw [← List.flatMap_append,List.take_append_drop]
  rw [e,List.length_append];omega
def respHead (t : Nat) (dl : Bool) (q v : Nat) : List UInt8 := 2 :: (numZ 1 t ++ flagZ 2 dl ++ numZ 3 q ++ numZ 4 v)
def respBytes (t : Nat) (dl mo : Bool) (q v : Nat) (rs : List Rs) (rm : List (List UInt8)) : List UInt8 :=
  respHead t dl q v ++ rsB rs ++ textsB 6 rm ++ flagZ 7 mo
theorem putResp_yes (t : Nat) (dl mo : Bool) (q v : Nat) (rs : List Rs) (rm : List (List UInt8)) (ht : t < 18446744073709551616) (hq : q < 18446744073709551616) (hv : v < 18446744073709551616) (hms : rs.length ≤ 1099511627776) (h2 : rm.length ≤ 1099511627776)
    (hR : ∀ r ∈ rs,rightB r = true) (hs : ∀ r ∈ rs,r.s.length ≤ 64) (hl : ∀ r ∈ rs,(resB r r.t.toNat).length ≤ 2000) (b2 : ∀ s ∈ rm,s.length < 4294967296)
    (c1 : (rsB rs).length ≤ 100000000000) (c2 : (textsB 6 rm).length ≤ 100000000000) (h : respB t dl mo q rs rm = true) :
    Ctr Tryz.prog [] 31 [mrow rs,srow rm] [.one (.agg [.v (.int .i64 t),.v (.bool dl),.v (.bool mo),.v (.int .u64 q),.v (.int .u64 v),.row 0,.row 1])] (fun os u => os = [mrow rs,srow rm] ∧ u = .tup [.c (.v (.string (B (respBytes t dl mo q v rs rm)))),.c (.v (.bool true))]) := by
  have hr := rightResp_ctr t dl mo q v rs rm hms (fun r hr => by have := hs r hr;omega) h2 (fun s hs => by have := b2 s hs;omega)
  rw [h] at hr
  have e1 := numZ_len 1 t (by decide) ht
  have e2 := flagZ_len 2 dl (by decide)
  have e3 := numZ_len 3 q (by decide) hq
  have e4 := numZ_len 4 v (by decide) hv
  have e7 := flagZ_len 7 mo (by decide)
  have hH : (respHead t dl q v).length ≤ 100 := by simp only [respHead,List.length_cons,List.length_append];omega
  have hw : IntKind.u64.wrap (t : Int) = t := wU64 (by omega) (by omega)
  have hm : ∀ i,i < rs.length → rs.getD i default ∈ rs := fun i hi => by rw [List.getD_eq_getElem?_getD,List.getElem?_eq_getElem hi];exact List.getElem_mem hi
  have hput : ∀ i,i < rs.length → _ := fun i hi => put_yes (rs.getD i default) (hR _ (hm i hi))
  have hxt : ∀ i,i < rs.length → (resB (rs.getD i default) (rs.getD i default).t.toNat).length < 4294967296 := fun i hi => by have := hl _ (hm i hi);omega
  have hc : ∀ i,(respHead t dl q v ++ rsB (rs.take i)).length ≤ 400000000000 := fun i => by
    have := rsB_take rs i
    rw [List.length_append];omega
  have hfold : 2 :: (numZ 1 t ++ flagZ 2 dl ++ numZ 3 q ++ numZ 4 v) = respHead t dl q v := rfl
  have hz : 0 < (respHead t dl q v).length := by simp [respHead]
  refine Ctr.less ?_
  intro X0 hP0 hG0 N0 hN0
  refine CallVC.inline (f := 31) (by rw [hP0];exact Tryz.func31) rfl Tryz.ntmps31 rfl (by simp) ?_
  intro X K hU hnt hbl hK
  have hP : X.P = Tryz.prog := hU.P.trans hP0
  have hG := hG0.under hU
  have hT := Ty.T31 hP
  simp only [GA,↓GB,GX,simprocAttr] at hbl ⊢
  repeat' (first|(refine SX.seqK ?_;intro N hN)|((first | (refine SX.ops ?_));simp only [GA,↓GB,GX,simprocAttr,hnt,hT,hw])|((first | refine SX.skip ?_ | refine SX.exit ?_ | refine SX.label ?_ | refine SX.ret ?_);try simp only [GA,↓GB,GX,simprocAttr])|(refine hN _ ?_;clear hN N)|((first | refine hK _ _ (FinI.ret3 ?_) | refine hK _ _ (FinI.nrm3 ?_));simp only [GA,↓GB,GX,simprocAttr,finP_s,hnt,hT,hw];refine Done.out ?_)|(clear hN N;first | (refine hN _ ?_;clear hN N) | (clear hN N;refine hN _ ?_;clear hN N))|((first | refine SX.cond rfl (fun hb => ?_) (fun hb => ?_) | (refine bif2.mk (fun hb => ?_) (fun hb => ?_) <;> (try simp only [hb,GA,↓GB,GX,simprocAttr,hnt,hT,hw]))) <;> ((first | cases hb | (simp only [HBs] at hb) | skip) <;> (first | (exfalso;omega) | skip)))|((first | (refine Ctr.use (hr) hP ?_ [0,1] ?_ rfl rfl ?_;(focus (intro p hp;cases hp));(focus (refine LeR.of rfl trivial ?_ ?_ ?_ ?_ ?_ <;> first | decide | (simp only [GA,↓GB,GX,simprocAttr,GDs];done)));intro os' s hR;obtain ⟨rfl,rfl⟩ := hR) | (refine Ctr.use (writeByte_ctr 2) hP ?_ [3] ?_ rfl rfl ?_;(focus (intro p hp;cases hp));(focus (refine LeR.of rfl trivial ?_ ?_ ?_ ?_ ?_ <;> first | decide | (simp only [GA,↓GB,GX,simprocAttr,GDs];done)));intro os' s hR;obtain ⟨rfl,rfl⟩ := hR) | (refine Ctr.use (wnumZ [2] 1 t (by decide) (by decide) ht (by decide)) hP ?_ [3,6] ?_ rfl rfl ?_;(focus (intro p hp;cases hp));(focus (refine LeR.of rfl trivial ?_ ?_ ?_ ?_ ?_ <;> first | decide | (simp only [GA,↓GB,GX,simprocAttr,GDs];done)));intro os' s hR;obtain ⟨rfl,rfl⟩ := hR) | (refine Ctr.use (wflagZ (2 :: numZ 1 t) 2 dl (by decide) (by decide) (by simp;omega)) hP ?_ [3,7] ?_ rfl rfl ?_;(focus (intro p hp;cases hp));(focus (refine LeR.of rfl trivial ?_ ?_ ?_ ?_ ?_ <;> first | decide | (simp only [GA,↓GB,GX,simprocAttr,GDs];done)));intro os' s hR;obtain ⟨rfl,rfl⟩ := hR) | (refine Ctr.use (wnumZ (2 :: (numZ 1 t ++ flagZ 2 dl)) 3 q (by decide) (by decide) hq (by simp;omega)) hP ?_ [3,8] ?_ rfl rfl ?_;(focus (intro p hp;cases hp));(focus (refine LeR.of rfl trivial ?_ ?_ ?_ ?_ ?_ <;> first | decide | (simp only [GA,↓GB,GX,simprocAttr,GDs];done)));intro os' s hR;obtain ⟨rfl,rfl⟩ := hR) | (refine Ctr.use (wnumZ (2 :: (numZ 1 t ++ flagZ 2 dl ++ numZ 3 q)) 4 v (by decide) (by decide) hv (by simp;omega)) hP ?_ [3,9] ?_ rfl rfl ?_;(focus (intro p hp;cases hp));(focus (refine LeR.of rfl trivial ?_ ?_ ?_ ?_ ?_ <;> first | decide | (simp only [GA,↓GB,GX,simprocAttr,GDs];done)));intro os' s hR;obtain ⟨rfl,rfl⟩ := hR) | (refine CallVC.pt (l := [_,_]) hP (hput i hlt) rfl ?_) | (refine CallQ.pt (l := [_,_]) hP (hput i hlt) rfl ?_) | (refine Ctr.use (wlist1_ctr (respHead t dl q v ++ rsB (rs.take i)) (resB (rs.getD i default) (rs.getD i default).t.toNat) 5 (by decide) (by decide) (hxt i hlt) (by have := hc i;omega)) hP ?_ [3,4,6] ?_ rfl rfl ?_;(focus (intro p hp;cases hp));(focus (refine LeR.of rfl trivial ?_ ?_ ?_ ?_ ?_ <;> first | decide | (simp only [GA,↓GB,GX,simprocAttr,GDs];done)));intro os' s hR;obtain ⟨rfl,rfl⟩ := hR) | (refine Ctr.use (wlist_ctr (respHead t dl q v ++ rsB rs) rm 6 (by decide) (by decide) h2 b2 (by rw [List.length_append];omega)) hP ?_ [3,4,1] ?_ rfl rfl ?_;(focus (intro p hp;cases hp));(focus (refine LeR.of rfl trivial ?_ ?_ ?_ ?_ ?_ <;> first | decide | (simp only [GA,↓GB,GX,simprocAttr,GDs];done)));intro os' s hR;obtain ⟨rfl,rfl⟩ := hR) | (refine Ctr.use (wflagZ (respHead t dl q v ++ rsB rs ++ textsB 6 rm) 7 mo (by decide) (by decide) (by rw [List.length_append,List.length_append];omega)) hP ?_ [3,5] ?_ rfl rfl ?_;(focus (intro p hp;cases hp));(focus (refine LeR.of rfl trivial ?_ ?_ ?_ ?_ ?_ <;> first | decide | (simp only [GA,↓GB,GX,simprocAttr,GDs];done)));intro os' s hR;obtain ⟨rfl,rfl⟩ := hR) | (refine Ctr.use (string_ctr (respHead t dl q v ++ rsB rs ++ textsB 6 rm ++ flagZ 7 mo) (by rw [List.length_append,List.length_append,List.length_append];omega) (by rw [List.length_append,List.length_append,List.length_append];omega)) hP ?_ [3,6] ?_ rfl rfl ?_;(focus (intro p hp;cases hp));(focus (refine LeR.of rfl trivial ?_ ?_ ?_ ?_ ?_ <;> first | decide | (simp only [GA,↓GB,GX,simprocAttr,GDs];done)));intro os' s hR;obtain ⟨rfl,rfl⟩ := hR));simp only [GA,↓GB,GX,simprocAttr,hnt,hT,hw])|((try rw [hfold]) <;> refine SX.loop (ι := { i : Nat // i ≤ rs.length }) (fun i => ⟨[(1,.one (.c (.loc 2 0))),(2,vv (.string (B []))),(3,vv (.bool false)),(4,.one (.c (.loc 3 0))),(28,.one (.c (.row 0))),(29,vv (.int .i64 rs.length)),(30,vv (.int .i64 i.1))],[mrow rs,srow rm,.cells [.v (.int .i64 t),.v (.bool dl),.v (.bool mo),.v (.int .u64 q),.v (.int .u64 v),.row 0,.row 1] 68,.cells [.loc 3 0,.row 4] 96,.row 5 1 (respHead t dl q v ++ rsB (rs.take i.1)).length (bcells (respHead t dl q v ++ rsB (rs.take i.1)))]⟩) (fun i => rs.length - i.1) ⟨0,Nat.zero_le _⟩ ⟨[0,1,2,3,10],by (refine LeR.of ?_ ?_ ?_ ?_ ?_ ?_ ?_ <;> first | (rw [hbl];decide) | decide | (simp only [GA,↓GB,GX,simprocAttr,GDs];done) | (simp only [GA,↓GB,GX,simprocAttr,GDs];first | rfl | (rw [show respHead t dl q v ++ rsB [] = respHead t dl q v from List.append_nil _];rfl);done))⟩ ?_ <;> rintro ⟨i,hi⟩ <;> simp only [] at hi ⊢ <;> rcases Nat.lt_or_eq_of_le hi with hlt | rfl <;> (try simp only [List.take_length]))|(refine ⟨(rs.getD i default).cells,rfl,mks_at _ _ (by omega),?_⟩ <;> simp only [Rs.cells,GA,↓GB,GX,simprocAttr,hnt,hT])|(refine SX.block ?_)|(refine and_mk ?_ ?_;(focus first | decide | omega | rfl | assumption | (simp only [LBs];omega) | (simp;done)))|(refine And.intro ?_ ?_))
  all_goals (try refine Done.mk ?_)
  · exact ⟨⟨i + 1,by omega⟩,[0,1,2,3,7],by (refine LeR.of ?_ ?_ ?_ ?_ ?_ ?_ ?_ <;> first | (rw [hbl];decide) | decide | (simp only [GA,↓GB,GX,simprocAttr,GDs];done) | (simp only [GA,↓GB,GX,simprocAttr,GDs];first | rfl | (rw [wI64 (by omega) (by omega)];rfl) | (simp only [takeR_snoc rs i hlt,rsB_snoc,List.append_assoc];done);done)),by show rs.length - (i + 1) < rs.length - i;omega⟩
  · (refine hN0 _ _ ⟨[0,1],_,_,?_,?_,?_,⟨rfl,rfl⟩⟩;(focus exact LeR.of rfl trivial (by simp only [GA,↓GB,GX,simprocAttr,GDs]) (by decide) rfl rfl rfl);rotate_left;(focus rfl))
    rfl
def cutL (x : Rs) (ms : List Rs) : List Rs := ms.filter fun m => !isK x.t x.s m
def setL (ms : List Rs) (x : Rs) : List Rs := match (cutL x ms).findIdx? (isO x) with
  | some k => (cutL x ms).take k ++ x :: (cutL x ms).drop k
  | none => cutL x ms ++ [x]
end Go.Proofs.YtbdacbcpniegiaaGreatDoor.Q
namespace Go.Sx
open Go Go.RowKit
def PA (X : Ctx) (o1 o2 : Oper) (c : Cfg) (N : Cfg → Prop) : Prop :=
  ∀ (ops : Array Oper) (rest : List Oper) (M : Cfg → Prop),(∀ c',N c' → OX X ops rest c' M) → OX X ops (o1 :: o2 :: rest) c M
section
variable {X : Ctx} {c : Cfg} {N : Cfg → Prop} {d : Option Tmp} {ty ty1 : TypeId} {pos pos1 : String} {af af1 : Array Edge} {g : Option (Nat × Bool)}
theorem PA.nil {o1 o2 : Oper} {t : Tmp} (e sz : Nat) (hx : c.ev (.tmp t) = vv (.slice none 0 0)) (hl : ∃ s,c.env.lookup t = some s)
    (h : PA X o1 o2 { env := (t,.one (.c (.row c.loc.length))) :: c.env,loc := c.loc ++ [.row e sz 0 []] } N) : PA X o1 o2 c N := fun ops rest M hM Q hQ ρ σ a w hr => by
  refine h ops rest M hM Q hQ (ρ ++ [[]]) (σ ++ [Value.slice none 0 0]) a w ?_
  have h1 := hr.nilRow e sz
  refine ⟨fun t' s' he => ?_,h1.len,h1.lenS,h1.loc,h1.inj,h1.lt,h1.fresh,h1.low,h1.defers,h1.size,h1.one,h1.pin⟩
  simp only [List.lookup_cons] at he
  by_cases e : t' = t
  · subst e
    simp at he;subst he
    obtain ⟨s,hs⟩ := hl
    obtain ⟨v,hv,hd⟩ := hr.env t' s hs
    simp only [Cfg.ev,Cfg.get,hs,Option.getD_some] at hx
    subst hx
    obtain rfl : v = .slice none 0 0 := hd
    refine ⟨_,hv,?_⟩
    show (σ ++ [_])[c.loc.length]? = _
    rw [← hr.lenS];simp
  · have hb : (t' == t) = false := by simpa using e
    rw [hb] at he
    exact h1.env t' s' he
theorem SX.asRow {code : Code} {K : Exit → Cfg → Prop} {t : Tmp} (e sz : Nat) (hx : c.ev (.tmp t) = vv (.slice none 0 0)) (hl : ∃ s,c.env.lookup t = some s)
    (h : SX X code { env := (t,.one (.c (.row c.loc.length))) :: c.env,loc := c.loc ++ [.row e sz 0 []] } K) : SX X code c K := fun ρ σ a w hr => by
  refine h (ρ ++ [[]]) (σ ++ [Value.slice none 0 0]) a w ?_
  have h1 := hr.nilRow e sz
  refine ⟨fun t' s' he => ?_,h1.len,h1.lenS,h1.loc,h1.inj,h1.lt,h1.fresh,h1.low,h1.defers,h1.size,h1.one,h1.pin⟩
  simp only [List.lookup_cons] at he
  by_cases e : t' = t
  · subst e
    simp at he;subst he
    obtain ⟨s,hs⟩ := hl
    obtain ⟨v,hv,hd⟩ := hr.env t' s hs
    simp only [Cfg.ev,Cfg.get,hs,Option.getD_some] at hx
    subst hx
    obtain rfl : v = .slice none 0 0 := hd
    refine ⟨_,hv,?_⟩
    show (σ ++ [_])[c.loc.length]? = _
    rw [← hr.lenS];simp
  · have hb : (t' == t) = false := by simpa using e
    rw [hb] at he
    exact h1.env t' s' he
theorem PA.part {x0 x : Operand} {lo hi : Option Operand} {t e e' i j m sz n k by_ : Nat} {t1 : Tmp} {xs ys : List Value} {z : Value} {l h : Option Int} (news : List Value)
    (hx : c.ev x = .one (.c (.row j))) (hlo : optI c lo = some l) (hhi : optI c hi = some h) (hx0 : (c.put (some t1) (.one (.c .dead))).ev x0 = .one (.c (.row i)))
    (hi0 : c.loc[i]? = some (.row e sz n xs)) (hj0 : c.loc[j]? = some (.row e' sz m ys)) (ht : elemInf X.P t = some (e,sz,by_,z)) (hes : elemSz X.P t = some (e,sz))
    (h0 : 0 ≤ l.getD 0) (h1 : l.getD 0 ≤ h.getD m) (h2 : h.getD m ≤ m) (hk : k = (h.getD m).toNat - (l.getD 0).toNat) (hnw : news = (ys.drop ((l.getD 0).toNat * sz)).take (k * sz))
    (hone : ∀ u ∈ news,u.oneCell' = true) (h63 : n + k ≤ maxLen) (hby : (n + k) * by_ ≤ 140737488355328) (hd1 : dOk (some t1) X.nt = true)
    (hN : nxt X d N { (c.put (some t1) (.one (.c .dead))) with loc := c.loc.set i .gone ++ [.row e sz (n + k) (xs ++ news)] } (.one (.c (.row c.loc.length)))) :
    PA X ⟨some t1,.slice t x lo hi none,ty1,pos1,af1,none⟩ ⟨d,.call { callee := .builtin .append,args := #[x0,.tmp t1],argTypes := #[t,t] },ty,pos,af,none⟩ c N := fun ops rest M hM Q hQ ρ σ a w hr => by
  have e1 := hr.ev x
  rw [hx] at e1
  have e1 : σ[j]? = some (a.eval x) := e1
  obtain ⟨hu,ti,hti,hz,hsz,hby',hzs,hs0⟩ := elemInf_spec ht
  obtain ⟨fq,hfq⟩ := hr.locAt hj0
  have hdj := hr.loc j _ fq _ hj0 hfq e1
  have hlb : BoundIs (lo.map a.eval) 0 (l.getD 0).toNat := optI_bound (n := 0) hr hlo (by simpa using h0)
  have hhb := optI_bound (n := m) hr hhi (by omega)
  have hsz' : ∀ w,(Go.sizeOf e).run X.P w = .ok sz w := by
    unfold elemSz at hes
    rw [hu] at hes
    cases hz2 : szOf X.P e with
    | none => simp [hz2] at hes
    | some r => simp [hz2] at hes;subst hes;exact sizeOf_run hz2
  have hyl : ys.length = m * sz := hdj.1.1
  obtain ⟨L,hL⟩ : ∃ L,L = (l.getD 0).toNat := ⟨_,rfl⟩
  obtain ⟨H,hH⟩ : ∃ H,H = (h.getD m).toNat := ⟨_,rfl⟩
  rw [← hL] at hlb hk hnw
  rw [← hH] at hhb hk
  have hLH : L ≤ H := by omega
  have hHm : H ≤ m := by omega
  have hnl : news.length = k * sz := by
    rw [hnw,List.length_take,List.length_drop,hyl,← Nat.sub_mul]
    exact Nat.min_eq_left (Nat.mul_le_mul_right _ (by omega))
  have hget : ∀ q u,news[q]? = some u → ys[L * sz + q]? = some u := by
    intro q u hq
    rw [hnw,List.getElem?_take] at hq
    split at hq
    · rwa [List.getElem?_drop] at hq
    · cases hq
  obtain ⟨v1,hrun1,hv1⟩ : ∃ v1,(execOp a.eval ⟨some t1,.slice t x lo hi none,ty1,pos1,af1,none⟩).run X.P w = .ok (.value v1) w ∧
      ((v1 = .slice none 0 0 ∧ k = 0) ∨ ∃ ad cap,v1 = .slice (some ad) k cap ∧ ∀ q u,news[q]? = some u → w.cell? (ad.add q) = some u) := by
    rcases hdj.1.2 with ⟨e3,hm0⟩ | ⟨gg,cap,cur,e3,_,_,hnc,_⟩
    · subst hm0
      obtain rfl : L = 0 := by omega
      obtain rfl : H = 0 := by omega
      have hrun := run_sliceSl (P := X.P) w hu hsz' none 0 0 _ _ _ _ hlb hhb (Nat.le_refl _) (Nat.le_refl _)
      exact ⟨_,by simp only [execOp,e3,Option.map_none,Sem.run_bind];rw [hrun];rfl,.inl ⟨by simp,by omega⟩⟩
    · have hrun := run_sliceSl (P := X.P) w hu hsz' (some ⟨gg,0,none⟩) m cap _ _ _ _ hlb hhb hLH (by omega)
      refine ⟨_,by simp only [execOp,e3,Option.map_none,Sem.run_bind];rw [hrun];rfl,.inr ?_⟩
      by_cases hc : cap = L
      · rw [if_pos hc]
        refine ⟨_,_,by rw [show H - L = k by omega],fun q u hq => ?_⟩
        have : q < news.length := (List.getElem?_eq_some_iff.1 hq).1
        rw [hnl,show k = 0 by omega] at this
        simp at this
      · rw [if_neg hc]
        refine ⟨_,_,by rw [show H - L = k by omega];rfl,fun q u hq => ?_⟩
        have := hr.rowCell hj0 (by rw [e1,e3]) _ _ (hget q u hq)
        simp only [add_add] at this ⊢
        rw [← this]
        congr 2
        omega
  have hr1 := hr.put (d := some t1) (s := .one (.c .dead)) (v := v1) hd1 trivial
  have hr2 := hr.put (d := some t1) (s := vv v1) (v := v1) hd1 rfl
  have ey : (a.put (some t1) v1).eval (.tmp t1) = v1 := by
    have := hr2.ev (.tmp t1)
    rw [show (c.put (some t1) (vv v1)).ev (.tmp t1) = vv v1 by simp [Cfg.put,Cfg.ev,Cfg.get]] at this
    exact this
  have ex := hr1.ev x0
  rw [hx0] at ex
  have ex : σ[i]? = some ((a.put (some t1) v1).eval x0) := ex
  have hi1 : (c.put (some t1) (.one (.c .dead))).loc[i]? = some (.row e sz n xs) := hi0
  obtain ⟨fp,hfp⟩ := hr1.locAt hi1
  have hd := hr1.loc i _ fp _ hi1 hfp ex
  unfold wpList
  rw [if_pos (by simp [Region.wanted])]
  left
  unfold Oper.wp
  rw [hrun1]
  show wpList X.P ops Q (_ :: rest) (a.put (some t1) v1) w
  generalize a.put (some t1) v1 = a1 at hr1 ey ex hd
  have key : ∃ v' w',(Builtin.append_ #[t,t] ty #[a1.eval x0,v1]).run X.P w = .ok v' w' ∧ w'.ownsRow 0 e sz v' (n + k) (xs ++ news) ∧ w.grownBy w' (a1.eval x0).ownBlock ∧ (∀ k,v'.ownBlock = some k → (a1.eval x0).ownBlock = some k ∨ w.heap.size ≤ k) := by
    rcases hv1 with ⟨rfl,hk0⟩ | ⟨ad,cap,rfl,hc⟩
    · subst hk0
      obtain rfl : news = [] := by simpa using hnl
      have := append_cases (P := X.P) w 0 t ty e ti z sz by_ hu hti hz hsz hby' hzs hs0 (a1.eval x0) n xs hd.1 ⟨1,0,none⟩ 0 0 [] (by simp) (by simp) (by simp) h63 hby (Nat.zero_le _)
      have hrun : (Builtin.append_ #[t,t] ty #[a1.eval x0,.slice (some ⟨1,0,none⟩) 0 0]).run X.P w = (Builtin.append_ #[t,t] ty #[a1.eval x0,.slice none 0 0]).run X.P w := by
        have hl : ∀ (ad : Addr),(loadCells ad 0).run X.P w = .ok #[] w := fun ad => by simpa using run_loadCells_list (P := X.P) w ad [] (by simp)
        rcases hd.1.2 with ⟨e4,hn0⟩ | ⟨g4,c4,u4,e4,_,_,hn4,_⟩
        · rw [e4];simp [Builtin.append_,run_underlying hu,Builtin.lenOf,Builtin.firstCells,sizeOf,typeInfo,hti,hl,storeCells]
        · rw [e4];simp [Builtin.append_,run_underlying hu,Builtin.lenOf,Builtin.firstCells,sizeOf,typeInfo,hti,hn4,hl,storeCells]
      rw [hrun] at this
      exact this
    · exact append_cases (P := X.P) w 0 t ty e ti z sz by_ hu hti hz hsz hby' hzs hs0 (a1.eval x0) n xs hd.1 ad k cap news hnl hc hone h63 hby (Nat.zero_le _)
  obtain ⟨v',w',hrun,hown,hgr,hkk⟩ := key
  obtain ⟨ρ',hR⟩ := hr1.reRow hi1 ex hgr hown hkk
  unfold wpList
  rw [if_pos (by simp [Region.wanted])]
  left
  unfold Oper.wp
  have hrun2 : (execOp a1.eval ⟨d,.call { callee := .builtin .append,args := #[x0,.tmp t1],argTypes := #[t,t] },ty,pos,af,none⟩).run X.P w = .ok (.value v') w' := by
    simp only [execOp,resolve,invoke,builtin,Sem.run_bind,Sem.run_pure,Result.andThen_ok,List.map_toArray,List.map_cons,List.map_nil,ey]
    rw [hrun];rfl
  rw [hrun2]
  have hs2 : DV (σ ++ [v']) (.one (.c (.row c.loc.length))) v' := by
    show (σ ++ [v'])[c.loc.length]? = some v'
    have := hr1.lenS
    rw [show c.loc.length = σ.length from this.symm];simp
  exact hM _ hN.2 Q hQ _ _ _ _ (hR.put hN.1 hs2)
end
end Go.Sx
namespace Go.Proofs.YtbdacbcpniegiaaGreatDoor.Q
open Go Go.RowKit Go.Proofs Go.Sx
end Go.Proofs.YtbdacbcpniegiaaGreatDoor.Q
namespace Go.Proofs.YtbdacbcpniegiaaGreatDoor
open Go Go.RowKit Go.Proofs Go.Sx
def sE (k : Nat) (f : NW.Fld) : S1 := .agg [.v (.int .i64 k),.v (.int .i64 f.kind),.v (.int .u64 f.n),.v (.string (B f.s))]
def mE (l : List (Nat × NW.Fld)) : List (Value × S1) := l.map fun p => (.int .i64 p.1,sE p.1 p.2)
def putN (k : Nat) (f : NW.Fld) : List (Nat × NW.Fld) → List (Nat × NW.Fld)
  | [] => [(k,f)]
  | p :: l => if k = p.1 then (k,f) :: l else p :: putN k f l
def findN (k : Nat) : List (Nat × NW.Fld) → Option NW.Fld
  | [] => none
  | p :: l => if k = p.1 then some p.2 else findN k l
theorem findN_put (k j : Nat) (f : NW.Fld) : ∀ l,findN j (putN k f l) = if j = k then some f else findN j l
  | [] => by simp only [putN,findN]
  | p :: l => by
    simp only [putN]
    by_cases h : k = p.1
    · rw [if_pos h];simp only [findN]
      by_cases hj : j = k
      · simp [hj]
      · rw [if_neg hj,if_neg hj,if_neg (by omega)]
    · rw [if_neg h];simp only [findN,findN_put k j f l]
      by_cases hj : j = p.1
      · rw [if_pos hj,if_neg (by omega),if_pos hj]
      · rw [if_neg hj];by_cases hjk : j = k <;> simp [hjk];intro h2;omega
theorem mE_all (l : List (Nat × NW.Fld)) : ((mE l).all fun p => KeyOf (.int .i64) p.1) = true := by
  induction l with
  | nil => rfl
  | cons p l ih => simp only [mE,List.map_cons,List.all_cons] at *;rw [ih];rfl
theorem mE_okB (n : Nat) (l : List (Nat × NW.Fld)) : ((mE l).all fun p => S1.okB n p.2) = true := by
  induction l with
  | nil => rfl
  | cons p l ih => simp only [mE,List.map_cons,List.all_cons] at *;rw [ih];rfl
theorem mE_ren (sel : List Nat) (l : List (Nat × NW.Fld)) : ((mE l).map fun p => (p.1,p.2.ren sel)) = mE l := by
  induction l with
  | nil => rfl
  | cons p l ih => simp only [mE,List.map_cons] at *;rw [ih];rfl
theorem mE_put (k : Nat) (f : NW.Fld) : ∀ l,Put (.int .i64 k) (sE k f) (mE l) (mE (putN k f l))
  | [] => .nil
  | p :: l => by
    simp only [putN]
    by_cases h : k = p.1
    · rw [if_pos h];exact .hit (by rw [h])
    · rw [if_neg h];exact .miss (fun e => h (by injection e with _ e;exact Int.ofNat.inj e)) (mE_put k f l)
theorem lkS_mE (k : Nat) (N : Option S1 → Prop) : ∀ l,lkS (.int .i64 k) N (mE l) = N ((findN k l).map (sE k))
  | [] => rfl
  | p :: l => by
    show bif2 (keyEq (.int .i64 k) (.int .i64 p.1)) (N (some (sE p.1 p.2))) (lkS (.int .i64 k) N (mE l)) = _
    by_cases h : k = p.1
    · have : keyEq (.int .i64 (k : Int)) (.int .i64 (p.1 : Int)) = true := by rw [h];simp [keyEq]
      rw [this];simp only [findN,if_pos h,bif2];subst h;simp
    · have : keyEq (.int .i64 (k : Int)) (.int .i64 (p.1 : Int)) = false := by simp [keyEq];omega
      rw [this,lkS_mE k N l];simp only [findN,if_neg h,bif2];simp
abbrev LSt := Bool × List (Nat × NW.Fld)
def stepR (f : NW.Fld) (m : LSt) : Option LSt :=
  if f.num = 1 then some (m.1 && ((0 : Int) == (f.kind : Int)),putN 1 f m.2)
  else if f.num = 2 then some (m.1 && ((2 : Int) == (f.kind : Int)),putN 2 f m.2)
  else if f.num = 3 then some (m.1 && ((0 : Int) == (f.kind : Int)),putN 3 f m.2)
  else if f.num = 4 then some (m.1 && ((0 : Int) == (f.kind : Int)),putN 4 f m.2)
  else if f.num = 5 then some (m.1 && ((2 : Int) == (f.kind : Int)),putN 5 f m.2)
  else some m
@[reducible] def kindMap : LO := .map [(.int .i64 1,.c (.v (.int .i64 0))),(.int .i64 2,.c (.v (.int .i64 2))),(.int .i64 3,.c (.v (.int .i64 0))),(.int .i64 4,.c (.v (.int .i64 0))),(.int .i64 5,.c (.v (.int .i64 2)))]
@[reducible] def rs0 : LO := .cells [.v (.int .i64 0),.v (.string (B [])),.v (.int .u64 0),.v (.bool false),.v (.string (B []))] 139
theorem get_l2 {X : Ctx} (hP : X.P = Tryz.prog) (hnt : X.nt = 86) (hbl : X.base.length = 0) (l : List NW.Fld) (hll : l.length ≤ 1099511627776) (K : Exit → Cfg → Prop) :
    SX X (sub [true,true,true,true,false] (Tryz.f74.body.getD .skip)) ⟨[(2,.one (.c (.loc 0 0))),(3,vv (.bool false)),(4,.one (.c (.row 1))),(5,vv (.bool true)),(6,.one (.c (.row 2))),(7,.one (.c (.row 3)))],[rs0,frow l,kindMap,.map []]⟩
      (nx (fun c' => ∃ (j : Unit) (sel : List Nat),LeR X.base.length sel ⟨[(2,.one (.c (.loc 0 0))),(3,vv (.bool false)),(5,vv (.bool (takeG stepR l (true,[])).1.1)),(7,.one (.c (.row 1)))],[rs0,.map (mE (takeG stepR l (true,[])).1.2)]⟩ c') K) := by
  have hT := Ty.T74 hP
  simp only [sub,Tryz.f74,Option.getD_some]
  have hk1 := True.intro
  repeat' (first|(refine numBlk5 (id := 1) (l.getD i default).num (fun hk1 => ?_) (fun hk1 => ?_) (fun hk1 => ?_) (fun hk1 => ?_) (fun hk1 => ?_) (fun hk1 => ?_))|(refine SX.seqK ?_;intro N hN)|((first | (refine SX.ops ?_) | (refine SX.planT (id := 12) [.q [(0,[7]),(1,[49]),(2,[50]),(3,[7]),(4,[52]),(5,[53]),(6,[51]),(7,[54])] none] ?_ ?_ ?_;(focus first | (rw [hP];kernel_rfl) | (rw [hU1P,hP];kernel_rfl));(focus kernel_rfl)));simp only [GA,↓GB,GX,simprocAttr,hnt,hT,hk1])|((first | refine SX.skip ?_ | refine SX.exit ?_ | refine SX.label ?_ | refine SX.ret ?_);try simp only [GA,↓GB,GX,simprocAttr])|(refine hN _ ?_;clear hN N)|(clear hN N;first | (refine hN _ ?_;clear hN N) | (clear hN N;refine hN _ ?_;clear hN N))|((first | refine SX.cond rfl (fun hb => ?_) (fun hb => ?_) | (refine bif2.mk (fun hb => ?_) (fun hb => ?_) <;> (try simp only [hb,GA,↓GB,GX,simprocAttr,hnt,hT,hk1]))) <;> ((first | cases hb | (simp only [HBs] at hb) | skip) <;> (first | (exfalso;omega) | skip)))|(show VO X _ _ _;refine VO.mapSet (kt := 3) (et := 109) (kd := .int .i64) (kv := .int .i64 1) (s := sE 1 (l.getD i default)) (es := mE es) (es' := mE (putN 1 (l.getD i default) es)) rfl rfl rfl rfl (by rw [hP];kernel_rfl) (by rw [hP];kernel_rfl) rfl (mE_all _) (mE_put 1 _ _) ?_;simp only [GA,↓GB,GX,simprocAttr,hnt,hT])|(show VO X _ _ _;refine VO.mapSet (kt := 3) (et := 109) (kd := .int .i64) (kv := .int .i64 2) (s := sE 2 (l.getD i default)) (es := mE es) (es' := mE (putN 2 (l.getD i default) es)) rfl rfl rfl rfl (by rw [hP];kernel_rfl) (by rw [hP];kernel_rfl) rfl (mE_all _) (mE_put 2 _ _) ?_;simp only [GA,↓GB,GX,simprocAttr,hnt,hT])|(show VO X _ _ _;refine VO.mapSet (kt := 3) (et := 109) (kd := .int .i64) (kv := .int .i64 3) (s := sE 3 (l.getD i default)) (es := mE es) (es' := mE (putN 3 (l.getD i default) es)) rfl rfl rfl rfl (by rw [hP];kernel_rfl) (by rw [hP];kernel_rfl) rfl (mE_all _) (mE_put 3 _ _) ?_;simp only [GA,↓GB,GX,simprocAttr,hnt,hT])|(show VO X _ _ _;refine VO.mapSet (kt := 3) (et := 109) (kd := .int .i64) (kv := .int .i64 4) (s := sE 4 (l.getD i default)) (es := mE es) (es' := mE (putN 4 (l.getD i default) es)) rfl rfl rfl rfl (by rw [hP];kernel_rfl) (by rw [hP];kernel_rfl) rfl (mE_all _) (mE_put 4 _ _) ?_;simp only [GA,↓GB,GX,simprocAttr,hnt,hT])|(show VO X _ _ _;refine VO.mapSet (kt := 3) (et := 109) (kd := .int .i64) (kv := .int .i64 5) (s := sE 5 (l.getD i default)) (es := mE es) (es' := mE (putN 5 (l.getD i default) es)) rfl rfl rfl rfl (by rw [hP];kernel_rfl) (by rw [hP];kernel_rfl) rfl (mE_all _) (mE_put 5 _ _) ?_;simp only [GA,↓GB,GX,simprocAttr,hnt,hT])|(refine ⟨fcells (l.getD i default),rfl,flds_cell _ _ (by omega),?_⟩ <;> simp only [fcells,GA,↓GB,GX,simprocAttr,hnt,hT,hk1])|(refine SX.loop (ι := { p : Nat × LSt // p.1 ≤ l.length ∧ takeG stepR l (true,[]) = takeG stepR (l.drop p.1) p.2 }) (fun p => ⟨[(2,.one (.c (.loc 0 0))),(3,vv (.bool false)),(5,vv (.bool p.1.2.1)),(6,.one (.c (.row 2))),(7,.one (.c (.row 3))),(23,.one (.c (.row 1))),(24,vv (.int .i64 l.length)),(25,vv (.int .i64 p.1.1))],[rs0,frow l,kindMap,.map (mE p.1.2.2)]⟩) (fun p => l.length - p.1.1) ⟨(0,(true,[])),Nat.zero_le _,rfl⟩ ⟨[0,1,2,3],by (refine LeR.of ?_ ?_ ?_ ?_ ?_ ?_ ?_ <;> first | (rw [hbl];decide) | decide | (simp only [GA,↓GB,GX,simprocAttr,GDs];done) | (simp only [GA,↓GB,GX,simprocAttr,GDs];first | exact mE_okB _ _ | (simp only [mE_ren];done) | (refine ⟨rfl,?_⟩;rw [wI64 (by omega) (by omega)];rfl) | (rw [wI64 (by omega) (by omega)];rfl) | rfl;done))⟩ ?_ <;> rintro ⟨⟨i,⟨ok,es⟩⟩,hi,hm⟩ <;> simp only [] at hi hm ⊢)|(refine SX.block ?_)|(refine and_mk ?_ ?_;(focus first | decide | omega | rfl | assumption | (simp only [LBs];omega) | (simp;done)))|(refine And.intro ?_ ?_))
  all_goals (try refine Done.mk ?_)
  · have hj : (l.getD i default).num = 1 := by omega
    exact ⟨⟨(i + 1,(true && ((0 : Int) == ((l.getD i default).kind : Int)),putN 1 (l.getD i default) es)),by show i + 1 ≤ l.length;omega,takeG_go hm (by omega) (by simp [-List.getD_eq_getElem?_getD,stepR,hj])⟩,[0,1,2,3],by (refine LeR.of ?_ ?_ ?_ ?_ ?_ ?_ ?_ <;> first | (rw [hbl];decide) | decide | (simp only [GA,↓GB,GX,simprocAttr,GDs];done) | (simp only [GA,↓GB,GX,simprocAttr,GDs];first | exact mE_okB _ _ | (simp only [mE_ren];done) | (refine ⟨rfl,?_⟩;rw [wI64 (by omega) (by omega)];rfl) | (rw [wI64 (by omega) (by omega)];rfl) | rfl;done)),by show l.length - (i + 1) < l.length - i;omega⟩
  · have hj : (l.getD i default).num = 1 := by omega
    exact ⟨⟨(i + 1,(false && ((0 : Int) == ((l.getD i default).kind : Int)),putN 1 (l.getD i default) es)),by show i + 1 ≤ l.length;omega,takeG_go hm (by omega) (by simp [-List.getD_eq_getElem?_getD,stepR,hj])⟩,[0,1,2,3],by (refine LeR.of ?_ ?_ ?_ ?_ ?_ ?_ ?_ <;> first | (rw [hbl];decide) | decide | (simp only [GA,↓GB,GX,simprocAttr,GDs];done) | (simp only [GA,↓GB,GX,simprocAttr,GDs];first | exact mE_okB _ _ | (simp only [mE_ren];done) | (refine ⟨rfl,?_⟩;rw [wI64 (by omega) (by omega)];rfl) | (rw [wI64 (by omega) (by omega)];rfl) | rfl;done)),by show l.length - (i + 1) < l.length - i;omega⟩
  · have hj : (l.getD i default).num = 2 := by omega
    exact ⟨⟨(i + 1,(true && ((2 : Int) == ((l.getD i default).kind : Int)),putN 2 (l.getD i default) es)),by show i + 1 ≤ l.length;omega,takeG_go hm (by omega) (by simp [-List.getD_eq_getElem?_getD,stepR,hj])⟩,[0,1,2,3],by (refine LeR.of ?_ ?_ ?_ ?_ ?_ ?_ ?_ <;> first | (rw [hbl];decide) | decide | (simp only [GA,↓GB,GX,simprocAttr,GDs];done) | (simp only [GA,↓GB,GX,simprocAttr,GDs];first | exact mE_okB _ _ | (simp only [mE_ren];done) | (refine ⟨rfl,?_⟩;rw [wI64 (by omega) (by omega)];rfl) | (rw [wI64 (by omega) (by omega)];rfl) | rfl;done)),by show l.length - (i + 1) < l.length - i;omega⟩
  · have hj : (l.getD i default).num = 2 := by omega
    exact ⟨⟨(i + 1,(false && ((2 : Int) == ((l.getD i default).kind : Int)),putN 2 (l.getD i default) es)),by show i + 1 ≤ l.length;omega,takeG_go hm (by omega) (by simp [-List.getD_eq_getElem?_getD,stepR,hj])⟩,[0,1,2,3],by (refine LeR.of ?_ ?_ ?_ ?_ ?_ ?_ ?_ <;> first | (rw [hbl];decide) | decide | (simp only [GA,↓GB,GX,simprocAttr,GDs];done) | (simp only [GA,↓GB,GX,simprocAttr,GDs];first | exact mE_okB _ _ | (simp only [mE_ren];done) | (refine ⟨rfl,?_⟩;rw [wI64 (by omega) (by omega)];rfl) | (rw [wI64 (by omega) (by omega)];rfl) | rfl;done)),by show l.length - (i + 1) < l.length - i;omega⟩
  · have hj : (l.getD i default).num = 3 := by omega
    exact ⟨⟨(i + 1,(true && ((0 : Int) == ((l.getD i default).kind : Int)),putN 3 (l.getD i default) es)),by show i + 1 ≤ l.length;omega,takeG_go hm (by omega) (by simp [-List.getD_eq_getElem?_getD,stepR,hj])⟩,[0,1,2,3],by (refine LeR.of ?_ ?_ ?_ ?_ ?_ ?_ ?_ <;> first | (rw [hbl];decide) | decide | (simp only [GA,↓GB,GX,simprocAttr,GDs];done) | (simp only [GA,↓GB,GX,simprocAttr,GDs];first | exact mE_okB _ _ | (simp only [mE_ren];done) | (refine ⟨rfl,?_⟩;rw [wI64 (by omega) (by omega)];rfl) | (rw [wI64 (by omega) (by omega)];rfl) | rfl;done)),by show l.length - (i + 1) < l.length - i;omega⟩
  · have hj : (l.getD i default).num = 3 := by omega
    exact ⟨⟨(i + 1,(false && ((0 : Int) == ((l.getD i default).kind : Int)),putN 3 (l.getD i default) es)),by show i + 1 ≤ l.length;omega,takeG_go hm (by omega) (by simp [-List.getD_eq_getElem?_getD,stepR,hj])⟩,[0,1,2,3],by (refine LeR.of ?_ ?_ ?_ ?_ ?_ ?_ ?_ <;> first | (rw [hbl];decide) | decide | (simp only [GA,↓GB,GX,simprocAttr,GDs];done) | (simp only [GA,↓GB,GX,simprocAttr,GDs];first | exact mE_okB _ _ | (simp only [mE_ren];done) | (refine ⟨rfl,?_⟩;rw [wI64 (by omega) (by omega)];rfl) | (rw [wI64 (by omega) (by omega)];rfl) | rfl;done)),by show l.length - (i + 1) < l.length - i;omega⟩
  · have hj : (l.getD i default).num = 4 := by omega
    exact ⟨⟨(i + 1,(true && ((0 : Int) == ((l.getD i default).kind : Int)),putN 4 (l.getD i default) es)),by show i + 1 ≤ l.length;omega,takeG_go hm (by omega) (by simp [-List.getD_eq_getElem?_getD,stepR,hj])⟩,[0,1,2,3],by (refine LeR.of ?_ ?_ ?_ ?_ ?_ ?_ ?_ <;> first | (rw [hbl];decide) | decide | (simp only [GA,↓GB,GX,simprocAttr,GDs];done) | (simp only [GA,↓GB,GX,simprocAttr,GDs];first | exact mE_okB _ _ | (simp only [mE_ren];done) | (refine ⟨rfl,?_⟩;rw [wI64 (by omega) (by omega)];rfl) | (rw [wI64 (by omega) (by omega)];rfl) | rfl;done)),by show l.length - (i + 1) < l.length - i;omega⟩
  · have hj : (l.getD i default).num = 4 := by omega
    exact ⟨⟨(i + 1,(false && ((0 : Int) == ((l.getD i default).kind : Int)),putN 4 (l.getD i default) es)),by show i + 1 ≤ l.length;omega,takeG_go hm (by omega) (by simp [-List.getD_eq_getElem?_getD,stepR,hj])⟩,[0,1,2,3],by (refine LeR.of ?_ ?_ ?_ ?_ ?_ ?_ ?_ <;> first | (rw [hbl];decide) | decide | (simp only [GA,↓GB,GX,simprocAttr,GDs];done) | (simp only [GA,↓GB,GX,simprocAttr,GDs];first | exact mE_okB _ _ | (simp only [mE_ren];done) | (refine ⟨rfl,?_⟩;rw [wI64 (by omega) (by omega)];rfl) | (rw [wI64 (by omega) (by omega)];rfl) | rfl;done)),by show l.length - (i + 1) < l.length - i;omega⟩
  · have hj : (l.getD i default).num = 5 := by omega
    exact ⟨⟨(i + 1,(true && ((2 : Int) == ((l.getD i default).kind : Int)),putN 5 (l.getD i default) es)),by show i + 1 ≤ l.length;omega,takeG_go hm (by omega) (by simp [-List.getD_eq_getElem?_getD,stepR,hj])⟩,[0,1,2,3],by (refine LeR.of ?_ ?_ ?_ ?_ ?_ ?_ ?_ <;> first | (rw [hbl];decide) | decide | (simp only [GA,↓GB,GX,simprocAttr,GDs];done) | (simp only [GA,↓GB,GX,simprocAttr,GDs];first | exact mE_okB _ _ | (simp only [mE_ren];done) | (refine ⟨rfl,?_⟩;rw [wI64 (by omega) (by omega)];rfl) | (rw [wI64 (by omega) (by omega)];rfl) | rfl;done)),by show l.length - (i + 1) < l.length - i;omega⟩
  · have hj : (l.getD i default).num = 5 := by omega
    exact ⟨⟨(i + 1,(false && ((2 : Int) == ((l.getD i default).kind : Int)),putN 5 (l.getD i default) es)),by show i + 1 ≤ l.length;omega,takeG_go hm (by omega) (by simp [-List.getD_eq_getElem?_getD,stepR,hj])⟩,[0,1,2,3],by (refine LeR.of ?_ ?_ ?_ ?_ ?_ ?_ ?_ <;> first | (rw [hbl];decide) | decide | (simp only [GA,↓GB,GX,simprocAttr,GDs];done) | (simp only [GA,↓GB,GX,simprocAttr,GDs];first | exact mE_okB _ _ | (simp only [mE_ren];done) | (refine ⟨rfl,?_⟩;rw [wI64 (by omega) (by omega)];rfl) | (rw [wI64 (by omega) (by omega)];rfl) | rfl;done)),by show l.length - (i + 1) < l.length - i;omega⟩
  · obtain ⟨g1,g2,g3,g4,g5⟩ := hk1
    have k1 : ¬ (l.getD i default).num = 1 := fun h => by rw [h] at g1;cases g1
    have k2 : ¬ (l.getD i default).num = 2 := fun h => by rw [h] at g2;cases g2
    have k3 : ¬ (l.getD i default).num = 3 := fun h => by rw [h] at g3;cases g3
    have k4 : ¬ (l.getD i default).num = 4 := fun h => by rw [h] at g4;cases g4
    have k5 : ¬ (l.getD i default).num = 5 := fun h => by rw [h] at g5;cases g5
    exact ⟨⟨(i + 1,(ok,es)),by show i + 1 ≤ l.length;omega,takeG_go hm (by omega) (by simp [-List.getD_eq_getElem?_getD,stepR,k1,k2,k3,k4,k5])⟩,[0,1,2,3],by (refine LeR.of ?_ ?_ ?_ ?_ ?_ ?_ ?_ <;> first | (rw [hbl];decide) | decide | (simp only [GA,↓GB,GX,simprocAttr,GDs];done) | (simp only [GA,↓GB,GX,simprocAttr,GDs];first | exact mE_okB _ _ | (simp only [mE_ren];done) | (refine ⟨rfl,?_⟩;rw [wI64 (by omega) (by omega)];rfl) | (rw [wI64 (by omega) (by omega)];rfl) | rfl;done)),by show l.length - (i + 1) < l.length - i;omega⟩
  · rw [takeG_end hm (by omega)]
    exact ⟨(),[0,3],by (refine LeR.of ?_ ?_ ?_ ?_ ?_ ?_ ?_ <;> first | (rw [hbl];decide) | decide | (simp only [GA,↓GB,GX,simprocAttr,GDs];done) | (simp only [GA,↓GB,GX,simprocAttr,GDs];first | exact mE_okB _ _ | (simp only [mE_ren];done) | (refine ⟨rfl,?_⟩;rw [wI64 (by omega) (by omega)];rfl) | (rw [wI64 (by omega) (by omega)];rfl) | rfl;done))⟩
def nilF : NW.Fld := ⟨0,0,0,[]⟩
def lastN (k : Nat) (es : List (Nat × NW.Fld)) : NW.Fld := (findN k es).getD nilF
theorem getD_last (k : Nat) (es : List (Nat × NW.Fld)) : Option.getD (Option.map (sE k) (findN k es)) (.agg [.v (.int .i64 0),.v (.int .i64 0),.v (.int .u64 0),.v (.string (B []))])
    = .agg [.v (.int .i64 (if (findN k es).isSome then k else 0)),.v (.int .i64 (lastN k es).kind),.v (.int .u64 (lastN k es).n),.v (.string (B (lastN k es).s))] := by
  cases h : findN k es <;> simp [lastN,h,sE,nilF] <;> rfl
def rsOf (es : List (Nat × NW.Fld)) : Rs := ⟨(lastN 1 es).n,(lastN 2 es).s,(lastN 3 es).n,(((lastN 4 es).n : Int) == 1),(lastN 5 es).s⟩
def resG (m : LSt) : Option Rs := if m.1 = true ∧ (lastN 1 m.2).n ≤ 5 ∧ (lastN 4 m.2).n ≤ 1 ∧ rightB (rsOf m.2) = true then some (rsOf m.2) else none
def resR (s : List UInt8) : Option Rs := match NW.parse s with
  | none => none
  | some l => resG (takeG stepR l (true,[])).1
def resV : Option Rs → SV
  | some r => .tup [.agg [.v (.int .i64 r.t),.v (.string (B r.s)),.v (.int .u64 r.q),.v (.bool r.g),.v (.string (B r.b))],.c (.v (.bool true))]
  | none => .tup [.agg [.v (.int .i64 0),.v (.string (B [])),.v (.int .u64 0),.v (.bool false),.v (.string (B []))],.c (.v (.bool false))]
theorem findN_step {n : Nat} {f : NW.Fld} (hf : f.s.length ≤ n) {m m' : LSt} (h : ∀ k g,findN k m.2 = some g → g.s.length ≤ n) (hs : stepR f m = some m') : ∀ k g,findN k m'.2 = some g → g.s.length ≤ n := by
  have key : ∀ j k g,findN k (putN j f m.2) = some g → g.s.length ≤ n := fun j k g hg => by
    rw [findN_put] at hg
    split at hg
    · cases hg;exact hf
    · exact h k g hg
  unfold stepR at hs
  repeat' split at hs
  all_goals (cases hs;first | exact key _ | exact h)
theorem lastN_len {s : List UInt8} {l : List NW.Fld} (hp : NW.parse s = some l) (k : Nat) : (lastN k (takeG stepR l (true,[])).1.2).s.length ≤ s.length := by
  have := takeG_inv (step := stepR) (fun m => ∀ k g,findN k m.2 = some g → g.s.length ≤ s.length) l (true,[]) (fun k g h => by simp [findN] at h) fun f hf m m' h1 h2 => findN_step (parse_slen hp f hf) h1 h2
  unfold lastN
  cases h : findN k (takeG stepR l (true,[])).1.2 with
  | none => simp [nilF]
  | some g => exact this k g h
theorem getRes_none {e : EA} (he : e.Ok) (s : List UInt8) (hs : s.length ≤ 1099511627776) (hl : NW.parse s = none) : Ctr Tryz.prog (GW e) 74 [] [vv (.string (B s))] (fun os v => os = [] ∧ v = resV none) := by
  have hp : Ctr Tryz.prog (GW e) 86 [] [vv (.string (B s))] (fun os v => os = [] ∧ v = .tup [.c (.v (.slice none 0 0)),.c (.v (.bool false))]) := by
    have := parse_ctrW he s hs
    rw [hl] at this
    exact this
  refine Ctr.less ?_
  intro X0 hP0 hG0 N0 hN0
  refine CallVC.inline (f := 74) (by rw [hP0];exact Tryz.func74) rfl Tryz.ntmps74 rfl (by simp) ?_
  intro X K hU hnt hbl hK
  have hP : X.P = Tryz.prog := hU.P.trans hP0
  have hG := hG0.under hU
  have hT := Ty.T74 hP
  simp only [GA,↓GB,GX,simprocAttr] at hbl ⊢
  have gl : ∀ k N,lkS (.int .i64 k) N [] = N none := fun _ _ => rfl
  repeat' (first|(refine SX.seqK ?_;intro N hN)|((first | (refine SX.ops ?_) | (refine SX.planT (id := 12) [.q [(0,[7]),(1,[49]),(2,[50]),(3,[7]),(4,[52]),(5,[53]),(6,[51]),(7,[54])] none] ?_ ?_ ?_;(focus first | (rw [hP];kernel_rfl) | (rw [hU1P,hP];kernel_rfl));(focus kernel_rfl)));simp only [GA,↓GB,GX,simprocAttr,hnt,hT,gl])|((first | refine SX.skip ?_ | refine SX.exit ?_ | refine SX.label ?_ | refine SX.ret ?_);try simp only [GA,↓GB,GX,simprocAttr])|(refine hN _ ?_;clear hN N)|((first | refine hK _ _ (FinI.ret3 ?_) | refine hK _ _ (FinI.nrm3 ?_));simp only [GA,↓GB,GX,simprocAttr,finP_s,hnt,hT,gl];refine Done.out ?_)|(clear hN N;first | (refine hN _ ?_;clear hN N) | (clear hN N;refine hN _ ?_;clear hN N))|((first | refine SX.cond rfl (fun hb => ?_) (fun hb => ?_) | (refine bif2.mk (fun hb => ?_) (fun hb => ?_) <;> (try simp only [hb,GA,↓GB,GX,simprocAttr,hnt,hT,gl]))) <;> ((first | cases hb | (simp only [HBs] at hb) | skip) <;> (first | (exfalso;omega) | skip)))|((first | (refine Ctr.use (hp) hP hG [] ?_ rfl rfl ?_;(focus (refine LeR.of rfl trivial ?_ ?_ ?_ ?_ ?_ <;> first | decide | (simp only [GA,↓GB,GX,simprocAttr,GDs];done)));intro os' s hR;obtain ⟨rfl,rfl⟩ := hR));simp only [GA,↓GB,GX,simprocAttr,hnt,hT,gl])|(refine SX.loop (ι := Unit) (fun _ => ⟨[(2,.one (.c (.loc 0 0))),(3,vv (.bool false)),(5,vv (.bool false)),(7,.one (.c (.row 1))),(24,vv (.int .i64 0)),(25,vv (.int .i64 0))],[rs0,.map []]⟩) (fun _ => 0) () ⟨[0,2],by (refine LeR.of ?_ ?_ ?_ ?_ ?_ ?_ ?_ <;> first | (rw [hbl];decide) | decide | (simp only [GA,↓GB,GX,simprocAttr,GDs];done) | (simp only [GA,↓GB,GX,simprocAttr,GDs];rfl;done))⟩ ?_ <;> intro u)|(refine SX.block ?_)|(refine and_mk ?_ ?_;(focus first | decide | omega | rfl | assumption | (simp only [LBs];omega) | (simp;done)))|(refine And.intro ?_ ?_))
  all_goals (try refine Done.mk ?_)
  all_goals ((refine hN0 _ _ ⟨[],_,_,?_,?_,?_,⟨rfl,rfl⟩⟩;(focus exact LeR.of rfl trivial (by simp only [GA,↓GB,GX,simprocAttr,GDs]) (by decide) rfl rfl rfl);rotate_left;(focus rfl));rfl)
theorem getRes_some {e : EA} (he : e.Ok) (s : List UInt8) (hs : s.length ≤ 1099511627776) {l : List NW.Fld} (hl : NW.parse s = some l) : Ctr Tryz.prog (GW e) 74 [] [vv (.string (B s))]
    (fun os v => os = [] ∧ v = resV (resG (takeG stepR l (true,[])).1)) := by
  have hll : l.length ≤ 1099511627776 := Nat.le_trans (parse_len hl) hs
  have hn2 := lastN_len hl 2
  have hp : Ctr Tryz.prog (GW e) 86 [] [vv (.string (B s))] (fun os v => os = [frow l] ∧ v = .tup [.c (.row 0),.c (.v (.bool true))]) := by
    have := parse_ctrW he s hs
    rw [hl] at this
    exact this
  obtain ⟨m,hm⟩ : ∃ m,(takeG stepR l (true,[])).1 = m := ⟨_,rfl⟩
  rw [hm] at hn2 ⊢
  have hr := right_any (rsOf m.2) (by show (lastN 2 m.2).s.length ≤ _;omega)
  obtain ⟨ok,es⟩ := m
  simp only [rsOf] at hn2 hr ⊢
  have g1 : ∀ N,lkS (.int .i64 1) N (mE es) = N ((findN 1 es).map (sE 1)) := fun N => lkS_mE 1 N es
  have g2 : ∀ N,lkS (.int .i64 2) N (mE es) = N ((findN 2 es).map (sE 2)) := fun N => lkS_mE 2 N es
  have g3 : ∀ N,lkS (.int .i64 3) N (mE es) = N ((findN 3 es).map (sE 3)) := fun N => lkS_mE 3 N es
  have g4 : ∀ N,lkS (.int .i64 4) N (mE es) = N ((findN 4 es).map (sE 4)) := fun N => lkS_mE 4 N es
  have g5 : ∀ N,lkS (.int .i64 5) N (mE es) = N ((findN 5 es).map (sE 5)) := fun N => lkS_mE 5 N es
  have g6 := getD_last
  have ga := mE_all es
  refine Ctr.less ?_
  unfold resG
  by_cases hok : ok = true
  · subst hok
    by_cases h1 : (lastN 1 es).n ≤ 5
    · have b1 : decide ((5 : Int) < ((lastN 1 es).n : Int)) = false := by simp;omega
      by_cases h4 : (lastN 4 es).n ≤ 1
      · have b4 : decide ((1 : Int) < ((lastN 4 es).n : Int)) = false := by simp;omega
        have hw : IntKind.i64.wrap ((lastN 1 es).n : Int) = ((lastN 1 es).n : Int) := wI64 (by omega) (by omega)
        by_cases hR : rightB ⟨((lastN 1 es).n : Int),(lastN 2 es).s,(lastN 3 es).n,(((lastN 4 es).n : Int) == 1),(lastN 5 es).s⟩ = true
        · rw [if_pos ⟨rfl,h1,h4,hR⟩]
          simp only [hR] at hr
          intro X0 hP0 hG0 N0 hN0
          refine CallVC.inline (f := 74) (by rw [hP0];exact Tryz.func74) rfl Tryz.ntmps74 rfl (by simp) ?_
          intro X K hU hnt hbl hK
          have hP : X.P = Tryz.prog := hU.P.trans hP0
          have hG := hG0.under hU
          have hT := Ty.T74 hP
          simp only [GA,↓GB,GX,simprocAttr] at hbl ⊢
          have hl2 := fun K => get_l2 hP hnt hbl l hll K
          simp only [hm] at hl2
          repeat' (first|(refine SX.join (x := .seq (.region 4 _ _) (.block 0 _)) (ι := Unit) (fun _ => ⟨[(2,.one (.c (.loc 0 0))),(3,vv (.bool false)),(5,vv (.bool true)),(7,.one (.c (.row 1)))],[rs0,.map (mE es)]⟩) (SX.select (d := ⟨[(2,.one (.c (.loc 0 0))),(3,vv (.bool false)),(4,.one (.c (.row 1))),(5,vv (.bool true)),(6,.one (.c (.row 2))),(7,.one (.c (.row 3)))],[rs0,frow l,kindMap,.map []]⟩) [0,1,2,3] (LeR.of (by rw [hbl];decide) (by simp only [GA,↓GB,GX,simprocAttr,GDs]) (by simp only [GA,↓GB,GX,simprocAttr,GDs]) (by decide) (by simp only [GA,↓GB,GX,simprocAttr,GDs]) (by simp only [GA,↓GB,GX,simprocAttr,GDs]) (by simp only [GA,↓GB,GX,simprocAttr,GDs])) (hl2 _)) (fun _ => ?_))|(refine SX.seqK ?_;intro N hN)|((first | (refine SX.ops ?_) | (refine SX.planT (id := 12) [.q [(0,[7]),(1,[49]),(2,[50]),(3,[7]),(4,[52]),(5,[53]),(6,[51]),(7,[54])] none] ?_ ?_ ?_;(focus first | (rw [hP];kernel_rfl) | (rw [hU1P,hP];kernel_rfl));(focus kernel_rfl)));simp only [GA,↓GB,GX,simprocAttr,hnt,hT,g1,g2,g3,g4,g5,g6,ga,b1,b4,hw])|((first | refine SX.skip ?_ | refine SX.exit ?_ | refine SX.label ?_ | refine SX.ret ?_);try simp only [GA,↓GB,GX,simprocAttr])|(refine hN _ ?_;clear hN N)|((first | refine hK _ _ (FinI.ret3 ?_) | refine hK _ _ (FinI.nrm3 ?_));simp only [GA,↓GB,GX,simprocAttr,finP_s,hnt,hT,g1,g2,g3,g4,g5,g6,ga,b1,b4,hw];refine Done.out ?_)|(clear hN N;first | (refine hN _ ?_;clear hN N) | (clear hN N;refine hN _ ?_;clear hN N))|((first | refine SX.cond rfl (fun hb => ?_) (fun hb => ?_) | (refine bif2.mk (fun hb => ?_) (fun hb => ?_) <;> (try simp only [hb,GA,↓GB,GX,simprocAttr,hnt,hT,g1,g2,g3,g4,g5,g6,ga,b1,b4,hw]))) <;> ((first | cases hb | (simp only [HBs] at hb) | skip) <;> (first | (exfalso;omega) | skip)))|((first | (refine Ctr.use (hp) hP hG [] ?_ rfl rfl ?_;(focus (refine LeR.of rfl trivial ?_ ?_ ?_ ?_ ?_ <;> first | decide | (simp only [GA,↓GB,GX,simprocAttr,GDs];done)));intro os' s hR;obtain ⟨rfl,rfl⟩ := hR) | (refine CallVC.pv hP (hr) rfl ?_) | (refine CallQ.pv hP (hr) rfl ?_));simp only [GA,↓GB,GX,simprocAttr,hnt,hT,g1,g2,g3,g4,g5,g6,ga,b1,b4,hw])|(refine SX.block ?_)|(refine and_mk ?_ ?_;(focus first | decide | omega | rfl | assumption | (simp only [LBs];omega) | (simp;done)))|(refine And.intro ?_ ?_))
          all_goals (try refine Done.mk ?_)
          all_goals ((refine hN0 _ _ ⟨[],_,_,?_,?_,?_,⟨rfl,rfl⟩⟩;(focus exact LeR.of rfl trivial (by simp only [GA,↓GB,GX,simprocAttr,GDs]) (by decide) rfl rfl rfl);rotate_left;(focus rfl));rfl)
        · have hR : rightB ⟨((lastN 1 es).n : Int),(lastN 2 es).s,(lastN 3 es).n,(((lastN 4 es).n : Int) == 1),(lastN 5 es).s⟩ = false := by simpa using hR
          rw [if_neg (fun h => by have := h.2.2.2.symm.trans hR;cases this)]
          simp only [hR] at hr
          intro X0 hP0 hG0 N0 hN0
          refine CallVC.inline (f := 74) (by rw [hP0];exact Tryz.func74) rfl Tryz.ntmps74 rfl (by simp) ?_
          intro X K hU hnt hbl hK
          have hP : X.P = Tryz.prog := hU.P.trans hP0
          have hG := hG0.under hU
          have hT := Ty.T74 hP
          simp only [GA,↓GB,GX,simprocAttr] at hbl ⊢
          have hl2 := fun K => get_l2 hP hnt hbl l hll K
          simp only [hm] at hl2
          repeat' (first|(refine SX.join (x := .seq (.region 4 _ _) (.block 0 _)) (ι := Unit) (fun _ => ⟨[(2,.one (.c (.loc 0 0))),(3,vv (.bool false)),(5,vv (.bool true)),(7,.one (.c (.row 1)))],[rs0,.map (mE es)]⟩) (SX.select (d := ⟨[(2,.one (.c (.loc 0 0))),(3,vv (.bool false)),(4,.one (.c (.row 1))),(5,vv (.bool true)),(6,.one (.c (.row 2))),(7,.one (.c (.row 3)))],[rs0,frow l,kindMap,.map []]⟩) [0,1,2,3] (LeR.of (by rw [hbl];decide) (by simp only [GA,↓GB,GX,simprocAttr,GDs]) (by simp only [GA,↓GB,GX,simprocAttr,GDs]) (by decide) (by simp only [GA,↓GB,GX,simprocAttr,GDs]) (by simp only [GA,↓GB,GX,simprocAttr,GDs]) (by simp only [GA,↓GB,GX,simprocAttr,GDs])) (hl2 _)) (fun _ => ?_))|(refine SX.seqK ?_;intro N hN)|((first | (refine SX.ops ?_) | (refine SX.planT (id := 12) [.q [(0,[7]),(1,[49]),(2,[50]),(3,[7]),(4,[52]),(5,[53]),(6,[51]),(7,[54])] none] ?_ ?_ ?_;(focus first | (rw [hP];kernel_rfl) | (rw [hU1P,hP];kernel_rfl));(focus kernel_rfl)));simp only [GA,↓GB,GX,simprocAttr,hnt,hT,g1,g2,g3,g4,g5,g6,ga,b1,b4,hw])|((first | refine SX.skip ?_ | refine SX.exit ?_ | refine SX.label ?_ | refine SX.ret ?_);try simp only [GA,↓GB,GX,simprocAttr])|(refine hN _ ?_;clear hN N)|((first | refine hK _ _ (FinI.ret3 ?_) | refine hK _ _ (FinI.nrm3 ?_));simp only [GA,↓GB,GX,simprocAttr,finP_s,hnt,hT,g1,g2,g3,g4,g5,g6,ga,b1,b4,hw];refine Done.out ?_)|(clear hN N;first | (refine hN _ ?_;clear hN N) | (clear hN N;refine hN _ ?_;clear hN N))|((first | refine SX.cond rfl (fun hb => ?_) (fun hb => ?_) | (refine bif2.mk (fun hb => ?_) (fun hb => ?_) <;> (try simp only [hb,GA,↓GB,GX,simprocAttr,hnt,hT,g1,g2,g3,g4,g5,g6,ga,b1,b4,hw]))) <;> ((first | cases hb | (simp only [HBs] at hb) | skip) <;> (first | (exfalso;omega) | skip)))|((first | (refine Ctr.use (hp) hP hG [] ?_ rfl rfl ?_;(focus (refine LeR.of rfl trivial ?_ ?_ ?_ ?_ ?_ <;> first | decide | (simp only [GA,↓GB,GX,simprocAttr,GDs];done)));intro os' s hR;obtain ⟨rfl,rfl⟩ := hR) | (refine CallVC.pv hP (hr) rfl ?_) | (refine CallQ.pv hP (hr) rfl ?_));simp only [GA,↓GB,GX,simprocAttr,hnt,hT,g1,g2,g3,g4,g5,g6,ga,b1,b4,hw])|(refine SX.block ?_)|(refine and_mk ?_ ?_;(focus first | decide | omega | rfl | assumption | (simp only [LBs];omega) | (simp;done)))|(refine And.intro ?_ ?_))
          all_goals (try refine Done.mk ?_)
          all_goals ((refine hN0 _ _ ⟨[],_,_,?_,?_,?_,⟨rfl,rfl⟩⟩;(focus exact LeR.of rfl trivial (by simp only [GA,↓GB,GX,simprocAttr,GDs]) (by decide) rfl rfl rfl);rotate_left;(focus rfl));rfl)
      · have b4 : decide ((1 : Int) < ((lastN 4 es).n : Int)) = true := by simp;omega
        rw [if_neg (fun h => h4 h.2.2.1)]
        intro X0 hP0 hG0 N0 hN0
        refine CallVC.inline (f := 74) (by rw [hP0];exact Tryz.func74) rfl Tryz.ntmps74 rfl (by simp) ?_
        intro X K hU hnt hbl hK
        have hP : X.P = Tryz.prog := hU.P.trans hP0
        have hG := hG0.under hU
        have hT := Ty.T74 hP
        simp only [GA,↓GB,GX,simprocAttr] at hbl ⊢
        have hl2 := fun K => get_l2 hP hnt hbl l hll K
        simp only [hm] at hl2
        repeat' (first|(refine SX.join (x := .seq (.region 4 _ _) (.block 0 _)) (ι := Unit) (fun _ => ⟨[(2,.one (.c (.loc 0 0))),(3,vv (.bool false)),(5,vv (.bool true)),(7,.one (.c (.row 1)))],[rs0,.map (mE es)]⟩) (SX.select (d := ⟨[(2,.one (.c (.loc 0 0))),(3,vv (.bool false)),(4,.one (.c (.row 1))),(5,vv (.bool true)),(6,.one (.c (.row 2))),(7,.one (.c (.row 3)))],[rs0,frow l,kindMap,.map []]⟩) [0,1,2,3] (LeR.of (by rw [hbl];decide) (by simp only [GA,↓GB,GX,simprocAttr,GDs]) (by simp only [GA,↓GB,GX,simprocAttr,GDs]) (by decide) (by simp only [GA,↓GB,GX,simprocAttr,GDs]) (by simp only [GA,↓GB,GX,simprocAttr,GDs]) (by simp only [GA,↓GB,GX,simprocAttr,GDs])) (hl2 _)) (fun _ => ?_))|(refine SX.seqK ?_;intro N hN)|((first | (refine SX.ops ?_) | (refine SX.planT (id := 12) [.q [(0,[7]),(1,[49]),(2,[50]),(3,[7]),(4,[52]),(5,[53]),(6,[51]),(7,[54])] none] ?_ ?_ ?_;(focus first | (rw [hP];kernel_rfl) | (rw [hU1P,hP];kernel_rfl));(focus kernel_rfl)));simp only [GA,↓GB,GX,simprocAttr,hnt,hT,g1,g2,g3,g4,g5,g6,ga,b1,b4])|((first | refine SX.skip ?_ | refine SX.exit ?_ | refine SX.label ?_ | refine SX.ret ?_);try simp only [GA,↓GB,GX,simprocAttr])|(refine hN _ ?_;clear hN N)|((first | refine hK _ _ (FinI.ret3 ?_) | refine hK _ _ (FinI.nrm3 ?_));simp only [GA,↓GB,GX,simprocAttr,finP_s,hnt,hT,g1,g2,g3,g4,g5,g6,ga,b1,b4];refine Done.out ?_)|(clear hN N;first | (refine hN _ ?_;clear hN N) | (clear hN N;refine hN _ ?_;clear hN N))|((first | refine SX.cond rfl (fun hb => ?_) (fun hb => ?_) | (refine bif2.mk (fun hb => ?_) (fun hb => ?_) <;> (try simp only [hb,GA,↓GB,GX,simprocAttr,hnt,hT,g1,g2,g3,g4,g5,g6,ga,b1,b4]))) <;> ((first | cases hb | (simp only [HBs] at hb) | skip) <;> (first | (exfalso;omega) | skip)))|((first | (refine Ctr.use (hp) hP hG [] ?_ rfl rfl ?_;(focus (refine LeR.of rfl trivial ?_ ?_ ?_ ?_ ?_ <;> first | decide | (simp only [GA,↓GB,GX,simprocAttr,GDs];done)));intro os' s hR;obtain ⟨rfl,rfl⟩ := hR));simp only [GA,↓GB,GX,simprocAttr,hnt,hT,g1,g2,g3,g4,g5,g6,ga,b1,b4])|(refine SX.block ?_)|(refine and_mk ?_ ?_;(focus first | decide | omega | rfl | assumption | (simp only [LBs];omega) | (simp;done)))|(refine And.intro ?_ ?_))
        all_goals (try refine Done.mk ?_)
        all_goals ((refine hN0 _ _ ⟨[],_,_,?_,?_,?_,⟨rfl,rfl⟩⟩;(focus exact LeR.of rfl trivial (by simp only [GA,↓GB,GX,simprocAttr,GDs]) (by decide) rfl rfl rfl);rotate_left;(focus rfl));rfl)
    · have b1 : decide ((5 : Int) < ((lastN 1 es).n : Int)) = true := by simp;omega
      rw [if_neg (fun h => h1 h.2.1)]
      intro X0 hP0 hG0 N0 hN0
      refine CallVC.inline (f := 74) (by rw [hP0];exact Tryz.func74) rfl Tryz.ntmps74 rfl (by simp) ?_
      intro X K hU hnt hbl hK
      have hP : X.P = Tryz.prog := hU.P.trans hP0
      have hG := hG0.under hU
      have hT := Ty.T74 hP
      simp only [GA,↓GB,GX,simprocAttr] at hbl ⊢
      have hl2 := fun K => get_l2 hP hnt hbl l hll K
      simp only [hm] at hl2
      repeat' (first|(refine SX.join (x := .seq (.region 4 _ _) (.block 0 _)) (ι := Unit) (fun _ => ⟨[(2,.one (.c (.loc 0 0))),(3,vv (.bool false)),(5,vv (.bool true)),(7,.one (.c (.row 1)))],[rs0,.map (mE es)]⟩) (SX.select (d := ⟨[(2,.one (.c (.loc 0 0))),(3,vv (.bool false)),(4,.one (.c (.row 1))),(5,vv (.bool true)),(6,.one (.c (.row 2))),(7,.one (.c (.row 3)))],[rs0,frow l,kindMap,.map []]⟩) [0,1,2,3] (LeR.of (by rw [hbl];decide) (by simp only [GA,↓GB,GX,simprocAttr,GDs]) (by simp only [GA,↓GB,GX,simprocAttr,GDs]) (by decide) (by simp only [GA,↓GB,GX,simprocAttr,GDs]) (by simp only [GA,↓GB,GX,simprocAttr,GDs]) (by simp only [GA,↓GB,GX,simprocAttr,GDs])) (hl2 _)) (fun _ => ?_))|(refine SX.seqK ?_;intro N hN)|((first | (refine SX.ops ?_) | (refine SX.planT (id := 12) [.q [(0,[7]),(1,[49]),(2,[50]),(3,[7]),(4,[52]),(5,[53]),(6,[51]),(7,[54])] none] ?_ ?_ ?_;(focus first | (rw [hP];kernel_rfl) | (rw [hU1P,hP];kernel_rfl));(focus kernel_rfl)));simp only [GA,↓GB,GX,simprocAttr,hnt,hT,g1,g2,g3,g4,g5,g6,ga,b1])|((first | refine SX.skip ?_ | refine SX.exit ?_ | refine SX.label ?_ | refine SX.ret ?_);try simp only [GA,↓GB,GX,simprocAttr])|(refine hN _ ?_;clear hN N)|((first | refine hK _ _ (FinI.ret3 ?_) | refine hK _ _ (FinI.nrm3 ?_));simp only [GA,↓GB,GX,simprocAttr,finP_s,hnt,hT,g1,g2,g3,g4,g5,g6,ga,b1];refine Done.out ?_)|(clear hN N;first | (refine hN _ ?_;clear hN N) | (clear hN N;refine hN _ ?_;clear hN N))|((first | refine SX.cond rfl (fun hb => ?_) (fun hb => ?_) | (refine bif2.mk (fun hb => ?_) (fun hb => ?_) <;> (try simp only [hb,GA,↓GB,GX,simprocAttr,hnt,hT,g1,g2,g3,g4,g5,g6,ga,b1]))) <;> ((first | cases hb | (simp only [HBs] at hb) | skip) <;> (first | (exfalso;omega) | skip)))|((first | (refine Ctr.use (hp) hP hG [] ?_ rfl rfl ?_;(focus (refine LeR.of rfl trivial ?_ ?_ ?_ ?_ ?_ <;> first | decide | (simp only [GA,↓GB,GX,simprocAttr,GDs];done)));intro os' s hR;obtain ⟨rfl,rfl⟩ := hR));simp only [GA,↓GB,GX,simprocAttr,hnt,hT,g1,g2,g3,g4,g5,g6,ga,b1])|(refine SX.block ?_)|(refine and_mk ?_ ?_;(focus first | decide | omega | rfl | assumption | (simp only [LBs];omega) | (simp;done)))|(refine And.intro ?_ ?_))
      all_goals (try refine Done.mk ?_)
      all_goals ((refine hN0 _ _ ⟨[],_,_,?_,?_,?_,⟨rfl,rfl⟩⟩;(focus exact LeR.of rfl trivial (by simp only [GA,↓GB,GX,simprocAttr,GDs]) (by decide) rfl rfl rfl);rotate_left;(focus rfl));rfl)
  · have hok : ok = false := by simpa using hok
    subst hok
    rw [if_neg (fun h => by cases h.1)]
    intro X0 hP0 hG0 N0 hN0
    refine CallVC.inline (f := 74) (by rw [hP0];exact Tryz.func74) rfl Tryz.ntmps74 rfl (by simp) ?_
    intro X K hU hnt hbl hK
    have hP : X.P = Tryz.prog := hU.P.trans hP0
    have hG := hG0.under hU
    have hT := Ty.T74 hP
    simp only [GA,↓GB,GX,simprocAttr] at hbl ⊢
    have hl2 := fun K => get_l2 hP hnt hbl l hll K
    simp only [hm] at hl2
    repeat' (first|(refine SX.join (x := .seq (.region 4 _ _) (.block 0 _)) (ι := Unit) (fun _ => ⟨[(2,.one (.c (.loc 0 0))),(3,vv (.bool false)),(5,vv (.bool false)),(7,.one (.c (.row 1)))],[rs0,.map (mE es)]⟩) (SX.select (d := ⟨[(2,.one (.c (.loc 0 0))),(3,vv (.bool false)),(4,.one (.c (.row 1))),(5,vv (.bool true)),(6,.one (.c (.row 2))),(7,.one (.c (.row 3)))],[rs0,frow l,kindMap,.map []]⟩) [0,1,2,3] (LeR.of (by rw [hbl];decide) (by simp only [GA,↓GB,GX,simprocAttr,GDs]) (by simp only [GA,↓GB,GX,simprocAttr,GDs]) (by decide) (by simp only [GA,↓GB,GX,simprocAttr,GDs]) (by simp only [GA,↓GB,GX,simprocAttr,GDs]) (by simp only [GA,↓GB,GX,simprocAttr,GDs])) (hl2 _)) (fun _ => ?_))|(refine SX.seqK ?_;intro N hN)|((first | (refine SX.ops ?_) | (refine SX.planT (id := 12) [.q [(0,[7]),(1,[49]),(2,[50]),(3,[7]),(4,[52]),(5,[53]),(6,[51]),(7,[54])] none] ?_ ?_ ?_;(focus first | (rw [hP];kernel_rfl) | (rw [hU1P,hP];kernel_rfl));(focus kernel_rfl)));simp only [GA,↓GB,GX,simprocAttr,hnt,hT,g1,g2,g3,g4,g5,g6,ga])|((first | refine SX.skip ?_ | refine SX.exit ?_ | refine SX.label ?_ | refine SX.ret ?_);try simp only [GA,↓GB,GX,simprocAttr])|(refine hN _ ?_;clear hN N)|((first | refine hK _ _ (FinI.ret3 ?_) | refine hK _ _ (FinI.nrm3 ?_));simp only [GA,↓GB,GX,simprocAttr,finP_s,hnt,hT,g1,g2,g3,g4,g5,g6,ga];refine Done.out ?_)|(clear hN N;first | (refine hN _ ?_;clear hN N) | (clear hN N;refine hN _ ?_;clear hN N))|((first | refine SX.cond rfl (fun hb => ?_) (fun hb => ?_) | (refine bif2.mk (fun hb => ?_) (fun hb => ?_) <;> (try simp only [hb,GA,↓GB,GX,simprocAttr,hnt,hT,g1,g2,g3,g4,g5,g6,ga]))) <;> ((first | cases hb | (simp only [HBs] at hb) | skip) <;> (first | (exfalso;omega) | skip)))|((first | (refine Ctr.use (hp) hP hG [] ?_ rfl rfl ?_;(focus (refine LeR.of rfl trivial ?_ ?_ ?_ ?_ ?_ <;> first | decide | (simp only [GA,↓GB,GX,simprocAttr,GDs];done)));intro os' s hR;obtain ⟨rfl,rfl⟩ := hR));simp only [GA,↓GB,GX,simprocAttr,hnt,hT,g1,g2,g3,g4,g5,g6,ga])|(refine SX.block ?_)|(refine and_mk ?_ ?_;(focus first | decide | omega | rfl | assumption | (simp only [LBs];omega) | (simp;done)))|(refine And.intro ?_ ?_))
    all_goals (try refine Done.mk ?_)
    all_goals ((refine hN0 _ _ ⟨[],_,_,?_,?_,?_,⟨rfl,rfl⟩⟩;(focus exact LeR.of rfl trivial (by simp only [GA,↓GB,GX,simprocAttr,GDs]) (by decide) rfl rfl rfl);rotate_left;(focus rfl));rfl)
theorem getRes_ctr {e : EA} (he : e.Ok) (s : List UInt8) (hs : s.length ≤ 1099511627776) : Ctr Tryz.prog (GW e) 74 [] [vv (.string (B s))] (fun os v => os = [] ∧ v = resV (resR s)) := by
  unfold resR
  cases hl : NW.parse s with
  | none => exact getRes_none he s hs hl
  | some l => exact getRes_some he s hs hl
end Go.Proofs.YtbdacbcpniegiaaGreatDoor
namespace Go.Proofs.YtbdacbcpniegiaaGreatDoor.Q
open Go Go.RowKit Go.Proofs Go.Sx
def fsOf (r : Rs) (t : Nat) : List NW.Fld := ⟨1,0,t,[]⟩ :: ⟨2,2,0,r.s⟩ :: ⟨3,0,r.q,[]⟩ :: ((if r.g = true then [⟨4,0,1,[]⟩] else []) ++ (if r.b = [] then [] else [⟨5,2,0,r.b⟩]))
theorem resB_encs (r : Rs) (t : Nat) : resB r t = NW.encs (fsOf r t) := by
  unfold resB fsOf
  cases r.g <;> by_cases hb : r.b = [] <;> simp [NW.encs,NW.Fld.enc,numB,textB,hb]
theorem fsOf_ok {r : Rs} (h : rightB r = true) : ∀ f ∈ fsOf r r.t.toNat,f.Ok := by
  obtain ⟨h1,h2,h3,h4,h5,h6⟩ := right_type h
  intro f hf
  have h29 : (2 : Nat) ^ 29 = 536870912 := rfl
  have h64 : (2 : Nat) ^ 64 = 18446744073709551616 := rfl
  unfold fsOf at hf
  simp only [List.mem_cons,List.mem_append] at hf
  rcases hf with rfl | rfl | rfl | hf | hf
  · exact ⟨by simp,by simp,.inl ⟨rfl,rfl,by simp only;omega⟩⟩
  · exact ⟨by simp,by simp,.inr (.inr (.inl ⟨rfl,by simp only;omega,rfl⟩))⟩
  · exact ⟨by simp,by simp,.inl ⟨rfl,rfl,by simp only;omega⟩⟩
  · split at hf
    · simp at hf;subst hf;exact ⟨by simp,by simp,.inl ⟨rfl,rfl,by simp⟩⟩
    · simp at hf
  · split at hf
    · simp at hf
    · simp at hf;subst hf;exact ⟨by simp,by simp,.inr (.inr (.inl ⟨rfl,by simp only;omega,rfl⟩))⟩
def stepT (m : LSt) (f : NW.Fld) : LSt := (stepR f m).getD m
theorem stepR_some (f : NW.Fld) (m : LSt) : stepR f m = some (stepT m f) := by
  unfold stepT
  unfold stepR
  repeat' split
  all_goals rfl
theorem takeG_fold (l : List NW.Fld) : ∀ m : LSt,(takeG stepR l m).1 = l.foldl stepT m := by
  induction l with
  | nil => intro m;rfl
  | cons f l ih => intro m;rw [takeG,stepR_some];exact ih _
theorem resG_put {r : Rs} (h : rightB r = true) : resG ((fsOf r r.t.toNat).foldl stepT (true,[])) = some r := by
  obtain ⟨h1,h2,h3,h4,h5,h6⟩ := right_type h
  obtain ⟨t,s,q,g,b⟩ := r
  simp only at h1 h2 h3 h4 h5 h6
  obtain ⟨t,rfl⟩ : ∃ n : Nat,t = n := ⟨t.toNat,by omega⟩
  have key : ∀ m : LSt,m.1 = true → (lastN 1 m.2).n = t → (lastN 2 m.2).s = s → (lastN 3 m.2).n = q → (((lastN 4 m.2).n : Int) == 1) = g → (lastN 4 m.2).n ≤ 1 → (lastN 5 m.2).s = b → resG m = some ⟨t,s,q,g,b⟩ := by
    intro m e0 e1 e2 e3 e4 e5 e6
    have e : rsOf m.2 = ⟨t,s,q,g,b⟩ := by simp only [rsOf,e1,e2,e3,e4,e6]
    rw [resG,e,if_pos ⟨e0,by omega,e5,h⟩]
  unfold fsOf
  cases g <;> by_cases hb : b = [] <;> (apply key <;> simp [stepT,stepR,putN,findN,lastN,nilF,hb])
theorem resR_put {r : Rs} (h : rightB r = true) : resR (resB r r.t.toNat) = some r := by
  unfold resR
  rw [resB_encs,NW.parse_encs' _ (fsOf_ok h)]
  show resG (takeG stepR (fsOf r r.t.toNat) (true,[])).1 = some r
  rw [takeG_fold]
  exact resG_put h
@[reducible] def r0 : Rs := ⟨2,[97],3,false,[120]⟩
structure Th where
  r : Rs
  own : Bool
  nm : Nat
deriving Inhabited
def tN (t : Int) : Nat := 1 + ((t % 18446744073709551616) % 5).toNat
end Go.Proofs.YtbdacbcpniegiaaGreatDoor.Q
namespace Go.Proofs.YtbdacbcpniegiaaGreatDoor.Q
open Go Go.RowKit Go.Proofs Go.Sx Go.ChangeShapes
theorem star : "*" ++ "errors.errorString" = "*errors.errorString" := by decide
theorem row253 (u : TypeId) (h : Tryz.prog.typeName? 3 u = some "*errors.errorString") : u = 211 :=
  typeName_ptr_named (nm := "errors.errorString") (by rw [star];kernel_rfl) (by kernel_rfl) (by decide) u (by rw [star];exact h)
theorem nShort : Tryz.prog.globalNamed "noria/wire.errShort" = some 2 := by kernel_rfl
theorem nWrong : Tryz.prog.globalNamed "noria/wire.errWrong" = some 3 := by kernel_rfl
theorem tShort : (Tryz.prog.globals[2]?).map (·.type) = some 98 := by kernel_rfl
theorem tWrong : (Tryz.prog.globals[3]?).map (·.type) = some 98 := by kernel_rfl
theorem c277 : Tryz.prog.cellsOf 235 = 1 := by kernel_rfl
theorem c9 : Tryz.prog.cellsOf 9 = 1 := by kernel_rfl
theorem ctr_calls {P : Program} {G : List (Addr × Value)} {f : FuncId} {args : List SV} {R : List LO → SV → Prop} (h : Ctr P G f [] args R) (w : World) (hG : ∀ p ∈ G,w.cell? p.1 = some p.2 ∧ loneStr w p) {vals : List Value} (ha : All2 (DV []) args vals) :
    Calls P f vals.toArray w fun e w' => ∃ v os' s σ',e = .returned v ∧ R os' s ∧ DV σ' s v ∧ Below w.heap.size w w' := by
  have hr : Rel ⟨P,w,[],0,[]⟩ ⟨[],[]⟩ [] [] { tmps := #[],defers := [] } w :=
    ⟨fun t s h => by simp at h,rfl,rfl,fun i o fp v h => by simp at h,by simp,fun b h => by simp at h,fun b h => by simp at h,Fr.refl _ _,rfl,rfl,fun v h => by simp at h,fun i v h => by simp at h⟩
  refine (h ⟨P,w,[],0,[]⟩ rfl (fun p hp => ⟨(hG p hp).1,by simp,(hG p hp).2⟩) (fun c s => ∃ os',c = ⟨[],os'⟩ ∧ R os' s) (fun os' s hR => ⟨os',rfl,hR⟩) _ _ _ _ hr vals ha).mono ?_
  rintro e w' ⟨v,c',ρ',σ',s,rfl,hr',hd,os',rfl,hR⟩
  exact ⟨v,os',s,σ',rfl,hR,hd,hr'.low.below (by simp)⟩
end Go.Proofs.YtbdacbcpniegiaaGreatDoor.Q
namespace Go.Proofs.YtbdacbcpniegiaaGreatDoor.Q
open Go Go.RowKit Go.ChangeShapes Go.WideShapes Go.ChangeAt Go.Sx Go.Proofs.YtbdacbcpniegiaaGreatDoor
structure RsOk (r : Rs) : Prop where
  t0 : -9223372036854775808 ≤ r.t
  t1 : r.t < 9223372036854775808
  s : r.s.length ≤ 9223372036854775807
  q : r.q < 18446744073709551616
  b : r.b.length ≤ 9223372036854775807
def Th.cells (x : Th) : List Value := x.r.cells ++ [.bool x.own,.int .u8 (x.nm : Int)]
structure Th.Ok (x : Th) : Prop where
  r : RsOk x.r
  nm : x.nm < 256
end Go.Proofs.YtbdacbcpniegiaaGreatDoor.Q
namespace Go.Sx
open Go Go.RowKit
def CtrF (P : Program) (F : Ctx → Prop) (f : FuncId) (os : List LO) (args : List SV) (R : List LO → SV → Prop) : Prop :=
  ∀ X : Ctx,X.P = P → F X → ∀ N : Cfg → SV → Prop,(∀ os' s,R os' s → N ⟨[],os'⟩ s) → CallVC X ⟨[],os⟩ f args N
theorem CtrF.use {X : Ctx} {c : Cfg} {P : Program} {F : Ctx → Prop} {f : FuncId} {os : List LO} {args args' : List SV} {R : List LO → SV → Prop} {N : Cfg → SV → Prop} (h : CtrF P F f os args R) (hP : X.P = P) (hF : ∀ X',Under X X' → F X') (sel : List Nat)
    (hle : LeR 0 sel ⟨[],os⟩ c) (ha' : args' = args.map (SV.ren sel)) (hok : (args.all fun s => s.okB sel.length) = true)
    (hN : ∀ os' s,R os' s → N { env := c.env,loc := patchL c.loc sel (selN c.loc.length sel os') os' } (s.ren (selN c.loc.length sel os'))) : CallVC X c f args' N := by
  refine CallVC.frame sel (Q := fun c' s => R c'.loc s) (fun X' hU => h X' (by rw [hU.P,hP]) (hF X' hU) _ (fun os s hr => hr)) hle ha' hok (fun c' s hq => ?_)
  have := hN c'.loc s hq
  rw [selN_eq] at this
  exact this
theorem CtrF.less {P : Program} {F : Ctx → Prop} {f : FuncId} {os : List LO} {args : List SV} {R : List LO → SV → Prop}
    (h : CtrF P F f os args (fun os' r => ∃ sel os2 s2,LeR os.length sel ⟨[],os2⟩ ⟨[],os'⟩ ∧ r = s2.ren sel ∧ s2.okB sel.length = true ∧ R os2 s2)) : CtrF P F f os args R := by
  intro X hP hF N hN ρ σ a w hr vals ha
  have hb : X.base.length ≤ os.length := by
    have hl : σ.length = os.length := hr.lenS
    rcases Nat.lt_or_ge os.length X.base.length with h0 | h0
    · have := hr.pin os.length X.base[os.length] (by simp [h0])
      rw [List.getElem?_eq_none (by omega)] at this;cases this
    · exact h0
  refine (h X hP hF (fun c s => ∃ sel os2 s2,LeR os.length sel ⟨[],os2⟩ c ∧ s = s2.ren sel ∧ s2.okB sel.length = true ∧ R os2 s2) (fun os' s hR => hR) ρ σ a w hr vals ha).mono ?_
  rintro e w' ⟨v,c',ρ',σ',s,rfl,hr',hd,sel,os2,s2,hl,rfl,hok,hR⟩
  exact ⟨v,⟨[],os2⟩,_,_,s2,rfl,Rel.leR ⟨fun i hi => hl.pin i (by omega),hl.env,hl.len,hl.loc,hl.nd,hl.lt,hl.okE,hl.okL⟩ hr',DV.ren hok hd,hN _ _ hR⟩
end Go.Sx
namespace Go.Proofs.YtbdacbcpniegiaaGreatDoor.Q
open Go Go.RowKit Go.Proofs Go.Sx
theorem add_block (ad : Addr) (i : Nat) : (ad.add i).block = ad.block := by unfold Addr.add;split <;> rfl
def FarT (X : Ctx) (q : Option Addr) (xs : List Th) : Prop := ∀ i,i < xs.length → ∃ ad : Addr,q = some ad ∧ ad.block ∉ X.own ∧ ∀ j v,(xs.getD i default).cells[j]? = some v → X.wi.cell? ((ad.add (i * 7)).add j) = some v
theorem FarT.under {X X' : Ctx} {q : Option Addr} {xs : List Th} (h : FarT X q xs) (hU : Under X X') : FarT X' q xs := fun i hi => by
  obtain ⟨ad,e,ho,hc⟩ := h i hi
  have hb : ∀ j,((ad.add (i * 7)).add j).block = ad.block := fun j => by rw [add_block,add_block]
  have h0 : ∃ v,(xs.getD i default).cells[0]? = some v := ⟨_,rfl⟩
  obtain ⟨v,hv⟩ := h0
  refine ⟨ad,e,?_,fun j v hj => (hU.cell (hc j v hj) (by rw [hb];exact ho)).1⟩
  have := (hU.cell (hc 0 v hv) (by rw [hb];exact ho)).2
  rwa [hb] at this
theorem mrow_snoc (ms : List Rs) (r : Rs) : LO.row 139 5 (ms.length + 1) (mks ms ++ [.int .i64 r.t,.string (B r.s),.int .u64 r.q,.bool r.g,.string (B r.b)]) = mrow (ms ++ [r]) := by
  simp only [mrow,List.length_append,List.length_cons,List.length_nil,mks_append];rfl
def z0 : Rs := ⟨0,[],0,false,[]⟩
theorem resV_eq (o : Option Rs) : resV o = .tup [.agg [.v (.int .i64 (o.getD z0).t),.v (.string (B (o.getD z0).s)),.v (.int .u64 (o.getD z0).q),.v (.bool (o.getD z0).g),.v (.string (B (o.getD z0).b))],.c (.v (.bool o.isSome))] := by
  cases o <;> rfl
theorem resc_ctr {e : EA} (he : e.Ok) (q v : Nat) (rs : List Rs) (rm : List (List UInt8)) (k n : Nat) (s : List UInt8) (hs : s.length ≤ 1099511627776) (hl : rs.length ≤ 1099511627776) :
    Ctr Tryz.prog (GE e) 73 [.cells [.v (.int .i64 0),.v (.bool false),.v (.bool false),.v (.int .u64 q),.v (.int .u64 v),.row 1,.row 2] 68,mrow rs,srow rm] [.one (.agg [.v (.int .i64 5),.v (.int .i64 k),.v (.int .u64 n),.v (.string (B s))]),.one (.c (.loc 0 0))]
      (fun os u => os = [.cells [.v (.int .i64 0),.v (.bool false),.v (.bool false),.v (.int .u64 q),.v (.int .u64 v),.row 3,.row 2] 68,.gone,srow rm,mrow (rs ++ [(resR s).getD z0])] ∧ u = vv (.bool (resR s).isSome)) := by
  have hg := Ctr.moreG (GW_sub e) (getRes_ctr he s hs)
  rw [resV_eq] at hg
  have hsn := mrow_snoc rs ((resR s).getD z0)
  generalize (resR s).getD z0 = r at hg hsn ⊢
  generalize (resR s).isSome = ok at hg ⊢
  refine Ctr.less ?_
  intro X0 hP0 hG0 N0 hN0
  refine CallVC.inline (f := 73) (by rw [hP0];exact Tryz.func73) rfl Tryz.ntmps73 rfl (by simp) ?_
  intro X K hU hnt hbl hK
  have hP : X.P = Tryz.prog := hU.P.trans hP0
  have hG := hG0.under hU
  have hT := Ty.T73 hP
  simp only [GA,↓GB,GX,simprocAttr] at hbl ⊢
  repeat' (first|(refine SX.seqK ?_;intro N hN)|((first | (refine SX.ops ?_));simp only [GA,↓GB,GX,simprocAttr,hnt,hT])|((first | refine SX.skip ?_ | refine SX.exit ?_ | refine SX.label ?_ | refine SX.ret ?_);try simp only [GA,↓GB,GX,simprocAttr])|(refine hN _ ?_;clear hN N)|((first | refine hK _ _ (FinI.ret3 ?_) | refine hK _ _ (FinI.nrm3 ?_));simp only [GA,↓GB,GX,simprocAttr,finP_s,hnt,hT];refine Done.out ?_)|(refine bif2.mk (fun hb => ?_) (fun hb => ?_) <;> (try simp only [hb,GA,↓GB,GX,simprocAttr,hnt,hT]) <;> ((first | cases hb | (simp only [HBs] at hb) | skip) <;> (first | (exfalso;omega) | skip)))|((first | (refine Ctr.use (hg) hP hG [] ?_ rfl rfl ?_;(focus (refine LeR.of rfl trivial ?_ ?_ ?_ ?_ ?_ <;> first | decide | (simp only [GA,↓GB,GX,simprocAttr,GDs];done)));intro os' s hR;obtain ⟨rfl,rfl⟩ := hR));simp only [GA,↓GB,GX,simprocAttr,hnt,hT])|(refine and_mk ?_ ?_;(focus first | decide | omega | rfl | assumption | (simp only [LBs];omega) | (simp;done)))|(refine And.intro ?_ ?_))
  all_goals (try refine Done.mk ?_)
  all_goals
    rw [hsn]
    (refine hN0 _ _ ⟨[0,1,2,6],_,_,?_,?_,?_,⟨rfl,rfl⟩⟩;(focus exact LeR.of rfl trivial (by simp only [GA,↓GB,GX,simprocAttr,GDs]) (by decide) rfl rfl rfl);rotate_left;(focus rfl))
    rfl
def remC (n k x : Nat) (s : List UInt8) (q v : Nat) (rs : List Rs) (rm : List (List UInt8)) (M : Nat → Bool) : Cfg :=
  ⟨[(12,bif M 8 then .one (.c (.loc 1 6)) else ddd),(11,bif M 7 then .one (.c (.row 6)) else ddd),(10,bif M 6 then .one (.c (.sl 5 0 1 1)) else ddd),(9,bif M 5 then vv (.string (B s)) else ddd),(8,bif M 4 then .one (.c (.loc 4 3)) else ddd),(7,bif M 3 then .one (.c (.row 3)) else ddd),(6,bif M 2 then .one (.c (.loc 1 6)) else ddd),(5,bif M 1 then .one (.c (.loc 1 6)) else ddd),(4,bif M 0 then .one (.c (.loc 1 6)) else ddd),(1,.one (.c (.loc 0 0))),(2,.one (.c (.loc 4 0))),(3,vv (.bool false))],
   [.cells [.loc 1 6] 122,.cells [.v (.int .i64 0),.v (.bool false),.v (.bool false),.v (.int .u64 q),.v (.int .u64 v),.row 2,.row 3] 68,mrow rs,(bif M 7 then .gone else srow rm),.cells [.v (.int .i64 n),.v (.int .i64 k),.v (.int .u64 x),.v (.string (B s))] 109,bif M 6 then .cells [.v (.string (B s))] 9 else .gone,bif M 7 then .row 9 1 (rm.length + 1) ((rm.map fun s => Value.string (B s)) ++ [.string (B s)]) else .gone]⟩
theorem rem_ctr (n k x : Nat) (s : List UInt8) (q v : Nat) (rs : List Rs) (rm : List (List UInt8)) (hl : rm.length ≤ 1099511627776) :
    Ctr Tryz.prog [] 90 [.cells [.loc 1 6] 122,.cells [.v (.int .i64 0),.v (.bool false),.v (.bool false),.v (.int .u64 q),.v (.int .u64 v),.row 2,.row 3] 68,mrow rs,srow rm] [.one (.agg [.v (.int .i64 n),.v (.int .i64 k),.v (.int .u64 x),.v (.string (B s))]),.one (.c (.loc 0 0))]
      (fun os u => os = [.cells [.loc 1 6] 122,.cells [.v (.int .i64 0),.v (.bool false),.v (.bool false),.v (.int .u64 q),.v (.int .u64 v),.row 2,.row 4] 68,mrow rs,.gone,srow (rm ++ [s])] ∧ u = vv (.bool true)) := by
  refine Ctr.less ?_
  intro X0 hP0 hG0 N0 hN0
  refine CallVC.inline (f := 90) (by rw [hP0];exact Tryz.func90) rfl Tryz.ntmps90 rfl (by simp) ?_
  intro X K hU hnt hbl hK
  have hP : X.P = Tryz.prog := hU.P.trans hP0
  have hG := hG0.under hU
  have hT := Ty.T90 hP
  simp only [GA,↓GB,GX,simprocAttr] at hbl ⊢
  repeat' (first|(refine SX.seqK ?_;intro N hN)|((first | (refine SX.ops ?_));simp only [GA,↓GB,GX,simprocAttr,hnt,hT])|((first | refine SX.skip ?_ | refine SX.exit ?_ | refine SX.label ?_ | refine SX.ret ?_);try simp only [GA,↓GB,GX,simprocAttr])|(refine hN _ ?_;clear hN N)|((first | refine hK _ _ (FinI.ret3 ?_) | refine hK _ _ (FinI.nrm3 ?_));simp only [GA,↓GB,GX,simprocAttr,finP_s,hnt,hT];refine Done.out ?_)|(refine bif2.mk (fun hb => ?_) (fun hb => ?_) <;> (try simp only [hb,GA,↓GB,GX,simprocAttr,hnt,hT]) <;> ((first | cases hb | (simp only [HBs] at hb) | skip) <;> (first | (exfalso;omega) | skip)))|(refine and_mk ?_ ?_;(focus first | decide | omega | rfl | assumption | (simp only [LBs];omega) | (simp;done)))|(refine And.intro ?_ ?_))
  all_goals (try refine Done.mk ?_)
  refine SX.dia (id := 1) [0,1,2,3,4,5,6,7,8] (remC n k x s q v rs rm) [.s 9] (remC n k x s q v rs rm (fun _ => true)) ?_ ?_ ?_ ?_ rfl ?_
  · rw [hP];kernel_rfl
  · kernel_rfl
  · refine Imp.trans (Imp.le [0,1,2,3,4] (d := ⟨[(1,.one (.c (.loc 0 0))),(2,.one (.c (.loc 4 0))),(3,vv (.bool false))],[.cells [.loc 1 6] 122,.cells [.v (.int .i64 0),.v (.bool false),.v (.bool false),.v (.int .u64 q),.v (.int .u64 v),.row 2,.row 3] 68,mrow rs,srow rm,.cells [.v (.int .i64 n),.v (.int .i64 k),.v (.int .u64 x),.v (.string (B s))] 109]⟩) (by (refine LeR.of ?_ ?_ ?_ ?_ ?_ ?_ ?_ <;> first | (rw [hbl];decide) | decide | (simp only [GA,↓GB,GX,simprocAttr,GDs];done) | (simp only [GA,↓GB,GX,simprocAttr,GDs];rfl;done)))) ?_
    refine Imp.trans (Imp.deads [4,5,6,7,8,9,10,11,12] (by rw [hnt];decide)) ?_
    refine Imp.trans Imp.gone ?_
    refine Imp.trans Imp.gone ?_
    exact Imp.refl
  · rintro M i hi hd
    simp only [List.mem_cons,List.not_mem_nil,or_false] at hi
    rcases hi with rfl | rfl | rfl | rfl | rfl | rfl | rfl | rfl | rfl
    · have n8 : M 8 = false := dN hd rfl 0 rfl rfl hd.un
      have hun := hd.un
      refine ⟨_,rfl,rfl,?_⟩
      simp only [remC,upd,↓reduceIte,Nat.reduceEqDiff,reduceCtorEq,hun,n8,CSs,List.nil_append,List.cons_append,simprocAttr]
      refine vcOp_sound ?_
      simp only [GA,↓GB,GX,simprocAttr,hnt,hT]
      repeat' (refine and_mk ?_ ?_;(focus first | decide | omega | rfl | assumption))
      all_goals (refine Imp.le [0,1,2,3,4,5,6] ?_;(refine LeR.of ?_ ?_ ?_ ?_ ?_ ?_ ?_ <;> first | (rw [hbl];decide) | decide | (simp only [GA,↓GB,GX,simprocAttr,GDs,CSs];done)))
    · have n2 : M 2 = false := dN hd rfl 0 rfl rfl hd.un
      have n3 : M 3 = false := dN hd rfl 0 rfl rfl n2
      have n7 : M 7 = false := dN hd rfl 0 rfl rfl n3
      have n8 : M 8 = false := dN hd rfl 2 rfl rfl hd.un
      have hun := hd.un
      refine ⟨_,rfl,rfl,?_⟩
      simp only [remC,upd,↓reduceIte,Nat.reduceEqDiff,reduceCtorEq,hun,n2,n3,n7,n8,CSs,List.nil_append,List.cons_append,simprocAttr]
      refine vcOp_sound ?_
      simp only [GA,↓GB,GX,simprocAttr,hnt,hT]
      repeat' (refine and_mk ?_ ?_;(focus first | decide | omega | rfl | assumption))
      all_goals (refine Imp.le [0,1,2,3,4,5,6] ?_;(refine LeR.of ?_ ?_ ?_ ?_ ?_ ?_ ?_ <;> first | (rw [hbl];decide) | decide | (simp only [GA,↓GB,GX,simprocAttr,GDs,CSs];done)))
    · have m1 : M 1 = true := dD hd rfl 0 rfl rfl
      have n3 : M 3 = false := dN hd rfl 0 rfl rfl hd.un
      have n7 : M 7 = false := dN hd rfl 0 rfl rfl n3
      have n8 : M 8 = false := dN hd rfl 3 rfl rfl hd.un
      have hun := hd.un
      refine ⟨_,rfl,rfl,?_⟩
      simp only [remC,upd,↓reduceIte,Nat.reduceEqDiff,reduceCtorEq,hun,m1,n3,n7,n8,CSs,List.nil_append,List.cons_append,simprocAttr]
      refine vcOp_sound ?_
      simp only [GA,↓GB,GX,simprocAttr,hnt,hT]
      repeat' (refine and_mk ?_ ?_;(focus first | decide | omega | rfl | assumption))
      all_goals (refine Imp.le [0,1,2,3,4,5,6] ?_;(refine LeR.of ?_ ?_ ?_ ?_ ?_ ?_ ?_ <;> first | (rw [hbl];decide) | decide | (simp only [GA,↓GB,GX,simprocAttr,GDs,CSs];done)))
    · have m2 : M 2 = true := dD hd rfl 0 rfl rfl
      have m1 : M 1 = true := dC hd rfl m2 0 rfl rfl
      have n7 : M 7 = false := dN hd rfl 0 rfl rfl hd.un
      have n8 : M 8 = false := dN hd rfl 4 rfl rfl hd.un
      have hun := hd.un
      refine ⟨_,rfl,rfl,?_⟩
      simp only [remC,upd,↓reduceIte,Nat.reduceEqDiff,reduceCtorEq,hun,m2,m1,n7,n8,CSs,List.nil_append,List.cons_append,simprocAttr]
      refine vcOp_sound ?_
      simp only [GA,↓GB,GX,simprocAttr,hnt,hT]
      repeat' (refine and_mk ?_ ?_;(focus first | decide | omega | rfl | assumption))
      all_goals (refine Imp.le [0,1,2,3,4,5,6] ?_;(refine LeR.of ?_ ?_ ?_ ?_ ?_ ?_ ?_ <;> first | (rw [hbl];decide) | decide | (simp only [GA,↓GB,GX,simprocAttr,GDs,CSs];done)))
    · have n5 : M 5 = false := dN hd rfl 0 rfl rfl hd.un
      have n6 : M 6 = false := dN hd rfl 0 rfl rfl n5
      have n7 : M 7 = false := dN hd rfl 1 rfl rfl n6
      have n8 : M 8 = false := dN hd rfl 5 rfl rfl hd.un
      have hun := hd.un
      refine ⟨_,rfl,rfl,?_⟩
      simp only [remC,upd,↓reduceIte,Nat.reduceEqDiff,reduceCtorEq,hun,n5,n6,n7,n8,CSs,List.nil_append,List.cons_append,simprocAttr]
      refine vcOp_sound ?_
      simp only [GA,↓GB,GX,simprocAttr,hnt,hT]
      repeat' (refine and_mk ?_ ?_;(focus first | decide | omega | rfl | assumption))
      all_goals (refine Imp.le [0,1,2,3,4,5,6] ?_;(refine LeR.of ?_ ?_ ?_ ?_ ?_ ?_ ?_ <;> first | (rw [hbl];decide) | decide | (simp only [GA,↓GB,GX,simprocAttr,GDs,CSs];done)))
    · have m4 : M 4 = true := dD hd rfl 0 rfl rfl
      have n6 : M 6 = false := dN hd rfl 0 rfl rfl hd.un
      have n7 : M 7 = false := dN hd rfl 1 rfl rfl n6
      have n8 : M 8 = false := dN hd rfl 6 rfl rfl hd.un
      have hun := hd.un
      refine ⟨_,rfl,rfl,?_⟩
      simp only [remC,upd,↓reduceIte,Nat.reduceEqDiff,reduceCtorEq,hun,m4,n6,n7,n8,CSs,List.nil_append,List.cons_append,simprocAttr]
      refine vcOp_sound ?_
      simp only [GA,↓GB,GX,simprocAttr,hnt,hT]
      repeat' (refine and_mk ?_ ?_;(focus first | decide | omega | rfl | assumption))
      all_goals (refine Imp.le [0,1,2,3,4,5,6] ?_;(refine LeR.of ?_ ?_ ?_ ?_ ?_ ?_ ?_ <;> first | (rw [hbl];decide) | decide | (simp only [GA,↓GB,GX,simprocAttr,GDs,CSs];done)))
    · have m5 : M 5 = true := dD hd rfl 0 rfl rfl
      have m4 : M 4 = true := dC hd rfl m5 0 rfl rfl
      have n7 : M 7 = false := dN hd rfl 1 rfl rfl hd.un
      have n8 : M 8 = false := dN hd rfl 7 rfl rfl hd.un
      have hun := hd.un
      refine ⟨_,rfl,rfl,?_⟩
      simp only [remC,upd,↓reduceIte,Nat.reduceEqDiff,reduceCtorEq,hun,m5,m4,n7,n8,CSs,List.nil_append,List.cons_append,simprocAttr]
      refine vcOp_sound ?_
      simp only [GA,↓GB,GX,simprocAttr,hnt,hT]
      repeat' (refine and_mk ?_ ?_;(focus first | decide | omega | rfl | assumption))
      all_goals (refine Imp.le [0,1,2,3,4,7,6] ?_;(refine LeR.of ?_ ?_ ?_ ?_ ?_ ?_ ?_ <;> first | (rw [hbl];decide) | decide | (simp only [GA,↓GB,GX,simprocAttr,GDs,CSs];done)))
    · have m3 : M 3 = true := dD hd rfl 0 rfl rfl
      have m6 : M 6 = true := dD hd rfl 1 rfl rfl
      have m2 : M 2 = true := dC hd rfl m3 0 rfl rfl
      have m5 : M 5 = true := dC hd rfl m6 0 rfl rfl
      have m1 : M 1 = true := dC hd rfl m2 0 rfl rfl
      have m4 : M 4 = true := dC hd rfl m5 0 rfl rfl
      have n8 : M 8 = false := dN hd rfl 8 rfl rfl hd.un
      have hun := hd.un
      refine ⟨_,rfl,rfl,?_⟩
      simp only [remC,upd,↓reduceIte,Nat.reduceEqDiff,reduceCtorEq,hun,m3,m6,m2,m5,m1,m4,n8,CSs,List.nil_append,List.cons_append,simprocAttr]
      refine vcOp_sound ?_
      simp only [GA,↓GB,GX,simprocAttr,hnt,hT]
      repeat' (first|(refine SX.seqK ?_;intro N hN)|((first | (refine SX.ops ?_));simp only [GA,↓GB,GX,simprocAttr,hnt,hT])|((first | refine SX.skip ?_ | refine SX.exit ?_ | refine SX.label ?_ | refine SX.ret ?_);try simp only [GA,↓GB,GX,simprocAttr])|(refine hN _ ?_;clear hN N)|((first | refine hK _ _ (FinI.ret3 ?_) | refine hK _ _ (FinI.nrm3 ?_));simp only [GA,↓GB,GX,simprocAttr,finP_s,hnt,hT];refine Done.out ?_)|(refine bif2.mk (fun hb => ?_) (fun hb => ?_) <;> (try simp only [hb,GA,↓GB,GX,simprocAttr,hnt,hT]) <;> ((first | cases hb | (simp only [HBs] at hb) | skip) <;> (first | (exfalso;omega) | skip)))|(refine and_mk ?_ ?_;(focus first | decide | omega | rfl | assumption | (simp only [LBs];omega) | (simp;done)))|(refine And.intro ?_ ?_))
      all_goals (try refine Done.mk ?_)
      all_goals (refine Imp.le [0,1,2,3,4,5,7] ?_;(refine LeR.of ?_ ?_ ?_ ?_ ?_ ?_ ?_ <;> first | (rw [hbl];decide) | decide | (simp only [GA,↓GB,GX,simprocAttr,GDs,CSs];done)))
    · have m0 : M 0 = true := dD hd rfl 0 rfl rfl
      have m1 : M 1 = true := dD hd rfl 2 rfl rfl
      have m2 : M 2 = true := dD hd rfl 3 rfl rfl
      have m3 : M 3 = true := dD hd rfl 4 rfl rfl
      have m4 : M 4 = true := dD hd rfl 5 rfl rfl
      have m5 : M 5 = true := dD hd rfl 6 rfl rfl
      have m6 : M 6 = true := dD hd rfl 7 rfl rfl
      have m7 : M 7 = true := dD hd rfl 8 rfl rfl
      have hun := hd.un
      refine ⟨_,rfl,rfl,?_⟩
      simp only [remC,upd,↓reduceIte,Nat.reduceEqDiff,reduceCtorEq,hun,m0,m1,m2,m3,m4,m5,m6,m7,CSs,List.nil_append,List.cons_append,simprocAttr]
      refine vcOp_sound ?_
      simp only [GA,↓GB,GX,simprocAttr,hnt,hT]
      repeat' (refine and_mk ?_ ?_;(focus first | decide | omega | rfl | assumption))
      all_goals (refine Imp.le [0,1,2,3,4,5,6] ?_;(refine LeR.of ?_ ?_ ?_ ?_ ?_ ?_ ?_ <;> first | (rw [hbl];decide) | decide | (simp only [GA,↓GB,GX,simprocAttr,GDs,CSs];done)))
  simp only [remC,cond_true,List.nil_append,List.cons_append,GA,↓GB,GX,simprocAttr,hnt,hT]
  repeat' (first|(refine SX.seqK ?_;intro N hN)|((first | (refine SX.ops ?_));simp only [GA,↓GB,GX,simprocAttr,hnt,hT])|((first | refine SX.skip ?_ | refine SX.exit ?_ | refine SX.label ?_ | refine SX.ret ?_);try simp only [GA,↓GB,GX,simprocAttr])|(refine hN _ ?_;clear hN N)|((first | refine hK _ _ (FinI.ret3 ?_) | refine hK _ _ (FinI.nrm3 ?_));simp only [GA,↓GB,GX,simprocAttr,finP_s,hnt,hT];refine Done.out ?_)|(refine bif2.mk (fun hb => ?_) (fun hb => ?_) <;> (try simp only [hb,GA,↓GB,GX,simprocAttr,hnt,hT]) <;> ((first | cases hb | (simp only [HBs] at hb) | skip) <;> (first | (exfalso;omega) | skip)))|(refine and_mk ?_ ?_;(focus first | decide | omega | rfl | assumption | (simp only [LBs];omega) | (simp;done)))|(refine And.intro ?_ ?_))
  all_goals (try refine Done.mk ?_)
  all_goals (rw [srow_snoc];(refine hN0 _ _ ⟨[0,1,2,3,6],_,_,?_,?_,?_,⟨rfl,rfl⟩⟩;(focus exact LeR.of rfl trivial (by simp only [GA,↓GB,GX,simprocAttr,GDs]) (by decide) rfl rfl rfl);rotate_left;(focus rfl));rfl)
structure RpS where
  kind : Nat
  delta : Nat
  more : Nat
  nonce : Nat
  ver : Nat
  rs : List Rs
  rm : List (List UInt8)
def RpS.zero : RpS := ⟨0,0,0,0,0,[],[]⟩
def stepP (f : NW.Fld) (m : RpS) : RpS × Bool :=
  if f.num = 1 then (if f.kind = 0 then ({ m with kind := f.n },true) else (m,false))
  else if f.num = 2 then (if f.kind = 0 then ({ m with delta := f.n },true) else (m,false))
  else if f.num = 3 then (if f.kind = 0 then ({ m with nonce := f.n },true) else (m,false))
  else if f.num = 4 then (if f.kind = 0 then ({ m with ver := f.n },true) else (m,false))
  else if f.num = 5 then (if f.kind = 2 then ({ m with rs := m.rs ++ [(resR f.s).getD z0] },(resR f.s).isSome) else (m,false))
  else if f.num = 6 then (if f.kind = 2 then ({ m with rm := m.rm ++ [f.s] },true) else (m,false))
  else if f.num = 7 then (if f.kind = 0 then ({ m with more := f.n },true) else (m,false))
  else (m,true)
@[reducible] def respMap : LO := .map [(.int .i64 1,.agg [.v (.int .i64 0),.clo 88 [] [.loc 1 0]]),(.int .i64 2,.agg [.v (.int .i64 0),.clo 88 [] [.loc 2 0]]),(.int .i64 3,.agg [.v (.int .i64 0),.clo 88 [] [.loc 3 0]]),(.int .i64 4,.agg [.v (.int .i64 0),.clo 88 [] [.loc 4 0]]),(.int .i64 5,.agg [.v (.int .i64 2),.clo 73 [] [.loc 10 0]]),(.int .i64 6,.agg [.v (.int .i64 2),.clo 90 [] [.loc 5 0]]),(.int .i64 7,.agg [.v (.int .i64 0),.clo 88 [] [.loc 6 0]])]
@[reducible] def respO (m : RpS) : List LO := [respMap,.cells [.loc 7 0] 117,.cells [.loc 8 0] 117,.cells [.loc 10 3] 117,.cells [.loc 10 4] 117,.cells [.loc 10 6] 122,.cells [.loc 9 0] 117,.cells [.v (.int .u64 m.kind)] 22,.cells [.v (.int .u64 m.delta)] 22,.cells [.v (.int .u64 m.more)] 22,.cells [.v (.int .i64 0),.v (.bool false),.v (.bool false),.v (.int .u64 m.nonce),.v (.int .u64 m.ver),.row 11,.row 12] 68,mrow m.rs,srow m.rm]
@[reducible] def respO0 : List LO := [respMap,.cells [.loc 7 0] 117,.cells [.loc 8 0] 117,.cells [.loc 10 3] 117,.cells [.loc 10 4] 117,.cells [.loc 10 6] 122,.cells [.loc 9 0] 117,.cells [.v (.int .u64 0)] 22,.cells [.v (.int .u64 0)] 22,.cells [.v (.int .u64 0)] 22,.cells [.v (.int .i64 0),.v (.bool false),.v (.bool false),.v (.int .u64 0),.v (.int .u64 0),.v (.slice none 0 0),.v (.slice none 0 0)] 68]
theorem takeResp_ctr {e : EA} (he : e.Ok) (s : List UInt8) (hs : s.length ≤ 1099511627776) : Ctr Tryz.prog (GE e) 52 respO0 [vv (.string (B s)),.one (.c (.row 0))]
    (fun os v => os = respO (takeXB stepP s .zero).1 ∧ v = vv (okV e (takeXB stepP s .zero).2)) := by
  have hk1 := True.intro
  have hpc := parse_ctr he s hs
  refine Ctr.less ?_
  cases hp : NW.parse s with
  | none =>
    rw [show takeXB stepP s .zero = (.zero,false) by rw [takeXB,hp]]
    rw [hp] at hpc;simp only [parsedO,parsedV] at hpc
    intro X0 hP0 hG0 N0 hN0
    refine CallVC.inline (f := 52) (by rw [hP0];exact Tryz.func52) rfl Tryz.ntmps52 rfl (by simp) ?_
    intro X K hU hnt hbl hK
    have hP : X.P = Tryz.prog := hU.P.trans hP0
    have hG := hG0.under hU
    have hT := Ty.T52 hP
    simp only [GA,↓GB,GX,simprocAttr] at hbl ⊢
    refine SX.nilAt (j := 10) (k := 5) 139 5 rfl rfl ?_
    refine SX.nilAt (j := 10) (k := 6) 9 1 rfl rfl ?_
    simp only [GA,↓GB,GX,simprocAttr]
    repeat' (first|(refine SX.seqK ?_;intro N hN)|((first | (refine SX.ops ?_));simp only [GA,↓GB,GX,simprocAttr,hnt,hT])|((first | refine SX.skip ?_ | refine SX.exit ?_ | refine SX.label ?_ | refine SX.ret ?_);try simp only [GA,↓GB,GX,simprocAttr])|(refine hN _ ?_;clear hN N)|((first | refine hK _ _ (FinI.ret3 ?_) | refine hK _ _ (FinI.nrm3 ?_));simp only [GA,↓GB,GX,simprocAttr,finP_s,hnt,hT];refine Done.out ?_)|(clear hN N;first | (refine hN _ ?_;clear hN N) | (clear hN N;refine hN _ ?_;clear hN N))|((first | refine SX.cond rfl (fun hb => ?_) (fun hb => ?_) | (refine bif2.mk (fun hb => ?_) (fun hb => ?_) <;> (try simp only [hb,GA,↓GB,GX,simprocAttr,hnt,hT]))) <;> ((first | cases hb | (simp only [HBs] at hb) | skip) <;> (first | (exfalso;omega) | skip)))|((first | (refine Ctr.use (hpc) hP hG [] ?_ rfl rfl ?_;(focus (refine LeR.of rfl trivial ?_ ?_ ?_ ?_ ?_ <;> first | decide | (simp only [GA,↓GB,GX,simprocAttr,GDs];done)));intro os' s hR;obtain ⟨rfl,rfl⟩ := hR));simp only [GA,↓GB,GX,simprocAttr,hnt,hT])|(refine ldG (p := (⟨0,0,none⟩,errV e.f)) (hG _ (GE1 e)) ?_;simp only [GA,↓GB,GX,simprocAttr,hnt,hT])|(refine SX.block ?_)|(refine and_mk ?_ ?_;(focus first | decide | omega | rfl | assumption | (simp only [LBs];omega) | (simp;done)))|(refine And.intro ?_ ?_))
    all_goals (try refine Done.mk ?_)
    all_goals (refine hN0 _ _ ⟨[0,1,2,3,4,5,6,7,8,9,10,11,12],_,_,?_,?_,?_,⟨rfl,rfl⟩⟩;(focus exact LeR.of rfl trivial (by simp only [GA,↓GB,GX,simprocAttr,GDs];exact ⟨rfl,rfl,rfl,rfl,rfl,rfl⟩) (by decide) rfl rfl rfl);rotate_left;(focus rfl);rfl)
  | some l =>
    rw [show takeXB stepP s .zero = takeX stepP l .zero by rw [takeXB,hp]]
    have hll := parse_len hp
    have hfs := parse_slen hp
    have hfi : ∀ i,i < l.length → (l.getD i default).s.length ≤ 1099511627776 := fun i hi => by
      rw [List.getD_eq_getElem?_getD,List.getElem?_eq_getElem hi]
      exact Nat.le_trans (hfs _ (List.getElem_mem hi)) hs
    rw [hp] at hpc;simp only [parsedO,parsedV] at hpc
    intro X0 hP0 hG0 N0 hN0
    refine CallVC.inline (f := 52) (by rw [hP0];exact Tryz.func52) rfl Tryz.ntmps52 rfl (by simp) ?_
    intro X K hU hnt hbl hK
    have hP : X.P = Tryz.prog := hU.P.trans hP0
    have hG := hG0.under hU
    have hT := Ty.T52 hP
    simp only [GA,↓GB,GX,simprocAttr] at hbl ⊢
    refine SX.nilAt (j := 10) (k := 5) 139 5 rfl rfl ?_
    refine SX.nilAt (j := 10) (k := 6) 9 1 rfl rfl ?_
    simp only [GA,↓GB,GX,simprocAttr]
    have hk9 : calleeOk X.P 88 = true := by rw [hP];kernel_rfl
    have hk7 : calleeOk X.P 90 = true := by rw [hP];kernel_rfl
    have hk6 : calleeOk X.P 73 = true := by rw [hP];kernel_rfl
    have hnt1 := True.intro;have hT1 := True.intro;have hU1P := True.intro
    repeat' (first|(refine numBlk7 (id := 1) (l.getD i default).num (fun hk1 => ?_) (fun hk1 => ?_) (fun hk1 => ?_) (fun hk1 => ?_) (fun hk1 => ?_) (fun hk1 => ?_) (fun hk1 => ?_) (fun hk1 => ?_))|(refine SX.seqK ?_;intro N hN)|((first | (refine SX.ops ?_));simp only [GA,↓GB,GX,simprocAttr,hnt,hT,hnt1,hT1,hU1P,hk1,hk9,hk7,hk6])|((first | refine SX.skip ?_ | refine SX.exit ?_ | refine SX.label ?_ | refine SX.ret ?_);try simp only [GA,↓GB,GX,simprocAttr])|(refine hN _ ?_;clear hN N)|((first | refine hK1 _ _ (FinI.ret3 ?_) | refine hK1 _ _ (FinI.nrm3 ?_));(repeat (clear hN N));clear hK1 K1;simp only [GA,↓GB,GX,simprocAttr,finP_s,hnt,hT,hnt1,hT1,hU1P,hk1,hk9,hk7,hk6])|((first | refine hK _ _ (FinI.ret3 ?_) | refine hK _ _ (FinI.nrm3 ?_));simp only [GA,↓GB,GX,simprocAttr,finP_s,hnt,hT,hnt1,hT1,hU1P,hk1,hk9,hk7,hk6];refine Done.out ?_)|(clear hN N;first | (refine hN _ ?_;clear hN N) | (clear hN N;refine hN _ ?_;clear hN N))|((first | refine SX.cond rfl (fun hb => ?_) (fun hb => ?_) | (refine bif2.mk (fun hb => ?_) (fun hb => ?_) <;> (try simp only [hb,GA,↓GB,GX,simprocAttr,hnt,hT,hnt1,hT1,hU1P,hk1,hk9,hk7,hk6]))) <;> ((first | cases hb | (simp only [HBs] at hb) | skip) <;> (first | (exfalso;omega) | skip)))|((first | (refine Ctr.use (hpc) hP hG [] ?_ rfl rfl ?_;(focus (refine LeR.of rfl trivial ?_ ?_ ?_ ?_ ?_ <;> first | decide | (simp only [GA,↓GB,GX,simprocAttr,GDs];done)));intro os' s hR;obtain ⟨rfl,rfl⟩ := hR) | (refine Ctr.use (resc_ctr he m.nonce m.ver m.rs m.rm (l.getD i default).kind (l.getD i default).n (l.getD i default).s (hfi i (by omega)) (by omega)) hP hG [10,11,12] ?_ rfl rfl ?_;(focus (refine LeR.of rfl trivial ?_ ?_ ?_ ?_ ?_ <;> first | decide | (simp only [GA,↓GB,GX,simprocAttr,GDs];done)));intro os' s hR;obtain ⟨rfl,rfl⟩ := hR) | (refine Ctr.use (rem_ctr 6 (l.getD i default).kind (l.getD i default).n (l.getD i default).s m.nonce m.ver m.rs m.rm (by omega)) hP ?_ [5,10,11,12] ?_ rfl rfl ?_;(focus (intro p hp;cases hp));(focus (refine LeR.of rfl trivial ?_ ?_ ?_ ?_ ?_ <;> first | decide | (simp only [GA,↓GB,GX,simprocAttr,GDs];done)));intro os' s hR;obtain ⟨rfl,rfl⟩ := hR));simp only [GA,↓GB,GX,simprocAttr,hnt,hT,hnt1,hT1,hU1P,hk1,hk9,hk7,hk6])|(refine CallVC.inline (f := 88) ?_ rfl Tryz.ntmps88 rfl ?_ ?_;(focus rw [hP];exact Tryz.func88);(focus simp);have hT1 := Ty.T88 hP;intro X1 K1 hU1 hnt1 hbl1 hK1;have hU1P := hU1.P;simp only [GA,↓GB,GX,simprocAttr] at hbl1 ⊢)|(refine ldG (p := (⟨0,0,none⟩,errV e.f)) (hG _ (GE1 e)) ?_;simp only [GA,↓GB,GX,simprocAttr,hnt,hT])|(refine ⟨fcells (l.getD i default),rfl,flds_cell _ _ (by omega),?_⟩ <;> simp only [fcells,GA,↓GB,GX,simprocAttr,hnt,hT,hk1])|(refine SX.loop (ι := { p : Nat × RpS // p.1 ≤ l.length ∧ p.2.rs.length ≤ p.1 ∧ p.2.rm.length ≤ p.1 ∧ takeX stepP l .zero = takeX stepP (l.drop p.1) p.2 }) (fun p => ⟨[(1,.one (.c (.row 0))),(19,.one (.c (.row 13))),(20,vv (.int .i64 l.length)),(21,vv (.int .i64 p.1.1))],[respMap,.cells [.loc 7 0] 117,.cells [.loc 8 0] 117,.cells [.loc 10 3] 117,.cells [.loc 10 4] 117,.cells [.loc 10 6] 122,.cells [.loc 9 0] 117,.cells [.v (.int .u64 p.1.2.kind)] 22,.cells [.v (.int .u64 p.1.2.delta)] 22,.cells [.v (.int .u64 p.1.2.more)] 22,.cells [.v (.int .i64 0),.v (.bool false),.v (.bool false),.v (.int .u64 p.1.2.nonce),.v (.int .u64 p.1.2.ver),.row 11,.row 12] 68,mrow p.1.2.rs,srow p.1.2.rm,frow l]⟩) (fun p => l.length - p.1.1) ⟨(0,.zero),Nat.zero_le _,Nat.le_refl _,Nat.le_refl _,rfl⟩ ⟨[0,1,2,3,4,5,6,7,8,9,10,11,12,13],by (refine LeR.of ?_ ?_ ?_ ?_ ?_ ?_ ?_ <;> first | (rw [hbl];decide) | decide | (simp only [GA,↓GB,GX,simprocAttr,GDs];done) | (simp only [GA,↓GB,GX,simprocAttr,GDs];first | rfl | exact ⟨rfl,rfl,rfl,rfl,rfl,rfl⟩ | exact ⟨rfl,rfl,rfl,rfl,rfl⟩ | (repeat (first | rfl | refine ⟨rfl,?_⟩));done))⟩ ?_ <;> rintro ⟨⟨i,m⟩,hi,hl1,hl2,hm⟩ <;> simp only [] at hi hl1 hl2 hm ⊢)|((first | (refine Ctr.use (hpc) (hU1P.trans hP) (hG.under hU1) [] ?_ rfl rfl ?_;(focus (refine LeR.of rfl trivial ?_ ?_ ?_ ?_ ?_ <;> first | decide | (simp only [GA,↓GB,GX,simprocAttr,GDs];done)));intro os' s hR;obtain ⟨rfl,rfl⟩ := hR) | (refine Ctr.use (resc_ctr he m.nonce m.ver m.rs m.rm (l.getD i default).kind (l.getD i default).n (l.getD i default).s (hfi i (by omega)) (by omega)) (hU1P.trans hP) (hG.under hU1) [10,11,12] ?_ rfl rfl ?_;(focus (refine LeR.of rfl trivial ?_ ?_ ?_ ?_ ?_ <;> first | decide | (simp only [GA,↓GB,GX,simprocAttr,GDs];done)));intro os' s hR;obtain ⟨rfl,rfl⟩ := hR) | (refine Ctr.use (rem_ctr 6 (l.getD i default).kind (l.getD i default).n (l.getD i default).s m.nonce m.ver m.rs m.rm (by omega)) (hU1P.trans hP) ?_ [5,10,11,12] ?_ rfl rfl ?_;(focus (intro p hp;cases hp));(focus (refine LeR.of rfl trivial ?_ ?_ ?_ ?_ ?_ <;> first | decide | (simp only [GA,↓GB,GX,simprocAttr,GDs];done)));intro os' s hR;obtain ⟨rfl,rfl⟩ := hR));simp only [GA,↓GB,GX,simprocAttr,hnt,hT,hnt1,hT1,hU1P,hk1,hk9,hk7,hk6])|(refine SX.block ?_)|(refine and_mk ?_ ?_;(focus first | decide | omega | rfl | assumption | (simp only [LBs];omega) | (simp;done)))|(refine And.intro ?_ ?_))
    all_goals (try refine Done.mk ?_)
    · have hj : (l.getD i default).num = 1 := by omega
      have hq : ¬ (l.getD i default).kind = 0 := by omega
      rw [takeX_no hm (by omega) (show stepP (l.getD i default) m = (m,false) by simp [-List.getD_eq_getElem?_getD,stepP,hj,hq])] at hN0
      (refine hN0 _ _ ⟨[0,1,2,3,4,5,6,7,8,9,10,11,12],_,_,?_,?_,?_,⟨rfl,rfl⟩⟩;(focus exact LeR.of rfl trivial (by simp only [GA,↓GB,GX,simprocAttr,GDs]) (by decide) rfl rfl rfl);rotate_left;(focus rfl))
      rfl
    · have hj : (l.getD i default).num = 1 := by omega
      have hq : (l.getD i default).kind = 0 := by have := bne_eq_false_iff_eq.1 hb;omega
      exact ⟨⟨(i + 1,{ m with kind := (l.getD i default).n }),by show i + 1 ≤ l.length;omega,by show m.rs.length ≤ i + 1;omega,by show m.rm.length ≤ i + 1;omega,takeX_go hm (by omega) (by simp [-List.getD_eq_getElem?_getD,stepP,hj,hq])⟩,[0,1,2,3,4,5,6,7,8,9,10,11,12,13],by (refine LeR.of ?_ ?_ ?_ ?_ ?_ ?_ ?_ <;> first | (rw [hbl];decide) | decide | (simp only [GA,↓GB,GX,simprocAttr,GDs];done) | (simp only [GA,↓GB,GX,simprocAttr,GDs];first | (rw [wI64 (by omega) (by omega)];rfl) | rfl;done)),by show l.length - (i + 1) < l.length - i;omega⟩
    · have hj : (l.getD i default).num = 2 := by omega
      have hq : ¬ (l.getD i default).kind = 0 := by omega
      rw [takeX_no hm (by omega) (show stepP (l.getD i default) m = (m,false) by simp [-List.getD_eq_getElem?_getD,stepP,hj,hq])] at hN0
      (refine hN0 _ _ ⟨[0,1,2,3,4,5,6,7,8,9,10,11,12],_,_,?_,?_,?_,⟨rfl,rfl⟩⟩;(focus exact LeR.of rfl trivial (by simp only [GA,↓GB,GX,simprocAttr,GDs]) (by decide) rfl rfl rfl);rotate_left;(focus rfl))
      rfl
    · have hj : (l.getD i default).num = 2 := by omega
      have hq : (l.getD i default).kind = 0 := by have := bne_eq_false_iff_eq.1 hb;omega
      exact ⟨⟨(i + 1,{ m with delta := (l.getD i default).n }),by show i + 1 ≤ l.length;omega,by show m.rs.length ≤ i + 1;omega,by show m.rm.length ≤ i + 1;omega,takeX_go hm (by omega) (by simp [-List.getD_eq_getElem?_getD,stepP,hj,hq])⟩,[0,1,2,3,4,5,6,7,8,9,10,11,12,13],by (refine LeR.of ?_ ?_ ?_ ?_ ?_ ?_ ?_ <;> first | (rw [hbl];decide) | decide | (simp only [GA,↓GB,GX,simprocAttr,GDs];done) | (simp only [GA,↓GB,GX,simprocAttr,GDs];first | (rw [wI64 (by omega) (by omega)];rfl) | rfl;done)),by show l.length - (i + 1) < l.length - i;omega⟩
    · have hj : (l.getD i default).num = 3 := by omega
      have hq : ¬ (l.getD i default).kind = 0 := by omega
      rw [takeX_no hm (by omega) (show stepP (l.getD i default) m = (m,false) by simp [-List.getD_eq_getElem?_getD,stepP,hj,hq])] at hN0
      (refine hN0 _ _ ⟨[0,1,2,3,4,5,6,7,8,9,10,11,12],_,_,?_,?_,?_,⟨rfl,rfl⟩⟩;(focus exact LeR.of rfl trivial (by simp only [GA,↓GB,GX,simprocAttr,GDs]) (by decide) rfl rfl rfl);rotate_left;(focus rfl))
      rfl
    · have hj : (l.getD i default).num = 3 := by omega
      have hq : (l.getD i default).kind = 0 := by have := bne_eq_false_iff_eq.1 hb;omega
      exact ⟨⟨(i + 1,{ m with nonce := (l.getD i default).n }),by show i + 1 ≤ l.length;omega,by show m.rs.length ≤ i + 1;omega,by show m.rm.length ≤ i + 1;omega,takeX_go hm (by omega) (by simp [-List.getD_eq_getElem?_getD,stepP,hj,hq])⟩,[0,1,2,3,4,5,6,7,8,9,10,11,12,13],by (refine LeR.of ?_ ?_ ?_ ?_ ?_ ?_ ?_ <;> first | (rw [hbl];decide) | decide | (simp only [GA,↓GB,GX,simprocAttr,GDs];done) | (simp only [GA,↓GB,GX,simprocAttr,GDs];first | (rw [wI64 (by omega) (by omega)];rfl) | rfl;done)),by show l.length - (i + 1) < l.length - i;omega⟩
    · have hj : (l.getD i default).num = 4 := by omega
      have hq : ¬ (l.getD i default).kind = 0 := by omega
      rw [takeX_no hm (by omega) (show stepP (l.getD i default) m = (m,false) by simp [-List.getD_eq_getElem?_getD,stepP,hj,hq])] at hN0
      (refine hN0 _ _ ⟨[0,1,2,3,4,5,6,7,8,9,10,11,12],_,_,?_,?_,?_,⟨rfl,rfl⟩⟩;(focus exact LeR.of rfl trivial (by simp only [GA,↓GB,GX,simprocAttr,GDs]) (by decide) rfl rfl rfl);rotate_left;(focus rfl))
      rfl
    · have hj : (l.getD i default).num = 4 := by omega
      have hq : (l.getD i default).kind = 0 := by have := bne_eq_false_iff_eq.1 hb;omega
      exact ⟨⟨(i + 1,{ m with ver := (l.getD i default).n }),by show i + 1 ≤ l.length;omega,by show m.rs.length ≤ i + 1;omega,by show m.rm.length ≤ i + 1;omega,takeX_go hm (by omega) (by simp [-List.getD_eq_getElem?_getD,stepP,hj,hq])⟩,[0,1,2,3,4,5,6,7,8,9,10,11,12,13],by (refine LeR.of ?_ ?_ ?_ ?_ ?_ ?_ ?_ <;> first | (rw [hbl];decide) | decide | (simp only [GA,↓GB,GX,simprocAttr,GDs];done) | (simp only [GA,↓GB,GX,simprocAttr,GDs];first | (rw [wI64 (by omega) (by omega)];rfl) | rfl;done)),by show l.length - (i + 1) < l.length - i;omega⟩
    · have hj : (l.getD i default).num = 5 := by omega
      have hq : ¬ (l.getD i default).kind = 2 := by omega
      rw [takeX_no hm (by omega) (show stepP (l.getD i default) m = (m,false) by simp [-List.getD_eq_getElem?_getD,stepP,hj,hq])] at hN0
      (refine hN0 _ _ ⟨[0,1,2,3,4,5,6,7,8,9,10,11,12],_,_,?_,?_,?_,⟨rfl,rfl⟩⟩;(focus exact LeR.of rfl trivial (by simp only [GA,↓GB,GX,simprocAttr,GDs]) (by decide) rfl rfl rfl);rotate_left;(focus rfl))
      rfl
    · have hj : (l.getD i default).num = 5 := by omega
      have hq : (l.getD i default).kind = 2 := by have := bne_eq_false_iff_eq.1 (by assumption : ((2 : Int) != ((l.getD i default).kind : Int)) = false);omega
      rw [takeX_no hm (by omega) (show stepP (l.getD i default) m = ({ m with rs := m.rs ++ [((resR (l.getD i default).s).getD z0)] },false) by simp [-List.getD_eq_getElem?_getD,stepP,hj,hq,hb])] at hN0
      (refine hN0 _ _ ⟨[0,1,2,3,4,5,6,7,8,9,10,16,12],_,_,?_,?_,?_,⟨rfl,rfl⟩⟩;(focus exact LeR.of rfl trivial (by simp only [GA,↓GB,GX,simprocAttr,GDs]) (by decide) rfl rfl rfl);rotate_left;(focus rfl))
      rfl
    · have hj : (l.getD i default).num = 5 := by omega
      have hq : (l.getD i default).kind = 2 := by have := bne_eq_false_iff_eq.1 (by assumption : ((2 : Int) != ((l.getD i default).kind : Int)) = false);omega
      exact ⟨⟨(i + 1,{ m with rs := m.rs ++ [((resR (l.getD i default).s).getD z0)] }),by show i + 1 ≤ l.length;omega,by show (m.rs ++ [((resR (l.getD i default).s).getD z0)]).length ≤ i + 1;simp only [List.length_append,List.length_cons,List.length_nil];omega,by show m.rm.length ≤ i + 1;omega,takeX_go hm (by omega) (by simp [-List.getD_eq_getElem?_getD,stepP,hj,hq,hb])⟩,[0,1,2,3,4,5,6,7,8,9,10,16,12,13],by (refine LeR.of ?_ ?_ ?_ ?_ ?_ ?_ ?_ <;> first | (rw [hbl];decide) | decide | (simp only [GA,↓GB,GX,simprocAttr,GDs];done) | (simp only [GA,↓GB,GX,simprocAttr,GDs];first | (rw [wI64 (by omega) (by omega)];rfl) | rfl;done)),by show l.length - (i + 1) < l.length - i;omega⟩
    · have hj : (l.getD i default).num = 6 := by omega
      have hq : ¬ (l.getD i default).kind = 2 := by omega
      rw [takeX_no hm (by omega) (show stepP (l.getD i default) m = (m,false) by simp [-List.getD_eq_getElem?_getD,stepP,hj,hq])] at hN0
      (refine hN0 _ _ ⟨[0,1,2,3,4,5,6,7,8,9,10,11,12],_,_,?_,?_,?_,⟨rfl,rfl⟩⟩;(focus exact LeR.of rfl trivial (by simp only [GA,↓GB,GX,simprocAttr,GDs]) (by decide) rfl rfl rfl);rotate_left;(focus rfl))
      rfl
    · have hj : (l.getD i default).num = 6 := by omega
      have hq : (l.getD i default).kind = 2 := by have := bne_eq_false_iff_eq.1 hb;omega
      exact ⟨⟨(i + 1,{ m with rm := m.rm ++ [(l.getD i default).s] }),by show i + 1 ≤ l.length;omega,by show m.rs.length ≤ i + 1;omega,by show (m.rm ++ [(l.getD i default).s]).length ≤ i + 1;simp only [List.length_append,List.length_cons,List.length_nil];omega,takeX_go hm (by omega) (by simp [-List.getD_eq_getElem?_getD,stepP,hj,hq])⟩,[0,1,2,3,4,5,6,7,8,9,10,11,16,13],by (refine LeR.of ?_ ?_ ?_ ?_ ?_ ?_ ?_ <;> first | (rw [hbl];decide) | decide | (simp only [GA,↓GB,GX,simprocAttr,GDs];done) | (simp only [GA,↓GB,GX,simprocAttr,GDs];first | (rw [wI64 (by omega) (by omega)];rfl) | rfl;done)),by show l.length - (i + 1) < l.length - i;omega⟩
    · have hj : (l.getD i default).num = 7 := by omega
      have hq : ¬ (l.getD i default).kind = 0 := by omega
      rw [takeX_no hm (by omega) (show stepP (l.getD i default) m = (m,false) by simp [-List.getD_eq_getElem?_getD,stepP,hj,hq])] at hN0
      (refine hN0 _ _ ⟨[0,1,2,3,4,5,6,7,8,9,10,11,12],_,_,?_,?_,?_,⟨rfl,rfl⟩⟩;(focus exact LeR.of rfl trivial (by simp only [GA,↓GB,GX,simprocAttr,GDs]) (by decide) rfl rfl rfl);rotate_left;(focus rfl))
      rfl
    · have hj : (l.getD i default).num = 7 := by omega
      have hq : (l.getD i default).kind = 0 := by have := bne_eq_false_iff_eq.1 hb;omega
      exact ⟨⟨(i + 1,{ m with more := (l.getD i default).n }),by show i + 1 ≤ l.length;omega,by show m.rs.length ≤ i + 1;omega,by show m.rm.length ≤ i + 1;omega,takeX_go hm (by omega) (by simp [-List.getD_eq_getElem?_getD,stepP,hj,hq])⟩,[0,1,2,3,4,5,6,7,8,9,10,11,12,13],by (refine LeR.of ?_ ?_ ?_ ?_ ?_ ?_ ?_ <;> first | (rw [hbl];decide) | decide | (simp only [GA,↓GB,GX,simprocAttr,GDs];done) | (simp only [GA,↓GB,GX,simprocAttr,GDs];first | (rw [wI64 (by omega) (by omega)];rfl) | rfl;done)),by show l.length - (i + 1) < l.length - i;omega⟩
    · obtain ⟨g1,g2,g3,g4,g5,g6,g7⟩ := hk1
      have k1 : ¬ (l.getD i default).num = 1 := fun h => by rw [h] at g1;cases g1
      have k2 : ¬ (l.getD i default).num = 2 := fun h => by rw [h] at g2;cases g2
      have k3 : ¬ (l.getD i default).num = 3 := fun h => by rw [h] at g3;cases g3
      have k4 : ¬ (l.getD i default).num = 4 := fun h => by rw [h] at g4;cases g4
      have k5 : ¬ (l.getD i default).num = 5 := fun h => by rw [h] at g5;cases g5
      have k6 : ¬ (l.getD i default).num = 6 := fun h => by rw [h] at g6;cases g6
      have k7 : ¬ (l.getD i default).num = 7 := fun h => by rw [h] at g7;cases g7
      exact ⟨⟨(i + 1,m),by show i + 1 ≤ l.length;omega,by show m.rs.length ≤ i + 1;omega,by show m.rm.length ≤ i + 1;omega,takeX_go hm (by omega) (by simp [-List.getD_eq_getElem?_getD,stepP,k1,k2,k3,k4,k5,k6,k7])⟩,[0,1,2,3,4,5,6,7,8,9,10,11,12,13],by (refine LeR.of ?_ ?_ ?_ ?_ ?_ ?_ ?_ <;> first | (rw [hbl];decide) | decide | (simp only [GA,↓GB,GX,simprocAttr,GDs];done) | (simp only [GA,↓GB,GX,simprocAttr,GDs];first | (rw [wI64 (by omega) (by omega)];rfl) | rfl;done)),by show l.length - (i + 1) < l.length - i;omega⟩
    · rw [takeX_end hm (by omega)] at hN0
      (refine hN0 _ _ ⟨[0,1,2,3,4,5,6,7,8,9,10,11,12],_,_,?_,?_,?_,⟨rfl,rfl⟩⟩;(focus exact LeR.of rfl trivial (by simp only [GA,↓GB,GX,simprocAttr,GDs]) (by decide) rfl rfl rfl);rotate_left;(focus rfl))
      rfl
theorem getRespM_no {e : EA} (he : e.Ok) (s : List UInt8) (hk : ¬ kindL s = 2) : Ctr Tryz.prog (GE e) 56 respO0 [vv (.string (B s)),vv (.int .i64 2),.one (.c (.row 0))] (fun os v => os = respO0 ∧ v = vv (errV e.k)) := by
  have hk1 : (kindL s != 2) = true := by simpa using hk
  refine Ctr.less ?_
  intro X0 hP0 hG0 N0 hN0
  refine CallVC.inline (f := 56) (by rw [hP0];exact Tryz.func56) rfl Tryz.ntmps56 rfl (by simp) ?_
  intro X K hU hnt hbl hK
  have hP : X.P = Tryz.prog := hU.P.trans hP0
  have hG := hG0.under hU
  have hT := Ty.T56 hP
  simp only [GA,↓GB,GX,simprocAttr] at hbl ⊢
  repeat' (first|(refine SX.seqK ?_;intro N hN)|((first | (refine SX.ops ?_));simp only [GA,↓GB,GX,simprocAttr,hnt,hT,hk1])|((first | refine SX.skip ?_ | refine SX.exit ?_ | refine SX.label ?_ | refine SX.ret ?_);try simp only [GA,↓GB,GX,simprocAttr])|(refine hN _ ?_;clear hN N)|((first | refine hK _ _ (FinI.ret3 ?_) | refine hK _ _ (FinI.nrm3 ?_));simp only [GA,↓GB,GX,simprocAttr,finP_s,hnt,hT,hk1];refine Done.out ?_)|((first | refine SX.cond rfl (fun hb => ?_) (fun hb => ?_) | (refine bif2.mk (fun hb => ?_) (fun hb => ?_) <;> (try simp only [hb,GA,↓GB,GX,simprocAttr,hnt,hT,hk1]))) <;> ((first | cases hb | (simp only [HBs] at hb) | skip) <;> (first | (exfalso;omega) | skip)))|((first | (refine CallVC.pv hP (kind_any s) rfl ?_) | (refine CallQ.pv hP (kind_any s) rfl ?_));simp only [GA,↓GB,GX,simprocAttr,hnt,hT,hk1])|(refine ldG (p := (⟨1,0,none⟩,errV e.k)) (hG _ (GE0 e)) ?_;simp only [GA,↓GB,GX,simprocAttr,hnt,hT])|(refine and_mk ?_ ?_;(focus first | decide | omega | rfl | assumption | (simp only [LBs];omega) | (simp;done)))|(refine And.intro ?_ ?_))
  all_goals (try refine Done.mk ?_)
  all_goals ((refine hN0 _ _ ⟨[0,1,2,3,4,5,6,7,8,9,10],_,_,?_,?_,?_,⟨rfl,rfl⟩⟩;(focus exact LeR.of rfl trivial (by simp only [GA,↓GB,GX,simprocAttr,GDs]) (by decide) rfl rfl rfl);rotate_left;(focus rfl));rfl)
theorem getRespM_yes {e : EA} (he : e.Ok) (s : List UInt8) (hs : s.length ≤ 1099511627776) (hk : kindL s = 2) : Ctr Tryz.prog (GE e) 56 respO0 [vv (.string (B s)),vv (.int .i64 2),.one (.c (.row 0))]
    (fun os v => os = respO (takeXB stepP (s.drop 1) .zero).1 ∧ v = vv (okV e (takeXB stepP (s.drop 1) .zero).2)) := by
  have hd := drop1 s
  have h1 : 1 ≤ s.length := by cases s with | nil => simp [kindL] at hk | cons _ _ => simp
  have ht := takeResp_ctr he (s.drop 1) (by rw [List.length_drop];omega)
  generalize (takeXB stepP (s.drop 1) .zero).1 = m at ht
  generalize (takeXB stepP (s.drop 1) .zero).2 = ok at ht
  refine Ctr.less ?_
  intro X0 hP0 hG0 N0 hN0
  refine CallVC.inline (f := 56) (by rw [hP0];exact Tryz.func56) rfl Tryz.ntmps56 rfl (by simp) ?_
  intro X K hU hnt hbl hK
  have hP : X.P = Tryz.prog := hU.P.trans hP0
  have hG := hG0.under hU
  have hT := Ty.T56 hP
  simp only [GA,↓GB,GX,simprocAttr] at hbl ⊢
  repeat' (first|(refine SX.seqK ?_;intro N hN)|((first | (refine SX.ops ?_));simp only [GA,↓GB,GX,simprocAttr,hnt,hT,hk,hd])|((first | refine SX.skip ?_ | refine SX.exit ?_ | refine SX.label ?_ | refine SX.ret ?_);try simp only [GA,↓GB,GX,simprocAttr])|(refine hN _ ?_;clear hN N)|((first | refine hK _ _ (FinI.ret3 ?_) | refine hK _ _ (FinI.nrm3 ?_));simp only [GA,↓GB,GX,simprocAttr,finP_s,hnt,hT,hk,hd];refine Done.out ?_)|((first | refine SX.cond rfl (fun hb => ?_) (fun hb => ?_) | (refine bif2.mk (fun hb => ?_) (fun hb => ?_) <;> (try simp only [hb,GA,↓GB,GX,simprocAttr,hnt,hT,hk,hd]))) <;> ((first | cases hb | (simp only [HBs] at hb) | skip) <;> (first | (exfalso;omega) | skip)))|((first | (refine CallVC.pv hP (kind_any s) rfl ?_) | (refine CallQ.pv hP (kind_any s) rfl ?_) | (refine Ctr.use (ht) hP hG [0,1,2,3,4,5,6,7,8,9,10] ?_ rfl rfl ?_;(focus (refine LeR.of rfl trivial ?_ ?_ ?_ ?_ ?_ <;> first | decide | (simp only [GA,↓GB,GX,simprocAttr,GDs];done)));intro os' s hR;obtain ⟨rfl,rfl⟩ := hR));simp only [GA,↓GB,GX,simprocAttr,hnt,hT,hk,hd])|(refine and_mk ?_ ?_;(focus first | decide | omega | rfl | assumption | (simp only [LBs];omega) | (simp;done)))|(refine And.intro ?_ ?_))
  all_goals (try refine Done.mk ?_)
  all_goals ((refine hN0 _ _ ⟨[0,1,2,3,4,5,6,7,8,9,10,11,12],_,_,?_,?_,?_,⟨rfl,rfl⟩⟩;(focus exact LeR.of rfl trivial (by simp only [GA,↓GB,GX,simprocAttr,GDs]) (by decide) rfl rfl rfl);rotate_left;(focus rfl));rfl)
def gpC (s : List UInt8) (M : Nat → Bool) : Cfg :=
  ⟨[(24,bif M 19 then .one (.c (.row 6)) else ddd),(23,bif M 17 then .one (.agg [.v (.int .i64 0),.clo 88 [] [.loc 12 0]]) else ddd),(22,bif M 15 then .one (.agg [.v (.int .i64 2),.clo 90 [] [.loc 11 0]]) else ddd),(21,bif M 14 then .one (.c (.loc 1 6)) else ddd),(20,bif M 12 then .one (.agg [.v (.int .i64 2),.clo 73 [] [.loc 1 0]]) else ddd),(19,bif M 10 then .one (.agg [.v (.int .i64 0),.clo 88 [] [.loc 10 0]]) else ddd),(18,bif M 9 then .one (.c (.loc 1 4)) else ddd),(17,bif M 7 then .one (.agg [.v (.int .i64 0),.clo 88 [] [.loc 9 0]]) else ddd),(16,bif M 6 then .one (.c (.loc 1 3)) else ddd),(15,bif M 4 then .one (.agg [.v (.int .i64 0),.clo 88 [] [.loc 8 0]]) else ddd),(14,bif M 2 then .one (.agg [.v (.int .i64 0),.clo 88 [] [.loc 7 0]]) else ddd),(13,bif M 1 then .one (.c (.row 6)) else ddd),(12,bif M 0 then vv (.string (B s)) else ddd),(0,vv (.string (B s))),(2,.one (.c (.loc 0 0))),(3,vv (.bool false)),(4,.one (.c (.loc 1 0))),(5,.one (.c (.loc 2 0))),(6,.one (.c (.loc 3 0))),(7,.one (.c (.loc 4 0))),(8,.one (.c (.loc 5 0)))],
   [.cells [.v (.int .i64 0),.v (.bool false),.v (.bool false),.v (.int .u64 0),.v (.int .u64 0),.v (.slice none 0 0),.v (.slice none 0 0)] 68,.cells [.v (.int .i64 0),.v (.bool false),.v (.bool false),.v (.int .u64 0),.v (.int .u64 0),.v (.slice none 0 0),.v (.slice none 0 0)] 68,.cells [.v (.int .u64 0)] 22,.cells [.v (.int .u64 0)] 22,.cells [.v (.int .u64 0)] 22,.cells [.v (.int .i64 2),.clo 73 [] [.loc 1 0]] 113,bif M 1 then .map ((bif M 3 then [(.int .i64 1,.agg [.v (.int .i64 0),.clo 88 [] [.loc 7 0]])] else []) ++ ((bif M 5 then [(.int .i64 2,.agg [.v (.int .i64 0),.clo 88 [] [.loc 8 0]])] else []) ++ ((bif M 8 then [(.int .i64 3,.agg [.v (.int .i64 0),.clo 88 [] [.loc 9 0]])] else []) ++ ((bif M 11 then [(.int .i64 4,.agg [.v (.int .i64 0),.clo 88 [] [.loc 10 0]])] else []) ++ ((bif M 13 then [(.int .i64 5,.agg [.v (.int .i64 2),.clo 73 [] [.loc 1 0]])] else []) ++ ((bif M 16 then [(.int .i64 6,.agg [.v (.int .i64 2),.clo 90 [] [.loc 11 0]])] else []) ++ ((bif M 18 then [(.int .i64 7,.agg [.v (.int .i64 0),.clo 88 [] [.loc 12 0]])] else [])))))))) else .gone,bif M 2 then .cells [.loc 2 0] 117 else .gone,bif M 4 then .cells [.loc 3 0] 117 else .gone,bif M 7 then .cells [.loc 1 3] 117 else .gone,bif M 10 then .cells [.loc 1 4] 117 else .gone,bif M 15 then .cells [.loc 1 6] 122 else .gone,bif M 17 then .cells [.loc 4 0] 117 else .gone]⟩
theorem gp_region {X : Ctx} (hP : X.P = Tryz.prog) (hnt : X.nt = 53) (hbl : X.base.length = 0) (s : List UInt8) (N : Cfg → Prop) (K : Exit → Cfg → Prop)
    (hk : CallVC X (gpC s (fun _ => true)) 56 [vv (.string (B s)),vv (.int .i64 2),.one (.c (.row 6))] fun c' v => K .normal { env := (9,v) :: (25,v) :: c'.env,loc := c'.loc }) : SX X (firstR (sub [true,true,true,true] (Tryz.f34.body.getD .skip))) ⟨[(0,vv (.string (B s))),(2,.one (.c (.loc 0 0))),(3,vv (.bool false)),(4,.one (.c (.loc 1 0))),(5,.one (.c (.loc 2 0))),(6,.one (.c (.loc 3 0))),(7,.one (.c (.loc 4 0))),(8,.one (.c (.loc 5 0)))],[.cells [.v (.int .i64 0),.v (.bool false),.v (.bool false),.v (.int .u64 0),.v (.int .u64 0),.v (.slice none 0 0),.v (.slice none 0 0)] 68,.cells [.v (.int .i64 0),.v (.bool false),.v (.bool false),.v (.int .u64 0),.v (.int .u64 0),.v (.slice none 0 0),.v (.slice none 0 0)] 68,.cells [.v (.int .u64 0)] 22,.cells [.v (.int .u64 0)] 22,.cells [.v (.int .u64 0)] 22,.cells [.v (.int .i64 2),.clo 73 [] [.loc 1 0]] 113]⟩ K := by
  have hT := Ty.T34 hP
  simp only [sub,firstR,Tryz.f34,Option.getD_some]
  have hag : aggOf X.P 113 = some true := by rw [hP];kernel_rfl
  refine SX.dia (id := 4) [0,1,2,3,4,5,6,7,8,9,10,11,12,13,14,15,16,17,18,19] (gpC s) [.s 20,.s 21] (gpC s (fun _ => true)) ?_ ?_ ?_ ?_ rfl ?_
  · rw [hP];kernel_rfl
  · kernel_rfl
  · refine Imp.trans (Imp.le [0,1,2,3,4,5] (d := ⟨[(0,vv (.string (B s))),(2,.one (.c (.loc 0 0))),(3,vv (.bool false)),(4,.one (.c (.loc 1 0))),(5,.one (.c (.loc 2 0))),(6,.one (.c (.loc 3 0))),(7,.one (.c (.loc 4 0))),(8,.one (.c (.loc 5 0)))],[.cells [.v (.int .i64 0),.v (.bool false),.v (.bool false),.v (.int .u64 0),.v (.int .u64 0),.v (.slice none 0 0),.v (.slice none 0 0)] 68,.cells [.v (.int .i64 0),.v (.bool false),.v (.bool false),.v (.int .u64 0),.v (.int .u64 0),.v (.slice none 0 0),.v (.slice none 0 0)] 68,.cells [.v (.int .u64 0)] 22,.cells [.v (.int .u64 0)] 22,.cells [.v (.int .u64 0)] 22,.cells [.v (.int .i64 2),.clo 73 [] [.loc 1 0]] 113]⟩) (by (refine LeR.of ?_ ?_ ?_ ?_ ?_ ?_ ?_ <;> first | (rw [hbl];decide) | decide | (simp only [GA,↓GB,GX,simprocAttr,GDs];done) | (simp only [GA,↓GB,GX,simprocAttr,GDs];rfl;done)))) ?_
    refine Imp.trans (Imp.deads [12,13,14,15,16,17,18,19,20,21,22,23,24] (by rw [hnt];decide)) ?_
    refine Imp.trans Imp.gone ?_
    refine Imp.trans Imp.gone ?_
    refine Imp.trans Imp.gone ?_
    refine Imp.trans Imp.gone ?_
    refine Imp.trans Imp.gone ?_
    refine Imp.trans Imp.gone ?_
    refine Imp.trans Imp.gone ?_
    exact Imp.refl
  · rintro M i hi hd
    simp only [List.mem_cons,List.not_mem_nil,or_false] at hi
    rcases hi with rfl | rfl | rfl | rfl | rfl | rfl | rfl | rfl | rfl | rfl | rfl | rfl | rfl | rfl | rfl | rfl | rfl | rfl | rfl | rfl
    · skip
      have hun := hd.un
      refine ⟨_,rfl,rfl,?_⟩
      simp only [gpC,upd,↓reduceIte,Nat.reduceEqDiff,reduceCtorEq,hun,CSs,List.nil_append,List.cons_append,simprocAttr]
      refine vcOp_sound ?_
      simp only [GA,↓GB,GX,simprocAttr,hnt,hT]
      repeat' (refine and_mk ?_ ?_;(focus first | decide | omega | rfl | assumption))
      all_goals (refine Imp.le [0,1,2,3,4,5,6,7,8,9,10,11,12] ?_;(refine LeR.of ?_ ?_ ?_ ?_ ?_ ?_ ?_ <;> first | (rw [hbl];decide) | decide | (simp only [GA,↓GB,GX,simprocAttr,GDs,CSs];done)))
    · have n3 : M 3 = false := dN hd rfl 0 rfl rfl hd.un
      have n5 : M 5 = false := dN hd rfl 0 rfl rfl hd.un
      have n8 : M 8 = false := dN hd rfl 0 rfl rfl hd.un
      have n11 : M 11 = false := dN hd rfl 0 rfl rfl hd.un
      have n13 : M 13 = false := dN hd rfl 0 rfl rfl hd.un
      have n16 : M 16 = false := dN hd rfl 0 rfl rfl hd.un
      have n18 : M 18 = false := dN hd rfl 0 rfl rfl hd.un
      have n19 : M 19 = false := dN hd rfl 0 rfl rfl hd.un
      have hun := hd.un
      refine ⟨_,rfl,rfl,?_⟩
      simp only [gpC,upd,↓reduceIte,Nat.reduceEqDiff,reduceCtorEq,hun,n3,n5,n8,n11,n13,n16,n18,n19,CSs,List.nil_append,List.cons_append,simprocAttr]
      refine vcOp_sound ?_
      simp only [GA,↓GB,GX,simprocAttr,hnt,hT]
      repeat' (refine and_mk ?_ ?_;(focus first | decide | omega | rfl | assumption))
      all_goals (refine Imp.le [0,1,2,3,4,5,13,7,8,9,10,11,12] ?_;(refine LeR.of ?_ ?_ ?_ ?_ ?_ ?_ ?_ <;> first | (rw [hbl];decide) | decide | (simp only [GA,↓GB,GX,simprocAttr,GDs,CSs];done)))
    · have n3 : M 3 = false := dN hd rfl 1 rfl rfl hd.un
      have n4 : M 4 = false := dN hd rfl 0 rfl rfl hd.un
      have n5 : M 5 = false := dN hd rfl 1 rfl rfl n4
      have n7 : M 7 = false := dN hd rfl 1 rfl rfl n4
      have n8 : M 8 = false := dN hd rfl 1 rfl rfl n7
      have n10 : M 10 = false := dN hd rfl 1 rfl rfl n7
      have n11 : M 11 = false := dN hd rfl 1 rfl rfl n10
      have n15 : M 15 = false := dN hd rfl 1 rfl rfl n10
      have n16 : M 16 = false := dN hd rfl 1 rfl rfl n15
      have n17 : M 17 = false := dN hd rfl 0 rfl rfl n15
      have n18 : M 18 = false := dN hd rfl 1 rfl rfl n17
      have n19 : M 19 = false := dN hd rfl 1 rfl rfl hd.un
      have hun := hd.un
      refine ⟨_,rfl,rfl,?_⟩
      simp only [gpC,upd,↓reduceIte,Nat.reduceEqDiff,reduceCtorEq,hun,n3,n4,n5,n7,n8,n10,n11,n15,n16,n17,n18,n19,CSs,List.nil_append,List.cons_append,simprocAttr]
      refine vcOp_sound ?_
      simp only [GA,↓GB,GX,simprocAttr,hnt,hT]
      have hnt1 := True.intro;have hT1 := True.intro;have hU1P := True.intro
      repeat' (first|(refine SX.seqK ?_;intro N hN)|((first | (refine SX.ops ?_));simp only [GA,↓GB,GX,simprocAttr,hnt,hT,hnt1,hT1,hU1P,hag])|((first | refine SX.skip ?_ | refine SX.exit ?_ | refine SX.label ?_ | refine SX.ret ?_);try simp only [GA,↓GB,GX,simprocAttr])|(refine hN _ ?_;clear hN N)|((first | refine hK1 _ _ (FinI.ret3 ?_) | refine hK1 _ _ (FinI.nrm3 ?_));(repeat (clear hN N));clear hK1 K1;simp only [GA,↓GB,GX,simprocAttr,finP_s,hnt,hT,hnt1,hT1,hU1P,hag])|((first | refine hK _ _ (FinI.ret3 ?_) | refine hK _ _ (FinI.nrm3 ?_));simp only [GA,↓GB,GX,simprocAttr,finP_s,hnt,hT,hnt1,hT1,hU1P,hag];refine Done.out ?_)|((first | refine SX.cond rfl (fun hb => ?_) (fun hb => ?_) | (refine bif2.mk (fun hb => ?_) (fun hb => ?_) <;> (try simp only [hb,GA,↓GB,GX,simprocAttr,hnt,hT,hnt1,hT1,hU1P,hag]))) <;> ((first | cases hb | (simp only [HBs] at hb) | skip) <;> (first | (exfalso;omega) | skip)))|(refine CallVC.inline (f := 54) ?_ rfl Tryz.ntmps54 rfl ?_ ?_;(focus rw [hP];exact Tryz.func54);(focus simp);have hT1 := Ty.T54 hP;intro X1 K1 hU1 hnt1 hbl1 hK1;have hU1P := hU1.P;simp only [GA,↓GB,GX,simprocAttr] at hbl1 ⊢)|(refine CallVC.inline (f := 57) ?_ rfl Tryz.ntmps57 rfl ?_ ?_;(focus rw [hP];exact Tryz.func57);(focus simp);have hT1 := Ty.T57 hP;intro X1 K1 hU1 hnt1 hbl1 hK1;have hU1P := hU1.P;simp only [GA,↓GB,GX,simprocAttr] at hbl1 ⊢)|(refine and_mk ?_ ?_;(focus first | decide | omega | rfl | assumption | (simp only [LBs];omega) | (simp;done)))|(refine And.intro ?_ ?_))
      all_goals (try refine Done.mk ?_)
      all_goals (refine Imp.le [0,1,2,3,4,5,6,13,8,9,10,11,12] ?_;(refine LeR.of ?_ ?_ ?_ ?_ ?_ ?_ ?_ <;> first | (rw [hbl];decide) | decide | (simp only [GA,↓GB,GX,simprocAttr,GDs,CSs];done)))
    · have m1 : M 1 = true := dD hd rfl 0 rfl rfl
      have m2 : M 2 = true := dD hd rfl 1 rfl rfl
      have n19 : M 19 = false := dN hd rfl 2 rfl rfl hd.un
      have hun := hd.un
      refine ⟨_,rfl,rfl,?_⟩
      simp only [gpC,upd,↓reduceIte,Nat.reduceEqDiff,reduceCtorEq,hun,m1,m2,n19,CSs,List.nil_append,List.cons_append,simprocAttr]
      refine VO.insert (kt := 3) (et := 113) (i := 6) (kv := .int .i64 1) (s := .agg [.v (.int .i64 0),.clo 88 [] [.loc 7 0]]) (kd := .int .i64) rfl rfl rfl rfl (by rw [hP];kernel_rfl) (by rw [hP];kernel_rfl) rfl (by simp [all_cond,KeyOf]) (look_nk (by simp [all_cond,nk])) ?_
      refine Imp.perm (i := 6) rfl ?_
      try simp only [List.append_assoc,List.nil_append,List.cons_append,List.append_nil]
      repeat (first | exact List.Perm.refl _ | exact List.perm_append_singleton _ _ | refine List.Perm.append_left _ ?_ | refine (List.Perm.append_left _ ?_).trans List.perm_middle)
    · have m2 : M 2 = true := dD hd rfl 0 rfl rfl
      have n5 : M 5 = false := dN hd rfl 1 rfl rfl hd.un
      have n7 : M 7 = false := dN hd rfl 1 rfl rfl hd.un
      have n8 : M 8 = false := dN hd rfl 1 rfl rfl n7
      have n10 : M 10 = false := dN hd rfl 1 rfl rfl n7
      have n11 : M 11 = false := dN hd rfl 1 rfl rfl n10
      have n15 : M 15 = false := dN hd rfl 1 rfl rfl n10
      have n16 : M 16 = false := dN hd rfl 1 rfl rfl n15
      have n17 : M 17 = false := dN hd rfl 0 rfl rfl n15
      have n18 : M 18 = false := dN hd rfl 1 rfl rfl n17
      have n19 : M 19 = false := dN hd rfl 3 rfl rfl hd.un
      have hun := hd.un
      refine ⟨_,rfl,rfl,?_⟩
      simp only [gpC,upd,↓reduceIte,Nat.reduceEqDiff,reduceCtorEq,hun,m2,n5,n7,n8,n10,n11,n15,n16,n17,n18,n19,CSs,List.nil_append,List.cons_append,simprocAttr]
      refine vcOp_sound ?_
      simp only [GA,↓GB,GX,simprocAttr,hnt,hT]
      have hnt1 := True.intro;have hT1 := True.intro;have hU1P := True.intro
      repeat' (first|(refine SX.seqK ?_;intro N hN)|((first | (refine SX.ops ?_));simp only [GA,↓GB,GX,simprocAttr,hnt,hT,hnt1,hT1,hU1P,hag])|((first | refine SX.skip ?_ | refine SX.exit ?_ | refine SX.label ?_ | refine SX.ret ?_);try simp only [GA,↓GB,GX,simprocAttr])|(refine hN _ ?_;clear hN N)|((first | refine hK1 _ _ (FinI.ret3 ?_) | refine hK1 _ _ (FinI.nrm3 ?_));(repeat (clear hN N));clear hK1 K1;simp only [GA,↓GB,GX,simprocAttr,finP_s,hnt,hT,hnt1,hT1,hU1P,hag])|((first | refine hK _ _ (FinI.ret3 ?_) | refine hK _ _ (FinI.nrm3 ?_));simp only [GA,↓GB,GX,simprocAttr,finP_s,hnt,hT,hnt1,hT1,hU1P,hag];refine Done.out ?_)|((first | refine SX.cond rfl (fun hb => ?_) (fun hb => ?_) | (refine bif2.mk (fun hb => ?_) (fun hb => ?_) <;> (try simp only [hb,GA,↓GB,GX,simprocAttr,hnt,hT,hnt1,hT1,hU1P,hag]))) <;> ((first | cases hb | (simp only [HBs] at hb) | skip) <;> (first | (exfalso;omega) | skip)))|(refine CallVC.inline (f := 54) ?_ rfl Tryz.ntmps54 rfl ?_ ?_;(focus rw [hP];exact Tryz.func54);(focus simp);have hT1 := Ty.T54 hP;intro X1 K1 hU1 hnt1 hbl1 hK1;have hU1P := hU1.P;simp only [GA,↓GB,GX,simprocAttr] at hbl1 ⊢)|(refine CallVC.inline (f := 57) ?_ rfl Tryz.ntmps57 rfl ?_ ?_;(focus rw [hP];exact Tryz.func57);(focus simp);have hT1 := Ty.T57 hP;intro X1 K1 hU1 hnt1 hbl1 hK1;have hU1P := hU1.P;simp only [GA,↓GB,GX,simprocAttr] at hbl1 ⊢)|(refine and_mk ?_ ?_;(focus first | decide | omega | rfl | assumption | (simp only [LBs];omega) | (simp;done)))|(refine And.intro ?_ ?_))
      all_goals (try refine Done.mk ?_)
      all_goals (refine Imp.le [0,1,2,3,4,5,6,7,13,9,10,11,12] ?_;(refine LeR.of ?_ ?_ ?_ ?_ ?_ ?_ ?_ <;> first | (rw [hbl];decide) | decide | (simp only [GA,↓GB,GX,simprocAttr,GDs,CSs];done)))
    · have m1 : M 1 = true := dD hd rfl 0 rfl rfl
      have m4 : M 4 = true := dD hd rfl 1 rfl rfl
      have m2 : M 2 = true := dC hd rfl m4 0 rfl rfl
      have n19 : M 19 = false := dN hd rfl 4 rfl rfl hd.un
      have hun := hd.un
      refine ⟨_,rfl,rfl,?_⟩
      simp only [gpC,upd,↓reduceIte,Nat.reduceEqDiff,reduceCtorEq,hun,m1,m4,m2,n19,CSs,List.nil_append,List.cons_append,simprocAttr]
      refine VO.insert (kt := 3) (et := 113) (i := 6) (kv := .int .i64 2) (s := .agg [.v (.int .i64 0),.clo 88 [] [.loc 8 0]]) (kd := .int .i64) rfl rfl rfl rfl (by rw [hP];kernel_rfl) (by rw [hP];kernel_rfl) rfl (by simp [all_cond,KeyOf]) (look_nk (by simp [all_cond,nk])) ?_
      refine Imp.perm (i := 6) rfl ?_
      try simp only [List.append_assoc,List.nil_append,List.cons_append,List.append_nil]
      repeat (first | exact List.Perm.refl _ | exact List.perm_append_singleton _ _ | refine List.Perm.append_left _ ?_ | refine (List.Perm.append_left _ ?_).trans List.perm_middle)
    · have n7 : M 7 = false := dN hd rfl 0 rfl rfl hd.un
      have n8 : M 8 = false := dN hd rfl 1 rfl rfl n7
      have n10 : M 10 = false := dN hd rfl 1 rfl rfl n7
      have n11 : M 11 = false := dN hd rfl 1 rfl rfl n10
      have n15 : M 15 = false := dN hd rfl 1 rfl rfl n10
      have n16 : M 16 = false := dN hd rfl 1 rfl rfl n15
      have n17 : M 17 = false := dN hd rfl 0 rfl rfl n15
      have n18 : M 18 = false := dN hd rfl 1 rfl rfl n17
      have n19 : M 19 = false := dN hd rfl 5 rfl rfl hd.un
      have hun := hd.un
      refine ⟨_,rfl,rfl,?_⟩
      simp only [gpC,upd,↓reduceIte,Nat.reduceEqDiff,reduceCtorEq,hun,n7,n8,n10,n11,n15,n16,n17,n18,n19,CSs,List.nil_append,List.cons_append,simprocAttr]
      refine vcOp_sound ?_
      simp only [GA,↓GB,GX,simprocAttr,hnt,hT]
      repeat' (refine and_mk ?_ ?_;(focus first | decide | omega | rfl | assumption))
      all_goals (refine Imp.le [0,1,2,3,4,5,6,7,8,9,10,11,12] ?_;(refine LeR.of ?_ ?_ ?_ ?_ ?_ ?_ ?_ <;> first | (rw [hbl];decide) | decide | (simp only [GA,↓GB,GX,simprocAttr,GDs,CSs];done)))
    · have m6 : M 6 = true := dD hd rfl 0 rfl rfl
      have m4 : M 4 = true := dD hd rfl 1 rfl rfl
      have m2 : M 2 = true := dC hd rfl m4 0 rfl rfl
      have n8 : M 8 = false := dN hd rfl 1 rfl rfl hd.un
      have n10 : M 10 = false := dN hd rfl 1 rfl rfl hd.un
      have n11 : M 11 = false := dN hd rfl 1 rfl rfl n10
      have n15 : M 15 = false := dN hd rfl 1 rfl rfl n10
      have n16 : M 16 = false := dN hd rfl 1 rfl rfl n15
      have n17 : M 17 = false := dN hd rfl 0 rfl rfl n15
      have n18 : M 18 = false := dN hd rfl 1 rfl rfl n17
      have n19 : M 19 = false := dN hd rfl 6 rfl rfl hd.un
      have hun := hd.un
      refine ⟨_,rfl,rfl,?_⟩
      simp only [gpC,upd,↓reduceIte,Nat.reduceEqDiff,reduceCtorEq,hun,m6,m4,m2,n8,n10,n11,n15,n16,n17,n18,n19,CSs,List.nil_append,List.cons_append,simprocAttr]
      refine vcOp_sound ?_
      simp only [GA,↓GB,GX,simprocAttr,hnt,hT]
      have hnt1 := True.intro;have hT1 := True.intro;have hU1P := True.intro
      repeat' (first|(refine SX.seqK ?_;intro N hN)|((first | (refine SX.ops ?_));simp only [GA,↓GB,GX,simprocAttr,hnt,hT,hnt1,hT1,hU1P,hag])|((first | refine SX.skip ?_ | refine SX.exit ?_ | refine SX.label ?_ | refine SX.ret ?_);try simp only [GA,↓GB,GX,simprocAttr])|(refine hN _ ?_;clear hN N)|((first | refine hK1 _ _ (FinI.ret3 ?_) | refine hK1 _ _ (FinI.nrm3 ?_));(repeat (clear hN N));clear hK1 K1;simp only [GA,↓GB,GX,simprocAttr,finP_s,hnt,hT,hnt1,hT1,hU1P,hag])|((first | refine hK _ _ (FinI.ret3 ?_) | refine hK _ _ (FinI.nrm3 ?_));simp only [GA,↓GB,GX,simprocAttr,finP_s,hnt,hT,hnt1,hT1,hU1P,hag];refine Done.out ?_)|((first | refine SX.cond rfl (fun hb => ?_) (fun hb => ?_) | (refine bif2.mk (fun hb => ?_) (fun hb => ?_) <;> (try simp only [hb,GA,↓GB,GX,simprocAttr,hnt,hT,hnt1,hT1,hU1P,hag]))) <;> ((first | cases hb | (simp only [HBs] at hb) | skip) <;> (first | (exfalso;omega) | skip)))|(refine CallVC.inline (f := 54) ?_ rfl Tryz.ntmps54 rfl ?_ ?_;(focus rw [hP];exact Tryz.func54);(focus simp);have hT1 := Ty.T54 hP;intro X1 K1 hU1 hnt1 hbl1 hK1;have hU1P := hU1.P;simp only [GA,↓GB,GX,simprocAttr] at hbl1 ⊢)|(refine CallVC.inline (f := 57) ?_ rfl Tryz.ntmps57 rfl ?_ ?_;(focus rw [hP];exact Tryz.func57);(focus simp);have hT1 := Ty.T57 hP;intro X1 K1 hU1 hnt1 hbl1 hK1;have hU1P := hU1.P;simp only [GA,↓GB,GX,simprocAttr] at hbl1 ⊢)|(refine and_mk ?_ ?_;(focus first | decide | omega | rfl | assumption | (simp only [LBs];omega) | (simp;done)))|(refine And.intro ?_ ?_))
      all_goals (try refine Done.mk ?_)
      all_goals (refine Imp.le [0,1,2,3,4,5,6,7,8,13,10,11,12] ?_;(refine LeR.of ?_ ?_ ?_ ?_ ?_ ?_ ?_ <;> first | (rw [hbl];decide) | decide | (simp only [GA,↓GB,GX,simprocAttr,GDs,CSs];done)))
    · have m1 : M 1 = true := dD hd rfl 0 rfl rfl
      have m7 : M 7 = true := dD hd rfl 1 rfl rfl
      have m6 : M 6 = true := dC hd rfl m7 0 rfl rfl
      have m4 : M 4 = true := dC hd rfl m7 1 rfl rfl
      have m2 : M 2 = true := dC hd rfl m4 0 rfl rfl
      have n19 : M 19 = false := dN hd rfl 7 rfl rfl hd.un
      have hun := hd.un
      refine ⟨_,rfl,rfl,?_⟩
      simp only [gpC,upd,↓reduceIte,Nat.reduceEqDiff,reduceCtorEq,hun,m1,m7,m6,m4,m2,n19,CSs,List.nil_append,List.cons_append,simprocAttr]
      refine VO.insert (kt := 3) (et := 113) (i := 6) (kv := .int .i64 3) (s := .agg [.v (.int .i64 0),.clo 88 [] [.loc 9 0]]) (kd := .int .i64) rfl rfl rfl rfl (by rw [hP];kernel_rfl) (by rw [hP];kernel_rfl) rfl (by simp [all_cond,KeyOf]) (look_nk (by simp [all_cond,nk])) ?_
      refine Imp.perm (i := 6) rfl ?_
      try simp only [List.append_assoc,List.nil_append,List.cons_append,List.append_nil]
      repeat (first | exact List.Perm.refl _ | exact List.perm_append_singleton _ _ | refine List.Perm.append_left _ ?_ | refine (List.Perm.append_left _ ?_).trans List.perm_middle)
    · have n10 : M 10 = false := dN hd rfl 0 rfl rfl hd.un
      have n11 : M 11 = false := dN hd rfl 1 rfl rfl n10
      have n15 : M 15 = false := dN hd rfl 1 rfl rfl n10
      have n16 : M 16 = false := dN hd rfl 1 rfl rfl n15
      have n17 : M 17 = false := dN hd rfl 0 rfl rfl n15
      have n18 : M 18 = false := dN hd rfl 1 rfl rfl n17
      have n19 : M 19 = false := dN hd rfl 8 rfl rfl hd.un
      have hun := hd.un
      refine ⟨_,rfl,rfl,?_⟩
      simp only [gpC,upd,↓reduceIte,Nat.reduceEqDiff,reduceCtorEq,hun,n10,n11,n15,n16,n17,n18,n19,CSs,List.nil_append,List.cons_append,simprocAttr]
      refine vcOp_sound ?_
      simp only [GA,↓GB,GX,simprocAttr,hnt,hT]
      repeat' (refine and_mk ?_ ?_;(focus first | decide | omega | rfl | assumption))
      all_goals (refine Imp.le [0,1,2,3,4,5,6,7,8,9,10,11,12] ?_;(refine LeR.of ?_ ?_ ?_ ?_ ?_ ?_ ?_ <;> first | (rw [hbl];decide) | decide | (simp only [GA,↓GB,GX,simprocAttr,GDs,CSs];done)))
    · have m9 : M 9 = true := dD hd rfl 0 rfl rfl
      have m7 : M 7 = true := dD hd rfl 1 rfl rfl
      have m6 : M 6 = true := dC hd rfl m7 0 rfl rfl
      have m4 : M 4 = true := dC hd rfl m7 1 rfl rfl
      have m2 : M 2 = true := dC hd rfl m4 0 rfl rfl
      have n11 : M 11 = false := dN hd rfl 1 rfl rfl hd.un
      have n15 : M 15 = false := dN hd rfl 1 rfl rfl hd.un
      have n16 : M 16 = false := dN hd rfl 1 rfl rfl n15
      have n17 : M 17 = false := dN hd rfl 0 rfl rfl n15
      have n18 : M 18 = false := dN hd rfl 1 rfl rfl n17
      have n19 : M 19 = false := dN hd rfl 9 rfl rfl hd.un
      have hun := hd.un
      refine ⟨_,rfl,rfl,?_⟩
      simp only [gpC,upd,↓reduceIte,Nat.reduceEqDiff,reduceCtorEq,hun,m9,m7,m6,m4,m2,n11,n15,n16,n17,n18,n19,CSs,List.nil_append,List.cons_append,simprocAttr]
      refine vcOp_sound ?_
      simp only [GA,↓GB,GX,simprocAttr,hnt,hT]
      have hnt1 := True.intro;have hT1 := True.intro;have hU1P := True.intro
      repeat' (first|(refine SX.seqK ?_;intro N hN)|((first | (refine SX.ops ?_));simp only [GA,↓GB,GX,simprocAttr,hnt,hT,hnt1,hT1,hU1P,hag])|((first | refine SX.skip ?_ | refine SX.exit ?_ | refine SX.label ?_ | refine SX.ret ?_);try simp only [GA,↓GB,GX,simprocAttr])|(refine hN _ ?_;clear hN N)|((first | refine hK1 _ _ (FinI.ret3 ?_) | refine hK1 _ _ (FinI.nrm3 ?_));(repeat (clear hN N));clear hK1 K1;simp only [GA,↓GB,GX,simprocAttr,finP_s,hnt,hT,hnt1,hT1,hU1P,hag])|((first | refine hK _ _ (FinI.ret3 ?_) | refine hK _ _ (FinI.nrm3 ?_));simp only [GA,↓GB,GX,simprocAttr,finP_s,hnt,hT,hnt1,hT1,hU1P,hag];refine Done.out ?_)|((first | refine SX.cond rfl (fun hb => ?_) (fun hb => ?_) | (refine bif2.mk (fun hb => ?_) (fun hb => ?_) <;> (try simp only [hb,GA,↓GB,GX,simprocAttr,hnt,hT,hnt1,hT1,hU1P,hag]))) <;> ((first | cases hb | (simp only [HBs] at hb) | skip) <;> (first | (exfalso;omega) | skip)))|(refine CallVC.inline (f := 54) ?_ rfl Tryz.ntmps54 rfl ?_ ?_;(focus rw [hP];exact Tryz.func54);(focus simp);have hT1 := Ty.T54 hP;intro X1 K1 hU1 hnt1 hbl1 hK1;have hU1P := hU1.P;simp only [GA,↓GB,GX,simprocAttr] at hbl1 ⊢)|(refine CallVC.inline (f := 57) ?_ rfl Tryz.ntmps57 rfl ?_ ?_;(focus rw [hP];exact Tryz.func57);(focus simp);have hT1 := Ty.T57 hP;intro X1 K1 hU1 hnt1 hbl1 hK1;have hU1P := hU1.P;simp only [GA,↓GB,GX,simprocAttr] at hbl1 ⊢)|(refine and_mk ?_ ?_;(focus first | decide | omega | rfl | assumption | (simp only [LBs];omega) | (simp;done)))|(refine And.intro ?_ ?_))
      all_goals (try refine Done.mk ?_)
      all_goals (refine Imp.le [0,1,2,3,4,5,6,7,8,9,13,11,12] ?_;(refine LeR.of ?_ ?_ ?_ ?_ ?_ ?_ ?_ <;> first | (rw [hbl];decide) | decide | (simp only [GA,↓GB,GX,simprocAttr,GDs,CSs];done)))
    · have m1 : M 1 = true := dD hd rfl 0 rfl rfl
      have m10 : M 10 = true := dD hd rfl 1 rfl rfl
      have m9 : M 9 = true := dC hd rfl m10 0 rfl rfl
      have m7 : M 7 = true := dC hd rfl m10 1 rfl rfl
      have m6 : M 6 = true := dC hd rfl m7 0 rfl rfl
      have m4 : M 4 = true := dC hd rfl m7 1 rfl rfl
      have m2 : M 2 = true := dC hd rfl m4 0 rfl rfl
      have n19 : M 19 = false := dN hd rfl 10 rfl rfl hd.un
      have hun := hd.un
      refine ⟨_,rfl,rfl,?_⟩
      simp only [gpC,upd,↓reduceIte,Nat.reduceEqDiff,reduceCtorEq,hun,m1,m10,m9,m7,m6,m4,m2,n19,CSs,List.nil_append,List.cons_append,simprocAttr]
      refine VO.insert (kt := 3) (et := 113) (i := 6) (kv := .int .i64 4) (s := .agg [.v (.int .i64 0),.clo 88 [] [.loc 10 0]]) (kd := .int .i64) rfl rfl rfl rfl (by rw [hP];kernel_rfl) (by rw [hP];kernel_rfl) rfl (by simp [all_cond,KeyOf]) (look_nk (by simp [all_cond,nk])) ?_
      refine Imp.perm (i := 6) rfl ?_
      try simp only [List.append_assoc,List.nil_append,List.cons_append,List.append_nil]
      repeat (first | exact List.Perm.refl _ | exact List.perm_append_singleton _ _ | refine List.Perm.append_left _ ?_ | refine (List.Perm.append_left _ ?_).trans List.perm_middle)
    · have n13 : M 13 = false := dN hd rfl 1 rfl rfl hd.un
      have n19 : M 19 = false := dN hd rfl 11 rfl rfl hd.un
      have hun := hd.un
      refine ⟨_,rfl,rfl,?_⟩
      simp only [gpC,upd,↓reduceIte,Nat.reduceEqDiff,reduceCtorEq,hun,n13,n19,CSs,List.nil_append,List.cons_append,simprocAttr]
      refine vcOp_sound ?_
      simp only [GA,↓GB,GX,simprocAttr,hnt,hT]
      repeat' (refine and_mk ?_ ?_;(focus first | decide | omega | rfl | assumption))
      all_goals (refine Imp.le [0,1,2,3,4,5,6,7,8,9,10,11,12] ?_;(refine LeR.of ?_ ?_ ?_ ?_ ?_ ?_ ?_ <;> first | (rw [hbl];decide) | decide | (simp only [GA,↓GB,GX,simprocAttr,GDs,CSs];done)))
    · have m1 : M 1 = true := dD hd rfl 0 rfl rfl
      have m12 : M 12 = true := dD hd rfl 1 rfl rfl
      have n19 : M 19 = false := dN hd rfl 12 rfl rfl hd.un
      have hun := hd.un
      refine ⟨_,rfl,rfl,?_⟩
      simp only [gpC,upd,↓reduceIte,Nat.reduceEqDiff,reduceCtorEq,hun,m1,m12,n19,CSs,List.nil_append,List.cons_append,simprocAttr]
      refine VO.insert (kt := 3) (et := 113) (i := 6) (kv := .int .i64 5) (s := .agg [.v (.int .i64 2),.clo 73 [] [.loc 1 0]]) (kd := .int .i64) rfl rfl rfl rfl (by rw [hP];kernel_rfl) (by rw [hP];kernel_rfl) rfl (by simp [all_cond,KeyOf]) (look_nk (by simp [all_cond,nk])) ?_
      refine Imp.perm (i := 6) rfl ?_
      try simp only [List.append_assoc,List.nil_append,List.cons_append,List.append_nil]
      repeat (first | exact List.Perm.refl _ | exact List.perm_append_singleton _ _ | refine List.Perm.append_left _ ?_ | refine (List.Perm.append_left _ ?_).trans List.perm_middle)
    · have n15 : M 15 = false := dN hd rfl 0 rfl rfl hd.un
      have n16 : M 16 = false := dN hd rfl 1 rfl rfl n15
      have n17 : M 17 = false := dN hd rfl 0 rfl rfl n15
      have n18 : M 18 = false := dN hd rfl 1 rfl rfl n17
      have n19 : M 19 = false := dN hd rfl 13 rfl rfl hd.un
      have hun := hd.un
      refine ⟨_,rfl,rfl,?_⟩
      simp only [gpC,upd,↓reduceIte,Nat.reduceEqDiff,reduceCtorEq,hun,n15,n16,n17,n18,n19,CSs,List.nil_append,List.cons_append,simprocAttr]
      refine vcOp_sound ?_
      simp only [GA,↓GB,GX,simprocAttr,hnt,hT]
      repeat' (refine and_mk ?_ ?_;(focus first | decide | omega | rfl | assumption))
      all_goals (refine Imp.le [0,1,2,3,4,5,6,7,8,9,10,11,12] ?_;(refine LeR.of ?_ ?_ ?_ ?_ ?_ ?_ ?_ <;> first | (rw [hbl];decide) | decide | (simp only [GA,↓GB,GX,simprocAttr,GDs,CSs];done)))
    · have m14 : M 14 = true := dD hd rfl 0 rfl rfl
      have m10 : M 10 = true := dD hd rfl 1 rfl rfl
      have m9 : M 9 = true := dC hd rfl m10 0 rfl rfl
      have m7 : M 7 = true := dC hd rfl m10 1 rfl rfl
      have m6 : M 6 = true := dC hd rfl m7 0 rfl rfl
      have m4 : M 4 = true := dC hd rfl m7 1 rfl rfl
      have m2 : M 2 = true := dC hd rfl m4 0 rfl rfl
      have n16 : M 16 = false := dN hd rfl 1 rfl rfl hd.un
      have n17 : M 17 = false := dN hd rfl 0 rfl rfl hd.un
      have n18 : M 18 = false := dN hd rfl 1 rfl rfl n17
      have n19 : M 19 = false := dN hd rfl 14 rfl rfl hd.un
      have hun := hd.un
      refine ⟨_,rfl,rfl,?_⟩
      simp only [gpC,upd,↓reduceIte,Nat.reduceEqDiff,reduceCtorEq,hun,m14,m10,m9,m7,m6,m4,m2,n16,n17,n18,n19,CSs,List.nil_append,List.cons_append,simprocAttr]
      refine vcOp_sound ?_
      simp only [GA,↓GB,GX,simprocAttr,hnt,hT]
      have hnt1 := True.intro;have hT1 := True.intro;have hU1P := True.intro
      repeat' (first|(refine SX.seqK ?_;intro N hN)|((first | (refine SX.ops ?_));simp only [GA,↓GB,GX,simprocAttr,hnt,hT,hnt1,hT1,hU1P,hag])|((first | refine SX.skip ?_ | refine SX.exit ?_ | refine SX.label ?_ | refine SX.ret ?_);try simp only [GA,↓GB,GX,simprocAttr])|(refine hN _ ?_;clear hN N)|((first | refine hK1 _ _ (FinI.ret3 ?_) | refine hK1 _ _ (FinI.nrm3 ?_));(repeat (clear hN N));clear hK1 K1;simp only [GA,↓GB,GX,simprocAttr,finP_s,hnt,hT,hnt1,hT1,hU1P,hag])|((first | refine hK _ _ (FinI.ret3 ?_) | refine hK _ _ (FinI.nrm3 ?_));simp only [GA,↓GB,GX,simprocAttr,finP_s,hnt,hT,hnt1,hT1,hU1P,hag];refine Done.out ?_)|((first | refine SX.cond rfl (fun hb => ?_) (fun hb => ?_) | (refine bif2.mk (fun hb => ?_) (fun hb => ?_) <;> (try simp only [hb,GA,↓GB,GX,simprocAttr,hnt,hT,hnt1,hT1,hU1P,hag]))) <;> ((first | cases hb | (simp only [HBs] at hb) | skip) <;> (first | (exfalso;omega) | skip)))|(refine CallVC.inline (f := 54) ?_ rfl Tryz.ntmps54 rfl ?_ ?_;(focus rw [hP];exact Tryz.func54);(focus simp);have hT1 := Ty.T54 hP;intro X1 K1 hU1 hnt1 hbl1 hK1;have hU1P := hU1.P;simp only [GA,↓GB,GX,simprocAttr] at hbl1 ⊢)|(refine CallVC.inline (f := 57) ?_ rfl Tryz.ntmps57 rfl ?_ ?_;(focus rw [hP];exact Tryz.func57);(focus simp);have hT1 := Ty.T57 hP;intro X1 K1 hU1 hnt1 hbl1 hK1;have hU1P := hU1.P;simp only [GA,↓GB,GX,simprocAttr] at hbl1 ⊢)|(refine and_mk ?_ ?_;(focus first | decide | omega | rfl | assumption | (simp only [LBs];omega) | (simp;done)))|(refine And.intro ?_ ?_))
      all_goals (try refine Done.mk ?_)
      all_goals (refine Imp.le [0,1,2,3,4,5,6,7,8,9,10,13,12] ?_;(refine LeR.of ?_ ?_ ?_ ?_ ?_ ?_ ?_ <;> first | (rw [hbl];decide) | decide | (simp only [GA,↓GB,GX,simprocAttr,GDs,CSs];done)))
    · have m1 : M 1 = true := dD hd rfl 0 rfl rfl
      have m15 : M 15 = true := dD hd rfl 1 rfl rfl
      have m14 : M 14 = true := dC hd rfl m15 0 rfl rfl
      have m10 : M 10 = true := dC hd rfl m15 1 rfl rfl
      have m9 : M 9 = true := dC hd rfl m10 0 rfl rfl
      have m7 : M 7 = true := dC hd rfl m10 1 rfl rfl
      have m6 : M 6 = true := dC hd rfl m7 0 rfl rfl
      have m4 : M 4 = true := dC hd rfl m7 1 rfl rfl
      have m2 : M 2 = true := dC hd rfl m4 0 rfl rfl
      have n19 : M 19 = false := dN hd rfl 15 rfl rfl hd.un
      have hun := hd.un
      refine ⟨_,rfl,rfl,?_⟩
      simp only [gpC,upd,↓reduceIte,Nat.reduceEqDiff,reduceCtorEq,hun,m1,m15,m14,m10,m9,m7,m6,m4,m2,n19,CSs,List.nil_append,List.cons_append,simprocAttr]
      refine VO.insert (kt := 3) (et := 113) (i := 6) (kv := .int .i64 6) (s := .agg [.v (.int .i64 2),.clo 90 [] [.loc 11 0]]) (kd := .int .i64) rfl rfl rfl rfl (by rw [hP];kernel_rfl) (by rw [hP];kernel_rfl) rfl (by simp [all_cond,KeyOf]) (look_nk (by simp [all_cond,nk])) ?_
      refine Imp.perm (i := 6) rfl ?_
      try simp only [List.append_assoc,List.nil_append,List.cons_append,List.append_nil]
      repeat (first | exact List.Perm.refl _ | exact List.perm_append_singleton _ _ | refine List.Perm.append_left _ ?_ | refine (List.Perm.append_left _ ?_).trans List.perm_middle)
    · have m15 : M 15 = true := dD hd rfl 0 rfl rfl
      have m14 : M 14 = true := dC hd rfl m15 0 rfl rfl
      have m10 : M 10 = true := dC hd rfl m15 1 rfl rfl
      have m9 : M 9 = true := dC hd rfl m10 0 rfl rfl
      have m7 : M 7 = true := dC hd rfl m10 1 rfl rfl
      have m6 : M 6 = true := dC hd rfl m7 0 rfl rfl
      have m4 : M 4 = true := dC hd rfl m7 1 rfl rfl
      have m2 : M 2 = true := dC hd rfl m4 0 rfl rfl
      have n18 : M 18 = false := dN hd rfl 1 rfl rfl hd.un
      have n19 : M 19 = false := dN hd rfl 16 rfl rfl hd.un
      have hun := hd.un
      refine ⟨_,rfl,rfl,?_⟩
      simp only [gpC,upd,↓reduceIte,Nat.reduceEqDiff,reduceCtorEq,hun,m15,m14,m10,m9,m7,m6,m4,m2,n18,n19,CSs,List.nil_append,List.cons_append,simprocAttr]
      refine vcOp_sound ?_
      simp only [GA,↓GB,GX,simprocAttr,hnt,hT]
      have hnt1 := True.intro;have hT1 := True.intro;have hU1P := True.intro
      repeat' (first|(refine SX.seqK ?_;intro N hN)|((first | (refine SX.ops ?_));simp only [GA,↓GB,GX,simprocAttr,hnt,hT,hnt1,hT1,hU1P,hag])|((first | refine SX.skip ?_ | refine SX.exit ?_ | refine SX.label ?_ | refine SX.ret ?_);try simp only [GA,↓GB,GX,simprocAttr])|(refine hN _ ?_;clear hN N)|((first | refine hK1 _ _ (FinI.ret3 ?_) | refine hK1 _ _ (FinI.nrm3 ?_));(repeat (clear hN N));clear hK1 K1;simp only [GA,↓GB,GX,simprocAttr,finP_s,hnt,hT,hnt1,hT1,hU1P,hag])|((first | refine hK _ _ (FinI.ret3 ?_) | refine hK _ _ (FinI.nrm3 ?_));simp only [GA,↓GB,GX,simprocAttr,finP_s,hnt,hT,hnt1,hT1,hU1P,hag];refine Done.out ?_)|((first | refine SX.cond rfl (fun hb => ?_) (fun hb => ?_) | (refine bif2.mk (fun hb => ?_) (fun hb => ?_) <;> (try simp only [hb,GA,↓GB,GX,simprocAttr,hnt,hT,hnt1,hT1,hU1P,hag]))) <;> ((first | cases hb | (simp only [HBs] at hb) | skip) <;> (first | (exfalso;omega) | skip)))|(refine CallVC.inline (f := 54) ?_ rfl Tryz.ntmps54 rfl ?_ ?_;(focus rw [hP];exact Tryz.func54);(focus simp);have hT1 := Ty.T54 hP;intro X1 K1 hU1 hnt1 hbl1 hK1;have hU1P := hU1.P;simp only [GA,↓GB,GX,simprocAttr] at hbl1 ⊢)|(refine CallVC.inline (f := 57) ?_ rfl Tryz.ntmps57 rfl ?_ ?_;(focus rw [hP];exact Tryz.func57);(focus simp);have hT1 := Ty.T57 hP;intro X1 K1 hU1 hnt1 hbl1 hK1;have hU1P := hU1.P;simp only [GA,↓GB,GX,simprocAttr] at hbl1 ⊢)|(refine and_mk ?_ ?_;(focus first | decide | omega | rfl | assumption | (simp only [LBs];omega) | (simp;done)))|(refine And.intro ?_ ?_))
      all_goals (try refine Done.mk ?_)
      all_goals (refine Imp.le [0,1,2,3,4,5,6,7,8,9,10,11,13] ?_;(refine LeR.of ?_ ?_ ?_ ?_ ?_ ?_ ?_ <;> first | (rw [hbl];decide) | decide | (simp only [GA,↓GB,GX,simprocAttr,GDs,CSs];done)))
    · have m1 : M 1 = true := dD hd rfl 0 rfl rfl
      have m17 : M 17 = true := dD hd rfl 1 rfl rfl
      have m15 : M 15 = true := dC hd rfl m17 0 rfl rfl
      have m14 : M 14 = true := dC hd rfl m15 0 rfl rfl
      have m10 : M 10 = true := dC hd rfl m15 1 rfl rfl
      have m9 : M 9 = true := dC hd rfl m10 0 rfl rfl
      have m7 : M 7 = true := dC hd rfl m10 1 rfl rfl
      have m6 : M 6 = true := dC hd rfl m7 0 rfl rfl
      have m4 : M 4 = true := dC hd rfl m7 1 rfl rfl
      have m2 : M 2 = true := dC hd rfl m4 0 rfl rfl
      have n19 : M 19 = false := dN hd rfl 17 rfl rfl hd.un
      have hun := hd.un
      refine ⟨_,rfl,rfl,?_⟩
      simp only [gpC,upd,↓reduceIte,Nat.reduceEqDiff,reduceCtorEq,hun,m1,m17,m15,m14,m10,m9,m7,m6,m4,m2,n19,CSs,List.nil_append,List.cons_append,simprocAttr]
      refine VO.insert (kt := 3) (et := 113) (i := 6) (kv := .int .i64 7) (s := .agg [.v (.int .i64 0),.clo 88 [] [.loc 12 0]]) (kd := .int .i64) rfl rfl rfl rfl (by rw [hP];kernel_rfl) (by rw [hP];kernel_rfl) rfl (by simp [all_cond,KeyOf]) (look_nk (by simp [all_cond,nk])) ?_
      refine Imp.perm (i := 6) rfl ?_
      try simp only [List.append_assoc,List.nil_append,List.cons_append,List.append_nil]
      repeat (first | exact List.Perm.refl _ | exact List.perm_append_singleton _ _ | refine List.Perm.append_left _ ?_ | refine (List.Perm.append_left _ ?_).trans List.perm_middle)
    · have m1 : M 1 = true := dD hd rfl 0 rfl rfl
      have m2 : M 2 = true := dD hd rfl 1 rfl rfl
      have m3 : M 3 = true := dD hd rfl 2 rfl rfl
      have m4 : M 4 = true := dD hd rfl 3 rfl rfl
      have m5 : M 5 = true := dD hd rfl 4 rfl rfl
      have m6 : M 6 = true := dD hd rfl 5 rfl rfl
      have m7 : M 7 = true := dD hd rfl 6 rfl rfl
      have m8 : M 8 = true := dD hd rfl 7 rfl rfl
      have m9 : M 9 = true := dD hd rfl 8 rfl rfl
      have m10 : M 10 = true := dD hd rfl 9 rfl rfl
      have m11 : M 11 = true := dD hd rfl 10 rfl rfl
      have m12 : M 12 = true := dD hd rfl 11 rfl rfl
      have m13 : M 13 = true := dD hd rfl 12 rfl rfl
      have m14 : M 14 = true := dD hd rfl 13 rfl rfl
      have m15 : M 15 = true := dD hd rfl 14 rfl rfl
      have m16 : M 16 = true := dD hd rfl 15 rfl rfl
      have m17 : M 17 = true := dD hd rfl 16 rfl rfl
      have m18 : M 18 = true := dD hd rfl 17 rfl rfl
      have hun := hd.un
      refine ⟨_,rfl,rfl,?_⟩
      simp only [gpC,upd,↓reduceIte,Nat.reduceEqDiff,reduceCtorEq,hun,m1,m2,m3,m4,m5,m6,m7,m8,m9,m10,m11,m12,m13,m14,m15,m16,m17,m18,CSs,List.nil_append,List.cons_append,simprocAttr]
      refine vcOp_sound ?_
      simp only [GA,↓GB,GX,simprocAttr,hnt,hT]
      repeat' (refine and_mk ?_ ?_;(focus first | decide | omega | rfl | assumption))
      all_goals (refine Imp.le [0,1,2,3,4,5,6,7,8,9,10,11,12] ?_;(refine LeR.of ?_ ?_ ?_ ?_ ?_ ?_ ?_ <;> first | (rw [hbl];decide) | decide | (simp only [GA,↓GB,GX,simprocAttr,GDs,CSs];done)))
  simp only [gpC,cond_true,List.nil_append,List.cons_append,GA,↓GB,GX,simprocAttr,hnt,hT,hag]
  exact hk
structure RpB (n : Nat) (m : RpS) : Prop where
  rs : ∀ x ∈ m.rs,x.s.length ≤ n
  rm : ∀ x ∈ m.rm,x.length ≤ n
theorem RpB.zero (n : Nat) : RpB n .zero := ⟨fun x h => (by cases h),fun x h => (by cases h)⟩
theorem resR_sl {s : List UInt8} {n : Nat} (h : s.length ≤ n) : ((resR s).getD z0).s.length ≤ n := by
  unfold resR
  cases hp : NW.parse s with
  | none => exact Nat.zero_le _
  | some l =>
    have := lastN_len hp 2
    simp only [resG]
    split
    · simp only [Option.getD_some,rsOf];omega
    · exact Nat.zero_le _
theorem stepP_b {n : Nat} {f : NW.Fld} {m : RpS} (hf : f.s.length ≤ n) (h : RpB n m) : RpB n (stepP f m).1 ∧ (stepP f m).1.rs.length ≤ m.rs.length + 1 ∧ (stepP f m).1.rm.length ≤ m.rm.length + 1 := by
  have hh := resR_sl hf
  unfold stepP
  repeat' split
  all_goals first
    | exact ⟨h,by omega,by omega⟩
    | exact ⟨⟨h.rs,h.rm⟩,by simp,by simp⟩
    | (refine ⟨⟨fun x hx => ?_,h.rm⟩,by simp,by simp⟩
       rcases List.mem_append.1 hx with hx | hx
       · exact h.rs x hx
       · simp at hx;rw [hx];exact hh)
    | (refine ⟨⟨h.rs,fun x hx => ?_⟩,by simp,by simp⟩
       rcases List.mem_append.1 hx with hx | hx
       · exact h.rm x hx
       · simp at hx;rw [hx];exact hf)
theorem takeP_b {n : Nat} : ∀ {l : List NW.Fld} {m : RpS},(∀ f ∈ l,f.s.length ≤ n) → RpB n m → RpB n (takeX stepP l m).1 ∧ (takeX stepP l m).1.rs.length ≤ m.rs.length + l.length ∧ (takeX stepP l m).1.rm.length ≤ m.rm.length + l.length
  | [],m,_,h => ⟨h,Nat.le_refl _,Nat.le_refl _⟩
  | f :: l,m,hf,h => by
    obtain ⟨h1,h2,h3⟩ := stepP_b (hf f List.mem_cons_self) h
    obtain ⟨k1,k2,k3⟩ := takeP_b (l := l) (fun g hg => hf g (List.mem_cons_of_mem _ hg)) h1
    rw [takeX]
    split
    · exact ⟨k1,by simp only [List.length_cons];omega,by simp only [List.length_cons];omega⟩
    · exact ⟨h1,by simp only [List.length_cons];omega,by simp only [List.length_cons];omega⟩
theorem takePB_b (s : List UInt8) : RpB s.length (takeXB stepP s .zero).1 ∧ (takeXB stepP s .zero).1.rs.length ≤ s.length ∧ (takeXB stepP s .zero).1.rm.length ≤ s.length := by
  unfold takeXB
  cases hp : NW.parse s with
  | none => exact ⟨.zero _,Nat.zero_le _,Nat.zero_le _⟩
  | some l =>
    have hl := parse_len hp
    obtain ⟨k1,k2,k3⟩ := takeP_b (n := s.length) (m := .zero) (parse_slen hp) (.zero _)
    have z : RpS.zero.rs.length = 0 ∧ RpS.zero.rm.length = 0 := ⟨rfl,rfl⟩
    exact ⟨k1,by show (takeX stepP l .zero).1.rs.length ≤ _;omega,by show (takeX stepP l .zero).1.rm.length ≤ _;omega⟩
def okP (m : RpS) : Bool := decide (m.delta ≤ 1) && (decide (m.more ≤ 1) && respB ((min m.kind 6 : Nat) : Int) ((m.delta : Int) == 1) ((m.more : Int) == 1) m.nonce m.rs m.rm)
def respR (s : List UInt8) : Option RpS := if kindL s = 2 then (if (takeXB stepP (s.drop 1) .zero).2 = true ∧ okP (takeXB stepP (s.drop 1) .zero).1 = true then some (takeXB stepP (s.drop 1) .zero).1 else none) else none
def respRO : Option RpS → List LO
  | some m => [mrow m.rs,srow m.rm]
  | none => []
def respRV : Option RpS → SV
  | some m => .tup [.agg [.v (.int .i64 ((min m.kind 6 : Nat) : Int)),.v (.bool ((m.delta : Int) == 1)),.v (.bool ((m.more : Int) == 1)),.v (.int .u64 m.nonce),.v (.int .u64 m.ver),.row 0,.row 1],.c (.v (.bool true))]
  | none => .tup [.agg [.v (.int .i64 0),.v (.bool false),.v (.bool false),.v (.int .u64 0),.v (.int .u64 0),.v (.slice none 0 0),.v (.slice none 0 0)],.c (.v (.bool false))]
theorem getResp_ctr {e : EA} (he : e.Ok) (s : List UInt8) (hs : s.length ≤ 1099511627776) : Ctr Tryz.prog (GE e) 34 [] [vv (.string (B s))] (fun os v => os = respRO (respR s) ∧ v = respRV (respR s)) := by
  refine Ctr.less ?_
  by_cases hk : kindL s = 2
  · obtain ⟨hB,h1,h2⟩ := takePB_b (s.drop 1)
    have hd : (s.drop 1).length ≤ 1099511627776 := by rw [List.length_drop];omega
    have hg := getRespM_yes he s (by omega) hk
    unfold respR
    rw [if_pos hk]
    generalize (takeXB stepP (s.drop 1) .zero).1 = m at *
    have hr := rightResp_ctr ((min m.kind 6 : Nat) : Int) ((m.delta : Int) == 1) ((m.more : Int) == 1) m.nonce m.ver m.rs m.rm (by omega) (fun x hx => Nat.le_trans (hB.rs x hx) (by omega)) (by omega) (fun x hx => Nat.le_trans (hB.rm x hx) (by omega))
    have h6 := min6 m.kind
    have h7 := min6w m.kind
    have hq : okP m = (decide (m.delta ≤ 1) && (decide (m.more ≤ 1) && respB ((min m.kind 6 : Nat) : Int) ((m.delta : Int) == 1) ((m.more : Int) == 1) m.nonce m.rs m.rm)) := rfl
    generalize respB ((min m.kind 6 : Nat) : Int) ((m.delta : Int) == 1) ((m.more : Int) == 1) m.nonce m.rs m.rm = rb at hr hq
    cases hok : (takeXB stepP (s.drop 1) .zero).2 with
    | true =>
      rw [hok] at hg
      have hb := bad_nil he
      intro X0 hP0 hG0 N0 hN0
      refine CallVC.inline (f := 34) (by rw [hP0];exact Tryz.func34) rfl Tryz.ntmps34 rfl (by simp) ?_
      intro X K hU hnt hbl hK
      have hP : X.P = Tryz.prog := hU.P.trans hP0
      have hG := hG0.under hU
      have hT := Ty.T34 hP
      simp only [GA,↓GB,GX,simprocAttr] at hbl ⊢
      repeat' (first|(refine SX.select (d := ⟨[(0,vv (.string (B s))),(2,.one (.c (.loc 0 0))),(3,vv (.bool false)),(4,.one (.c (.loc 1 0))),(5,.one (.c (.loc 2 0))),(6,.one (.c (.loc 3 0))),(7,.one (.c (.loc 4 0))),(8,.one (.c (.loc 5 0)))],[.cells [.v (.int .i64 0),.v (.bool false),.v (.bool false),.v (.int .u64 0),.v (.int .u64 0),.v (.slice none 0 0),.v (.slice none 0 0)] 68,.cells [.v (.int .i64 0),.v (.bool false),.v (.bool false),.v (.int .u64 0),.v (.int .u64 0),.v (.slice none 0 0),.v (.slice none 0 0)] 68,.cells [.v (.int .u64 0)] 22,.cells [.v (.int .u64 0)] 22,.cells [.v (.int .u64 0)] 22,.cells [.v (.int .i64 2),.clo 73 [] [.loc 1 0]] 113]⟩) [0,1,2,3,4,5] (by (refine LeR.of ?_ ?_ ?_ ?_ ?_ ?_ ?_ <;> first | (rw [hbl];decide) | decide | (simp only [GA,↓GB,GX,simprocAttr,GDs];done) | (simp only [GA,↓GB,GX,simprocAttr,GDs];rfl;done))) (gp_region hP hnt hbl s (fun _ => True) _ ?_) <;> simp only [gpC,cond_true,List.nil_append,List.cons_append,GA,↓GB,GX,simprocAttr,hnt,hT])|(refine SX.seqK ?_;intro N hN)|((first | (refine SX.ops ?_));simp only [GA,↓GB,GX,simprocAttr,hnt,hT,h6,h7])|((first | refine SX.skip ?_ | refine SX.exit ?_ | refine SX.label ?_ | refine SX.ret ?_);try simp only [GA,↓GB,GX,simprocAttr])|(refine hN _ ?_;clear hN N)|((first | refine hK _ _ (FinI.ret3 ?_) | refine hK _ _ (FinI.nrm3 ?_));simp only [GA,↓GB,GX,simprocAttr,finP_s,hnt,hT,h6,h7];refine Done.out ?_)|((first | refine SX.cond rfl (fun hb => ?_) (fun hb => ?_) | (refine bif2.mk (fun hb => ?_) (fun hb => ?_) <;> (try simp only [hb,GA,↓GB,GX,simprocAttr,hnt,hT,h6,h7]))) <;> ((first | cases hb | (simp only [HBs] at hb) | skip) <;> (first | (exfalso;omega) | skip)))|((first | (refine Ctr.use (hg) hP hG [6,7,8,9,10,11,12,2,3,4,1] ?_ rfl rfl ?_;(focus (refine LeR.of rfl trivial ?_ ?_ ?_ ?_ ?_ <;> first | decide | (simp only [GA,↓GB,GX,simprocAttr,GDs];done)));intro os' s hR;obtain ⟨rfl,rfl⟩ := hR) | (refine Ctr.use (hb) hP hG [] ?_ rfl rfl ?_;(focus (refine LeR.of rfl trivial ?_ ?_ ?_ ?_ ?_ <;> first | decide | (simp only [GA,↓GB,GX,simprocAttr,GDs];done)));intro os' s hR;obtain ⟨rfl,rfl⟩ := hR) | (refine Ctr.use (hr) hP ?_ [13,14] ?_ rfl rfl ?_;(focus (intro p hp;cases hp));(focus (refine LeR.of rfl trivial ?_ ?_ ?_ ?_ ?_ <;> first | decide | (simp only [GA,↓GB,GX,simprocAttr,GDs];done)));intro os' s hR;obtain ⟨rfl,rfl⟩ := hR));simp only [GA,↓GB,GX,simprocAttr,hnt,hT,h6,h7])|(refine and_mk ?_ ?_;(focus first | decide | omega | rfl | assumption | (simp only [LBs];omega) | (simp;done)))|(refine And.intro ?_ ?_))
      all_goals (try refine Done.mk ?_)
      · have hf : okP m = false := by rw [hq,decide_eq_false (p := m.delta ≤ 1) (by omega)];rfl
        rw [if_neg (fun h => by rw [hf] at h;cases h.2)] at hN0
        simp only [respRO,respRV] at hN0
        (refine hN0 _ _ ⟨[],_,_,?_,?_,?_,⟨rfl,rfl⟩⟩;(focus exact LeR.of rfl trivial (by simp only [GA,↓GB,GX,simprocAttr,GDs]) (by decide) rfl rfl rfl);rotate_left;(focus rfl))
        rfl
      · have hf : okP m = false := by rw [hq,decide_eq_false (p := m.more ≤ 1) (by omega),Bool.false_and,Bool.and_false]
        rw [if_neg (fun h => by rw [hf] at h;cases h.2)] at hN0
        simp only [respRO,respRV] at hN0
        (refine hN0 _ _ ⟨[],_,_,?_,?_,?_,⟨rfl,rfl⟩⟩;(focus exact LeR.of rfl trivial (by simp only [GA,↓GB,GX,simprocAttr,GDs]) (by decide) rfl rfl rfl);rotate_left;(focus rfl))
        rfl
      · have hf : okP m = false := by rw [hq,hb,Bool.and_false,Bool.and_false]
        rw [if_neg (fun h => by rw [hf] at h;cases h.2)] at hN0
        simp only [respRO,respRV] at hN0
        (refine hN0 _ _ ⟨[],_,_,?_,?_,?_,⟨rfl,rfl⟩⟩;(focus exact LeR.of rfl trivial (by simp only [GA,↓GB,GX,simprocAttr,GDs]) (by decide) rfl rfl rfl);rotate_left;(focus rfl))
        rfl
      · have hf : okP m = true := by rw [hq,hb,decide_eq_true (p := m.delta ≤ 1) (by omega),decide_eq_true (p := m.more ≤ 1) (by omega)];rfl
        rw [if_pos ⟨rfl,hf⟩] at hN0
        simp only [respRO,respRV] at hN0
        (refine hN0 _ _ ⟨[13,14],_,_,?_,?_,?_,⟨rfl,rfl⟩⟩;(focus exact LeR.of rfl trivial (by simp only [GA,↓GB,GX,simprocAttr,GDs]) (by decide) rfl rfl rfl);rotate_left;(focus rfl))
        rfl
    | false =>
      rw [hok] at hg
      have hb := bad_form he
      intro X0 hP0 hG0 N0 hN0
      refine CallVC.inline (f := 34) (by rw [hP0];exact Tryz.func34) rfl Tryz.ntmps34 rfl (by simp) ?_
      intro X K hU hnt hbl hK
      have hP : X.P = Tryz.prog := hU.P.trans hP0
      have hG := hG0.under hU
      have hT := Ty.T34 hP
      simp only [GA,↓GB,GX,simprocAttr] at hbl ⊢
      repeat' (first|(refine SX.select (d := ⟨[(0,vv (.string (B s))),(2,.one (.c (.loc 0 0))),(3,vv (.bool false)),(4,.one (.c (.loc 1 0))),(5,.one (.c (.loc 2 0))),(6,.one (.c (.loc 3 0))),(7,.one (.c (.loc 4 0))),(8,.one (.c (.loc 5 0)))],[.cells [.v (.int .i64 0),.v (.bool false),.v (.bool false),.v (.int .u64 0),.v (.int .u64 0),.v (.slice none 0 0),.v (.slice none 0 0)] 68,.cells [.v (.int .i64 0),.v (.bool false),.v (.bool false),.v (.int .u64 0),.v (.int .u64 0),.v (.slice none 0 0),.v (.slice none 0 0)] 68,.cells [.v (.int .u64 0)] 22,.cells [.v (.int .u64 0)] 22,.cells [.v (.int .u64 0)] 22,.cells [.v (.int .i64 2),.clo 73 [] [.loc 1 0]] 113]⟩) [0,1,2,3,4,5] (by (refine LeR.of ?_ ?_ ?_ ?_ ?_ ?_ ?_ <;> first | (rw [hbl];decide) | decide | (simp only [GA,↓GB,GX,simprocAttr,GDs];done) | (simp only [GA,↓GB,GX,simprocAttr,GDs];rfl;done))) (gp_region hP hnt hbl s (fun _ => True) _ ?_) <;> simp only [gpC,cond_true,List.nil_append,List.cons_append,GA,↓GB,GX,simprocAttr,hnt,hT])|(refine SX.seqK ?_;intro N hN)|((first | (refine SX.ops ?_));simp only [GA,↓GB,GX,simprocAttr,hnt,hT,h6,h7])|((first | refine SX.skip ?_ | refine SX.exit ?_ | refine SX.label ?_ | refine SX.ret ?_);try simp only [GA,↓GB,GX,simprocAttr])|(refine hN _ ?_;clear hN N)|((first | refine hK _ _ (FinI.ret3 ?_) | refine hK _ _ (FinI.nrm3 ?_));simp only [GA,↓GB,GX,simprocAttr,finP_s,hnt,hT,h6,h7];refine Done.out ?_)|((first | refine SX.cond rfl (fun hb => ?_) (fun hb => ?_) | (refine bif2.mk (fun hb => ?_) (fun hb => ?_) <;> (try simp only [hb,GA,↓GB,GX,simprocAttr,hnt,hT,h6,h7]))) <;> ((first | cases hb | (simp only [HBs] at hb) | skip) <;> (first | (exfalso;omega) | skip)))|((first | (refine Ctr.use (hg) hP hG [6,7,8,9,10,11,12,2,3,4,1] ?_ rfl rfl ?_;(focus (refine LeR.of rfl trivial ?_ ?_ ?_ ?_ ?_ <;> first | decide | (simp only [GA,↓GB,GX,simprocAttr,GDs];done)));intro os' s hR;obtain ⟨rfl,rfl⟩ := hR) | (refine Ctr.use (hb) hP hG [] ?_ rfl rfl ?_;(focus (refine LeR.of rfl trivial ?_ ?_ ?_ ?_ ?_ <;> first | decide | (simp only [GA,↓GB,GX,simprocAttr,GDs];done)));intro os' s hR;obtain ⟨rfl,rfl⟩ := hR));simp only [GA,↓GB,GX,simprocAttr,hnt,hT,h6,h7])|(refine and_mk ?_ ?_;(focus first | decide | omega | rfl | assumption | (simp only [LBs];omega) | (simp;done)))|(refine And.intro ?_ ?_))
      all_goals (try refine Done.mk ?_)
      all_goals (rw [if_neg (fun h => by cases h.1)] at hN0;simp only [respRO,respRV] at hN0;(refine hN0 _ _ ⟨[],_,_,?_,?_,?_,⟨rfl,rfl⟩⟩;(focus exact LeR.of rfl trivial (by simp only [GA,↓GB,GX,simprocAttr,GDs]) (by decide) rfl rfl rfl);rotate_left;(focus rfl));rfl)
  · have hg := getRespM_no he s hk
    have hb := bad_kind he
    have h6 := min6 0
    have h7 := min6w 0
    rw [show respR s = none by rw [respR,if_neg hk]]
    intro X0 hP0 hG0 N0 hN0
    refine CallVC.inline (f := 34) (by rw [hP0];exact Tryz.func34) rfl Tryz.ntmps34 rfl (by simp) ?_
    intro X K hU hnt hbl hK
    have hP : X.P = Tryz.prog := hU.P.trans hP0
    have hG := hG0.under hU
    have hT := Ty.T34 hP
    simp only [GA,↓GB,GX,simprocAttr] at hbl ⊢
    repeat' (first|(refine SX.select (d := ⟨[(0,vv (.string (B s))),(2,.one (.c (.loc 0 0))),(3,vv (.bool false)),(4,.one (.c (.loc 1 0))),(5,.one (.c (.loc 2 0))),(6,.one (.c (.loc 3 0))),(7,.one (.c (.loc 4 0))),(8,.one (.c (.loc 5 0)))],[.cells [.v (.int .i64 0),.v (.bool false),.v (.bool false),.v (.int .u64 0),.v (.int .u64 0),.v (.slice none 0 0),.v (.slice none 0 0)] 68,.cells [.v (.int .i64 0),.v (.bool false),.v (.bool false),.v (.int .u64 0),.v (.int .u64 0),.v (.slice none 0 0),.v (.slice none 0 0)] 68,.cells [.v (.int .u64 0)] 22,.cells [.v (.int .u64 0)] 22,.cells [.v (.int .u64 0)] 22,.cells [.v (.int .i64 2),.clo 73 [] [.loc 1 0]] 113]⟩) [0,1,2,3,4,5] (by (refine LeR.of ?_ ?_ ?_ ?_ ?_ ?_ ?_ <;> first | (rw [hbl];decide) | decide | (simp only [GA,↓GB,GX,simprocAttr,GDs];done) | (simp only [GA,↓GB,GX,simprocAttr,GDs];rfl;done))) (gp_region hP hnt hbl s (fun _ => True) _ ?_) <;> simp only [gpC,cond_true,List.nil_append,List.cons_append,GA,↓GB,GX,simprocAttr,hnt,hT])|(refine SX.seqK ?_;intro N hN)|((first | (refine SX.ops ?_));simp only [GA,↓GB,GX,simprocAttr,hnt,hT,h6,h7])|((first | refine SX.skip ?_ | refine SX.exit ?_ | refine SX.label ?_ | refine SX.ret ?_);try simp only [GA,↓GB,GX,simprocAttr])|(refine hN _ ?_;clear hN N)|((first | refine hK _ _ (FinI.ret3 ?_) | refine hK _ _ (FinI.nrm3 ?_));simp only [GA,↓GB,GX,simprocAttr,finP_s,hnt,hT,h6,h7];refine Done.out ?_)|((first | refine SX.cond rfl (fun hb => ?_) (fun hb => ?_) | (refine bif2.mk (fun hb => ?_) (fun hb => ?_) <;> (try simp only [hb,GA,↓GB,GX,simprocAttr,hnt,hT,h6,h7]))) <;> ((first | cases hb | (simp only [HBs] at hb) | skip) <;> (first | (exfalso;omega) | skip)))|((first | (refine Ctr.use (hg) hP hG [6,7,8,9,10,11,12,2,3,4,1] ?_ rfl rfl ?_;(focus (refine LeR.of rfl trivial ?_ ?_ ?_ ?_ ?_ <;> first | decide | (simp only [GA,↓GB,GX,simprocAttr,GDs];done)));intro os' s hR;obtain ⟨rfl,rfl⟩ := hR) | (refine Ctr.use (hb) hP hG [] ?_ rfl rfl ?_;(focus (refine LeR.of rfl trivial ?_ ?_ ?_ ?_ ?_ <;> first | decide | (simp only [GA,↓GB,GX,simprocAttr,GDs];done)));intro os' s hR;obtain ⟨rfl,rfl⟩ := hR));simp only [GA,↓GB,GX,simprocAttr,hnt,hT,h6,h7])|(refine and_mk ?_ ?_;(focus first | decide | omega | rfl | assumption | (simp only [LBs];omega) | (simp;done)))|(refine And.intro ?_ ?_))
    all_goals (try refine Done.mk ?_)
    all_goals (simp only [respRO,respRV] at hN0;(refine hN0 _ _ ⟨[],_,_,?_,?_,?_,⟨rfl,rfl⟩⟩;(focus exact LeR.of rfl trivial (by simp only [GA,↓GB,GX,simprocAttr,GDs]) (by decide) rfl rfl rfl);rotate_left;(focus rfl));rfl)
def FarU (X : Ctx) (q : Option Addr) (xs : List UInt8) : Prop := ∀ i,i < xs.length → ∃ ad : Addr,q = some ad ∧ ad.block ∉ X.own ∧ X.wi.cell? (ad.add (i * 1)) = some (.int .u8 (xs.getD i 0).toNat)
theorem FarU.under {X X' : Ctx} {q : Option Addr} {xs : List UInt8} (h : FarU X q xs) (hU : Under X X') : FarU X' q xs := fun i hi => by
  obtain ⟨ad,e,ho,hc⟩ := h i hi
  have := hU.cell hc (by rw [add_block];exact ho)
  exact ⟨ad,e,by have h2 := this.2;rwa [add_block] at h2,this.1⟩
structure UIn (X : Ctx) (ad : Addr) (i : Nat) (x : UInt8) : Prop where
  own : ad.block ∉ X.own
  cell : X.wi.cell? (ad.add (i * 1)) = some (.int .u8 x.toNat)
theorem uBlk {X : Ctx} {code : Code} {c : Cfg} {K : Exit → Cfg → Prop} {id i : Nat} {q : Option Addr} {xs : List UInt8} (h : FarU X q xs) (hi : i < xs.length)
    (h1 : ∀ ad,q = some ad → UIn X ad i (xs.getD i 0) → SX X code c (bx id K)) : SX X (.block id code) c K := by
  refine SX.block ?_
  obtain ⟨ad,e,ho,hv⟩ := h i hi
  exact h1 ad e ⟨ho,hv⟩
def nmV (x : UInt8) : List UInt8 := nameL x.toNat
theorem nm_take {xs : List UInt8} {i : Nat} (hi : i < xs.length) : (xs.take (i + 1)).map nmV = (xs.take i).map nmV ++ [nmV (xs.getD i 0)] := by
  rw [List.take_add_one,List.getElem?_eq_getElem hi,List.getD_eq_getElem?_getD,List.getElem?_eq_getElem hi,List.map_append];rfl
theorem nameList_ctr (xs : List UInt8) (q : Option Addr) (cap most : Nat) (hm : most ≤ 100) : CtrF Tryz.prog (fun X => FarU X q xs) 41 [] [vv (.slice q xs.length cap),vv (.int .i64 most)] (fun os v => os = [srow ((xs.take most).map nmV)] ∧ v = .one (.c (.row 0))) := by
  have hn : ∀ i,Ctr Tryz.prog [] 21 [] [vv (.int .u8 (xs.getD i 0).toNat)] (fun os v => os = [] ∧ v = vv (.string (B (nmV (xs.getD i 0))))) := fun i => name_ctr (xs.getD i 0).toNat (by have := (xs.getD i 0).toNat_lt;omega)
  refine CtrF.less ?_
  intro X0 hP0 hG0 N0 hN0
  refine CallVC.inline (f := 41) (by rw [hP0];exact Tryz.func41) rfl Tryz.ntmps41 rfl (by simp) ?_
  intro X K hU hnt hbl hK
  have hP : X.P = Tryz.prog := hU.P.trans hP0
  have hG := hG0.under hU
  have hT := Ty.T41 hP
  simp only [GA,↓GB,GX,simprocAttr] at hbl ⊢
  repeat' (first|(refine SX.asRow (t := 5) 9 1 rfl ⟨_,rfl⟩ ?_)|(refine uBlk (id := 1) (i := i) hG (by omega) (fun ad hE D => ?_) <;> subst hE)|(refine SX.seqK ?_;intro N hN)|((first | (refine SX.ops ?_));simp only [GA,↓GB,GX,simprocAttr,hnt,hT])|((first | refine SX.skip ?_ | refine SX.exit ?_ | refine SX.label ?_ | refine SX.ret ?_);try simp only [GA,↓GB,GX,simprocAttr])|(refine hN _ ?_;clear hN N)|((first | refine hK _ _ (FinI.ret3 ?_) | refine hK _ _ (FinI.nrm3 ?_));simp only [GA,↓GB,GX,simprocAttr,finP_s,hnt,hT];refine Done.out ?_)|(clear hN N;first | (refine hN _ ?_;clear hN N) | (clear hN N;refine hN _ ?_;clear hN N))|((first | refine SX.cond rfl (fun hb => ?_) (fun hb => ?_) | (refine bif2.mk (fun hb => ?_) (fun hb => ?_) <;> (try simp only [hb,GA,↓GB,GX,simprocAttr,hnt,hT]))) <;> ((first | cases hb | (simp only [HBs] at hb) | skip) <;> (first | (exfalso;omega) | skip)))|((first | (refine Ctr.use (hn i) hP ?_ [] ?_ rfl rfl ?_;(focus (intro p hp;cases hp));(focus (refine LeR.of rfl trivial ?_ ?_ ?_ ?_ ?_ <;> first | decide | (simp only [GA,↓GB,GX,simprocAttr,GDs];done)));intro os' s hR;obtain ⟨rfl,rfl⟩ := hR));simp only [GA,↓GB,GX,simprocAttr,hnt,hT])|(refine ⟨_,D.cell,?_⟩ <;> (try simp only [GA,↓GB,GX,simprocAttr,hnt,hT]))|(exact D.own)|(refine SX.loop (ι := { i : Nat // i ≤ xs.length ∧ i ≤ most }) (fun i => ⟨[(0,vv (.slice q xs.length cap)),(1,vv (.int .i64 most)),(4,vv (.slice none 0 0)),(5,.one (.c (.row 0))),(6,vv (.int .i64 i.1))],[srow ((xs.take i.1).map nmV)]⟩) (fun i => xs.length - i.1) ⟨0,Nat.zero_le _,Nat.zero_le _⟩ ⟨[0],by (refine LeR.of ?_ ?_ ?_ ?_ ?_ ?_ ?_ <;> first | (rw [hbl];decide) | decide | (simp only [GA,↓GB,GX,simprocAttr,GDs];done) | (simp only [GA,↓GB,GX,simprocAttr,GDs];rfl;done))⟩ ?_ <;> rintro ⟨i,hi,hi2⟩ <;> simp only [] at hi hi2 ⊢)|(refine SX.block ?_)|(refine and_mk ?_ ?_;(focus first | decide | omega | rfl | assumption | (simp only [LBs];omega) | (simp;done)))|(refine And.intro ?_ ?_))
  all_goals (try refine Done.mk ?_)
  · rw [add_block];exact D.own
  · simp only [List.length_map,List.length_take];omega
  · have e := srow_snoc ((xs.take i).map nmV) (nmV (xs.getD i 0))
    rw [← nm_take (by omega)] at e
    rw [e]
    exact ⟨⟨i + 1,by omega,by omega⟩,[2],by (refine LeR.of ?_ ?_ ?_ ?_ ?_ ?_ ?_ <;> first | (rw [hbl];decide) | decide | (simp only [GA,↓GB,GX,simprocAttr,GDs];done) | (simp only [GA,↓GB,GX,simprocAttr,GDs];first | (rw [wI64 (by omega) (by omega)];rfl) | rfl;done)),by show xs.length - (i + 1) < xs.length - i;omega⟩
  all_goals
    have e : xs.take most = xs.take i := by
      first | (rw [show most = i by omega]) | (rw [List.take_of_length_le (i := i) (by omega),List.take_of_length_le (i := most) (by omega)])
    rw [e] at hN0
    (refine hN0 _ _ ⟨[0],_,_,?_,?_,?_,⟨rfl,rfl⟩⟩;(focus exact LeR.of rfl trivial (by simp only [GA,↓GB,GX,simprocAttr,GDs]) (by decide) rfl rfl rfl);rotate_left;(focus rfl))
    rfl
end Go.Proofs.YtbdacbcpniegiaaGreatDoor.Q
namespace Go.Proofs.YtbdacbcpniegiaaGreatDoor
open Go Go.RowKit Go.Proofs Go.Sx
theorem nameL_right : ∀ n : Fin 256,¬ n.val % 16 = 15 → nameB (nameL n.val) = true := by decide +kernel
theorem nameL_star : ∀ n : Fin 256,(nameL n.val == [42]) = decide (n.val % 16 = 15) := by decide +kernel
end Go.Proofs.YtbdacbcpniegiaaGreatDoor
namespace Go.Proofs.YtbdacbcpniegiaaGreatDoor.Q
open Go Go.RowKit Go.Proofs Go.Sx
def nmK (x : UInt8) : Bool := !decide (x.toNat % 16 = 15)
def hvN (x : UInt8) : HvS := (nmV x,x.toNat / 4)
def askSb (l : List UInt8) : List (List UInt8) := (l.take 12).map nmV
def askUn (dl : Bool) (m : List UInt8) : List (List UInt8) := if dl then (m.take 6).map nmV else []
def askHv (dl : Bool) (m : List UInt8) : List HvS := if dl then ((m.take 4).filter nmK).map hvN else []
def askDet (q : Nat) (d : List UInt8) : List UInt8 := if 0 < q % 6 then d.take 40 else []
def rsN (t : Int) (x : UInt8) : Rs := ⟨t,nmV x,1 + x.toNat / 8,false,[98]⟩
def tellRs (t : Int) (l : List UInt8) : List Rs := ((l.take 12).filter nmK).map (rsN t)
def tellRm (dl : Bool) (m : List UInt8) : List (List UInt8) := if dl then ((m.take 6).filter nmK).map nmV else []
theorem nmV_star (x : UInt8) : starB (nmV x) = true := by
  have h : x.toNat < 256 := x.toNat_lt
  have h3 := nameL_star ⟨x.toNat,h⟩
  simp only at h3
  unfold nmV
  by_cases hx : x.toNat % 16 = 15
  · rw [starB,h3];simp [hx]
  · have h4 := nameL_right ⟨x.toNat,h⟩ hx
    simp only at h4
    rw [starB,h4];simp
theorem nmV_name (x : UInt8) (hx : nmK x = true) : nameB (nmV x) = true := by
  have h : x.toNat < 256 := x.toNat_lt
  exact nameL_right ⟨x.toNat,h⟩ (by simpa [nmK] using hx)
theorem nmV_nostar (x : UInt8) (hx : nmK x = true) : (nmV x == [42]) = false := by
  have h3 := nameL_star ⟨x.toNat,x.toNat_lt⟩
  simp only at h3
  unfold nmV
  rw [h3];simpa [nmK] using hx
theorem tN_1 (t : Int) : 1 ≤ (tN t : Int) ∧ (tN t : Int) ≤ 5 := by unfold tN;omega
theorem askSb_len (l : List UInt8) : (askSb l).length ≤ 12 := by simp [askSb];omega
theorem askUn_len (dl : Bool) (l : List UInt8) : (askUn dl l).length ≤ 6 := by cases dl <;> simp [askUn];omega
theorem filter_le {α : Type} (p : α → Bool) (l : List α) : (l.filter p).length ≤ l.length := List.length_filter_le p l
theorem askHv_len (dl : Bool) (l : List UInt8) : (askHv dl l).length ≤ 4 := by
  cases dl <;> simp [askHv]
  have := filter_le nmK (l.take 4);rw [List.length_take] at this;omega
theorem tellRs_len (t : Int) (l : List UInt8) : (tellRs t l).length ≤ 12 := by
  simp only [tellRs,List.length_map]
  have := filter_le nmK (l.take 12);rw [List.length_take] at this;omega
theorem tellRm_len (dl : Bool) (l : List UInt8) : (tellRm dl l).length ≤ 6 := by
  cases dl <;> simp [tellRm]
  have := filter_le nmK (l.take 6);rw [List.length_take] at this;omega
theorem askDet_len (q : Nat) (d : List UInt8) : (askDet q d).length ≤ 40 := by unfold askDet;split <;> simp;omega
theorem askSb_ok (l : List UInt8) : (askSb l).all starB = true := by
  simp only [askSb,List.all_eq_true,List.mem_map]
  rintro s ⟨x,_,rfl⟩;exact nmV_star x
theorem askUn_ok (dl : Bool) (l : List UInt8) : (askUn dl l).all starB = true := by
  cases dl
  · rfl
  · simp only [askUn,if_true,List.all_eq_true,List.mem_map]
    rintro s ⟨x,_,rfl⟩;exact nmV_star x
theorem askHv_ok (dl : Bool) (l : List UInt8) : ((askHv dl l).map (·.1)).all nameB = true := by
  cases dl
  · rfl
  · simp only [askHv,if_true,List.all_eq_true,List.mem_map,List.mem_filter]
    rintro s ⟨h,⟨x,⟨_,hx⟩,rfl⟩,rfl⟩;exact nmV_name x hx
theorem tellRm_ok (dl : Bool) (l : List UInt8) : (tellRm dl l).all nameB = true := by
  cases dl
  · rfl
  · simp only [tellRm,if_true,List.all_eq_true,List.mem_map,List.mem_filter]
    rintro s ⟨x,⟨_,hx⟩,rfl⟩;exact nmV_name x hx
theorem rightB_nm {t : Int} (h1 : 1 ≤ t) (h2 : t ≤ 5) (x : UInt8) (hx : nmK x = true) : rightB (rsN t x) = true := by
  have h : x.toNat < 256 := x.toNat_lt
  have a1 : (0 : Int) < ((1 + x.toNat / 8 : Nat) : Int) := by omega
  have a2 : ((1 + x.toNat / 8 : Nat) : Int) ≤ 4611686018427387904 := by omega
  simp only [rightB,rsN,keyB,nmV_name x hx,nmV_nostar x hx,h1,h2,a1,a2,decide_true,Bool.or_true,Bool.true_and,Bool.and_true,Bool.not_false,Bool.false_and,List.length_cons,List.length_nil]
  rfl
theorem idxI_none {p : Rs → Bool} {l : List Rs} (h : ∀ x ∈ l,p x = false) : idxI p l = -1 := by
  unfold idxI
  rw [List.findIdx?_eq_none_iff.2 (by simpa using h)]
theorem idxI_some {p : Rs → Bool} {l : List Rs} {x : Rs} (hx : x ∈ l) (h : p x = true) : 0 ≤ idxI p l := by
  unfold idxI
  cases e : l.findIdx? p with
  | none =>
    rw [List.findIdx?_eq_none_iff] at e
    have := e x hx
    rw [h] at this;cases this
  | some i => simp
theorem tellRs_ok (t : Int) (h1 : 1 ≤ t) (h2 : t ≤ 5) (l : List UInt8) : ∀ r ∈ tellRs t l,wrongB t r = false := by
  simp only [tellRs,List.mem_map,List.mem_filter]
  rintro r ⟨x,⟨_,hx⟩,rfl⟩
  rw [wrongB,rightB_nm h1 h2 x hx];simp [rsN]
theorem ask_right (t : Int) (dl : Bool) (q : Nat) (d l m : List UInt8) : reqB (tN t) dl (q % 6) (askSb l) (askUn dl m) (askHv dl m) (askDet q d) = true := by
  have h0 := tN_1 t
  have h1 := askSb_len l
  have h2 := askUn_len dl m
  have h3 := askHv_len dl m
  have h4 := askDet_len q d
  have e1 : ((askSb l).length : Int) ≤ 64 := by omega
  have e2 : ((askUn dl m).length : Int) ≤ 64 := by omega
  have e3 : (((askHv dl m).map (·.1)).length : Int) ≤ 64 := by rw [List.length_map];omega
  have e4 : ((askDet q d).length : Int) ≤ 256 := by omega
  have e5 : (decide (0 < ((q % 6 : Nat) : Int)) || askDet q d == []) = true := by
    by_cases h : 0 < q % 6
    · have : (0 : Int) < ((q % 6 : Nat) : Int) := by omega
      simp only [this,decide_true,Bool.true_or]
    · simp [askDet,h]
  have e6 : (dl || (((askUn dl m).length : Int) + ((askHv dl m).length : Int) == 0)) = true := by cases dl <;> simp [askUn,askHv]
  simp only [reqB,h0.1,h0.2,e1,e2,e3,e4,e5,e6,askSb_ok,askUn_ok,askHv_ok,decide_true,Bool.true_and,Bool.and_true]
theorem tell_right (t : Int) (dl mo : Bool) (q : Nat) (l m : List UInt8) : respB (tN t) dl (mo && dl) (1 + q % 6) (tellRs (tN t) l) (tellRm dl m) = true := by
  have h0 := tN_1 t
  have h1 := tellRs_len (tN t) l
  have h2 := tellRm_len dl m
  have e1 : ((tellRs (tN t) l).length : Int) ≤ 64 := by omega
  have e2 : ((tellRm dl m).length : Int) ≤ 64 := by omega
  have e3 := idxI_none (tellRs_ok (tN t) h0.1 h0.2 l)
  have e5 : (0 : Int) < ((1 + q % 6 : Nat) : Int) := by omega
  have e6 : (dl || (((tellRm dl m).length : Int) == 0 && !(mo && dl))) = true := by cases dl <;> simp [tellRm]
  simp only [respB,h0.1,h0.2,e1,e2,e3,e5,e6,tellRm_ok,decide_true,Bool.true_and,Bool.and_true]
  rfl
end Go.Proofs.YtbdacbcpniegiaaGreatDoor.Q
