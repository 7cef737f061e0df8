/- Own work: a part of the symbolic executor and of the walks of the functions that the claim reaches. -/
import Derived.Test.YtbdacbcpniegiaaGreatDoorBase3
set_option maxRecDepth 100000
set_option maxHeartbeats 64000000
set_option linter.unusedSimpArgs false
set_option linter.unusedVariables false
namespace Go.Sx
open Go Go.RowKit
theorem ren_cond (sel : List Nat) (b : Bool) (x y : SV) : SV.ren sel (bif b then x else y) = bif b then x.ren sel else y.ren sel := by cases b <;> rfl
theorem okB_cond (n : Nat) (b : Bool) (x y : SV) : SV.okB n (bif b then x else y) = bif b then x.okB n else y.okB n := by cases b <;> rfl
theorem lren_cond (sel : List Nat) (b : Bool) (x y : LO) : LO.ren sel (bif b then x else y) = bif b then x.ren sel else y.ren sel := by cases b <;> rfl
theorem lokB_cond (n : Nat) (b : Bool) (x y : LO) : LO.okB n (bif b then x else y) = bif b then x.okB n else y.okB n := by cases b <;> rfl
theorem map_cond {α β : Type} (f : α → β) (b : Bool) (x y : List α) : (bif b then x else y).map f = bif b then x.map f else y.map f := by cases b <;> rfl
theorem all_cond {α : Type} (f : α → Bool) (b : Bool) (x y : List α) : (bif b then x else y).all f = bif b then x.all f else y.all f := by cases b <;> rfl
theorem dNot {ops : Array Oper} {M : Nat → Bool} {i j : Nat} {oj : Oper} {e : Edge} (hd : DOk ops M i) (hj : ops[j]? = some oj) (he : e ∈ oj.after) (hb : Region.binds .any e = true) (h : M e.on = false) : M j = false := by
  cases hm : M j with
  | false => rfl
  | true => rw [hd.cl j oj hj hm e he hb] at h;cases h
theorem CSs : type_of% (And.intro ren_cond (And.intro okB_cond (And.intro lren_cond lokB_cond))) ∧ (∀ (α β : Type) (f : α → β) (b : Bool) (x y : List α),(bif b then x else y).map f = bif b then x.map f else y.map f) ∧ (∀ (α : Type) (f : α → Bool) (b : Bool) (x y : List α),(bif b then x else y).all f = bif b then x.all f else y.all f) ∧ (∀ (α : Type) (b : Bool) (x : α),(bif b then x else x) = x) ∧ (∀ (α : Type) (x y : α),(bif true then x else y) = x) ∧ (∀ (α : Type) (x y : α),(bif false then x else y) = y) ∧ (∀ (α β : Type) (f : α → β) (l m : List α),(l ++ m).map f = l.map f ++ m.map f) ∧ (∀ (α : Type) (f : α → Bool) (l m : List α),(l ++ m).all f = (l.all f && m.all f)) ∧ (∀ (α β : Type) (f : α → β) (a : α) (l : List α),(a :: l).map f = f a :: l.map f) ∧ (∀ (α β : Type) (f : α → β),([] : List α).map f = []) ∧ (∀ b : Bool,(b && true) = b) :=
  ⟨And.intro ren_cond (And.intro okB_cond (And.intro lren_cond lokB_cond)),fun _ _ => map_cond,fun _ => all_cond,fun _ b x => by cases b <;> rfl,fun _ _ _ => rfl,fun _ _ _ => rfl,fun _ _ _ _ _ => List.map_append,fun _ _ _ _ => List.all_append,fun _ _ _ _ _ => rfl,fun _ _ _ => rfl,fun b => by cases b <;> rfl⟩
theorem dN {ops : Array Oper} {M : Nat → Bool} {i j : Nat} {oj : Oper} (hd : DOk ops M i) (hj : ops[j]? = some oj) (k : Nat) {e : Edge} (he : oj.after[k]? = some e) (hb : Region.binds .any e = true) (h : M e.on = false) : M j = false := dNot hd hj (Array.mem_of_getElem? he) hb h
theorem dC {ops : Array Oper} {M : Nat → Bool} {i j : Nat} {oj : Oper} (hd : DOk ops M i) (hj : ops[j]? = some oj) (hm : M j = true) (k : Nat) {e : Edge} (he : oj.after[k]? = some e) (hb : Region.binds .any e = true) : M e.on = true := hd.cl j oj hj hm e (Array.mem_of_getElem? he) hb
theorem dD {ops : Array Oper} {M : Nat → Bool} {i : Nat} {oj : Oper} (hd : DOk ops M i) (hj : ops[i]? = some oj) (k : Nat) {e : Edge} (he : oj.after[k]? = some e) (hb : Region.binds .any e = true) : M e.on = true := hd.dep oj hj e (Array.mem_of_getElem? he) hb
theorem Imp.deads {X : Ctx} {c : Cfg} : ∀ (ts : List Nat),(ts.all fun t => decide (t < X.nt)) = true → Imp X c { c with env := ts.foldl (fun e t => (t,.one (.c .dead)) :: e) c.env }
  | [],_ => Imp.refl
  | t :: ts,h => by
    simp only [List.all_cons,Bool.and_eq_true,decide_eq_true_eq] at h
    exact (Imp.dead (t := t) h.1).trans (Imp.deads (c := { c with env := (t,.one (.c .dead)) :: c.env }) ts h.2)
end Go.Sx
namespace Go.Proofs.YtbdacbcpniegiaaGreatDoor
open Go Go.RowKit Go.Proofs Go.Sx
abbrev ddd : SV := .one (.c .dead)
def nk (k : Int) : Value → Bool
  | .int _ a => a != k
  | _ => false
theorem look_nk {k : Int} : ∀ {es : List (Value × S1)},(es.all fun p => nk k p.1) = true → Look (.int .i64 k) es none
  | [],_ => .nil
  | p :: es,h => by
    simp only [List.all_cons,Bool.and_eq_true] at h
    refine .miss (fun e => ?_) (look_nk h.2)
    have h1 := h.1
    rw [← e] at h1
    simp [nk] at h1
@[reducible] def srow (l : List (List UInt8)) : LO := .row 9 1 l.length (l.map fun s => .string (B s))
def hcells (l : List (List UInt8 × Nat)) : List Value := l.flatMap fun h => [.string (B h.1),.int .u64 (h.2 : Int)]
@[reducible] def hrow (l : List (List UInt8 × Nat)) : LO := .row 91 2 l.length (hcells l)
def hvC (q : Nat) (sb un : List (List UInt8)) (hv : List (List UInt8 × Nat)) (d : List UInt8) (f : NW.Fld) (M : Nat → Bool) : Cfg :=
  ⟨[(13,bif M 9 then .one (.c (.row 6)) else ddd),(12,bif M 7 then .one (.agg [.v (.int .i64 0),.clo 88 [] [.loc 8 0]]) else ddd),(11,bif M 6 then .one (.c (.loc 5 1)) else ddd),(10,bif M 4 then .one (.agg [.v (.int .i64 2),.clo 87 [] [.loc 7 0]]) else ddd),(9,bif M 3 then .one (.c (.loc 5 0)) else ddd),(8,bif M 2 then .one (.c (.row 6)) else ddd),(7,bif M 1 then vv (.string (B f.s)) else ddd),(6,bif M 0 then .one (.c (.loc 4 3)) else ddd),
    (1,.one (.c (.loc 0 0))),(3,vv (.bool false)),(4,.one (.c (.loc 5 0))),(2,.one (.c (.loc 4 0)))],
   [.cells [.v (.int .i64 0),.v (.bool false),.v (.int .u64 q),.row 1,.row 2,.row 3,.v (.string (B d))] 26,srow sb,srow un,hrow hv,.cells [.v (.int .i64 f.num),.v (.int .i64 f.kind),.v (.int .u64 f.n),.v (.string (B f.s))] 109,.cells [.v (.string (B [])),.v (.int .u64 0)] 91,
    bif M 2 then .map ((bif M 5 then [(.int .i64 1,.agg [.v (.int .i64 2),.clo 87 [] [.loc 7 0]])] else []) ++ (bif M 8 then [(.int .i64 2,.agg [.v (.int .i64 0),.clo 88 [] [.loc 8 0]])] else [])) else .gone,bif M 4 then .cells [.loc 5 0] 115 else .gone,bif M 7 then .cells [.loc 5 1] 117 else .gone]⟩
theorem hrow_snoc (l : List HvS) (h : HvS) : LO.row 91 2 (l.length + 1) (hcells l ++ [.string (B h.1),.int .u64 (h.2 : Int)]) = hrow (l ++ [h]) := by
  simp only [hrow,List.length_append,List.length_cons,List.length_nil,hcells,List.flatMap_append];rfl
theorem have_ctr {e : EA} (he : e.Ok) (q : Nat) (sb un : List (List UInt8)) (hv : List HvS) (d : List UInt8) (f : NW.Fld) (hs : f.s.length ≤ 1099511627776) (hl : hv.length ≤ 1099511627776) (ok : Bool) (h : HvS) (ht : takeB stepH f.s ([],0) = (h,ok)) :
    Ctr Tryz.prog (GE e) 51 [.cells [.v (.int .i64 0),.v (.bool false),.v (.int .u64 q),.row 1,.row 2,.row 3,.v (.string (B d))] 26,srow sb,srow un,hrow hv] [.one (.agg [.v (.int .i64 f.num),.v (.int .i64 f.kind),.v (.int .u64 f.n),.v (.string (B f.s))]),.one (.c (.loc 0 0))]
      (fun os v => os = [.cells [.v (.int .i64 0),.v (.bool false),.v (.int .u64 q),.row 1,.row 2,.row 4,.v (.string (B d))] 26,srow sb,srow un,.gone,hrow (hv ++ [h])] ∧ v = vv (.bool ok)) := by
  have htk := takeHave_ctr he f.s hs ([],0)
  rw [ht] at htk
  simp only [haveO] at htk
  have hbad : Ctr Tryz.prog (GE e) 55 [] [vv (okV e ok)] (fun os v => os = [] ∧ v = vv (.bool (!ok))) := by
    cases ok with
    | true => exact bad_nil he
    | false => exact bad_form he
  generalize okV e ok = ev at htk hbad
  refine Ctr.less ?_
  intro X0 hP0 hG0 N0 hN0
  refine CallVC.inline (f := 51) (by rw [hP0];exact Tryz.func51) rfl Tryz.ntmps51 rfl (by simp) ?_
  intro X K hU hnt hbl hK
  have hP : X.P = Tryz.prog := hU.P.trans hP0
  have hG := hG0.under hU
  have hT := Ty.T51 hP
  simp only [GA,↓GB,GX,simprocAttr] at hbl ⊢
  have hag : aggOf X.P 113 = some true := by rw [hP];kernel_rfl
  repeat' (first|(refine SX.seqK ?_;intro N hN)|((first | (refine SX.ops ?_));simp only [GA,↓GB,GX,simprocAttr,hnt,hT,hag])|((first | refine SX.skip ?_ | refine SX.exit ?_ | refine SX.label ?_ | refine SX.ret ?_);try simp only [GA,↓GB,GX,simprocAttr])|(refine hN _ ?_;clear hN N)|((first | refine hK _ _ (FinI.ret3 ?_) | refine hK _ _ (FinI.nrm3 ?_));simp only [GA,↓GB,GX,simprocAttr,finP_s,hnt,hT,hag];refine Done.out ?_)|(refine bif2.mk (fun hb => ?_) (fun hb => ?_) <;> (try simp only [hb,GA,↓GB,GX,simprocAttr,hnt,hT,hag]) <;> ((first | cases hb | (simp only [HBs] at hb) | skip) <;> (first | (exfalso;omega) | skip)))|(refine and_mk ?_ ?_;(focus first | decide | omega | rfl | assumption | (simp only [LBs];omega) | (simp;done)))|(refine And.intro ?_ ?_))
  all_goals (try refine Done.mk ?_)
  refine SX.dia (id := 2) [0,1,2,3,4,5,6,7,8,9] (hvC q sb un hv d f) [.s 10,.s 11] (hvC q sb un hv d f (fun _ => true)) ?_ ?_ ?_ ?_ rfl ?_
  · rw [hP];kernel_rfl
  · kernel_rfl
  · refine Imp.trans (Imp.le [0,1,2,3,4,5] (d := ⟨[(1,.one (.c (.loc 0 0))),(3,vv (.bool false)),(4,.one (.c (.loc 5 0))),(2,.one (.c (.loc 4 0)))],[.cells [.v (.int .i64 0),.v (.bool false),.v (.int .u64 q),.row 1,.row 2,.row 3,.v (.string (B d))] 26,srow sb,srow un,hrow hv,.cells [.v (.int .i64 f.num),.v (.int .i64 f.kind),.v (.int .u64 f.n),.v (.string (B f.s))] 109,.cells [.v (.string (B [])),.v (.int .u64 0)] 91]⟩) (by (refine LeR.of ?_ ?_ ?_ ?_ ?_ ?_ ?_ <;> first | (rw [hbl];decide) | decide | (simp only [GA,↓GB,GX,simprocAttr,GDs];done) | (simp only [GA,↓GB,GX,simprocAttr,GDs];rfl;done)))) ?_
    refine Imp.trans (Imp.deads [6,7,8,9,10,11,12,13] (by rw [hnt];decide)) ?_
    refine Imp.trans Imp.gone ?_
    refine Imp.trans Imp.gone ?_
    refine Imp.trans Imp.gone ?_
    exact Imp.refl
  · rintro M i hi hd
    simp only [List.mem_cons,List.not_mem_nil,or_false] at hi
    rcases hi with rfl | rfl | rfl | rfl | rfl | rfl | rfl | rfl | rfl | rfl
    · have n1 : M 1 = false := dN hd rfl 0 rfl rfl hd.un
      have hun := hd.un
      refine ⟨_,rfl,rfl,?_⟩
      simp only [hvC,upd,↓reduceIte,Nat.reduceEqDiff,reduceCtorEq,hun,n1,CSs,List.nil_append,List.cons_append,simprocAttr]
      refine vcOp_sound ?_
      simp only [GA,↓GB,GX,simprocAttr,hnt,hT]
      repeat' (refine and_mk ?_ ?_;(focus first | decide | omega | rfl | assumption))
      all_goals (refine Imp.le [0,1,2,3,4,5,6,7,8] ?_;(refine LeR.of ?_ ?_ ?_ ?_ ?_ ?_ ?_ <;> first | (rw [hbl];decide) | decide | (simp only [GA,↓GB,GX,simprocAttr,GDs,CSs];done)))
    · have m0 : M 0 = true := dD hd rfl 0 rfl rfl
      have hun := hd.un
      refine ⟨_,rfl,rfl,?_⟩
      simp only [hvC,upd,↓reduceIte,Nat.reduceEqDiff,reduceCtorEq,hun,m0,CSs,List.nil_append,List.cons_append,simprocAttr]
      refine vcOp_sound ?_
      simp only [GA,↓GB,GX,simprocAttr,hnt,hT]
      repeat' (refine and_mk ?_ ?_;(focus first | decide | omega | rfl | assumption))
      all_goals (refine Imp.le [0,1,2,3,4,5,6,7,8] ?_;(refine LeR.of ?_ ?_ ?_ ?_ ?_ ?_ ?_ <;> first | (rw [hbl];decide) | decide | (simp only [GA,↓GB,GX,simprocAttr,GDs,CSs];done)))
    · have n5 : M 5 = false := dN hd rfl 0 rfl rfl hd.un
      have n8 : M 8 = false := dN hd rfl 0 rfl rfl hd.un
      have n9 : M 9 = false := dN hd rfl 0 rfl rfl hd.un
      have hun := hd.un
      refine ⟨_,rfl,rfl,?_⟩
      simp only [hvC,upd,↓reduceIte,Nat.reduceEqDiff,reduceCtorEq,hun,n5,n8,n9,CSs,List.nil_append,List.cons_append,simprocAttr]
      refine vcOp_sound ?_
      simp only [GA,↓GB,GX,simprocAttr,hnt,hT]
      repeat' (refine and_mk ?_ ?_;(focus first | decide | omega | rfl | assumption))
      all_goals (refine Imp.le [0,1,2,3,4,5,9,7,8] ?_;(refine LeR.of ?_ ?_ ?_ ?_ ?_ ?_ ?_ <;> first | (rw [hbl];decide) | decide | (simp only [GA,↓GB,GX,simprocAttr,GDs,CSs];done)))
    · have n4 : M 4 = false := dN hd rfl 0 rfl rfl hd.un
      have n5 : M 5 = false := dN hd rfl 1 rfl rfl n4
      have n7 : M 7 = false := dN hd rfl 1 rfl rfl n4
      have n8 : M 8 = false := dN hd rfl 1 rfl rfl n7
      have n9 : M 9 = false := dN hd rfl 1 rfl rfl hd.un
      have hun := hd.un
      refine ⟨_,rfl,rfl,?_⟩
      simp only [hvC,upd,↓reduceIte,Nat.reduceEqDiff,reduceCtorEq,hun,n4,n5,n7,n8,n9,CSs,List.nil_append,List.cons_append,simprocAttr]
      refine vcOp_sound ?_
      simp only [GA,↓GB,GX,simprocAttr,hnt,hT]
      repeat' (refine and_mk ?_ ?_;(focus first | decide | omega | rfl | assumption))
      all_goals (refine Imp.le [0,1,2,3,4,5,6,7,8] ?_;(refine LeR.of ?_ ?_ ?_ ?_ ?_ ?_ ?_ <;> first | (rw [hbl];decide) | decide | (simp only [GA,↓GB,GX,simprocAttr,GDs,CSs];done)))
    · have m3 : M 3 = true := dD hd rfl 0 rfl rfl
      have n5 : M 5 = false := dN hd rfl 1 rfl rfl hd.un
      have n7 : M 7 = false := dN hd rfl 1 rfl rfl hd.un
      have n8 : M 8 = false := dN hd rfl 1 rfl rfl n7
      have n9 : M 9 = false := dN hd rfl 2 rfl rfl hd.un
      have hun := hd.un
      refine ⟨_,rfl,rfl,?_⟩
      simp only [hvC,upd,↓reduceIte,Nat.reduceEqDiff,reduceCtorEq,hun,m3,n5,n7,n8,n9,CSs,List.nil_append,List.cons_append,simprocAttr]
      refine vcOp_sound ?_
      simp only [GA,↓GB,GX,simprocAttr,hnt,hT]
      have hnt1 := True.intro;have hT1 := True.intro;have hU1P := True.intro
      repeat' (first|(refine SX.seqK ?_;intro N hN)|((first | (refine SX.ops ?_));simp only [GA,↓GB,GX,simprocAttr,hnt,hT,hnt1,hT1,hU1P,hag])|((first | refine SX.skip ?_ | refine SX.exit ?_ | refine SX.label ?_ | refine SX.ret ?_);try simp only [GA,↓GB,GX,simprocAttr])|(refine hN _ ?_;clear hN N)|((first | refine hK1 _ _ (FinI.ret3 ?_) | refine hK1 _ _ (FinI.nrm3 ?_));(repeat (clear hN N));clear hK1 K1;simp only [GA,↓GB,GX,simprocAttr,finP_s,hnt,hT,hnt1,hT1,hU1P,hag])|((first | refine hK _ _ (FinI.ret3 ?_) | refine hK _ _ (FinI.nrm3 ?_));simp only [GA,↓GB,GX,simprocAttr,finP_s,hnt,hT,hnt1,hT1,hU1P,hag];refine Done.out ?_)|(refine bif2.mk (fun hb => ?_) (fun hb => ?_) <;> (try simp only [hb,GA,↓GB,GX,simprocAttr,hnt,hT,hnt1,hT1,hU1P,hag]) <;> ((first | cases hb | (simp only [HBs] at hb) | skip) <;> (first | (exfalso;omega) | skip)))|(refine CallVC.inline (f := 54) ?_ rfl Tryz.ntmps54 rfl ?_ ?_;(focus rw [hP];exact Tryz.func54);(focus simp);have hT1 := Ty.T54 hP;intro X1 K1 hU1 hnt1 hbl1 hK1;have hU1P := hU1.P;simp only [GA,↓GB,GX,simprocAttr] at hbl1 ⊢)|(refine CallVC.inline (f := 53) ?_ rfl Tryz.ntmps53 rfl ?_ ?_;(focus rw [hP];exact Tryz.func53);(focus simp);have hT1 := Ty.T53 hP;intro X1 K1 hU1 hnt1 hbl1 hK1;have hU1P := hU1.P;simp only [GA,↓GB,GX,simprocAttr] at hbl1 ⊢)|(refine and_mk ?_ ?_;(focus first | decide | omega | rfl | assumption | (simp only [LBs];omega) | (simp;done)))|(refine And.intro ?_ ?_))
      all_goals (try refine Done.mk ?_)
      all_goals (refine Imp.le [0,1,2,3,4,5,6,9,8] ?_;(refine LeR.of ?_ ?_ ?_ ?_ ?_ ?_ ?_ <;> first | (rw [hbl];decide) | decide | (simp only [GA,↓GB,GX,simprocAttr,GDs,CSs];done)))
    · have m2 : M 2 = true := dD hd rfl 0 rfl rfl
      have m4 : M 4 = true := dD hd rfl 1 rfl rfl
      have n9 : M 9 = false := dN hd rfl 3 rfl rfl hd.un
      have hun := hd.un
      refine ⟨_,rfl,rfl,?_⟩
      simp only [hvC,upd,↓reduceIte,Nat.reduceEqDiff,reduceCtorEq,hun,m2,m4,n9,CSs,List.nil_append,List.cons_append,simprocAttr]
      refine VO.insert (kt := 3) (et := 113) (i := 6) (kv := .int .i64 1) (s := .agg [.v (.int .i64 2),.clo 87 [] [.loc 7 0]]) (kd := .int .i64) rfl rfl rfl rfl (by rw [hP];kernel_rfl) (by rw [hP];kernel_rfl) rfl (by simp [all_cond,KeyOf]) (look_nk (by simp [all_cond,nk])) ?_
      refine Imp.perm (i := 6) rfl ?_
      try simp only [List.append_assoc,List.nil_append,List.cons_append,List.append_nil]
      repeat (first | exact List.Perm.refl _ | exact List.perm_append_singleton _ _ | refine List.Perm.append_left _ ?_)
    · have n7 : M 7 = false := dN hd rfl 0 rfl rfl hd.un
      have n8 : M 8 = false := dN hd rfl 1 rfl rfl n7
      have n9 : M 9 = false := dN hd rfl 4 rfl rfl hd.un
      have hun := hd.un
      refine ⟨_,rfl,rfl,?_⟩
      simp only [hvC,upd,↓reduceIte,Nat.reduceEqDiff,reduceCtorEq,hun,n7,n8,n9,CSs,List.nil_append,List.cons_append,simprocAttr]
      refine vcOp_sound ?_
      simp only [GA,↓GB,GX,simprocAttr,hnt,hT]
      repeat' (refine and_mk ?_ ?_;(focus first | decide | omega | rfl | assumption))
      all_goals (refine Imp.le [0,1,2,3,4,5,6,7,8] ?_;(refine LeR.of ?_ ?_ ?_ ?_ ?_ ?_ ?_ <;> first | (rw [hbl];decide) | decide | (simp only [GA,↓GB,GX,simprocAttr,GDs,CSs];done)))
    · have m6 : M 6 = true := dD hd rfl 0 rfl rfl
      have m4 : M 4 = true := dD hd rfl 1 rfl rfl
      have n8 : M 8 = false := dN hd rfl 1 rfl rfl hd.un
      have n9 : M 9 = false := dN hd rfl 5 rfl rfl hd.un
      have hun := hd.un
      refine ⟨_,rfl,rfl,?_⟩
      simp only [hvC,upd,↓reduceIte,Nat.reduceEqDiff,reduceCtorEq,hun,m6,m4,n8,n9,CSs,List.nil_append,List.cons_append,simprocAttr]
      refine vcOp_sound ?_
      simp only [GA,↓GB,GX,simprocAttr,hnt,hT]
      have hnt1 := True.intro;have hT1 := True.intro;have hU1P := True.intro
      repeat' (first|(refine SX.seqK ?_;intro N hN)|((first | (refine SX.ops ?_));simp only [GA,↓GB,GX,simprocAttr,hnt,hT,hnt1,hT1,hU1P,hag])|((first | refine SX.skip ?_ | refine SX.exit ?_ | refine SX.label ?_ | refine SX.ret ?_);try simp only [GA,↓GB,GX,simprocAttr])|(refine hN _ ?_;clear hN N)|((first | refine hK1 _ _ (FinI.ret3 ?_) | refine hK1 _ _ (FinI.nrm3 ?_));(repeat (clear hN N));clear hK1 K1;simp only [GA,↓GB,GX,simprocAttr,finP_s,hnt,hT,hnt1,hT1,hU1P,hag])|((first | refine hK _ _ (FinI.ret3 ?_) | refine hK _ _ (FinI.nrm3 ?_));simp only [GA,↓GB,GX,simprocAttr,finP_s,hnt,hT,hnt1,hT1,hU1P,hag];refine Done.out ?_)|(refine bif2.mk (fun hb => ?_) (fun hb => ?_) <;> (try simp only [hb,GA,↓GB,GX,simprocAttr,hnt,hT,hnt1,hT1,hU1P,hag]) <;> ((first | cases hb | (simp only [HBs] at hb) | skip) <;> (first | (exfalso;omega) | skip)))|(refine CallVC.inline (f := 54) ?_ rfl Tryz.ntmps54 rfl ?_ ?_;(focus rw [hP];exact Tryz.func54);(focus simp);have hT1 := Ty.T54 hP;intro X1 K1 hU1 hnt1 hbl1 hK1;have hU1P := hU1.P;simp only [GA,↓GB,GX,simprocAttr] at hbl1 ⊢)|(refine CallVC.inline (f := 53) ?_ rfl Tryz.ntmps53 rfl ?_ ?_;(focus rw [hP];exact Tryz.func53);(focus simp);have hT1 := Ty.T53 hP;intro X1 K1 hU1 hnt1 hbl1 hK1;have hU1P := hU1.P;simp only [GA,↓GB,GX,simprocAttr] at hbl1 ⊢)|(refine and_mk ?_ ?_;(focus first | decide | omega | rfl | assumption | (simp only [LBs];omega) | (simp;done)))|(refine And.intro ?_ ?_))
      all_goals (try refine Done.mk ?_)
      all_goals (refine Imp.le [0,1,2,3,4,5,6,7,9] ?_;(refine LeR.of ?_ ?_ ?_ ?_ ?_ ?_ ?_ <;> first | (rw [hbl];decide) | decide | (simp only [GA,↓GB,GX,simprocAttr,GDs,CSs];done)))
    · have m2 : M 2 = true := dD hd rfl 0 rfl rfl
      have m7 : M 7 = true := dD hd rfl 1 rfl rfl
      have n9 : M 9 = false := dN hd rfl 6 rfl rfl hd.un
      have hun := hd.un
      refine ⟨_,rfl,rfl,?_⟩
      simp only [hvC,upd,↓reduceIte,Nat.reduceEqDiff,reduceCtorEq,hun,m2,m7,n9,CSs,List.nil_append,List.cons_append,simprocAttr]
      refine VO.insert (kt := 3) (et := 113) (i := 6) (kv := .int .i64 2) (s := .agg [.v (.int .i64 0),.clo 88 [] [.loc 8 0]]) (kd := .int .i64) rfl rfl rfl rfl (by rw [hP];kernel_rfl) (by rw [hP];kernel_rfl) rfl (by simp [all_cond,KeyOf]) (look_nk (by simp [all_cond,nk])) ?_
      refine Imp.perm (i := 6) rfl ?_
      try simp only [List.append_assoc,List.nil_append,List.cons_append,List.append_nil]
      repeat (first | exact List.Perm.refl _ | exact List.perm_append_singleton _ _ | refine List.Perm.append_left _ ?_)
    · have m2 : M 2 = true := dD hd rfl 0 rfl rfl
      have m3 : M 3 = true := dD hd rfl 1 rfl rfl
      have m4 : M 4 = true := dD hd rfl 2 rfl rfl
      have m5 : M 5 = true := dD hd rfl 3 rfl rfl
      have m6 : M 6 = true := dD hd rfl 4 rfl rfl
      have m7 : M 7 = true := dD hd rfl 5 rfl rfl
      have m8 : M 8 = true := dD hd rfl 6 rfl rfl
      have hun := hd.un
      refine ⟨_,rfl,rfl,?_⟩
      simp only [hvC,upd,↓reduceIte,Nat.reduceEqDiff,reduceCtorEq,hun,m2,m3,m4,m5,m6,m7,m8,CSs,List.nil_append,List.cons_append,simprocAttr]
      refine vcOp_sound ?_
      simp only [GA,↓GB,GX,simprocAttr,hnt,hT]
      repeat' (refine and_mk ?_ ?_;(focus first | decide | omega | rfl | assumption))
      all_goals (refine Imp.le [0,1,2,3,4,5,6,7,8] ?_;(refine LeR.of ?_ ?_ ?_ ?_ ?_ ?_ ?_ <;> first | (rw [hbl];decide) | decide | (simp only [GA,↓GB,GX,simprocAttr,GDs,CSs];done)))
  simp only [hvC,cond_true,List.nil_append,List.cons_append,GA,↓GB,GX,simprocAttr,hnt,hT,hag]
  repeat' (first|(refine SX.seqK ?_;intro N hN)|((first | (refine SX.ops ?_));simp only [GA,↓GB,GX,simprocAttr,hnt,hT,hag])|((first | refine SX.skip ?_ | refine SX.exit ?_ | refine SX.label ?_ | refine SX.ret ?_);try simp only [GA,↓GB,GX,simprocAttr])|(refine hN _ ?_;clear hN N)|((first | refine hK _ _ (FinI.ret3 ?_) | refine hK _ _ (FinI.nrm3 ?_));simp only [GA,↓GB,GX,simprocAttr,finP_s,hnt,hT,hag];refine Done.out ?_)|(refine bif2.mk (fun hb => ?_) (fun hb => ?_) <;> (try simp only [hb,GA,↓GB,GX,simprocAttr,hnt,hT,hag]) <;> ((first | cases hb | (simp only [HBs] at hb) | skip) <;> (first | (exfalso;omega) | skip)))|((first | (refine Ctr.use (htk) hP hG [6,7,8,5] ?_ rfl rfl ?_;(focus (refine LeR.of rfl trivial ?_ ?_ ?_ ?_ ?_ <;> first | decide | (simp only [GA,↓GB,GX,simprocAttr,GDs];done)));intro os' s hR;obtain ⟨rfl,rfl⟩ := hR) | (refine Ctr.use (hbad) hP hG [] ?_ rfl rfl ?_;(focus (refine LeR.of rfl trivial ?_ ?_ ?_ ?_ ?_ <;> first | decide | (simp only [GA,↓GB,GX,simprocAttr,GDs];done)));intro os' s hR;obtain ⟨rfl,rfl⟩ := hR));simp only [GA,↓GB,GX,simprocAttr,hnt,hT,hag])|(refine and_mk ?_ ?_;(focus first | decide | omega | rfl | assumption | (simp only [LBs];omega) | (simp;done)))|(refine And.intro ?_ ?_))
  all_goals (try refine Done.mk ?_)
  all_goals (rw [hrow_snoc,Bool.not_not];(refine hN0 _ _ ⟨[0,1,2,3,10],_,_,?_,?_,?_,⟨rfl,rfl⟩⟩;(focus exact LeR.of rfl trivial (by simp only [GA,↓GB,GX,simprocAttr,GDs]) (by decide) rfl rfl rfl);rotate_left;(focus rfl));rfl)
theorem srow_snoc (l : List (List UInt8)) (s : List UInt8) : LO.row 9 1 (l.length + 1) ((l.map fun s => Value.string (B s)) ++ [.string (B s)]) = srow (l ++ [s]) := by
  simp only [srow,List.length_append,List.length_cons,List.length_nil,List.map_append,List.map_cons,List.map_nil]
def subC (n k x : Nat) (s : List UInt8) (q : Nat) (sb un : List (List UInt8)) (hv : List HvS) (d : List UInt8) (M : Nat → Bool) : Cfg :=
  ⟨[(12,bif M 8 then .one (.c (.loc 1 3)) else ddd),(11,bif M 7 then .one (.c (.row 7)) else ddd),(10,bif M 6 then .one (.c (.sl 6 0 1 1)) else ddd),(9,bif M 5 then vv (.string (B s)) else ddd),(8,bif M 4 then .one (.c (.loc 5 3)) else ddd),(7,bif M 3 then .one (.c (.row 2)) else ddd),(6,bif M 2 then .one (.c (.loc 1 3)) else ddd),(5,bif M 1 then .one (.c (.loc 1 3)) else ddd),(4,bif M 0 then .one (.c (.loc 1 3)) else ddd),(1,.one (.c (.loc 0 0))),(2,.one (.c (.loc 5 0))),(3,vv (.bool false))],
   [.cells [.loc 1 3] 122,.cells [.v (.int .i64 0),.v (.bool false),.v (.int .u64 q),.row 2,.row 3,.row 4,.v (.string (B d))] 26,(bif M 7 then .gone else srow sb),srow un,hrow hv,.cells [.v (.int .i64 n),.v (.int .i64 k),.v (.int .u64 x),.v (.string (B s))] 109,bif M 6 then .cells [.v (.string (B s))] 9 else .gone,bif M 7 then .row 9 1 (sb.length + 1) ((sb.map fun s => Value.string (B s)) ++ [.string (B s)]) else .gone]⟩
theorem sub_ctr (n k x : Nat) (s : List UInt8) (q : Nat) (sb un : List (List UInt8)) (hv : List HvS) (d : List UInt8) (hl : sb.length ≤ 1099511627776) :
    Ctr Tryz.prog [] 90 [.cells [.loc 1 3] 122,.cells [.v (.int .i64 0),.v (.bool false),.v (.int .u64 q),.row 2,.row 3,.row 4,.v (.string (B d))] 26,srow sb,srow un,hrow hv] [.one (.agg [.v (.int .i64 n),.v (.int .i64 k),.v (.int .u64 x),.v (.string (B s))]),.one (.c (.loc 0 0))]
      (fun os v => os = [.cells [.loc 1 3] 122,.cells [.v (.int .i64 0),.v (.bool false),.v (.int .u64 q),.row 5,.row 3,.row 4,.v (.string (B d))] 26,.gone,srow un,hrow hv,srow (sb ++ [s])] ∧ v = vv (.bool true)) := by
  refine Ctr.less ?_
  intro X0 hP0 hG0 N0 hN0
  refine CallVC.inline (f := 90) (by rw [hP0];exact Tryz.func90) rfl Tryz.ntmps90 rfl (by simp) ?_
  intro X K hU hnt hbl hK
  have hP : X.P = Tryz.prog := hU.P.trans hP0
  have hG := hG0.under hU
  have hT := Ty.T90 hP
  simp only [GA,↓GB,GX,simprocAttr] at hbl ⊢
  repeat' (first|(refine SX.seqK ?_;intro N hN)|((first | (refine SX.ops ?_));simp only [GA,↓GB,GX,simprocAttr,hnt,hT])|((first | refine SX.skip ?_ | refine SX.exit ?_ | refine SX.label ?_ | refine SX.ret ?_);try simp only [GA,↓GB,GX,simprocAttr])|(refine hN _ ?_;clear hN N)|((first | refine hK _ _ (FinI.ret3 ?_) | refine hK _ _ (FinI.nrm3 ?_));simp only [GA,↓GB,GX,simprocAttr,finP_s,hnt,hT];refine Done.out ?_)|(refine bif2.mk (fun hb => ?_) (fun hb => ?_) <;> (try simp only [hb,GA,↓GB,GX,simprocAttr,hnt,hT]) <;> ((first | cases hb | (simp only [HBs] at hb) | skip) <;> (first | (exfalso;omega) | skip)))|(refine and_mk ?_ ?_;(focus first | decide | omega | rfl | assumption | (simp only [LBs];omega) | (simp;done)))|(refine And.intro ?_ ?_))
  all_goals (try refine Done.mk ?_)
  refine SX.dia (id := 1) [0,1,2,3,4,5,6,7,8] (subC n k x s q sb un hv d) [.s 9] (subC n k x s q sb un hv d (fun _ => true)) ?_ ?_ ?_ ?_ rfl ?_
  · rw [hP];kernel_rfl
  · kernel_rfl
  · refine Imp.trans (Imp.le [0,1,2,3,4,5] (d := ⟨[(1,.one (.c (.loc 0 0))),(2,.one (.c (.loc 5 0))),(3,vv (.bool false))],[.cells [.loc 1 3] 122,.cells [.v (.int .i64 0),.v (.bool false),.v (.int .u64 q),.row 2,.row 3,.row 4,.v (.string (B d))] 26,srow sb,srow un,hrow hv,.cells [.v (.int .i64 n),.v (.int .i64 k),.v (.int .u64 x),.v (.string (B s))] 109]⟩) (by (refine LeR.of ?_ ?_ ?_ ?_ ?_ ?_ ?_ <;> first | (rw [hbl];decide) | decide | (simp only [GA,↓GB,GX,simprocAttr,GDs];done) | (simp only [GA,↓GB,GX,simprocAttr,GDs];rfl;done)))) ?_
    refine Imp.trans (Imp.deads [4,5,6,7,8,9,10,11,12] (by rw [hnt];decide)) ?_
    refine Imp.trans Imp.gone ?_
    refine Imp.trans Imp.gone ?_
    exact Imp.refl
  · rintro M i hi hd
    simp only [List.mem_cons,List.not_mem_nil,or_false] at hi
    rcases hi with rfl | rfl | rfl | rfl | rfl | rfl | rfl | rfl | rfl
    · have n8 : M 8 = false := dN hd rfl 0 rfl rfl hd.un
      have hun := hd.un
      refine ⟨_,rfl,rfl,?_⟩
      simp only [subC,upd,↓reduceIte,Nat.reduceEqDiff,reduceCtorEq,hun,n8,CSs,List.nil_append,List.cons_append,simprocAttr]
      refine vcOp_sound ?_
      simp only [GA,↓GB,GX,simprocAttr,hnt,hT]
      repeat' (refine and_mk ?_ ?_;(focus first | decide | omega | rfl | assumption))
      all_goals (refine Imp.le [0,1,2,3,4,5,6,7] ?_;(refine LeR.of ?_ ?_ ?_ ?_ ?_ ?_ ?_ <;> first | (rw [hbl];decide) | decide | (simp only [GA,↓GB,GX,simprocAttr,GDs,CSs];done)))
    · have n2 : M 2 = false := dN hd rfl 0 rfl rfl hd.un
      have n3 : M 3 = false := dN hd rfl 0 rfl rfl n2
      have n7 : M 7 = false := dN hd rfl 0 rfl rfl n3
      have n8 : M 8 = false := dN hd rfl 2 rfl rfl hd.un
      have hun := hd.un
      refine ⟨_,rfl,rfl,?_⟩
      simp only [subC,upd,↓reduceIte,Nat.reduceEqDiff,reduceCtorEq,hun,n2,n3,n7,n8,CSs,List.nil_append,List.cons_append,simprocAttr]
      refine vcOp_sound ?_
      simp only [GA,↓GB,GX,simprocAttr,hnt,hT]
      repeat' (refine and_mk ?_ ?_;(focus first | decide | omega | rfl | assumption))
      all_goals (refine Imp.le [0,1,2,3,4,5,6,7] ?_;(refine LeR.of ?_ ?_ ?_ ?_ ?_ ?_ ?_ <;> first | (rw [hbl];decide) | decide | (simp only [GA,↓GB,GX,simprocAttr,GDs,CSs];done)))
    · have m1 : M 1 = true := dD hd rfl 0 rfl rfl
      have n3 : M 3 = false := dN hd rfl 0 rfl rfl hd.un
      have n7 : M 7 = false := dN hd rfl 0 rfl rfl n3
      have n8 : M 8 = false := dN hd rfl 3 rfl rfl hd.un
      have hun := hd.un
      refine ⟨_,rfl,rfl,?_⟩
      simp only [subC,upd,↓reduceIte,Nat.reduceEqDiff,reduceCtorEq,hun,m1,n3,n7,n8,CSs,List.nil_append,List.cons_append,simprocAttr]
      refine vcOp_sound ?_
      simp only [GA,↓GB,GX,simprocAttr,hnt,hT]
      repeat' (refine and_mk ?_ ?_;(focus first | decide | omega | rfl | assumption))
      all_goals (refine Imp.le [0,1,2,3,4,5,6,7] ?_;(refine LeR.of ?_ ?_ ?_ ?_ ?_ ?_ ?_ <;> first | (rw [hbl];decide) | decide | (simp only [GA,↓GB,GX,simprocAttr,GDs,CSs];done)))
    · have m2 : M 2 = true := dD hd rfl 0 rfl rfl
      have n7 : M 7 = false := dN hd rfl 0 rfl rfl hd.un
      have n8 : M 8 = false := dN hd rfl 4 rfl rfl hd.un
      have hun := hd.un
      refine ⟨_,rfl,rfl,?_⟩
      simp only [subC,upd,↓reduceIte,Nat.reduceEqDiff,reduceCtorEq,hun,m2,n7,n8,CSs,List.nil_append,List.cons_append,simprocAttr]
      refine vcOp_sound ?_
      simp only [GA,↓GB,GX,simprocAttr,hnt,hT]
      repeat' (refine and_mk ?_ ?_;(focus first | decide | omega | rfl | assumption))
      all_goals (refine Imp.le [0,1,2,3,4,5,6,7] ?_;(refine LeR.of ?_ ?_ ?_ ?_ ?_ ?_ ?_ <;> first | (rw [hbl];decide) | decide | (simp only [GA,↓GB,GX,simprocAttr,GDs,CSs];done)))
    · have n5 : M 5 = false := dN hd rfl 0 rfl rfl hd.un
      have n6 : M 6 = false := dN hd rfl 0 rfl rfl n5
      have n7 : M 7 = false := dN hd rfl 1 rfl rfl n6
      have n8 : M 8 = false := dN hd rfl 5 rfl rfl hd.un
      have hun := hd.un
      refine ⟨_,rfl,rfl,?_⟩
      simp only [subC,upd,↓reduceIte,Nat.reduceEqDiff,reduceCtorEq,hun,n5,n6,n7,n8,CSs,List.nil_append,List.cons_append,simprocAttr]
      refine vcOp_sound ?_
      simp only [GA,↓GB,GX,simprocAttr,hnt,hT]
      repeat' (refine and_mk ?_ ?_;(focus first | decide | omega | rfl | assumption))
      all_goals (refine Imp.le [0,1,2,3,4,5,6,7] ?_;(refine LeR.of ?_ ?_ ?_ ?_ ?_ ?_ ?_ <;> first | (rw [hbl];decide) | decide | (simp only [GA,↓GB,GX,simprocAttr,GDs,CSs];done)))
    · have m4 : M 4 = true := dD hd rfl 0 rfl rfl
      have n6 : M 6 = false := dN hd rfl 0 rfl rfl hd.un
      have n7 : M 7 = false := dN hd rfl 1 rfl rfl n6
      have n8 : M 8 = false := dN hd rfl 6 rfl rfl hd.un
      have hun := hd.un
      refine ⟨_,rfl,rfl,?_⟩
      simp only [subC,upd,↓reduceIte,Nat.reduceEqDiff,reduceCtorEq,hun,m4,n6,n7,n8,CSs,List.nil_append,List.cons_append,simprocAttr]
      refine vcOp_sound ?_
      simp only [GA,↓GB,GX,simprocAttr,hnt,hT]
      repeat' (refine and_mk ?_ ?_;(focus first | decide | omega | rfl | assumption))
      all_goals (refine Imp.le [0,1,2,3,4,5,6,7] ?_;(refine LeR.of ?_ ?_ ?_ ?_ ?_ ?_ ?_ <;> first | (rw [hbl];decide) | decide | (simp only [GA,↓GB,GX,simprocAttr,GDs,CSs];done)))
    · have m5 : M 5 = true := dD hd rfl 0 rfl rfl
      have n7 : M 7 = false := dN hd rfl 1 rfl rfl hd.un
      have n8 : M 8 = false := dN hd rfl 7 rfl rfl hd.un
      have hun := hd.un
      refine ⟨_,rfl,rfl,?_⟩
      simp only [subC,upd,↓reduceIte,Nat.reduceEqDiff,reduceCtorEq,hun,m5,n7,n8,CSs,List.nil_append,List.cons_append,simprocAttr]
      refine vcOp_sound ?_
      simp only [GA,↓GB,GX,simprocAttr,hnt,hT]
      repeat' (refine and_mk ?_ ?_;(focus first | decide | omega | rfl | assumption))
      all_goals (refine Imp.le [0,1,2,3,4,5,8,7] ?_;(refine LeR.of ?_ ?_ ?_ ?_ ?_ ?_ ?_ <;> first | (rw [hbl];decide) | decide | (simp only [GA,↓GB,GX,simprocAttr,GDs,CSs];done)))
    · have m3 : M 3 = true := dD hd rfl 0 rfl rfl
      have m6 : M 6 = true := dD hd rfl 1 rfl rfl
      have n8 : M 8 = false := dN hd rfl 8 rfl rfl hd.un
      have hun := hd.un
      refine ⟨_,rfl,rfl,?_⟩
      simp only [subC,upd,↓reduceIte,Nat.reduceEqDiff,reduceCtorEq,hun,m3,m6,n8,CSs,List.nil_append,List.cons_append,simprocAttr]
      refine vcOp_sound ?_
      simp only [GA,↓GB,GX,simprocAttr,hnt,hT]
      repeat' (first|(refine SX.seqK ?_;intro N hN)|((first | (refine SX.ops ?_));simp only [GA,↓GB,GX,simprocAttr,hnt,hT])|((first | refine SX.skip ?_ | refine SX.exit ?_ | refine SX.label ?_ | refine SX.ret ?_);try simp only [GA,↓GB,GX,simprocAttr])|(refine hN _ ?_;clear hN N)|((first | refine hK _ _ (FinI.ret3 ?_) | refine hK _ _ (FinI.nrm3 ?_));simp only [GA,↓GB,GX,simprocAttr,finP_s,hnt,hT];refine Done.out ?_)|(refine bif2.mk (fun hb => ?_) (fun hb => ?_) <;> (try simp only [hb,GA,↓GB,GX,simprocAttr,hnt,hT]) <;> ((first | cases hb | (simp only [HBs] at hb) | skip) <;> (first | (exfalso;omega) | skip)))|(refine and_mk ?_ ?_;(focus first | decide | omega | rfl | assumption | (simp only [LBs];omega) | (simp;done)))|(refine And.intro ?_ ?_))
      all_goals (try refine Done.mk ?_)
      all_goals (refine Imp.le [0,1,2,3,4,5,6,8] ?_;(refine LeR.of ?_ ?_ ?_ ?_ ?_ ?_ ?_ <;> first | (rw [hbl];decide) | decide | (simp only [GA,↓GB,GX,simprocAttr,GDs,CSs];done)))
    · have m0 : M 0 = true := dD hd rfl 0 rfl rfl
      have m1 : M 1 = true := dD hd rfl 2 rfl rfl
      have m2 : M 2 = true := dD hd rfl 3 rfl rfl
      have m3 : M 3 = true := dD hd rfl 4 rfl rfl
      have m4 : M 4 = true := dD hd rfl 5 rfl rfl
      have m5 : M 5 = true := dD hd rfl 6 rfl rfl
      have m6 : M 6 = true := dD hd rfl 7 rfl rfl
      have m7 : M 7 = true := dD hd rfl 8 rfl rfl
      have hun := hd.un
      refine ⟨_,rfl,rfl,?_⟩
      simp only [subC,upd,↓reduceIte,Nat.reduceEqDiff,reduceCtorEq,hun,m0,m1,m2,m3,m4,m5,m6,m7,CSs,List.nil_append,List.cons_append,simprocAttr]
      refine vcOp_sound ?_
      simp only [GA,↓GB,GX,simprocAttr,hnt,hT]
      repeat' (refine and_mk ?_ ?_;(focus first | decide | omega | rfl | assumption))
      all_goals (refine Imp.le [0,1,2,3,4,5,6,7] ?_;(refine LeR.of ?_ ?_ ?_ ?_ ?_ ?_ ?_ <;> first | (rw [hbl];decide) | decide | (simp only [GA,↓GB,GX,simprocAttr,GDs,CSs];done)))
  simp only [subC,cond_true,List.nil_append,List.cons_append,GA,↓GB,GX,simprocAttr,hnt,hT]
  repeat' (first|(refine SX.seqK ?_;intro N hN)|((first | (refine SX.ops ?_));simp only [GA,↓GB,GX,simprocAttr,hnt,hT])|((first | refine SX.skip ?_ | refine SX.exit ?_ | refine SX.label ?_ | refine SX.ret ?_);try simp only [GA,↓GB,GX,simprocAttr])|(refine hN _ ?_;clear hN N)|((first | refine hK _ _ (FinI.ret3 ?_) | refine hK _ _ (FinI.nrm3 ?_));simp only [GA,↓GB,GX,simprocAttr,finP_s,hnt,hT];refine Done.out ?_)|(refine bif2.mk (fun hb => ?_) (fun hb => ?_) <;> (try simp only [hb,GA,↓GB,GX,simprocAttr,hnt,hT]) <;> ((first | cases hb | (simp only [HBs] at hb) | skip) <;> (first | (exfalso;omega) | skip)))|(refine and_mk ?_ ?_;(focus first | decide | omega | rfl | assumption | (simp only [LBs];omega) | (simp;done)))|(refine And.intro ?_ ?_))
  all_goals (try refine Done.mk ?_)
  all_goals (rw [srow_snoc];(refine hN0 _ _ ⟨[0,1,2,3,4,7],_,_,?_,?_,?_,⟨rfl,rfl⟩⟩;(focus exact LeR.of rfl trivial (by simp only [GA,↓GB,GX,simprocAttr,GDs]) (by decide) rfl rfl rfl);rotate_left;(focus rfl));rfl)
def unsC (n k x : Nat) (s : List UInt8) (q : Nat) (sb un : List (List UInt8)) (hv : List HvS) (d : List UInt8) (M : Nat → Bool) : Cfg :=
  ⟨[(12,bif M 8 then .one (.c (.loc 1 4)) else ddd),(11,bif M 7 then .one (.c (.row 7)) else ddd),(10,bif M 6 then .one (.c (.sl 6 0 1 1)) else ddd),(9,bif M 5 then vv (.string (B s)) else ddd),(8,bif M 4 then .one (.c (.loc 5 3)) else ddd),(7,bif M 3 then .one (.c (.row 3)) else ddd),(6,bif M 2 then .one (.c (.loc 1 4)) else ddd),(5,bif M 1 then .one (.c (.loc 1 4)) else ddd),(4,bif M 0 then .one (.c (.loc 1 4)) else ddd),(1,.one (.c (.loc 0 0))),(2,.one (.c (.loc 5 0))),(3,vv (.bool false))],
   [.cells [.loc 1 4] 122,.cells [.v (.int .i64 0),.v (.bool false),.v (.int .u64 q),.row 2,.row 3,.row 4,.v (.string (B d))] 26,srow sb,(bif M 7 then .gone else srow un),hrow hv,.cells [.v (.int .i64 n),.v (.int .i64 k),.v (.int .u64 x),.v (.string (B s))] 109,bif M 6 then .cells [.v (.string (B s))] 9 else .gone,bif M 7 then .row 9 1 (un.length + 1) ((un.map fun s => Value.string (B s)) ++ [.string (B s)]) else .gone]⟩
theorem uns_ctr (n k x : Nat) (s : List UInt8) (q : Nat) (sb un : List (List UInt8)) (hv : List HvS) (d : List UInt8) (hl : un.length ≤ 1099511627776) :
    Ctr Tryz.prog [] 90 [.cells [.loc 1 4] 122,.cells [.v (.int .i64 0),.v (.bool false),.v (.int .u64 q),.row 2,.row 3,.row 4,.v (.string (B d))] 26,srow sb,srow un,hrow hv] [.one (.agg [.v (.int .i64 n),.v (.int .i64 k),.v (.int .u64 x),.v (.string (B s))]),.one (.c (.loc 0 0))]
      (fun os v => os = [.cells [.loc 1 4] 122,.cells [.v (.int .i64 0),.v (.bool false),.v (.int .u64 q),.row 2,.row 5,.row 4,.v (.string (B d))] 26,srow sb,.gone,hrow hv,srow (un ++ [s])] ∧ v = vv (.bool true)) := by
  refine Ctr.less ?_
  intro X0 hP0 hG0 N0 hN0
  refine CallVC.inline (f := 90) (by rw [hP0];exact Tryz.func90) rfl Tryz.ntmps90 rfl (by simp) ?_
  intro X K hU hnt hbl hK
  have hP : X.P = Tryz.prog := hU.P.trans hP0
  have hG := hG0.under hU
  have hT := Ty.T90 hP
  simp only [GA,↓GB,GX,simprocAttr] at hbl ⊢
  repeat' (first|(refine SX.seqK ?_;intro N hN)|((first | (refine SX.ops ?_));simp only [GA,↓GB,GX,simprocAttr,hnt,hT])|((first | refine SX.skip ?_ | refine SX.exit ?_ | refine SX.label ?_ | refine SX.ret ?_);try simp only [GA,↓GB,GX,simprocAttr])|(refine hN _ ?_;clear hN N)|((first | refine hK _ _ (FinI.ret3 ?_) | refine hK _ _ (FinI.nrm3 ?_));simp only [GA,↓GB,GX,simprocAttr,finP_s,hnt,hT];refine Done.out ?_)|(refine bif2.mk (fun hb => ?_) (fun hb => ?_) <;> (try simp only [hb,GA,↓GB,GX,simprocAttr,hnt,hT]) <;> ((first | cases hb | (simp only [HBs] at hb) | skip) <;> (first | (exfalso;omega) | skip)))|(refine and_mk ?_ ?_;(focus first | decide | omega | rfl | assumption | (simp only [LBs];omega) | (simp;done)))|(refine And.intro ?_ ?_))
  all_goals (try refine Done.mk ?_)
  refine SX.dia (id := 1) [0,1,2,3,4,5,6,7,8] (unsC n k x s q sb un hv d) [.s 9] (unsC n k x s q sb un hv d (fun _ => true)) ?_ ?_ ?_ ?_ rfl ?_
  · rw [hP];kernel_rfl
  · kernel_rfl
  · refine Imp.trans (Imp.le [0,1,2,3,4,5] (d := ⟨[(1,.one (.c (.loc 0 0))),(2,.one (.c (.loc 5 0))),(3,vv (.bool false))],[.cells [.loc 1 4] 122,.cells [.v (.int .i64 0),.v (.bool false),.v (.int .u64 q),.row 2,.row 3,.row 4,.v (.string (B d))] 26,srow sb,srow un,hrow hv,.cells [.v (.int .i64 n),.v (.int .i64 k),.v (.int .u64 x),.v (.string (B s))] 109]⟩) (by (refine LeR.of ?_ ?_ ?_ ?_ ?_ ?_ ?_ <;> first | (rw [hbl];decide) | decide | (simp only [GA,↓GB,GX,simprocAttr,GDs];done) | (simp only [GA,↓GB,GX,simprocAttr,GDs];rfl;done)))) ?_
    refine Imp.trans (Imp.deads [4,5,6,7,8,9,10,11,12] (by rw [hnt];decide)) ?_
    refine Imp.trans Imp.gone ?_
    refine Imp.trans Imp.gone ?_
    exact Imp.refl
  · rintro M i hi hd
    simp only [List.mem_cons,List.not_mem_nil,or_false] at hi
    rcases hi with rfl | rfl | rfl | rfl | rfl | rfl | rfl | rfl | rfl
    · have n8 : M 8 = false := dN hd rfl 0 rfl rfl hd.un
      have hun := hd.un
      refine ⟨_,rfl,rfl,?_⟩
      simp only [unsC,upd,↓reduceIte,Nat.reduceEqDiff,reduceCtorEq,hun,n8,CSs,List.nil_append,List.cons_append,simprocAttr]
      refine vcOp_sound ?_
      simp only [GA,↓GB,GX,simprocAttr,hnt,hT]
      repeat' (refine and_mk ?_ ?_;(focus first | decide | omega | rfl | assumption))
      all_goals (refine Imp.le [0,1,2,3,4,5,6,7] ?_;(refine LeR.of ?_ ?_ ?_ ?_ ?_ ?_ ?_ <;> first | (rw [hbl];decide) | decide | (simp only [GA,↓GB,GX,simprocAttr,GDs,CSs];done)))
    · have n2 : M 2 = false := dN hd rfl 0 rfl rfl hd.un
      have n3 : M 3 = false := dN hd rfl 0 rfl rfl n2
      have n7 : M 7 = false := dN hd rfl 0 rfl rfl n3
      have n8 : M 8 = false := dN hd rfl 2 rfl rfl hd.un
      have hun := hd.un
      refine ⟨_,rfl,rfl,?_⟩
      simp only [unsC,upd,↓reduceIte,Nat.reduceEqDiff,reduceCtorEq,hun,n2,n3,n7,n8,CSs,List.nil_append,List.cons_append,simprocAttr]
      refine vcOp_sound ?_
      simp only [GA,↓GB,GX,simprocAttr,hnt,hT]
      repeat' (refine and_mk ?_ ?_;(focus first | decide | omega | rfl | assumption))
      all_goals (refine Imp.le [0,1,2,3,4,5,6,7] ?_;(refine LeR.of ?_ ?_ ?_ ?_ ?_ ?_ ?_ <;> first | (rw [hbl];decide) | decide | (simp only [GA,↓GB,GX,simprocAttr,GDs,CSs];done)))
    · have m1 : M 1 = true := dD hd rfl 0 rfl rfl
      have n3 : M 3 = false := dN hd rfl 0 rfl rfl hd.un
      have n7 : M 7 = false := dN hd rfl 0 rfl rfl n3
      have n8 : M 8 = false := dN hd rfl 3 rfl rfl hd.un
      have hun := hd.un
      refine ⟨_,rfl,rfl,?_⟩
      simp only [unsC,upd,↓reduceIte,Nat.reduceEqDiff,reduceCtorEq,hun,m1,n3,n7,n8,CSs,List.nil_append,List.cons_append,simprocAttr]
      refine vcOp_sound ?_
      simp only [GA,↓GB,GX,simprocAttr,hnt,hT]
      repeat' (refine and_mk ?_ ?_;(focus first | decide | omega | rfl | assumption))
      all_goals (refine Imp.le [0,1,2,3,4,5,6,7] ?_;(refine LeR.of ?_ ?_ ?_ ?_ ?_ ?_ ?_ <;> first | (rw [hbl];decide) | decide | (simp only [GA,↓GB,GX,simprocAttr,GDs,CSs];done)))
    · have m2 : M 2 = true := dD hd rfl 0 rfl rfl
      have n7 : M 7 = false := dN hd rfl 0 rfl rfl hd.un
      have n8 : M 8 = false := dN hd rfl 4 rfl rfl hd.un
      have hun := hd.un
      refine ⟨_,rfl,rfl,?_⟩
      simp only [unsC,upd,↓reduceIte,Nat.reduceEqDiff,reduceCtorEq,hun,m2,n7,n8,CSs,List.nil_append,List.cons_append,simprocAttr]
      refine vcOp_sound ?_
      simp only [GA,↓GB,GX,simprocAttr,hnt,hT]
      repeat' (refine and_mk ?_ ?_;(focus first | decide | omega | rfl | assumption))
      all_goals (refine Imp.le [0,1,2,3,4,5,6,7] ?_;(refine LeR.of ?_ ?_ ?_ ?_ ?_ ?_ ?_ <;> first | (rw [hbl];decide) | decide | (simp only [GA,↓GB,GX,simprocAttr,GDs,CSs];done)))
    · have n5 : M 5 = false := dN hd rfl 0 rfl rfl hd.un
      have n6 : M 6 = false := dN hd rfl 0 rfl rfl n5
      have n7 : M 7 = false := dN hd rfl 1 rfl rfl n6
      have n8 : M 8 = false := dN hd rfl 5 rfl rfl hd.un
      have hun := hd.un
      refine ⟨_,rfl,rfl,?_⟩
      simp only [unsC,upd,↓reduceIte,Nat.reduceEqDiff,reduceCtorEq,hun,n5,n6,n7,n8,CSs,List.nil_append,List.cons_append,simprocAttr]
      refine vcOp_sound ?_
      simp only [GA,↓GB,GX,simprocAttr,hnt,hT]
      repeat' (refine and_mk ?_ ?_;(focus first | decide | omega | rfl | assumption))
      all_goals (refine Imp.le [0,1,2,3,4,5,6,7] ?_;(refine LeR.of ?_ ?_ ?_ ?_ ?_ ?_ ?_ <;> first | (rw [hbl];decide) | decide | (simp only [GA,↓GB,GX,simprocAttr,GDs,CSs];done)))
    · have m4 : M 4 = true := dD hd rfl 0 rfl rfl
      have n6 : M 6 = false := dN hd rfl 0 rfl rfl hd.un
      have n7 : M 7 = false := dN hd rfl 1 rfl rfl n6
      have n8 : M 8 = false := dN hd rfl 6 rfl rfl hd.un
      have hun := hd.un
      refine ⟨_,rfl,rfl,?_⟩
      simp only [unsC,upd,↓reduceIte,Nat.reduceEqDiff,reduceCtorEq,hun,m4,n6,n7,n8,CSs,List.nil_append,List.cons_append,simprocAttr]
      refine vcOp_sound ?_
      simp only [GA,↓GB,GX,simprocAttr,hnt,hT]
      repeat' (refine and_mk ?_ ?_;(focus first | decide | omega | rfl | assumption))
      all_goals (refine Imp.le [0,1,2,3,4,5,6,7] ?_;(refine LeR.of ?_ ?_ ?_ ?_ ?_ ?_ ?_ <;> first | (rw [hbl];decide) | decide | (simp only [GA,↓GB,GX,simprocAttr,GDs,CSs];done)))
    · have m5 : M 5 = true := dD hd rfl 0 rfl rfl
      have n7 : M 7 = false := dN hd rfl 1 rfl rfl hd.un
      have n8 : M 8 = false := dN hd rfl 7 rfl rfl hd.un
      have hun := hd.un
      refine ⟨_,rfl,rfl,?_⟩
      simp only [unsC,upd,↓reduceIte,Nat.reduceEqDiff,reduceCtorEq,hun,m5,n7,n8,CSs,List.nil_append,List.cons_append,simprocAttr]
      refine vcOp_sound ?_
      simp only [GA,↓GB,GX,simprocAttr,hnt,hT]
      repeat' (refine and_mk ?_ ?_;(focus first | decide | omega | rfl | assumption))
      all_goals (refine Imp.le [0,1,2,3,4,5,8,7] ?_;(refine LeR.of ?_ ?_ ?_ ?_ ?_ ?_ ?_ <;> first | (rw [hbl];decide) | decide | (simp only [GA,↓GB,GX,simprocAttr,GDs,CSs];done)))
    · have m3 : M 3 = true := dD hd rfl 0 rfl rfl
      have m6 : M 6 = true := dD hd rfl 1 rfl rfl
      have n8 : M 8 = false := dN hd rfl 8 rfl rfl hd.un
      have hun := hd.un
      refine ⟨_,rfl,rfl,?_⟩
      simp only [unsC,upd,↓reduceIte,Nat.reduceEqDiff,reduceCtorEq,hun,m3,m6,n8,CSs,List.nil_append,List.cons_append,simprocAttr]
      refine vcOp_sound ?_
      simp only [GA,↓GB,GX,simprocAttr,hnt,hT]
      repeat' (first|(refine SX.seqK ?_;intro N hN)|((first | (refine SX.ops ?_));simp only [GA,↓GB,GX,simprocAttr,hnt,hT])|((first | refine SX.skip ?_ | refine SX.exit ?_ | refine SX.label ?_ | refine SX.ret ?_);try simp only [GA,↓GB,GX,simprocAttr])|(refine hN _ ?_;clear hN N)|((first | refine hK _ _ (FinI.ret3 ?_) | refine hK _ _ (FinI.nrm3 ?_));simp only [GA,↓GB,GX,simprocAttr,finP_s,hnt,hT];refine Done.out ?_)|(refine bif2.mk (fun hb => ?_) (fun hb => ?_) <;> (try simp only [hb,GA,↓GB,GX,simprocAttr,hnt,hT]) <;> ((first | cases hb | (simp only [HBs] at hb) | skip) <;> (first | (exfalso;omega) | skip)))|(refine and_mk ?_ ?_;(focus first | decide | omega | rfl | assumption | (simp only [LBs];omega) | (simp;done)))|(refine And.intro ?_ ?_))
      all_goals (try refine Done.mk ?_)
      all_goals (refine Imp.le [0,1,2,3,4,5,6,8] ?_;(refine LeR.of ?_ ?_ ?_ ?_ ?_ ?_ ?_ <;> first | (rw [hbl];decide) | decide | (simp only [GA,↓GB,GX,simprocAttr,GDs,CSs];done)))
    · have m0 : M 0 = true := dD hd rfl 0 rfl rfl
      have m1 : M 1 = true := dD hd rfl 2 rfl rfl
      have m2 : M 2 = true := dD hd rfl 3 rfl rfl
      have m3 : M 3 = true := dD hd rfl 4 rfl rfl
      have m4 : M 4 = true := dD hd rfl 5 rfl rfl
      have m5 : M 5 = true := dD hd rfl 6 rfl rfl
      have m6 : M 6 = true := dD hd rfl 7 rfl rfl
      have m7 : M 7 = true := dD hd rfl 8 rfl rfl
      have hun := hd.un
      refine ⟨_,rfl,rfl,?_⟩
      simp only [unsC,upd,↓reduceIte,Nat.reduceEqDiff,reduceCtorEq,hun,m0,m1,m2,m3,m4,m5,m6,m7,CSs,List.nil_append,List.cons_append,simprocAttr]
      refine vcOp_sound ?_
      simp only [GA,↓GB,GX,simprocAttr,hnt,hT]
      repeat' (refine and_mk ?_ ?_;(focus first | decide | omega | rfl | assumption))
      all_goals (refine Imp.le [0,1,2,3,4,5,6,7] ?_;(refine LeR.of ?_ ?_ ?_ ?_ ?_ ?_ ?_ <;> first | (rw [hbl];decide) | decide | (simp only [GA,↓GB,GX,simprocAttr,GDs,CSs];done)))
  simp only [unsC,cond_true,List.nil_append,List.cons_append,GA,↓GB,GX,simprocAttr,hnt,hT]
  repeat' (first|(refine SX.seqK ?_;intro N hN)|((first | (refine SX.ops ?_));simp only [GA,↓GB,GX,simprocAttr,hnt,hT])|((first | refine SX.skip ?_ | refine SX.exit ?_ | refine SX.label ?_ | refine SX.ret ?_);try simp only [GA,↓GB,GX,simprocAttr])|(refine hN _ ?_;clear hN N)|((first | refine hK _ _ (FinI.ret3 ?_) | refine hK _ _ (FinI.nrm3 ?_));simp only [GA,↓GB,GX,simprocAttr,finP_s,hnt,hT];refine Done.out ?_)|(refine bif2.mk (fun hb => ?_) (fun hb => ?_) <;> (try simp only [hb,GA,↓GB,GX,simprocAttr,hnt,hT]) <;> ((first | cases hb | (simp only [HBs] at hb) | skip) <;> (first | (exfalso;omega) | skip)))|(refine and_mk ?_ ?_;(focus first | decide | omega | rfl | assumption | (simp only [LBs];omega) | (simp;done)))|(refine And.intro ?_ ?_))
  all_goals (try refine Done.mk ?_)
  all_goals (rw [srow_snoc];(refine hN0 _ _ ⟨[0,1,2,3,4,7],_,_,?_,?_,?_,⟨rfl,rfl⟩⟩;(focus exact LeR.of rfl trivial (by simp only [GA,↓GB,GX,simprocAttr,GDs]) (by decide) rfl rfl rfl);rotate_left;(focus rfl));rfl)
end Go.Proofs.YtbdacbcpniegiaaGreatDoor
namespace Go.Sx
open Go Go.RowKit
theorem SX.nilAt {X : Ctx} {c : Cfg} {code : Code} {K : Exit → Cfg → Prop} {j k : Nat} {t : TypeId} {l : List SC} (e sz : Nat) (hj : c.loc[j]? = some (.cells l t)) (hk : l[k]? = some (.v (.slice none 0 0)))
    (h : SX X code ⟨c.env,(c.loc ++ [LO.row e sz 0 []]).set j (.cells (l.set k (.row c.loc.length)) t)⟩ K) : SX X code c K := fun ρ σ a w hr => by
  have hR1 := hr.nilRow e sz
  refine h _ _ a w (Rel.retell (l := l) hR1 (by rw [List.getElem?_append_left (List.getElem?_eq_some_iff.1 hj).1];exact hj) (fun cs hcs => ?_))
  obtain ⟨u,hu,hd⟩ := hcs.get hk
  have hd : u = .slice none 0 0 := hd
  have hs := hcs.set (i := k) (a := SC.row c.loc.length) (b := u) (by
    show (σ ++ [Value.slice none 0 0])[c.loc.length]? = some u
    rw [hd,← hr.lenS];simp)
  obtain ⟨hlt,rfl⟩ := List.getElem?_eq_some_iff.1 hu
  rw [List.set_getElem_self hlt] at hs
  exact hs
end Go.Sx
namespace Go.Proofs.YtbdacbcpniegiaaGreatDoor
open Go Go.RowKit Go.Proofs Go.Sx
theorem numBlk7 {X : Ctx} {code : Code} {c : Cfg} {K : Exit → Cfg → Prop} {id : Nat} (x : Nat) (h1 : (x : Int) = 1 → SX X code c (bx id K)) (h2 : (x : Int) = 2 → SX X code c (bx id K)) (h3 : (x : Int) = 3 → SX X code c (bx id K)) (h4 : (x : Int) = 4 → SX X code c (bx id K)) (h5 : (x : Int) = 5 → SX X code c (bx id K)) (h6 : (x : Int) = 6 → SX X code c (bx id K)) (h7 : (x : Int) = 7 → SX X code c (bx id K))
    (h0 : ((x : Int) == 1) = false ∧ ((x : Int) == 2) = false ∧ ((x : Int) == 3) = false ∧ ((x : Int) == 4) = false ∧ ((x : Int) == 5) = false ∧ ((x : Int) == 6) = false ∧ ((x : Int) == 7) = false → SX X code c (bx id K)) : SX X (.block id code) c K := by
  refine SX.block ?_
  by_cases e1 : (x : Int) = 1
  · exact h1 e1
  by_cases e2 : (x : Int) = 2
  · exact h2 e2
  by_cases e3 : (x : Int) = 3
  · exact h3 e3
  by_cases e4 : (x : Int) = 4
  · exact h4 e4
  by_cases e5 : (x : Int) = 5
  · exact h5 e5
  by_cases e6 : (x : Int) = 6
  · exact h6 e6
  by_cases e7 : (x : Int) = 7
  · exact h7 e7
  exact h0 ⟨by simpa using e1,by simpa using e2,by simpa using e3,by simpa using e4,by simpa using e5,by simpa using e6,by simpa using e7⟩
def takeX {S : Type} (step : NW.Fld → S → S × Bool) : List NW.Fld → S → S × Bool
  | [],s => (s,true)
  | f :: fs,s => if (step f s).2 = true then takeX step fs (step f s).1 else ((step f s).1,false)
theorem takeX_no {S : Type} {step : NW.Fld → S → S × Bool} {l : List NW.Fld} {s0 m m' : S} {i : Nat} (h : takeX step l s0 = takeX step (l.drop i) m) (hi : i < l.length) (hs : step (l.getD i default) m = (m',false)) : takeX step l s0 = (m',false) := by
  rw [h,drop_getD hi,takeX,hs];rfl
theorem takeX_go {S : Type} {step : NW.Fld → S → S × Bool} {l : List NW.Fld} {s0 m m' : S} {i : Nat} (h : takeX step l s0 = takeX step (l.drop i) m) (hi : i < l.length) (hs : step (l.getD i default) m = (m',true)) : takeX step l s0 = takeX step (l.drop (i + 1)) m' := by
  rw [h,drop_getD hi,takeX,hs];rfl
theorem takeX_end {S : Type} {step : NW.Fld → S → S × Bool} {l : List NW.Fld} {s0 m : S} {i : Nat} (h : takeX step l s0 = takeX step (l.drop i) m) (hi : l.length ≤ i) : takeX step l s0 = (m,true) := by
  rw [h,List.drop_of_length_le hi,takeX]
def takeXB {S : Type} (step : NW.Fld → S → S × Bool) (s : List UInt8) (m : S) : S × Bool := match NW.parse s with
  | none => (m,false)
  | some l => takeX step l m
structure RqS where
  kind : Nat
  delta : Nat
  nonce : Nat
  sb : List (List UInt8)
  un : List (List UInt8)
  hv : List HvS
  det : List UInt8
def RqS.zero : RqS := ⟨0,0,0,[],[],[],[]⟩
def stepQ (f : NW.Fld) (m : RqS) : RqS × Bool :=
  if f.num = 1 then (if f.kind = 0 then ({ m with kind := f.n },true) else (m,false))
  else if f.num = 2 then (if f.kind = 0 then ({ m with delta := f.n },true) else (m,false))
  else if f.num = 3 then (if f.kind = 0 then ({ m with nonce := f.n },true) else (m,false))
  else if f.num = 4 then (if f.kind = 2 then ({ m with sb := m.sb ++ [f.s] },true) else (m,false))
  else if f.num = 5 then (if f.kind = 2 then ({ m with un := m.un ++ [f.s] },true) else (m,false))
  else if f.num = 6 then (if f.kind = 2 then ({ m with hv := m.hv ++ [(takeB stepH f.s ([],0)).1] },(takeB stepH f.s ([],0)).2) else (m,false))
  else if f.num = 7 then (if f.kind = 2 then ({ m with det := f.s },true) else (m,false))
  else (m,true)
theorem have6_ctr {e : EA} (he : e.Ok) (q : Nat) (sb un : List (List UInt8)) (hv : List HvS) (d : List UInt8) (k n : Nat) (s : List UInt8) (hs : s.length ≤ 1099511627776) (hl : hv.length ≤ 1099511627776) :
    Ctr Tryz.prog (GE e) 51 [.cells [.v (.int .i64 0),.v (.bool false),.v (.int .u64 q),.row 1,.row 2,.row 3,.v (.string (B d))] 26,srow sb,srow un,hrow hv] [.one (.agg [.v (.int .i64 6),.v (.int .i64 k),.v (.int .u64 n),.v (.string (B s))]),.one (.c (.loc 0 0))]
      (fun os v => os = [.cells [.v (.int .i64 0),.v (.bool false),.v (.int .u64 q),.row 1,.row 2,.row 4,.v (.string (B d))] 26,srow sb,srow un,.gone,hrow (hv ++ [(takeB stepH s ([],0)).1])] ∧ v = vv (.bool (takeB stepH s ([],0)).2)) :=
  have_ctr he q sb un hv d ⟨6,k,n,s⟩ hs hl _ _ rfl
@[reducible] def reqMap : LO := .map [(.int .i64 1,.agg [.v (.int .i64 0),.clo 88 [] [.loc 1 0]]),(.int .i64 2,.agg [.v (.int .i64 0),.clo 88 [] [.loc 2 0]]),(.int .i64 3,.agg [.v (.int .i64 0),.clo 88 [] [.loc 3 0]]),(.int .i64 4,.agg [.v (.int .i64 2),.clo 90 [] [.loc 4 0]]),(.int .i64 5,.agg [.v (.int .i64 2),.clo 90 [] [.loc 5 0]]),(.int .i64 6,.agg [.v (.int .i64 2),.clo 51 [] [.loc 9 0]]),(.int .i64 7,.agg [.v (.int .i64 2),.clo 87 [] [.loc 6 0]])]
@[reducible] def reqO (m : RqS) : List LO := [reqMap,.cells [.loc 7 0] 117,.cells [.loc 8 0] 117,.cells [.loc 9 2] 117,.cells [.loc 9 3] 122,.cells [.loc 9 4] 122,.cells [.loc 9 6] 115,.cells [.v (.int .u64 m.kind)] 22,.cells [.v (.int .u64 m.delta)] 22,.cells [.v (.int .i64 0),.v (.bool false),.v (.int .u64 m.nonce),.row 10,.row 11,.row 12,.v (.string (B m.det))] 26,srow m.sb,srow m.un,hrow m.hv]
@[reducible] def reqO0 : List LO := [reqMap,.cells [.loc 7 0] 117,.cells [.loc 8 0] 117,.cells [.loc 9 2] 117,.cells [.loc 9 3] 122,.cells [.loc 9 4] 122,.cells [.loc 9 6] 115,.cells [.v (.int .u64 0)] 22,.cells [.v (.int .u64 0)] 22,.cells [.v (.int .i64 0),.v (.bool false),.v (.int .u64 0),.v (.slice none 0 0),.v (.slice none 0 0),.v (.slice none 0 0),.v (.string (B []))] 26]
theorem takeReq_ctr {e : EA} (he : e.Ok) (s : List UInt8) (hs : s.length ≤ 1099511627776) : Ctr Tryz.prog (GE e) 52 reqO0 [vv (.string (B s)),.one (.c (.row 0))]
    (fun os v => os = reqO (takeXB stepQ s .zero).1 ∧ v = vv (okV e (takeXB stepQ s .zero).2)) := by
  have hk1 := True.intro
  have hpc := parse_ctr he s hs
  refine Ctr.less ?_
  cases hp : NW.parse s with
  | none =>
    rw [show takeXB stepQ s .zero = (.zero,false) by rw [takeXB,hp]]
    rw [hp] at hpc;simp only [parsedO,parsedV] at hpc
    intro X0 hP0 hG0 N0 hN0
    refine CallVC.inline (f := 52) (by rw [hP0];exact Tryz.func52) rfl Tryz.ntmps52 rfl (by simp) ?_
    intro X K hU hnt hbl hK
    have hP : X.P = Tryz.prog := hU.P.trans hP0
    have hG := hG0.under hU
    have hT := Ty.T52 hP
    simp only [GA,↓GB,GX,simprocAttr] at hbl ⊢
    refine SX.nilAt (j := 9) (k := 3) 9 1 rfl rfl ?_
    refine SX.nilAt (j := 9) (k := 4) 9 1 rfl rfl ?_
    refine SX.nilAt (j := 9) (k := 5) 91 2 rfl rfl ?_
    simp only [GA,↓GB,GX,simprocAttr]
    repeat' (first|(refine SX.seqK ?_;intro N hN)|((first | (refine SX.ops ?_));simp only [GA,↓GB,GX,simprocAttr,hnt,hT])|((first | refine SX.skip ?_ | refine SX.exit ?_ | refine SX.label ?_ | refine SX.ret ?_);try simp only [GA,↓GB,GX,simprocAttr])|(refine hN _ ?_;clear hN N)|((first | refine hK _ _ (FinI.ret3 ?_) | refine hK _ _ (FinI.nrm3 ?_));simp only [GA,↓GB,GX,simprocAttr,finP_s,hnt,hT];refine Done.out ?_)|(clear hN N;first | (refine hN _ ?_;clear hN N) | (clear hN N;refine hN _ ?_;clear hN N))|((first | refine SX.cond rfl (fun hb => ?_) (fun hb => ?_) | (refine bif2.mk (fun hb => ?_) (fun hb => ?_) <;> (try simp only [hb,GA,↓GB,GX,simprocAttr,hnt,hT]))) <;> ((first | cases hb | (simp only [HBs] at hb) | skip) <;> (first | (exfalso;omega) | skip)))|((first | (refine Ctr.use (hpc) hP hG [] ?_ rfl rfl ?_;(focus (refine LeR.of rfl trivial ?_ ?_ ?_ ?_ ?_ <;> first | decide | (simp only [GA,↓GB,GX,simprocAttr,GDs];done)));intro os' s hR;obtain ⟨rfl,rfl⟩ := hR));simp only [GA,↓GB,GX,simprocAttr,hnt,hT])|(refine ldG (p := (⟨0,0,none⟩,errV e.f)) (hG _ (GE1 e)) ?_;simp only [GA,↓GB,GX,simprocAttr,hnt,hT])|(refine SX.block ?_)|(refine and_mk ?_ ?_;(focus first | decide | omega | rfl | assumption | (simp only [LBs];omega) | (simp;done)))|(refine And.intro ?_ ?_))
    all_goals (try refine Done.mk ?_)
    all_goals (refine hN0 _ _ ⟨[0,1,2,3,4,5,6,7,8,9,10,11,12],_,_,?_,?_,?_,⟨rfl,rfl⟩⟩;(focus exact LeR.of rfl trivial (by simp only [GA,↓GB,GX,simprocAttr,GDs];exact ⟨rfl,rfl,rfl,rfl,rfl,rfl⟩) (by decide) rfl rfl rfl);rotate_left;(focus rfl);rfl)
  | some l =>
    rw [show takeXB stepQ s .zero = takeX stepQ l .zero by rw [takeXB,hp]]
    have hll := parse_len hp
    have hfs := parse_slen hp
    have hfi : ∀ i,i < l.length → (l.getD i default).s.length ≤ 1099511627776 := fun i hi => by
      rw [List.getD_eq_getElem?_getD,List.getElem?_eq_getElem hi]
      exact Nat.le_trans (hfs _ (List.getElem_mem hi)) hs
    rw [hp] at hpc;simp only [parsedO,parsedV] at hpc
    intro X0 hP0 hG0 N0 hN0
    refine CallVC.inline (f := 52) (by rw [hP0];exact Tryz.func52) rfl Tryz.ntmps52 rfl (by simp) ?_
    intro X K hU hnt hbl hK
    have hP : X.P = Tryz.prog := hU.P.trans hP0
    have hG := hG0.under hU
    have hT := Ty.T52 hP
    simp only [GA,↓GB,GX,simprocAttr] at hbl ⊢
    refine SX.nilAt (j := 9) (k := 3) 9 1 rfl rfl ?_
    refine SX.nilAt (j := 9) (k := 4) 9 1 rfl rfl ?_
    refine SX.nilAt (j := 9) (k := 5) 91 2 rfl rfl ?_
    simp only [GA,↓GB,GX,simprocAttr]
    have hk9 : calleeOk X.P 88 = true := by rw [hP];kernel_rfl
    have hk8 : calleeOk X.P 87 = true := by rw [hP];kernel_rfl
    have hk7 : calleeOk X.P 90 = true := by rw [hP];kernel_rfl
    have hk6 : calleeOk X.P 51 = true := by rw [hP];kernel_rfl
    have hnt1 := True.intro;have hT1 := True.intro;have hU1P := True.intro
    repeat' (first|(refine numBlk7 (id := 1) (l.getD i default).num (fun hk1 => ?_) (fun hk1 => ?_) (fun hk1 => ?_) (fun hk1 => ?_) (fun hk1 => ?_) (fun hk1 => ?_) (fun hk1 => ?_) (fun hk1 => ?_))|(refine SX.seqK ?_;intro N hN)|((first | (refine SX.ops ?_));simp only [GA,↓GB,GX,simprocAttr,hnt,hT,hnt1,hT1,hU1P,hk1,hk9,hk8,hk7,hk6])|((first | refine SX.skip ?_ | refine SX.exit ?_ | refine SX.label ?_ | refine SX.ret ?_);try simp only [GA,↓GB,GX,simprocAttr])|(refine hN _ ?_;clear hN N)|((first | refine hK1 _ _ (FinI.ret3 ?_) | refine hK1 _ _ (FinI.nrm3 ?_));(repeat (clear hN N));clear hK1 K1;simp only [GA,↓GB,GX,simprocAttr,finP_s,hnt,hT,hnt1,hT1,hU1P,hk1,hk9,hk8,hk7,hk6])|((first | refine hK _ _ (FinI.ret3 ?_) | refine hK _ _ (FinI.nrm3 ?_));simp only [GA,↓GB,GX,simprocAttr,finP_s,hnt,hT,hnt1,hT1,hU1P,hk1,hk9,hk8,hk7,hk6];refine Done.out ?_)|(clear hN N;first | (refine hN _ ?_;clear hN N) | (clear hN N;refine hN _ ?_;clear hN N))|((first | refine SX.cond rfl (fun hb => ?_) (fun hb => ?_) | (refine bif2.mk (fun hb => ?_) (fun hb => ?_) <;> (try simp only [hb,GA,↓GB,GX,simprocAttr,hnt,hT,hnt1,hT1,hU1P,hk1,hk9,hk8,hk7,hk6]))) <;> ((first | cases hb | (simp only [HBs] at hb) | skip) <;> (first | (exfalso;omega) | skip)))|((first | (refine Ctr.use (hpc) hP hG [] ?_ rfl rfl ?_;(focus (refine LeR.of rfl trivial ?_ ?_ ?_ ?_ ?_ <;> first | decide | (simp only [GA,↓GB,GX,simprocAttr,GDs];done)));intro os' s hR;obtain ⟨rfl,rfl⟩ := hR) | (refine Ctr.use (have6_ctr he m.nonce m.sb m.un m.hv m.det (l.getD i default).kind (l.getD i default).n (l.getD i default).s (hfi i (by omega)) (by omega)) hP hG [9,10,11,12] ?_ rfl rfl ?_;(focus (refine LeR.of rfl trivial ?_ ?_ ?_ ?_ ?_ <;> first | decide | (simp only [GA,↓GB,GX,simprocAttr,GDs];done)));intro os' s hR;obtain ⟨rfl,rfl⟩ := hR) | (refine Ctr.use (sub_ctr 4 (l.getD i default).kind (l.getD i default).n (l.getD i default).s m.nonce m.sb m.un m.hv m.det (by omega)) hP ?_ [4,9,10,11,12] ?_ rfl rfl ?_;(focus (intro p hp;cases hp));(focus (refine LeR.of rfl trivial ?_ ?_ ?_ ?_ ?_ <;> first | decide | (simp only [GA,↓GB,GX,simprocAttr,GDs];done)));intro os' s hR;obtain ⟨rfl,rfl⟩ := hR) | (refine Ctr.use (uns_ctr 5 (l.getD i default).kind (l.getD i default).n (l.getD i default).s m.nonce m.sb m.un m.hv m.det (by omega)) hP ?_ [5,9,10,11,12] ?_ rfl rfl ?_;(focus (intro p hp;cases hp));(focus (refine LeR.of rfl trivial ?_ ?_ ?_ ?_ ?_ <;> first | decide | (simp only [GA,↓GB,GX,simprocAttr,GDs];done)));intro os' s hR;obtain ⟨rfl,rfl⟩ := hR));simp only [GA,↓GB,GX,simprocAttr,hnt,hT,hnt1,hT1,hU1P,hk1,hk9,hk8,hk7,hk6])|(refine CallVC.inline (f := 88) ?_ rfl Tryz.ntmps88 rfl ?_ ?_;(focus rw [hP];exact Tryz.func88);(focus simp);have hT1 := Ty.T88 hP;intro X1 K1 hU1 hnt1 hbl1 hK1;have hU1P := hU1.P;simp only [GA,↓GB,GX,simprocAttr] at hbl1 ⊢)|(refine CallVC.inline (f := 87) ?_ rfl Tryz.ntmps87 rfl ?_ ?_;(focus rw [hP];exact Tryz.func87);(focus simp);have hT1 := Ty.T87 hP;intro X1 K1 hU1 hnt1 hbl1 hK1;have hU1P := hU1.P;simp only [GA,↓GB,GX,simprocAttr] at hbl1 ⊢)|(refine ldG (p := (⟨0,0,none⟩,errV e.f)) (hG _ (GE1 e)) ?_;simp only [GA,↓GB,GX,simprocAttr,hnt,hT])|(refine ⟨fcells (l.getD i default),rfl,flds_cell _ _ (by omega),?_⟩ <;> simp only [fcells,GA,↓GB,GX,simprocAttr,hnt,hT,hk1])|(refine SX.loop (ι := { p : Nat × RqS // p.1 ≤ l.length ∧ p.2.sb.length ≤ p.1 ∧ p.2.un.length ≤ p.1 ∧ p.2.hv.length ≤ p.1 ∧ takeX stepQ l .zero = takeX stepQ (l.drop p.1) p.2 }) (fun p => ⟨[(1,.one (.c (.row 0))),(19,.one (.c (.row 13))),(20,vv (.int .i64 l.length)),(21,vv (.int .i64 p.1.1))],[reqMap,.cells [.loc 7 0] 117,.cells [.loc 8 0] 117,.cells [.loc 9 2] 117,.cells [.loc 9 3] 122,.cells [.loc 9 4] 122,.cells [.loc 9 6] 115,.cells [.v (.int .u64 p.1.2.kind)] 22,.cells [.v (.int .u64 p.1.2.delta)] 22,.cells [.v (.int .i64 0),.v (.bool false),.v (.int .u64 p.1.2.nonce),.row 10,.row 11,.row 12,.v (.string (B p.1.2.det))] 26,srow p.1.2.sb,srow p.1.2.un,hrow p.1.2.hv,frow l]⟩) (fun p => l.length - p.1.1) ⟨(0,.zero),Nat.zero_le _,Nat.le_refl _,Nat.le_refl _,Nat.le_refl _,rfl⟩ ⟨[0,1,2,3,4,5,6,7,8,9,10,11,12,13],by (refine LeR.of ?_ ?_ ?_ ?_ ?_ ?_ ?_ <;> first | (rw [hbl];decide) | decide | (simp only [GA,↓GB,GX,simprocAttr,GDs];done) | (simp only [GA,↓GB,GX,simprocAttr,GDs];exact ⟨rfl,rfl,rfl,rfl,rfl,rfl⟩;done))⟩ ?_ <;> rintro ⟨⟨i,m⟩,hi,hl1,hl2,hl3,hm⟩ <;> simp only [] at hi hl1 hl2 hl3 hm ⊢)|((first | (refine Ctr.use (hpc) (hU1P.trans hP) (hG.under hU1) [] ?_ rfl rfl ?_;(focus (refine LeR.of rfl trivial ?_ ?_ ?_ ?_ ?_ <;> first | decide | (simp only [GA,↓GB,GX,simprocAttr,GDs];done)));intro os' s hR;obtain ⟨rfl,rfl⟩ := hR) | (refine Ctr.use (have6_ctr he m.nonce m.sb m.un m.hv m.det (l.getD i default).kind (l.getD i default).n (l.getD i default).s (hfi i (by omega)) (by omega)) (hU1P.trans hP) (hG.under hU1) [9,10,11,12] ?_ rfl rfl ?_;(focus (refine LeR.of rfl trivial ?_ ?_ ?_ ?_ ?_ <;> first | decide | (simp only [GA,↓GB,GX,simprocAttr,GDs];done)));intro os' s hR;obtain ⟨rfl,rfl⟩ := hR) | (refine Ctr.use (sub_ctr 4 (l.getD i default).kind (l.getD i default).n (l.getD i default).s m.nonce m.sb m.un m.hv m.det (by omega)) (hU1P.trans hP) ?_ [4,9,10,11,12] ?_ rfl rfl ?_;(focus (intro p hp;cases hp));(focus (refine LeR.of rfl trivial ?_ ?_ ?_ ?_ ?_ <;> first | decide | (simp only [GA,↓GB,GX,simprocAttr,GDs];done)));intro os' s hR;obtain ⟨rfl,rfl⟩ := hR) | (refine Ctr.use (uns_ctr 5 (l.getD i default).kind (l.getD i default).n (l.getD i default).s m.nonce m.sb m.un m.hv m.det (by omega)) (hU1P.trans hP) ?_ [5,9,10,11,12] ?_ rfl rfl ?_;(focus (intro p hp;cases hp));(focus (refine LeR.of rfl trivial ?_ ?_ ?_ ?_ ?_ <;> first | decide | (simp only [GA,↓GB,GX,simprocAttr,GDs];done)));intro os' s hR;obtain ⟨rfl,rfl⟩ := hR));simp only [GA,↓GB,GX,simprocAttr,hnt,hT,hnt1,hT1,hU1P,hk1,hk9,hk8,hk7,hk6])|(refine SX.block ?_)|(refine and_mk ?_ ?_;(focus first | decide | omega | rfl | assumption | (simp only [LBs];omega) | (simp;done)))|(refine And.intro ?_ ?_))
    all_goals (try refine Done.mk ?_)
    · have hj : (l.getD i default).num = 1 := by omega
      have hq : ¬ (l.getD i default).kind = 0 := by omega
      rw [takeX_no hm (by omega) (show stepQ (l.getD i default) m = (m,false) by simp [-List.getD_eq_getElem?_getD,stepQ,hj,hq])] at hN0
      (refine hN0 _ _ ⟨[0,1,2,3,4,5,6,7,8,9,10,11,12],_,_,?_,?_,?_,⟨rfl,rfl⟩⟩;(focus exact LeR.of rfl trivial (by simp only [GA,↓GB,GX,simprocAttr,GDs]) (by decide) rfl rfl rfl);rotate_left;(focus rfl))
      rfl
    · have hj : (l.getD i default).num = 1 := by omega
      have hq : (l.getD i default).kind = 0 := by have := bne_eq_false_iff_eq.1 hb;omega
      exact ⟨⟨(i + 1,{ m with kind := (l.getD i default).n }),by show i + 1 ≤ l.length;omega,by show m.sb.length ≤ i + 1;omega,by show m.un.length ≤ i + 1;omega,by show m.hv.length ≤ i + 1;omega,takeX_go hm (by omega) (by simp [-List.getD_eq_getElem?_getD,stepQ,hj,hq])⟩,[0,1,2,3,4,5,6,7,8,9,10,11,12,13],by (refine LeR.of ?_ ?_ ?_ ?_ ?_ ?_ ?_ <;> first | (rw [hbl];decide) | decide | (simp only [GA,↓GB,GX,simprocAttr,GDs];done) | (simp only [GA,↓GB,GX,simprocAttr,GDs];first | (rw [wI64 (by omega) (by omega)];rfl) | rfl;done)),by show l.length - (i + 1) < l.length - i;omega⟩
    · have hj : (l.getD i default).num = 2 := by omega
      have hq : ¬ (l.getD i default).kind = 0 := by omega
      rw [takeX_no hm (by omega) (show stepQ (l.getD i default) m = (m,false) by simp [-List.getD_eq_getElem?_getD,stepQ,hj,hq])] at hN0
      (refine hN0 _ _ ⟨[0,1,2,3,4,5,6,7,8,9,10,11,12],_,_,?_,?_,?_,⟨rfl,rfl⟩⟩;(focus exact LeR.of rfl trivial (by simp only [GA,↓GB,GX,simprocAttr,GDs]) (by decide) rfl rfl rfl);rotate_left;(focus rfl))
      rfl
    · have hj : (l.getD i default).num = 2 := by omega
      have hq : (l.getD i default).kind = 0 := by have := bne_eq_false_iff_eq.1 hb;omega
      exact ⟨⟨(i + 1,{ m with delta := (l.getD i default).n }),by show i + 1 ≤ l.length;omega,by show m.sb.length ≤ i + 1;omega,by show m.un.length ≤ i + 1;omega,by show m.hv.length ≤ i + 1;omega,takeX_go hm (by omega) (by simp [-List.getD_eq_getElem?_getD,stepQ,hj,hq])⟩,[0,1,2,3,4,5,6,7,8,9,10,11,12,13],by (refine LeR.of ?_ ?_ ?_ ?_ ?_ ?_ ?_ <;> first | (rw [hbl];decide) | decide | (simp only [GA,↓GB,GX,simprocAttr,GDs];done) | (simp only [GA,↓GB,GX,simprocAttr,GDs];first | (rw [wI64 (by omega) (by omega)];rfl) | rfl;done)),by show l.length - (i + 1) < l.length - i;omega⟩
    · have hj : (l.getD i default).num = 3 := by omega
      have hq : ¬ (l.getD i default).kind = 0 := by omega
      rw [takeX_no hm (by omega) (show stepQ (l.getD i default) m = (m,false) by simp [-List.getD_eq_getElem?_getD,stepQ,hj,hq])] at hN0
      (refine hN0 _ _ ⟨[0,1,2,3,4,5,6,7,8,9,10,11,12],_,_,?_,?_,?_,⟨rfl,rfl⟩⟩;(focus exact LeR.of rfl trivial (by simp only [GA,↓GB,GX,simprocAttr,GDs]) (by decide) rfl rfl rfl);rotate_left;(focus rfl))
      rfl
    · have hj : (l.getD i default).num = 3 := by omega
      have hq : (l.getD i default).kind = 0 := by have := bne_eq_false_iff_eq.1 hb;omega
      exact ⟨⟨(i + 1,{ m with nonce := (l.getD i default).n }),by show i + 1 ≤ l.length;omega,by show m.sb.length ≤ i + 1;omega,by show m.un.length ≤ i + 1;omega,by show m.hv.length ≤ i + 1;omega,takeX_go hm (by omega) (by simp [-List.getD_eq_getElem?_getD,stepQ,hj,hq])⟩,[0,1,2,3,4,5,6,7,8,9,10,11,12,13],by (refine LeR.of ?_ ?_ ?_ ?_ ?_ ?_ ?_ <;> first | (rw [hbl];decide) | decide | (simp only [GA,↓GB,GX,simprocAttr,GDs];done) | (simp only [GA,↓GB,GX,simprocAttr,GDs];first | (rw [wI64 (by omega) (by omega)];rfl) | rfl;done)),by show l.length - (i + 1) < l.length - i;omega⟩
    · have hj : (l.getD i default).num = 4 := by omega
      have hq : ¬ (l.getD i default).kind = 2 := by omega
      rw [takeX_no hm (by omega) (show stepQ (l.getD i default) m = (m,false) by simp [-List.getD_eq_getElem?_getD,stepQ,hj,hq])] at hN0
      (refine hN0 _ _ ⟨[0,1,2,3,4,5,6,7,8,9,10,11,12],_,_,?_,?_,?_,⟨rfl,rfl⟩⟩;(focus exact LeR.of rfl trivial (by simp only [GA,↓GB,GX,simprocAttr,GDs]) (by decide) rfl rfl rfl);rotate_left;(focus rfl))
      rfl
    · have hj : (l.getD i default).num = 4 := by omega
      have hq : (l.getD i default).kind = 2 := by have := bne_eq_false_iff_eq.1 hb;omega
      exact ⟨⟨(i + 1,{ m with sb := m.sb ++ [(l.getD i default).s] }),by show i + 1 ≤ l.length;omega,by show (m.sb ++ [(l.getD i default).s]).length ≤ i + 1;simp only [List.length_append,List.length_cons,List.length_nil];omega,by show m.un.length ≤ i + 1;omega,by show m.hv.length ≤ i + 1;omega,takeX_go hm (by omega) (by simp [-List.getD_eq_getElem?_getD,stepQ,hj,hq])⟩,[0,1,2,3,4,5,6,7,8,9,16,11,12,13],by (refine LeR.of ?_ ?_ ?_ ?_ ?_ ?_ ?_ <;> first | (rw [hbl];decide) | decide | (simp only [GA,↓GB,GX,simprocAttr,GDs];done) | (simp only [GA,↓GB,GX,simprocAttr,GDs];first | (rw [wI64 (by omega) (by omega)];rfl) | rfl;done)),by show l.length - (i + 1) < l.length - i;omega⟩
    · have hj : (l.getD i default).num = 5 := by omega
      have hq : ¬ (l.getD i default).kind = 2 := by omega
      rw [takeX_no hm (by omega) (show stepQ (l.getD i default) m = (m,false) by simp [-List.getD_eq_getElem?_getD,stepQ,hj,hq])] at hN0
      (refine hN0 _ _ ⟨[0,1,2,3,4,5,6,7,8,9,10,11,12],_,_,?_,?_,?_,⟨rfl,rfl⟩⟩;(focus exact LeR.of rfl trivial (by simp only [GA,↓GB,GX,simprocAttr,GDs]) (by decide) rfl rfl rfl);rotate_left;(focus rfl))
      rfl
    · have hj : (l.getD i default).num = 5 := by omega
      have hq : (l.getD i default).kind = 2 := by have := bne_eq_false_iff_eq.1 hb;omega
      exact ⟨⟨(i + 1,{ m with un := m.un ++ [(l.getD i default).s] }),by show i + 1 ≤ l.length;omega,by show m.sb.length ≤ i + 1;omega,by show (m.un ++ [(l.getD i default).s]).length ≤ i + 1;simp only [List.length_append,List.length_cons,List.length_nil];omega,by show m.hv.length ≤ i + 1;omega,takeX_go hm (by omega) (by simp [-List.getD_eq_getElem?_getD,stepQ,hj,hq])⟩,[0,1,2,3,4,5,6,7,8,9,10,16,12,13],by (refine LeR.of ?_ ?_ ?_ ?_ ?_ ?_ ?_ <;> first | (rw [hbl];decide) | decide | (simp only [GA,↓GB,GX,simprocAttr,GDs];done) | (simp only [GA,↓GB,GX,simprocAttr,GDs];first | (rw [wI64 (by omega) (by omega)];rfl) | rfl;done)),by show l.length - (i + 1) < l.length - i;omega⟩
    · have hj : (l.getD i default).num = 6 := by omega
      have hq : ¬ (l.getD i default).kind = 2 := by omega
      rw [takeX_no hm (by omega) (show stepQ (l.getD i default) m = (m,false) by simp [-List.getD_eq_getElem?_getD,stepQ,hj,hq])] at hN0
      (refine hN0 _ _ ⟨[0,1,2,3,4,5,6,7,8,9,10,11,12],_,_,?_,?_,?_,⟨rfl,rfl⟩⟩;(focus exact LeR.of rfl trivial (by simp only [GA,↓GB,GX,simprocAttr,GDs]) (by decide) rfl rfl rfl);rotate_left;(focus rfl))
      rfl
    · have hj : (l.getD i default).num = 6 := by omega
      have hq : (l.getD i default).kind = 2 := by have := bne_eq_false_iff_eq.1 (by assumption : ((2 : Int) != ((l.getD i default).kind : Int)) = false);omega
      rw [takeX_no hm (by omega) (show stepQ (l.getD i default) m = ({ m with hv := m.hv ++ [(takeB stepH (l.getD i default).s ([],0)).1] },false) by simp [-List.getD_eq_getElem?_getD,stepQ,hj,hq,hb])] at hN0
      (refine hN0 _ _ ⟨[0,1,2,3,4,5,6,7,8,9,10,11,16],_,_,?_,?_,?_,⟨rfl,rfl⟩⟩;(focus exact LeR.of rfl trivial (by simp only [GA,↓GB,GX,simprocAttr,GDs]) (by decide) rfl rfl rfl);rotate_left;(focus rfl))
      rfl
    · have hj : (l.getD i default).num = 6 := by omega
      have hq : (l.getD i default).kind = 2 := by have := bne_eq_false_iff_eq.1 (by assumption : ((2 : Int) != ((l.getD i default).kind : Int)) = false);omega
      exact ⟨⟨(i + 1,{ m with hv := m.hv ++ [(takeB stepH (l.getD i default).s ([],0)).1] }),by show i + 1 ≤ l.length;omega,by show m.sb.length ≤ i + 1;omega,by show m.un.length ≤ i + 1;omega,by show (m.hv ++ [(takeB stepH (l.getD i default).s ([],0)).1]).length ≤ i + 1;simp only [List.length_append,List.length_cons,List.length_nil];omega,takeX_go hm (by omega) (by simp [-List.getD_eq_getElem?_getD,stepQ,hj,hq,hb])⟩,[0,1,2,3,4,5,6,7,8,9,10,11,16,13],by (refine LeR.of ?_ ?_ ?_ ?_ ?_ ?_ ?_ <;> first | (rw [hbl];decide) | decide | (simp only [GA,↓GB,GX,simprocAttr,GDs];done) | (simp only [GA,↓GB,GX,simprocAttr,GDs];first | (rw [wI64 (by omega) (by omega)];rfl) | rfl;done)),by show l.length - (i + 1) < l.length - i;omega⟩
    · have hj : (l.getD i default).num = 7 := by omega
      have hq : ¬ (l.getD i default).kind = 2 := by omega
      rw [takeX_no hm (by omega) (show stepQ (l.getD i default) m = (m,false) by simp [-List.getD_eq_getElem?_getD,stepQ,hj,hq])] at hN0
      (refine hN0 _ _ ⟨[0,1,2,3,4,5,6,7,8,9,10,11,12],_,_,?_,?_,?_,⟨rfl,rfl⟩⟩;(focus exact LeR.of rfl trivial (by simp only [GA,↓GB,GX,simprocAttr,GDs]) (by decide) rfl rfl rfl);rotate_left;(focus rfl))
      rfl
    · have hj : (l.getD i default).num = 7 := by omega
      have hq : (l.getD i default).kind = 2 := by have := bne_eq_false_iff_eq.1 hb;omega
      exact ⟨⟨(i + 1,{ m with det := (l.getD i default).s }),by show i + 1 ≤ l.length;omega,by show m.sb.length ≤ i + 1;omega,by show m.un.length ≤ i + 1;omega,by show m.hv.length ≤ i + 1;omega,takeX_go hm (by omega) (by simp [-List.getD_eq_getElem?_getD,stepQ,hj,hq])⟩,[0,1,2,3,4,5,6,7,8,9,10,11,12,13],by (refine LeR.of ?_ ?_ ?_ ?_ ?_ ?_ ?_ <;> first | (rw [hbl];decide) | decide | (simp only [GA,↓GB,GX,simprocAttr,GDs];done) | (simp only [GA,↓GB,GX,simprocAttr,GDs];first | (rw [wI64 (by omega) (by omega)];rfl) | rfl;done)),by show l.length - (i + 1) < l.length - i;omega⟩
    · obtain ⟨g1,g2,g3,g4,g5,g6,g7⟩ := hk1
      have k1 : ¬ (l.getD i default).num = 1 := fun h => by rw [h] at g1;cases g1
      have k2 : ¬ (l.getD i default).num = 2 := fun h => by rw [h] at g2;cases g2
      have k3 : ¬ (l.getD i default).num = 3 := fun h => by rw [h] at g3;cases g3
      have k4 : ¬ (l.getD i default).num = 4 := fun h => by rw [h] at g4;cases g4
      have k5 : ¬ (l.getD i default).num = 5 := fun h => by rw [h] at g5;cases g5
      have k6 : ¬ (l.getD i default).num = 6 := fun h => by rw [h] at g6;cases g6
      have k7 : ¬ (l.getD i default).num = 7 := fun h => by rw [h] at g7;cases g7
      exact ⟨⟨(i + 1,m),by show i + 1 ≤ l.length;omega,by show m.sb.length ≤ i + 1;omega,by show m.un.length ≤ i + 1;omega,by show m.hv.length ≤ i + 1;omega,takeX_go hm (by omega) (by simp [-List.getD_eq_getElem?_getD,stepQ,k1,k2,k3,k4,k5,k6,k7])⟩,[0,1,2,3,4,5,6,7,8,9,10,11,12,13],by (refine LeR.of ?_ ?_ ?_ ?_ ?_ ?_ ?_ <;> first | (rw [hbl];decide) | decide | (simp only [GA,↓GB,GX,simprocAttr,GDs];done) | (simp only [GA,↓GB,GX,simprocAttr,GDs];first | (rw [wI64 (by omega) (by omega)];rfl) | rfl;done)),by show l.length - (i + 1) < l.length - i;omega⟩
    · rw [takeX_end hm (by omega)] at hN0
      (refine hN0 _ _ ⟨[0,1,2,3,4,5,6,7,8,9,10,11,12],_,_,?_,?_,?_,⟨rfl,rfl⟩⟩;(focus exact LeR.of rfl trivial (by simp only [GA,↓GB,GX,simprocAttr,GDs]) (by decide) rfl rfl rfl);rotate_left;(focus rfl))
      rfl
def starB (s : List UInt8) : Bool := s == [42] || nameB s
theorem star_any (s : List UInt8) (hs : s.length ≤ 9223372036854775807) (w : World) : Calls Tryz.prog 65 #[.string (B s)] w fun e w' => e = .returned (.bool (starB s)) ∧ Below w.heap.size w w' := by
  refine calls_pureK (args := [.string (B s)]) w Tryz.func65 rfl Tryz.ntmps65 (by simp) ?_
  intro X K hX hK
  have hnt : X.nt = 9 := by rw [hX]
  have hwi : X.wi = w := by rw [hX]
  have hP : X.P = Tryz.prog := by rw [hX]
  have hown : X.own = [] := by rw [hX]
  have hbl : X.base.length = 0 := by rw [hX];rfl
  clear hX
  have hT := Ty.T65 hP
  repeat' (first|(refine SX.seqK ?_;intro N hN)|((first | (refine SX.ops ?_));simp only [GA,↓GB,GX,simprocAttr,hnt,hT])|((first | refine SX.skip ?_ | refine SX.exit ?_ | refine SX.label ?_ | refine SX.ret ?_);try simp only [GA,↓GB,GX,simprocAttr])|(refine hN _ ?_;clear hN N)|(refine hK _ _ (Fin.res rfl hown ?_);simp only [GA,↓GB,GX,simprocAttr,f_a,f_b,f_n,f_c,f_B,f_v,f_g,f_0,f_1,f_2,hT,hwi];intro w' hbel;refine Done.out ?_)|(refine bif2.mk (fun hb => ?_) (fun hb => ?_) <;> (try simp only [hb,GA,↓GB,GX,simprocAttr,hnt,hT]) <;> ((first | cases hb | (simp only [HBs] at hb) | skip) <;> (first | (exfalso;omega) | skip)))|((first | (refine CallVC.pv hP (name_any _ hs) rfl ?_) | (refine CallQ.pv hP (name_any _ hs) rfl ?_));simp only [GA,↓GB,GX,simprocAttr,hnt,hT])|(refine and_mk ?_ ?_;(focus first | decide | omega | rfl | assumption | (simp only [LBs];omega) | (simp;done)))|(refine And.intro ?_ ?_))
  all_goals (try refine Done.mk ?_)
  all_goals (refine ⟨?_,hbel⟩;simp_all [starB])
theorem typed_any (t : Int) (w : World) : Calls Tryz.prog 63 #[.int .i64 t] w fun e w' => e = .returned (.bool (decide (1 ≤ t) && decide (t ≤ 5))) ∧ Below w.heap.size w w' := by
  refine calls_pureK (args := [.int .i64 t]) w Tryz.func63 rfl Tryz.ntmps63 (by simp) ?_
  intro X K hX hK
  have hnt : X.nt = 9 := by rw [hX]
  have hwi : X.wi = w := by rw [hX]
  have hP : X.P = Tryz.prog := by rw [hX]
  have hown : X.own = [] := by rw [hX]
  have hbl : X.base.length = 0 := by rw [hX];rfl
  clear hX
  have hT : True := trivial
  repeat' (first|(refine SX.seqK ?_;intro N hN)|((first | (refine SX.ops ?_));simp only [GA,↓GB,GX,simprocAttr,hnt,hT])|((first | refine SX.skip ?_ | refine SX.exit ?_ | refine SX.label ?_ | refine SX.ret ?_);try simp only [GA,↓GB,GX,simprocAttr])|(refine hN _ ?_;clear hN N)|(refine hK _ _ (Fin.res rfl hown ?_);simp only [GA,↓GB,GX,simprocAttr,f_a,f_b,f_n,f_c,f_B,f_v,f_g,f_0,f_1,f_2,hT,hwi];intro w' hbel;refine Done.out ?_)|(refine bif2.mk (fun hb => ?_) (fun hb => ?_) <;> (try simp only [hb,GA,↓GB,GX,simprocAttr,hnt,hT]) <;> ((first | cases hb | (simp only [HBs] at hb) | skip) <;> (first | (exfalso;omega) | skip)))|(refine and_mk ?_ ?_;(focus first | decide | omega | rfl | assumption | (simp only [LBs];omega) | (simp;done)))|(refine And.intro ?_ ?_))
  all_goals (try refine Done.mk ?_)
  all_goals (refine ⟨?_,hbel⟩;simp_all <;> (intros;omega))
def idxS (p : List UInt8 → Bool) (l : List (List UInt8)) : Int := match l.findIdx? p with | some i => i | none => -1
theorem idxS_at (p : List UInt8 → Bool) (l : List (List UInt8)) (i : Nat) (hi : i < l.length) (hp : p (l.getD i []) = true) (hn : ∀ j,j < i → p (l.getD j []) = false) : idxS p l = i := by
  have : l.findIdx? p = some i := by
    rw [List.findIdx?_eq_some_iff_getElem]
    refine ⟨hi,by simpa [List.getD_eq_getElem?_getD,List.getElem?_eq_getElem hi] using hp,fun j hj => ?_⟩
    have := hn j hj
    rw [List.getD_eq_getElem?_getD,List.getElem?_eq_getElem (by omega)] at this
    simpa using this
  simp [idxS,this]
theorem idxS_none (p : List UInt8 → Bool) (l : List (List UInt8)) (hn : ∀ j,j < l.length → p (l.getD j []) = false) : idxS p l = -1 := by
  have : l.findIdx? p = none := by
    rw [List.findIdx?_eq_none_iff]
    intro x hx
    obtain ⟨j,hj,rfl⟩ := List.mem_iff_getElem.1 hx
    have := hn j hj
    rw [List.getD_eq_getElem?_getD,List.getElem?_eq_getElem hj] at this
    simpa using this
  simp [idxS,this]
theorem idxS_all (p : List UInt8 → Bool) (l : List (List UInt8)) : decide (0 ≤ idxS p l) = !(l.all fun s => !p s) := by
  cases h : l.findIdx? p with
  | none =>
    have : (l.all fun s => !p s) = true := by
      rw [List.all_eq_true]
      intro x hx
      rw [List.findIdx?_eq_none_iff] at h
      rw [h x hx];rfl
    rw [this];simp [idxS,h]
  | some i =>
    have : (l.all fun s => !p s) = false := by
      rw [List.all_eq_false]
      rw [List.findIdx?_eq_some_iff_getElem] at h
      obtain ⟨hi,hp,_⟩ := h
      exact ⟨l[i],List.getElem_mem hi,by rw [hp];decide⟩
    rw [this];simp [idxS,h]
theorem srow_at (l : List (List UInt8)) (i : Nat) (h : i < l.length) : (l.map fun s => Value.string (B s))[i * 1]? = some (.string (B (l.getD i []))) := by
  rw [Nat.mul_one,List.getElem?_map,List.getD_eq_getElem?_getD,List.getElem?_eq_getElem h];rfl
theorem getD_bd {l : List (List UInt8)} {n : Nat} (h : ∀ s ∈ l,s.length ≤ n) (i : Nat) : (l.getD i []).length ≤ n := by
  rw [List.getD_eq_getElem?_getD]
  cases hq : l[i]? with
  | none => simp
  | some s => exact h s (List.mem_of_getElem? hq)
theorem named1Star (s : List UInt8) (hs : s.length ≤ 9223372036854775807) : Ctr Tryz.prog [] 93 [.cells [.clo 65 [] []] 135] [vv (.string (B s)),.one (.c (.loc 0 0))] (fun os v => os = [.cells [.clo 65 [] []] 135] ∧ v = vv (.bool (!starB s))) := by
  refine Ctr.less ?_
  intro X0 hP0 hG0 N0 hN0
  refine CallVC.inline (f := 93) (by rw [hP0];exact Tryz.func93) rfl Tryz.ntmps93 rfl (by simp) ?_
  intro X K hU hnt hbl hK
  have hP : X.P = Tryz.prog := hU.P.trans hP0
  have hG := hG0.under hU
  have hT := Ty.T93 hP
  simp only [GA,↓GB,GX,simprocAttr] at hbl ⊢
  have hc : calleeOk X.P 65 = true := by rw [hP];kernel_rfl
  repeat' (first|(refine SX.seqK ?_;intro N hN)|((first | (refine SX.ops ?_));simp only [GA,↓GB,GX,simprocAttr,hnt,hT,hc])|((first | refine SX.skip ?_ | refine SX.exit ?_ | refine SX.label ?_ | refine SX.ret ?_);try simp only [GA,↓GB,GX,simprocAttr])|(refine hN _ ?_;clear hN N)|((first | refine hK _ _ (FinI.ret3 ?_) | refine hK _ _ (FinI.nrm3 ?_));simp only [GA,↓GB,GX,simprocAttr,finP_s,hnt,hT,hc];refine Done.out ?_)|(refine bif2.mk (fun hb => ?_) (fun hb => ?_) <;> (try simp only [hb,GA,↓GB,GX,simprocAttr,hnt,hT,hc]) <;> ((first | cases hb | (simp only [HBs] at hb) | skip) <;> (first | (exfalso;omega) | skip)))|((first | (refine CallVC.pv hP (star_any s hs) rfl ?_) | (refine CallQ.pv hP (star_any s hs) rfl ?_));simp only [GA,↓GB,GX,simprocAttr,hnt,hT,hc])|(refine and_mk ?_ ?_;(focus first | decide | omega | rfl | assumption | (simp only [LBs];omega) | (simp;done)))|(refine And.intro ?_ ?_))
  all_goals (try refine Done.mk ?_)
  all_goals ((refine hN0 _ _ ⟨[0],_,_,?_,?_,?_,⟨rfl,rfl⟩⟩;(focus exact LeR.of rfl trivial (by simp only [GA,↓GB,GX,simprocAttr,GDs]) (by decide) rfl rfl rfl);rotate_left;(focus rfl));rfl)
theorem indexStar (l : List (List UInt8)) (hl : l.length ≤ 1099511627776) (hb : ∀ s ∈ l,s.length ≤ 9223372036854775807) : Ctr Tryz.prog [] 106 [srow l,.cells [.clo 65 [] []] 135] [.one (.c (.row 0)),.one (.c (.clo 93 [] [.loc 1 0]))]
    (fun os v => os = [srow l,.cells [.clo 65 [] []] 135] ∧ v = vv (.int .i64 (idxS (fun s => !starB s) l))) := by
  have hrun : ∀ i : Nat,Ctr Tryz.prog [] 93 [.cells [.clo 65 [] []] 135] [vv (.string (B (l.getD i []))),.one (.c (.loc 0 0))] (fun os v => os = [.cells [.clo 65 [] []] 135] ∧ v = vv (.bool (!starB (l.getD i [])))) := fun i => named1Star (l.getD i []) (getD_bd hb i)
  refine Ctr.less ?_
  intro X0 hP0 hG0 N0 hN0
  refine CallVC.inline (f := 106) (by rw [hP0];exact Tryz.func106) rfl Tryz.ntmps106 rfl (by simp) ?_
  intro X K hU hnt hbl hK
  have hP : X.P = Tryz.prog := hU.P.trans hP0
  have hG := hG0.under hU
  have hT := Ty.T106 hP
  simp only [GA,↓GB,GX,simprocAttr] at hbl ⊢
  have hc : calleeOk X.P 93 = true := by rw [hP];kernel_rfl
  repeat' (first|(refine SX.seqK ?_;intro N hN)|((first | (refine SX.ops ?_));simp only [GA,↓GB,GX,simprocAttr,hnt,hT,hc])|((first | refine SX.skip ?_ | refine SX.exit ?_ | refine SX.label ?_ | refine SX.ret ?_);try simp only [GA,↓GB,GX,simprocAttr])|(refine hN _ ?_;clear hN N)|((first | refine hK _ _ (FinI.ret3 ?_) | refine hK _ _ (FinI.nrm3 ?_));simp only [GA,↓GB,GX,simprocAttr,finP_s,hnt,hT,hc];refine Done.out ?_)|(clear hN N;first | (refine hN _ ?_;clear hN N) | (clear hN N;refine hN _ ?_;clear hN N))|((first | refine SX.cond rfl (fun hb => ?_) (fun hb => ?_) | (refine bif2.mk (fun hb => ?_) (fun hb => ?_) <;> (try simp only [hb,GA,↓GB,GX,simprocAttr,hnt,hT,hc]))) <;> ((first | cases hb | (simp only [HBs] at hb) | skip) <;> (first | (exfalso;omega) | skip)))|((first | (refine Ctr.use (hrun i) hP ?_ [1] ?_ rfl rfl ?_;(focus (intro p hp;cases hp));(focus (refine LeR.of rfl trivial ?_ ?_ ?_ ?_ ?_ <;> first | decide | (simp only [GA,↓GB,GX,simprocAttr,GDs];done)));intro os' s hR;obtain ⟨rfl,rfl⟩ := hR));simp only [GA,↓GB,GX,simprocAttr,hnt,hT,hc])|(refine SX.loop (ι := { i : Nat // i ≤ l.length ∧ ∀ j,j < i → (!starB (l.getD j [])) = false }) (fun i => ⟨[(0,.one (.c (.row 0))),(1,.one (.c (.clo 93 [] [.loc 1 0]))),(7,vv (.int .i64 l.length)),(8,vv (.int .i64 i.1))],[srow l,.cells [.clo 65 [] []] 135]⟩) (fun i => l.length - i.1) ⟨0,Nat.zero_le _,fun j hj => absurd hj (Nat.not_lt_zero j)⟩ ⟨[0,1],by (refine LeR.of ?_ ?_ ?_ ?_ ?_ ?_ ?_ <;> first | (rw [hbl];decide) | decide | (simp only [GA,↓GB,GX,simprocAttr,GDs];done) | (simp only [GA,↓GB,GX,simprocAttr,GDs];rfl;done))⟩ ?_ <;> rintro ⟨i,hi,hno⟩ <;> simp only [] at hi hno ⊢)|(refine ⟨_,srow_at _ _ (by omega),?_⟩ <;> (try simp only [GA,↓GB,GX,simprocAttr,hnt,hT]))|(refine SX.block ?_)|(refine and_mk ?_ ?_;(focus first | decide | omega | rfl | assumption | (simp only [LBs];omega) | (simp;done)))|(refine And.intro ?_ ?_))
  all_goals (try refine Done.mk ?_)
  · rw [idxS_at (fun s => !starB s) l i (by omega) (by simpa using hb) hno] at hN0
    (refine hN0 _ _ ⟨[0,1],_,_,?_,?_,?_,⟨rfl,rfl⟩⟩;(focus exact LeR.of rfl trivial (by simp only [GA,↓GB,GX,simprocAttr,GDs]) (by decide) rfl rfl rfl);rotate_left;(focus rfl))
    rfl
  · exact ⟨⟨i + 1,by omega,fun j hj => by
      rcases Nat.lt_or_eq_of_le (Nat.le_of_lt_succ hj) with h | rfl
      · exact hno j h
      · simpa using hb⟩,[0,1],by (refine LeR.of ?_ ?_ ?_ ?_ ?_ ?_ ?_ <;> first | (rw [hbl];decide) | decide | (simp only [GA,↓GB,GX,simprocAttr,GDs];done) | (simp only [GA,↓GB,GX,simprocAttr,GDs];first | (rw [wI64 (by omega) (by omega)];rfl) | rfl;done)),by show l.length - (i + 1) < l.length - i;omega⟩
  · rw [idxS_none (fun s => !starB s) l (fun j hj => hno j (by omega))] at hN0
    (refine hN0 _ _ ⟨[0,1],_,_,?_,?_,?_,⟨rfl,rfl⟩⟩;(focus exact LeR.of rfl trivial (by simp only [GA,↓GB,GX,simprocAttr,GDs]) (by decide) rfl rfl rfl);rotate_left;(focus rfl))
    rfl
theorem containsStar (l : List (List UInt8)) (hl : l.length ≤ 1099511627776) (hb : ∀ s ∈ l,s.length ≤ 9223372036854775807) : Ctr Tryz.prog [] 92 [srow l,.cells [.clo 65 [] []] 135] [.one (.c (.row 0)),.one (.c (.clo 93 [] [.loc 1 0]))]
    (fun os v => os = [srow l,.cells [.clo 65 [] []] 135] ∧ v = vv (.bool (!(l.all starB)))) := by
  have hi := indexStar l hl hb
  have he : decide (0 ≤ idxS (fun s => !starB s) l) = !(l.all starB) := by
    rw [idxS_all];simp
  refine Ctr.less ?_
  intro X0 hP0 hG0 N0 hN0
  refine CallVC.inline (f := 92) (by rw [hP0];exact Tryz.func92) rfl Tryz.ntmps92 rfl (by simp) ?_
  intro X K hU hnt hbl hK
  have hP : X.P = Tryz.prog := hU.P.trans hP0
  have hG := hG0.under hU
  have hT := Ty.T92 hP
  simp only [GA,↓GB,GX,simprocAttr] at hbl ⊢
  repeat' (first|(refine SX.seqK ?_;intro N hN)|((first | (refine SX.ops ?_));simp only [GA,↓GB,GX,simprocAttr,hnt,hT,he])|((first | refine SX.skip ?_ | refine SX.exit ?_ | refine SX.label ?_ | refine SX.ret ?_);try simp only [GA,↓GB,GX,simprocAttr])|(refine hN _ ?_;clear hN N)|((first | refine hK _ _ (FinI.ret3 ?_) | refine hK _ _ (FinI.nrm3 ?_));simp only [GA,↓GB,GX,simprocAttr,finP_s,hnt,hT,he];refine Done.out ?_)|(refine bif2.mk (fun hb => ?_) (fun hb => ?_) <;> (try simp only [hb,GA,↓GB,GX,simprocAttr,hnt,hT,he]) <;> ((first | cases hb | (simp only [HBs] at hb) | skip) <;> (first | (exfalso;omega) | skip)))|((first | (refine Ctr.use (hi) hP ?_ [0,1] ?_ rfl rfl ?_;(focus (intro p hp;cases hp));(focus (refine LeR.of rfl trivial ?_ ?_ ?_ ?_ ?_ <;> first | decide | (simp only [GA,↓GB,GX,simprocAttr,GDs];done)));intro os' s hR;obtain ⟨rfl,rfl⟩ := hR));simp only [GA,↓GB,GX,simprocAttr,hnt,hT,he])|(refine and_mk ?_ ?_;(focus first | decide | omega | rfl | assumption | (simp only [LBs];omega) | (simp;done)))|(refine And.intro ?_ ?_))
  all_goals (try refine Done.mk ?_)
  all_goals ((refine hN0 _ _ ⟨[0,1],_,_,?_,?_,?_,⟨rfl,rfl⟩⟩;(focus exact LeR.of rfl trivial (by simp only [GA,↓GB,GX,simprocAttr,GDs]) (by decide) rfl rfl rfl);rotate_left;(focus rfl));rfl)
theorem namedStar (l : List (List UInt8)) (hl : l.length ≤ 1099511627776) (hb : ∀ s ∈ l,s.length ≤ 9223372036854775807) : Ctr Tryz.prog [] 64 [srow l] [.one (.c (.row 0)),.one (.c (.clo 65 [] []))]
    (fun os v => os = [srow l] ∧ v = vv (.bool (decide ((l.length : Int) ≤ 64) && l.all starB))) := by
  have hi := containsStar l hl hb
  refine Ctr.less ?_
  intro X0 hP0 hG0 N0 hN0
  refine CallVC.inline (f := 64) (by rw [hP0];exact Tryz.func64) rfl Tryz.ntmps64 rfl (by simp) ?_
  intro X K hU hnt hbl hK
  have hP : X.P = Tryz.prog := hU.P.trans hP0
  have hG := hG0.under hU
  have hT := Ty.T64 hP
  simp only [GA,↓GB,GX,simprocAttr] at hbl ⊢
  repeat' (first|(refine SX.seqK ?_;intro N hN)|((first | (refine SX.ops ?_));simp only [GA,↓GB,GX,simprocAttr,hnt,hT])|((first | refine SX.skip ?_ | refine SX.exit ?_ | refine SX.label ?_ | refine SX.ret ?_);try simp only [GA,↓GB,GX,simprocAttr])|(refine hN _ ?_;clear hN N)|((first | refine hK _ _ (FinI.ret3 ?_) | refine hK _ _ (FinI.nrm3 ?_));simp only [GA,↓GB,GX,simprocAttr,finP_s,hnt,hT];refine Done.out ?_)|(refine bif2.mk (fun hb => ?_) (fun hb => ?_) <;> (try simp only [hb,GA,↓GB,GX,simprocAttr,hnt,hT]) <;> ((first | cases hb | (simp only [HBs] at hb) | skip) <;> (first | (exfalso;omega) | skip)))|((first | (refine Ctr.use (hi) hP ?_ [0,1] ?_ rfl rfl ?_;(focus (intro p hp;cases hp));(focus (refine LeR.of rfl trivial ?_ ?_ ?_ ?_ ?_ <;> first | decide | (simp only [GA,↓GB,GX,simprocAttr,GDs];done)));intro os' s hR;obtain ⟨rfl,rfl⟩ := hR));simp only [GA,↓GB,GX,simprocAttr,hnt,hT])|(refine and_mk ?_ ?_;(focus first | decide | omega | rfl | assumption | (simp only [LBs];omega) | (simp;done)))|(refine And.intro ?_ ?_))
  all_goals (try refine Done.mk ?_)
  · rw [decide_eq_true hb,Bool.true_and] at hN0
    rw [Bool.not_not]
    (refine hN0 _ _ ⟨[0],_,_,?_,?_,?_,⟨rfl,rfl⟩⟩;(focus exact LeR.of rfl trivial (by simp only [GA,↓GB,GX,simprocAttr,GDs]) (by decide) rfl rfl rfl);rotate_left;(focus rfl))
    rfl
  · rw [decide_eq_false (by omega),Bool.false_and] at hN0
    (refine hN0 _ _ ⟨[0],_,_,?_,?_,?_,⟨rfl,rfl⟩⟩;(focus exact LeR.of rfl trivial (by simp only [GA,↓GB,GX,simprocAttr,GDs]) (by decide) rfl rfl rfl);rotate_left;(focus rfl))
    rfl
theorem named1Name (s : List UInt8) (hs : s.length ≤ 9223372036854775807) : Ctr Tryz.prog [] 93 [.cells [.clo 66 [] []] 135] [vv (.string (B s)),.one (.c (.loc 0 0))] (fun os v => os = [.cells [.clo 66 [] []] 135] ∧ v = vv (.bool (!nameB s))) := by
  refine Ctr.less ?_
  intro X0 hP0 hG0 N0 hN0
  refine CallVC.inline (f := 93) (by rw [hP0];exact Tryz.func93) rfl Tryz.ntmps93 rfl (by simp) ?_
  intro X K hU hnt hbl hK
  have hP : X.P = Tryz.prog := hU.P.trans hP0
  have hG := hG0.under hU
  have hT := Ty.T93 hP
  simp only [GA,↓GB,GX,simprocAttr] at hbl ⊢
  have hc : calleeOk X.P 66 = true := by rw [hP];kernel_rfl
  repeat' (first|(refine SX.seqK ?_;intro N hN)|((first | (refine SX.ops ?_));simp only [GA,↓GB,GX,simprocAttr,hnt,hT,hc])|((first | refine SX.skip ?_ | refine SX.exit ?_ | refine SX.label ?_ | refine SX.ret ?_);try simp only [GA,↓GB,GX,simprocAttr])|(refine hN _ ?_;clear hN N)|((first | refine hK _ _ (FinI.ret3 ?_) | refine hK _ _ (FinI.nrm3 ?_));simp only [GA,↓GB,GX,simprocAttr,finP_s,hnt,hT,hc];refine Done.out ?_)|(refine bif2.mk (fun hb => ?_) (fun hb => ?_) <;> (try simp only [hb,GA,↓GB,GX,simprocAttr,hnt,hT,hc]) <;> ((first | cases hb | (simp only [HBs] at hb) | skip) <;> (first | (exfalso;omega) | skip)))|((first | (refine CallVC.pv hP (name_any s hs) rfl ?_) | (refine CallQ.pv hP (name_any s hs) rfl ?_));simp only [GA,↓GB,GX,simprocAttr,hnt,hT,hc])|(refine and_mk ?_ ?_;(focus first | decide | omega | rfl | assumption | (simp only [LBs];omega) | (simp;done)))|(refine And.intro ?_ ?_))
  all_goals (try refine Done.mk ?_)
  all_goals ((refine hN0 _ _ ⟨[0],_,_,?_,?_,?_,⟨rfl,rfl⟩⟩;(focus exact LeR.of rfl trivial (by simp only [GA,↓GB,GX,simprocAttr,GDs]) (by decide) rfl rfl rfl);rotate_left;(focus rfl));rfl)
theorem indexName (l : List (List UInt8)) (hl : l.length ≤ 1099511627776) (hb : ∀ s ∈ l,s.length ≤ 9223372036854775807) : Ctr Tryz.prog [] 106 [srow l,.cells [.clo 66 [] []] 135] [.one (.c (.row 0)),.one (.c (.clo 93 [] [.loc 1 0]))]
    (fun os v => os = [srow l,.cells [.clo 66 [] []] 135] ∧ v = vv (.int .i64 (idxS (fun s => !nameB s) l))) := by
  have hrun : ∀ i : Nat,Ctr Tryz.prog [] 93 [.cells [.clo 66 [] []] 135] [vv (.string (B (l.getD i []))),.one (.c (.loc 0 0))] (fun os v => os = [.cells [.clo 66 [] []] 135] ∧ v = vv (.bool (!nameB (l.getD i [])))) := fun i => named1Name (l.getD i []) (getD_bd hb i)
  refine Ctr.less ?_
  intro X0 hP0 hG0 N0 hN0
  refine CallVC.inline (f := 106) (by rw [hP0];exact Tryz.func106) rfl Tryz.ntmps106 rfl (by simp) ?_
  intro X K hU hnt hbl hK
  have hP : X.P = Tryz.prog := hU.P.trans hP0
  have hG := hG0.under hU
  have hT := Ty.T106 hP
  simp only [GA,↓GB,GX,simprocAttr] at hbl ⊢
  have hc : calleeOk X.P 93 = true := by rw [hP];kernel_rfl
  repeat' (first|(refine SX.seqK ?_;intro N hN)|((first | (refine SX.ops ?_));simp only [GA,↓GB,GX,simprocAttr,hnt,hT,hc])|((first | refine SX.skip ?_ | refine SX.exit ?_ | refine SX.label ?_ | refine SX.ret ?_);try simp only [GA,↓GB,GX,simprocAttr])|(refine hN _ ?_;clear hN N)|((first | refine hK _ _ (FinI.ret3 ?_) | refine hK _ _ (FinI.nrm3 ?_));simp only [GA,↓GB,GX,simprocAttr,finP_s,hnt,hT,hc];refine Done.out ?_)|(clear hN N;first | (refine hN _ ?_;clear hN N) | (clear hN N;refine hN _ ?_;clear hN N))|((first | refine SX.cond rfl (fun hb => ?_) (fun hb => ?_) | (refine bif2.mk (fun hb => ?_) (fun hb => ?_) <;> (try simp only [hb,GA,↓GB,GX,simprocAttr,hnt,hT,hc]))) <;> ((first | cases hb | (simp only [HBs] at hb) | skip) <;> (first | (exfalso;omega) | skip)))|((first | (refine Ctr.use (hrun i) hP ?_ [1] ?_ rfl rfl ?_;(focus (intro p hp;cases hp));(focus (refine LeR.of rfl trivial ?_ ?_ ?_ ?_ ?_ <;> first | decide | (simp only [GA,↓GB,GX,simprocAttr,GDs];done)));intro os' s hR;obtain ⟨rfl,rfl⟩ := hR));simp only [GA,↓GB,GX,simprocAttr,hnt,hT,hc])|(refine SX.loop (ι := { i : Nat // i ≤ l.length ∧ ∀ j,j < i → (!nameB (l.getD j [])) = false }) (fun i => ⟨[(0,.one (.c (.row 0))),(1,.one (.c (.clo 93 [] [.loc 1 0]))),(7,vv (.int .i64 l.length)),(8,vv (.int .i64 i.1))],[srow l,.cells [.clo 66 [] []] 135]⟩) (fun i => l.length - i.1) ⟨0,Nat.zero_le _,fun j hj => absurd hj (Nat.not_lt_zero j)⟩ ⟨[0,1],by (refine LeR.of ?_ ?_ ?_ ?_ ?_ ?_ ?_ <;> first | (rw [hbl];decide) | decide | (simp only [GA,↓GB,GX,simprocAttr,GDs];done) | (simp only [GA,↓GB,GX,simprocAttr,GDs];rfl;done))⟩ ?_ <;> rintro ⟨i,hi,hno⟩ <;> simp only [] at hi hno ⊢)|(refine ⟨_,srow_at _ _ (by omega),?_⟩ <;> (try simp only [GA,↓GB,GX,simprocAttr,hnt,hT]))|(refine SX.block ?_)|(refine and_mk ?_ ?_;(focus first | decide | omega | rfl | assumption | (simp only [LBs];omega) | (simp;done)))|(refine And.intro ?_ ?_))
  all_goals (try refine Done.mk ?_)
  · rw [idxS_at (fun s => !nameB s) l i (by omega) (by simpa using hb) hno] at hN0
    (refine hN0 _ _ ⟨[0,1],_,_,?_,?_,?_,⟨rfl,rfl⟩⟩;(focus exact LeR.of rfl trivial (by simp only [GA,↓GB,GX,simprocAttr,GDs]) (by decide) rfl rfl rfl);rotate_left;(focus rfl))
    rfl
  · exact ⟨⟨i + 1,by omega,fun j hj => by
      rcases Nat.lt_or_eq_of_le (Nat.le_of_lt_succ hj) with h | rfl
      · exact hno j h
      · simpa using hb⟩,[0,1],by (refine LeR.of ?_ ?_ ?_ ?_ ?_ ?_ ?_ <;> first | (rw [hbl];decide) | decide | (simp only [GA,↓GB,GX,simprocAttr,GDs];done) | (simp only [GA,↓GB,GX,simprocAttr,GDs];first | (rw [wI64 (by omega) (by omega)];rfl) | rfl;done)),by show l.length - (i + 1) < l.length - i;omega⟩
  · rw [idxS_none (fun s => !nameB s) l (fun j hj => hno j (by omega))] at hN0
    (refine hN0 _ _ ⟨[0,1],_,_,?_,?_,?_,⟨rfl,rfl⟩⟩;(focus exact LeR.of rfl trivial (by simp only [GA,↓GB,GX,simprocAttr,GDs]) (by decide) rfl rfl rfl);rotate_left;(focus rfl))
    rfl
theorem containsName (l : List (List UInt8)) (hl : l.length ≤ 1099511627776) (hb : ∀ s ∈ l,s.length ≤ 9223372036854775807) : Ctr Tryz.prog [] 92 [srow l,.cells [.clo 66 [] []] 135] [.one (.c (.row 0)),.one (.c (.clo 93 [] [.loc 1 0]))]
    (fun os v => os = [srow l,.cells [.clo 66 [] []] 135] ∧ v = vv (.bool (!(l.all nameB)))) := by
  have hi := indexName l hl hb
  have he : decide (0 ≤ idxS (fun s => !nameB s) l) = !(l.all nameB) := by
    rw [idxS_all];simp
  refine Ctr.less ?_
  intro X0 hP0 hG0 N0 hN0
  refine CallVC.inline (f := 92) (by rw [hP0];exact Tryz.func92) rfl Tryz.ntmps92 rfl (by simp) ?_
  intro X K hU hnt hbl hK
  have hP : X.P = Tryz.prog := hU.P.trans hP0
  have hG := hG0.under hU
  have hT := Ty.T92 hP
  simp only [GA,↓GB,GX,simprocAttr] at hbl ⊢
  repeat' (first|(refine SX.seqK ?_;intro N hN)|((first | (refine SX.ops ?_));simp only [GA,↓GB,GX,simprocAttr,hnt,hT,he])|((first | refine SX.skip ?_ | refine SX.exit ?_ | refine SX.label ?_ | refine SX.ret ?_);try simp only [GA,↓GB,GX,simprocAttr])|(refine hN _ ?_;clear hN N)|((first | refine hK _ _ (FinI.ret3 ?_) | refine hK _ _ (FinI.nrm3 ?_));simp only [GA,↓GB,GX,simprocAttr,finP_s,hnt,hT,he];refine Done.out ?_)|(refine bif2.mk (fun hb => ?_) (fun hb => ?_) <;> (try simp only [hb,GA,↓GB,GX,simprocAttr,hnt,hT,he]) <;> ((first | cases hb | (simp only [HBs] at hb) | skip) <;> (first | (exfalso;omega) | skip)))|((first | (refine Ctr.use (hi) hP ?_ [0,1] ?_ rfl rfl ?_;(focus (intro p hp;cases hp));(focus (refine LeR.of rfl trivial ?_ ?_ ?_ ?_ ?_ <;> first | decide | (simp only [GA,↓GB,GX,simprocAttr,GDs];done)));intro os' s hR;obtain ⟨rfl,rfl⟩ := hR));simp only [GA,↓GB,GX,simprocAttr,hnt,hT,he])|(refine and_mk ?_ ?_;(focus first | decide | omega | rfl | assumption | (simp only [LBs];omega) | (simp;done)))|(refine And.intro ?_ ?_))
  all_goals (try refine Done.mk ?_)
  all_goals ((refine hN0 _ _ ⟨[0,1],_,_,?_,?_,?_,⟨rfl,rfl⟩⟩;(focus exact LeR.of rfl trivial (by simp only [GA,↓GB,GX,simprocAttr,GDs]) (by decide) rfl rfl rfl);rotate_left;(focus rfl));rfl)
theorem namedName (l : List (List UInt8)) (hl : l.length ≤ 1099511627776) (hb : ∀ s ∈ l,s.length ≤ 9223372036854775807) : Ctr Tryz.prog [] 64 [srow l] [.one (.c (.row 0)),.one (.c (.clo 66 [] []))]
    (fun os v => os = [srow l] ∧ v = vv (.bool (decide ((l.length : Int) ≤ 64) && l.all nameB))) := by
  have hi := containsName l hl hb
  refine Ctr.less ?_
  intro X0 hP0 hG0 N0 hN0
  refine CallVC.inline (f := 64) (by rw [hP0];exact Tryz.func64) rfl Tryz.ntmps64 rfl (by simp) ?_
  intro X K hU hnt hbl hK
  have hP : X.P = Tryz.prog := hU.P.trans hP0
  have hG := hG0.under hU
  have hT := Ty.T64 hP
  simp only [GA,↓GB,GX,simprocAttr] at hbl ⊢
  repeat' (first|(refine SX.seqK ?_;intro N hN)|((first | (refine SX.ops ?_));simp only [GA,↓GB,GX,simprocAttr,hnt,hT])|((first | refine SX.skip ?_ | refine SX.exit ?_ | refine SX.label ?_ | refine SX.ret ?_);try simp only [GA,↓GB,GX,simprocAttr])|(refine hN _ ?_;clear hN N)|((first | refine hK _ _ (FinI.ret3 ?_) | refine hK _ _ (FinI.nrm3 ?_));simp only [GA,↓GB,GX,simprocAttr,finP_s,hnt,hT];refine Done.out ?_)|(refine bif2.mk (fun hb => ?_) (fun hb => ?_) <;> (try simp only [hb,GA,↓GB,GX,simprocAttr,hnt,hT]) <;> ((first | cases hb | (simp only [HBs] at hb) | skip) <;> (first | (exfalso;omega) | skip)))|((first | (refine Ctr.use (hi) hP ?_ [0,1] ?_ rfl rfl ?_;(focus (intro p hp;cases hp));(focus (refine LeR.of rfl trivial ?_ ?_ ?_ ?_ ?_ <;> first | decide | (simp only [GA,↓GB,GX,simprocAttr,GDs];done)));intro os' s hR;obtain ⟨rfl,rfl⟩ := hR));simp only [GA,↓GB,GX,simprocAttr,hnt,hT])|(refine and_mk ?_ ?_;(focus first | decide | omega | rfl | assumption | (simp only [LBs];omega) | (simp;done)))|(refine And.intro ?_ ?_))
  all_goals (try refine Done.mk ?_)
  · rw [decide_eq_true hb,Bool.true_and] at hN0
    rw [Bool.not_not]
    (refine hN0 _ _ ⟨[0],_,_,?_,?_,?_,⟨rfl,rfl⟩⟩;(focus exact LeR.of rfl trivial (by simp only [GA,↓GB,GX,simprocAttr,GDs]) (by decide) rfl rfl rfl);rotate_left;(focus rfl))
    rfl
  · rw [decide_eq_false (by omega),Bool.false_and] at hN0
    (refine hN0 _ _ ⟨[0],_,_,?_,?_,?_,⟨rfl,rfl⟩⟩;(focus exact LeR.of rfl trivial (by simp only [GA,↓GB,GX,simprocAttr,GDs]) (by decide) rfl rfl rfl);rotate_left;(focus rfl))
    rfl
def reqB (t : Int) (dl : Bool) (q : Nat) (sb un : List (List UInt8)) (hv : List HvS) (d : List UInt8) : Bool :=
  (decide (1 ≤ t) && decide (t ≤ 5)) && ((decide ((sb.length : Int) ≤ 64) && sb.all starB) && ((decide ((un.length : Int) ≤ 64) && un.all starB) && ((decide (((hv.map (·.1)).length : Int) ≤ 64) && (hv.map (·.1)).all nameB) && (decide ((d.length : Int) ≤ 256) && ((decide (0 < (q : Int)) || d == []) && (dl || ((un.length : Int) + (hv.length : Int) == 0)))))))
theorem hcells_at (l : List HvS) (i : Nat) (h : i < l.length) : ((hcells l).drop (i * 2)).take 2 = [.string (B (l.getD i default).1),.int .u64 ((l.getD i default).2 : Int)] := by
  induction l generalizing i with
  | nil => simp at h
  | cons m l ih =>
    cases i with
    | zero => simp [hcells]
    | succ i =>
      have : hcells (m :: l) = [.string (B m.1),.int .u64 (m.2 : Int)] ++ hcells l := rfl
      rw [this,show (i + 1) * 2 = 2 + i * 2 by omega,← List.drop_drop]
      simp only [List.getD_cons_succ]
      exact ih i (by simpa using h)
theorem rightReq_ctr (t : Int) (dl : Bool) (q : Nat) (sb un : List (List UInt8)) (hv : List HvS) (d : List UInt8) (h1 : sb.length ≤ 1099511627776) (h2 : un.length ≤ 1099511627776) (h3 : hv.length ≤ 1048576)
    (b1 : ∀ s ∈ sb,s.length ≤ 9223372036854775807) (b2 : ∀ s ∈ un,s.length ≤ 9223372036854775807) (b3 : ∀ s ∈ hv.map (·.1),s.length ≤ 9223372036854775807) :
    Ctr Tryz.prog [] 17 [srow sb,srow un,hrow hv] [.one (.agg [.v (.int .i64 t),.v (.bool dl),.v (.int .u64 q),.row 0,.row 1,.row 2,.v (.string (B d))])] (fun os v => os = [srow sb,srow un,hrow hv] ∧ v = vv (.bool (reqB t dl q sb un hv d))) := by
  have n1 := namedStar sb h1 b1
  have n2 := namedStar un h2 b2
  have n3 := namedName (hv.map (·.1)) (by rw [List.length_map];omega) b3
  have hw : IntKind.i64.wrap ((un.length : Int) + (hv.length : Int)) = (un.length : Int) + (hv.length : Int) := wI64 (by omega) (by omega)
  refine Ctr.less ?_
  intro X0 hP0 hG0 N0 hN0
  refine CallVC.inline (f := 17) (by rw [hP0];exact Tryz.func17) rfl Tryz.ntmps17 rfl (by simp) ?_
  intro X K hU hnt hbl hK
  have hP : X.P = Tryz.prog := hU.P.trans hP0
  have hG := hG0.under hU
  have hT := Ty.T17 hP
  simp only [GA,↓GB,GX,simprocAttr] at hbl ⊢
  have key : ∀ (b : Bool) (os' : List LO),reqB t dl q sb un hv d = b → LeR 3 [0,1,2] ⟨[],[srow sb,srow un,hrow hv]⟩ ⟨[],os'⟩ → N0 ⟨[],os'⟩ (vv (.bool b)) := fun b os' h hl => by
    subst h
    exact hN0 _ _ ⟨[0,1,2],_,_,hl,rfl,rfl,rfl,rfl⟩
  repeat' (first|(refine SX.seqK ?_;intro N hN)|((first | (refine SX.ops ?_));simp only [GA,↓GB,GX,simprocAttr,hnt,hT,hw])|((first | refine SX.skip ?_ | refine SX.exit ?_ | refine SX.label ?_ | refine SX.ret ?_);try simp only [GA,↓GB,GX,simprocAttr])|(refine hN _ ?_;clear hN N)|((first | refine hK _ _ (FinI.ret3 ?_) | refine hK _ _ (FinI.nrm3 ?_));simp only [GA,↓GB,GX,simprocAttr,finP_s,hnt,hT,hw];refine Done.out ?_)|(clear hN N;first | (refine hN _ ?_;clear hN N) | (clear hN N;refine hN _ ?_;clear hN N))|((first | refine SX.cond rfl (fun hb => ?_) (fun hb => ?_) | (refine bif2.mk (fun hb => ?_) (fun hb => ?_) <;> (try simp only [hb,GA,↓GB,GX,simprocAttr,hnt,hT,hw]))) <;> ((first | cases hb | (simp only [HBs] at hb) | skip) <;> (first | (exfalso;omega) | skip)))|((first | (refine CallVC.pv hP (typed_any t) rfl ?_) | (refine CallQ.pv hP (typed_any t) rfl ?_) | (refine Ctr.use (n1) hP ?_ [0] ?_ rfl rfl ?_;(focus (intro p hp;cases hp));(focus (refine LeR.of rfl trivial ?_ ?_ ?_ ?_ ?_ <;> first | decide | (simp only [GA,↓GB,GX,simprocAttr,GDs];done)));intro os' s hR;obtain ⟨rfl,rfl⟩ := hR) | (refine Ctr.use (n2) hP ?_ [1] ?_ rfl rfl ?_;(focus (intro p hp;cases hp));(focus (refine LeR.of rfl trivial ?_ ?_ ?_ ?_ ?_ <;> first | decide | (simp only [GA,↓GB,GX,simprocAttr,GDs];done)));intro os' s hR;obtain ⟨rfl,rfl⟩ := hR) | (refine Ctr.use (n3) hP ?_ [4] ?_ rfl rfl ?_;(focus (intro p hp;cases hp));(focus (refine LeR.of rfl trivial ?_ ?_ ?_ ?_ ?_ <;> first | decide | (simp only [GA,↓GB,GX,simprocAttr,GDs];done)));intro os' s hR;obtain ⟨rfl,rfl⟩ := hR));simp only [GA,↓GB,GX,simprocAttr,hnt,hT,hw])|(refine SX.loop (ι := { i : Nat // i ≤ hv.length }) (fun i => ⟨[(1,.one (.c (.loc 3 0))),(2,vv (.bool false)),(3,.one (.c (.row 4))),(11,.one (.c (.row 2))),(12,vv (.int .i64 hv.length)),(13,vv (.int .i64 i.1))],[srow sb,srow un,hrow hv,.cells [.v (.int .i64 t),.v (.bool dl),.v (.int .u64 q),.row 0,.row 1,.row 2,.v (.string (B d))] 26,srow ((hv.take i.1).map (·.1))]⟩) (fun i => hv.length - i.1) ⟨0,Nat.zero_le _⟩ ⟨[0,1,2,3,4],by (refine LeR.of ?_ ?_ ?_ ?_ ?_ ?_ ?_ <;> first | (rw [hbl];decide) | decide | (simp only [GA,↓GB,GX,simprocAttr,GDs];done) | (simp only [GA,↓GB,GX,simprocAttr,GDs];rfl;done))⟩ ?_ <;> rintro ⟨i,hi⟩ <;> simp only [] at hi ⊢ <;> rcases Nat.lt_or_eq_of_le hi with hlt | rfl <;> (try simp only [List.take_length]))|(refine ⟨_,rfl,hcells_at _ _ (by omega),?_⟩ <;> (try simp only [GA,↓GB,GX,simprocAttr,hnt,hT]))|(refine SX.block ?_)|(refine and_mk ?_ ?_;(focus first | decide | omega | rfl | assumption | (simp only [LBs];omega) | (simp;done)))|(refine And.intro ?_ ?_))
  all_goals (try refine Done.mk ?_)
  · rw [List.length_map,List.length_take];omega
  · have e := srow_snoc ((hv.take i).map (·.1)) (hv.getD i default).1
    have e2 : (hv.take (i + 1)).map (·.1) = (hv.take i).map (·.1) ++ [(hv.getD i default).1] := by
      rw [List.take_add_one,List.getElem?_eq_getElem hlt,List.getD_eq_getElem?_getD,List.getElem?_eq_getElem hlt,List.map_append];rfl
    rw [← e2] at e
    rw [e]
    exact ⟨⟨i + 1,by omega⟩,[0,1,2,3,7],by (refine LeR.of ?_ ?_ ?_ ?_ ?_ ?_ ?_ <;> first | (rw [hbl];decide) | decide | (simp only [GA,↓GB,GX,simprocAttr,GDs];done) | (simp only [GA,↓GB,GX,simprocAttr,GDs];first | (rw [wI64 (by omega) (by omega)];rfl) | rfl;done)),by show hv.length - (i + 1) < hv.length - i;omega⟩
  all_goals
    refine key _ _ ?_ ?_
    · clear hK hT hP hnt hN0 hG hG0 hbl n1 n2 n3 key hP0
      simp only [reqB]
      generalize sb.all starB = A1 at *
      generalize un.all starB = A2 at *
      generalize (hv.map (·.1)).all nameB = A3 at *
      generalize ((hv.map (·.1)).length : Int) = L3 at *
      clear b1 b2 b3
      cases A1 <;> cases A2 <;> cases A3 <;> simp_all <;> (intros;omega)
    · exact LeR.of rfl trivial (by simp only [GA,↓GB,GX,simprocAttr,GDs]) (by decide) rfl rfl rfl
def firstR : Code → Code
  | .seq x _ => x
  | x => x
theorem getReqM_no {e : EA} (he : e.Ok) (s : List UInt8) (hk : ¬ kindL s = 1) : Ctr Tryz.prog (GE e) 56 reqO0 [vv (.string (B s)),vv (.int .i64 1),.one (.c (.row 0))] (fun os v => os = reqO0 ∧ v = vv (errV e.k)) := by
  have hk1 : (kindL s != 1) = true := by simpa using hk
  refine Ctr.less ?_
  intro X0 hP0 hG0 N0 hN0
  refine CallVC.inline (f := 56) (by rw [hP0];exact Tryz.func56) rfl Tryz.ntmps56 rfl (by simp) ?_
  intro X K hU hnt hbl hK
  have hP : X.P = Tryz.prog := hU.P.trans hP0
  have hG := hG0.under hU
  have hT := Ty.T56 hP
  simp only [GA,↓GB,GX,simprocAttr] at hbl ⊢
  repeat' (first|(refine SX.seqK ?_;intro N hN)|((first | (refine SX.ops ?_));simp only [GA,↓GB,GX,simprocAttr,hnt,hT,hk1])|((first | refine SX.skip ?_ | refine SX.exit ?_ | refine SX.label ?_ | refine SX.ret ?_);try simp only [GA,↓GB,GX,simprocAttr])|(refine hN _ ?_;clear hN N)|((first | refine hK _ _ (FinI.ret3 ?_) | refine hK _ _ (FinI.nrm3 ?_));simp only [GA,↓GB,GX,simprocAttr,finP_s,hnt,hT,hk1];refine Done.out ?_)|((first | refine SX.cond rfl (fun hb => ?_) (fun hb => ?_) | (refine bif2.mk (fun hb => ?_) (fun hb => ?_) <;> (try simp only [hb,GA,↓GB,GX,simprocAttr,hnt,hT,hk1]))) <;> ((first | cases hb | (simp only [HBs] at hb) | skip) <;> (first | (exfalso;omega) | skip)))|((first | (refine CallVC.pv hP (kind_any s) rfl ?_) | (refine CallQ.pv hP (kind_any s) rfl ?_));simp only [GA,↓GB,GX,simprocAttr,hnt,hT,hk1])|(refine ldG (p := (⟨1,0,none⟩,errV e.k)) (hG _ (GE0 e)) ?_;simp only [GA,↓GB,GX,simprocAttr,hnt,hT])|(refine and_mk ?_ ?_;(focus first | decide | omega | rfl | assumption | (simp only [LBs];omega) | (simp;done)))|(refine And.intro ?_ ?_))
  all_goals (try refine Done.mk ?_)
  all_goals ((refine hN0 _ _ ⟨[0,1,2,3,4,5,6,7,8,9],_,_,?_,?_,?_,⟨rfl,rfl⟩⟩;(focus exact LeR.of rfl trivial (by simp only [GA,↓GB,GX,simprocAttr,GDs]) (by decide) rfl rfl rfl);rotate_left;(focus rfl));rfl)
theorem getReqM_yes {e : EA} (he : e.Ok) (s : List UInt8) (hs : s.length ≤ 1099511627776) (hk : kindL s = 1) : Ctr Tryz.prog (GE e) 56 reqO0 [vv (.string (B s)),vv (.int .i64 1),.one (.c (.row 0))]
    (fun os v => os = reqO (takeXB stepQ (s.drop 1) .zero).1 ∧ v = vv (okV e (takeXB stepQ (s.drop 1) .zero).2)) := by
  have hd := drop1 s
  have h1 : 1 ≤ s.length := by cases s with | nil => simp [kindL] at hk | cons _ _ => simp
  have ht := takeReq_ctr he (s.drop 1) (by rw [List.length_drop];omega)
  generalize (takeXB stepQ (s.drop 1) .zero).1 = m at ht
  generalize (takeXB stepQ (s.drop 1) .zero).2 = ok at ht
  refine Ctr.less ?_
  intro X0 hP0 hG0 N0 hN0
  refine CallVC.inline (f := 56) (by rw [hP0];exact Tryz.func56) rfl Tryz.ntmps56 rfl (by simp) ?_
  intro X K hU hnt hbl hK
  have hP : X.P = Tryz.prog := hU.P.trans hP0
  have hG := hG0.under hU
  have hT := Ty.T56 hP
  simp only [GA,↓GB,GX,simprocAttr] at hbl ⊢
  repeat' (first|(refine SX.seqK ?_;intro N hN)|((first | (refine SX.ops ?_));simp only [GA,↓GB,GX,simprocAttr,hnt,hT,hk,hd])|((first | refine SX.skip ?_ | refine SX.exit ?_ | refine SX.label ?_ | refine SX.ret ?_);try simp only [GA,↓GB,GX,simprocAttr])|(refine hN _ ?_;clear hN N)|((first | refine hK _ _ (FinI.ret3 ?_) | refine hK _ _ (FinI.nrm3 ?_));simp only [GA,↓GB,GX,simprocAttr,finP_s,hnt,hT,hk,hd];refine Done.out ?_)|((first | refine SX.cond rfl (fun hb => ?_) (fun hb => ?_) | (refine bif2.mk (fun hb => ?_) (fun hb => ?_) <;> (try simp only [hb,GA,↓GB,GX,simprocAttr,hnt,hT,hk,hd]))) <;> ((first | cases hb | (simp only [HBs] at hb) | skip) <;> (first | (exfalso;omega) | skip)))|((first | (refine CallVC.pv hP (kind_any s) rfl ?_) | (refine CallQ.pv hP (kind_any s) rfl ?_) | (refine Ctr.use (ht) hP hG [0,1,2,3,4,5,6,7,8,9] ?_ rfl rfl ?_;(focus (refine LeR.of rfl trivial ?_ ?_ ?_ ?_ ?_ <;> first | decide | (simp only [GA,↓GB,GX,simprocAttr,GDs];done)));intro os' s hR;obtain ⟨rfl,rfl⟩ := hR));simp only [GA,↓GB,GX,simprocAttr,hnt,hT,hk,hd])|(refine and_mk ?_ ?_;(focus first | decide | omega | rfl | assumption | (simp only [LBs];omega) | (simp;done)))|(refine And.intro ?_ ?_))
  all_goals (try refine Done.mk ?_)
  all_goals ((refine hN0 _ _ ⟨[0,1,2,3,4,5,6,7,8,9,10,11,12],_,_,?_,?_,?_,⟨rfl,rfl⟩⟩;(focus exact LeR.of rfl trivial (by simp only [GA,↓GB,GX,simprocAttr,GDs]) (by decide) rfl rfl rfl);rotate_left;(focus rfl));rfl)
def grC (s : List UInt8) (M : Nat → Bool) : Cfg :=
  ⟨[(24,bif M 20 then .one (.c (.row 5)) else ddd),(23,bif M 18 then .one (.agg [.v (.int .i64 2),.clo 87 [] [.loc 11 0]]) else ddd),(22,bif M 17 then .one (.c (.loc 1 6)) else ddd),(21,bif M 15 then .one (.agg [.v (.int .i64 2),.clo 51 [] [.loc 1 0]]) else ddd),(20,bif M 13 then .one (.agg [.v (.int .i64 2),.clo 90 [] [.loc 10 0]]) else ddd),(19,bif M 12 then .one (.c (.loc 1 4)) else ddd),(18,bif M 10 then .one (.agg [.v (.int .i64 2),.clo 90 [] [.loc 9 0]]) else ddd),(17,bif M 9 then .one (.c (.loc 1 3)) else ddd),(16,bif M 7 then .one (.agg [.v (.int .i64 0),.clo 88 [] [.loc 8 0]]) else ddd),(15,bif M 6 then .one (.c (.loc 1 2)) else ddd),(14,bif M 4 then .one (.agg [.v (.int .i64 0),.clo 88 [] [.loc 7 0]]) else ddd),(13,bif M 2 then .one (.agg [.v (.int .i64 0),.clo 88 [] [.loc 6 0]]) else ddd),(12,bif M 1 then .one (.c (.row 5)) else ddd),(11,bif M 0 then vv (.string (B s)) else ddd),(0,vv (.string (B s))),(2,.one (.c (.loc 0 0))),(3,vv (.bool false)),(4,.one (.c (.loc 1 0))),(5,.one (.c (.loc 2 0))),(6,.one (.c (.loc 3 0))),(7,.one (.c (.loc 4 0)))],
   [.cells [.v (.int .i64 0),.v (.bool false),.v (.int .u64 0),.v (.slice none 0 0),.v (.slice none 0 0),.v (.slice none 0 0),.v (.string (B []))] 26,.cells [.v (.int .i64 0),.v (.bool false),.v (.int .u64 0),.v (.slice none 0 0),.v (.slice none 0 0),.v (.slice none 0 0),.v (.string (B []))] 26,.cells [.v (.int .u64 0)] 22,.cells [.v (.int .u64 0)] 22,.cells [.v (.int .i64 2),.clo 51 [] [.loc 1 0]] 113,bif M 1 then .map ((bif M 3 then [(.int .i64 1,.agg [.v (.int .i64 0),.clo 88 [] [.loc 6 0]])] else []) ++ ((bif M 5 then [(.int .i64 2,.agg [.v (.int .i64 0),.clo 88 [] [.loc 7 0]])] else []) ++ ((bif M 8 then [(.int .i64 3,.agg [.v (.int .i64 0),.clo 88 [] [.loc 8 0]])] else []) ++ ((bif M 11 then [(.int .i64 4,.agg [.v (.int .i64 2),.clo 90 [] [.loc 9 0]])] else []) ++ ((bif M 14 then [(.int .i64 5,.agg [.v (.int .i64 2),.clo 90 [] [.loc 10 0]])] else []) ++ ((bif M 16 then [(.int .i64 6,.agg [.v (.int .i64 2),.clo 51 [] [.loc 1 0]])] else []) ++ ((bif M 19 then [(.int .i64 7,.agg [.v (.int .i64 2),.clo 87 [] [.loc 11 0]])] else [])))))))) else .gone,bif M 2 then .cells [.loc 2 0] 117 else .gone,bif M 4 then .cells [.loc 3 0] 117 else .gone,bif M 7 then .cells [.loc 1 2] 117 else .gone,bif M 10 then .cells [.loc 1 3] 122 else .gone,bif M 13 then .cells [.loc 1 4] 122 else .gone,bif M 18 then .cells [.loc 1 6] 115 else .gone]⟩
theorem gr_region {X : Ctx} (hP : X.P = Tryz.prog) (hnt : X.nt = 46) (hbl : X.base.length = 0) (s : List UInt8) (N : Cfg → Prop) (K : Exit → Cfg → Prop)
    (hk : CallVC X (grC s (fun _ => true)) 56 [vv (.string (B s)),vv (.int .i64 1),.one (.c (.row 5))] fun c' v => K .normal { env := (8,v) :: (25,v) :: c'.env,loc := c'.loc }) : SX X (firstR (sub [true,true,true,true] (Tryz.f14.body.getD .skip))) ⟨[(0,vv (.string (B s))),(2,.one (.c (.loc 0 0))),(3,vv (.bool false)),(4,.one (.c (.loc 1 0))),(5,.one (.c (.loc 2 0))),(6,.one (.c (.loc 3 0))),(7,.one (.c (.loc 4 0)))],[.cells [.v (.int .i64 0),.v (.bool false),.v (.int .u64 0),.v (.slice none 0 0),.v (.slice none 0 0),.v (.slice none 0 0),.v (.string (B []))] 26,.cells [.v (.int .i64 0),.v (.bool false),.v (.int .u64 0),.v (.slice none 0 0),.v (.slice none 0 0),.v (.slice none 0 0),.v (.string (B []))] 26,.cells [.v (.int .u64 0)] 22,.cells [.v (.int .u64 0)] 22,.cells [.v (.int .i64 2),.clo 51 [] [.loc 1 0]] 113]⟩ K := by
  have hT := Ty.T14 hP
  simp only [sub,firstR,Tryz.f14,Option.getD_some]
  have hag : aggOf X.P 113 = some true := by rw [hP];kernel_rfl
  refine SX.dia (id := 4) [0,1,2,3,4,5,6,7,8,9,10,11,12,13,14,15,16,17,18,19,20] (grC s) [.s 21,.s 22] (grC s (fun _ => true)) ?_ ?_ ?_ ?_ rfl ?_
  · rw [hP];kernel_rfl
  · kernel_rfl
  · refine Imp.trans (Imp.le [0,1,2,3,4] (d := ⟨[(0,vv (.string (B s))),(2,.one (.c (.loc 0 0))),(3,vv (.bool false)),(4,.one (.c (.loc 1 0))),(5,.one (.c (.loc 2 0))),(6,.one (.c (.loc 3 0))),(7,.one (.c (.loc 4 0)))],[.cells [.v (.int .i64 0),.v (.bool false),.v (.int .u64 0),.v (.slice none 0 0),.v (.slice none 0 0),.v (.slice none 0 0),.v (.string (B []))] 26,.cells [.v (.int .i64 0),.v (.bool false),.v (.int .u64 0),.v (.slice none 0 0),.v (.slice none 0 0),.v (.slice none 0 0),.v (.string (B []))] 26,.cells [.v (.int .u64 0)] 22,.cells [.v (.int .u64 0)] 22,.cells [.v (.int .i64 2),.clo 51 [] [.loc 1 0]] 113]⟩) (by (refine LeR.of ?_ ?_ ?_ ?_ ?_ ?_ ?_ <;> first | (rw [hbl];decide) | decide | (simp only [GA,↓GB,GX,simprocAttr,GDs];done) | (simp only [GA,↓GB,GX,simprocAttr,GDs];rfl;done)))) ?_
    refine Imp.trans (Imp.deads [11,12,13,14,15,16,17,18,19,20,21,22,23,24] (by rw [hnt];decide)) ?_
    refine Imp.trans Imp.gone ?_
    refine Imp.trans Imp.gone ?_
    refine Imp.trans Imp.gone ?_
    refine Imp.trans Imp.gone ?_
    refine Imp.trans Imp.gone ?_
    refine Imp.trans Imp.gone ?_
    refine Imp.trans Imp.gone ?_
    exact Imp.refl
  · rintro M i hi hd
    simp only [List.mem_cons,List.not_mem_nil,or_false] at hi
    rcases hi with rfl | rfl | rfl | rfl | rfl | rfl | rfl | rfl | rfl | rfl | rfl | rfl | rfl | rfl | rfl | rfl | rfl | rfl | rfl | rfl | rfl
    · skip
      have hun := hd.un
      refine ⟨_,rfl,rfl,?_⟩
      simp only [grC,upd,↓reduceIte,Nat.reduceEqDiff,reduceCtorEq,hun,CSs,List.nil_append,List.cons_append,simprocAttr]
      refine vcOp_sound ?_
      simp only [GA,↓GB,GX,simprocAttr,hnt,hT]
      repeat' (refine and_mk ?_ ?_;(focus first | decide | omega | rfl | assumption))
      all_goals (refine Imp.le [0,1,2,3,4,5,6,7,8,9,10,11] ?_;(refine LeR.of ?_ ?_ ?_ ?_ ?_ ?_ ?_ <;> first | (rw [hbl];decide) | decide | (simp only [GA,↓GB,GX,simprocAttr,GDs,CSs];done)))
    · have n3 : M 3 = false := dN hd rfl 0 rfl rfl hd.un
      have n5 : M 5 = false := dN hd rfl 0 rfl rfl hd.un
      have n8 : M 8 = false := dN hd rfl 0 rfl rfl hd.un
      have n11 : M 11 = false := dN hd rfl 0 rfl rfl hd.un
      have n14 : M 14 = false := dN hd rfl 0 rfl rfl hd.un
      have n16 : M 16 = false := dN hd rfl 0 rfl rfl hd.un
      have n19 : M 19 = false := dN hd rfl 0 rfl rfl hd.un
      have n20 : M 20 = false := dN hd rfl 0 rfl rfl hd.un
      have hun := hd.un
      refine ⟨_,rfl,rfl,?_⟩
      simp only [grC,upd,↓reduceIte,Nat.reduceEqDiff,reduceCtorEq,hun,n3,n5,n8,n11,n14,n16,n19,n20,CSs,List.nil_append,List.cons_append,simprocAttr]
      refine vcOp_sound ?_
      simp only [GA,↓GB,GX,simprocAttr,hnt,hT]
      repeat' (refine and_mk ?_ ?_;(focus first | decide | omega | rfl | assumption))
      all_goals (refine Imp.le [0,1,2,3,4,12,6,7,8,9,10,11] ?_;(refine LeR.of ?_ ?_ ?_ ?_ ?_ ?_ ?_ <;> first | (rw [hbl];decide) | decide | (simp only [GA,↓GB,GX,simprocAttr,GDs,CSs];done)))
    · have n3 : M 3 = false := dN hd rfl 1 rfl rfl hd.un
      have n4 : M 4 = false := dN hd rfl 0 rfl rfl hd.un
      have n5 : M 5 = false := dN hd rfl 1 rfl rfl n4
      have n7 : M 7 = false := dN hd rfl 1 rfl rfl n4
      have n8 : M 8 = false := dN hd rfl 1 rfl rfl n7
      have n10 : M 10 = false := dN hd rfl 1 rfl rfl n7
      have n11 : M 11 = false := dN hd rfl 1 rfl rfl n10
      have n13 : M 13 = false := dN hd rfl 1 rfl rfl n10
      have n14 : M 14 = false := dN hd rfl 1 rfl rfl n13
      have n18 : M 18 = false := dN hd rfl 1 rfl rfl n13
      have n19 : M 19 = false := dN hd rfl 1 rfl rfl n18
      have n20 : M 20 = false := dN hd rfl 1 rfl rfl hd.un
      have hun := hd.un
      refine ⟨_,rfl,rfl,?_⟩
      simp only [grC,upd,↓reduceIte,Nat.reduceEqDiff,reduceCtorEq,hun,n3,n4,n5,n7,n8,n10,n11,n13,n14,n18,n19,n20,CSs,List.nil_append,List.cons_append,simprocAttr]
      refine vcOp_sound ?_
      simp only [GA,↓GB,GX,simprocAttr,hnt,hT]
      have hnt1 := True.intro;have hT1 := True.intro;have hU1P := True.intro
      repeat' (first|(refine SX.seqK ?_;intro N hN)|((first | (refine SX.ops ?_));simp only [GA,↓GB,GX,simprocAttr,hnt,hT,hnt1,hT1,hU1P,hag])|((first | refine SX.skip ?_ | refine SX.exit ?_ | refine SX.label ?_ | refine SX.ret ?_);try simp only [GA,↓GB,GX,simprocAttr])|(refine hN _ ?_;clear hN N)|((first | refine hK1 _ _ (FinI.ret3 ?_) | refine hK1 _ _ (FinI.nrm3 ?_));(repeat (clear hN N));clear hK1 K1;simp only [GA,↓GB,GX,simprocAttr,finP_s,hnt,hT,hnt1,hT1,hU1P,hag])|((first | refine hK _ _ (FinI.ret3 ?_) | refine hK _ _ (FinI.nrm3 ?_));simp only [GA,↓GB,GX,simprocAttr,finP_s,hnt,hT,hnt1,hT1,hU1P,hag];refine Done.out ?_)|((first | refine SX.cond rfl (fun hb => ?_) (fun hb => ?_) | (refine bif2.mk (fun hb => ?_) (fun hb => ?_) <;> (try simp only [hb,GA,↓GB,GX,simprocAttr,hnt,hT,hnt1,hT1,hU1P,hag]))) <;> ((first | cases hb | (simp only [HBs] at hb) | skip) <;> (first | (exfalso;omega) | skip)))|(refine CallVC.inline (f := 54) ?_ rfl Tryz.ntmps54 rfl ?_ ?_;(focus rw [hP];exact Tryz.func54);(focus simp);have hT1 := Ty.T54 hP;intro X1 K1 hU1 hnt1 hbl1 hK1;have hU1P := hU1.P;simp only [GA,↓GB,GX,simprocAttr] at hbl1 ⊢)|(refine CallVC.inline (f := 53) ?_ rfl Tryz.ntmps53 rfl ?_ ?_;(focus rw [hP];exact Tryz.func53);(focus simp);have hT1 := Ty.T53 hP;intro X1 K1 hU1 hnt1 hbl1 hK1;have hU1P := hU1.P;simp only [GA,↓GB,GX,simprocAttr] at hbl1 ⊢)|(refine CallVC.inline (f := 57) ?_ rfl Tryz.ntmps57 rfl ?_ ?_;(focus rw [hP];exact Tryz.func57);(focus simp);have hT1 := Ty.T57 hP;intro X1 K1 hU1 hnt1 hbl1 hK1;have hU1P := hU1.P;simp only [GA,↓GB,GX,simprocAttr] at hbl1 ⊢)|(refine and_mk ?_ ?_;(focus first | decide | omega | rfl | assumption | (simp only [LBs];omega) | (simp;done)))|(refine And.intro ?_ ?_))
      all_goals (try refine Done.mk ?_)
      all_goals (refine Imp.le [0,1,2,3,4,5,12,7,8,9,10,11] ?_;(refine LeR.of ?_ ?_ ?_ ?_ ?_ ?_ ?_ <;> first | (rw [hbl];decide) | decide | (simp only [GA,↓GB,GX,simprocAttr,GDs,CSs];done)))
    · have m1 : M 1 = true := dD hd rfl 0 rfl rfl
      have m2 : M 2 = true := dD hd rfl 1 rfl rfl
      have n20 : M 20 = false := dN hd rfl 2 rfl rfl hd.un
      have hun := hd.un
      refine ⟨_,rfl,rfl,?_⟩
      simp only [grC,upd,↓reduceIte,Nat.reduceEqDiff,reduceCtorEq,hun,m1,m2,n20,CSs,List.nil_append,List.cons_append,simprocAttr]
      refine VO.insert (kt := 3) (et := 113) (i := 5) (kv := .int .i64 1) (s := .agg [.v (.int .i64 0),.clo 88 [] [.loc 6 0]]) (kd := .int .i64) rfl rfl rfl rfl (by rw [hP];kernel_rfl) (by rw [hP];kernel_rfl) rfl (by simp [all_cond,KeyOf]) (look_nk (by simp [all_cond,nk])) ?_
      refine Imp.perm (i := 5) rfl ?_
      try simp only [List.append_assoc,List.nil_append,List.cons_append,List.append_nil]
      repeat (first | exact List.Perm.refl _ | exact List.perm_append_singleton _ _ | refine List.Perm.append_left _ ?_ | refine (List.Perm.append_left _ ?_).trans List.perm_middle)
    · have m2 : M 2 = true := dD hd rfl 0 rfl rfl
      have n5 : M 5 = false := dN hd rfl 1 rfl rfl hd.un
      have n7 : M 7 = false := dN hd rfl 1 rfl rfl hd.un
      have n8 : M 8 = false := dN hd rfl 1 rfl rfl n7
      have n10 : M 10 = false := dN hd rfl 1 rfl rfl n7
      have n11 : M 11 = false := dN hd rfl 1 rfl rfl n10
      have n13 : M 13 = false := dN hd rfl 1 rfl rfl n10
      have n14 : M 14 = false := dN hd rfl 1 rfl rfl n13
      have n18 : M 18 = false := dN hd rfl 1 rfl rfl n13
      have n19 : M 19 = false := dN hd rfl 1 rfl rfl n18
      have n20 : M 20 = false := dN hd rfl 3 rfl rfl hd.un
      have hun := hd.un
      refine ⟨_,rfl,rfl,?_⟩
      simp only [grC,upd,↓reduceIte,Nat.reduceEqDiff,reduceCtorEq,hun,m2,n5,n7,n8,n10,n11,n13,n14,n18,n19,n20,CSs,List.nil_append,List.cons_append,simprocAttr]
      refine vcOp_sound ?_
      simp only [GA,↓GB,GX,simprocAttr,hnt,hT]
      have hnt1 := True.intro;have hT1 := True.intro;have hU1P := True.intro
      repeat' (first|(refine SX.seqK ?_;intro N hN)|((first | (refine SX.ops ?_));simp only [GA,↓GB,GX,simprocAttr,hnt,hT,hnt1,hT1,hU1P,hag])|((first | refine SX.skip ?_ | refine SX.exit ?_ | refine SX.label ?_ | refine SX.ret ?_);try simp only [GA,↓GB,GX,simprocAttr])|(refine hN _ ?_;clear hN N)|((first | refine hK1 _ _ (FinI.ret3 ?_) | refine hK1 _ _ (FinI.nrm3 ?_));(repeat (clear hN N));clear hK1 K1;simp only [GA,↓GB,GX,simprocAttr,finP_s,hnt,hT,hnt1,hT1,hU1P,hag])|((first | refine hK _ _ (FinI.ret3 ?_) | refine hK _ _ (FinI.nrm3 ?_));simp only [GA,↓GB,GX,simprocAttr,finP_s,hnt,hT,hnt1,hT1,hU1P,hag];refine Done.out ?_)|((first | refine SX.cond rfl (fun hb => ?_) (fun hb => ?_) | (refine bif2.mk (fun hb => ?_) (fun hb => ?_) <;> (try simp only [hb,GA,↓GB,GX,simprocAttr,hnt,hT,hnt1,hT1,hU1P,hag]))) <;> ((first | cases hb | (simp only [HBs] at hb) | skip) <;> (first | (exfalso;omega) | skip)))|(refine CallVC.inline (f := 54) ?_ rfl Tryz.ntmps54 rfl ?_ ?_;(focus rw [hP];exact Tryz.func54);(focus simp);have hT1 := Ty.T54 hP;intro X1 K1 hU1 hnt1 hbl1 hK1;have hU1P := hU1.P;simp only [GA,↓GB,GX,simprocAttr] at hbl1 ⊢)|(refine CallVC.inline (f := 53) ?_ rfl Tryz.ntmps53 rfl ?_ ?_;(focus rw [hP];exact Tryz.func53);(focus simp);have hT1 := Ty.T53 hP;intro X1 K1 hU1 hnt1 hbl1 hK1;have hU1P := hU1.P;simp only [GA,↓GB,GX,simprocAttr] at hbl1 ⊢)|(refine CallVC.inline (f := 57) ?_ rfl Tryz.ntmps57 rfl ?_ ?_;(focus rw [hP];exact Tryz.func57);(focus simp);have hT1 := Ty.T57 hP;intro X1 K1 hU1 hnt1 hbl1 hK1;have hU1P := hU1.P;simp only [GA,↓GB,GX,simprocAttr] at hbl1 ⊢)|(refine and_mk ?_ ?_;(focus first | decide | omega | rfl | assumption | (simp only [LBs];omega) | (simp;done)))|(refine And.intro ?_ ?_))
      all_goals (try refine Done.mk ?_)
      all_goals (refine Imp.le [0,1,2,3,4,5,6,12,8,9,10,11] ?_;(refine LeR.of ?_ ?_ ?_ ?_ ?_ ?_ ?_ <;> first | (rw [hbl];decide) | decide | (simp only [GA,↓GB,GX,simprocAttr,GDs,CSs];done)))
    · have m1 : M 1 = true := dD hd rfl 0 rfl rfl
      have m4 : M 4 = true := dD hd rfl 1 rfl rfl
      have n20 : M 20 = false := dN hd rfl 4 rfl rfl hd.un
      have hun := hd.un
      refine ⟨_,rfl,rfl,?_⟩
      simp only [grC,upd,↓reduceIte,Nat.reduceEqDiff,reduceCtorEq,hun,m1,m4,n20,CSs,List.nil_append,List.cons_append,simprocAttr]
      refine VO.insert (kt := 3) (et := 113) (i := 5) (kv := .int .i64 2) (s := .agg [.v (.int .i64 0),.clo 88 [] [.loc 7 0]]) (kd := .int .i64) rfl rfl rfl rfl (by rw [hP];kernel_rfl) (by rw [hP];kernel_rfl) rfl (by simp [all_cond,KeyOf]) (look_nk (by simp [all_cond,nk])) ?_
      refine Imp.perm (i := 5) rfl ?_
      try simp only [List.append_assoc,List.nil_append,List.cons_append,List.append_nil]
      repeat (first | exact List.Perm.refl _ | exact List.perm_append_singleton _ _ | refine List.Perm.append_left _ ?_ | refine (List.Perm.append_left _ ?_).trans List.perm_middle)
    · have n7 : M 7 = false := dN hd rfl 0 rfl rfl hd.un
      have n8 : M 8 = false := dN hd rfl 1 rfl rfl n7
      have n10 : M 10 = false := dN hd rfl 1 rfl rfl n7
      have n11 : M 11 = false := dN hd rfl 1 rfl rfl n10
      have n13 : M 13 = false := dN hd rfl 1 rfl rfl n10
      have n14 : M 14 = false := dN hd rfl 1 rfl rfl n13
      have n18 : M 18 = false := dN hd rfl 1 rfl rfl n13
      have n19 : M 19 = false := dN hd rfl 1 rfl rfl n18
      have n20 : M 20 = false := dN hd rfl 5 rfl rfl hd.un
      have hun := hd.un
      refine ⟨_,rfl,rfl,?_⟩
      simp only [grC,upd,↓reduceIte,Nat.reduceEqDiff,reduceCtorEq,hun,n7,n8,n10,n11,n13,n14,n18,n19,n20,CSs,List.nil_append,List.cons_append,simprocAttr]
      refine vcOp_sound ?_
      simp only [GA,↓GB,GX,simprocAttr,hnt,hT]
      repeat' (refine and_mk ?_ ?_;(focus first | decide | omega | rfl | assumption))
      all_goals (refine Imp.le [0,1,2,3,4,5,6,7,8,9,10,11] ?_;(refine LeR.of ?_ ?_ ?_ ?_ ?_ ?_ ?_ <;> first | (rw [hbl];decide) | decide | (simp only [GA,↓GB,GX,simprocAttr,GDs,CSs];done)))
    · have m6 : M 6 = true := dD hd rfl 0 rfl rfl
      have m4 : M 4 = true := dD hd rfl 1 rfl rfl
      have n8 : M 8 = false := dN hd rfl 1 rfl rfl hd.un
      have n10 : M 10 = false := dN hd rfl 1 rfl rfl hd.un
      have n11 : M 11 = false := dN hd rfl 1 rfl rfl n10
      have n13 : M 13 = false := dN hd rfl 1 rfl rfl n10
      have n14 : M 14 = false := dN hd rfl 1 rfl rfl n13
      have n18 : M 18 = false := dN hd rfl 1 rfl rfl n13
      have n19 : M 19 = false := dN hd rfl 1 rfl rfl n18
      have n20 : M 20 = false := dN hd rfl 6 rfl rfl hd.un
      have hun := hd.un
      refine ⟨_,rfl,rfl,?_⟩
      simp only [grC,upd,↓reduceIte,Nat.reduceEqDiff,reduceCtorEq,hun,m6,m4,n8,n10,n11,n13,n14,n18,n19,n20,CSs,List.nil_append,List.cons_append,simprocAttr]
      refine vcOp_sound ?_
      simp only [GA,↓GB,GX,simprocAttr,hnt,hT]
      have hnt1 := True.intro;have hT1 := True.intro;have hU1P := True.intro
      repeat' (first|(refine SX.seqK ?_;intro N hN)|((first | (refine SX.ops ?_));simp only [GA,↓GB,GX,simprocAttr,hnt,hT,hnt1,hT1,hU1P,hag])|((first | refine SX.skip ?_ | refine SX.exit ?_ | refine SX.label ?_ | refine SX.ret ?_);try simp only [GA,↓GB,GX,simprocAttr])|(refine hN _ ?_;clear hN N)|((first | refine hK1 _ _ (FinI.ret3 ?_) | refine hK1 _ _ (FinI.nrm3 ?_));(repeat (clear hN N));clear hK1 K1;simp only [GA,↓GB,GX,simprocAttr,finP_s,hnt,hT,hnt1,hT1,hU1P,hag])|((first | refine hK _ _ (FinI.ret3 ?_) | refine hK _ _ (FinI.nrm3 ?_));simp only [GA,↓GB,GX,simprocAttr,finP_s,hnt,hT,hnt1,hT1,hU1P,hag];refine Done.out ?_)|((first | refine SX.cond rfl (fun hb => ?_) (fun hb => ?_) | (refine bif2.mk (fun hb => ?_) (fun hb => ?_) <;> (try simp only [hb,GA,↓GB,GX,simprocAttr,hnt,hT,hnt1,hT1,hU1P,hag]))) <;> ((first | cases hb | (simp only [HBs] at hb) | skip) <;> (first | (exfalso;omega) | skip)))|(refine CallVC.inline (f := 54) ?_ rfl Tryz.ntmps54 rfl ?_ ?_;(focus rw [hP];exact Tryz.func54);(focus simp);have hT1 := Ty.T54 hP;intro X1 K1 hU1 hnt1 hbl1 hK1;have hU1P := hU1.P;simp only [GA,↓GB,GX,simprocAttr] at hbl1 ⊢)|(refine CallVC.inline (f := 53) ?_ rfl Tryz.ntmps53 rfl ?_ ?_;(focus rw [hP];exact Tryz.func53);(focus simp);have hT1 := Ty.T53 hP;intro X1 K1 hU1 hnt1 hbl1 hK1;have hU1P := hU1.P;simp only [GA,↓GB,GX,simprocAttr] at hbl1 ⊢)|(refine CallVC.inline (f := 57) ?_ rfl Tryz.ntmps57 rfl ?_ ?_;(focus rw [hP];exact Tryz.func57);(focus simp);have hT1 := Ty.T57 hP;intro X1 K1 hU1 hnt1 hbl1 hK1;have hU1P := hU1.P;simp only [GA,↓GB,GX,simprocAttr] at hbl1 ⊢)|(refine and_mk ?_ ?_;(focus first | decide | omega | rfl | assumption | (simp only [LBs];omega) | (simp;done)))|(refine And.intro ?_ ?_))
      all_goals (try refine Done.mk ?_)
      all_goals (refine Imp.le [0,1,2,3,4,5,6,7,12,9,10,11] ?_;(refine LeR.of ?_ ?_ ?_ ?_ ?_ ?_ ?_ <;> first | (rw [hbl];decide) | decide | (simp only [GA,↓GB,GX,simprocAttr,GDs,CSs];done)))
    · have m1 : M 1 = true := dD hd rfl 0 rfl rfl
      have m7 : M 7 = true := dD hd rfl 1 rfl rfl
      have n20 : M 20 = false := dN hd rfl 7 rfl rfl hd.un
      have hun := hd.un
      refine ⟨_,rfl,rfl,?_⟩
      simp only [grC,upd,↓reduceIte,Nat.reduceEqDiff,reduceCtorEq,hun,m1,m7,n20,CSs,List.nil_append,List.cons_append,simprocAttr]
      refine VO.insert (kt := 3) (et := 113) (i := 5) (kv := .int .i64 3) (s := .agg [.v (.int .i64 0),.clo 88 [] [.loc 8 0]]) (kd := .int .i64) rfl rfl rfl rfl (by rw [hP];kernel_rfl) (by rw [hP];kernel_rfl) rfl (by simp [all_cond,KeyOf]) (look_nk (by simp [all_cond,nk])) ?_
      refine Imp.perm (i := 5) rfl ?_
      try simp only [List.append_assoc,List.nil_append,List.cons_append,List.append_nil]
      repeat (first | exact List.Perm.refl _ | exact List.perm_append_singleton _ _ | refine List.Perm.append_left _ ?_ | refine (List.Perm.append_left _ ?_).trans List.perm_middle)
    · have n10 : M 10 = false := dN hd rfl 0 rfl rfl hd.un
      have n11 : M 11 = false := dN hd rfl 1 rfl rfl n10
      have n13 : M 13 = false := dN hd rfl 1 rfl rfl n10
      have n14 : M 14 = false := dN hd rfl 1 rfl rfl n13
      have n18 : M 18 = false := dN hd rfl 1 rfl rfl n13
      have n19 : M 19 = false := dN hd rfl 1 rfl rfl n18
      have n20 : M 20 = false := dN hd rfl 8 rfl rfl hd.un
      have hun := hd.un
      refine ⟨_,rfl,rfl,?_⟩
      simp only [grC,upd,↓reduceIte,Nat.reduceEqDiff,reduceCtorEq,hun,n10,n11,n13,n14,n18,n19,n20,CSs,List.nil_append,List.cons_append,simprocAttr]
      refine vcOp_sound ?_
      simp only [GA,↓GB,GX,simprocAttr,hnt,hT]
      repeat' (refine and_mk ?_ ?_;(focus first | decide | omega | rfl | assumption))
      all_goals (refine Imp.le [0,1,2,3,4,5,6,7,8,9,10,11] ?_;(refine LeR.of ?_ ?_ ?_ ?_ ?_ ?_ ?_ <;> first | (rw [hbl];decide) | decide | (simp only [GA,↓GB,GX,simprocAttr,GDs,CSs];done)))
    · have m9 : M 9 = true := dD hd rfl 0 rfl rfl
      have m7 : M 7 = true := dD hd rfl 1 rfl rfl
      have n11 : M 11 = false := dN hd rfl 1 rfl rfl hd.un
      have n13 : M 13 = false := dN hd rfl 1 rfl rfl hd.un
      have n14 : M 14 = false := dN hd rfl 1 rfl rfl n13
      have n18 : M 18 = false := dN hd rfl 1 rfl rfl n13
      have n19 : M 19 = false := dN hd rfl 1 rfl rfl n18
      have n20 : M 20 = false := dN hd rfl 9 rfl rfl hd.un
      have hun := hd.un
      refine ⟨_,rfl,rfl,?_⟩
      simp only [grC,upd,↓reduceIte,Nat.reduceEqDiff,reduceCtorEq,hun,m9,m7,n11,n13,n14,n18,n19,n20,CSs,List.nil_append,List.cons_append,simprocAttr]
      refine vcOp_sound ?_
      simp only [GA,↓GB,GX,simprocAttr,hnt,hT]
      have hnt1 := True.intro;have hT1 := True.intro;have hU1P := True.intro
      repeat' (first|(refine SX.seqK ?_;intro N hN)|((first | (refine SX.ops ?_));simp only [GA,↓GB,GX,simprocAttr,hnt,hT,hnt1,hT1,hU1P,hag])|((first | refine SX.skip ?_ | refine SX.exit ?_ | refine SX.label ?_ | refine SX.ret ?_);try simp only [GA,↓GB,GX,simprocAttr])|(refine hN _ ?_;clear hN N)|((first | refine hK1 _ _ (FinI.ret3 ?_) | refine hK1 _ _ (FinI.nrm3 ?_));(repeat (clear hN N));clear hK1 K1;simp only [GA,↓GB,GX,simprocAttr,finP_s,hnt,hT,hnt1,hT1,hU1P,hag])|((first | refine hK _ _ (FinI.ret3 ?_) | refine hK _ _ (FinI.nrm3 ?_));simp only [GA,↓GB,GX,simprocAttr,finP_s,hnt,hT,hnt1,hT1,hU1P,hag];refine Done.out ?_)|((first | refine SX.cond rfl (fun hb => ?_) (fun hb => ?_) | (refine bif2.mk (fun hb => ?_) (fun hb => ?_) <;> (try simp only [hb,GA,↓GB,GX,simprocAttr,hnt,hT,hnt1,hT1,hU1P,hag]))) <;> ((first | cases hb | (simp only [HBs] at hb) | skip) <;> (first | (exfalso;omega) | skip)))|(refine CallVC.inline (f := 54) ?_ rfl Tryz.ntmps54 rfl ?_ ?_;(focus rw [hP];exact Tryz.func54);(focus simp);have hT1 := Ty.T54 hP;intro X1 K1 hU1 hnt1 hbl1 hK1;have hU1P := hU1.P;simp only [GA,↓GB,GX,simprocAttr] at hbl1 ⊢)|(refine CallVC.inline (f := 53) ?_ rfl Tryz.ntmps53 rfl ?_ ?_;(focus rw [hP];exact Tryz.func53);(focus simp);have hT1 := Ty.T53 hP;intro X1 K1 hU1 hnt1 hbl1 hK1;have hU1P := hU1.P;simp only [GA,↓GB,GX,simprocAttr] at hbl1 ⊢)|(refine CallVC.inline (f := 57) ?_ rfl Tryz.ntmps57 rfl ?_ ?_;(focus rw [hP];exact Tryz.func57);(focus simp);have hT1 := Ty.T57 hP;intro X1 K1 hU1 hnt1 hbl1 hK1;have hU1P := hU1.P;simp only [GA,↓GB,GX,simprocAttr] at hbl1 ⊢)|(refine and_mk ?_ ?_;(focus first | decide | omega | rfl | assumption | (simp only [LBs];omega) | (simp;done)))|(refine And.intro ?_ ?_))
      all_goals (try refine Done.mk ?_)
      all_goals (refine Imp.le [0,1,2,3,4,5,6,7,8,12,10,11] ?_;(refine LeR.of ?_ ?_ ?_ ?_ ?_ ?_ ?_ <;> first | (rw [hbl];decide) | decide | (simp only [GA,↓GB,GX,simprocAttr,GDs,CSs];done)))
    · have m1 : M 1 = true := dD hd rfl 0 rfl rfl
      have m10 : M 10 = true := dD hd rfl 1 rfl rfl
      have n20 : M 20 = false := dN hd rfl 10 rfl rfl hd.un
      have hun := hd.un
      refine ⟨_,rfl,rfl,?_⟩
      simp only [grC,upd,↓reduceIte,Nat.reduceEqDiff,reduceCtorEq,hun,m1,m10,n20,CSs,List.nil_append,List.cons_append,simprocAttr]
      refine VO.insert (kt := 3) (et := 113) (i := 5) (kv := .int .i64 4) (s := .agg [.v (.int .i64 2),.clo 90 [] [.loc 9 0]]) (kd := .int .i64) rfl rfl rfl rfl (by rw [hP];kernel_rfl) (by rw [hP];kernel_rfl) rfl (by simp [all_cond,KeyOf]) (look_nk (by simp [all_cond,nk])) ?_
      refine Imp.perm (i := 5) rfl ?_
      try simp only [List.append_assoc,List.nil_append,List.cons_append,List.append_nil]
      repeat (first | exact List.Perm.refl _ | exact List.perm_append_singleton _ _ | refine List.Perm.append_left _ ?_ | refine (List.Perm.append_left _ ?_).trans List.perm_middle)
    · have n13 : M 13 = false := dN hd rfl 0 rfl rfl hd.un
      have n14 : M 14 = false := dN hd rfl 1 rfl rfl n13
      have n18 : M 18 = false := dN hd rfl 1 rfl rfl n13
      have n19 : M 19 = false := dN hd rfl 1 rfl rfl n18
      have n20 : M 20 = false := dN hd rfl 11 rfl rfl hd.un
      have hun := hd.un
      refine ⟨_,rfl,rfl,?_⟩
      simp only [grC,upd,↓reduceIte,Nat.reduceEqDiff,reduceCtorEq,hun,n13,n14,n18,n19,n20,CSs,List.nil_append,List.cons_append,simprocAttr]
      refine vcOp_sound ?_
      simp only [GA,↓GB,GX,simprocAttr,hnt,hT]
      repeat' (refine and_mk ?_ ?_;(focus first | decide | omega | rfl | assumption))
      all_goals (refine Imp.le [0,1,2,3,4,5,6,7,8,9,10,11] ?_;(refine LeR.of ?_ ?_ ?_ ?_ ?_ ?_ ?_ <;> first | (rw [hbl];decide) | decide | (simp only [GA,↓GB,GX,simprocAttr,GDs,CSs];done)))
    · have m12 : M 12 = true := dD hd rfl 0 rfl rfl
      have m10 : M 10 = true := dD hd rfl 1 rfl rfl
      have n14 : M 14 = false := dN hd rfl 1 rfl rfl hd.un
      have n18 : M 18 = false := dN hd rfl 1 rfl rfl hd.un
      have n19 : M 19 = false := dN hd rfl 1 rfl rfl n18
      have n20 : M 20 = false := dN hd rfl 12 rfl rfl hd.un
      have hun := hd.un
      refine ⟨_,rfl,rfl,?_⟩
      simp only [grC,upd,↓reduceIte,Nat.reduceEqDiff,reduceCtorEq,hun,m12,m10,n14,n18,n19,n20,CSs,List.nil_append,List.cons_append,simprocAttr]
      refine vcOp_sound ?_
      simp only [GA,↓GB,GX,simprocAttr,hnt,hT]
      have hnt1 := True.intro;have hT1 := True.intro;have hU1P := True.intro
      repeat' (first|(refine SX.seqK ?_;intro N hN)|((first | (refine SX.ops ?_));simp only [GA,↓GB,GX,simprocAttr,hnt,hT,hnt1,hT1,hU1P,hag])|((first | refine SX.skip ?_ | refine SX.exit ?_ | refine SX.label ?_ | refine SX.ret ?_);try simp only [GA,↓GB,GX,simprocAttr])|(refine hN _ ?_;clear hN N)|((first | refine hK1 _ _ (FinI.ret3 ?_) | refine hK1 _ _ (FinI.nrm3 ?_));(repeat (clear hN N));clear hK1 K1;simp only [GA,↓GB,GX,simprocAttr,finP_s,hnt,hT,hnt1,hT1,hU1P,hag])|((first | refine hK _ _ (FinI.ret3 ?_) | refine hK _ _ (FinI.nrm3 ?_));simp only [GA,↓GB,GX,simprocAttr,finP_s,hnt,hT,hnt1,hT1,hU1P,hag];refine Done.out ?_)|((first | refine SX.cond rfl (fun hb => ?_) (fun hb => ?_) | (refine bif2.mk (fun hb => ?_) (fun hb => ?_) <;> (try simp only [hb,GA,↓GB,GX,simprocAttr,hnt,hT,hnt1,hT1,hU1P,hag]))) <;> ((first | cases hb | (simp only [HBs] at hb) | skip) <;> (first | (exfalso;omega) | skip)))|(refine CallVC.inline (f := 54) ?_ rfl Tryz.ntmps54 rfl ?_ ?_;(focus rw [hP];exact Tryz.func54);(focus simp);have hT1 := Ty.T54 hP;intro X1 K1 hU1 hnt1 hbl1 hK1;have hU1P := hU1.P;simp only [GA,↓GB,GX,simprocAttr] at hbl1 ⊢)|(refine CallVC.inline (f := 53) ?_ rfl Tryz.ntmps53 rfl ?_ ?_;(focus rw [hP];exact Tryz.func53);(focus simp);have hT1 := Ty.T53 hP;intro X1 K1 hU1 hnt1 hbl1 hK1;have hU1P := hU1.P;simp only [GA,↓GB,GX,simprocAttr] at hbl1 ⊢)|(refine CallVC.inline (f := 57) ?_ rfl Tryz.ntmps57 rfl ?_ ?_;(focus rw [hP];exact Tryz.func57);(focus simp);have hT1 := Ty.T57 hP;intro X1 K1 hU1 hnt1 hbl1 hK1;have hU1P := hU1.P;simp only [GA,↓GB,GX,simprocAttr] at hbl1 ⊢)|(refine and_mk ?_ ?_;(focus first | decide | omega | rfl | assumption | (simp only [LBs];omega) | (simp;done)))|(refine And.intro ?_ ?_))
      all_goals (try refine Done.mk ?_)
      all_goals (refine Imp.le [0,1,2,3,4,5,6,7,8,9,12,11] ?_;(refine LeR.of ?_ ?_ ?_ ?_ ?_ ?_ ?_ <;> first | (rw [hbl];decide) | decide | (simp only [GA,↓GB,GX,simprocAttr,GDs,CSs];done)))
    · have m1 : M 1 = true := dD hd rfl 0 rfl rfl
      have m13 : M 13 = true := dD hd rfl 1 rfl rfl
      have n20 : M 20 = false := dN hd rfl 13 rfl rfl hd.un
      have hun := hd.un
      refine ⟨_,rfl,rfl,?_⟩
      simp only [grC,upd,↓reduceIte,Nat.reduceEqDiff,reduceCtorEq,hun,m1,m13,n20,CSs,List.nil_append,List.cons_append,simprocAttr]
      refine VO.insert (kt := 3) (et := 113) (i := 5) (kv := .int .i64 5) (s := .agg [.v (.int .i64 2),.clo 90 [] [.loc 10 0]]) (kd := .int .i64) rfl rfl rfl rfl (by rw [hP];kernel_rfl) (by rw [hP];kernel_rfl) rfl (by simp [all_cond,KeyOf]) (look_nk (by simp [all_cond,nk])) ?_
      refine Imp.perm (i := 5) rfl ?_
      try simp only [List.append_assoc,List.nil_append,List.cons_append,List.append_nil]
      repeat (first | exact List.Perm.refl _ | exact List.perm_append_singleton _ _ | refine List.Perm.append_left _ ?_ | refine (List.Perm.append_left _ ?_).trans List.perm_middle)
    · have n16 : M 16 = false := dN hd rfl 1 rfl rfl hd.un
      have n20 : M 20 = false := dN hd rfl 14 rfl rfl hd.un
      have hun := hd.un
      refine ⟨_,rfl,rfl,?_⟩
      simp only [grC,upd,↓reduceIte,Nat.reduceEqDiff,reduceCtorEq,hun,n16,n20,CSs,List.nil_append,List.cons_append,simprocAttr]
      refine vcOp_sound ?_
      simp only [GA,↓GB,GX,simprocAttr,hnt,hT]
      repeat' (refine and_mk ?_ ?_;(focus first | decide | omega | rfl | assumption))
      all_goals (refine Imp.le [0,1,2,3,4,5,6,7,8,9,10,11] ?_;(refine LeR.of ?_ ?_ ?_ ?_ ?_ ?_ ?_ <;> first | (rw [hbl];decide) | decide | (simp only [GA,↓GB,GX,simprocAttr,GDs,CSs];done)))
    · have m1 : M 1 = true := dD hd rfl 0 rfl rfl
      have m15 : M 15 = true := dD hd rfl 1 rfl rfl
      have n20 : M 20 = false := dN hd rfl 15 rfl rfl hd.un
      have hun := hd.un
      refine ⟨_,rfl,rfl,?_⟩
      simp only [grC,upd,↓reduceIte,Nat.reduceEqDiff,reduceCtorEq,hun,m1,m15,n20,CSs,List.nil_append,List.cons_append,simprocAttr]
      refine VO.insert (kt := 3) (et := 113) (i := 5) (kv := .int .i64 6) (s := .agg [.v (.int .i64 2),.clo 51 [] [.loc 1 0]]) (kd := .int .i64) rfl rfl rfl rfl (by rw [hP];kernel_rfl) (by rw [hP];kernel_rfl) rfl (by simp [all_cond,KeyOf]) (look_nk (by simp [all_cond,nk])) ?_
      refine Imp.perm (i := 5) rfl ?_
      try simp only [List.append_assoc,List.nil_append,List.cons_append,List.append_nil]
      repeat (first | exact List.Perm.refl _ | exact List.perm_append_singleton _ _ | refine List.Perm.append_left _ ?_ | refine (List.Perm.append_left _ ?_).trans List.perm_middle)
    · have n18 : M 18 = false := dN hd rfl 0 rfl rfl hd.un
      have n19 : M 19 = false := dN hd rfl 1 rfl rfl n18
      have n20 : M 20 = false := dN hd rfl 16 rfl rfl hd.un
      have hun := hd.un
      refine ⟨_,rfl,rfl,?_⟩
      simp only [grC,upd,↓reduceIte,Nat.reduceEqDiff,reduceCtorEq,hun,n18,n19,n20,CSs,List.nil_append,List.cons_append,simprocAttr]
      refine vcOp_sound ?_
      simp only [GA,↓GB,GX,simprocAttr,hnt,hT]
      repeat' (refine and_mk ?_ ?_;(focus first | decide | omega | rfl | assumption))
      all_goals (refine Imp.le [0,1,2,3,4,5,6,7,8,9,10,11] ?_;(refine LeR.of ?_ ?_ ?_ ?_ ?_ ?_ ?_ <;> first | (rw [hbl];decide) | decide | (simp only [GA,↓GB,GX,simprocAttr,GDs,CSs];done)))
    · have m17 : M 17 = true := dD hd rfl 0 rfl rfl
      have m13 : M 13 = true := dD hd rfl 1 rfl rfl
      have n19 : M 19 = false := dN hd rfl 1 rfl rfl hd.un
      have n20 : M 20 = false := dN hd rfl 17 rfl rfl hd.un
      have hun := hd.un
      refine ⟨_,rfl,rfl,?_⟩
      simp only [grC,upd,↓reduceIte,Nat.reduceEqDiff,reduceCtorEq,hun,m17,m13,n19,n20,CSs,List.nil_append,List.cons_append,simprocAttr]
      refine vcOp_sound ?_
      simp only [GA,↓GB,GX,simprocAttr,hnt,hT]
      have hnt1 := True.intro;have hT1 := True.intro;have hU1P := True.intro
      repeat' (first|(refine SX.seqK ?_;intro N hN)|((first | (refine SX.ops ?_));simp only [GA,↓GB,GX,simprocAttr,hnt,hT,hnt1,hT1,hU1P,hag])|((first | refine SX.skip ?_ | refine SX.exit ?_ | refine SX.label ?_ | refine SX.ret ?_);try simp only [GA,↓GB,GX,simprocAttr])|(refine hN _ ?_;clear hN N)|((first | refine hK1 _ _ (FinI.ret3 ?_) | refine hK1 _ _ (FinI.nrm3 ?_));(repeat (clear hN N));clear hK1 K1;simp only [GA,↓GB,GX,simprocAttr,finP_s,hnt,hT,hnt1,hT1,hU1P,hag])|((first | refine hK _ _ (FinI.ret3 ?_) | refine hK _ _ (FinI.nrm3 ?_));simp only [GA,↓GB,GX,simprocAttr,finP_s,hnt,hT,hnt1,hT1,hU1P,hag];refine Done.out ?_)|((first | refine SX.cond rfl (fun hb => ?_) (fun hb => ?_) | (refine bif2.mk (fun hb => ?_) (fun hb => ?_) <;> (try simp only [hb,GA,↓GB,GX,simprocAttr,hnt,hT,hnt1,hT1,hU1P,hag]))) <;> ((first | cases hb | (simp only [HBs] at hb) | skip) <;> (first | (exfalso;omega) | skip)))|(refine CallVC.inline (f := 54) ?_ rfl Tryz.ntmps54 rfl ?_ ?_;(focus rw [hP];exact Tryz.func54);(focus simp);have hT1 := Ty.T54 hP;intro X1 K1 hU1 hnt1 hbl1 hK1;have hU1P := hU1.P;simp only [GA,↓GB,GX,simprocAttr] at hbl1 ⊢)|(refine CallVC.inline (f := 53) ?_ rfl Tryz.ntmps53 rfl ?_ ?_;(focus rw [hP];exact Tryz.func53);(focus simp);have hT1 := Ty.T53 hP;intro X1 K1 hU1 hnt1 hbl1 hK1;have hU1P := hU1.P;simp only [GA,↓GB,GX,simprocAttr] at hbl1 ⊢)|(refine CallVC.inline (f := 57) ?_ rfl Tryz.ntmps57 rfl ?_ ?_;(focus rw [hP];exact Tryz.func57);(focus simp);have hT1 := Ty.T57 hP;intro X1 K1 hU1 hnt1 hbl1 hK1;have hU1P := hU1.P;simp only [GA,↓GB,GX,simprocAttr] at hbl1 ⊢)|(refine and_mk ?_ ?_;(focus first | decide | omega | rfl | assumption | (simp only [LBs];omega) | (simp;done)))|(refine And.intro ?_ ?_))
      all_goals (try refine Done.mk ?_)
      all_goals (refine Imp.le [0,1,2,3,4,5,6,7,8,9,10,12] ?_;(refine LeR.of ?_ ?_ ?_ ?_ ?_ ?_ ?_ <;> first | (rw [hbl];decide) | decide | (simp only [GA,↓GB,GX,simprocAttr,GDs,CSs];done)))
    · have m1 : M 1 = true := dD hd rfl 0 rfl rfl
      have m18 : M 18 = true := dD hd rfl 1 rfl rfl
      have n20 : M 20 = false := dN hd rfl 18 rfl rfl hd.un
      have hun := hd.un
      refine ⟨_,rfl,rfl,?_⟩
      simp only [grC,upd,↓reduceIte,Nat.reduceEqDiff,reduceCtorEq,hun,m1,m18,n20,CSs,List.nil_append,List.cons_append,simprocAttr]
      refine VO.insert (kt := 3) (et := 113) (i := 5) (kv := .int .i64 7) (s := .agg [.v (.int .i64 2),.clo 87 [] [.loc 11 0]]) (kd := .int .i64) rfl rfl rfl rfl (by rw [hP];kernel_rfl) (by rw [hP];kernel_rfl) rfl (by simp [all_cond,KeyOf]) (look_nk (by simp [all_cond,nk])) ?_
      refine Imp.perm (i := 5) rfl ?_
      try simp only [List.append_assoc,List.nil_append,List.cons_append,List.append_nil]
      repeat (first | exact List.Perm.refl _ | exact List.perm_append_singleton _ _ | refine List.Perm.append_left _ ?_ | refine (List.Perm.append_left _ ?_).trans List.perm_middle)
    · have m1 : M 1 = true := dD hd rfl 0 rfl rfl
      have m2 : M 2 = true := dD hd rfl 1 rfl rfl
      have m3 : M 3 = true := dD hd rfl 2 rfl rfl
      have m4 : M 4 = true := dD hd rfl 3 rfl rfl
      have m5 : M 5 = true := dD hd rfl 4 rfl rfl
      have m6 : M 6 = true := dD hd rfl 5 rfl rfl
      have m7 : M 7 = true := dD hd rfl 6 rfl rfl
      have m8 : M 8 = true := dD hd rfl 7 rfl rfl
      have m9 : M 9 = true := dD hd rfl 8 rfl rfl
      have m10 : M 10 = true := dD hd rfl 9 rfl rfl
      have m11 : M 11 = true := dD hd rfl 10 rfl rfl
      have m12 : M 12 = true := dD hd rfl 11 rfl rfl
      have m13 : M 13 = true := dD hd rfl 12 rfl rfl
      have m14 : M 14 = true := dD hd rfl 13 rfl rfl
      have m15 : M 15 = true := dD hd rfl 14 rfl rfl
      have m16 : M 16 = true := dD hd rfl 15 rfl rfl
      have m17 : M 17 = true := dD hd rfl 16 rfl rfl
      have m18 : M 18 = true := dD hd rfl 17 rfl rfl
      have m19 : M 19 = true := dD hd rfl 18 rfl rfl
      have hun := hd.un
      refine ⟨_,rfl,rfl,?_⟩
      simp only [grC,upd,↓reduceIte,Nat.reduceEqDiff,reduceCtorEq,hun,m1,m2,m3,m4,m5,m6,m7,m8,m9,m10,m11,m12,m13,m14,m15,m16,m17,m18,m19,CSs,List.nil_append,List.cons_append,simprocAttr]
      refine vcOp_sound ?_
      simp only [GA,↓GB,GX,simprocAttr,hnt,hT]
      repeat' (refine and_mk ?_ ?_;(focus first | decide | omega | rfl | assumption))
      all_goals (refine Imp.le [0,1,2,3,4,5,6,7,8,9,10,11] ?_;(refine LeR.of ?_ ?_ ?_ ?_ ?_ ?_ ?_ <;> first | (rw [hbl];decide) | decide | (simp only [GA,↓GB,GX,simprocAttr,GDs,CSs];done)))
  simp only [grC,cond_true,List.nil_append,List.cons_append,GA,↓GB,GX,simprocAttr,hnt,hT,hag]
  exact hk
structure RqB (n : Nat) (m : RqS) : Prop where
  sb : ∀ x ∈ m.sb,x.length ≤ n
  un : ∀ x ∈ m.un,x.length ≤ n
  hv : ∀ x ∈ m.hv,x.1.length ≤ n
  det : m.det.length ≤ n
theorem RqB.zero (n : Nat) : RqB n .zero := ⟨fun x h => (by cases h),fun x h => (by cases h),fun x h => (by cases h),Nat.zero_le _⟩
theorem takeH_len (s : List UInt8) (n : Nat) (hs : s.length ≤ n) (m : HvS) (hm : m.1.length ≤ n) : (takeB stepH s m).1.1.length ≤ n := by
  unfold takeB
  cases hp : NW.parse s with
  | none => exact hm
  | some l =>
    refine takeG_inv (fun m => m.1.length ≤ n) l m hm fun f hf m m' h1 h2 => ?_
    have := parse_slen hp f hf
    unfold stepH at h2
    repeat' split at h2
    all_goals first|(cases h2;done)|(cases h2;exact h1)|(cases h2;show f.s.length ≤ n;omega)
theorem stepQ_b {n : Nat} {f : NW.Fld} {m : RqS} (hf : f.s.length ≤ n) (h : RqB n m) : RqB n (stepQ f m).1 ∧ (stepQ f m).1.sb.length ≤ m.sb.length + 1 ∧ (stepQ f m).1.un.length ≤ m.un.length + 1 ∧ (stepQ f m).1.hv.length ≤ m.hv.length + 1 := by
  have hh := takeH_len f.s n hf ([],0) (Nat.zero_le _)
  unfold stepQ
  repeat' split
  all_goals first
    | exact ⟨h,by omega,by omega,by omega⟩
    | exact ⟨⟨h.sb,h.un,h.hv,h.det⟩,by simp,by simp,by simp⟩
    | exact ⟨⟨h.sb,h.un,h.hv,hf⟩,by simp,by simp,by simp⟩
    | (refine ⟨⟨fun x hx => ?_,h.un,h.hv,h.det⟩,by simp,by simp,by simp⟩
       rcases List.mem_append.1 hx with hx | hx
       · exact h.sb x hx
       · simp at hx;rw [hx];exact hf)
    | (refine ⟨⟨h.sb,fun x hx => ?_,h.hv,h.det⟩,by simp,by simp,by simp⟩
       rcases List.mem_append.1 hx with hx | hx
       · exact h.un x hx
       · simp at hx;rw [hx];exact hf)
    | (refine ⟨⟨h.sb,h.un,fun x hx => ?_,h.det⟩,by simp,by simp,by simp⟩
       rcases List.mem_append.1 hx with hx | hx
       · exact h.hv x hx
       · simp at hx;rw [hx];exact hh)
theorem takeX_b {n : Nat} : ∀ {l : List NW.Fld} {m : RqS},(∀ f ∈ l,f.s.length ≤ n) → RqB n m → RqB n (takeX stepQ l m).1 ∧ (takeX stepQ l m).1.sb.length ≤ m.sb.length + l.length ∧ (takeX stepQ l m).1.un.length ≤ m.un.length + l.length ∧ (takeX stepQ l m).1.hv.length ≤ m.hv.length + l.length
  | [],m,_,h => ⟨h,Nat.le_refl _,Nat.le_refl _,Nat.le_refl _⟩
  | f :: l,m,hf,h => by
    obtain ⟨h1,h2,h3,h4⟩ := stepQ_b (hf f List.mem_cons_self) h
    obtain ⟨k1,k2,k3,k4⟩ := takeX_b (l := l) (fun g hg => hf g (List.mem_cons_of_mem _ hg)) h1
    rw [takeX]
    split
    · exact ⟨k1,by simp only [List.length_cons];omega,by simp only [List.length_cons];omega,by simp only [List.length_cons];omega⟩
    · exact ⟨h1,by simp only [List.length_cons];omega,by simp only [List.length_cons];omega,by simp only [List.length_cons];omega⟩
theorem takeXB_b (s : List UInt8) : RqB s.length (takeXB stepQ s .zero).1 ∧ (takeXB stepQ s .zero).1.sb.length ≤ s.length ∧ (takeXB stepQ s .zero).1.un.length ≤ s.length ∧ (takeXB stepQ s .zero).1.hv.length ≤ s.length := by
  unfold takeXB
  cases hp : NW.parse s with
  | none => exact ⟨.zero _,Nat.zero_le _,Nat.zero_le _,Nat.zero_le _⟩
  | some l =>
    have hl := parse_len hp
    obtain ⟨k1,k2,k3,k4⟩ := takeX_b (n := s.length) (m := .zero) (parse_slen hp) (.zero _)
    have z : RqS.zero.sb.length = 0 ∧ RqS.zero.un.length = 0 ∧ RqS.zero.hv.length = 0 := ⟨rfl,rfl,rfl⟩
    exact ⟨k1,by show (takeX stepQ l .zero).1.sb.length ≤ _;omega,by show (takeX stepQ l .zero).1.un.length ≤ _;omega,by show (takeX stepQ l .zero).1.hv.length ≤ _;omega⟩
def okQ (m : RqS) : Bool := decide (m.delta ≤ 1) && reqB ((min m.kind 6 : Nat) : Int) ((m.delta : Int) == 1) m.nonce m.sb m.un m.hv m.det
def reqR (s : List UInt8) : Option RqS := if kindL s = 1 then (if (takeXB stepQ (s.drop 1) .zero).2 = true ∧ okQ (takeXB stepQ (s.drop 1) .zero).1 = true then some (takeXB stepQ (s.drop 1) .zero).1 else none) else none
def reqRO : Option RqS → List LO
  | some m => [srow m.sb,srow m.un,hrow m.hv]
  | none => []
def reqRV : Option RqS → SV
  | some m => .tup [.agg [.v (.int .i64 ((min m.kind 6 : Nat) : Int)),.v (.bool ((m.delta : Int) == 1)),.v (.int .u64 m.nonce),.row 0,.row 1,.row 2,.v (.string (B m.det))],.c (.v (.bool true))]
  | none => .tup [.agg [.v (.int .i64 0),.v (.bool false),.v (.int .u64 0),.v (.slice none 0 0),.v (.slice none 0 0),.v (.slice none 0 0),.v (.string (B []))],.c (.v (.bool false))]
theorem getReq_ctr {e : EA} (he : e.Ok) (s : List UInt8) (hs : s.length ≤ 1048576) : Ctr Tryz.prog (GE e) 14 [] [vv (.string (B s))] (fun os v => os = reqRO (reqR s) ∧ v = reqRV (reqR s)) := by
  refine Ctr.less ?_
  by_cases hk : kindL s = 1
  · obtain ⟨hB,h1,h2,h3⟩ := takeXB_b (s.drop 1)
    have hd : (s.drop 1).length ≤ 1048576 := by rw [List.length_drop];omega
    have hg := getReqM_yes he s (by omega) hk
    unfold reqR
    rw [if_pos hk]
    generalize (takeXB stepQ (s.drop 1) .zero).1 = m at *
    have hr := rightReq_ctr ((min m.kind 6 : Nat) : Int) ((m.delta : Int) == 1) m.nonce m.sb m.un m.hv m.det (by omega) (by omega) (by omega) (fun x hx => Nat.le_trans (hB.sb x hx) (by omega)) (fun x hx => Nat.le_trans (hB.un x hx) (by omega)) (fun x hx => by
      obtain ⟨y,hy,rfl⟩ := List.mem_map.1 hx
      exact Nat.le_trans (hB.hv y hy) (by omega))
    have h6 := min6 m.kind
    have h7 := min6w m.kind
    have hq : okQ m = (decide (m.delta ≤ 1) && reqB ((min m.kind 6 : Nat) : Int) ((m.delta : Int) == 1) m.nonce m.sb m.un m.hv m.det) := rfl
    generalize reqB ((min m.kind 6 : Nat) : Int) ((m.delta : Int) == 1) m.nonce m.sb m.un m.hv m.det = rb at hr hq
    cases hok : (takeXB stepQ (s.drop 1) .zero).2 with
    | true =>
      rw [hok] at hg
      have hb := bad_nil he
      intro X0 hP0 hG0 N0 hN0
      refine CallVC.inline (f := 14) (by rw [hP0];exact Tryz.func14) rfl Tryz.ntmps14 rfl (by simp) ?_
      intro X K hU hnt hbl hK
      have hP : X.P = Tryz.prog := hU.P.trans hP0
      have hG := hG0.under hU
      have hT := Ty.T14 hP
      simp only [GA,↓GB,GX,simprocAttr] at hbl ⊢
      repeat' (first|(refine SX.select (d := ⟨[(0,vv (.string (B s))),(2,.one (.c (.loc 0 0))),(3,vv (.bool false)),(4,.one (.c (.loc 1 0))),(5,.one (.c (.loc 2 0))),(6,.one (.c (.loc 3 0))),(7,.one (.c (.loc 4 0)))],[.cells [.v (.int .i64 0),.v (.bool false),.v (.int .u64 0),.v (.slice none 0 0),.v (.slice none 0 0),.v (.slice none 0 0),.v (.string (B []))] 26,.cells [.v (.int .i64 0),.v (.bool false),.v (.int .u64 0),.v (.slice none 0 0),.v (.slice none 0 0),.v (.slice none 0 0),.v (.string (B []))] 26,.cells [.v (.int .u64 0)] 22,.cells [.v (.int .u64 0)] 22,.cells [.v (.int .i64 2),.clo 51 [] [.loc 1 0]] 113]⟩) [0,1,2,3,4] (by (refine LeR.of ?_ ?_ ?_ ?_ ?_ ?_ ?_ <;> first | (rw [hbl];decide) | decide | (simp only [GA,↓GB,GX,simprocAttr,GDs];done) | (simp only [GA,↓GB,GX,simprocAttr,GDs];rfl;done))) (gr_region hP hnt hbl s (fun _ => True) _ ?_) <;> simp only [grC,cond_true,List.nil_append,List.cons_append,GA,↓GB,GX,simprocAttr,hnt,hT])|(refine SX.seqK ?_;intro N hN)|((first | (refine SX.ops ?_));simp only [GA,↓GB,GX,simprocAttr,hnt,hT,h6,h7])|((first | refine SX.skip ?_ | refine SX.exit ?_ | refine SX.label ?_ | refine SX.ret ?_);try simp only [GA,↓GB,GX,simprocAttr])|(refine hN _ ?_;clear hN N)|((first | refine hK _ _ (FinI.ret3 ?_) | refine hK _ _ (FinI.nrm3 ?_));simp only [GA,↓GB,GX,simprocAttr,finP_s,hnt,hT,h6,h7];refine Done.out ?_)|((first | refine SX.cond rfl (fun hb => ?_) (fun hb => ?_) | (refine bif2.mk (fun hb => ?_) (fun hb => ?_) <;> (try simp only [hb,GA,↓GB,GX,simprocAttr,hnt,hT,h6,h7]))) <;> ((first | cases hb | (simp only [HBs] at hb) | skip) <;> (first | (exfalso;omega) | skip)))|((first | (refine Ctr.use (hg) hP hG [5,6,7,8,9,10,11,2,3,1] ?_ rfl rfl ?_;(focus (refine LeR.of rfl trivial ?_ ?_ ?_ ?_ ?_ <;> first | decide | (simp only [GA,↓GB,GX,simprocAttr,GDs];done)));intro os' s hR;obtain ⟨rfl,rfl⟩ := hR) | (refine Ctr.use (hb) hP hG [] ?_ rfl rfl ?_;(focus (refine LeR.of rfl trivial ?_ ?_ ?_ ?_ ?_ <;> first | decide | (simp only [GA,↓GB,GX,simprocAttr,GDs];done)));intro os' s hR;obtain ⟨rfl,rfl⟩ := hR) | (refine Ctr.use (hr) hP ?_ [12,13,14] ?_ rfl rfl ?_;(focus (intro p hp;cases hp));(focus (refine LeR.of rfl trivial ?_ ?_ ?_ ?_ ?_ <;> first | decide | (simp only [GA,↓GB,GX,simprocAttr,GDs];done)));intro os' s hR;obtain ⟨rfl,rfl⟩ := hR));simp only [GA,↓GB,GX,simprocAttr,hnt,hT,h6,h7])|(refine and_mk ?_ ?_;(focus first | decide | omega | rfl | assumption | (simp only [LBs];omega) | (simp;done)))|(refine And.intro ?_ ?_))
      all_goals (try refine Done.mk ?_)
      · have hf : okQ m = false := by rw [hq,decide_eq_false (by omega)];rfl
        rw [if_neg (fun h => by rw [hf] at h;cases h.2)] at hN0
        simp only [reqRO,reqRV] at hN0
        (refine hN0 _ _ ⟨[],_,_,?_,?_,?_,⟨rfl,rfl⟩⟩;(focus exact LeR.of rfl trivial (by simp only [GA,↓GB,GX,simprocAttr,GDs]) (by decide) rfl rfl rfl);rotate_left;(focus rfl))
        rfl
      · have hf : okQ m = false := by rw [hq,hb,Bool.and_false]
        rw [if_neg (fun h => by rw [hf] at h;cases h.2)] at hN0
        simp only [reqRO,reqRV] at hN0
        (refine hN0 _ _ ⟨[],_,_,?_,?_,?_,⟨rfl,rfl⟩⟩;(focus exact LeR.of rfl trivial (by simp only [GA,↓GB,GX,simprocAttr,GDs]) (by decide) rfl rfl rfl);rotate_left;(focus rfl))
        rfl
      · have hf : okQ m = true := by rw [hq,hb,decide_eq_true (by omega)];rfl
        rw [if_pos ⟨rfl,hf⟩] at hN0
        simp only [reqRO,reqRV] at hN0
        (refine hN0 _ _ ⟨[12,13,14],_,_,?_,?_,?_,⟨rfl,rfl⟩⟩;(focus exact LeR.of rfl trivial (by simp only [GA,↓GB,GX,simprocAttr,GDs]) (by decide) rfl rfl rfl);rotate_left;(focus rfl))
        rfl
    | false =>
      rw [hok] at hg
      have hb := bad_form he
      intro X0 hP0 hG0 N0 hN0
      refine CallVC.inline (f := 14) (by rw [hP0];exact Tryz.func14) rfl Tryz.ntmps14 rfl (by simp) ?_
      intro X K hU hnt hbl hK
      have hP : X.P = Tryz.prog := hU.P.trans hP0
      have hG := hG0.under hU
      have hT := Ty.T14 hP
      simp only [GA,↓GB,GX,simprocAttr] at hbl ⊢
      repeat' (first|(refine SX.select (d := ⟨[(0,vv (.string (B s))),(2,.one (.c (.loc 0 0))),(3,vv (.bool false)),(4,.one (.c (.loc 1 0))),(5,.one (.c (.loc 2 0))),(6,.one (.c (.loc 3 0))),(7,.one (.c (.loc 4 0)))],[.cells [.v (.int .i64 0),.v (.bool false),.v (.int .u64 0),.v (.slice none 0 0),.v (.slice none 0 0),.v (.slice none 0 0),.v (.string (B []))] 26,.cells [.v (.int .i64 0),.v (.bool false),.v (.int .u64 0),.v (.slice none 0 0),.v (.slice none 0 0),.v (.slice none 0 0),.v (.string (B []))] 26,.cells [.v (.int .u64 0)] 22,.cells [.v (.int .u64 0)] 22,.cells [.v (.int .i64 2),.clo 51 [] [.loc 1 0]] 113]⟩) [0,1,2,3,4] (by (refine LeR.of ?_ ?_ ?_ ?_ ?_ ?_ ?_ <;> first | (rw [hbl];decide) | decide | (simp only [GA,↓GB,GX,simprocAttr,GDs];done) | (simp only [GA,↓GB,GX,simprocAttr,GDs];rfl;done))) (gr_region hP hnt hbl s (fun _ => True) _ ?_) <;> simp only [grC,cond_true,List.nil_append,List.cons_append,GA,↓GB,GX,simprocAttr,hnt,hT])|(refine SX.seqK ?_;intro N hN)|((first | (refine SX.ops ?_));simp only [GA,↓GB,GX,simprocAttr,hnt,hT,h6,h7])|((first | refine SX.skip ?_ | refine SX.exit ?_ | refine SX.label ?_ | refine SX.ret ?_);try simp only [GA,↓GB,GX,simprocAttr])|(refine hN _ ?_;clear hN N)|((first | refine hK _ _ (FinI.ret3 ?_) | refine hK _ _ (FinI.nrm3 ?_));simp only [GA,↓GB,GX,simprocAttr,finP_s,hnt,hT,h6,h7];refine Done.out ?_)|((first | refine SX.cond rfl (fun hb => ?_) (fun hb => ?_) | (refine bif2.mk (fun hb => ?_) (fun hb => ?_) <;> (try simp only [hb,GA,↓GB,GX,simprocAttr,hnt,hT,h6,h7]))) <;> ((first | cases hb | (simp only [HBs] at hb) | skip) <;> (first | (exfalso;omega) | skip)))|((first | (refine Ctr.use (hg) hP hG [5,6,7,8,9,10,11,2,3,1] ?_ rfl rfl ?_;(focus (refine LeR.of rfl trivial ?_ ?_ ?_ ?_ ?_ <;> first | decide | (simp only [GA,↓GB,GX,simprocAttr,GDs];done)));intro os' s hR;obtain ⟨rfl,rfl⟩ := hR) | (refine Ctr.use (hb) hP hG [] ?_ rfl rfl ?_;(focus (refine LeR.of rfl trivial ?_ ?_ ?_ ?_ ?_ <;> first | decide | (simp only [GA,↓GB,GX,simprocAttr,GDs];done)));intro os' s hR;obtain ⟨rfl,rfl⟩ := hR));simp only [GA,↓GB,GX,simprocAttr,hnt,hT,h6,h7])|(refine and_mk ?_ ?_;(focus first | decide | omega | rfl | assumption | (simp only [LBs];omega) | (simp;done)))|(refine And.intro ?_ ?_))
      all_goals (try refine Done.mk ?_)
      all_goals (rw [if_neg (fun h => by cases h.1)] at hN0;simp only [reqRO,reqRV] at hN0;(refine hN0 _ _ ⟨[],_,_,?_,?_,?_,⟨rfl,rfl⟩⟩;(focus exact LeR.of rfl trivial (by simp only [GA,↓GB,GX,simprocAttr,GDs]) (by decide) rfl rfl rfl);rotate_left;(focus rfl));rfl)
  · have hg := getReqM_no he s hk
    have hb := bad_kind he
    have h6 := min6 0
    have h7 := min6w 0
    rw [show reqR s = none by rw [reqR,if_neg hk]]
    intro X0 hP0 hG0 N0 hN0
    refine CallVC.inline (f := 14) (by rw [hP0];exact Tryz.func14) rfl Tryz.ntmps14 rfl (by simp) ?_
    intro X K hU hnt hbl hK
    have hP : X.P = Tryz.prog := hU.P.trans hP0
    have hG := hG0.under hU
    have hT := Ty.T14 hP
    simp only [GA,↓GB,GX,simprocAttr] at hbl ⊢
    repeat' (first|(refine SX.select (d := ⟨[(0,vv (.string (B s))),(2,.one (.c (.loc 0 0))),(3,vv (.bool false)),(4,.one (.c (.loc 1 0))),(5,.one (.c (.loc 2 0))),(6,.one (.c (.loc 3 0))),(7,.one (.c (.loc 4 0)))],[.cells [.v (.int .i64 0),.v (.bool false),.v (.int .u64 0),.v (.slice none 0 0),.v (.slice none 0 0),.v (.slice none 0 0),.v (.string (B []))] 26,.cells [.v (.int .i64 0),.v (.bool false),.v (.int .u64 0),.v (.slice none 0 0),.v (.slice none 0 0),.v (.slice none 0 0),.v (.string (B []))] 26,.cells [.v (.int .u64 0)] 22,.cells [.v (.int .u64 0)] 22,.cells [.v (.int .i64 2),.clo 51 [] [.loc 1 0]] 113]⟩) [0,1,2,3,4] (by (refine LeR.of ?_ ?_ ?_ ?_ ?_ ?_ ?_ <;> first | (rw [hbl];decide) | decide | (simp only [GA,↓GB,GX,simprocAttr,GDs];done) | (simp only [GA,↓GB,GX,simprocAttr,GDs];rfl;done))) (gr_region hP hnt hbl s (fun _ => True) _ ?_) <;> simp only [grC,cond_true,List.nil_append,List.cons_append,GA,↓GB,GX,simprocAttr,hnt,hT])|(refine SX.seqK ?_;intro N hN)|((first | (refine SX.ops ?_));simp only [GA,↓GB,GX,simprocAttr,hnt,hT,h6,h7])|((first | refine SX.skip ?_ | refine SX.exit ?_ | refine SX.label ?_ | refine SX.ret ?_);try simp only [GA,↓GB,GX,simprocAttr])|(refine hN _ ?_;clear hN N)|((first | refine hK _ _ (FinI.ret3 ?_) | refine hK _ _ (FinI.nrm3 ?_));simp only [GA,↓GB,GX,simprocAttr,finP_s,hnt,hT,h6,h7];refine Done.out ?_)|((first | refine SX.cond rfl (fun hb => ?_) (fun hb => ?_) | (refine bif2.mk (fun hb => ?_) (fun hb => ?_) <;> (try simp only [hb,GA,↓GB,GX,simprocAttr,hnt,hT,h6,h7]))) <;> ((first | cases hb | (simp only [HBs] at hb) | skip) <;> (first | (exfalso;omega) | skip)))|((first | (refine Ctr.use (hg) hP hG [5,6,7,8,9,10,11,2,3,1] ?_ rfl rfl ?_;(focus (refine LeR.of rfl trivial ?_ ?_ ?_ ?_ ?_ <;> first | decide | (simp only [GA,↓GB,GX,simprocAttr,GDs];done)));intro os' s hR;obtain ⟨rfl,rfl⟩ := hR) | (refine Ctr.use (hb) hP hG [] ?_ rfl rfl ?_;(focus (refine LeR.of rfl trivial ?_ ?_ ?_ ?_ ?_ <;> first | decide | (simp only [GA,↓GB,GX,simprocAttr,GDs];done)));intro os' s hR;obtain ⟨rfl,rfl⟩ := hR));simp only [GA,↓GB,GX,simprocAttr,hnt,hT,h6,h7])|(refine and_mk ?_ ?_;(focus first | decide | omega | rfl | assumption | (simp only [LBs];omega) | (simp;done)))|(refine And.intro ?_ ?_))
    all_goals (try refine Done.mk ?_)
    all_goals (simp only [reqRO,reqRV] at hN0;(refine hN0 _ _ ⟨[],_,_,?_,?_,?_,⟨rfl,rfl⟩⟩;(focus exact LeR.of rfl trivial (by simp only [GA,↓GB,GX,simprocAttr,GDs]) (by decide) rfl rfl rfl);rotate_left;(focus rfl));rfl)
@[reducible] def sl42 : LO := .cells [.v (.string (B [42]))] 9
abbrev nilS : SV := vv (.slice none 0 0)
theorem star42 : starB [42] = true := rfl
theorem index42 : Ctr Tryz.prog [] 106 [sl42,.cells [.clo 65 [] []] 135] [.one (.c (.sl 0 0 1 1)),.one (.c (.clo 93 [] [.loc 1 0]))] (fun os v => os = [sl42,.cells [.clo 65 [] []] 135] ∧ v = vv (.int .i64 (-1))) := by
  have hrun := named1Star [42] (by decide)
  rw [star42] at hrun
  refine Ctr.less ?_
  intro X0 hP0 hG0 N0 hN0
  refine CallVC.inline (f := 106) (by rw [hP0];exact Tryz.func106) rfl Tryz.ntmps106 rfl (by simp) ?_
  intro X K hU hnt hbl hK
  have hP : X.P = Tryz.prog := hU.P.trans hP0
  have hG := hG0.under hU
  have hT := Ty.T106 hP
  simp only [GA,↓GB,GX,simprocAttr] at hbl ⊢
  have hc : calleeOk X.P 93 = true := by rw [hP];kernel_rfl
  repeat' (first|(refine SX.seqK ?_;intro N hN)|((first | (refine SX.ops ?_));simp only [GA,↓GB,GX,simprocAttr,hnt,hT,hc])|((first | refine SX.skip ?_ | refine SX.exit ?_ | refine SX.label ?_ | refine SX.ret ?_);try simp only [GA,↓GB,GX,simprocAttr])|(refine hN _ ?_;clear hN N)|((first | refine hK _ _ (FinI.ret3 ?_) | refine hK _ _ (FinI.nrm3 ?_));simp only [GA,↓GB,GX,simprocAttr,finP_s,hnt,hT,hc];refine Done.out ?_)|(clear hN N;first | (refine hN _ ?_;clear hN N) | (clear hN N;refine hN _ ?_;clear hN N))|((first | refine SX.cond rfl (fun hb => ?_) (fun hb => ?_) | (refine bif2.mk (fun hb => ?_) (fun hb => ?_) <;> (try simp only [hb,GA,↓GB,GX,simprocAttr,hnt,hT,hc]))) <;> ((first | cases hb | (simp only [HBs] at hb) | skip) <;> (first | (exfalso;omega) | skip)))|((first | (refine Ctr.use (hrun) hP ?_ [1] ?_ rfl rfl ?_;(focus (intro p hp;cases hp));(focus (refine LeR.of rfl trivial ?_ ?_ ?_ ?_ ?_ <;> first | decide | (simp only [GA,↓GB,GX,simprocAttr,GDs];done)));intro os' s hR;obtain ⟨rfl,rfl⟩ := hR));simp only [GA,↓GB,GX,simprocAttr,hnt,hT,hc])|(refine SX.loopN 2 ?_)|(refine SXr.stepK ?_;intro N hN)|(refine SX.block ?_)|(refine and_mk ?_ ?_;(focus first | decide | omega | rfl | assumption | (simp only [LBs];omega) | (simp;done)))|(refine And.intro ?_ ?_))
  all_goals (try refine Done.mk ?_)
  all_goals ((refine hN0 _ _ ⟨[0,1],_,_,?_,?_,?_,⟨rfl,rfl⟩⟩;(focus exact LeR.of rfl trivial (by simp only [GA,↓GB,GX,simprocAttr,GDs]) (by decide) rfl rfl rfl);rotate_left;(focus rfl));rfl)
theorem contains42 : Ctr Tryz.prog [] 92 [sl42,.cells [.clo 65 [] []] 135] [.one (.c (.sl 0 0 1 1)),.one (.c (.clo 93 [] [.loc 1 0]))] (fun os v => os = [sl42,.cells [.clo 65 [] []] 135] ∧ v = vv (.bool false)) := by
  refine Ctr.less ?_
  intro X0 hP0 hG0 N0 hN0
  refine CallVC.inline (f := 92) (by rw [hP0];exact Tryz.func92) rfl Tryz.ntmps92 rfl (by simp) ?_
  intro X K hU hnt hbl hK
  have hP : X.P = Tryz.prog := hU.P.trans hP0
  have hG := hG0.under hU
  have hT := Ty.T92 hP
  simp only [GA,↓GB,GX,simprocAttr] at hbl ⊢
  repeat' (first|(refine SX.seqK ?_;intro N hN)|((first | (refine SX.ops ?_));simp only [GA,↓GB,GX,simprocAttr,hnt,hT])|((first | refine SX.skip ?_ | refine SX.exit ?_ | refine SX.label ?_ | refine SX.ret ?_);try simp only [GA,↓GB,GX,simprocAttr])|(refine hN _ ?_;clear hN N)|((first | refine hK _ _ (FinI.ret3 ?_) | refine hK _ _ (FinI.nrm3 ?_));simp only [GA,↓GB,GX,simprocAttr,finP_s,hnt,hT];refine Done.out ?_)|(refine bif2.mk (fun hb => ?_) (fun hb => ?_) <;> (try simp only [hb,GA,↓GB,GX,simprocAttr,hnt,hT]) <;> ((first | cases hb | (simp only [HBs] at hb) | skip) <;> (first | (exfalso;omega) | skip)))|((first | (refine Ctr.use (index42) hP ?_ [0,1] ?_ rfl rfl ?_;(focus (intro p hp;cases hp));(focus (refine LeR.of rfl trivial ?_ ?_ ?_ ?_ ?_ <;> first | decide | (simp only [GA,↓GB,GX,simprocAttr,GDs];done)));intro os' s hR;obtain ⟨rfl,rfl⟩ := hR));simp only [GA,↓GB,GX,simprocAttr,hnt,hT])|(refine and_mk ?_ ?_;(focus first | decide | omega | rfl | assumption | (simp only [LBs];omega) | (simp;done)))|(refine And.intro ?_ ?_))
  all_goals (try refine Done.mk ?_)
  all_goals ((refine hN0 _ _ ⟨[0,1],_,_,?_,?_,?_,⟨rfl,rfl⟩⟩;(focus exact LeR.of rfl trivial (by simp only [GA,↓GB,GX,simprocAttr,GDs]) (by decide) rfl rfl rfl);rotate_left;(focus rfl));rfl)
theorem named42 : Ctr Tryz.prog [] 64 [sl42] [.one (.c (.sl 0 0 1 1)),.one (.c (.clo 65 [] []))] (fun os v => os = [sl42] ∧ v = vv (.bool true)) := by
  refine Ctr.less ?_
  intro X0 hP0 hG0 N0 hN0
  refine CallVC.inline (f := 64) (by rw [hP0];exact Tryz.func64) rfl Tryz.ntmps64 rfl (by simp) ?_
  intro X K hU hnt hbl hK
  have hP : X.P = Tryz.prog := hU.P.trans hP0
  have hG := hG0.under hU
  have hT := Ty.T64 hP
  simp only [GA,↓GB,GX,simprocAttr] at hbl ⊢
  repeat' (first|(refine SX.seqK ?_;intro N hN)|((first | (refine SX.ops ?_));simp only [GA,↓GB,GX,simprocAttr,hnt,hT])|((first | refine SX.skip ?_ | refine SX.exit ?_ | refine SX.label ?_ | refine SX.ret ?_);try simp only [GA,↓GB,GX,simprocAttr])|(refine hN _ ?_;clear hN N)|((first | refine hK _ _ (FinI.ret3 ?_) | refine hK _ _ (FinI.nrm3 ?_));simp only [GA,↓GB,GX,simprocAttr,finP_s,hnt,hT];refine Done.out ?_)|(refine bif2.mk (fun hb => ?_) (fun hb => ?_) <;> (try simp only [hb,GA,↓GB,GX,simprocAttr,hnt,hT]) <;> ((first | cases hb | (simp only [HBs] at hb) | skip) <;> (first | (exfalso;omega) | skip)))|((first | (refine Ctr.use (contains42) hP ?_ [0,1] ?_ rfl rfl ?_;(focus (intro p hp;cases hp));(focus (refine LeR.of rfl trivial ?_ ?_ ?_ ?_ ?_ <;> first | decide | (simp only [GA,↓GB,GX,simprocAttr,GDs];done)));intro os' s hR;obtain ⟨rfl,rfl⟩ := hR));simp only [GA,↓GB,GX,simprocAttr,hnt,hT])|(refine and_mk ?_ ?_;(focus first | decide | omega | rfl | assumption | (simp only [LBs];omega) | (simp;done)))|(refine And.intro ?_ ?_))
  all_goals (try refine Done.mk ?_)
  all_goals ((refine hN0 _ _ ⟨[0],_,_,?_,?_,?_,⟨rfl,rfl⟩⟩;(focus exact LeR.of rfl trivial (by simp only [GA,↓GB,GX,simprocAttr,GDs]) (by decide) rfl rfl rfl);rotate_left;(focus rfl));rfl)
theorem wlist_nil (l : List UInt8) (num : Nat) : Ctr Tryz.prog [] 45 (bldr l) [.one (.c (.loc 0 0)),vv (.int .i64 num),nilS] (fun os r => os = bldr l ∧ r = .tup []) := by
  refine Ctr.less ?_
  intro X0 hP0 hG0 N0 hN0
  refine CallVC.inline (f := 45) (by rw [hP0];exact Tryz.func45) rfl Tryz.ntmps45 rfl (by simp) ?_
  intro X K hU hnt hbl hK
  have hP : X.P = Tryz.prog := hU.P.trans hP0
  have hG := hG0.under hU
  have hT := Ty.T45 hP
  simp only [GA,↓GB,GX,simprocAttr] at hbl ⊢
  repeat' (first|(refine SX.seqK ?_;intro N hN)|((first | (refine SX.ops ?_) | (refine SX.planT (id := 3) [.f 0,.f 1,.f 2,.q [(3,[1]),(4,[7])] none,.s 5,.s 6] ?_ ?_ ?_;(focus first | (rw [hP];kernel_rfl) | (rw [hU1P,hP];kernel_rfl));(focus kernel_rfl)));simp only [GA,↓GB,GX,simprocAttr,hnt,hT])|((first | refine SX.skip ?_ | refine SX.exit ?_ | refine SX.label ?_ | refine SX.ret ?_);try simp only [GA,↓GB,GX,simprocAttr])|(refine hN _ ?_;clear hN N)|((first | refine hK _ _ (FinI.ret3 ?_) | refine hK _ _ (FinI.nrm3 ?_));simp only [GA,↓GB,GX,simprocAttr,finP_s,hnt,hT];refine Done.out ?_)|(clear hN N;first | (refine hN _ ?_;clear hN N) | (clear hN N;refine hN _ ?_;clear hN N))|((first | refine SX.cond rfl (fun hb => ?_) (fun hb => ?_) | (refine bif2.mk (fun hb => ?_) (fun hb => ?_) <;> (try simp only [hb,GA,↓GB,GX,simprocAttr,hnt,hT]))) <;> ((first | cases hb | (simp only [HBs] at hb) | skip) <;> (first | (exfalso;omega) | skip)))|(refine SX.loopN 1 ?_)|(refine SXr.stepK ?_;intro N hN)|(refine SX.block ?_)|(refine and_mk ?_ ?_;(focus first | decide | omega | rfl | assumption | (simp only [LBs];omega) | (simp;done)))|(refine And.intro ?_ ?_))
  all_goals (try refine Done.mk ?_)
  all_goals ((refine hN0 _ _ ⟨[0,1],_,_,?_,?_,?_,⟨rfl,rfl⟩⟩;(focus exact LeR.of rfl trivial (by simp only [GA,↓GB,GX,simprocAttr,GDs]) (by decide) rfl rfl rfl);rotate_left;(focus rfl));rfl)
theorem indexNilStar : Ctr Tryz.prog [] 106 [.cells [.clo 65 [] []] 135] [nilS,.one (.c (.clo 93 [] [.loc 0 0]))] (fun os v => os = [.cells [.clo 65 [] []] 135] ∧ v = vv (.int .i64 (-1))) := by
  refine Ctr.less ?_
  intro X0 hP0 hG0 N0 hN0
  refine CallVC.inline (f := 106) (by rw [hP0];exact Tryz.func106) rfl Tryz.ntmps106 rfl (by simp) ?_
  intro X K hU hnt hbl hK
  have hP : X.P = Tryz.prog := hU.P.trans hP0
  have hG := hG0.under hU
  have hT := Ty.T106 hP
  simp only [GA,↓GB,GX,simprocAttr] at hbl ⊢
  repeat' (first|(refine SX.seqK ?_;intro N hN)|((first | (refine SX.ops ?_));simp only [GA,↓GB,GX,simprocAttr,hnt,hT])|((first | refine SX.skip ?_ | refine SX.exit ?_ | refine SX.label ?_ | refine SX.ret ?_);try simp only [GA,↓GB,GX,simprocAttr])|(refine hN _ ?_;clear hN N)|((first | refine hK _ _ (FinI.ret3 ?_) | refine hK _ _ (FinI.nrm3 ?_));simp only [GA,↓GB,GX,simprocAttr,finP_s,hnt,hT];refine Done.out ?_)|(clear hN N;first | (refine hN _ ?_;clear hN N) | (clear hN N;refine hN _ ?_;clear hN N))|((first | refine SX.cond rfl (fun hb => ?_) (fun hb => ?_) | (refine bif2.mk (fun hb => ?_) (fun hb => ?_) <;> (try simp only [hb,GA,↓GB,GX,simprocAttr,hnt,hT]))) <;> ((first | cases hb | (simp only [HBs] at hb) | skip) <;> (first | (exfalso;omega) | skip)))|(refine SX.loopN 1 ?_)|(refine SXr.stepK ?_;intro N hN)|(refine SX.block ?_)|(refine and_mk ?_ ?_;(focus first | decide | omega | rfl | assumption | (simp only [LBs];omega) | (simp;done)))|(refine And.intro ?_ ?_))
  all_goals (try refine Done.mk ?_)
  all_goals ((refine hN0 _ _ ⟨[0],_,_,?_,?_,?_,⟨rfl,rfl⟩⟩;(focus exact LeR.of rfl trivial (by simp only [GA,↓GB,GX,simprocAttr,GDs]) (by decide) rfl rfl rfl);rotate_left;(focus rfl));rfl)
theorem containsNilStar : Ctr Tryz.prog [] 92 [.cells [.clo 65 [] []] 135] [nilS,.one (.c (.clo 93 [] [.loc 0 0]))] (fun os v => os = [.cells [.clo 65 [] []] 135] ∧ v = vv (.bool false)) := by
  refine Ctr.less ?_
  intro X0 hP0 hG0 N0 hN0
  refine CallVC.inline (f := 92) (by rw [hP0];exact Tryz.func92) rfl Tryz.ntmps92 rfl (by simp) ?_
  intro X K hU hnt hbl hK
  have hP : X.P = Tryz.prog := hU.P.trans hP0
  have hG := hG0.under hU
  have hT := Ty.T92 hP
  simp only [GA,↓GB,GX,simprocAttr] at hbl ⊢
  repeat' (first|(refine SX.seqK ?_;intro N hN)|((first | (refine SX.ops ?_));simp only [GA,↓GB,GX,simprocAttr,hnt,hT])|((first | refine SX.skip ?_ | refine SX.exit ?_ | refine SX.label ?_ | refine SX.ret ?_);try simp only [GA,↓GB,GX,simprocAttr])|(refine hN _ ?_;clear hN N)|((first | refine hK _ _ (FinI.ret3 ?_) | refine hK _ _ (FinI.nrm3 ?_));simp only [GA,↓GB,GX,simprocAttr,finP_s,hnt,hT];refine Done.out ?_)|(refine bif2.mk (fun hb => ?_) (fun hb => ?_) <;> (try simp only [hb,GA,↓GB,GX,simprocAttr,hnt,hT]) <;> ((first | cases hb | (simp only [HBs] at hb) | skip) <;> (first | (exfalso;omega) | skip)))|((first | (refine Ctr.use (indexNilStar) hP ?_ [0] ?_ rfl rfl ?_;(focus (intro p hp;cases hp));(focus (refine LeR.of rfl trivial ?_ ?_ ?_ ?_ ?_ <;> first | decide | (simp only [GA,↓GB,GX,simprocAttr,GDs];done)));intro os' s hR;obtain ⟨rfl,rfl⟩ := hR));simp only [GA,↓GB,GX,simprocAttr,hnt,hT])|(refine and_mk ?_ ?_;(focus first | decide | omega | rfl | assumption | (simp only [LBs];omega) | (simp;done)))|(refine And.intro ?_ ?_))
  all_goals (try refine Done.mk ?_)
  all_goals ((refine hN0 _ _ ⟨[0],_,_,?_,?_,?_,⟨rfl,rfl⟩⟩;(focus exact LeR.of rfl trivial (by simp only [GA,↓GB,GX,simprocAttr,GDs]) (by decide) rfl rfl rfl);rotate_left;(focus rfl));rfl)
theorem namedNilStar : Ctr Tryz.prog [] 64 [] [nilS,.one (.c (.clo 65 [] []))] (fun os v => os = [] ∧ v = vv (.bool true)) := by
  refine Ctr.less ?_
  intro X0 hP0 hG0 N0 hN0
  refine CallVC.inline (f := 64) (by rw [hP0];exact Tryz.func64) rfl Tryz.ntmps64 rfl (by simp) ?_
  intro X K hU hnt hbl hK
  have hP : X.P = Tryz.prog := hU.P.trans hP0
  have hG := hG0.under hU
  have hT := Ty.T64 hP
  simp only [GA,↓GB,GX,simprocAttr] at hbl ⊢
  repeat' (first|(refine SX.seqK ?_;intro N hN)|((first | (refine SX.ops ?_));simp only [GA,↓GB,GX,simprocAttr,hnt,hT])|((first | refine SX.skip ?_ | refine SX.exit ?_ | refine SX.label ?_ | refine SX.ret ?_);try simp only [GA,↓GB,GX,simprocAttr])|(refine hN _ ?_;clear hN N)|((first | refine hK _ _ (FinI.ret3 ?_) | refine hK _ _ (FinI.nrm3 ?_));simp only [GA,↓GB,GX,simprocAttr,finP_s,hnt,hT];refine Done.out ?_)|(refine bif2.mk (fun hb => ?_) (fun hb => ?_) <;> (try simp only [hb,GA,↓GB,GX,simprocAttr,hnt,hT]) <;> ((first | cases hb | (simp only [HBs] at hb) | skip) <;> (first | (exfalso;omega) | skip)))|((first | (refine Ctr.use (containsNilStar) hP ?_ [0] ?_ rfl rfl ?_;(focus (intro p hp;cases hp));(focus (refine LeR.of rfl trivial ?_ ?_ ?_ ?_ ?_ <;> first | decide | (simp only [GA,↓GB,GX,simprocAttr,GDs];done)));intro os' s hR;obtain ⟨rfl,rfl⟩ := hR));simp only [GA,↓GB,GX,simprocAttr,hnt,hT])|(refine and_mk ?_ ?_;(focus first | decide | omega | rfl | assumption | (simp only [LBs];omega) | (simp;done)))|(refine And.intro ?_ ?_))
  all_goals (try refine Done.mk ?_)
  all_goals ((refine hN0 _ _ ⟨[],_,_,?_,?_,?_,⟨rfl,rfl⟩⟩;(focus exact LeR.of rfl trivial (by simp only [GA,↓GB,GX,simprocAttr,GDs]) (by decide) rfl rfl rfl);rotate_left;(focus rfl));rfl)
theorem rightReqEx : Ctr Tryz.prog [] 17 [sl42] [.one (.agg [.v (.int .i64 1),.v (.bool false),.v (.int .u64 0),.sl 0 0 1 1,.v (.slice none 0 0),.v (.slice none 0 0),.v (.string (B []))])] (fun os v => os = [sl42] ∧ v = vv (.bool true)) := by
  have n3 := namedName [] (by decide) (by simp)
  refine Ctr.less ?_
  intro X0 hP0 hG0 N0 hN0
  refine CallVC.inline (f := 17) (by rw [hP0];exact Tryz.func17) rfl Tryz.ntmps17 rfl (by simp) ?_
  intro X K hU hnt hbl hK
  have hP : X.P = Tryz.prog := hU.P.trans hP0
  have hG := hG0.under hU
  have hT := Ty.T17 hP
  simp only [GA,↓GB,GX,simprocAttr] at hbl ⊢
  repeat' (first|(refine SX.seqK ?_;intro N hN)|((first | (refine SX.ops ?_));simp only [GA,↓GB,GX,simprocAttr,hnt,hT])|((first | refine SX.skip ?_ | refine SX.exit ?_ | refine SX.label ?_ | refine SX.ret ?_);try simp only [GA,↓GB,GX,simprocAttr])|(refine hN _ ?_;clear hN N)|((first | refine hK _ _ (FinI.ret3 ?_) | refine hK _ _ (FinI.nrm3 ?_));simp only [GA,↓GB,GX,simprocAttr,finP_s,hnt,hT];refine Done.out ?_)|(clear hN N;first | (refine hN _ ?_;clear hN N) | (clear hN N;refine hN _ ?_;clear hN N))|((first | refine SX.cond rfl (fun hb => ?_) (fun hb => ?_) | (refine bif2.mk (fun hb => ?_) (fun hb => ?_) <;> (try simp only [hb,GA,↓GB,GX,simprocAttr,hnt,hT]))) <;> ((first | cases hb | (simp only [HBs] at hb) | skip) <;> (first | (exfalso;omega) | skip)))|((first | (refine CallVC.pv hP (typed_any 1) rfl ?_) | (refine CallQ.pv hP (typed_any 1) rfl ?_) | (refine Ctr.use (named42) hP ?_ [0] ?_ rfl rfl ?_;(focus (intro p hp;cases hp));(focus (refine LeR.of rfl trivial ?_ ?_ ?_ ?_ ?_ <;> first | decide | (simp only [GA,↓GB,GX,simprocAttr,GDs];done)));intro os' s hR;obtain ⟨rfl,rfl⟩ := hR) | (refine Ctr.use (namedNilStar) hP ?_ [] ?_ rfl rfl ?_;(focus (intro p hp;cases hp));(focus (refine LeR.of rfl trivial ?_ ?_ ?_ ?_ ?_ <;> first | decide | (simp only [GA,↓GB,GX,simprocAttr,GDs];done)));intro os' s hR;obtain ⟨rfl,rfl⟩ := hR) | (refine Ctr.use (n3) hP ?_ [2] ?_ rfl rfl ?_;(focus (intro p hp;cases hp));(focus (refine LeR.of rfl trivial ?_ ?_ ?_ ?_ ?_ <;> first | decide | (simp only [GA,↓GB,GX,simprocAttr,GDs];done)));intro os' s hR;obtain ⟨rfl,rfl⟩ := hR));simp only [GA,↓GB,GX,simprocAttr,hnt,hT])|(refine SX.loopN 1 ?_)|(refine SXr.stepK ?_;intro N hN)|(refine SX.block ?_)|(refine and_mk ?_ ?_;(focus first | decide | omega | rfl | assumption | (simp only [LBs];omega) | (simp;done)))|(refine And.intro ?_ ?_))
  all_goals (try refine Done.mk ?_)
  all_goals ((refine hN0 _ _ ⟨[0],_,_,?_,?_,?_,⟨rfl,rfl⟩⟩;(focus exact LeR.of rfl trivial (by simp only [GA,↓GB,GX,simprocAttr,GDs]) (by decide) rfl rfl rfl);rotate_left;(focus rfl));rfl)
theorem rightReqZero : Ctr Tryz.prog [] 17 [] [.one (.agg [.v (.int .i64 0),.v (.bool false),.v (.int .u64 0),.v (.slice none 0 0),.v (.slice none 0 0),.v (.slice none 0 0),.v (.string (B []))])] (fun os v => os = [] ∧ v = vv (.bool false)) := by
  refine Ctr.less ?_
  intro X0 hP0 hG0 N0 hN0
  refine CallVC.inline (f := 17) (by rw [hP0];exact Tryz.func17) rfl Tryz.ntmps17 rfl (by simp) ?_
  intro X K hU hnt hbl hK
  have hP : X.P = Tryz.prog := hU.P.trans hP0
  have hG := hG0.under hU
  have hT := Ty.T17 hP
  simp only [GA,↓GB,GX,simprocAttr] at hbl ⊢
  repeat' (first|(refine SX.seqK ?_;intro N hN)|((first | (refine SX.ops ?_));simp only [GA,↓GB,GX,simprocAttr,hnt,hT])|((first | refine SX.skip ?_ | refine SX.exit ?_ | refine SX.label ?_ | refine SX.ret ?_);try simp only [GA,↓GB,GX,simprocAttr])|(refine hN _ ?_;clear hN N)|((first | refine hK _ _ (FinI.ret3 ?_) | refine hK _ _ (FinI.nrm3 ?_));simp only [GA,↓GB,GX,simprocAttr,finP_s,hnt,hT];refine Done.out ?_)|(clear hN N;first | (refine hN _ ?_;clear hN N) | (clear hN N;refine hN _ ?_;clear hN N))|((first | refine SX.cond rfl (fun hb => ?_) (fun hb => ?_) | (refine bif2.mk (fun hb => ?_) (fun hb => ?_) <;> (try simp only [hb,GA,↓GB,GX,simprocAttr,hnt,hT]))) <;> ((first | cases hb | (simp only [HBs] at hb) | skip) <;> (first | (exfalso;omega) | skip)))|((first | (refine CallVC.pv hP (typed_any 0) rfl ?_) | (refine CallQ.pv hP (typed_any 0) rfl ?_));simp only [GA,↓GB,GX,simprocAttr,hnt,hT])|(refine SX.loopN 1 ?_)|(refine SXr.stepK ?_;intro N hN)|(refine SX.block ?_)|(refine and_mk ?_ ?_;(focus first | decide | omega | rfl | assumption | (simp only [LBs];omega) | (simp;done)))|(refine And.intro ?_ ?_))
  all_goals (try refine Done.mk ?_)
  all_goals ((refine hN0 _ _ ⟨[],_,_,?_,?_,?_,⟨rfl,rfl⟩⟩;(focus exact LeR.of rfl trivial (by simp only [GA,↓GB,GX,simprocAttr,GDs]) (by decide) rfl rfl rfl);rotate_left;(focus rfl));rfl)
theorem putReqZero : Ctr Tryz.prog [] 10 [] [.one (.agg [.v (.int .i64 0),.v (.bool false),.v (.int .u64 0),.v (.slice none 0 0),.v (.slice none 0 0),.v (.slice none 0 0),.v (.string (B []))])] (fun os v => os = [] ∧ v = .tup [.c (.v (.string (B []))),.c (.v (.bool false))]) := by
  refine Ctr.less ?_
  intro X0 hP0 hG0 N0 hN0
  refine CallVC.inline (f := 10) (by rw [hP0];exact Tryz.func10) rfl Tryz.ntmps10 rfl (by simp) ?_
  intro X K hU hnt hbl hK
  have hP : X.P = Tryz.prog := hU.P.trans hP0
  have hG := hG0.under hU
  have hT := Ty.T10 hP
  simp only [GA,↓GB,GX,simprocAttr] at hbl ⊢
  repeat' (first|(refine SX.seqK ?_;intro N hN)|((first | (refine SX.ops ?_));simp only [GA,↓GB,GX,simprocAttr,hnt,hT])|((first | refine SX.skip ?_ | refine SX.exit ?_ | refine SX.label ?_ | refine SX.ret ?_);try simp only [GA,↓GB,GX,simprocAttr])|(refine hN _ ?_;clear hN N)|((first | refine hK _ _ (FinI.ret3 ?_) | refine hK _ _ (FinI.nrm3 ?_));simp only [GA,↓GB,GX,simprocAttr,finP_s,hnt,hT];refine Done.out ?_)|(clear hN N;first | (refine hN _ ?_;clear hN N) | (clear hN N;refine hN _ ?_;clear hN N))|((first | refine SX.cond rfl (fun hb => ?_) (fun hb => ?_) | (refine bif2.mk (fun hb => ?_) (fun hb => ?_) <;> (try simp only [hb,GA,↓GB,GX,simprocAttr,hnt,hT]))) <;> ((first | cases hb | (simp only [HBs] at hb) | skip) <;> (first | (exfalso;omega) | skip)))|((first | (refine Ctr.use (rightReqZero) hP ?_ [] ?_ rfl rfl ?_;(focus (intro p hp;cases hp));(focus (refine LeR.of rfl trivial ?_ ?_ ?_ ?_ ?_ <;> first | decide | (simp only [GA,↓GB,GX,simprocAttr,GDs];done)));intro os' s hR;obtain ⟨rfl,rfl⟩ := hR));simp only [GA,↓GB,GX,simprocAttr,hnt,hT])|(refine SX.block ?_)|(refine and_mk ?_ ?_;(focus first | decide | omega | rfl | assumption | (simp only [LBs];omega) | (simp;done)))|(refine And.intro ?_ ?_))
  all_goals (try refine Done.mk ?_)
  all_goals ((refine hN0 _ _ ⟨[],_,_,?_,?_,?_,⟨rfl,rfl⟩⟩;(focus exact LeR.of rfl trivial (by simp only [GA,↓GB,GX,simprocAttr,GDs]) (by decide) rfl rfl rfl);rotate_left;(focus rfl));rfl)
theorem numB11 : numB 1 1 = [8,1] := by simp [numB,NW.varint_lt]
theorem textB4 : textB 4 [42] = [34,1,42] := by simp [textB,NW.varint_lt]
theorem wnumberZero (l : List UInt8) (num : Nat) : Ctr Tryz.prog [] 43 (bldr l) [.one (.c (.loc 0 0)),vv (.int .i64 num),vv (.int .u64 0)] (fun os r => os = bldr l ∧ r = .tup []) := by
  refine Ctr.less ?_
  intro X0 hP0 hG0 N0 hN0
  refine CallVC.inline (f := 43) (by rw [hP0];exact Tryz.func43) rfl Tryz.ntmps43 rfl (by simp) ?_
  intro X K hU hnt hbl hK
  have hP : X.P = Tryz.prog := hU.P.trans hP0
  have hG := hG0.under hU
  have hT := Ty.T43 hP
  simp only [GA,↓GB,GX,simprocAttr] at hbl ⊢
  repeat' (first|(refine SX.seqK ?_;intro N hN)|((first | (refine SX.ops ?_) | (refine SX.planT (id := 1) [.f 0,.f 1,.f 2,.q [(3,[1]),(4,[2])] none,.s 5,.s 6] ?_ ?_ ?_;(focus first | (rw [hP];kernel_rfl) | (rw [hU1P,hP];kernel_rfl));(focus kernel_rfl)));simp only [GA,↓GB,GX,simprocAttr,hnt,hT])|((first | refine SX.skip ?_ | refine SX.exit ?_ | refine SX.label ?_ | refine SX.ret ?_);try simp only [GA,↓GB,GX,simprocAttr])|(refine hN _ ?_;clear hN N)|((first | refine hK _ _ (FinI.ret3 ?_) | refine hK _ _ (FinI.nrm3 ?_));simp only [GA,↓GB,GX,simprocAttr,finP_s,hnt,hT];refine Done.out ?_)|((first | refine SX.cond rfl (fun hb => ?_) (fun hb => ?_) | (refine bif2.mk (fun hb => ?_) (fun hb => ?_) <;> (try simp only [hb,GA,↓GB,GX,simprocAttr,hnt,hT]))) <;> ((first | cases hb | (simp only [HBs] at hb) | skip) <;> (first | (exfalso;omega) | skip)))|(refine and_mk ?_ ?_;(focus first | decide | omega | rfl | assumption | (simp only [LBs];omega) | (simp;done)))|(refine And.intro ?_ ?_))
  all_goals (try refine Done.mk ?_)
  all_goals ((refine hN0 _ _ ⟨[0,1],_,_,?_,?_,?_,⟨rfl,rfl⟩⟩;(focus exact LeR.of rfl trivial (by simp only [GA,↓GB,GX,simprocAttr,GDs]) (by decide) rfl rfl rfl);rotate_left;(focus rfl));rfl)
theorem putReqEx : Ctr Tryz.prog [] 10 [sl42] [.one (.agg [.v (.int .i64 1),.v (.bool false),.v (.int .u64 0),.sl 0 0 1 1,.v (.slice none 0 0),.v (.slice none 0 0),.v (.string (B []))])] (fun os v => os = [sl42] ∧ v = .tup [.c (.v (.string (B [1,8,1,34,1,42]))),.c (.v (.bool true))]) := by
  have e1 : IntKind.u64.wrap (1 : Int) = 1 := by decide
  have a1 := wnumber_ctr [1] 1 1 (by decide) (by decide) (by decide) (by decide) (by decide)
  rw [numB11] at a1
  have a2 := wlist1_ctr [1,8,1] [42] 4 (by decide) (by decide) (by decide) (by decide)
  rw [textB4] at a2
  refine Ctr.less ?_
  intro X0 hP0 hG0 N0 hN0
  refine CallVC.inline (f := 10) (by rw [hP0];exact Tryz.func10) rfl Tryz.ntmps10 rfl (by simp) ?_
  intro X K hU hnt hbl hK
  have hP : X.P = Tryz.prog := hU.P.trans hP0
  have hG := hG0.under hU
  have hT := Ty.T10 hP
  simp only [GA,↓GB,GX,simprocAttr] at hbl ⊢
  repeat' (first|(refine SX.seqK ?_;intro N hN)|((first | (refine SX.ops ?_));simp only [GA,↓GB,GX,simprocAttr,hnt,hT,e1])|((first | refine SX.skip ?_ | refine SX.exit ?_ | refine SX.label ?_ | refine SX.ret ?_);try simp only [GA,↓GB,GX,simprocAttr])|(refine hN _ ?_;clear hN N)|((first | refine hK _ _ (FinI.ret3 ?_) | refine hK _ _ (FinI.nrm3 ?_));simp only [GA,↓GB,GX,simprocAttr,finP_s,hnt,hT,e1];refine Done.out ?_)|(clear hN N;first | (refine hN _ ?_;clear hN N) | (clear hN N;refine hN _ ?_;clear hN N))|((first | refine SX.cond rfl (fun hb => ?_) (fun hb => ?_) | (refine bif2.mk (fun hb => ?_) (fun hb => ?_) <;> (try simp only [hb,GA,↓GB,GX,simprocAttr,hnt,hT,e1]))) <;> ((first | cases hb | (simp only [HBs] at hb) | skip) <;> (first | (exfalso;omega) | skip)))|((first | (refine Ctr.use (rightReqEx) hP ?_ [0] ?_ rfl rfl ?_;(focus (intro p hp;cases hp));(focus (refine LeR.of rfl trivial ?_ ?_ ?_ ?_ ?_ <;> first | decide | (simp only [GA,↓GB,GX,simprocAttr,GDs];done)));intro os' s hR;obtain ⟨rfl,rfl⟩ := hR) | (refine Ctr.use (writeByte_ctr 1) hP ?_ [2] ?_ rfl rfl ?_;(focus (intro p hp;cases hp));(focus (refine LeR.of rfl trivial ?_ ?_ ?_ ?_ ?_ <;> first | decide | (simp only [GA,↓GB,GX,simprocAttr,GDs];done)));intro os' s hR;obtain ⟨rfl,rfl⟩ := hR) | (refine Ctr.use (a1) hP ?_ [2,5] ?_ rfl rfl ?_;(focus (intro p hp;cases hp));(focus (refine LeR.of rfl trivial ?_ ?_ ?_ ?_ ?_ <;> first | decide | (simp only [GA,↓GB,GX,simprocAttr,GDs];done)));intro os' s hR;obtain ⟨rfl,rfl⟩ := hR) | (refine Ctr.use (wflag_no [1,8,1] 2) hP ?_ [2,6] ?_ rfl rfl ?_;(focus (intro p hp;cases hp));(focus (refine LeR.of rfl trivial ?_ ?_ ?_ ?_ ?_ <;> first | decide | (simp only [GA,↓GB,GX,simprocAttr,GDs];done)));intro os' s hR;obtain ⟨rfl,rfl⟩ := hR) | (refine Ctr.use (wnumberZero [1,8,1] 3) hP ?_ [2,6] ?_ rfl rfl ?_;(focus (intro p hp;cases hp));(focus (refine LeR.of rfl trivial ?_ ?_ ?_ ?_ ?_ <;> first | decide | (simp only [GA,↓GB,GX,simprocAttr,GDs];done)));intro os' s hR;obtain ⟨rfl,rfl⟩ := hR) | (refine Ctr.use (a2) hP ?_ [2,6,0] ?_ rfl rfl ?_;(focus (intro p hp;cases hp));(focus (refine LeR.of rfl trivial ?_ ?_ ?_ ?_ ?_ <;> first | decide | (simp only [GA,↓GB,GX,simprocAttr,GDs];done)));intro os' s hR;obtain ⟨rfl,rfl⟩ := hR) | (refine Ctr.use (wlist_nil [1,8,1,34,1,42] 5) hP ?_ [2,7] ?_ rfl rfl ?_;(focus (intro p hp;cases hp));(focus (refine LeR.of rfl trivial ?_ ?_ ?_ ?_ ?_ <;> first | decide | (simp only [GA,↓GB,GX,simprocAttr,GDs];done)));intro os' s hR;obtain ⟨rfl,rfl⟩ := hR) | (refine Ctr.use (string_ctr [1,8,1,34,1,42] (by decide) (by decide)) hP ?_ [2,7] ?_ rfl rfl ?_;(focus (intro p hp;cases hp));(focus (refine LeR.of rfl trivial ?_ ?_ ?_ ?_ ?_ <;> first | decide | (simp only [GA,↓GB,GX,simprocAttr,GDs];done)));intro os' s hR;obtain ⟨rfl,rfl⟩ := hR));simp only [GA,↓GB,GX,simprocAttr,hnt,hT,e1])|(refine SX.loopN 1 ?_)|(refine SXr.stepK ?_;intro N hN)|(refine SX.block ?_)|(refine and_mk ?_ ?_;(focus first | decide | omega | rfl | assumption | (simp only [LBs];omega) | (simp;done)))|(refine And.intro ?_ ?_))
  all_goals (try refine Done.mk ?_)
  all_goals ((refine hN0 _ _ ⟨[0],_,_,?_,?_,?_,⟨rfl,rfl⟩⟩;(focus exact LeR.of rfl trivial (by simp only [GA,↓GB,GX,simprocAttr,GDs]) (by decide) rfl rfl rfl);rotate_left;(focus rfl));rfl)
theorem ex_parse : NW.parse [8,1,34,1,42] = some [⟨1,0,1,[]⟩,⟨4,2,0,[42]⟩] := by
  have h1 : (⟨1,0,1,[]⟩ : NW.Fld).Ok := ⟨by decide,by decide,.inl ⟨rfl,rfl,by decide⟩⟩
  have h2 : (⟨4,2,0,[42]⟩ : NW.Fld).Ok := ⟨by decide,by decide,.inr (.inr (.inl ⟨rfl,by decide,rfl⟩))⟩
  have := NW.parse_encs' [⟨1,0,1,[]⟩,⟨4,2,0,[42]⟩] (by intro f hf;simp at hf;rcases hf with rfl | rfl;exact h1;exact h2)
  have e : NW.encs [⟨1,0,1,[]⟩,⟨4,2,0,[42]⟩] = [8,1,34,1,42] := by simp [NW.encs,NW.Fld.enc,NW.varint_lt]
  rwa [e] at this
theorem ex_req : reqR [1,8,1,34,1,42] = some ⟨1,0,0,[[42]],[],[],[]⟩ := by
  have h : takeXB stepQ [8,1,34,1,42] .zero = (⟨1,0,0,[[42]],[],[],[]⟩,true) := by
    rw [takeXB,ex_parse];rfl
  have hk : kindL [1,8,1,34,1,42] = 1 := rfl
  unfold reqR
  rw [if_pos hk,show ([1,8,1,34,1,42] : List UInt8).drop 1 = [8,1,34,1,42] from rfl,h]
  exact if_pos ⟨rfl,rfl⟩
def pingB (n : Nat) : List UInt8 := 3 :: (if n = 0 then [] else numB 1 n)
theorem ping_ctr (n : Nat) (hn : n < 18446744073709551616) : Ctr Tryz.prog [] 29 [] [vv (.int .u64 n)] (fun os v => os = [] ∧ v = vv (.string (B (pingB n)))) := by
  refine Ctr.less ?_
  by_cases h0 : n = 0
  · subst h0
    rw [show pingB 0 = [3] from rfl]
    intro X0 hP0 hG0 N0 hN0
    refine CallVC.inline (f := 29) (by rw [hP0];exact Tryz.func29) rfl Tryz.ntmps29 rfl (by simp) ?_
    intro X K hU hnt hbl hK
    have hP : X.P = Tryz.prog := hU.P.trans hP0
    have hG := hG0.under hU
    have hT := Ty.T29 hP
    simp only [GA,↓GB,GX,simprocAttr] at hbl ⊢
    repeat' (first|(refine SX.seqK ?_;intro N hN)|((first | (refine SX.ops ?_));simp only [GA,↓GB,GX,simprocAttr,hnt,hT])|((first | refine SX.skip ?_ | refine SX.exit ?_ | refine SX.label ?_ | refine SX.ret ?_);try simp only [GA,↓GB,GX,simprocAttr])|(refine hN _ ?_;clear hN N)|((first | refine hK _ _ (FinI.ret3 ?_) | refine hK _ _ (FinI.nrm3 ?_));simp only [GA,↓GB,GX,simprocAttr,finP_s,hnt,hT];refine Done.out ?_)|(refine bif2.mk (fun hb => ?_) (fun hb => ?_) <;> (try simp only [hb,GA,↓GB,GX,simprocAttr,hnt,hT]) <;> ((first | cases hb | (simp only [HBs] at hb) | skip) <;> (first | (exfalso;omega) | skip)))|((first | (refine Ctr.use (writeByte_ctr 3) hP ?_ [0] ?_ rfl rfl ?_;(focus (intro p hp;cases hp));(focus (refine LeR.of rfl trivial ?_ ?_ ?_ ?_ ?_ <;> first | decide | (simp only [GA,↓GB,GX,simprocAttr,GDs];done)));intro os' s hR;obtain ⟨rfl,rfl⟩ := hR) | (refine Ctr.use (wnumberZero [3] 1) hP ?_ [0,3] ?_ rfl rfl ?_;(focus (intro p hp;cases hp));(focus (refine LeR.of rfl trivial ?_ ?_ ?_ ?_ ?_ <;> first | decide | (simp only [GA,↓GB,GX,simprocAttr,GDs];done)));intro os' s hR;obtain ⟨rfl,rfl⟩ := hR) | (refine Ctr.use (string_ctr [3] (by decide) (by decide)) hP ?_ [0,3] ?_ rfl rfl ?_;(focus (intro p hp;cases hp));(focus (refine LeR.of rfl trivial ?_ ?_ ?_ ?_ ?_ <;> first | decide | (simp only [GA,↓GB,GX,simprocAttr,GDs];done)));intro os' s hR;obtain ⟨rfl,rfl⟩ := hR));simp only [GA,↓GB,GX,simprocAttr,hnt,hT])|(refine and_mk ?_ ?_;(focus first | decide | omega | rfl | assumption | (simp only [LBs];omega) | (simp;done)))|(refine And.intro ?_ ?_))
    all_goals (try refine Done.mk ?_)
    all_goals ((refine hN0 _ _ ⟨[],_,_,?_,?_,?_,⟨rfl,rfl⟩⟩;(focus exact LeR.of rfl trivial (by simp only [GA,↓GB,GX,simprocAttr,GDs]) (by decide) rfl rfl rfl);rotate_left;(focus rfl));rfl)
  · have hB : pingB n = [3] ++ numB 1 n := by rw [pingB,if_neg h0];rfl
    have hL := numB_len 1 n (by decide) hn
    rw [hB]
    intro X0 hP0 hG0 N0 hN0
    refine CallVC.inline (f := 29) (by rw [hP0];exact Tryz.func29) rfl Tryz.ntmps29 rfl (by simp) ?_
    intro X K hU hnt hbl hK
    have hP : X.P = Tryz.prog := hU.P.trans hP0
    have hG := hG0.under hU
    have hT := Ty.T29 hP
    simp only [GA,↓GB,GX,simprocAttr] at hbl ⊢
    repeat' (first|(refine SX.seqK ?_;intro N hN)|((first | (refine SX.ops ?_));simp only [GA,↓GB,GX,simprocAttr,hnt,hT])|((first | refine SX.skip ?_ | refine SX.exit ?_ | refine SX.label ?_ | refine SX.ret ?_);try simp only [GA,↓GB,GX,simprocAttr])|(refine hN _ ?_;clear hN N)|((first | refine hK _ _ (FinI.ret3 ?_) | refine hK _ _ (FinI.nrm3 ?_));simp only [GA,↓GB,GX,simprocAttr,finP_s,hnt,hT];refine Done.out ?_)|(refine bif2.mk (fun hb => ?_) (fun hb => ?_) <;> (try simp only [hb,GA,↓GB,GX,simprocAttr,hnt,hT]) <;> ((first | cases hb | (simp only [HBs] at hb) | skip) <;> (first | (exfalso;omega) | skip)))|((first | (refine Ctr.use (writeByte_ctr 3) hP ?_ [0] ?_ rfl rfl ?_;(focus (intro p hp;cases hp));(focus (refine LeR.of rfl trivial ?_ ?_ ?_ ?_ ?_ <;> first | decide | (simp only [GA,↓GB,GX,simprocAttr,GDs];done)));intro os' s hR;obtain ⟨rfl,rfl⟩ := hR) | (refine Ctr.use (wnumber_ctr [3] 1 n (by decide) (by decide) (by omega) hn (by decide)) hP ?_ [0,3] ?_ rfl rfl ?_;(focus (intro p hp;cases hp));(focus (refine LeR.of rfl trivial ?_ ?_ ?_ ?_ ?_ <;> first | decide | (simp only [GA,↓GB,GX,simprocAttr,GDs];done)));intro os' s hR;obtain ⟨rfl,rfl⟩ := hR) | (refine Ctr.use (string_ctr ([3] ++ numB 1 n) (by simp) (by simp;omega)) hP ?_ [0,4] ?_ rfl rfl ?_;(focus (intro p hp;cases hp));(focus (refine LeR.of rfl trivial ?_ ?_ ?_ ?_ ?_ <;> first | decide | (simp only [GA,↓GB,GX,simprocAttr,GDs];done)));intro os' s hR;obtain ⟨rfl,rfl⟩ := hR));simp only [GA,↓GB,GX,simprocAttr,hnt,hT])|(refine and_mk ?_ ?_;(focus first | decide | omega | rfl | assumption | (simp only [LBs];omega) | (simp;done)))|(refine And.intro ?_ ?_))
    all_goals (try refine Done.mk ?_)
    all_goals ((refine hN0 _ _ ⟨[],_,_,?_,?_,?_,⟨rfl,rfl⟩⟩;(focus exact LeR.of rfl trivial (by simp only [GA,↓GB,GX,simprocAttr,GDs]) (by decide) rfl rfl rfl);rotate_left;(focus rfl));rfl)
theorem numB15 : numB 1 5 = [8,5] := by simp [numB,NW.varint_lt]
theorem ping5 : pingB 5 = [3,8,5] := by rw [pingB,if_neg (by decide),numB15]
theorem pingR5 : pingR [3,8,5] = some 5 := by
  have h1 : (⟨1,0,5,[]⟩ : NW.Fld).Ok := ⟨by decide,by decide,.inl ⟨rfl,rfl,by decide⟩⟩
  have := NW.parse_encs' [⟨1,0,5,[]⟩] (by intro f hf;simp at hf;subst hf;exact h1)
  have e : NW.encs [⟨1,0,5,[]⟩] = [8,5] := by simp [NW.encs,NW.Fld.enc,NW.varint_lt]
  rw [e] at this
  have hk : kindL [3,8,5] = 3 := rfl
  have h : takeR ([3,8,5].drop 1) 0 = (5,true) := by
    rw [show ([3,8,5] : List UInt8).drop 1 = [8,5] from rfl,takeR,this];rfl
  rw [pingR,if_pos hk,h];rfl
@[irreducible] def SB05 : List UInt8 := statusBytes 1 [97] 1 true []
theorem putStatus05 (w : World) : Calls Tryz.prog 22 #[.agg #[.int .i64 1,.string (B [97]),.int .u64 1,.bool true,.string (B [])]] w fun e w' => e = .returned (.tuple #[.string (B SB05),.bool true]) ∧ Below w.heap.size w w' := by
  have h := putStatus_any 1 [97] 1 true [] (by decide) (by decide) w
  rw [show statusB 1 [97] ((1 : Nat) : Int) true [] = true from rfl] at h
  unfold SB05
  exact h
theorem kind05 (w : World) : Calls Tryz.prog 19 #[.string (B SB05)] w fun e w' => e = .returned (.int .i64 4) ∧ Below w.heap.size w w' := by
  have h := kind_any SB05 w
  rw [show kindL SB05 = 4 by unfold SB05;rfl] at h
  exact h
theorem kind00 (w : World) : Calls Tryz.prog 19 #[.string (B [])] w fun e w' => e = .returned (.int .i64 0) ∧ Below w.heap.size w w' := kind_any [] w
theorem ex05_ctr {e : EA} (he : e.Ok) : Ctr Tryz.prog (GE e) 8 [] [] (fun os v => os = [] ∧ v = vv (.bool true)) := by
  have hg := getReq_ctr he [1,8,1,34,1,42] (by decide)
  rw [ex_req] at hg
  simp only [reqRO,reqRV] at hg
  have hp := getPing_ctr he [3,8,5] (by decide)
  rw [pingR5] at hp
  have h5 := ping_ctr 5 (by decide)
  rw [ping5] at h5
  refine Ctr.less ?_
  intro X0 hP0 hG0 N0 hN0
  refine CallVC.inline (f := 8) (by rw [hP0];exact Tryz.func8) rfl Tryz.ntmps8 rfl (by simp) ?_
  intro X K hU hnt hbl hK
  have hP : X.P = Tryz.prog := hU.P.trans hP0
  have hG := hG0.under hU
  have hT := Ty.T8 hP
  simp only [GA,↓GB,GX,simprocAttr] at hbl ⊢
  repeat' (first|(refine SX.seqK ?_;intro N hN)|((first | (refine SX.ops ?_));simp only [GA,↓GB,GX,simprocAttr,hnt,hT])|((first | refine SX.skip ?_ | refine SX.exit ?_ | refine SX.label ?_ | refine SX.ret ?_);try simp only [GA,↓GB,GX,simprocAttr])|(refine hN _ ?_;clear hN N)|((first | refine hK _ _ (FinI.ret3 ?_) | refine hK _ _ (FinI.nrm3 ?_));simp only [GA,↓GB,GX,simprocAttr,finP_s,hnt,hT];refine Done.out ?_)|(refine bif2.mk (fun hb => ?_) (fun hb => ?_) <;> (try simp only [hb,GA,↓GB,GX,simprocAttr,hnt,hT]) <;> ((first | cases hb | (simp only [HBs] at hb) | skip) <;> (first | (exfalso;omega) | skip)))|((first | (refine Ctr.use (putReqEx) hP ?_ [0] ?_ rfl rfl ?_;(focus (intro p hp;cases hp));(focus (refine LeR.of rfl trivial ?_ ?_ ?_ ?_ ?_ <;> first | decide | (simp only [GA,↓GB,GX,simprocAttr,GDs];done)));intro os' s hR;obtain ⟨rfl,rfl⟩ := hR) | (refine Ctr.use (hg) hP hG [] ?_ rfl rfl ?_;(focus (refine LeR.of rfl trivial ?_ ?_ ?_ ?_ ?_ <;> first | decide | (simp only [GA,↓GB,GX,simprocAttr,GDs];done)));intro os' s hR;obtain ⟨rfl,rfl⟩ := hR) | (refine Ctr.use (putReqZero) hP ?_ [] ?_ rfl rfl ?_;(focus (intro p hp;cases hp));(focus (refine LeR.of rfl trivial ?_ ?_ ?_ ?_ ?_ <;> first | decide | (simp only [GA,↓GB,GX,simprocAttr,GDs];done)));intro os' s hR;obtain ⟨rfl,rfl⟩ := hR) | (refine Ctr.use (hp) hP hG [] ?_ rfl rfl ?_;(focus (refine LeR.of rfl trivial ?_ ?_ ?_ ?_ ?_ <;> first | decide | (simp only [GA,↓GB,GX,simprocAttr,GDs];done)));intro os' s hR;obtain ⟨rfl,rfl⟩ := hR) | (refine Ctr.use (h5) hP ?_ [] ?_ rfl rfl ?_;(focus (intro p hp;cases hp));(focus (refine LeR.of rfl trivial ?_ ?_ ?_ ?_ ?_ <;> first | decide | (simp only [GA,↓GB,GX,simprocAttr,GDs];done)));intro os' s hR;obtain ⟨rfl,rfl⟩ := hR) | (refine CallVC.pt (l := [_,_]) hP (putStatus05) rfl ?_) | (refine CallQ.pt (l := [_,_]) hP (putStatus05) rfl ?_) | (refine CallVC.pv hP (kind05) rfl ?_) | (refine CallQ.pv hP (kind05) rfl ?_) | (refine CallVC.pv hP (kind00) rfl ?_) | (refine CallQ.pv hP (kind00) rfl ?_));simp only [GA,↓GB,GX,simprocAttr,hnt,hT])|(refine and_mk ?_ ?_;(focus first | decide | omega | rfl | assumption | (simp only [LBs];omega) | (simp;done)))|(refine And.intro ?_ ?_))
  all_goals (try refine Done.mk ?_)
  all_goals ((refine hN0 _ _ ⟨[],_,_,?_,?_,?_,⟨rfl,rfl⟩⟩;(focus exact LeR.of rfl trivial (by simp only [GA,↓GB,GX,simprocAttr,GDs]) (by decide) rfl rfl rfl);rotate_left;(focus rfl));rfl)
theorem wB8 {x : Int} (h0 : 0 ≤ x) (h1 : x < 256) : IntKind.u8.wrap x = x := by
  simp [IntKind.wrap,IntKind.bits,IntKind.signed]
  omega
def sufL (n : Nat) : List UInt8 := if n = 0 then [] else if n = 1 then [49] else [47,120]
def nameL (n : Nat) : List UInt8 := if n % 16 = 15 then [42] else UInt8.ofNat (97 + n % 12) :: sufL (n / 16 % 3)
def nmC (n : Nat) (c : UInt8) (k : Nat) (M : Nat → Bool) : Cfg :=
  ⟨[(16,bif M 10 then vv (.string (B (sufL k))) else ddd),(15,bif M 9 then .one (.c (.loc 1 k)) else ddd),(14,bif M 8 then vv (.int .u8 (k : Nat)) else ddd),(13,bif M 7 then vv (.int .u8 ((n : Int).tdiv 16)) else ddd),(12,bif M 6 then vv (.int .u8 n) else ddd),(11,bif M 5 then .one (.c (.sl 1 0 3 3)) else ddd),(10,bif M 4 then vv (.string (B [c])) else ddd),(9,bif M 3 then .one (.c (.sl 0 0 1 1)) else ddd),(8,bif M 2 then vv (.int .u8 (c.toNat : Nat)) else ddd),(7,bif M 1 then vv (.int .u8 ((n : Int).tmod 12)) else ddd),(6,bif M 0 then vv (.int .u8 n) else ddd),(5,vv (.bool false)),(4,vv (.int .u8 ((n : Int).tmod 16))),(3,vv (.int .u8 n)),(2,vv (.string (B []))),(0,vv (.int .u8 n))],
   [bif M 3 then .cells [.v (.int .u8 (c.toNat : Nat))] 5 else .gone,bif M 5 then .cells [.v (.string (B [])),.v (.string (B [49])),.v (.string (B [47,120]))] 9 else .gone]⟩
theorem name_star (n : Nat) (hn : n < 256) (h : n % 16 = 15) : Ctr Tryz.prog [] 21 [] [vv (.int .u8 n)] (fun os v => os = [] ∧ v = vv (.string (B [42]))) := by
  have h16 : ((n : Int).tmod 16 == 15) = true := by rw [Int.tmod_eq_emod_of_nonneg (by omega)];simp;omega
  refine Ctr.less ?_
  intro X0 hP0 hG0 N0 hN0
  refine CallVC.inline (f := 21) (by rw [hP0];exact Tryz.func21) rfl Tryz.ntmps21 rfl (by simp) ?_
  intro X K hU hnt hbl hK
  have hP : X.P = Tryz.prog := hU.P.trans hP0
  have hG := hG0.under hU
  have hT := Ty.T21 hP
  simp only [GA,↓GB,GX,simprocAttr] at hbl ⊢
  repeat' (first|(refine SX.seqK ?_;intro N hN)|((first | (refine SX.ops ?_));simp only [GA,↓GB,GX,simprocAttr,hnt,hT,h16])|((first | refine SX.skip ?_ | refine SX.exit ?_ | refine SX.label ?_ | refine SX.ret ?_);try simp only [GA,↓GB,GX,simprocAttr])|(refine hN _ ?_;clear hN N)|((first | refine hK _ _ (FinI.ret3 ?_) | refine hK _ _ (FinI.nrm3 ?_));simp only [GA,↓GB,GX,simprocAttr,finP_s,hnt,hT,h16];refine Done.out ?_)|((first | refine SX.cond rfl (fun hb => ?_) (fun hb => ?_) | (refine bif2.mk (fun hb => ?_) (fun hb => ?_) <;> (try simp only [hb,GA,↓GB,GX,simprocAttr,hnt,hT,h16]))) <;> ((first | cases hb | (simp only [HBs] at hb) | skip) <;> (first | (exfalso;omega) | skip)))|(refine and_mk ?_ ?_;(focus first | decide | omega | rfl | assumption | (simp only [LBs];omega) | (simp;done)))|(refine And.intro ?_ ?_))
  all_goals (try refine Done.mk ?_)
  all_goals ((refine hN0 _ _ ⟨[],_,_,?_,?_,?_,⟨rfl,rfl⟩⟩;(focus exact LeR.of rfl trivial (by simp only [GA,↓GB,GX,simprocAttr,GDs]) (by decide) rfl rfl rfl);rotate_left;(focus rfl));rfl)
theorem name_0 (n : Nat) (hn : n < 256) (h : ¬ n % 16 = 15) (h3 : n / 16 % 3 = 0) : Ctr Tryz.prog [] 21 [] [vv (.int .u8 n)] (fun os v => os = [] ∧ v = vv (.string (B (UInt8.ofNat (97 + n % 12) :: sufL 0)))) := by
  have h16 : ((n : Int).tmod 16 == 15) = false := by rw [Int.tmod_eq_emod_of_nonneg (by omega)];simp;omega
  obtain ⟨c,hcc⟩ : ∃ c,UInt8.ofNat (97 + n % 12) = c := ⟨_,rfl⟩
  have hc : IntKind.u8.wrap (97 + (n : Int).tmod 12) = (c.toNat : Int) := by
    rw [← hcc,Int.tmod_eq_emod_of_nonneg (by omega),UInt8.toNat_ofNat',wB8 (by omega) (by omega)]
    omega
  have hd16 : IntKind.u8.wrap ((n : Int).tdiv 16) = (n : Int).tdiv 16 := by
    exact wB8 (by rw [Int.tdiv_eq_ediv_of_nonneg (by omega)];omega) (by rw [Int.tdiv_eq_ediv_of_nonneg (by omega)];omega)
  have hk : ((n : Int).tdiv 16).tmod 3 = 0 := by
    rw [Int.tdiv_eq_ediv_of_nonneg (by omega),Int.tmod_eq_emod_of_nonneg (by omega)]
    omega
  rw [hcc]
  refine Ctr.less ?_
  intro X0 hP0 hG0 N0 hN0
  refine CallVC.inline (f := 21) (by rw [hP0];exact Tryz.func21) rfl Tryz.ntmps21 rfl (by simp) ?_
  intro X K hU hnt hbl hK
  have hP : X.P = Tryz.prog := hU.P.trans hP0
  have hG := hG0.under hU
  have hT := Ty.T21 hP
  simp only [GA,↓GB,GX,simprocAttr] at hbl ⊢
  repeat' (first|(refine SX.seqK ?_;intro N hN)|((first | (refine SX.ops ?_));simp only [GA,↓GB,GX,simprocAttr,hnt,hT,h16,hc,hk,hd16])|((first | refine SX.skip ?_ | refine SX.exit ?_ | refine SX.label ?_ | refine SX.ret ?_);try simp only [GA,↓GB,GX,simprocAttr])|(refine hN _ ?_;clear hN N)|((first | refine hK _ _ (FinI.ret3 ?_) | refine hK _ _ (FinI.nrm3 ?_));simp only [GA,↓GB,GX,simprocAttr,finP_s,hnt,hT,h16,hc,hk,hd16];refine Done.out ?_)|((first | refine SX.cond rfl (fun hb => ?_) (fun hb => ?_) | (refine bif2.mk (fun hb => ?_) (fun hb => ?_) <;> (try simp only [hb,GA,↓GB,GX,simprocAttr,hnt,hT,h16,hc,hk,hd16]))) <;> ((first | cases hb | (simp only [HBs] at hb) | skip) <;> (first | (exfalso;omega) | skip)))|(refine and_mk ?_ ?_;(focus first | decide | omega | rfl | assumption | (simp only [LBs];omega) | (simp;done)))|(refine And.intro ?_ ?_))
  all_goals (try refine Done.mk ?_)
  refine SX.dia (id := 3) [0,1,2,3,4,5,6,7,8,9,10] (nmC n c 0) [.s 11,.s 12] (nmC n c 0 (fun _ => true)) ?_ ?_ ?_ ?_ rfl ?_
  · rw [hP];kernel_rfl
  · kernel_rfl
  · refine Imp.trans (Imp.le [] (d := ⟨[(5,vv (.bool false)),(4,vv (.int .u8 ((n : Int).tmod 16))),(3,vv (.int .u8 n)),(2,vv (.string (B []))),(0,vv (.int .u8 n))],[]⟩) (by (refine LeR.of ?_ ?_ ?_ ?_ ?_ ?_ ?_ <;> first | (rw [hbl];decide) | decide | (simp only [GA,↓GB,GX,simprocAttr,GDs];done) | (simp only [GA,↓GB,GX,simprocAttr,GDs];rfl;done)))) ?_
    refine Imp.trans (Imp.deads [6,7,8,9,10,11,12,13,14,15,16] (by rw [hnt];decide)) ?_
    refine Imp.trans Imp.gone ?_
    refine Imp.trans Imp.gone ?_
    exact Imp.refl
  · rintro M i hi hd
    simp only [List.mem_cons,List.not_mem_nil,or_false] at hi
    rcases hi with rfl | rfl | rfl | rfl | rfl | rfl | rfl | rfl | rfl | rfl | rfl
    · have n1 : M 1 = false := dN hd rfl 0 rfl rfl hd.un
      have n2 : M 2 = false := dN hd rfl 0 rfl rfl n1
      have n3 : M 3 = false := dN hd rfl 0 rfl rfl n2
      have n4 : M 4 = false := dN hd rfl 0 rfl rfl n3
      have hun := hd.un
      refine ⟨_,rfl,rfl,?_⟩
      simp only [nmC,upd,↓reduceIte,Nat.reduceEqDiff,reduceCtorEq,hun,n1,n2,n3,n4,CSs,List.nil_append,List.cons_append,simprocAttr]
      refine vcOp_sound ?_
      simp only [GA,↓GB,GX,simprocAttr,hnt,hT,hc,hk,hd16]
      repeat' (refine and_mk ?_ ?_;(focus first | decide | omega | rfl | assumption))
      all_goals (refine Imp.le [0,1] ?_;(refine LeR.of ?_ ?_ ?_ ?_ ?_ ?_ ?_ <;> first | (rw [hbl];decide) | decide | (simp only [hc,hd16,hk,sufL,GA,↓GB,GX,simprocAttr,GDs,CSs];done)))
    · have m0 : M 0 = true := dD hd rfl 0 rfl rfl
      have n2 : M 2 = false := dN hd rfl 0 rfl rfl hd.un
      have n3 : M 3 = false := dN hd rfl 0 rfl rfl n2
      have n4 : M 4 = false := dN hd rfl 0 rfl rfl n3
      have hun := hd.un
      refine ⟨_,rfl,rfl,?_⟩
      simp only [nmC,upd,↓reduceIte,Nat.reduceEqDiff,reduceCtorEq,hun,m0,n2,n3,n4,CSs,List.nil_append,List.cons_append,simprocAttr]
      refine vcOp_sound ?_
      simp only [GA,↓GB,GX,simprocAttr,hnt,hT,hc,hk,hd16]
      repeat' (refine and_mk ?_ ?_;(focus first | decide | omega | rfl | assumption))
      all_goals (refine Imp.le [0,1] ?_;(refine LeR.of ?_ ?_ ?_ ?_ ?_ ?_ ?_ <;> first | (rw [hbl];decide) | decide | (simp only [hc,hd16,hk,sufL,GA,↓GB,GX,simprocAttr,GDs,CSs];done)))
    · have m1 : M 1 = true := dD hd rfl 0 rfl rfl
      have m0 : M 0 = true := dC hd rfl m1 0 rfl rfl
      have n3 : M 3 = false := dN hd rfl 0 rfl rfl hd.un
      have n4 : M 4 = false := dN hd rfl 0 rfl rfl n3
      have hun := hd.un
      refine ⟨_,rfl,rfl,?_⟩
      simp only [nmC,upd,↓reduceIte,Nat.reduceEqDiff,reduceCtorEq,hun,m1,m0,n3,n4,CSs,List.nil_append,List.cons_append,simprocAttr]
      refine vcOp_sound ?_
      simp only [GA,↓GB,GX,simprocAttr,hnt,hT,hc,hk,hd16]
      repeat' (refine and_mk ?_ ?_;(focus first | decide | omega | rfl | assumption))
      all_goals (refine Imp.le [0,1] ?_;(refine LeR.of ?_ ?_ ?_ ?_ ?_ ?_ ?_ <;> first | (rw [hbl];decide) | decide | (simp only [hc,hd16,hk,sufL,GA,↓GB,GX,simprocAttr,GDs,CSs];done)))
    · have m2 : M 2 = true := dD hd rfl 0 rfl rfl
      have m1 : M 1 = true := dC hd rfl m2 0 rfl rfl
      have m0 : M 0 = true := dC hd rfl m1 0 rfl rfl
      have n4 : M 4 = false := dN hd rfl 0 rfl rfl hd.un
      have hun := hd.un
      refine ⟨_,rfl,rfl,?_⟩
      simp only [nmC,upd,↓reduceIte,Nat.reduceEqDiff,reduceCtorEq,hun,m2,m1,m0,n4,CSs,List.nil_append,List.cons_append,simprocAttr]
      refine vcOp_sound ?_
      simp only [GA,↓GB,GX,simprocAttr,hnt,hT,hc,hk,hd16]
      repeat' (refine and_mk ?_ ?_;(focus first | decide | omega | rfl | assumption))
      all_goals (refine Imp.le [2,1] ?_;(refine LeR.of ?_ ?_ ?_ ?_ ?_ ?_ ?_ <;> first | (rw [hbl];decide) | decide | (simp only [hc,hd16,hk,sufL,GA,↓GB,GX,simprocAttr,GDs,CSs];done)))
    · have m3 : M 3 = true := dD hd rfl 0 rfl rfl
      have m2 : M 2 = true := dC hd rfl m3 0 rfl rfl
      have m1 : M 1 = true := dC hd rfl m2 0 rfl rfl
      have m0 : M 0 = true := dC hd rfl m1 0 rfl rfl
      have hun := hd.un
      refine ⟨_,rfl,rfl,?_⟩
      simp only [nmC,upd,↓reduceIte,Nat.reduceEqDiff,reduceCtorEq,hun,m3,m2,m1,m0,CSs,List.nil_append,List.cons_append,simprocAttr]
      refine VO.slString (e := 5) [c] rfl rfl rfl rfl (by rw [hP];kernel_rfl) (by rw [hP];kernel_rfl) (by rw [hP];kernel_rfl) ?_
      simp only [GA,↓GB,GX,simprocAttr,hnt,hT,hc,hk,hd16]
      refine Imp.le [0,1] ?_
      refine LeR.of ?_ ?_ ?_ ?_ ?_ ?_ ?_ <;> first | (rw [hbl];decide) | decide | (simp only [hc,hd16,hk,sufL,GA,↓GB,GX,simprocAttr,GDs,CSs];done)
    · have n9 : M 9 = false := dN hd rfl 0 rfl rfl hd.un
      have n10 : M 10 = false := dN hd rfl 0 rfl rfl n9
      have hun := hd.un
      refine ⟨_,rfl,rfl,?_⟩
      simp only [nmC,upd,↓reduceIte,Nat.reduceEqDiff,reduceCtorEq,hun,n9,n10,CSs,List.nil_append,List.cons_append,simprocAttr]
      refine vcOp_sound ?_
      simp only [GA,↓GB,GX,simprocAttr,hnt,hT,hc,hk,hd16]
      repeat' (refine and_mk ?_ ?_;(focus first | decide | omega | rfl | assumption))
      all_goals (refine Imp.le [0,2] ?_;(refine LeR.of ?_ ?_ ?_ ?_ ?_ ?_ ?_ <;> first | (rw [hbl];decide) | decide | (simp only [hc,hd16,hk,sufL,GA,↓GB,GX,simprocAttr,GDs,CSs];done)))
    · have n7 : M 7 = false := dN hd rfl 0 rfl rfl hd.un
      have n8 : M 8 = false := dN hd rfl 0 rfl rfl n7
      have n9 : M 9 = false := dN hd rfl 1 rfl rfl n8
      have n10 : M 10 = false := dN hd rfl 0 rfl rfl n9
      have hun := hd.un
      refine ⟨_,rfl,rfl,?_⟩
      simp only [nmC,upd,↓reduceIte,Nat.reduceEqDiff,reduceCtorEq,hun,n7,n8,n9,n10,CSs,List.nil_append,List.cons_append,simprocAttr]
      refine vcOp_sound ?_
      simp only [GA,↓GB,GX,simprocAttr,hnt,hT,hc,hk,hd16]
      repeat' (refine and_mk ?_ ?_;(focus first | decide | omega | rfl | assumption))
      all_goals (refine Imp.le [0,1] ?_;(refine LeR.of ?_ ?_ ?_ ?_ ?_ ?_ ?_ <;> first | (rw [hbl];decide) | decide | (simp only [hc,hd16,hk,sufL,GA,↓GB,GX,simprocAttr,GDs,CSs];done)))
    · have m6 : M 6 = true := dD hd rfl 0 rfl rfl
      have n8 : M 8 = false := dN hd rfl 0 rfl rfl hd.un
      have n9 : M 9 = false := dN hd rfl 1 rfl rfl n8
      have n10 : M 10 = false := dN hd rfl 0 rfl rfl n9
      have hun := hd.un
      refine ⟨_,rfl,rfl,?_⟩
      simp only [nmC,upd,↓reduceIte,Nat.reduceEqDiff,reduceCtorEq,hun,m6,n8,n9,n10,CSs,List.nil_append,List.cons_append,simprocAttr]
      refine vcOp_sound ?_
      simp only [GA,↓GB,GX,simprocAttr,hnt,hT,hc,hk,hd16]
      repeat' (refine and_mk ?_ ?_;(focus first | decide | omega | rfl | assumption))
      all_goals (refine Imp.le [0,1] ?_;(refine LeR.of ?_ ?_ ?_ ?_ ?_ ?_ ?_ <;> first | (rw [hbl];decide) | decide | (simp only [hc,hd16,hk,sufL,GA,↓GB,GX,simprocAttr,GDs,CSs];done)))
    · have m7 : M 7 = true := dD hd rfl 0 rfl rfl
      have m6 : M 6 = true := dC hd rfl m7 0 rfl rfl
      have n9 : M 9 = false := dN hd rfl 1 rfl rfl hd.un
      have n10 : M 10 = false := dN hd rfl 0 rfl rfl n9
      have hun := hd.un
      refine ⟨_,rfl,rfl,?_⟩
      simp only [nmC,upd,↓reduceIte,Nat.reduceEqDiff,reduceCtorEq,hun,m7,m6,n9,n10,CSs,List.nil_append,List.cons_append,simprocAttr]
      refine vcOp_sound ?_
      simp only [GA,↓GB,GX,simprocAttr,hnt,hT,hc,hk,hd16]
      repeat' (refine and_mk ?_ ?_;(focus first | decide | omega | rfl | assumption))
      all_goals (refine Imp.le [0,1] ?_;(refine LeR.of ?_ ?_ ?_ ?_ ?_ ?_ ?_ <;> first | (rw [hbl];decide) | decide | (simp only [hc,hd16,hk,sufL,GA,↓GB,GX,simprocAttr,GDs,CSs];done)))
    · have m5 : M 5 = true := dD hd rfl 0 rfl rfl
      have m8 : M 8 = true := dD hd rfl 1 rfl rfl
      have m7 : M 7 = true := dC hd rfl m8 0 rfl rfl
      have m6 : M 6 = true := dC hd rfl m7 0 rfl rfl
      have n10 : M 10 = false := dN hd rfl 0 rfl rfl hd.un
      have hun := hd.un
      refine ⟨_,rfl,rfl,?_⟩
      simp only [nmC,upd,↓reduceIte,Nat.reduceEqDiff,reduceCtorEq,hun,m5,m8,m7,m6,n10,CSs,List.nil_append,List.cons_append,simprocAttr]
      refine vcOp_sound ?_
      simp only [GA,↓GB,GX,simprocAttr,hnt,hT,hc,hk,hd16]
      repeat' (refine and_mk ?_ ?_;(focus first | decide | omega | rfl | assumption))
      all_goals (refine Imp.le [0,1] ?_;(refine LeR.of ?_ ?_ ?_ ?_ ?_ ?_ ?_ <;> first | (rw [hbl];decide) | decide | (simp only [hc,hd16,hk,sufL,GA,↓GB,GX,simprocAttr,GDs,CSs];done)))
    · have m9 : M 9 = true := dD hd rfl 0 rfl rfl
      have m5 : M 5 = true := dC hd rfl m9 0 rfl rfl
      have m8 : M 8 = true := dC hd rfl m9 1 rfl rfl
      have m7 : M 7 = true := dC hd rfl m8 0 rfl rfl
      have m6 : M 6 = true := dC hd rfl m7 0 rfl rfl
      have hun := hd.un
      refine ⟨_,rfl,rfl,?_⟩
      simp only [nmC,upd,↓reduceIte,Nat.reduceEqDiff,reduceCtorEq,hun,m9,m5,m8,m7,m6,CSs,List.nil_append,List.cons_append,simprocAttr]
      refine vcOp_sound ?_
      simp only [GA,↓GB,GX,simprocAttr,hnt,hT,hc,hk,hd16]
      repeat' (refine and_mk ?_ ?_;(focus first | decide | omega | rfl | assumption))
      all_goals (refine Imp.le [0,1] ?_;(refine LeR.of ?_ ?_ ?_ ?_ ?_ ?_ ?_ <;> first | (rw [hbl];decide) | decide | (simp only [hc,hd16,hk,sufL,GA,↓GB,GX,simprocAttr,GDs,CSs];done)))
  simp only [nmC,cond_true,GA,↓GB,GX,simprocAttr,hnt,hT]
  repeat' (first|(refine SX.seqK ?_;intro N hN)|((first | (refine SX.ops ?_));simp only [GA,↓GB,GX,simprocAttr,hnt,hT,hc,hk,hd16])|((first | refine SX.skip ?_ | refine SX.exit ?_ | refine SX.label ?_ | refine SX.ret ?_);try simp only [GA,↓GB,GX,simprocAttr])|(refine hN _ ?_;clear hN N)|((first | refine hK _ _ (FinI.ret3 ?_) | refine hK _ _ (FinI.nrm3 ?_));simp only [GA,↓GB,GX,simprocAttr,finP_s,hnt,hT,hc,hk,hd16];refine Done.out ?_)|((first | refine SX.cond rfl (fun hb => ?_) (fun hb => ?_) | (refine bif2.mk (fun hb => ?_) (fun hb => ?_) <;> (try simp only [hb,GA,↓GB,GX,simprocAttr,hnt,hT,hc,hk,hd16]))) <;> ((first | cases hb | (simp only [HBs] at hb) | skip) <;> (first | (exfalso;omega) | skip)))|(refine and_mk ?_ ?_;(focus first | decide | omega | rfl | assumption | (simp only [LBs];omega) | (simp;done)))|(refine And.intro ?_ ?_))
  all_goals (try refine Done.mk ?_)
  all_goals ((refine hN0 _ _ ⟨[],_,_,?_,?_,?_,⟨rfl,rfl⟩⟩;(focus exact LeR.of rfl trivial (by simp only [GA,↓GB,GX,simprocAttr,GDs]) (by decide) rfl rfl rfl);rotate_left;(focus rfl));rfl)
theorem name_1 (n : Nat) (hn : n < 256) (h : ¬ n % 16 = 15) (h3 : n / 16 % 3 = 1) : Ctr Tryz.prog [] 21 [] [vv (.int .u8 n)] (fun os v => os = [] ∧ v = vv (.string (B (UInt8.ofNat (97 + n % 12) :: sufL 1)))) := by
  have h16 : ((n : Int).tmod 16 == 15) = false := by rw [Int.tmod_eq_emod_of_nonneg (by omega)];simp;omega
  obtain ⟨c,hcc⟩ : ∃ c,UInt8.ofNat (97 + n % 12) = c := ⟨_,rfl⟩
  have hc : IntKind.u8.wrap (97 + (n : Int).tmod 12) = (c.toNat : Int) := by
    rw [← hcc,Int.tmod_eq_emod_of_nonneg (by omega),UInt8.toNat_ofNat',wB8 (by omega) (by omega)]
    omega
  have hd16 : IntKind.u8.wrap ((n : Int).tdiv 16) = (n : Int).tdiv 16 := by
    exact wB8 (by rw [Int.tdiv_eq_ediv_of_nonneg (by omega)];omega) (by rw [Int.tdiv_eq_ediv_of_nonneg (by omega)];omega)
  have hk : ((n : Int).tdiv 16).tmod 3 = 1 := by
    rw [Int.tdiv_eq_ediv_of_nonneg (by omega),Int.tmod_eq_emod_of_nonneg (by omega)]
    omega
  rw [hcc]
  refine Ctr.less ?_
  intro X0 hP0 hG0 N0 hN0
  refine CallVC.inline (f := 21) (by rw [hP0];exact Tryz.func21) rfl Tryz.ntmps21 rfl (by simp) ?_
  intro X K hU hnt hbl hK
  have hP : X.P = Tryz.prog := hU.P.trans hP0
  have hG := hG0.under hU
  have hT := Ty.T21 hP
  simp only [GA,↓GB,GX,simprocAttr] at hbl ⊢
  repeat' (first|(refine SX.seqK ?_;intro N hN)|((first | (refine SX.ops ?_));simp only [GA,↓GB,GX,simprocAttr,hnt,hT,h16,hc,hk,hd16])|((first | refine SX.skip ?_ | refine SX.exit ?_ | refine SX.label ?_ | refine SX.ret ?_);try simp only [GA,↓GB,GX,simprocAttr])|(refine hN _ ?_;clear hN N)|((first | refine hK _ _ (FinI.ret3 ?_) | refine hK _ _ (FinI.nrm3 ?_));simp only [GA,↓GB,GX,simprocAttr,finP_s,hnt,hT,h16,hc,hk,hd16];refine Done.out ?_)|((first | refine SX.cond rfl (fun hb => ?_) (fun hb => ?_) | (refine bif2.mk (fun hb => ?_) (fun hb => ?_) <;> (try simp only [hb,GA,↓GB,GX,simprocAttr,hnt,hT,h16,hc,hk,hd16]))) <;> ((first | cases hb | (simp only [HBs] at hb) | skip) <;> (first | (exfalso;omega) | skip)))|(refine and_mk ?_ ?_;(focus first | decide | omega | rfl | assumption | (simp only [LBs];omega) | (simp;done)))|(refine And.intro ?_ ?_))
  all_goals (try refine Done.mk ?_)
  refine SX.dia (id := 3) [0,1,2,3,4,5,6,7,8,9,10] (nmC n c 1) [.s 11,.s 12] (nmC n c 1 (fun _ => true)) ?_ ?_ ?_ ?_ rfl ?_
  · rw [hP];kernel_rfl
  · kernel_rfl
  · refine Imp.trans (Imp.le [] (d := ⟨[(5,vv (.bool false)),(4,vv (.int .u8 ((n : Int).tmod 16))),(3,vv (.int .u8 n)),(2,vv (.string (B []))),(0,vv (.int .u8 n))],[]⟩) (by (refine LeR.of ?_ ?_ ?_ ?_ ?_ ?_ ?_ <;> first | (rw [hbl];decide) | decide | (simp only [GA,↓GB,GX,simprocAttr,GDs];done) | (simp only [GA,↓GB,GX,simprocAttr,GDs];rfl;done)))) ?_
    refine Imp.trans (Imp.deads [6,7,8,9,10,11,12,13,14,15,16] (by rw [hnt];decide)) ?_
    refine Imp.trans Imp.gone ?_
    refine Imp.trans Imp.gone ?_
    exact Imp.refl
  · rintro M i hi hd
    simp only [List.mem_cons,List.not_mem_nil,or_false] at hi
    rcases hi with rfl | rfl | rfl | rfl | rfl | rfl | rfl | rfl | rfl | rfl | rfl
    · have n1 : M 1 = false := dN hd rfl 0 rfl rfl hd.un
      have n2 : M 2 = false := dN hd rfl 0 rfl rfl n1
      have n3 : M 3 = false := dN hd rfl 0 rfl rfl n2
      have n4 : M 4 = false := dN hd rfl 0 rfl rfl n3
      have hun := hd.un
      refine ⟨_,rfl,rfl,?_⟩
      simp only [nmC,upd,↓reduceIte,Nat.reduceEqDiff,reduceCtorEq,hun,n1,n2,n3,n4,CSs,List.nil_append,List.cons_append,simprocAttr]
      refine vcOp_sound ?_
      simp only [GA,↓GB,GX,simprocAttr,hnt,hT,hc,hk,hd16]
      repeat' (refine and_mk ?_ ?_;(focus first | decide | omega | rfl | assumption))
      all_goals (refine Imp.le [0,1] ?_;(refine LeR.of ?_ ?_ ?_ ?_ ?_ ?_ ?_ <;> first | (rw [hbl];decide) | decide | (simp only [hc,hd16,hk,sufL,GA,↓GB,GX,simprocAttr,GDs,CSs];done)))
    · have m0 : M 0 = true := dD hd rfl 0 rfl rfl
      have n2 : M 2 = false := dN hd rfl 0 rfl rfl hd.un
      have n3 : M 3 = false := dN hd rfl 0 rfl rfl n2
      have n4 : M 4 = false := dN hd rfl 0 rfl rfl n3
      have hun := hd.un
      refine ⟨_,rfl,rfl,?_⟩
      simp only [nmC,upd,↓reduceIte,Nat.reduceEqDiff,reduceCtorEq,hun,m0,n2,n3,n4,CSs,List.nil_append,List.cons_append,simprocAttr]
      refine vcOp_sound ?_
      simp only [GA,↓GB,GX,simprocAttr,hnt,hT,hc,hk,hd16]
      repeat' (refine and_mk ?_ ?_;(focus first | decide | omega | rfl | assumption))
      all_goals (refine Imp.le [0,1] ?_;(refine LeR.of ?_ ?_ ?_ ?_ ?_ ?_ ?_ <;> first | (rw [hbl];decide) | decide | (simp only [hc,hd16,hk,sufL,GA,↓GB,GX,simprocAttr,GDs,CSs];done)))
    · have m1 : M 1 = true := dD hd rfl 0 rfl rfl
      have m0 : M 0 = true := dC hd rfl m1 0 rfl rfl
      have n3 : M 3 = false := dN hd rfl 0 rfl rfl hd.un
      have n4 : M 4 = false := dN hd rfl 0 rfl rfl n3
      have hun := hd.un
      refine ⟨_,rfl,rfl,?_⟩
      simp only [nmC,upd,↓reduceIte,Nat.reduceEqDiff,reduceCtorEq,hun,m1,m0,n3,n4,CSs,List.nil_append,List.cons_append,simprocAttr]
      refine vcOp_sound ?_
      simp only [GA,↓GB,GX,simprocAttr,hnt,hT,hc,hk,hd16]
      repeat' (refine and_mk ?_ ?_;(focus first | decide | omega | rfl | assumption))
      all_goals (refine Imp.le [0,1] ?_;(refine LeR.of ?_ ?_ ?_ ?_ ?_ ?_ ?_ <;> first | (rw [hbl];decide) | decide | (simp only [hc,hd16,hk,sufL,GA,↓GB,GX,simprocAttr,GDs,CSs];done)))
    · have m2 : M 2 = true := dD hd rfl 0 rfl rfl
      have m1 : M 1 = true := dC hd rfl m2 0 rfl rfl
      have m0 : M 0 = true := dC hd rfl m1 0 rfl rfl
      have n4 : M 4 = false := dN hd rfl 0 rfl rfl hd.un
      have hun := hd.un
      refine ⟨_,rfl,rfl,?_⟩
      simp only [nmC,upd,↓reduceIte,Nat.reduceEqDiff,reduceCtorEq,hun,m2,m1,m0,n4,CSs,List.nil_append,List.cons_append,simprocAttr]
      refine vcOp_sound ?_
      simp only [GA,↓GB,GX,simprocAttr,hnt,hT,hc,hk,hd16]
      repeat' (refine and_mk ?_ ?_;(focus first | decide | omega | rfl | assumption))
      all_goals (refine Imp.le [2,1] ?_;(refine LeR.of ?_ ?_ ?_ ?_ ?_ ?_ ?_ <;> first | (rw [hbl];decide) | decide | (simp only [hc,hd16,hk,sufL,GA,↓GB,GX,simprocAttr,GDs,CSs];done)))
    · have m3 : M 3 = true := dD hd rfl 0 rfl rfl
      have m2 : M 2 = true := dC hd rfl m3 0 rfl rfl
      have m1 : M 1 = true := dC hd rfl m2 0 rfl rfl
      have m0 : M 0 = true := dC hd rfl m1 0 rfl rfl
      have hun := hd.un
      refine ⟨_,rfl,rfl,?_⟩
      simp only [nmC,upd,↓reduceIte,Nat.reduceEqDiff,reduceCtorEq,hun,m3,m2,m1,m0,CSs,List.nil_append,List.cons_append,simprocAttr]
      refine VO.slString (e := 5) [c] rfl rfl rfl rfl (by rw [hP];kernel_rfl) (by rw [hP];kernel_rfl) (by rw [hP];kernel_rfl) ?_
      simp only [GA,↓GB,GX,simprocAttr,hnt,hT,hc,hk,hd16]
      refine Imp.le [0,1] ?_
      refine LeR.of ?_ ?_ ?_ ?_ ?_ ?_ ?_ <;> first | (rw [hbl];decide) | decide | (simp only [hc,hd16,hk,sufL,GA,↓GB,GX,simprocAttr,GDs,CSs];done)
    · have n9 : M 9 = false := dN hd rfl 0 rfl rfl hd.un
      have n10 : M 10 = false := dN hd rfl 0 rfl rfl n9
      have hun := hd.un
      refine ⟨_,rfl,rfl,?_⟩
      simp only [nmC,upd,↓reduceIte,Nat.reduceEqDiff,reduceCtorEq,hun,n9,n10,CSs,List.nil_append,List.cons_append,simprocAttr]
      refine vcOp_sound ?_
      simp only [GA,↓GB,GX,simprocAttr,hnt,hT,hc,hk,hd16]
      repeat' (refine and_mk ?_ ?_;(focus first | decide | omega | rfl | assumption))
      all_goals (refine Imp.le [0,2] ?_;(refine LeR.of ?_ ?_ ?_ ?_ ?_ ?_ ?_ <;> first | (rw [hbl];decide) | decide | (simp only [hc,hd16,hk,sufL,GA,↓GB,GX,simprocAttr,GDs,CSs];done)))
    · have n7 : M 7 = false := dN hd rfl 0 rfl rfl hd.un
      have n8 : M 8 = false := dN hd rfl 0 rfl rfl n7
      have n9 : M 9 = false := dN hd rfl 1 rfl rfl n8
      have n10 : M 10 = false := dN hd rfl 0 rfl rfl n9
      have hun := hd.un
      refine ⟨_,rfl,rfl,?_⟩
      simp only [nmC,upd,↓reduceIte,Nat.reduceEqDiff,reduceCtorEq,hun,n7,n8,n9,n10,CSs,List.nil_append,List.cons_append,simprocAttr]
      refine vcOp_sound ?_
      simp only [GA,↓GB,GX,simprocAttr,hnt,hT,hc,hk,hd16]
      repeat' (refine and_mk ?_ ?_;(focus first | decide | omega | rfl | assumption))
      all_goals (refine Imp.le [0,1] ?_;(refine LeR.of ?_ ?_ ?_ ?_ ?_ ?_ ?_ <;> first | (rw [hbl];decide) | decide | (simp only [hc,hd16,hk,sufL,GA,↓GB,GX,simprocAttr,GDs,CSs];done)))
    · have m6 : M 6 = true := dD hd rfl 0 rfl rfl
      have n8 : M 8 = false := dN hd rfl 0 rfl rfl hd.un
      have n9 : M 9 = false := dN hd rfl 1 rfl rfl n8
      have n10 : M 10 = false := dN hd rfl 0 rfl rfl n9
      have hun := hd.un
      refine ⟨_,rfl,rfl,?_⟩
      simp only [nmC,upd,↓reduceIte,Nat.reduceEqDiff,reduceCtorEq,hun,m6,n8,n9,n10,CSs,List.nil_append,List.cons_append,simprocAttr]
      refine vcOp_sound ?_
      simp only [GA,↓GB,GX,simprocAttr,hnt,hT,hc,hk,hd16]
      repeat' (refine and_mk ?_ ?_;(focus first | decide | omega | rfl | assumption))
      all_goals (refine Imp.le [0,1] ?_;(refine LeR.of ?_ ?_ ?_ ?_ ?_ ?_ ?_ <;> first | (rw [hbl];decide) | decide | (simp only [hc,hd16,hk,sufL,GA,↓GB,GX,simprocAttr,GDs,CSs];done)))
    · have m7 : M 7 = true := dD hd rfl 0 rfl rfl
      have m6 : M 6 = true := dC hd rfl m7 0 rfl rfl
      have n9 : M 9 = false := dN hd rfl 1 rfl rfl hd.un
      have n10 : M 10 = false := dN hd rfl 0 rfl rfl n9
      have hun := hd.un
      refine ⟨_,rfl,rfl,?_⟩
      simp only [nmC,upd,↓reduceIte,Nat.reduceEqDiff,reduceCtorEq,hun,m7,m6,n9,n10,CSs,List.nil_append,List.cons_append,simprocAttr]
      refine vcOp_sound ?_
      simp only [GA,↓GB,GX,simprocAttr,hnt,hT,hc,hk,hd16]
      repeat' (refine and_mk ?_ ?_;(focus first | decide | omega | rfl | assumption))
      all_goals (refine Imp.le [0,1] ?_;(refine LeR.of ?_ ?_ ?_ ?_ ?_ ?_ ?_ <;> first | (rw [hbl];decide) | decide | (simp only [hc,hd16,hk,sufL,GA,↓GB,GX,simprocAttr,GDs,CSs];done)))
    · have m5 : M 5 = true := dD hd rfl 0 rfl rfl
      have m8 : M 8 = true := dD hd rfl 1 rfl rfl
      have m7 : M 7 = true := dC hd rfl m8 0 rfl rfl
      have m6 : M 6 = true := dC hd rfl m7 0 rfl rfl
      have n10 : M 10 = false := dN hd rfl 0 rfl rfl hd.un
      have hun := hd.un
      refine ⟨_,rfl,rfl,?_⟩
      simp only [nmC,upd,↓reduceIte,Nat.reduceEqDiff,reduceCtorEq,hun,m5,m8,m7,m6,n10,CSs,List.nil_append,List.cons_append,simprocAttr]
      refine vcOp_sound ?_
      simp only [GA,↓GB,GX,simprocAttr,hnt,hT,hc,hk,hd16]
      repeat' (refine and_mk ?_ ?_;(focus first | decide | omega | rfl | assumption))
      all_goals (refine Imp.le [0,1] ?_;(refine LeR.of ?_ ?_ ?_ ?_ ?_ ?_ ?_ <;> first | (rw [hbl];decide) | decide | (simp only [hc,hd16,hk,sufL,GA,↓GB,GX,simprocAttr,GDs,CSs];done)))
    · have m9 : M 9 = true := dD hd rfl 0 rfl rfl
      have m5 : M 5 = true := dC hd rfl m9 0 rfl rfl
      have m8 : M 8 = true := dC hd rfl m9 1 rfl rfl
      have m7 : M 7 = true := dC hd rfl m8 0 rfl rfl
      have m6 : M 6 = true := dC hd rfl m7 0 rfl rfl
      have hun := hd.un
      refine ⟨_,rfl,rfl,?_⟩
      simp only [nmC,upd,↓reduceIte,Nat.reduceEqDiff,reduceCtorEq,hun,m9,m5,m8,m7,m6,CSs,List.nil_append,List.cons_append,simprocAttr]
      refine vcOp_sound ?_
      simp only [GA,↓GB,GX,simprocAttr,hnt,hT,hc,hk,hd16]
      repeat' (refine and_mk ?_ ?_;(focus first | decide | omega | rfl | assumption))
      all_goals (refine Imp.le [0,1] ?_;(refine LeR.of ?_ ?_ ?_ ?_ ?_ ?_ ?_ <;> first | (rw [hbl];decide) | decide | (simp only [hc,hd16,hk,sufL,GA,↓GB,GX,simprocAttr,GDs,CSs];done)))
  simp only [nmC,cond_true,GA,↓GB,GX,simprocAttr,hnt,hT]
  repeat' (first|(refine SX.seqK ?_;intro N hN)|((first | (refine SX.ops ?_));simp only [GA,↓GB,GX,simprocAttr,hnt,hT,hc,hk,hd16])|((first | refine SX.skip ?_ | refine SX.exit ?_ | refine SX.label ?_ | refine SX.ret ?_);try simp only [GA,↓GB,GX,simprocAttr])|(refine hN _ ?_;clear hN N)|((first | refine hK _ _ (FinI.ret3 ?_) | refine hK _ _ (FinI.nrm3 ?_));simp only [GA,↓GB,GX,simprocAttr,finP_s,hnt,hT,hc,hk,hd16];refine Done.out ?_)|((first | refine SX.cond rfl (fun hb => ?_) (fun hb => ?_) | (refine bif2.mk (fun hb => ?_) (fun hb => ?_) <;> (try simp only [hb,GA,↓GB,GX,simprocAttr,hnt,hT,hc,hk,hd16]))) <;> ((first | cases hb | (simp only [HBs] at hb) | skip) <;> (first | (exfalso;omega) | skip)))|(refine and_mk ?_ ?_;(focus first | decide | omega | rfl | assumption | (simp only [LBs];omega) | (simp;done)))|(refine And.intro ?_ ?_))
  all_goals (try refine Done.mk ?_)
  all_goals ((refine hN0 _ _ ⟨[],_,_,?_,?_,?_,⟨rfl,rfl⟩⟩;(focus exact LeR.of rfl trivial (by simp only [GA,↓GB,GX,simprocAttr,GDs]) (by decide) rfl rfl rfl);rotate_left;(focus rfl));rfl)
theorem name_2 (n : Nat) (hn : n < 256) (h : ¬ n % 16 = 15) (h3 : n / 16 % 3 = 2) : Ctr Tryz.prog [] 21 [] [vv (.int .u8 n)] (fun os v => os = [] ∧ v = vv (.string (B (UInt8.ofNat (97 + n % 12) :: sufL 2)))) := by
  have h16 : ((n : Int).tmod 16 == 15) = false := by rw [Int.tmod_eq_emod_of_nonneg (by omega)];simp;omega
  obtain ⟨c,hcc⟩ : ∃ c,UInt8.ofNat (97 + n % 12) = c := ⟨_,rfl⟩
  have hc : IntKind.u8.wrap (97 + (n : Int).tmod 12) = (c.toNat : Int) := by
    rw [← hcc,Int.tmod_eq_emod_of_nonneg (by omega),UInt8.toNat_ofNat',wB8 (by omega) (by omega)]
    omega
  have hd16 : IntKind.u8.wrap ((n : Int).tdiv 16) = (n : Int).tdiv 16 := by
    exact wB8 (by rw [Int.tdiv_eq_ediv_of_nonneg (by omega)];omega) (by rw [Int.tdiv_eq_ediv_of_nonneg (by omega)];omega)
  have hk : ((n : Int).tdiv 16).tmod 3 = 2 := by
    rw [Int.tdiv_eq_ediv_of_nonneg (by omega),Int.tmod_eq_emod_of_nonneg (by omega)]
    omega
  rw [hcc]
  refine Ctr.less ?_
  intro X0 hP0 hG0 N0 hN0
  refine CallVC.inline (f := 21) (by rw [hP0];exact Tryz.func21) rfl Tryz.ntmps21 rfl (by simp) ?_
  intro X K hU hnt hbl hK
  have hP : X.P = Tryz.prog := hU.P.trans hP0
  have hG := hG0.under hU
  have hT := Ty.T21 hP
  simp only [GA,↓GB,GX,simprocAttr] at hbl ⊢
  repeat' (first|(refine SX.seqK ?_;intro N hN)|((first | (refine SX.ops ?_));simp only [GA,↓GB,GX,simprocAttr,hnt,hT,h16,hc,hk,hd16])|((first | refine SX.skip ?_ | refine SX.exit ?_ | refine SX.label ?_ | refine SX.ret ?_);try simp only [GA,↓GB,GX,simprocAttr])|(refine hN _ ?_;clear hN N)|((first | refine hK _ _ (FinI.ret3 ?_) | refine hK _ _ (FinI.nrm3 ?_));simp only [GA,↓GB,GX,simprocAttr,finP_s,hnt,hT,h16,hc,hk,hd16];refine Done.out ?_)|((first | refine SX.cond rfl (fun hb => ?_) (fun hb => ?_) | (refine bif2.mk (fun hb => ?_) (fun hb => ?_) <;> (try simp only [hb,GA,↓GB,GX,simprocAttr,hnt,hT,h16,hc,hk,hd16]))) <;> ((first | cases hb | (simp only [HBs] at hb) | skip) <;> (first | (exfalso;omega) | skip)))|(refine and_mk ?_ ?_;(focus first | decide | omega | rfl | assumption | (simp only [LBs];omega) | (simp;done)))|(refine And.intro ?_ ?_))
  all_goals (try refine Done.mk ?_)
  refine SX.dia (id := 3) [0,1,2,3,4,5,6,7,8,9,10] (nmC n c 2) [.s 11,.s 12] (nmC n c 2 (fun _ => true)) ?_ ?_ ?_ ?_ rfl ?_
  · rw [hP];kernel_rfl
  · kernel_rfl
  · refine Imp.trans (Imp.le [] (d := ⟨[(5,vv (.bool false)),(4,vv (.int .u8 ((n : Int).tmod 16))),(3,vv (.int .u8 n)),(2,vv (.string (B []))),(0,vv (.int .u8 n))],[]⟩) (by (refine LeR.of ?_ ?_ ?_ ?_ ?_ ?_ ?_ <;> first | (rw [hbl];decide) | decide | (simp only [GA,↓GB,GX,simprocAttr,GDs];done) | (simp only [GA,↓GB,GX,simprocAttr,GDs];rfl;done)))) ?_
    refine Imp.trans (Imp.deads [6,7,8,9,10,11,12,13,14,15,16] (by rw [hnt];decide)) ?_
    refine Imp.trans Imp.gone ?_
    refine Imp.trans Imp.gone ?_
    exact Imp.refl
  · rintro M i hi hd
    simp only [List.mem_cons,List.not_mem_nil,or_false] at hi
    rcases hi with rfl | rfl | rfl | rfl | rfl | rfl | rfl | rfl | rfl | rfl | rfl
    · have n1 : M 1 = false := dN hd rfl 0 rfl rfl hd.un
      have n2 : M 2 = false := dN hd rfl 0 rfl rfl n1
      have n3 : M 3 = false := dN hd rfl 0 rfl rfl n2
      have n4 : M 4 = false := dN hd rfl 0 rfl rfl n3
      have hun := hd.un
      refine ⟨_,rfl,rfl,?_⟩
      simp only [nmC,upd,↓reduceIte,Nat.reduceEqDiff,reduceCtorEq,hun,n1,n2,n3,n4,CSs,List.nil_append,List.cons_append,simprocAttr]
      refine vcOp_sound ?_
      simp only [GA,↓GB,GX,simprocAttr,hnt,hT,hc,hk,hd16]
      repeat' (refine and_mk ?_ ?_;(focus first | decide | omega | rfl | assumption))
      all_goals (refine Imp.le [0,1] ?_;(refine LeR.of ?_ ?_ ?_ ?_ ?_ ?_ ?_ <;> first | (rw [hbl];decide) | decide | (simp only [hc,hd16,hk,sufL,GA,↓GB,GX,simprocAttr,GDs,CSs];done)))
    · have m0 : M 0 = true := dD hd rfl 0 rfl rfl
      have n2 : M 2 = false := dN hd rfl 0 rfl rfl hd.un
      have n3 : M 3 = false := dN hd rfl 0 rfl rfl n2
      have n4 : M 4 = false := dN hd rfl 0 rfl rfl n3
      have hun := hd.un
      refine ⟨_,rfl,rfl,?_⟩
      simp only [nmC,upd,↓reduceIte,Nat.reduceEqDiff,reduceCtorEq,hun,m0,n2,n3,n4,CSs,List.nil_append,List.cons_append,simprocAttr]
      refine vcOp_sound ?_
      simp only [GA,↓GB,GX,simprocAttr,hnt,hT,hc,hk,hd16]
      repeat' (refine and_mk ?_ ?_;(focus first | decide | omega | rfl | assumption))
      all_goals (refine Imp.le [0,1] ?_;(refine LeR.of ?_ ?_ ?_ ?_ ?_ ?_ ?_ <;> first | (rw [hbl];decide) | decide | (simp only [hc,hd16,hk,sufL,GA,↓GB,GX,simprocAttr,GDs,CSs];done)))
    · have m1 : M 1 = true := dD hd rfl 0 rfl rfl
      have m0 : M 0 = true := dC hd rfl m1 0 rfl rfl
      have n3 : M 3 = false := dN hd rfl 0 rfl rfl hd.un
      have n4 : M 4 = false := dN hd rfl 0 rfl rfl n3
      have hun := hd.un
      refine ⟨_,rfl,rfl,?_⟩
      simp only [nmC,upd,↓reduceIte,Nat.reduceEqDiff,reduceCtorEq,hun,m1,m0,n3,n4,CSs,List.nil_append,List.cons_append,simprocAttr]
      refine vcOp_sound ?_
      simp only [GA,↓GB,GX,simprocAttr,hnt,hT,hc,hk,hd16]
      repeat' (refine and_mk ?_ ?_;(focus first | decide | omega | rfl | assumption))
      all_goals (refine Imp.le [0,1] ?_;(refine LeR.of ?_ ?_ ?_ ?_ ?_ ?_ ?_ <;> first | (rw [hbl];decide) | decide | (simp only [hc,hd16,hk,sufL,GA,↓GB,GX,simprocAttr,GDs,CSs];done)))
    · have m2 : M 2 = true := dD hd rfl 0 rfl rfl
      have m1 : M 1 = true := dC hd rfl m2 0 rfl rfl
      have m0 : M 0 = true := dC hd rfl m1 0 rfl rfl
      have n4 : M 4 = false := dN hd rfl 0 rfl rfl hd.un
      have hun := hd.un
      refine ⟨_,rfl,rfl,?_⟩
      simp only [nmC,upd,↓reduceIte,Nat.reduceEqDiff,reduceCtorEq,hun,m2,m1,m0,n4,CSs,List.nil_append,List.cons_append,simprocAttr]
      refine vcOp_sound ?_
      simp only [GA,↓GB,GX,simprocAttr,hnt,hT,hc,hk,hd16]
      repeat' (refine and_mk ?_ ?_;(focus first | decide | omega | rfl | assumption))
      all_goals (refine Imp.le [2,1] ?_;(refine LeR.of ?_ ?_ ?_ ?_ ?_ ?_ ?_ <;> first | (rw [hbl];decide) | decide | (simp only [hc,hd16,hk,sufL,GA,↓GB,GX,simprocAttr,GDs,CSs];done)))
    · have m3 : M 3 = true := dD hd rfl 0 rfl rfl
      have m2 : M 2 = true := dC hd rfl m3 0 rfl rfl
      have m1 : M 1 = true := dC hd rfl m2 0 rfl rfl
      have m0 : M 0 = true := dC hd rfl m1 0 rfl rfl
      have hun := hd.un
      refine ⟨_,rfl,rfl,?_⟩
      simp only [nmC,upd,↓reduceIte,Nat.reduceEqDiff,reduceCtorEq,hun,m3,m2,m1,m0,CSs,List.nil_append,List.cons_append,simprocAttr]
      refine VO.slString (e := 5) [c] rfl rfl rfl rfl (by rw [hP];kernel_rfl) (by rw [hP];kernel_rfl) (by rw [hP];kernel_rfl) ?_
      simp only [GA,↓GB,GX,simprocAttr,hnt,hT,hc,hk,hd16]
      refine Imp.le [0,1] ?_
      refine LeR.of ?_ ?_ ?_ ?_ ?_ ?_ ?_ <;> first | (rw [hbl];decide) | decide | (simp only [hc,hd16,hk,sufL,GA,↓GB,GX,simprocAttr,GDs,CSs];done)
    · have n9 : M 9 = false := dN hd rfl 0 rfl rfl hd.un
      have n10 : M 10 = false := dN hd rfl 0 rfl rfl n9
      have hun := hd.un
      refine ⟨_,rfl,rfl,?_⟩
      simp only [nmC,upd,↓reduceIte,Nat.reduceEqDiff,reduceCtorEq,hun,n9,n10,CSs,List.nil_append,List.cons_append,simprocAttr]
      refine vcOp_sound ?_
      simp only [GA,↓GB,GX,simprocAttr,hnt,hT,hc,hk,hd16]
      repeat' (refine and_mk ?_ ?_;(focus first | decide | omega | rfl | assumption))
      all_goals (refine Imp.le [0,2] ?_;(refine LeR.of ?_ ?_ ?_ ?_ ?_ ?_ ?_ <;> first | (rw [hbl];decide) | decide | (simp only [hc,hd16,hk,sufL,GA,↓GB,GX,simprocAttr,GDs,CSs];done)))
    · have n7 : M 7 = false := dN hd rfl 0 rfl rfl hd.un
      have n8 : M 8 = false := dN hd rfl 0 rfl rfl n7
      have n9 : M 9 = false := dN hd rfl 1 rfl rfl n8
      have n10 : M 10 = false := dN hd rfl 0 rfl rfl n9
      have hun := hd.un
      refine ⟨_,rfl,rfl,?_⟩
      simp only [nmC,upd,↓reduceIte,Nat.reduceEqDiff,reduceCtorEq,hun,n7,n8,n9,n10,CSs,List.nil_append,List.cons_append,simprocAttr]
      refine vcOp_sound ?_
      simp only [GA,↓GB,GX,simprocAttr,hnt,hT,hc,hk,hd16]
      repeat' (refine and_mk ?_ ?_;(focus first | decide | omega | rfl | assumption))
      all_goals (refine Imp.le [0,1] ?_;(refine LeR.of ?_ ?_ ?_ ?_ ?_ ?_ ?_ <;> first | (rw [hbl];decide) | decide | (simp only [hc,hd16,hk,sufL,GA,↓GB,GX,simprocAttr,GDs,CSs];done)))
    · have m6 : M 6 = true := dD hd rfl 0 rfl rfl
      have n8 : M 8 = false := dN hd rfl 0 rfl rfl hd.un
      have n9 : M 9 = false := dN hd rfl 1 rfl rfl n8
      have n10 : M 10 = false := dN hd rfl 0 rfl rfl n9
      have hun := hd.un
      refine ⟨_,rfl,rfl,?_⟩
      simp only [nmC,upd,↓reduceIte,Nat.reduceEqDiff,reduceCtorEq,hun,m6,n8,n9,n10,CSs,List.nil_append,List.cons_append,simprocAttr]
      refine vcOp_sound ?_
      simp only [GA,↓GB,GX,simprocAttr,hnt,hT,hc,hk,hd16]
      repeat' (refine and_mk ?_ ?_;(focus first | decide | omega | rfl | assumption))
      all_goals (refine Imp.le [0,1] ?_;(refine LeR.of ?_ ?_ ?_ ?_ ?_ ?_ ?_ <;> first | (rw [hbl];decide) | decide | (simp only [hc,hd16,hk,sufL,GA,↓GB,GX,simprocAttr,GDs,CSs];done)))
    · have m7 : M 7 = true := dD hd rfl 0 rfl rfl
      have m6 : M 6 = true := dC hd rfl m7 0 rfl rfl
      have n9 : M 9 = false := dN hd rfl 1 rfl rfl hd.un
      have n10 : M 10 = false := dN hd rfl 0 rfl rfl n9
      have hun := hd.un
      refine ⟨_,rfl,rfl,?_⟩
      simp only [nmC,upd,↓reduceIte,Nat.reduceEqDiff,reduceCtorEq,hun,m7,m6,n9,n10,CSs,List.nil_append,List.cons_append,simprocAttr]
      refine vcOp_sound ?_
      simp only [GA,↓GB,GX,simprocAttr,hnt,hT,hc,hk,hd16]
      repeat' (refine and_mk ?_ ?_;(focus first | decide | omega | rfl | assumption))
      all_goals (refine Imp.le [0,1] ?_;(refine LeR.of ?_ ?_ ?_ ?_ ?_ ?_ ?_ <;> first | (rw [hbl];decide) | decide | (simp only [hc,hd16,hk,sufL,GA,↓GB,GX,simprocAttr,GDs,CSs];done)))
    · have m5 : M 5 = true := dD hd rfl 0 rfl rfl
      have m8 : M 8 = true := dD hd rfl 1 rfl rfl
      have m7 : M 7 = true := dC hd rfl m8 0 rfl rfl
      have m6 : M 6 = true := dC hd rfl m7 0 rfl rfl
      have n10 : M 10 = false := dN hd rfl 0 rfl rfl hd.un
      have hun := hd.un
      refine ⟨_,rfl,rfl,?_⟩
      simp only [nmC,upd,↓reduceIte,Nat.reduceEqDiff,reduceCtorEq,hun,m5,m8,m7,m6,n10,CSs,List.nil_append,List.cons_append,simprocAttr]
      refine vcOp_sound ?_
      simp only [GA,↓GB,GX,simprocAttr,hnt,hT,hc,hk,hd16]
      repeat' (refine and_mk ?_ ?_;(focus first | decide | omega | rfl | assumption))
      all_goals (refine Imp.le [0,1] ?_;(refine LeR.of ?_ ?_ ?_ ?_ ?_ ?_ ?_ <;> first | (rw [hbl];decide) | decide | (simp only [hc,hd16,hk,sufL,GA,↓GB,GX,simprocAttr,GDs,CSs];done)))
    · have m9 : M 9 = true := dD hd rfl 0 rfl rfl
      have m5 : M 5 = true := dC hd rfl m9 0 rfl rfl
      have m8 : M 8 = true := dC hd rfl m9 1 rfl rfl
      have m7 : M 7 = true := dC hd rfl m8 0 rfl rfl
      have m6 : M 6 = true := dC hd rfl m7 0 rfl rfl
      have hun := hd.un
      refine ⟨_,rfl,rfl,?_⟩
      simp only [nmC,upd,↓reduceIte,Nat.reduceEqDiff,reduceCtorEq,hun,m9,m5,m8,m7,m6,CSs,List.nil_append,List.cons_append,simprocAttr]
      refine vcOp_sound ?_
      simp only [GA,↓GB,GX,simprocAttr,hnt,hT,hc,hk,hd16]
      repeat' (refine and_mk ?_ ?_;(focus first | decide | omega | rfl | assumption))
      all_goals (refine Imp.le [0,1] ?_;(refine LeR.of ?_ ?_ ?_ ?_ ?_ ?_ ?_ <;> first | (rw [hbl];decide) | decide | (simp only [hc,hd16,hk,sufL,GA,↓GB,GX,simprocAttr,GDs,CSs];done)))
  simp only [nmC,cond_true,GA,↓GB,GX,simprocAttr,hnt,hT]
  repeat' (first|(refine SX.seqK ?_;intro N hN)|((first | (refine SX.ops ?_));simp only [GA,↓GB,GX,simprocAttr,hnt,hT,hc,hk,hd16])|((first | refine SX.skip ?_ | refine SX.exit ?_ | refine SX.label ?_ | refine SX.ret ?_);try simp only [GA,↓GB,GX,simprocAttr])|(refine hN _ ?_;clear hN N)|((first | refine hK _ _ (FinI.ret3 ?_) | refine hK _ _ (FinI.nrm3 ?_));simp only [GA,↓GB,GX,simprocAttr,finP_s,hnt,hT,hc,hk,hd16];refine Done.out ?_)|((first | refine SX.cond rfl (fun hb => ?_) (fun hb => ?_) | (refine bif2.mk (fun hb => ?_) (fun hb => ?_) <;> (try simp only [hb,GA,↓GB,GX,simprocAttr,hnt,hT,hc,hk,hd16]))) <;> ((first | cases hb | (simp only [HBs] at hb) | skip) <;> (first | (exfalso;omega) | skip)))|(refine and_mk ?_ ?_;(focus first | decide | omega | rfl | assumption | (simp only [LBs];omega) | (simp;done)))|(refine And.intro ?_ ?_))
  all_goals (try refine Done.mk ?_)
  all_goals ((refine hN0 _ _ ⟨[],_,_,?_,?_,?_,⟨rfl,rfl⟩⟩;(focus exact LeR.of rfl trivial (by simp only [GA,↓GB,GX,simprocAttr,GDs]) (by decide) rfl rfl rfl);rotate_left;(focus rfl));rfl)
theorem name_ctr (n : Nat) (hn : n < 256) : Ctr Tryz.prog [] 21 [] [vv (.int .u8 n)] (fun os v => os = [] ∧ v = vv (.string (B (nameL n)))) := by
  unfold nameL
  split
  · rename_i h;exact name_star n hn h
  · rename_i h
    rcases (by omega : n / 16 % 3 = 0 ∨ n / 16 % 3 = 1 ∨ n / 16 % 3 = 2) with h3 | h3 | h3 <;> rw [h3]
    · exact name_0 n hn h h3
    · exact name_1 n hn h h3
    · exact name_2 n hn h h3
end Go.Proofs.YtbdacbcpniegiaaGreatDoor
