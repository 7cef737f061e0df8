/- Own work: a part of the symbolic executor and of the walks of the functions that the claim reaches. -/
import Derived.Test.YtbdacbcpniegiaaDoorBase4
namespace Go.Proofs.YtbdacbcpniegiaaDoor
open Go Go.RowKit Go.Proofs Go.Sx
set_option maxHeartbeats 32000000
set_option maxRecDepth 100000
set_option linter.unusedSimpArgs false
set_option linter.unusedVariables false
def firstR : Code → Code
  | .seq x _ => x
  | x => x
theorem getReqM_no {e : EA} (he : e.Ok) (s : List UInt8) (hk : ¬ kindL s = 1) : Ctr Tryd.prog (GE e) 70 reqO0 [vv (.string (B s)), vv (.int .i64 1), .one (.c (.row 0))] (fun os v => os = reqO0 ∧ v = vv (errV e.k)) := by
  have hk1 : (kindL s != 1) = true := by simpa using hk
  refine Ctr.less ?_
  intro X0 hP0 hG0 N0 hN0
  refine CallVC.inline (f := 70) (by rw [hP0]; exact Tryd.func70) rfl Tryd.ntmps70 rfl (by simp) ?_
  intro X K hU hnt hbl hK
  have hP : X.P = Tryd.prog := by rw [hU.P, hP0]
  have hG := hG0.under hU
  have hT : calleeOk X.P 25 = true ∧ aggOf X.P 125 = some false ∧ szOf X.P 125 = some 1 ∧ isStrT X.P 9 = true ∧ calleeOk X.P 76 = true := by rw [hP]; exact ⟨Ty.co25, Ty.ag125, Ty.sz125, Ty.is9, Ty.co76⟩
  simp only [GA, ↓GB, List.filterMap_cons, eq_self, BEq.rfl, simprocAttr] at hbl ⊢
  repeat' (first
    | (refine SX.seqK ?_; intro N hN)
    | ((first | (refine SX.ops ?_)); simp only [GA, ↓GB, List.filterMap_cons, eq_self, BEq.rfl, simprocAttr, hnt, hT, hk1])
    | ((first | refine SX.skip ?_ | refine SX.exit ?_ | refine SX.label ?_); try simp only [GA, ↓GB, List.filterMap_cons, eq_self, BEq.rfl, simprocAttr])
    | (refine SX.cond rfl (fun hb => ?_) (fun hb => ?_) <;> ((first | cases hb | (simp only [decide_eq_true_eq, decide_eq_false_iff_not, beq_iff_eq, beq_eq_false_iff_ne, bne_iff_ne, Bool.and_eq_true, Bool.or_eq_true, Bool.not_eq_true', Bool.not_eq_false', Bool.and_eq_false_iff, Bool.or_eq_false_iff, Int.not_lt, Int.not_le] at hb) | skip) <;> (first | (exfalso; omega) | skip)))
    | (refine SX.ret ?_; try simp only [GA, ↓GB, List.filterMap_cons, eq_self, BEq.rfl, simprocAttr])
    | (refine hN _ ?_; clear hN N)
    | ((first | refine hK _ _ (FinI.ret3 ?_) | refine hK _ _ (FinI.nrm3 ?_)); simp only [GA, ↓GB, List.filterMap_cons, eq_self, BEq.rfl, simprocAttr, finP_s, hnt, hT, hk1]; refine Done.out ?_)
    | (clear hN N; first | (refine hN _ ?_; clear hN N) | (clear hN N; first | (refine hN _ ?_; clear hN N) | (clear hN N; first | (refine hN _ ?_; clear hN N) | (clear hN N; first | (refine hN _ ?_; clear hN N) | (clear hN N; first | (refine hN _ ?_; clear hN N) | (refine hN _ ?_; clear hN N))))))
    | (refine bif2.mk (fun hb => ?_) (fun hb => ?_) <;> (try simp only [hb, GA, ↓GB, List.filterMap_cons, eq_self, BEq.rfl, simprocAttr, hnt, hT, hk1]) <;> ((first | cases hb | (simp only [decide_eq_true_eq, decide_eq_false_iff_not, beq_iff_eq, beq_eq_false_iff_ne, bne_iff_ne, Bool.and_eq_true, Bool.or_eq_true, Bool.not_eq_true', Bool.not_eq_false', Bool.and_eq_false_iff, Bool.or_eq_false_iff, Int.not_lt, Int.not_le] at hb) | skip) <;> (first | (exfalso; omega) | skip)))
    | ((first | (refine CallVC.pv hP (kind_any s) rfl ?_) | (refine CallQ.pv hP (kind_any s) rfl ?_)); simp only [GA, ↓GB, List.filterMap_cons, eq_self, BEq.rfl, simprocAttr, hnt, hT, hk1])
    | (refine ldG (p := (⟨0, 0, none⟩, errV e.k)) (hG _ (GE0 e)) ?_; simp only [GA, ↓GB, List.filterMap_cons, eq_self, BEq.rfl, simprocAttr, hnt, hT])
    | (refine SX.block ?_)
    | (refine and_mk ?_ ?_; (focus first | decide | omega | rfl | assumption | (simp only [List.length_append, List.length_cons, List.length_nil, B_size]; omega) | (simp; done)))
    | (refine And.intro ?_ ?_))
  all_goals (try refine Done.mk ?_)
  all_goals ((refine hN0 _ _ ⟨[0, 1, 2, 3, 4, 5, 6, 7, 8, 9], _, _, ?_, ?_, ?_, ⟨rfl, rfl⟩⟩; (focus exact LeR.of rfl trivial (by simp only [GA, ↓GB, List.filterMap_cons, eq_self, BEq.rfl, simprocAttr, GDs]) (by decide) rfl rfl rfl); rotate_left; (focus rfl)); rfl)
theorem getReqM_yes {e : EA} (he : e.Ok) (s : List UInt8) (hs : s.length ≤ 1099511627776) (hk : kindL s = 1) : Ctr Tryd.prog (GE e) 70 reqO0 [vv (.string (B s)), vv (.int .i64 1), .one (.c (.row 0))]
    (fun os v => os = reqO (takeXB stepQ (s.drop 1) .zero).1 ∧ v = vv (okV e (takeXB stepQ (s.drop 1) .zero).2)) := by
  have hd := drop1 s
  have h1 : 1 ≤ s.length := by cases s with | nil => simp [kindL] at hk | cons _ _ => simp
  have ht := takeReq_ctr he (s.drop 1) (by rw [List.length_drop]; omega)
  generalize (takeXB stepQ (s.drop 1) .zero).1 = m at ht
  generalize (takeXB stepQ (s.drop 1) .zero).2 = ok at ht
  refine Ctr.less ?_
  intro X0 hP0 hG0 N0 hN0
  refine CallVC.inline (f := 70) (by rw [hP0]; exact Tryd.func70) rfl Tryd.ntmps70 rfl (by simp) ?_
  intro X K hU hnt hbl hK
  have hP : X.P = Tryd.prog := by rw [hU.P, hP0]
  have hG := hG0.under hU
  have hT : calleeOk X.P 25 = true ∧ aggOf X.P 125 = some false ∧ szOf X.P 125 = some 1 ∧ isStrT X.P 9 = true ∧ calleeOk X.P 76 = true := by rw [hP]; exact ⟨Ty.co25, Ty.ag125, Ty.sz125, Ty.is9, Ty.co76⟩
  simp only [GA, ↓GB, List.filterMap_cons, eq_self, BEq.rfl, simprocAttr] at hbl ⊢
  repeat' (first
    | (refine SX.seqK ?_; intro N hN)
    | ((first | (refine SX.ops ?_)); simp only [GA, ↓GB, List.filterMap_cons, eq_self, BEq.rfl, simprocAttr, hnt, hT, hk, hd])
    | ((first | refine SX.skip ?_ | refine SX.exit ?_ | refine SX.label ?_); try simp only [GA, ↓GB, List.filterMap_cons, eq_self, BEq.rfl, simprocAttr])
    | (refine SX.cond rfl (fun hb => ?_) (fun hb => ?_) <;> ((first | cases hb | (simp only [decide_eq_true_eq, decide_eq_false_iff_not, beq_iff_eq, beq_eq_false_iff_ne, bne_iff_ne, Bool.and_eq_true, Bool.or_eq_true, Bool.not_eq_true', Bool.not_eq_false', Bool.and_eq_false_iff, Bool.or_eq_false_iff, Int.not_lt, Int.not_le] at hb) | skip) <;> (first | (exfalso; omega) | skip)))
    | (refine SX.ret ?_; try simp only [GA, ↓GB, List.filterMap_cons, eq_self, BEq.rfl, simprocAttr])
    | (refine hN _ ?_; clear hN N)
    | ((first | refine hK _ _ (FinI.ret3 ?_) | refine hK _ _ (FinI.nrm3 ?_)); simp only [GA, ↓GB, List.filterMap_cons, eq_self, BEq.rfl, simprocAttr, finP_s, hnt, hT, hk, hd]; refine Done.out ?_)
    | (clear hN N; first | (refine hN _ ?_; clear hN N) | (clear hN N; first | (refine hN _ ?_; clear hN N) | (clear hN N; first | (refine hN _ ?_; clear hN N) | (clear hN N; first | (refine hN _ ?_; clear hN N) | (clear hN N; first | (refine hN _ ?_; clear hN N) | (refine hN _ ?_; clear hN N))))))
    | (refine bif2.mk (fun hb => ?_) (fun hb => ?_) <;> (try simp only [hb, GA, ↓GB, List.filterMap_cons, eq_self, BEq.rfl, simprocAttr, hnt, hT, hk, hd]) <;> ((first | cases hb | (simp only [decide_eq_true_eq, decide_eq_false_iff_not, beq_iff_eq, beq_eq_false_iff_ne, bne_iff_ne, Bool.and_eq_true, Bool.or_eq_true, Bool.not_eq_true', Bool.not_eq_false', Bool.and_eq_false_iff, Bool.or_eq_false_iff, Int.not_lt, Int.not_le] at hb) | skip) <;> (first | (exfalso; omega) | skip)))
    | ((first | (refine CallVC.pv hP (kind_any s) rfl ?_) | (refine CallQ.pv hP (kind_any s) rfl ?_) | (refine Ctr.use (ht) hP hG [0,1,2,3,4,5,6,7,8,9] ?_ rfl rfl ?_; (focus (refine LeR.of rfl trivial ?_ ?_ ?_ ?_ ?_ <;> first | decide | (simp only [GA, ↓GB, List.filterMap_cons, eq_self, BEq.rfl, simprocAttr, GDs]; done))); intro os' s hR; obtain ⟨rfl, rfl⟩ := hR)); simp only [GA, ↓GB, List.filterMap_cons, eq_self, BEq.rfl, simprocAttr, hnt, hT, hk, hd])
    | (refine SX.block ?_)
    | (refine and_mk ?_ ?_; (focus first | decide | omega | rfl | assumption | (simp only [List.length_append, List.length_cons, List.length_nil, B_size]; omega) | (simp; done)))
    | (refine And.intro ?_ ?_))
  all_goals (try refine Done.mk ?_)
  all_goals ((refine hN0 _ _ ⟨[0, 1, 2, 3, 4, 5, 6, 7, 8, 9, 10, 11, 12], _, _, ?_, ?_, ?_, ⟨rfl, rfl⟩⟩; (focus exact LeR.of rfl trivial (by simp only [GA, ↓GB, List.filterMap_cons, eq_self, BEq.rfl, simprocAttr, GDs]) (by decide) rfl rfl rfl); rotate_left; (focus rfl)); rfl)
def grC (s : List UInt8) (M : Nat → Bool) : Cfg :=
  ⟨[(24, bif M 20 then .one (.c (.row 5)) else ddd), (23, bif M 18 then .one (.agg [.v (.int .i64 2), .clo 125 [] [.loc 11 0]]) else ddd), (22, bif M 17 then .one (.c (.loc 1 6)) else ddd), (21, bif M 15 then .one (.agg [.v (.int .i64 2), .clo 75 [] [.loc 1 0]]) else ddd), (20, bif M 13 then .one (.agg [.v (.int .i64 2), .clo 129 [] [.loc 10 0]]) else ddd), (19, bif M 12 then .one (.c (.loc 1 4)) else ddd), (18, bif M 10 then .one (.agg [.v (.int .i64 2), .clo 129 [] [.loc 9 0]]) else ddd), (17, bif M 9 then .one (.c (.loc 1 3)) else ddd), (16, bif M 7 then .one (.agg [.v (.int .i64 0), .clo 124 [] [.loc 8 0]]) else ddd), (15, bif M 6 then .one (.c (.loc 1 2)) else ddd), (14, bif M 4 then .one (.agg [.v (.int .i64 0), .clo 124 [] [.loc 7 0]]) else ddd), (13, bif M 2 then .one (.agg [.v (.int .i64 0), .clo 124 [] [.loc 6 0]]) else ddd), (12, bif M 1 then .one (.c (.row 5)) else ddd), (11, bif M 0 then vv (.string (B s)) else ddd), (0, vv (.string (B s))), (2, .one (.c (.loc 0 0))), (3, vv (.bool false)), (4, .one (.c (.loc 1 0))), (5, .one (.c (.loc 2 0))), (6, .one (.c (.loc 3 0))), (7, .one (.c (.loc 4 0)))],
   [.cells [.v (.int .i64 0), .v (.bool false), .v (.int .u64 0), .v (.slice none 0 0), .v (.slice none 0 0), .v (.slice none 0 0), .v (.string (B []))] 41, .cells [.v (.int .i64 0), .v (.bool false), .v (.int .u64 0), .v (.slice none 0 0), .v (.slice none 0 0), .v (.slice none 0 0), .v (.string (B []))] 41, .cells [.v (.int .u64 0)] 22, .cells [.v (.int .u64 0)] 22, .cells [.v (.int .i64 2), .clo 75 [] [.loc 1 0]] 134, bif M 1 then .map ((bif M 3 then [(.int .i64 1, .agg [.v (.int .i64 0), .clo 124 [] [.loc 6 0]])] else []) ++ ((bif M 5 then [(.int .i64 2, .agg [.v (.int .i64 0), .clo 124 [] [.loc 7 0]])] else []) ++ ((bif M 8 then [(.int .i64 3, .agg [.v (.int .i64 0), .clo 124 [] [.loc 8 0]])] else []) ++ ((bif M 11 then [(.int .i64 4, .agg [.v (.int .i64 2), .clo 129 [] [.loc 9 0]])] else []) ++ ((bif M 14 then [(.int .i64 5, .agg [.v (.int .i64 2), .clo 129 [] [.loc 10 0]])] else []) ++ ((bif M 16 then [(.int .i64 6, .agg [.v (.int .i64 2), .clo 75 [] [.loc 1 0]])] else []) ++ ((bif M 19 then [(.int .i64 7, .agg [.v (.int .i64 2), .clo 125 [] [.loc 11 0]])] else [])))))))) else .gone, bif M 2 then .cells [.loc 2 0] 136 else .gone, bif M 4 then .cells [.loc 3 0] 136 else .gone, bif M 7 then .cells [.loc 1 2] 136 else .gone, bif M 10 then .cells [.loc 1 3] 146 else .gone, bif M 13 then .cells [.loc 1 4] 146 else .gone, bif M 18 then .cells [.loc 1 6] 138 else .gone]⟩
theorem gr_region {X : Ctx} (hP : X.P = Tryd.prog) (hnt : X.nt = 46) (hbl : X.base.length = 0) (s : List UInt8) (N : Cfg → Prop) (K : Exit → Cfg → Prop)
    (hk : CallVC X (grC s (fun _ => true)) 70 [vv (.string (B s)), vv (.int .i64 1), .one (.c (.row 5))] fun c' v => K .normal { env := (8, v) :: (25, v) :: c'.env, loc := c'.loc }) : SX X (firstR (sub [true, true, true, true] (Tryd.f24.body.getD .skip))) ⟨[(0, vv (.string (B s))), (2, .one (.c (.loc 0 0))), (3, vv (.bool false)), (4, .one (.c (.loc 1 0))), (5, .one (.c (.loc 2 0))), (6, .one (.c (.loc 3 0))), (7, .one (.c (.loc 4 0)))], [.cells [.v (.int .i64 0), .v (.bool false), .v (.int .u64 0), .v (.slice none 0 0), .v (.slice none 0 0), .v (.slice none 0 0), .v (.string (B []))] 41, .cells [.v (.int .i64 0), .v (.bool false), .v (.int .u64 0), .v (.slice none 0 0), .v (.slice none 0 0), .v (.slice none 0 0), .v (.string (B []))] 41, .cells [.v (.int .u64 0)] 22, .cells [.v (.int .u64 0)] 22, .cells [.v (.int .i64 2), .clo 75 [] [.loc 1 0]] 134]⟩ K := by
  have hT : zeroCells X.P 41 = some [(Value.int IntKind.i64 0), (Value.bool false), (Value.int IntKind.u64 0), (Value.slice none 0 0), (Value.slice none 0 0), (Value.slice none 0 0), (Value.string { data := #[] })] ∧ zeroCells X.P 22 = some [(Value.int IntKind.u64 0)] ∧ calleeOk X.P 75 = true ∧ fieldsOf X.P 134 = some [(0, 1), (1, 1)] ∧ zeroCells X.P 134 = some [(Value.int IntKind.i64 0), Value.nilFunc] ∧ szOf X.P 134 = some 2 ∧ calleeOk X.P 71 = true ∧ mapInf X.P 139 = some ((TypeDesc.int IntKind.i64), (Value.agg #[(Value.int IntKind.i64 0), Value.nilFunc])) ∧ fieldOff X.P 41 2 = some 2 ∧ fieldOff X.P 41 3 = some 3 ∧ calleeOk X.P 77 = true ∧ fieldOff X.P 41 4 = some 4 ∧ aggOf X.P 134 = some true ∧ fieldOff X.P 41 6 = some 6 ∧ calleeOk X.P 72 = true ∧ calleeOk X.P 70 = true ∧ aggOf X.P 22 = some false ∧ szOf X.P 22 = some 1 ∧ X.P.underlying 22 = some (TypeDesc.int IntKind.u64) ∧ X.P.underlying 3 = some (TypeDesc.int IntKind.i64) ∧ isBytesT X.P 22 = false ∧ isStrT X.P 3 = false ∧ fieldOff X.P 41 0 = some 0 ∧ szOf X.P 3 = some 1 ∧ fieldOff X.P 41 1 = some 1 ∧ szOf X.P 4 = some 1 ∧ calleeOk X.P 73 = true ∧ aggOf X.P 41 = some true ∧ szOf X.P 41 = some 7 ∧ calleeOk X.P 42 = true ∧ fieldsOf X.P 41 = some [(0, 1), (1, 1), (2, 1), (3, 1), (4, 1), (5, 1), (6, 1)] := by rw [hP]; exact ⟨Ty.ze41, Ty.ze22, Ty.co75, Ty.fs134, Ty.ze134, Ty.sz134, Ty.co71, Ty.mi139, Ty.fo41_2, Ty.fo41_3, Ty.co77, Ty.fo41_4, Ty.ag134, Ty.fo41_6, Ty.co72, Ty.co70, Ty.ag22, Ty.sz22, Tryd.underlying22, Tryd.underlying3, Ty.ib22, Ty.is3, Ty.fo41_0, Ty.sz3, Ty.fo41_1, Ty.sz4, Ty.co73, Ty.ag41, Ty.sz41, Ty.co42, Ty.fs41⟩
  simp only [sub, firstR, Tryd.f24, Option.getD_some]
  have hag : aggOf X.P 134 = some true := by rw [hP]; kernel_rfl
  refine SX.dia (id := 4) [0, 1, 2, 3, 4, 5, 6, 7, 8, 9, 10, 11, 12, 13, 14, 15, 16, 17, 18, 19, 20] (grC s) [.s 21, .s 22] (grC s (fun _ => true)) ?_ ?_ ?_ ?_ rfl ?_
  · rw [hP]; kernel_rfl
  · kernel_rfl
  · refine Imp.trans (Imp.le [0, 1, 2, 3, 4] (d := ⟨[(0, vv (.string (B s))), (2, .one (.c (.loc 0 0))), (3, vv (.bool false)), (4, .one (.c (.loc 1 0))), (5, .one (.c (.loc 2 0))), (6, .one (.c (.loc 3 0))), (7, .one (.c (.loc 4 0)))], [.cells [.v (.int .i64 0), .v (.bool false), .v (.int .u64 0), .v (.slice none 0 0), .v (.slice none 0 0), .v (.slice none 0 0), .v (.string (B []))] 41, .cells [.v (.int .i64 0), .v (.bool false), .v (.int .u64 0), .v (.slice none 0 0), .v (.slice none 0 0), .v (.slice none 0 0), .v (.string (B []))] 41, .cells [.v (.int .u64 0)] 22, .cells [.v (.int .u64 0)] 22, .cells [.v (.int .i64 2), .clo 75 [] [.loc 1 0]] 134]⟩) (by (refine LeR.of ?_ ?_ ?_ ?_ ?_ ?_ ?_ <;> first | (rw [hbl]; decide) | decide | (simp only [GA, ↓GB, List.filterMap_cons, eq_self, BEq.rfl, simprocAttr, GDs]; done) | (simp only [GA, ↓GB, List.filterMap_cons, eq_self, BEq.rfl, simprocAttr, GDs]; rfl; done)))) ?_
    refine Imp.trans (Imp.dead (t := 11) (by rw [hnt]; decide)) ?_
    refine Imp.trans (Imp.dead (t := 12) (by rw [hnt]; decide)) ?_
    refine Imp.trans (Imp.dead (t := 13) (by rw [hnt]; decide)) ?_
    refine Imp.trans (Imp.dead (t := 14) (by rw [hnt]; decide)) ?_
    refine Imp.trans (Imp.dead (t := 15) (by rw [hnt]; decide)) ?_
    refine Imp.trans (Imp.dead (t := 16) (by rw [hnt]; decide)) ?_
    refine Imp.trans (Imp.dead (t := 17) (by rw [hnt]; decide)) ?_
    refine Imp.trans (Imp.dead (t := 18) (by rw [hnt]; decide)) ?_
    refine Imp.trans (Imp.dead (t := 19) (by rw [hnt]; decide)) ?_
    refine Imp.trans (Imp.dead (t := 20) (by rw [hnt]; decide)) ?_
    refine Imp.trans (Imp.dead (t := 21) (by rw [hnt]; decide)) ?_
    refine Imp.trans (Imp.dead (t := 22) (by rw [hnt]; decide)) ?_
    refine Imp.trans (Imp.dead (t := 23) (by rw [hnt]; decide)) ?_
    refine Imp.trans (Imp.dead (t := 24) (by rw [hnt]; decide)) ?_
    refine Imp.trans Imp.gone ?_
    refine Imp.trans Imp.gone ?_
    refine Imp.trans Imp.gone ?_
    refine Imp.trans Imp.gone ?_
    refine Imp.trans Imp.gone ?_
    refine Imp.trans Imp.gone ?_
    refine Imp.trans Imp.gone ?_
    exact Imp.refl
  · rintro M i hi hd
    simp only [List.mem_cons, List.not_mem_nil, or_false] at hi
    rcases hi with rfl | rfl | rfl | rfl | rfl | rfl | rfl | rfl | rfl | rfl | rfl | rfl | rfl | rfl | rfl | rfl | rfl | rfl | rfl | rfl | rfl
    · skip
      have hun := hd.un
      refine ⟨_, rfl, rfl, ?_⟩
      simp only [grC, upd, ↓reduceIte, Nat.reduceEqDiff, reduceCtorEq, hun, ren_cond, okB_cond, lren_cond, lokB_cond, map_cond, all_cond, Bool.cond_self, cond_true, cond_false, List.map_append, List.all_append, List.map_cons, List.map_nil, Bool.and_true, List.nil_append, List.cons_append, simprocAttr]
      refine vcOp_sound ?_
      simp only [GA, ↓GB, List.filterMap_cons, eq_self, BEq.rfl, simprocAttr, hnt, hT]
      have hnt1 := True.intro; have hT1 := True.intro; have hU1P := True.intro
      repeat' (first
        | (refine SX.seqK ?_; intro N hN)
        | ((first | (refine SX.ops ?_)); simp only [GA, ↓GB, List.filterMap_cons, eq_self, BEq.rfl, simprocAttr, hnt, hT, hnt1, hT1, hU1P, hag])
        | ((first | refine SX.skip ?_ | refine SX.exit ?_ | refine SX.label ?_); try simp only [GA, ↓GB, List.filterMap_cons, eq_self, BEq.rfl, simprocAttr])
        | (refine SX.cond rfl (fun hb => ?_) (fun hb => ?_) <;> ((first | cases hb | (simp only [decide_eq_true_eq, decide_eq_false_iff_not, beq_iff_eq, beq_eq_false_iff_ne, bne_iff_ne, Bool.and_eq_true, Bool.or_eq_true, Bool.not_eq_true', Bool.not_eq_false', Bool.and_eq_false_iff, Bool.or_eq_false_iff, Int.not_lt, Int.not_le] at hb) | skip) <;> (first | (exfalso; omega) | skip)))
        | (refine SX.ret ?_; try simp only [GA, ↓GB, List.filterMap_cons, eq_self, BEq.rfl, simprocAttr])
        | (refine hN _ ?_; clear hN N)
        | ((first | refine hK1 _ _ (FinI.ret3 ?_) | refine hK1 _ _ (FinI.nrm3 ?_)); (repeat (clear hN N)); clear hK1 K1; simp only [GA, ↓GB, List.filterMap_cons, eq_self, BEq.rfl, simprocAttr, finP_s, hnt, hT, hnt1, hT1, hU1P, hag])
        | ((first | refine hK _ _ (FinI.ret3 ?_) | refine hK _ _ (FinI.nrm3 ?_)); simp only [GA, ↓GB, List.filterMap_cons, eq_self, BEq.rfl, simprocAttr, finP_s, hnt, hT, hnt1, hT1, hU1P, hag]; refine Done.out ?_)
        | (clear hN N; first | (refine hN _ ?_; clear hN N) | (clear hN N; first | (refine hN _ ?_; clear hN N) | (clear hN N; first | (refine hN _ ?_; clear hN N) | (clear hN N; first | (refine hN _ ?_; clear hN N) | (clear hN N; first | (refine hN _ ?_; clear hN N) | (refine hN _ ?_; clear hN N))))))
        | (refine bif2.mk (fun hb => ?_) (fun hb => ?_) <;> (try simp only [hb, GA, ↓GB, List.filterMap_cons, eq_self, BEq.rfl, simprocAttr, hnt, hT, hnt1, hT1, hU1P, hag]) <;> ((first | cases hb | (simp only [decide_eq_true_eq, decide_eq_false_iff_not, beq_iff_eq, beq_eq_false_iff_ne, bne_iff_ne, Bool.and_eq_true, Bool.or_eq_true, Bool.not_eq_true', Bool.not_eq_false', Bool.and_eq_false_iff, Bool.or_eq_false_iff, Int.not_lt, Int.not_le] at hb) | skip) <;> (first | (exfalso; omega) | skip)))
        | (refine CallVC.inline (f := 71) ?_ rfl Tryd.ntmps71 rfl ?_ ?_; (focus rw [hP]; exact Tryd.func71); (focus simp); have hT1 : zeroCells X.P 134 = some [(Value.int IntKind.i64 0), Value.nilFunc] ∧ calleeOk X.P 124 = true ∧ fieldsOf X.P 134 = some [(0, 1), (1, 1)] ∧ szOf X.P 134 = some 2 := (by rw [hP]; exact ⟨Ty.ze134, Ty.co124, Ty.fs134, Ty.sz134⟩); intro X1 K1 hU1 hnt1 hbl1 hK1; have hU1P := hU1.P; simp only [GA, ↓GB, List.filterMap_cons, eq_self, BEq.rfl, simprocAttr] at hbl1 ⊢)
        | (refine CallVC.inline (f := 72) ?_ rfl Tryd.ntmps72 rfl ?_ ?_; (focus rw [hP]; exact Tryd.func72); (focus simp); have hT1 : zeroCells X.P 134 = some [(Value.int IntKind.i64 0), Value.nilFunc] ∧ calleeOk X.P 125 = true ∧ fieldsOf X.P 134 = some [(0, 1), (1, 1)] ∧ szOf X.P 134 = some 2 := (by rw [hP]; exact ⟨Ty.ze134, Ty.co125, Ty.fs134, Ty.sz134⟩); intro X1 K1 hU1 hnt1 hbl1 hK1; have hU1P := hU1.P; simp only [GA, ↓GB, List.filterMap_cons, eq_self, BEq.rfl, simprocAttr] at hbl1 ⊢)
        | (refine CallVC.inline (f := 77) ?_ rfl Tryd.ntmps77 rfl ?_ ?_; (focus rw [hP]; exact Tryd.func77); (focus simp); have hT1 : zeroCells X.P 134 = some [(Value.int IntKind.i64 0), Value.nilFunc] ∧ calleeOk X.P 129 = true ∧ fieldsOf X.P 134 = some [(0, 1), (1, 1)] ∧ szOf X.P 134 = some 2 := (by rw [hP]; exact ⟨Ty.ze134, Ty.co129, Ty.fs134, Ty.sz134⟩); intro X1 K1 hU1 hnt1 hbl1 hK1; have hU1P := hU1.P; simp only [GA, ↓GB, List.filterMap_cons, eq_self, BEq.rfl, simprocAttr] at hbl1 ⊢)
        | (refine SX.block ?_)
        | (refine and_mk ?_ ?_; (focus first | decide | omega | rfl | assumption | (simp only [List.length_append, List.length_cons, List.length_nil, B_size]; omega) | (simp; done)))
        | (refine And.intro ?_ ?_))
      all_goals (try refine Done.mk ?_)
      all_goals (refine Imp.le [0, 1, 2, 3, 4, 5, 6, 7, 8, 9, 10, 11] ?_; (refine LeR.of ?_ ?_ ?_ ?_ ?_ ?_ ?_ <;> first | (rw [hbl]; decide) | decide | (simp only [GA, ↓GB, List.filterMap_cons, eq_self, BEq.rfl, simprocAttr, GDs, ren_cond, okB_cond, lren_cond, lokB_cond, map_cond, all_cond, Bool.cond_self, cond_true, cond_false, List.map_append, List.all_append, List.map_cons, List.map_nil, Bool.and_true]; done)))
    · have n3 : M 3 = false := dNot hd rfl (Array.mem_of_getElem? (i := 0) rfl) rfl hd.un
      have n5 : M 5 = false := dNot hd rfl (Array.mem_of_getElem? (i := 0) rfl) rfl hd.un
      have n8 : M 8 = false := dNot hd rfl (Array.mem_of_getElem? (i := 0) rfl) rfl hd.un
      have n11 : M 11 = false := dNot hd rfl (Array.mem_of_getElem? (i := 0) rfl) rfl hd.un
      have n14 : M 14 = false := dNot hd rfl (Array.mem_of_getElem? (i := 0) rfl) rfl hd.un
      have n16 : M 16 = false := dNot hd rfl (Array.mem_of_getElem? (i := 0) rfl) rfl hd.un
      have n19 : M 19 = false := dNot hd rfl (Array.mem_of_getElem? (i := 0) rfl) rfl hd.un
      have n20 : M 20 = false := dNot hd rfl (Array.mem_of_getElem? (i := 0) rfl) rfl hd.un
      have hun := hd.un
      refine ⟨_, rfl, rfl, ?_⟩
      simp only [grC, upd, ↓reduceIte, Nat.reduceEqDiff, reduceCtorEq, hun, n3, n5, n8, n11, n14, n16, n19, n20, ren_cond, okB_cond, lren_cond, lokB_cond, map_cond, all_cond, Bool.cond_self, cond_true, cond_false, List.map_append, List.all_append, List.map_cons, List.map_nil, Bool.and_true, List.nil_append, List.cons_append, simprocAttr]
      refine vcOp_sound ?_
      simp only [GA, ↓GB, List.filterMap_cons, eq_self, BEq.rfl, simprocAttr, hnt, hT]
      have hnt1 := True.intro; have hT1 := True.intro; have hU1P := True.intro
      repeat' (first
        | (refine SX.seqK ?_; intro N hN)
        | ((first | (refine SX.ops ?_)); simp only [GA, ↓GB, List.filterMap_cons, eq_self, BEq.rfl, simprocAttr, hnt, hT, hnt1, hT1, hU1P, hag])
        | ((first | refine SX.skip ?_ | refine SX.exit ?_ | refine SX.label ?_); try simp only [GA, ↓GB, List.filterMap_cons, eq_self, BEq.rfl, simprocAttr])
        | (refine SX.cond rfl (fun hb => ?_) (fun hb => ?_) <;> ((first | cases hb | (simp only [decide_eq_true_eq, decide_eq_false_iff_not, beq_iff_eq, beq_eq_false_iff_ne, bne_iff_ne, Bool.and_eq_true, Bool.or_eq_true, Bool.not_eq_true', Bool.not_eq_false', Bool.and_eq_false_iff, Bool.or_eq_false_iff, Int.not_lt, Int.not_le] at hb) | skip) <;> (first | (exfalso; omega) | skip)))
        | (refine SX.ret ?_; try simp only [GA, ↓GB, List.filterMap_cons, eq_self, BEq.rfl, simprocAttr])
        | (refine hN _ ?_; clear hN N)
        | ((first | refine hK1 _ _ (FinI.ret3 ?_) | refine hK1 _ _ (FinI.nrm3 ?_)); (repeat (clear hN N)); clear hK1 K1; simp only [GA, ↓GB, List.filterMap_cons, eq_self, BEq.rfl, simprocAttr, finP_s, hnt, hT, hnt1, hT1, hU1P, hag])
        | ((first | refine hK _ _ (FinI.ret3 ?_) | refine hK _ _ (FinI.nrm3 ?_)); simp only [GA, ↓GB, List.filterMap_cons, eq_self, BEq.rfl, simprocAttr, finP_s, hnt, hT, hnt1, hT1, hU1P, hag]; refine Done.out ?_)
        | (clear hN N; first | (refine hN _ ?_; clear hN N) | (clear hN N; first | (refine hN _ ?_; clear hN N) | (clear hN N; first | (refine hN _ ?_; clear hN N) | (clear hN N; first | (refine hN _ ?_; clear hN N) | (clear hN N; first | (refine hN _ ?_; clear hN N) | (refine hN _ ?_; clear hN N))))))
        | (refine bif2.mk (fun hb => ?_) (fun hb => ?_) <;> (try simp only [hb, GA, ↓GB, List.filterMap_cons, eq_self, BEq.rfl, simprocAttr, hnt, hT, hnt1, hT1, hU1P, hag]) <;> ((first | cases hb | (simp only [decide_eq_true_eq, decide_eq_false_iff_not, beq_iff_eq, beq_eq_false_iff_ne, bne_iff_ne, Bool.and_eq_true, Bool.or_eq_true, Bool.not_eq_true', Bool.not_eq_false', Bool.and_eq_false_iff, Bool.or_eq_false_iff, Int.not_lt, Int.not_le] at hb) | skip) <;> (first | (exfalso; omega) | skip)))
        | (refine CallVC.inline (f := 71) ?_ rfl Tryd.ntmps71 rfl ?_ ?_; (focus rw [hP]; exact Tryd.func71); (focus simp); have hT1 : zeroCells X.P 134 = some [(Value.int IntKind.i64 0), Value.nilFunc] ∧ calleeOk X.P 124 = true ∧ fieldsOf X.P 134 = some [(0, 1), (1, 1)] ∧ szOf X.P 134 = some 2 := (by rw [hP]; exact ⟨Ty.ze134, Ty.co124, Ty.fs134, Ty.sz134⟩); intro X1 K1 hU1 hnt1 hbl1 hK1; have hU1P := hU1.P; simp only [GA, ↓GB, List.filterMap_cons, eq_self, BEq.rfl, simprocAttr] at hbl1 ⊢)
        | (refine CallVC.inline (f := 72) ?_ rfl Tryd.ntmps72 rfl ?_ ?_; (focus rw [hP]; exact Tryd.func72); (focus simp); have hT1 : zeroCells X.P 134 = some [(Value.int IntKind.i64 0), Value.nilFunc] ∧ calleeOk X.P 125 = true ∧ fieldsOf X.P 134 = some [(0, 1), (1, 1)] ∧ szOf X.P 134 = some 2 := (by rw [hP]; exact ⟨Ty.ze134, Ty.co125, Ty.fs134, Ty.sz134⟩); intro X1 K1 hU1 hnt1 hbl1 hK1; have hU1P := hU1.P; simp only [GA, ↓GB, List.filterMap_cons, eq_self, BEq.rfl, simprocAttr] at hbl1 ⊢)
        | (refine CallVC.inline (f := 77) ?_ rfl Tryd.ntmps77 rfl ?_ ?_; (focus rw [hP]; exact Tryd.func77); (focus simp); have hT1 : zeroCells X.P 134 = some [(Value.int IntKind.i64 0), Value.nilFunc] ∧ calleeOk X.P 129 = true ∧ fieldsOf X.P 134 = some [(0, 1), (1, 1)] ∧ szOf X.P 134 = some 2 := (by rw [hP]; exact ⟨Ty.ze134, Ty.co129, Ty.fs134, Ty.sz134⟩); intro X1 K1 hU1 hnt1 hbl1 hK1; have hU1P := hU1.P; simp only [GA, ↓GB, List.filterMap_cons, eq_self, BEq.rfl, simprocAttr] at hbl1 ⊢)
        | (refine SX.block ?_)
        | (refine and_mk ?_ ?_; (focus first | decide | omega | rfl | assumption | (simp only [List.length_append, List.length_cons, List.length_nil, B_size]; omega) | (simp; done)))
        | (refine And.intro ?_ ?_))
      all_goals (try refine Done.mk ?_)
      all_goals (refine Imp.le [0, 1, 2, 3, 4, 12, 6, 7, 8, 9, 10, 11] ?_; (refine LeR.of ?_ ?_ ?_ ?_ ?_ ?_ ?_ <;> first | (rw [hbl]; decide) | decide | (simp only [GA, ↓GB, List.filterMap_cons, eq_self, BEq.rfl, simprocAttr, GDs, ren_cond, okB_cond, lren_cond, lokB_cond, map_cond, all_cond, Bool.cond_self, cond_true, cond_false, List.map_append, List.all_append, List.map_cons, List.map_nil, Bool.and_true]; done)))
    · have n3 : M 3 = false := dNot hd rfl (Array.mem_of_getElem? (i := 1) rfl) rfl hd.un
      have n4 : M 4 = false := dNot hd rfl (Array.mem_of_getElem? (i := 0) rfl) rfl hd.un
      have n5 : M 5 = false := dNot hd rfl (Array.mem_of_getElem? (i := 1) rfl) rfl n4
      have n7 : M 7 = false := dNot hd rfl (Array.mem_of_getElem? (i := 1) rfl) rfl n4
      have n8 : M 8 = false := dNot hd rfl (Array.mem_of_getElem? (i := 1) rfl) rfl n7
      have n10 : M 10 = false := dNot hd rfl (Array.mem_of_getElem? (i := 1) rfl) rfl n7
      have n11 : M 11 = false := dNot hd rfl (Array.mem_of_getElem? (i := 1) rfl) rfl n10
      have n13 : M 13 = false := dNot hd rfl (Array.mem_of_getElem? (i := 1) rfl) rfl n10
      have n14 : M 14 = false := dNot hd rfl (Array.mem_of_getElem? (i := 1) rfl) rfl n13
      have n18 : M 18 = false := dNot hd rfl (Array.mem_of_getElem? (i := 1) rfl) rfl n13
      have n19 : M 19 = false := dNot hd rfl (Array.mem_of_getElem? (i := 1) rfl) rfl n18
      have n20 : M 20 = false := dNot hd rfl (Array.mem_of_getElem? (i := 1) rfl) rfl hd.un
      have hun := hd.un
      refine ⟨_, rfl, rfl, ?_⟩
      simp only [grC, upd, ↓reduceIte, Nat.reduceEqDiff, reduceCtorEq, hun, n3, n4, n5, n7, n8, n10, n11, n13, n14, n18, n19, n20, ren_cond, okB_cond, lren_cond, lokB_cond, map_cond, all_cond, Bool.cond_self, cond_true, cond_false, List.map_append, List.all_append, List.map_cons, List.map_nil, Bool.and_true, List.nil_append, List.cons_append, simprocAttr]
      refine vcOp_sound ?_
      simp only [GA, ↓GB, List.filterMap_cons, eq_self, BEq.rfl, simprocAttr, hnt, hT]
      have hnt1 := True.intro; have hT1 := True.intro; have hU1P := True.intro
      repeat' (first
        | (refine SX.seqK ?_; intro N hN)
        | ((first | (refine SX.ops ?_)); simp only [GA, ↓GB, List.filterMap_cons, eq_self, BEq.rfl, simprocAttr, hnt, hT, hnt1, hT1, hU1P, hag])
        | ((first | refine SX.skip ?_ | refine SX.exit ?_ | refine SX.label ?_); try simp only [GA, ↓GB, List.filterMap_cons, eq_self, BEq.rfl, simprocAttr])
        | (refine SX.cond rfl (fun hb => ?_) (fun hb => ?_) <;> ((first | cases hb | (simp only [decide_eq_true_eq, decide_eq_false_iff_not, beq_iff_eq, beq_eq_false_iff_ne, bne_iff_ne, Bool.and_eq_true, Bool.or_eq_true, Bool.not_eq_true', Bool.not_eq_false', Bool.and_eq_false_iff, Bool.or_eq_false_iff, Int.not_lt, Int.not_le] at hb) | skip) <;> (first | (exfalso; omega) | skip)))
        | (refine SX.ret ?_; try simp only [GA, ↓GB, List.filterMap_cons, eq_self, BEq.rfl, simprocAttr])
        | (refine hN _ ?_; clear hN N)
        | ((first | refine hK1 _ _ (FinI.ret3 ?_) | refine hK1 _ _ (FinI.nrm3 ?_)); (repeat (clear hN N)); clear hK1 K1; simp only [GA, ↓GB, List.filterMap_cons, eq_self, BEq.rfl, simprocAttr, finP_s, hnt, hT, hnt1, hT1, hU1P, hag])
        | ((first | refine hK _ _ (FinI.ret3 ?_) | refine hK _ _ (FinI.nrm3 ?_)); simp only [GA, ↓GB, List.filterMap_cons, eq_self, BEq.rfl, simprocAttr, finP_s, hnt, hT, hnt1, hT1, hU1P, hag]; refine Done.out ?_)
        | (clear hN N; first | (refine hN _ ?_; clear hN N) | (clear hN N; first | (refine hN _ ?_; clear hN N) | (clear hN N; first | (refine hN _ ?_; clear hN N) | (clear hN N; first | (refine hN _ ?_; clear hN N) | (clear hN N; first | (refine hN _ ?_; clear hN N) | (refine hN _ ?_; clear hN N))))))
        | (refine bif2.mk (fun hb => ?_) (fun hb => ?_) <;> (try simp only [hb, GA, ↓GB, List.filterMap_cons, eq_self, BEq.rfl, simprocAttr, hnt, hT, hnt1, hT1, hU1P, hag]) <;> ((first | cases hb | (simp only [decide_eq_true_eq, decide_eq_false_iff_not, beq_iff_eq, beq_eq_false_iff_ne, bne_iff_ne, Bool.and_eq_true, Bool.or_eq_true, Bool.not_eq_true', Bool.not_eq_false', Bool.and_eq_false_iff, Bool.or_eq_false_iff, Int.not_lt, Int.not_le] at hb) | skip) <;> (first | (exfalso; omega) | skip)))
        | (refine CallVC.inline (f := 71) ?_ rfl Tryd.ntmps71 rfl ?_ ?_; (focus rw [hP]; exact Tryd.func71); (focus simp); have hT1 : zeroCells X.P 134 = some [(Value.int IntKind.i64 0), Value.nilFunc] ∧ calleeOk X.P 124 = true ∧ fieldsOf X.P 134 = some [(0, 1), (1, 1)] ∧ szOf X.P 134 = some 2 := (by rw [hP]; exact ⟨Ty.ze134, Ty.co124, Ty.fs134, Ty.sz134⟩); intro X1 K1 hU1 hnt1 hbl1 hK1; have hU1P := hU1.P; simp only [GA, ↓GB, List.filterMap_cons, eq_self, BEq.rfl, simprocAttr] at hbl1 ⊢)
        | (refine CallVC.inline (f := 72) ?_ rfl Tryd.ntmps72 rfl ?_ ?_; (focus rw [hP]; exact Tryd.func72); (focus simp); have hT1 : zeroCells X.P 134 = some [(Value.int IntKind.i64 0), Value.nilFunc] ∧ calleeOk X.P 125 = true ∧ fieldsOf X.P 134 = some [(0, 1), (1, 1)] ∧ szOf X.P 134 = some 2 := (by rw [hP]; exact ⟨Ty.ze134, Ty.co125, Ty.fs134, Ty.sz134⟩); intro X1 K1 hU1 hnt1 hbl1 hK1; have hU1P := hU1.P; simp only [GA, ↓GB, List.filterMap_cons, eq_self, BEq.rfl, simprocAttr] at hbl1 ⊢)
        | (refine CallVC.inline (f := 77) ?_ rfl Tryd.ntmps77 rfl ?_ ?_; (focus rw [hP]; exact Tryd.func77); (focus simp); have hT1 : zeroCells X.P 134 = some [(Value.int IntKind.i64 0), Value.nilFunc] ∧ calleeOk X.P 129 = true ∧ fieldsOf X.P 134 = some [(0, 1), (1, 1)] ∧ szOf X.P 134 = some 2 := (by rw [hP]; exact ⟨Ty.ze134, Ty.co129, Ty.fs134, Ty.sz134⟩); intro X1 K1 hU1 hnt1 hbl1 hK1; have hU1P := hU1.P; simp only [GA, ↓GB, List.filterMap_cons, eq_self, BEq.rfl, simprocAttr] at hbl1 ⊢)
        | (refine SX.block ?_)
        | (refine and_mk ?_ ?_; (focus first | decide | omega | rfl | assumption | (simp only [List.length_append, List.length_cons, List.length_nil, B_size]; omega) | (simp; done)))
        | (refine And.intro ?_ ?_))
      all_goals (try refine Done.mk ?_)
      all_goals (refine Imp.le [0, 1, 2, 3, 4, 5, 12, 7, 8, 9, 10, 11] ?_; (refine LeR.of ?_ ?_ ?_ ?_ ?_ ?_ ?_ <;> first | (rw [hbl]; decide) | decide | (simp only [GA, ↓GB, List.filterMap_cons, eq_self, BEq.rfl, simprocAttr, GDs, ren_cond, okB_cond, lren_cond, lokB_cond, map_cond, all_cond, Bool.cond_self, cond_true, cond_false, List.map_append, List.all_append, List.map_cons, List.map_nil, Bool.and_true]; done)))
    · have m1 : M 1 = true := hd.dep _ rfl _ (Array.mem_of_getElem? (i := 0) rfl) rfl
      have m2 : M 2 = true := hd.dep _ rfl _ (Array.mem_of_getElem? (i := 1) rfl) rfl
      have n20 : M 20 = false := dNot hd rfl (Array.mem_of_getElem? (i := 2) rfl) rfl hd.un
      have hun := hd.un
      refine ⟨_, rfl, rfl, ?_⟩
      simp only [grC, upd, ↓reduceIte, Nat.reduceEqDiff, reduceCtorEq, hun, m1, m2, n20, ren_cond, okB_cond, lren_cond, lokB_cond, map_cond, all_cond, Bool.cond_self, cond_true, cond_false, List.map_append, List.all_append, List.map_cons, List.map_nil, Bool.and_true, List.nil_append, List.cons_append, simprocAttr]
      refine VO.insert (kt := 3) (et := 134) (i := 5) (kv := .int .i64 1) (s := .agg [.v (.int .i64 0), .clo 124 [] [.loc 6 0]]) (kd := .int .i64) rfl rfl rfl rfl (by rw [hP]; kernel_rfl) (by rw [hP]; kernel_rfl) rfl (by simp [all_cond, KeyOf]) (look_nk (by simp [all_cond, nk])) ?_
      refine Imp.perm (i := 5) rfl ?_
      try simp only [List.append_assoc, List.nil_append, List.cons_append, List.append_nil]
      repeat (first | exact List.Perm.refl _ | exact List.perm_append_singleton _ _ | refine List.Perm.append_left _ ?_ | refine (List.Perm.append_left _ ?_).trans List.perm_middle)
    · have m2 : M 2 = true := hd.dep _ rfl _ (Array.mem_of_getElem? (i := 0) rfl) rfl
      have n5 : M 5 = false := dNot hd rfl (Array.mem_of_getElem? (i := 1) rfl) rfl hd.un
      have n7 : M 7 = false := dNot hd rfl (Array.mem_of_getElem? (i := 1) rfl) rfl hd.un
      have n8 : M 8 = false := dNot hd rfl (Array.mem_of_getElem? (i := 1) rfl) rfl n7
      have n10 : M 10 = false := dNot hd rfl (Array.mem_of_getElem? (i := 1) rfl) rfl n7
      have n11 : M 11 = false := dNot hd rfl (Array.mem_of_getElem? (i := 1) rfl) rfl n10
      have n13 : M 13 = false := dNot hd rfl (Array.mem_of_getElem? (i := 1) rfl) rfl n10
      have n14 : M 14 = false := dNot hd rfl (Array.mem_of_getElem? (i := 1) rfl) rfl n13
      have n18 : M 18 = false := dNot hd rfl (Array.mem_of_getElem? (i := 1) rfl) rfl n13
      have n19 : M 19 = false := dNot hd rfl (Array.mem_of_getElem? (i := 1) rfl) rfl n18
      have n20 : M 20 = false := dNot hd rfl (Array.mem_of_getElem? (i := 3) rfl) rfl hd.un
      have hun := hd.un
      refine ⟨_, rfl, rfl, ?_⟩
      simp only [grC, upd, ↓reduceIte, Nat.reduceEqDiff, reduceCtorEq, hun, m2, n5, n7, n8, n10, n11, n13, n14, n18, n19, n20, ren_cond, okB_cond, lren_cond, lokB_cond, map_cond, all_cond, Bool.cond_self, cond_true, cond_false, List.map_append, List.all_append, List.map_cons, List.map_nil, Bool.and_true, List.nil_append, List.cons_append, simprocAttr]
      refine vcOp_sound ?_
      simp only [GA, ↓GB, List.filterMap_cons, eq_self, BEq.rfl, simprocAttr, hnt, hT]
      have hnt1 := True.intro; have hT1 := True.intro; have hU1P := True.intro
      repeat' (first
        | (refine SX.seqK ?_; intro N hN)
        | ((first | (refine SX.ops ?_)); simp only [GA, ↓GB, List.filterMap_cons, eq_self, BEq.rfl, simprocAttr, hnt, hT, hnt1, hT1, hU1P, hag])
        | ((first | refine SX.skip ?_ | refine SX.exit ?_ | refine SX.label ?_); try simp only [GA, ↓GB, List.filterMap_cons, eq_self, BEq.rfl, simprocAttr])
        | (refine SX.cond rfl (fun hb => ?_) (fun hb => ?_) <;> ((first | cases hb | (simp only [decide_eq_true_eq, decide_eq_false_iff_not, beq_iff_eq, beq_eq_false_iff_ne, bne_iff_ne, Bool.and_eq_true, Bool.or_eq_true, Bool.not_eq_true', Bool.not_eq_false', Bool.and_eq_false_iff, Bool.or_eq_false_iff, Int.not_lt, Int.not_le] at hb) | skip) <;> (first | (exfalso; omega) | skip)))
        | (refine SX.ret ?_; try simp only [GA, ↓GB, List.filterMap_cons, eq_self, BEq.rfl, simprocAttr])
        | (refine hN _ ?_; clear hN N)
        | ((first | refine hK1 _ _ (FinI.ret3 ?_) | refine hK1 _ _ (FinI.nrm3 ?_)); (repeat (clear hN N)); clear hK1 K1; simp only [GA, ↓GB, List.filterMap_cons, eq_self, BEq.rfl, simprocAttr, finP_s, hnt, hT, hnt1, hT1, hU1P, hag])
        | ((first | refine hK _ _ (FinI.ret3 ?_) | refine hK _ _ (FinI.nrm3 ?_)); simp only [GA, ↓GB, List.filterMap_cons, eq_self, BEq.rfl, simprocAttr, finP_s, hnt, hT, hnt1, hT1, hU1P, hag]; refine Done.out ?_)
        | (clear hN N; first | (refine hN _ ?_; clear hN N) | (clear hN N; first | (refine hN _ ?_; clear hN N) | (clear hN N; first | (refine hN _ ?_; clear hN N) | (clear hN N; first | (refine hN _ ?_; clear hN N) | (clear hN N; first | (refine hN _ ?_; clear hN N) | (refine hN _ ?_; clear hN N))))))
        | (refine bif2.mk (fun hb => ?_) (fun hb => ?_) <;> (try simp only [hb, GA, ↓GB, List.filterMap_cons, eq_self, BEq.rfl, simprocAttr, hnt, hT, hnt1, hT1, hU1P, hag]) <;> ((first | cases hb | (simp only [decide_eq_true_eq, decide_eq_false_iff_not, beq_iff_eq, beq_eq_false_iff_ne, bne_iff_ne, Bool.and_eq_true, Bool.or_eq_true, Bool.not_eq_true', Bool.not_eq_false', Bool.and_eq_false_iff, Bool.or_eq_false_iff, Int.not_lt, Int.not_le] at hb) | skip) <;> (first | (exfalso; omega) | skip)))
        | (refine CallVC.inline (f := 71) ?_ rfl Tryd.ntmps71 rfl ?_ ?_; (focus rw [hP]; exact Tryd.func71); (focus simp); have hT1 : zeroCells X.P 134 = some [(Value.int IntKind.i64 0), Value.nilFunc] ∧ calleeOk X.P 124 = true ∧ fieldsOf X.P 134 = some [(0, 1), (1, 1)] ∧ szOf X.P 134 = some 2 := (by rw [hP]; exact ⟨Ty.ze134, Ty.co124, Ty.fs134, Ty.sz134⟩); intro X1 K1 hU1 hnt1 hbl1 hK1; have hU1P := hU1.P; simp only [GA, ↓GB, List.filterMap_cons, eq_self, BEq.rfl, simprocAttr] at hbl1 ⊢)
        | (refine CallVC.inline (f := 72) ?_ rfl Tryd.ntmps72 rfl ?_ ?_; (focus rw [hP]; exact Tryd.func72); (focus simp); have hT1 : zeroCells X.P 134 = some [(Value.int IntKind.i64 0), Value.nilFunc] ∧ calleeOk X.P 125 = true ∧ fieldsOf X.P 134 = some [(0, 1), (1, 1)] ∧ szOf X.P 134 = some 2 := (by rw [hP]; exact ⟨Ty.ze134, Ty.co125, Ty.fs134, Ty.sz134⟩); intro X1 K1 hU1 hnt1 hbl1 hK1; have hU1P := hU1.P; simp only [GA, ↓GB, List.filterMap_cons, eq_self, BEq.rfl, simprocAttr] at hbl1 ⊢)
        | (refine CallVC.inline (f := 77) ?_ rfl Tryd.ntmps77 rfl ?_ ?_; (focus rw [hP]; exact Tryd.func77); (focus simp); have hT1 : zeroCells X.P 134 = some [(Value.int IntKind.i64 0), Value.nilFunc] ∧ calleeOk X.P 129 = true ∧ fieldsOf X.P 134 = some [(0, 1), (1, 1)] ∧ szOf X.P 134 = some 2 := (by rw [hP]; exact ⟨Ty.ze134, Ty.co129, Ty.fs134, Ty.sz134⟩); intro X1 K1 hU1 hnt1 hbl1 hK1; have hU1P := hU1.P; simp only [GA, ↓GB, List.filterMap_cons, eq_self, BEq.rfl, simprocAttr] at hbl1 ⊢)
        | (refine SX.block ?_)
        | (refine and_mk ?_ ?_; (focus first | decide | omega | rfl | assumption | (simp only [List.length_append, List.length_cons, List.length_nil, B_size]; omega) | (simp; done)))
        | (refine And.intro ?_ ?_))
      all_goals (try refine Done.mk ?_)
      all_goals (refine Imp.le [0, 1, 2, 3, 4, 5, 6, 12, 8, 9, 10, 11] ?_; (refine LeR.of ?_ ?_ ?_ ?_ ?_ ?_ ?_ <;> first | (rw [hbl]; decide) | decide | (simp only [GA, ↓GB, List.filterMap_cons, eq_self, BEq.rfl, simprocAttr, GDs, ren_cond, okB_cond, lren_cond, lokB_cond, map_cond, all_cond, Bool.cond_self, cond_true, cond_false, List.map_append, List.all_append, List.map_cons, List.map_nil, Bool.and_true]; done)))
    · have m1 : M 1 = true := hd.dep _ rfl _ (Array.mem_of_getElem? (i := 0) rfl) rfl
      have m4 : M 4 = true := hd.dep _ rfl _ (Array.mem_of_getElem? (i := 1) rfl) rfl
      have n20 : M 20 = false := dNot hd rfl (Array.mem_of_getElem? (i := 4) rfl) rfl hd.un
      have hun := hd.un
      refine ⟨_, rfl, rfl, ?_⟩
      simp only [grC, upd, ↓reduceIte, Nat.reduceEqDiff, reduceCtorEq, hun, m1, m4, n20, ren_cond, okB_cond, lren_cond, lokB_cond, map_cond, all_cond, Bool.cond_self, cond_true, cond_false, List.map_append, List.all_append, List.map_cons, List.map_nil, Bool.and_true, List.nil_append, List.cons_append, simprocAttr]
      refine VO.insert (kt := 3) (et := 134) (i := 5) (kv := .int .i64 2) (s := .agg [.v (.int .i64 0), .clo 124 [] [.loc 7 0]]) (kd := .int .i64) rfl rfl rfl rfl (by rw [hP]; kernel_rfl) (by rw [hP]; kernel_rfl) rfl (by simp [all_cond, KeyOf]) (look_nk (by simp [all_cond, nk])) ?_
      refine Imp.perm (i := 5) rfl ?_
      try simp only [List.append_assoc, List.nil_append, List.cons_append, List.append_nil]
      repeat (first | exact List.Perm.refl _ | exact List.perm_append_singleton _ _ | refine List.Perm.append_left _ ?_ | refine (List.Perm.append_left _ ?_).trans List.perm_middle)
    · have n7 : M 7 = false := dNot hd rfl (Array.mem_of_getElem? (i := 0) rfl) rfl hd.un
      have n8 : M 8 = false := dNot hd rfl (Array.mem_of_getElem? (i := 1) rfl) rfl n7
      have n10 : M 10 = false := dNot hd rfl (Array.mem_of_getElem? (i := 1) rfl) rfl n7
      have n11 : M 11 = false := dNot hd rfl (Array.mem_of_getElem? (i := 1) rfl) rfl n10
      have n13 : M 13 = false := dNot hd rfl (Array.mem_of_getElem? (i := 1) rfl) rfl n10
      have n14 : M 14 = false := dNot hd rfl (Array.mem_of_getElem? (i := 1) rfl) rfl n13
      have n18 : M 18 = false := dNot hd rfl (Array.mem_of_getElem? (i := 1) rfl) rfl n13
      have n19 : M 19 = false := dNot hd rfl (Array.mem_of_getElem? (i := 1) rfl) rfl n18
      have n20 : M 20 = false := dNot hd rfl (Array.mem_of_getElem? (i := 5) rfl) rfl hd.un
      have hun := hd.un
      refine ⟨_, rfl, rfl, ?_⟩
      simp only [grC, upd, ↓reduceIte, Nat.reduceEqDiff, reduceCtorEq, hun, n7, n8, n10, n11, n13, n14, n18, n19, n20, ren_cond, okB_cond, lren_cond, lokB_cond, map_cond, all_cond, Bool.cond_self, cond_true, cond_false, List.map_append, List.all_append, List.map_cons, List.map_nil, Bool.and_true, List.nil_append, List.cons_append, simprocAttr]
      refine vcOp_sound ?_
      simp only [GA, ↓GB, List.filterMap_cons, eq_self, BEq.rfl, simprocAttr, hnt, hT]
      have hnt1 := True.intro; have hT1 := True.intro; have hU1P := True.intro
      repeat' (first
        | (refine SX.seqK ?_; intro N hN)
        | ((first | (refine SX.ops ?_)); simp only [GA, ↓GB, List.filterMap_cons, eq_self, BEq.rfl, simprocAttr, hnt, hT, hnt1, hT1, hU1P, hag])
        | ((first | refine SX.skip ?_ | refine SX.exit ?_ | refine SX.label ?_); try simp only [GA, ↓GB, List.filterMap_cons, eq_self, BEq.rfl, simprocAttr])
        | (refine SX.cond rfl (fun hb => ?_) (fun hb => ?_) <;> ((first | cases hb | (simp only [decide_eq_true_eq, decide_eq_false_iff_not, beq_iff_eq, beq_eq_false_iff_ne, bne_iff_ne, Bool.and_eq_true, Bool.or_eq_true, Bool.not_eq_true', Bool.not_eq_false', Bool.and_eq_false_iff, Bool.or_eq_false_iff, Int.not_lt, Int.not_le] at hb) | skip) <;> (first | (exfalso; omega) | skip)))
        | (refine SX.ret ?_; try simp only [GA, ↓GB, List.filterMap_cons, eq_self, BEq.rfl, simprocAttr])
        | (refine hN _ ?_; clear hN N)
        | ((first | refine hK1 _ _ (FinI.ret3 ?_) | refine hK1 _ _ (FinI.nrm3 ?_)); (repeat (clear hN N)); clear hK1 K1; simp only [GA, ↓GB, List.filterMap_cons, eq_self, BEq.rfl, simprocAttr, finP_s, hnt, hT, hnt1, hT1, hU1P, hag])
        | ((first | refine hK _ _ (FinI.ret3 ?_) | refine hK _ _ (FinI.nrm3 ?_)); simp only [GA, ↓GB, List.filterMap_cons, eq_self, BEq.rfl, simprocAttr, finP_s, hnt, hT, hnt1, hT1, hU1P, hag]; refine Done.out ?_)
        | (clear hN N; first | (refine hN _ ?_; clear hN N) | (clear hN N; first | (refine hN _ ?_; clear hN N) | (clear hN N; first | (refine hN _ ?_; clear hN N) | (clear hN N; first | (refine hN _ ?_; clear hN N) | (clear hN N; first | (refine hN _ ?_; clear hN N) | (refine hN _ ?_; clear hN N))))))
        | (refine bif2.mk (fun hb => ?_) (fun hb => ?_) <;> (try simp only [hb, GA, ↓GB, List.filterMap_cons, eq_self, BEq.rfl, simprocAttr, hnt, hT, hnt1, hT1, hU1P, hag]) <;> ((first | cases hb | (simp only [decide_eq_true_eq, decide_eq_false_iff_not, beq_iff_eq, beq_eq_false_iff_ne, bne_iff_ne, Bool.and_eq_true, Bool.or_eq_true, Bool.not_eq_true', Bool.not_eq_false', Bool.and_eq_false_iff, Bool.or_eq_false_iff, Int.not_lt, Int.not_le] at hb) | skip) <;> (first | (exfalso; omega) | skip)))
        | (refine CallVC.inline (f := 71) ?_ rfl Tryd.ntmps71 rfl ?_ ?_; (focus rw [hP]; exact Tryd.func71); (focus simp); have hT1 : zeroCells X.P 134 = some [(Value.int IntKind.i64 0), Value.nilFunc] ∧ calleeOk X.P 124 = true ∧ fieldsOf X.P 134 = some [(0, 1), (1, 1)] ∧ szOf X.P 134 = some 2 := (by rw [hP]; exact ⟨Ty.ze134, Ty.co124, Ty.fs134, Ty.sz134⟩); intro X1 K1 hU1 hnt1 hbl1 hK1; have hU1P := hU1.P; simp only [GA, ↓GB, List.filterMap_cons, eq_self, BEq.rfl, simprocAttr] at hbl1 ⊢)
        | (refine CallVC.inline (f := 72) ?_ rfl Tryd.ntmps72 rfl ?_ ?_; (focus rw [hP]; exact Tryd.func72); (focus simp); have hT1 : zeroCells X.P 134 = some [(Value.int IntKind.i64 0), Value.nilFunc] ∧ calleeOk X.P 125 = true ∧ fieldsOf X.P 134 = some [(0, 1), (1, 1)] ∧ szOf X.P 134 = some 2 := (by rw [hP]; exact ⟨Ty.ze134, Ty.co125, Ty.fs134, Ty.sz134⟩); intro X1 K1 hU1 hnt1 hbl1 hK1; have hU1P := hU1.P; simp only [GA, ↓GB, List.filterMap_cons, eq_self, BEq.rfl, simprocAttr] at hbl1 ⊢)
        | (refine CallVC.inline (f := 77) ?_ rfl Tryd.ntmps77 rfl ?_ ?_; (focus rw [hP]; exact Tryd.func77); (focus simp); have hT1 : zeroCells X.P 134 = some [(Value.int IntKind.i64 0), Value.nilFunc] ∧ calleeOk X.P 129 = true ∧ fieldsOf X.P 134 = some [(0, 1), (1, 1)] ∧ szOf X.P 134 = some 2 := (by rw [hP]; exact ⟨Ty.ze134, Ty.co129, Ty.fs134, Ty.sz134⟩); intro X1 K1 hU1 hnt1 hbl1 hK1; have hU1P := hU1.P; simp only [GA, ↓GB, List.filterMap_cons, eq_self, BEq.rfl, simprocAttr] at hbl1 ⊢)
        | (refine SX.block ?_)
        | (refine and_mk ?_ ?_; (focus first | decide | omega | rfl | assumption | (simp only [List.length_append, List.length_cons, List.length_nil, B_size]; omega) | (simp; done)))
        | (refine And.intro ?_ ?_))
      all_goals (try refine Done.mk ?_)
      all_goals (refine Imp.le [0, 1, 2, 3, 4, 5, 6, 7, 8, 9, 10, 11] ?_; (refine LeR.of ?_ ?_ ?_ ?_ ?_ ?_ ?_ <;> first | (rw [hbl]; decide) | decide | (simp only [GA, ↓GB, List.filterMap_cons, eq_self, BEq.rfl, simprocAttr, GDs, ren_cond, okB_cond, lren_cond, lokB_cond, map_cond, all_cond, Bool.cond_self, cond_true, cond_false, List.map_append, List.all_append, List.map_cons, List.map_nil, Bool.and_true]; done)))
    · have m6 : M 6 = true := hd.dep _ rfl _ (Array.mem_of_getElem? (i := 0) rfl) rfl
      have m4 : M 4 = true := hd.dep _ rfl _ (Array.mem_of_getElem? (i := 1) rfl) rfl
      have n8 : M 8 = false := dNot hd rfl (Array.mem_of_getElem? (i := 1) rfl) rfl hd.un
      have n10 : M 10 = false := dNot hd rfl (Array.mem_of_getElem? (i := 1) rfl) rfl hd.un
      have n11 : M 11 = false := dNot hd rfl (Array.mem_of_getElem? (i := 1) rfl) rfl n10
      have n13 : M 13 = false := dNot hd rfl (Array.mem_of_getElem? (i := 1) rfl) rfl n10
      have n14 : M 14 = false := dNot hd rfl (Array.mem_of_getElem? (i := 1) rfl) rfl n13
      have n18 : M 18 = false := dNot hd rfl (Array.mem_of_getElem? (i := 1) rfl) rfl n13
      have n19 : M 19 = false := dNot hd rfl (Array.mem_of_getElem? (i := 1) rfl) rfl n18
      have n20 : M 20 = false := dNot hd rfl (Array.mem_of_getElem? (i := 6) rfl) rfl hd.un
      have hun := hd.un
      refine ⟨_, rfl, rfl, ?_⟩
      simp only [grC, upd, ↓reduceIte, Nat.reduceEqDiff, reduceCtorEq, hun, m6, m4, n8, n10, n11, n13, n14, n18, n19, n20, ren_cond, okB_cond, lren_cond, lokB_cond, map_cond, all_cond, Bool.cond_self, cond_true, cond_false, List.map_append, List.all_append, List.map_cons, List.map_nil, Bool.and_true, List.nil_append, List.cons_append, simprocAttr]
      refine vcOp_sound ?_
      simp only [GA, ↓GB, List.filterMap_cons, eq_self, BEq.rfl, simprocAttr, hnt, hT]
      have hnt1 := True.intro; have hT1 := True.intro; have hU1P := True.intro
      repeat' (first
        | (refine SX.seqK ?_; intro N hN)
        | ((first | (refine SX.ops ?_)); simp only [GA, ↓GB, List.filterMap_cons, eq_self, BEq.rfl, simprocAttr, hnt, hT, hnt1, hT1, hU1P, hag])
        | ((first | refine SX.skip ?_ | refine SX.exit ?_ | refine SX.label ?_); try simp only [GA, ↓GB, List.filterMap_cons, eq_self, BEq.rfl, simprocAttr])
        | (refine SX.cond rfl (fun hb => ?_) (fun hb => ?_) <;> ((first | cases hb | (simp only [decide_eq_true_eq, decide_eq_false_iff_not, beq_iff_eq, beq_eq_false_iff_ne, bne_iff_ne, Bool.and_eq_true, Bool.or_eq_true, Bool.not_eq_true', Bool.not_eq_false', Bool.and_eq_false_iff, Bool.or_eq_false_iff, Int.not_lt, Int.not_le] at hb) | skip) <;> (first | (exfalso; omega) | skip)))
        | (refine SX.ret ?_; try simp only [GA, ↓GB, List.filterMap_cons, eq_self, BEq.rfl, simprocAttr])
        | (refine hN _ ?_; clear hN N)
        | ((first | refine hK1 _ _ (FinI.ret3 ?_) | refine hK1 _ _ (FinI.nrm3 ?_)); (repeat (clear hN N)); clear hK1 K1; simp only [GA, ↓GB, List.filterMap_cons, eq_self, BEq.rfl, simprocAttr, finP_s, hnt, hT, hnt1, hT1, hU1P, hag])
        | ((first | refine hK _ _ (FinI.ret3 ?_) | refine hK _ _ (FinI.nrm3 ?_)); simp only [GA, ↓GB, List.filterMap_cons, eq_self, BEq.rfl, simprocAttr, finP_s, hnt, hT, hnt1, hT1, hU1P, hag]; refine Done.out ?_)
        | (clear hN N; first | (refine hN _ ?_; clear hN N) | (clear hN N; first | (refine hN _ ?_; clear hN N) | (clear hN N; first | (refine hN _ ?_; clear hN N) | (clear hN N; first | (refine hN _ ?_; clear hN N) | (clear hN N; first | (refine hN _ ?_; clear hN N) | (refine hN _ ?_; clear hN N))))))
        | (refine bif2.mk (fun hb => ?_) (fun hb => ?_) <;> (try simp only [hb, GA, ↓GB, List.filterMap_cons, eq_self, BEq.rfl, simprocAttr, hnt, hT, hnt1, hT1, hU1P, hag]) <;> ((first | cases hb | (simp only [decide_eq_true_eq, decide_eq_false_iff_not, beq_iff_eq, beq_eq_false_iff_ne, bne_iff_ne, Bool.and_eq_true, Bool.or_eq_true, Bool.not_eq_true', Bool.not_eq_false', Bool.and_eq_false_iff, Bool.or_eq_false_iff, Int.not_lt, Int.not_le] at hb) | skip) <;> (first | (exfalso; omega) | skip)))
        | (refine CallVC.inline (f := 71) ?_ rfl Tryd.ntmps71 rfl ?_ ?_; (focus rw [hP]; exact Tryd.func71); (focus simp); have hT1 : zeroCells X.P 134 = some [(Value.int IntKind.i64 0), Value.nilFunc] ∧ calleeOk X.P 124 = true ∧ fieldsOf X.P 134 = some [(0, 1), (1, 1)] ∧ szOf X.P 134 = some 2 := (by rw [hP]; exact ⟨Ty.ze134, Ty.co124, Ty.fs134, Ty.sz134⟩); intro X1 K1 hU1 hnt1 hbl1 hK1; have hU1P := hU1.P; simp only [GA, ↓GB, List.filterMap_cons, eq_self, BEq.rfl, simprocAttr] at hbl1 ⊢)
        | (refine CallVC.inline (f := 72) ?_ rfl Tryd.ntmps72 rfl ?_ ?_; (focus rw [hP]; exact Tryd.func72); (focus simp); have hT1 : zeroCells X.P 134 = some [(Value.int IntKind.i64 0), Value.nilFunc] ∧ calleeOk X.P 125 = true ∧ fieldsOf X.P 134 = some [(0, 1), (1, 1)] ∧ szOf X.P 134 = some 2 := (by rw [hP]; exact ⟨Ty.ze134, Ty.co125, Ty.fs134, Ty.sz134⟩); intro X1 K1 hU1 hnt1 hbl1 hK1; have hU1P := hU1.P; simp only [GA, ↓GB, List.filterMap_cons, eq_self, BEq.rfl, simprocAttr] at hbl1 ⊢)
        | (refine CallVC.inline (f := 77) ?_ rfl Tryd.ntmps77 rfl ?_ ?_; (focus rw [hP]; exact Tryd.func77); (focus simp); have hT1 : zeroCells X.P 134 = some [(Value.int IntKind.i64 0), Value.nilFunc] ∧ calleeOk X.P 129 = true ∧ fieldsOf X.P 134 = some [(0, 1), (1, 1)] ∧ szOf X.P 134 = some 2 := (by rw [hP]; exact ⟨Ty.ze134, Ty.co129, Ty.fs134, Ty.sz134⟩); intro X1 K1 hU1 hnt1 hbl1 hK1; have hU1P := hU1.P; simp only [GA, ↓GB, List.filterMap_cons, eq_self, BEq.rfl, simprocAttr] at hbl1 ⊢)
        | (refine SX.block ?_)
        | (refine and_mk ?_ ?_; (focus first | decide | omega | rfl | assumption | (simp only [List.length_append, List.length_cons, List.length_nil, B_size]; omega) | (simp; done)))
        | (refine And.intro ?_ ?_))
      all_goals (try refine Done.mk ?_)
      all_goals (refine Imp.le [0, 1, 2, 3, 4, 5, 6, 7, 12, 9, 10, 11] ?_; (refine LeR.of ?_ ?_ ?_ ?_ ?_ ?_ ?_ <;> first | (rw [hbl]; decide) | decide | (simp only [GA, ↓GB, List.filterMap_cons, eq_self, BEq.rfl, simprocAttr, GDs, ren_cond, okB_cond, lren_cond, lokB_cond, map_cond, all_cond, Bool.cond_self, cond_true, cond_false, List.map_append, List.all_append, List.map_cons, List.map_nil, Bool.and_true]; done)))
    · have m1 : M 1 = true := hd.dep _ rfl _ (Array.mem_of_getElem? (i := 0) rfl) rfl
      have m7 : M 7 = true := hd.dep _ rfl _ (Array.mem_of_getElem? (i := 1) rfl) rfl
      have n20 : M 20 = false := dNot hd rfl (Array.mem_of_getElem? (i := 7) rfl) rfl hd.un
      have hun := hd.un
      refine ⟨_, rfl, rfl, ?_⟩
      simp only [grC, upd, ↓reduceIte, Nat.reduceEqDiff, reduceCtorEq, hun, m1, m7, n20, ren_cond, okB_cond, lren_cond, lokB_cond, map_cond, all_cond, Bool.cond_self, cond_true, cond_false, List.map_append, List.all_append, List.map_cons, List.map_nil, Bool.and_true, List.nil_append, List.cons_append, simprocAttr]
      refine VO.insert (kt := 3) (et := 134) (i := 5) (kv := .int .i64 3) (s := .agg [.v (.int .i64 0), .clo 124 [] [.loc 8 0]]) (kd := .int .i64) rfl rfl rfl rfl (by rw [hP]; kernel_rfl) (by rw [hP]; kernel_rfl) rfl (by simp [all_cond, KeyOf]) (look_nk (by simp [all_cond, nk])) ?_
      refine Imp.perm (i := 5) rfl ?_
      try simp only [List.append_assoc, List.nil_append, List.cons_append, List.append_nil]
      repeat (first | exact List.Perm.refl _ | exact List.perm_append_singleton _ _ | refine List.Perm.append_left _ ?_ | refine (List.Perm.append_left _ ?_).trans List.perm_middle)
    · have n10 : M 10 = false := dNot hd rfl (Array.mem_of_getElem? (i := 0) rfl) rfl hd.un
      have n11 : M 11 = false := dNot hd rfl (Array.mem_of_getElem? (i := 1) rfl) rfl n10
      have n13 : M 13 = false := dNot hd rfl (Array.mem_of_getElem? (i := 1) rfl) rfl n10
      have n14 : M 14 = false := dNot hd rfl (Array.mem_of_getElem? (i := 1) rfl) rfl n13
      have n18 : M 18 = false := dNot hd rfl (Array.mem_of_getElem? (i := 1) rfl) rfl n13
      have n19 : M 19 = false := dNot hd rfl (Array.mem_of_getElem? (i := 1) rfl) rfl n18
      have n20 : M 20 = false := dNot hd rfl (Array.mem_of_getElem? (i := 8) rfl) rfl hd.un
      have hun := hd.un
      refine ⟨_, rfl, rfl, ?_⟩
      simp only [grC, upd, ↓reduceIte, Nat.reduceEqDiff, reduceCtorEq, hun, n10, n11, n13, n14, n18, n19, n20, ren_cond, okB_cond, lren_cond, lokB_cond, map_cond, all_cond, Bool.cond_self, cond_true, cond_false, List.map_append, List.all_append, List.map_cons, List.map_nil, Bool.and_true, List.nil_append, List.cons_append, simprocAttr]
      refine vcOp_sound ?_
      simp only [GA, ↓GB, List.filterMap_cons, eq_self, BEq.rfl, simprocAttr, hnt, hT]
      have hnt1 := True.intro; have hT1 := True.intro; have hU1P := True.intro
      repeat' (first
        | (refine SX.seqK ?_; intro N hN)
        | ((first | (refine SX.ops ?_)); simp only [GA, ↓GB, List.filterMap_cons, eq_self, BEq.rfl, simprocAttr, hnt, hT, hnt1, hT1, hU1P, hag])
        | ((first | refine SX.skip ?_ | refine SX.exit ?_ | refine SX.label ?_); try simp only [GA, ↓GB, List.filterMap_cons, eq_self, BEq.rfl, simprocAttr])
        | (refine SX.cond rfl (fun hb => ?_) (fun hb => ?_) <;> ((first | cases hb | (simp only [decide_eq_true_eq, decide_eq_false_iff_not, beq_iff_eq, beq_eq_false_iff_ne, bne_iff_ne, Bool.and_eq_true, Bool.or_eq_true, Bool.not_eq_true', Bool.not_eq_false', Bool.and_eq_false_iff, Bool.or_eq_false_iff, Int.not_lt, Int.not_le] at hb) | skip) <;> (first | (exfalso; omega) | skip)))
        | (refine SX.ret ?_; try simp only [GA, ↓GB, List.filterMap_cons, eq_self, BEq.rfl, simprocAttr])
        | (refine hN _ ?_; clear hN N)
        | ((first | refine hK1 _ _ (FinI.ret3 ?_) | refine hK1 _ _ (FinI.nrm3 ?_)); (repeat (clear hN N)); clear hK1 K1; simp only [GA, ↓GB, List.filterMap_cons, eq_self, BEq.rfl, simprocAttr, finP_s, hnt, hT, hnt1, hT1, hU1P, hag])
        | ((first | refine hK _ _ (FinI.ret3 ?_) | refine hK _ _ (FinI.nrm3 ?_)); simp only [GA, ↓GB, List.filterMap_cons, eq_self, BEq.rfl, simprocAttr, finP_s, hnt, hT, hnt1, hT1, hU1P, hag]; refine Done.out ?_)
        | (clear hN N; first | (refine hN _ ?_; clear hN N) | (clear hN N; first | (refine hN _ ?_; clear hN N) | (clear hN N; first | (refine hN _ ?_; clear hN N) | (clear hN N; first | (refine hN _ ?_; clear hN N) | (clear hN N; first | (refine hN _ ?_; clear hN N) | (refine hN _ ?_; clear hN N))))))
        | (refine bif2.mk (fun hb => ?_) (fun hb => ?_) <;> (try simp only [hb, GA, ↓GB, List.filterMap_cons, eq_self, BEq.rfl, simprocAttr, hnt, hT, hnt1, hT1, hU1P, hag]) <;> ((first | cases hb | (simp only [decide_eq_true_eq, decide_eq_false_iff_not, beq_iff_eq, beq_eq_false_iff_ne, bne_iff_ne, Bool.and_eq_true, Bool.or_eq_true, Bool.not_eq_true', Bool.not_eq_false', Bool.and_eq_false_iff, Bool.or_eq_false_iff, Int.not_lt, Int.not_le] at hb) | skip) <;> (first | (exfalso; omega) | skip)))
        | (refine CallVC.inline (f := 71) ?_ rfl Tryd.ntmps71 rfl ?_ ?_; (focus rw [hP]; exact Tryd.func71); (focus simp); have hT1 : zeroCells X.P 134 = some [(Value.int IntKind.i64 0), Value.nilFunc] ∧ calleeOk X.P 124 = true ∧ fieldsOf X.P 134 = some [(0, 1), (1, 1)] ∧ szOf X.P 134 = some 2 := (by rw [hP]; exact ⟨Ty.ze134, Ty.co124, Ty.fs134, Ty.sz134⟩); intro X1 K1 hU1 hnt1 hbl1 hK1; have hU1P := hU1.P; simp only [GA, ↓GB, List.filterMap_cons, eq_self, BEq.rfl, simprocAttr] at hbl1 ⊢)
        | (refine CallVC.inline (f := 72) ?_ rfl Tryd.ntmps72 rfl ?_ ?_; (focus rw [hP]; exact Tryd.func72); (focus simp); have hT1 : zeroCells X.P 134 = some [(Value.int IntKind.i64 0), Value.nilFunc] ∧ calleeOk X.P 125 = true ∧ fieldsOf X.P 134 = some [(0, 1), (1, 1)] ∧ szOf X.P 134 = some 2 := (by rw [hP]; exact ⟨Ty.ze134, Ty.co125, Ty.fs134, Ty.sz134⟩); intro X1 K1 hU1 hnt1 hbl1 hK1; have hU1P := hU1.P; simp only [GA, ↓GB, List.filterMap_cons, eq_self, BEq.rfl, simprocAttr] at hbl1 ⊢)
        | (refine CallVC.inline (f := 77) ?_ rfl Tryd.ntmps77 rfl ?_ ?_; (focus rw [hP]; exact Tryd.func77); (focus simp); have hT1 : zeroCells X.P 134 = some [(Value.int IntKind.i64 0), Value.nilFunc] ∧ calleeOk X.P 129 = true ∧ fieldsOf X.P 134 = some [(0, 1), (1, 1)] ∧ szOf X.P 134 = some 2 := (by rw [hP]; exact ⟨Ty.ze134, Ty.co129, Ty.fs134, Ty.sz134⟩); intro X1 K1 hU1 hnt1 hbl1 hK1; have hU1P := hU1.P; simp only [GA, ↓GB, List.filterMap_cons, eq_self, BEq.rfl, simprocAttr] at hbl1 ⊢)
        | (refine SX.block ?_)
        | (refine and_mk ?_ ?_; (focus first | decide | omega | rfl | assumption | (simp only [List.length_append, List.length_cons, List.length_nil, B_size]; omega) | (simp; done)))
        | (refine And.intro ?_ ?_))
      all_goals (try refine Done.mk ?_)
      all_goals (refine Imp.le [0, 1, 2, 3, 4, 5, 6, 7, 8, 9, 10, 11] ?_; (refine LeR.of ?_ ?_ ?_ ?_ ?_ ?_ ?_ <;> first | (rw [hbl]; decide) | decide | (simp only [GA, ↓GB, List.filterMap_cons, eq_self, BEq.rfl, simprocAttr, GDs, ren_cond, okB_cond, lren_cond, lokB_cond, map_cond, all_cond, Bool.cond_self, cond_true, cond_false, List.map_append, List.all_append, List.map_cons, List.map_nil, Bool.and_true]; done)))
    · have m9 : M 9 = true := hd.dep _ rfl _ (Array.mem_of_getElem? (i := 0) rfl) rfl
      have m7 : M 7 = true := hd.dep _ rfl _ (Array.mem_of_getElem? (i := 1) rfl) rfl
      have n11 : M 11 = false := dNot hd rfl (Array.mem_of_getElem? (i := 1) rfl) rfl hd.un
      have n13 : M 13 = false := dNot hd rfl (Array.mem_of_getElem? (i := 1) rfl) rfl hd.un
      have n14 : M 14 = false := dNot hd rfl (Array.mem_of_getElem? (i := 1) rfl) rfl n13
      have n18 : M 18 = false := dNot hd rfl (Array.mem_of_getElem? (i := 1) rfl) rfl n13
      have n19 : M 19 = false := dNot hd rfl (Array.mem_of_getElem? (i := 1) rfl) rfl n18
      have n20 : M 20 = false := dNot hd rfl (Array.mem_of_getElem? (i := 9) rfl) rfl hd.un
      have hun := hd.un
      refine ⟨_, rfl, rfl, ?_⟩
      simp only [grC, upd, ↓reduceIte, Nat.reduceEqDiff, reduceCtorEq, hun, m9, m7, n11, n13, n14, n18, n19, n20, ren_cond, okB_cond, lren_cond, lokB_cond, map_cond, all_cond, Bool.cond_self, cond_true, cond_false, List.map_append, List.all_append, List.map_cons, List.map_nil, Bool.and_true, List.nil_append, List.cons_append, simprocAttr]
      refine vcOp_sound ?_
      simp only [GA, ↓GB, List.filterMap_cons, eq_self, BEq.rfl, simprocAttr, hnt, hT]
      have hnt1 := True.intro; have hT1 := True.intro; have hU1P := True.intro
      repeat' (first
        | (refine SX.seqK ?_; intro N hN)
        | ((first | (refine SX.ops ?_)); simp only [GA, ↓GB, List.filterMap_cons, eq_self, BEq.rfl, simprocAttr, hnt, hT, hnt1, hT1, hU1P, hag])
        | ((first | refine SX.skip ?_ | refine SX.exit ?_ | refine SX.label ?_); try simp only [GA, ↓GB, List.filterMap_cons, eq_self, BEq.rfl, simprocAttr])
        | (refine SX.cond rfl (fun hb => ?_) (fun hb => ?_) <;> ((first | cases hb | (simp only [decide_eq_true_eq, decide_eq_false_iff_not, beq_iff_eq, beq_eq_false_iff_ne, bne_iff_ne, Bool.and_eq_true, Bool.or_eq_true, Bool.not_eq_true', Bool.not_eq_false', Bool.and_eq_false_iff, Bool.or_eq_false_iff, Int.not_lt, Int.not_le] at hb) | skip) <;> (first | (exfalso; omega) | skip)))
        | (refine SX.ret ?_; try simp only [GA, ↓GB, List.filterMap_cons, eq_self, BEq.rfl, simprocAttr])
        | (refine hN _ ?_; clear hN N)
        | ((first | refine hK1 _ _ (FinI.ret3 ?_) | refine hK1 _ _ (FinI.nrm3 ?_)); (repeat (clear hN N)); clear hK1 K1; simp only [GA, ↓GB, List.filterMap_cons, eq_self, BEq.rfl, simprocAttr, finP_s, hnt, hT, hnt1, hT1, hU1P, hag])
        | ((first | refine hK _ _ (FinI.ret3 ?_) | refine hK _ _ (FinI.nrm3 ?_)); simp only [GA, ↓GB, List.filterMap_cons, eq_self, BEq.rfl, simprocAttr, finP_s, hnt, hT, hnt1, hT1, hU1P, hag]; refine Done.out ?_)
        | (clear hN N; first | (refine hN _ ?_; clear hN N) | (clear hN N; first | (refine hN _ ?_; clear hN N) | (clear hN N; first | (refine hN _ ?_; clear hN N) | (clear hN N; first | (refine hN _ ?_; clear hN N) | (clear hN N; first | (refine hN _ ?_; clear hN N) | (refine hN _ ?_; clear hN N))))))
        | (refine bif2.mk (fun hb => ?_) (fun hb => ?_) <;> (try simp only [hb, GA, ↓GB, List.filterMap_cons, eq_self, BEq.rfl, simprocAttr, hnt, hT, hnt1, hT1, hU1P, hag]) <;> ((first | cases hb | (simp only [decide_eq_true_eq, decide_eq_false_iff_not, beq_iff_eq, beq_eq_false_iff_ne, bne_iff_ne, Bool.and_eq_true, Bool.or_eq_true, Bool.not_eq_true', Bool.not_eq_false', Bool.and_eq_false_iff, Bool.or_eq_false_iff, Int.not_lt, Int.not_le] at hb) | skip) <;> (first | (exfalso; omega) | skip)))
        | (refine CallVC.inline (f := 71) ?_ rfl Tryd.ntmps71 rfl ?_ ?_; (focus rw [hP]; exact Tryd.func71); (focus simp); have hT1 : zeroCells X.P 134 = some [(Value.int IntKind.i64 0), Value.nilFunc] ∧ calleeOk X.P 124 = true ∧ fieldsOf X.P 134 = some [(0, 1), (1, 1)] ∧ szOf X.P 134 = some 2 := (by rw [hP]; exact ⟨Ty.ze134, Ty.co124, Ty.fs134, Ty.sz134⟩); intro X1 K1 hU1 hnt1 hbl1 hK1; have hU1P := hU1.P; simp only [GA, ↓GB, List.filterMap_cons, eq_self, BEq.rfl, simprocAttr] at hbl1 ⊢)
        | (refine CallVC.inline (f := 72) ?_ rfl Tryd.ntmps72 rfl ?_ ?_; (focus rw [hP]; exact Tryd.func72); (focus simp); have hT1 : zeroCells X.P 134 = some [(Value.int IntKind.i64 0), Value.nilFunc] ∧ calleeOk X.P 125 = true ∧ fieldsOf X.P 134 = some [(0, 1), (1, 1)] ∧ szOf X.P 134 = some 2 := (by rw [hP]; exact ⟨Ty.ze134, Ty.co125, Ty.fs134, Ty.sz134⟩); intro X1 K1 hU1 hnt1 hbl1 hK1; have hU1P := hU1.P; simp only [GA, ↓GB, List.filterMap_cons, eq_self, BEq.rfl, simprocAttr] at hbl1 ⊢)
        | (refine CallVC.inline (f := 77) ?_ rfl Tryd.ntmps77 rfl ?_ ?_; (focus rw [hP]; exact Tryd.func77); (focus simp); have hT1 : zeroCells X.P 134 = some [(Value.int IntKind.i64 0), Value.nilFunc] ∧ calleeOk X.P 129 = true ∧ fieldsOf X.P 134 = some [(0, 1), (1, 1)] ∧ szOf X.P 134 = some 2 := (by rw [hP]; exact ⟨Ty.ze134, Ty.co129, Ty.fs134, Ty.sz134⟩); intro X1 K1 hU1 hnt1 hbl1 hK1; have hU1P := hU1.P; simp only [GA, ↓GB, List.filterMap_cons, eq_self, BEq.rfl, simprocAttr] at hbl1 ⊢)
        | (refine SX.block ?_)
        | (refine and_mk ?_ ?_; (focus first | decide | omega | rfl | assumption | (simp only [List.length_append, List.length_cons, List.length_nil, B_size]; omega) | (simp; done)))
        | (refine And.intro ?_ ?_))
      all_goals (try refine Done.mk ?_)
      all_goals (refine Imp.le [0, 1, 2, 3, 4, 5, 6, 7, 8, 12, 10, 11] ?_; (refine LeR.of ?_ ?_ ?_ ?_ ?_ ?_ ?_ <;> first | (rw [hbl]; decide) | decide | (simp only [GA, ↓GB, List.filterMap_cons, eq_self, BEq.rfl, simprocAttr, GDs, ren_cond, okB_cond, lren_cond, lokB_cond, map_cond, all_cond, Bool.cond_self, cond_true, cond_false, List.map_append, List.all_append, List.map_cons, List.map_nil, Bool.and_true]; done)))
    · have m1 : M 1 = true := hd.dep _ rfl _ (Array.mem_of_getElem? (i := 0) rfl) rfl
      have m10 : M 10 = true := hd.dep _ rfl _ (Array.mem_of_getElem? (i := 1) rfl) rfl
      have n20 : M 20 = false := dNot hd rfl (Array.mem_of_getElem? (i := 10) rfl) rfl hd.un
      have hun := hd.un
      refine ⟨_, rfl, rfl, ?_⟩
      simp only [grC, upd, ↓reduceIte, Nat.reduceEqDiff, reduceCtorEq, hun, m1, m10, n20, ren_cond, okB_cond, lren_cond, lokB_cond, map_cond, all_cond, Bool.cond_self, cond_true, cond_false, List.map_append, List.all_append, List.map_cons, List.map_nil, Bool.and_true, List.nil_append, List.cons_append, simprocAttr]
      refine VO.insert (kt := 3) (et := 134) (i := 5) (kv := .int .i64 4) (s := .agg [.v (.int .i64 2), .clo 129 [] [.loc 9 0]]) (kd := .int .i64) rfl rfl rfl rfl (by rw [hP]; kernel_rfl) (by rw [hP]; kernel_rfl) rfl (by simp [all_cond, KeyOf]) (look_nk (by simp [all_cond, nk])) ?_
      refine Imp.perm (i := 5) rfl ?_
      try simp only [List.append_assoc, List.nil_append, List.cons_append, List.append_nil]
      repeat (first | exact List.Perm.refl _ | exact List.perm_append_singleton _ _ | refine List.Perm.append_left _ ?_ | refine (List.Perm.append_left _ ?_).trans List.perm_middle)
    · have n13 : M 13 = false := dNot hd rfl (Array.mem_of_getElem? (i := 0) rfl) rfl hd.un
      have n14 : M 14 = false := dNot hd rfl (Array.mem_of_getElem? (i := 1) rfl) rfl n13
      have n18 : M 18 = false := dNot hd rfl (Array.mem_of_getElem? (i := 1) rfl) rfl n13
      have n19 : M 19 = false := dNot hd rfl (Array.mem_of_getElem? (i := 1) rfl) rfl n18
      have n20 : M 20 = false := dNot hd rfl (Array.mem_of_getElem? (i := 11) rfl) rfl hd.un
      have hun := hd.un
      refine ⟨_, rfl, rfl, ?_⟩
      simp only [grC, upd, ↓reduceIte, Nat.reduceEqDiff, reduceCtorEq, hun, n13, n14, n18, n19, n20, ren_cond, okB_cond, lren_cond, lokB_cond, map_cond, all_cond, Bool.cond_self, cond_true, cond_false, List.map_append, List.all_append, List.map_cons, List.map_nil, Bool.and_true, List.nil_append, List.cons_append, simprocAttr]
      refine vcOp_sound ?_
      simp only [GA, ↓GB, List.filterMap_cons, eq_self, BEq.rfl, simprocAttr, hnt, hT]
      have hnt1 := True.intro; have hT1 := True.intro; have hU1P := True.intro
      repeat' (first
        | (refine SX.seqK ?_; intro N hN)
        | ((first | (refine SX.ops ?_)); simp only [GA, ↓GB, List.filterMap_cons, eq_self, BEq.rfl, simprocAttr, hnt, hT, hnt1, hT1, hU1P, hag])
        | ((first | refine SX.skip ?_ | refine SX.exit ?_ | refine SX.label ?_); try simp only [GA, ↓GB, List.filterMap_cons, eq_self, BEq.rfl, simprocAttr])
        | (refine SX.cond rfl (fun hb => ?_) (fun hb => ?_) <;> ((first | cases hb | (simp only [decide_eq_true_eq, decide_eq_false_iff_not, beq_iff_eq, beq_eq_false_iff_ne, bne_iff_ne, Bool.and_eq_true, Bool.or_eq_true, Bool.not_eq_true', Bool.not_eq_false', Bool.and_eq_false_iff, Bool.or_eq_false_iff, Int.not_lt, Int.not_le] at hb) | skip) <;> (first | (exfalso; omega) | skip)))
        | (refine SX.ret ?_; try simp only [GA, ↓GB, List.filterMap_cons, eq_self, BEq.rfl, simprocAttr])
        | (refine hN _ ?_; clear hN N)
        | ((first | refine hK1 _ _ (FinI.ret3 ?_) | refine hK1 _ _ (FinI.nrm3 ?_)); (repeat (clear hN N)); clear hK1 K1; simp only [GA, ↓GB, List.filterMap_cons, eq_self, BEq.rfl, simprocAttr, finP_s, hnt, hT, hnt1, hT1, hU1P, hag])
        | ((first | refine hK _ _ (FinI.ret3 ?_) | refine hK _ _ (FinI.nrm3 ?_)); simp only [GA, ↓GB, List.filterMap_cons, eq_self, BEq.rfl, simprocAttr, finP_s, hnt, hT, hnt1, hT1, hU1P, hag]; refine Done.out ?_)
        | (clear hN N; first | (refine hN _ ?_; clear hN N) | (clear hN N; first | (refine hN _ ?_; clear hN N) | (clear hN N; first | (refine hN _ ?_; clear hN N) | (clear hN N; first | (refine hN _ ?_; clear hN N) | (clear hN N; first | (refine hN _ ?_; clear hN N) | (refine hN _ ?_; clear hN N))))))
        | (refine bif2.mk (fun hb => ?_) (fun hb => ?_) <;> (try simp only [hb, GA, ↓GB, List.filterMap_cons, eq_self, BEq.rfl, simprocAttr, hnt, hT, hnt1, hT1, hU1P, hag]) <;> ((first | cases hb | (simp only [decide_eq_true_eq, decide_eq_false_iff_not, beq_iff_eq, beq_eq_false_iff_ne, bne_iff_ne, Bool.and_eq_true, Bool.or_eq_true, Bool.not_eq_true', Bool.not_eq_false', Bool.and_eq_false_iff, Bool.or_eq_false_iff, Int.not_lt, Int.not_le] at hb) | skip) <;> (first | (exfalso; omega) | skip)))
        | (refine CallVC.inline (f := 71) ?_ rfl Tryd.ntmps71 rfl ?_ ?_; (focus rw [hP]; exact Tryd.func71); (focus simp); have hT1 : zeroCells X.P 134 = some [(Value.int IntKind.i64 0), Value.nilFunc] ∧ calleeOk X.P 124 = true ∧ fieldsOf X.P 134 = some [(0, 1), (1, 1)] ∧ szOf X.P 134 = some 2 := (by rw [hP]; exact ⟨Ty.ze134, Ty.co124, Ty.fs134, Ty.sz134⟩); intro X1 K1 hU1 hnt1 hbl1 hK1; have hU1P := hU1.P; simp only [GA, ↓GB, List.filterMap_cons, eq_self, BEq.rfl, simprocAttr] at hbl1 ⊢)
        | (refine CallVC.inline (f := 72) ?_ rfl Tryd.ntmps72 rfl ?_ ?_; (focus rw [hP]; exact Tryd.func72); (focus simp); have hT1 : zeroCells X.P 134 = some [(Value.int IntKind.i64 0), Value.nilFunc] ∧ calleeOk X.P 125 = true ∧ fieldsOf X.P 134 = some [(0, 1), (1, 1)] ∧ szOf X.P 134 = some 2 := (by rw [hP]; exact ⟨Ty.ze134, Ty.co125, Ty.fs134, Ty.sz134⟩); intro X1 K1 hU1 hnt1 hbl1 hK1; have hU1P := hU1.P; simp only [GA, ↓GB, List.filterMap_cons, eq_self, BEq.rfl, simprocAttr] at hbl1 ⊢)
        | (refine CallVC.inline (f := 77) ?_ rfl Tryd.ntmps77 rfl ?_ ?_; (focus rw [hP]; exact Tryd.func77); (focus simp); have hT1 : zeroCells X.P 134 = some [(Value.int IntKind.i64 0), Value.nilFunc] ∧ calleeOk X.P 129 = true ∧ fieldsOf X.P 134 = some [(0, 1), (1, 1)] ∧ szOf X.P 134 = some 2 := (by rw [hP]; exact ⟨Ty.ze134, Ty.co129, Ty.fs134, Ty.sz134⟩); intro X1 K1 hU1 hnt1 hbl1 hK1; have hU1P := hU1.P; simp only [GA, ↓GB, List.filterMap_cons, eq_self, BEq.rfl, simprocAttr] at hbl1 ⊢)
        | (refine SX.block ?_)
        | (refine and_mk ?_ ?_; (focus first | decide | omega | rfl | assumption | (simp only [List.length_append, List.length_cons, List.length_nil, B_size]; omega) | (simp; done)))
        | (refine And.intro ?_ ?_))
      all_goals (try refine Done.mk ?_)
      all_goals (refine Imp.le [0, 1, 2, 3, 4, 5, 6, 7, 8, 9, 10, 11] ?_; (refine LeR.of ?_ ?_ ?_ ?_ ?_ ?_ ?_ <;> first | (rw [hbl]; decide) | decide | (simp only [GA, ↓GB, List.filterMap_cons, eq_self, BEq.rfl, simprocAttr, GDs, ren_cond, okB_cond, lren_cond, lokB_cond, map_cond, all_cond, Bool.cond_self, cond_true, cond_false, List.map_append, List.all_append, List.map_cons, List.map_nil, Bool.and_true]; done)))
    · have m12 : M 12 = true := hd.dep _ rfl _ (Array.mem_of_getElem? (i := 0) rfl) rfl
      have m10 : M 10 = true := hd.dep _ rfl _ (Array.mem_of_getElem? (i := 1) rfl) rfl
      have n14 : M 14 = false := dNot hd rfl (Array.mem_of_getElem? (i := 1) rfl) rfl hd.un
      have n18 : M 18 = false := dNot hd rfl (Array.mem_of_getElem? (i := 1) rfl) rfl hd.un
      have n19 : M 19 = false := dNot hd rfl (Array.mem_of_getElem? (i := 1) rfl) rfl n18
      have n20 : M 20 = false := dNot hd rfl (Array.mem_of_getElem? (i := 12) rfl) rfl hd.un
      have hun := hd.un
      refine ⟨_, rfl, rfl, ?_⟩
      simp only [grC, upd, ↓reduceIte, Nat.reduceEqDiff, reduceCtorEq, hun, m12, m10, n14, n18, n19, n20, ren_cond, okB_cond, lren_cond, lokB_cond, map_cond, all_cond, Bool.cond_self, cond_true, cond_false, List.map_append, List.all_append, List.map_cons, List.map_nil, Bool.and_true, List.nil_append, List.cons_append, simprocAttr]
      refine vcOp_sound ?_
      simp only [GA, ↓GB, List.filterMap_cons, eq_self, BEq.rfl, simprocAttr, hnt, hT]
      have hnt1 := True.intro; have hT1 := True.intro; have hU1P := True.intro
      repeat' (first
        | (refine SX.seqK ?_; intro N hN)
        | ((first | (refine SX.ops ?_)); simp only [GA, ↓GB, List.filterMap_cons, eq_self, BEq.rfl, simprocAttr, hnt, hT, hnt1, hT1, hU1P, hag])
        | ((first | refine SX.skip ?_ | refine SX.exit ?_ | refine SX.label ?_); try simp only [GA, ↓GB, List.filterMap_cons, eq_self, BEq.rfl, simprocAttr])
        | (refine SX.cond rfl (fun hb => ?_) (fun hb => ?_) <;> ((first | cases hb | (simp only [decide_eq_true_eq, decide_eq_false_iff_not, beq_iff_eq, beq_eq_false_iff_ne, bne_iff_ne, Bool.and_eq_true, Bool.or_eq_true, Bool.not_eq_true', Bool.not_eq_false', Bool.and_eq_false_iff, Bool.or_eq_false_iff, Int.not_lt, Int.not_le] at hb) | skip) <;> (first | (exfalso; omega) | skip)))
        | (refine SX.ret ?_; try simp only [GA, ↓GB, List.filterMap_cons, eq_self, BEq.rfl, simprocAttr])
        | (refine hN _ ?_; clear hN N)
        | ((first | refine hK1 _ _ (FinI.ret3 ?_) | refine hK1 _ _ (FinI.nrm3 ?_)); (repeat (clear hN N)); clear hK1 K1; simp only [GA, ↓GB, List.filterMap_cons, eq_self, BEq.rfl, simprocAttr, finP_s, hnt, hT, hnt1, hT1, hU1P, hag])
        | ((first | refine hK _ _ (FinI.ret3 ?_) | refine hK _ _ (FinI.nrm3 ?_)); simp only [GA, ↓GB, List.filterMap_cons, eq_self, BEq.rfl, simprocAttr, finP_s, hnt, hT, hnt1, hT1, hU1P, hag]; refine Done.out ?_)
        | (clear hN N; first | (refine hN _ ?_; clear hN N) | (clear hN N; first | (refine hN _ ?_; clear hN N) | (clear hN N; first | (refine hN _ ?_; clear hN N) | (clear hN N; first | (refine hN _ ?_; clear hN N) | (clear hN N; first | (refine hN _ ?_; clear hN N) | (refine hN _ ?_; clear hN N))))))
        | (refine bif2.mk (fun hb => ?_) (fun hb => ?_) <;> (try simp only [hb, GA, ↓GB, List.filterMap_cons, eq_self, BEq.rfl, simprocAttr, hnt, hT, hnt1, hT1, hU1P, hag]) <;> ((first | cases hb | (simp only [decide_eq_true_eq, decide_eq_false_iff_not, beq_iff_eq, beq_eq_false_iff_ne, bne_iff_ne, Bool.and_eq_true, Bool.or_eq_true, Bool.not_eq_true', Bool.not_eq_false', Bool.and_eq_false_iff, Bool.or_eq_false_iff, Int.not_lt, Int.not_le] at hb) | skip) <;> (first | (exfalso; omega) | skip)))
        | (refine CallVC.inline (f := 71) ?_ rfl Tryd.ntmps71 rfl ?_ ?_; (focus rw [hP]; exact Tryd.func71); (focus simp); have hT1 : zeroCells X.P 134 = some [(Value.int IntKind.i64 0), Value.nilFunc] ∧ calleeOk X.P 124 = true ∧ fieldsOf X.P 134 = some [(0, 1), (1, 1)] ∧ szOf X.P 134 = some 2 := (by rw [hP]; exact ⟨Ty.ze134, Ty.co124, Ty.fs134, Ty.sz134⟩); intro X1 K1 hU1 hnt1 hbl1 hK1; have hU1P := hU1.P; simp only [GA, ↓GB, List.filterMap_cons, eq_self, BEq.rfl, simprocAttr] at hbl1 ⊢)
        | (refine CallVC.inline (f := 72) ?_ rfl Tryd.ntmps72 rfl ?_ ?_; (focus rw [hP]; exact Tryd.func72); (focus simp); have hT1 : zeroCells X.P 134 = some [(Value.int IntKind.i64 0), Value.nilFunc] ∧ calleeOk X.P 125 = true ∧ fieldsOf X.P 134 = some [(0, 1), (1, 1)] ∧ szOf X.P 134 = some 2 := (by rw [hP]; exact ⟨Ty.ze134, Ty.co125, Ty.fs134, Ty.sz134⟩); intro X1 K1 hU1 hnt1 hbl1 hK1; have hU1P := hU1.P; simp only [GA, ↓GB, List.filterMap_cons, eq_self, BEq.rfl, simprocAttr] at hbl1 ⊢)
        | (refine CallVC.inline (f := 77) ?_ rfl Tryd.ntmps77 rfl ?_ ?_; (focus rw [hP]; exact Tryd.func77); (focus simp); have hT1 : zeroCells X.P 134 = some [(Value.int IntKind.i64 0), Value.nilFunc] ∧ calleeOk X.P 129 = true ∧ fieldsOf X.P 134 = some [(0, 1), (1, 1)] ∧ szOf X.P 134 = some 2 := (by rw [hP]; exact ⟨Ty.ze134, Ty.co129, Ty.fs134, Ty.sz134⟩); intro X1 K1 hU1 hnt1 hbl1 hK1; have hU1P := hU1.P; simp only [GA, ↓GB, List.filterMap_cons, eq_self, BEq.rfl, simprocAttr] at hbl1 ⊢)
        | (refine SX.block ?_)
        | (refine and_mk ?_ ?_; (focus first | decide | omega | rfl | assumption | (simp only [List.length_append, List.length_cons, List.length_nil, B_size]; omega) | (simp; done)))
        | (refine And.intro ?_ ?_))
      all_goals (try refine Done.mk ?_)
      all_goals (refine Imp.le [0, 1, 2, 3, 4, 5, 6, 7, 8, 9, 12, 11] ?_; (refine LeR.of ?_ ?_ ?_ ?_ ?_ ?_ ?_ <;> first | (rw [hbl]; decide) | decide | (simp only [GA, ↓GB, List.filterMap_cons, eq_self, BEq.rfl, simprocAttr, GDs, ren_cond, okB_cond, lren_cond, lokB_cond, map_cond, all_cond, Bool.cond_self, cond_true, cond_false, List.map_append, List.all_append, List.map_cons, List.map_nil, Bool.and_true]; done)))
    · have m1 : M 1 = true := hd.dep _ rfl _ (Array.mem_of_getElem? (i := 0) rfl) rfl
      have m13 : M 13 = true := hd.dep _ rfl _ (Array.mem_of_getElem? (i := 1) rfl) rfl
      have n20 : M 20 = false := dNot hd rfl (Array.mem_of_getElem? (i := 13) rfl) rfl hd.un
      have hun := hd.un
      refine ⟨_, rfl, rfl, ?_⟩
      simp only [grC, upd, ↓reduceIte, Nat.reduceEqDiff, reduceCtorEq, hun, m1, m13, n20, ren_cond, okB_cond, lren_cond, lokB_cond, map_cond, all_cond, Bool.cond_self, cond_true, cond_false, List.map_append, List.all_append, List.map_cons, List.map_nil, Bool.and_true, List.nil_append, List.cons_append, simprocAttr]
      refine VO.insert (kt := 3) (et := 134) (i := 5) (kv := .int .i64 5) (s := .agg [.v (.int .i64 2), .clo 129 [] [.loc 10 0]]) (kd := .int .i64) rfl rfl rfl rfl (by rw [hP]; kernel_rfl) (by rw [hP]; kernel_rfl) rfl (by simp [all_cond, KeyOf]) (look_nk (by simp [all_cond, nk])) ?_
      refine Imp.perm (i := 5) rfl ?_
      try simp only [List.append_assoc, List.nil_append, List.cons_append, List.append_nil]
      repeat (first | exact List.Perm.refl _ | exact List.perm_append_singleton _ _ | refine List.Perm.append_left _ ?_ | refine (List.Perm.append_left _ ?_).trans List.perm_middle)
    · have n16 : M 16 = false := dNot hd rfl (Array.mem_of_getElem? (i := 1) rfl) rfl hd.un
      have n20 : M 20 = false := dNot hd rfl (Array.mem_of_getElem? (i := 14) rfl) rfl hd.un
      have hun := hd.un
      refine ⟨_, rfl, rfl, ?_⟩
      simp only [grC, upd, ↓reduceIte, Nat.reduceEqDiff, reduceCtorEq, hun, n16, n20, ren_cond, okB_cond, lren_cond, lokB_cond, map_cond, all_cond, Bool.cond_self, cond_true, cond_false, List.map_append, List.all_append, List.map_cons, List.map_nil, Bool.and_true, List.nil_append, List.cons_append, simprocAttr]
      refine vcOp_sound ?_
      simp only [GA, ↓GB, List.filterMap_cons, eq_self, BEq.rfl, simprocAttr, hnt, hT]
      have hnt1 := True.intro; have hT1 := True.intro; have hU1P := True.intro
      repeat' (first
        | (refine SX.seqK ?_; intro N hN)
        | ((first | (refine SX.ops ?_)); simp only [GA, ↓GB, List.filterMap_cons, eq_self, BEq.rfl, simprocAttr, hnt, hT, hnt1, hT1, hU1P, hag])
        | ((first | refine SX.skip ?_ | refine SX.exit ?_ | refine SX.label ?_); try simp only [GA, ↓GB, List.filterMap_cons, eq_self, BEq.rfl, simprocAttr])
        | (refine SX.cond rfl (fun hb => ?_) (fun hb => ?_) <;> ((first | cases hb | (simp only [decide_eq_true_eq, decide_eq_false_iff_not, beq_iff_eq, beq_eq_false_iff_ne, bne_iff_ne, Bool.and_eq_true, Bool.or_eq_true, Bool.not_eq_true', Bool.not_eq_false', Bool.and_eq_false_iff, Bool.or_eq_false_iff, Int.not_lt, Int.not_le] at hb) | skip) <;> (first | (exfalso; omega) | skip)))
        | (refine SX.ret ?_; try simp only [GA, ↓GB, List.filterMap_cons, eq_self, BEq.rfl, simprocAttr])
        | (refine hN _ ?_; clear hN N)
        | ((first | refine hK1 _ _ (FinI.ret3 ?_) | refine hK1 _ _ (FinI.nrm3 ?_)); (repeat (clear hN N)); clear hK1 K1; simp only [GA, ↓GB, List.filterMap_cons, eq_self, BEq.rfl, simprocAttr, finP_s, hnt, hT, hnt1, hT1, hU1P, hag])
        | ((first | refine hK _ _ (FinI.ret3 ?_) | refine hK _ _ (FinI.nrm3 ?_)); simp only [GA, ↓GB, List.filterMap_cons, eq_self, BEq.rfl, simprocAttr, finP_s, hnt, hT, hnt1, hT1, hU1P, hag]; refine Done.out ?_)
        | (clear hN N; first | (refine hN _ ?_; clear hN N) | (clear hN N; first | (refine hN _ ?_; clear hN N) | (clear hN N; first | (refine hN _ ?_; clear hN N) | (clear hN N; first | (refine hN _ ?_; clear hN N) | (clear hN N; first | (refine hN _ ?_; clear hN N) | (refine hN _ ?_; clear hN N))))))
        | (refine bif2.mk (fun hb => ?_) (fun hb => ?_) <;> (try simp only [hb, GA, ↓GB, List.filterMap_cons, eq_self, BEq.rfl, simprocAttr, hnt, hT, hnt1, hT1, hU1P, hag]) <;> ((first | cases hb | (simp only [decide_eq_true_eq, decide_eq_false_iff_not, beq_iff_eq, beq_eq_false_iff_ne, bne_iff_ne, Bool.and_eq_true, Bool.or_eq_true, Bool.not_eq_true', Bool.not_eq_false', Bool.and_eq_false_iff, Bool.or_eq_false_iff, Int.not_lt, Int.not_le] at hb) | skip) <;> (first | (exfalso; omega) | skip)))
        | (refine CallVC.inline (f := 71) ?_ rfl Tryd.ntmps71 rfl ?_ ?_; (focus rw [hP]; exact Tryd.func71); (focus simp); have hT1 : zeroCells X.P 134 = some [(Value.int IntKind.i64 0), Value.nilFunc] ∧ calleeOk X.P 124 = true ∧ fieldsOf X.P 134 = some [(0, 1), (1, 1)] ∧ szOf X.P 134 = some 2 := (by rw [hP]; exact ⟨Ty.ze134, Ty.co124, Ty.fs134, Ty.sz134⟩); intro X1 K1 hU1 hnt1 hbl1 hK1; have hU1P := hU1.P; simp only [GA, ↓GB, List.filterMap_cons, eq_self, BEq.rfl, simprocAttr] at hbl1 ⊢)
        | (refine CallVC.inline (f := 72) ?_ rfl Tryd.ntmps72 rfl ?_ ?_; (focus rw [hP]; exact Tryd.func72); (focus simp); have hT1 : zeroCells X.P 134 = some [(Value.int IntKind.i64 0), Value.nilFunc] ∧ calleeOk X.P 125 = true ∧ fieldsOf X.P 134 = some [(0, 1), (1, 1)] ∧ szOf X.P 134 = some 2 := (by rw [hP]; exact ⟨Ty.ze134, Ty.co125, Ty.fs134, Ty.sz134⟩); intro X1 K1 hU1 hnt1 hbl1 hK1; have hU1P := hU1.P; simp only [GA, ↓GB, List.filterMap_cons, eq_self, BEq.rfl, simprocAttr] at hbl1 ⊢)
        | (refine CallVC.inline (f := 77) ?_ rfl Tryd.ntmps77 rfl ?_ ?_; (focus rw [hP]; exact Tryd.func77); (focus simp); have hT1 : zeroCells X.P 134 = some [(Value.int IntKind.i64 0), Value.nilFunc] ∧ calleeOk X.P 129 = true ∧ fieldsOf X.P 134 = some [(0, 1), (1, 1)] ∧ szOf X.P 134 = some 2 := (by rw [hP]; exact ⟨Ty.ze134, Ty.co129, Ty.fs134, Ty.sz134⟩); intro X1 K1 hU1 hnt1 hbl1 hK1; have hU1P := hU1.P; simp only [GA, ↓GB, List.filterMap_cons, eq_self, BEq.rfl, simprocAttr] at hbl1 ⊢)
        | (refine SX.block ?_)
        | (refine and_mk ?_ ?_; (focus first | decide | omega | rfl | assumption | (simp only [List.length_append, List.length_cons, List.length_nil, B_size]; omega) | (simp; done)))
        | (refine And.intro ?_ ?_))
      all_goals (try refine Done.mk ?_)
      all_goals (refine Imp.le [0, 1, 2, 3, 4, 5, 6, 7, 8, 9, 10, 11] ?_; (refine LeR.of ?_ ?_ ?_ ?_ ?_ ?_ ?_ <;> first | (rw [hbl]; decide) | decide | (simp only [GA, ↓GB, List.filterMap_cons, eq_self, BEq.rfl, simprocAttr, GDs, ren_cond, okB_cond, lren_cond, lokB_cond, map_cond, all_cond, Bool.cond_self, cond_true, cond_false, List.map_append, List.all_append, List.map_cons, List.map_nil, Bool.and_true]; done)))
    · have m1 : M 1 = true := hd.dep _ rfl _ (Array.mem_of_getElem? (i := 0) rfl) rfl
      have m15 : M 15 = true := hd.dep _ rfl _ (Array.mem_of_getElem? (i := 1) rfl) rfl
      have n20 : M 20 = false := dNot hd rfl (Array.mem_of_getElem? (i := 15) rfl) rfl hd.un
      have hun := hd.un
      refine ⟨_, rfl, rfl, ?_⟩
      simp only [grC, upd, ↓reduceIte, Nat.reduceEqDiff, reduceCtorEq, hun, m1, m15, n20, ren_cond, okB_cond, lren_cond, lokB_cond, map_cond, all_cond, Bool.cond_self, cond_true, cond_false, List.map_append, List.all_append, List.map_cons, List.map_nil, Bool.and_true, List.nil_append, List.cons_append, simprocAttr]
      refine VO.insert (kt := 3) (et := 134) (i := 5) (kv := .int .i64 6) (s := .agg [.v (.int .i64 2), .clo 75 [] [.loc 1 0]]) (kd := .int .i64) rfl rfl rfl rfl (by rw [hP]; kernel_rfl) (by rw [hP]; kernel_rfl) rfl (by simp [all_cond, KeyOf]) (look_nk (by simp [all_cond, nk])) ?_
      refine Imp.perm (i := 5) rfl ?_
      try simp only [List.append_assoc, List.nil_append, List.cons_append, List.append_nil]
      repeat (first | exact List.Perm.refl _ | exact List.perm_append_singleton _ _ | refine List.Perm.append_left _ ?_ | refine (List.Perm.append_left _ ?_).trans List.perm_middle)
    · have n18 : M 18 = false := dNot hd rfl (Array.mem_of_getElem? (i := 0) rfl) rfl hd.un
      have n19 : M 19 = false := dNot hd rfl (Array.mem_of_getElem? (i := 1) rfl) rfl n18
      have n20 : M 20 = false := dNot hd rfl (Array.mem_of_getElem? (i := 16) rfl) rfl hd.un
      have hun := hd.un
      refine ⟨_, rfl, rfl, ?_⟩
      simp only [grC, upd, ↓reduceIte, Nat.reduceEqDiff, reduceCtorEq, hun, n18, n19, n20, ren_cond, okB_cond, lren_cond, lokB_cond, map_cond, all_cond, Bool.cond_self, cond_true, cond_false, List.map_append, List.all_append, List.map_cons, List.map_nil, Bool.and_true, List.nil_append, List.cons_append, simprocAttr]
      refine vcOp_sound ?_
      simp only [GA, ↓GB, List.filterMap_cons, eq_self, BEq.rfl, simprocAttr, hnt, hT]
      have hnt1 := True.intro; have hT1 := True.intro; have hU1P := True.intro
      repeat' (first
        | (refine SX.seqK ?_; intro N hN)
        | ((first | (refine SX.ops ?_)); simp only [GA, ↓GB, List.filterMap_cons, eq_self, BEq.rfl, simprocAttr, hnt, hT, hnt1, hT1, hU1P, hag])
        | ((first | refine SX.skip ?_ | refine SX.exit ?_ | refine SX.label ?_); try simp only [GA, ↓GB, List.filterMap_cons, eq_self, BEq.rfl, simprocAttr])
        | (refine SX.cond rfl (fun hb => ?_) (fun hb => ?_) <;> ((first | cases hb | (simp only [decide_eq_true_eq, decide_eq_false_iff_not, beq_iff_eq, beq_eq_false_iff_ne, bne_iff_ne, Bool.and_eq_true, Bool.or_eq_true, Bool.not_eq_true', Bool.not_eq_false', Bool.and_eq_false_iff, Bool.or_eq_false_iff, Int.not_lt, Int.not_le] at hb) | skip) <;> (first | (exfalso; omega) | skip)))
        | (refine SX.ret ?_; try simp only [GA, ↓GB, List.filterMap_cons, eq_self, BEq.rfl, simprocAttr])
        | (refine hN _ ?_; clear hN N)
        | ((first | refine hK1 _ _ (FinI.ret3 ?_) | refine hK1 _ _ (FinI.nrm3 ?_)); (repeat (clear hN N)); clear hK1 K1; simp only [GA, ↓GB, List.filterMap_cons, eq_self, BEq.rfl, simprocAttr, finP_s, hnt, hT, hnt1, hT1, hU1P, hag])
        | ((first | refine hK _ _ (FinI.ret3 ?_) | refine hK _ _ (FinI.nrm3 ?_)); simp only [GA, ↓GB, List.filterMap_cons, eq_self, BEq.rfl, simprocAttr, finP_s, hnt, hT, hnt1, hT1, hU1P, hag]; refine Done.out ?_)
        | (clear hN N; first | (refine hN _ ?_; clear hN N) | (clear hN N; first | (refine hN _ ?_; clear hN N) | (clear hN N; first | (refine hN _ ?_; clear hN N) | (clear hN N; first | (refine hN _ ?_; clear hN N) | (clear hN N; first | (refine hN _ ?_; clear hN N) | (refine hN _ ?_; clear hN N))))))
        | (refine bif2.mk (fun hb => ?_) (fun hb => ?_) <;> (try simp only [hb, GA, ↓GB, List.filterMap_cons, eq_self, BEq.rfl, simprocAttr, hnt, hT, hnt1, hT1, hU1P, hag]) <;> ((first | cases hb | (simp only [decide_eq_true_eq, decide_eq_false_iff_not, beq_iff_eq, beq_eq_false_iff_ne, bne_iff_ne, Bool.and_eq_true, Bool.or_eq_true, Bool.not_eq_true', Bool.not_eq_false', Bool.and_eq_false_iff, Bool.or_eq_false_iff, Int.not_lt, Int.not_le] at hb) | skip) <;> (first | (exfalso; omega) | skip)))
        | (refine CallVC.inline (f := 71) ?_ rfl Tryd.ntmps71 rfl ?_ ?_; (focus rw [hP]; exact Tryd.func71); (focus simp); have hT1 : zeroCells X.P 134 = some [(Value.int IntKind.i64 0), Value.nilFunc] ∧ calleeOk X.P 124 = true ∧ fieldsOf X.P 134 = some [(0, 1), (1, 1)] ∧ szOf X.P 134 = some 2 := (by rw [hP]; exact ⟨Ty.ze134, Ty.co124, Ty.fs134, Ty.sz134⟩); intro X1 K1 hU1 hnt1 hbl1 hK1; have hU1P := hU1.P; simp only [GA, ↓GB, List.filterMap_cons, eq_self, BEq.rfl, simprocAttr] at hbl1 ⊢)
        | (refine CallVC.inline (f := 72) ?_ rfl Tryd.ntmps72 rfl ?_ ?_; (focus rw [hP]; exact Tryd.func72); (focus simp); have hT1 : zeroCells X.P 134 = some [(Value.int IntKind.i64 0), Value.nilFunc] ∧ calleeOk X.P 125 = true ∧ fieldsOf X.P 134 = some [(0, 1), (1, 1)] ∧ szOf X.P 134 = some 2 := (by rw [hP]; exact ⟨Ty.ze134, Ty.co125, Ty.fs134, Ty.sz134⟩); intro X1 K1 hU1 hnt1 hbl1 hK1; have hU1P := hU1.P; simp only [GA, ↓GB, List.filterMap_cons, eq_self, BEq.rfl, simprocAttr] at hbl1 ⊢)
        | (refine CallVC.inline (f := 77) ?_ rfl Tryd.ntmps77 rfl ?_ ?_; (focus rw [hP]; exact Tryd.func77); (focus simp); have hT1 : zeroCells X.P 134 = some [(Value.int IntKind.i64 0), Value.nilFunc] ∧ calleeOk X.P 129 = true ∧ fieldsOf X.P 134 = some [(0, 1), (1, 1)] ∧ szOf X.P 134 = some 2 := (by rw [hP]; exact ⟨Ty.ze134, Ty.co129, Ty.fs134, Ty.sz134⟩); intro X1 K1 hU1 hnt1 hbl1 hK1; have hU1P := hU1.P; simp only [GA, ↓GB, List.filterMap_cons, eq_self, BEq.rfl, simprocAttr] at hbl1 ⊢)
        | (refine SX.block ?_)
        | (refine and_mk ?_ ?_; (focus first | decide | omega | rfl | assumption | (simp only [List.length_append, List.length_cons, List.length_nil, B_size]; omega) | (simp; done)))
        | (refine And.intro ?_ ?_))
      all_goals (try refine Done.mk ?_)
      all_goals (refine Imp.le [0, 1, 2, 3, 4, 5, 6, 7, 8, 9, 10, 11] ?_; (refine LeR.of ?_ ?_ ?_ ?_ ?_ ?_ ?_ <;> first | (rw [hbl]; decide) | decide | (simp only [GA, ↓GB, List.filterMap_cons, eq_self, BEq.rfl, simprocAttr, GDs, ren_cond, okB_cond, lren_cond, lokB_cond, map_cond, all_cond, Bool.cond_self, cond_true, cond_false, List.map_append, List.all_append, List.map_cons, List.map_nil, Bool.and_true]; done)))
    · have m17 : M 17 = true := hd.dep _ rfl _ (Array.mem_of_getElem? (i := 0) rfl) rfl
      have m13 : M 13 = true := hd.dep _ rfl _ (Array.mem_of_getElem? (i := 1) rfl) rfl
      have n19 : M 19 = false := dNot hd rfl (Array.mem_of_getElem? (i := 1) rfl) rfl hd.un
      have n20 : M 20 = false := dNot hd rfl (Array.mem_of_getElem? (i := 17) rfl) rfl hd.un
      have hun := hd.un
      refine ⟨_, rfl, rfl, ?_⟩
      simp only [grC, upd, ↓reduceIte, Nat.reduceEqDiff, reduceCtorEq, hun, m17, m13, n19, n20, ren_cond, okB_cond, lren_cond, lokB_cond, map_cond, all_cond, Bool.cond_self, cond_true, cond_false, List.map_append, List.all_append, List.map_cons, List.map_nil, Bool.and_true, List.nil_append, List.cons_append, simprocAttr]
      refine vcOp_sound ?_
      simp only [GA, ↓GB, List.filterMap_cons, eq_self, BEq.rfl, simprocAttr, hnt, hT]
      have hnt1 := True.intro; have hT1 := True.intro; have hU1P := True.intro
      repeat' (first
        | (refine SX.seqK ?_; intro N hN)
        | ((first | (refine SX.ops ?_)); simp only [GA, ↓GB, List.filterMap_cons, eq_self, BEq.rfl, simprocAttr, hnt, hT, hnt1, hT1, hU1P, hag])
        | ((first | refine SX.skip ?_ | refine SX.exit ?_ | refine SX.label ?_); try simp only [GA, ↓GB, List.filterMap_cons, eq_self, BEq.rfl, simprocAttr])
        | (refine SX.cond rfl (fun hb => ?_) (fun hb => ?_) <;> ((first | cases hb | (simp only [decide_eq_true_eq, decide_eq_false_iff_not, beq_iff_eq, beq_eq_false_iff_ne, bne_iff_ne, Bool.and_eq_true, Bool.or_eq_true, Bool.not_eq_true', Bool.not_eq_false', Bool.and_eq_false_iff, Bool.or_eq_false_iff, Int.not_lt, Int.not_le] at hb) | skip) <;> (first | (exfalso; omega) | skip)))
        | (refine SX.ret ?_; try simp only [GA, ↓GB, List.filterMap_cons, eq_self, BEq.rfl, simprocAttr])
        | (refine hN _ ?_; clear hN N)
        | ((first | refine hK1 _ _ (FinI.ret3 ?_) | refine hK1 _ _ (FinI.nrm3 ?_)); (repeat (clear hN N)); clear hK1 K1; simp only [GA, ↓GB, List.filterMap_cons, eq_self, BEq.rfl, simprocAttr, finP_s, hnt, hT, hnt1, hT1, hU1P, hag])
        | ((first | refine hK _ _ (FinI.ret3 ?_) | refine hK _ _ (FinI.nrm3 ?_)); simp only [GA, ↓GB, List.filterMap_cons, eq_self, BEq.rfl, simprocAttr, finP_s, hnt, hT, hnt1, hT1, hU1P, hag]; refine Done.out ?_)
        | (clear hN N; first | (refine hN _ ?_; clear hN N) | (clear hN N; first | (refine hN _ ?_; clear hN N) | (clear hN N; first | (refine hN _ ?_; clear hN N) | (clear hN N; first | (refine hN _ ?_; clear hN N) | (clear hN N; first | (refine hN _ ?_; clear hN N) | (refine hN _ ?_; clear hN N))))))
        | (refine bif2.mk (fun hb => ?_) (fun hb => ?_) <;> (try simp only [hb, GA, ↓GB, List.filterMap_cons, eq_self, BEq.rfl, simprocAttr, hnt, hT, hnt1, hT1, hU1P, hag]) <;> ((first | cases hb | (simp only [decide_eq_true_eq, decide_eq_false_iff_not, beq_iff_eq, beq_eq_false_iff_ne, bne_iff_ne, Bool.and_eq_true, Bool.or_eq_true, Bool.not_eq_true', Bool.not_eq_false', Bool.and_eq_false_iff, Bool.or_eq_false_iff, Int.not_lt, Int.not_le] at hb) | skip) <;> (first | (exfalso; omega) | skip)))
        | (refine CallVC.inline (f := 71) ?_ rfl Tryd.ntmps71 rfl ?_ ?_; (focus rw [hP]; exact Tryd.func71); (focus simp); have hT1 : zeroCells X.P 134 = some [(Value.int IntKind.i64 0), Value.nilFunc] ∧ calleeOk X.P 124 = true ∧ fieldsOf X.P 134 = some [(0, 1), (1, 1)] ∧ szOf X.P 134 = some 2 := (by rw [hP]; exact ⟨Ty.ze134, Ty.co124, Ty.fs134, Ty.sz134⟩); intro X1 K1 hU1 hnt1 hbl1 hK1; have hU1P := hU1.P; simp only [GA, ↓GB, List.filterMap_cons, eq_self, BEq.rfl, simprocAttr] at hbl1 ⊢)
        | (refine CallVC.inline (f := 72) ?_ rfl Tryd.ntmps72 rfl ?_ ?_; (focus rw [hP]; exact Tryd.func72); (focus simp); have hT1 : zeroCells X.P 134 = some [(Value.int IntKind.i64 0), Value.nilFunc] ∧ calleeOk X.P 125 = true ∧ fieldsOf X.P 134 = some [(0, 1), (1, 1)] ∧ szOf X.P 134 = some 2 := (by rw [hP]; exact ⟨Ty.ze134, Ty.co125, Ty.fs134, Ty.sz134⟩); intro X1 K1 hU1 hnt1 hbl1 hK1; have hU1P := hU1.P; simp only [GA, ↓GB, List.filterMap_cons, eq_self, BEq.rfl, simprocAttr] at hbl1 ⊢)
        | (refine CallVC.inline (f := 77) ?_ rfl Tryd.ntmps77 rfl ?_ ?_; (focus rw [hP]; exact Tryd.func77); (focus simp); have hT1 : zeroCells X.P 134 = some [(Value.int IntKind.i64 0), Value.nilFunc] ∧ calleeOk X.P 129 = true ∧ fieldsOf X.P 134 = some [(0, 1), (1, 1)] ∧ szOf X.P 134 = some 2 := (by rw [hP]; exact ⟨Ty.ze134, Ty.co129, Ty.fs134, Ty.sz134⟩); intro X1 K1 hU1 hnt1 hbl1 hK1; have hU1P := hU1.P; simp only [GA, ↓GB, List.filterMap_cons, eq_self, BEq.rfl, simprocAttr] at hbl1 ⊢)
        | (refine SX.block ?_)
        | (refine and_mk ?_ ?_; (focus first | decide | omega | rfl | assumption | (simp only [List.length_append, List.length_cons, List.length_nil, B_size]; omega) | (simp; done)))
        | (refine And.intro ?_ ?_))
      all_goals (try refine Done.mk ?_)
      all_goals (refine Imp.le [0, 1, 2, 3, 4, 5, 6, 7, 8, 9, 10, 12] ?_; (refine LeR.of ?_ ?_ ?_ ?_ ?_ ?_ ?_ <;> first | (rw [hbl]; decide) | decide | (simp only [GA, ↓GB, List.filterMap_cons, eq_self, BEq.rfl, simprocAttr, GDs, ren_cond, okB_cond, lren_cond, lokB_cond, map_cond, all_cond, Bool.cond_self, cond_true, cond_false, List.map_append, List.all_append, List.map_cons, List.map_nil, Bool.and_true]; done)))
    · have m1 : M 1 = true := hd.dep _ rfl _ (Array.mem_of_getElem? (i := 0) rfl) rfl
      have m18 : M 18 = true := hd.dep _ rfl _ (Array.mem_of_getElem? (i := 1) rfl) rfl
      have n20 : M 20 = false := dNot hd rfl (Array.mem_of_getElem? (i := 18) rfl) rfl hd.un
      have hun := hd.un
      refine ⟨_, rfl, rfl, ?_⟩
      simp only [grC, upd, ↓reduceIte, Nat.reduceEqDiff, reduceCtorEq, hun, m1, m18, n20, ren_cond, okB_cond, lren_cond, lokB_cond, map_cond, all_cond, Bool.cond_self, cond_true, cond_false, List.map_append, List.all_append, List.map_cons, List.map_nil, Bool.and_true, List.nil_append, List.cons_append, simprocAttr]
      refine VO.insert (kt := 3) (et := 134) (i := 5) (kv := .int .i64 7) (s := .agg [.v (.int .i64 2), .clo 125 [] [.loc 11 0]]) (kd := .int .i64) rfl rfl rfl rfl (by rw [hP]; kernel_rfl) (by rw [hP]; kernel_rfl) rfl (by simp [all_cond, KeyOf]) (look_nk (by simp [all_cond, nk])) ?_
      refine Imp.perm (i := 5) rfl ?_
      try simp only [List.append_assoc, List.nil_append, List.cons_append, List.append_nil]
      repeat (first | exact List.Perm.refl _ | exact List.perm_append_singleton _ _ | refine List.Perm.append_left _ ?_ | refine (List.Perm.append_left _ ?_).trans List.perm_middle)
    · have m1 : M 1 = true := hd.dep _ rfl _ (Array.mem_of_getElem? (i := 0) rfl) rfl
      have m2 : M 2 = true := hd.dep _ rfl _ (Array.mem_of_getElem? (i := 1) rfl) rfl
      have m3 : M 3 = true := hd.dep _ rfl _ (Array.mem_of_getElem? (i := 2) rfl) rfl
      have m4 : M 4 = true := hd.dep _ rfl _ (Array.mem_of_getElem? (i := 3) rfl) rfl
      have m5 : M 5 = true := hd.dep _ rfl _ (Array.mem_of_getElem? (i := 4) rfl) rfl
      have m6 : M 6 = true := hd.dep _ rfl _ (Array.mem_of_getElem? (i := 5) rfl) rfl
      have m7 : M 7 = true := hd.dep _ rfl _ (Array.mem_of_getElem? (i := 6) rfl) rfl
      have m8 : M 8 = true := hd.dep _ rfl _ (Array.mem_of_getElem? (i := 7) rfl) rfl
      have m9 : M 9 = true := hd.dep _ rfl _ (Array.mem_of_getElem? (i := 8) rfl) rfl
      have m10 : M 10 = true := hd.dep _ rfl _ (Array.mem_of_getElem? (i := 9) rfl) rfl
      have m11 : M 11 = true := hd.dep _ rfl _ (Array.mem_of_getElem? (i := 10) rfl) rfl
      have m12 : M 12 = true := hd.dep _ rfl _ (Array.mem_of_getElem? (i := 11) rfl) rfl
      have m13 : M 13 = true := hd.dep _ rfl _ (Array.mem_of_getElem? (i := 12) rfl) rfl
      have m14 : M 14 = true := hd.dep _ rfl _ (Array.mem_of_getElem? (i := 13) rfl) rfl
      have m15 : M 15 = true := hd.dep _ rfl _ (Array.mem_of_getElem? (i := 14) rfl) rfl
      have m16 : M 16 = true := hd.dep _ rfl _ (Array.mem_of_getElem? (i := 15) rfl) rfl
      have m17 : M 17 = true := hd.dep _ rfl _ (Array.mem_of_getElem? (i := 16) rfl) rfl
      have m18 : M 18 = true := hd.dep _ rfl _ (Array.mem_of_getElem? (i := 17) rfl) rfl
      have m19 : M 19 = true := hd.dep _ rfl _ (Array.mem_of_getElem? (i := 18) rfl) rfl
      have hun := hd.un
      refine ⟨_, rfl, rfl, ?_⟩
      simp only [grC, upd, ↓reduceIte, Nat.reduceEqDiff, reduceCtorEq, hun, m1, m2, m3, m4, m5, m6, m7, m8, m9, m10, m11, m12, m13, m14, m15, m16, m17, m18, m19, ren_cond, okB_cond, lren_cond, lokB_cond, map_cond, all_cond, Bool.cond_self, cond_true, cond_false, List.map_append, List.all_append, List.map_cons, List.map_nil, Bool.and_true, List.nil_append, List.cons_append, simprocAttr]
      refine vcOp_sound ?_
      simp only [GA, ↓GB, List.filterMap_cons, eq_self, BEq.rfl, simprocAttr, hnt, hT]
      have hnt1 := True.intro; have hT1 := True.intro; have hU1P := True.intro
      repeat' (first
        | (refine SX.seqK ?_; intro N hN)
        | ((first | (refine SX.ops ?_)); simp only [GA, ↓GB, List.filterMap_cons, eq_self, BEq.rfl, simprocAttr, hnt, hT, hnt1, hT1, hU1P, hag])
        | ((first | refine SX.skip ?_ | refine SX.exit ?_ | refine SX.label ?_); try simp only [GA, ↓GB, List.filterMap_cons, eq_self, BEq.rfl, simprocAttr])
        | (refine SX.cond rfl (fun hb => ?_) (fun hb => ?_) <;> ((first | cases hb | (simp only [decide_eq_true_eq, decide_eq_false_iff_not, beq_iff_eq, beq_eq_false_iff_ne, bne_iff_ne, Bool.and_eq_true, Bool.or_eq_true, Bool.not_eq_true', Bool.not_eq_false', Bool.and_eq_false_iff, Bool.or_eq_false_iff, Int.not_lt, Int.not_le] at hb) | skip) <;> (first | (exfalso; omega) | skip)))
        | (refine SX.ret ?_; try simp only [GA, ↓GB, List.filterMap_cons, eq_self, BEq.rfl, simprocAttr])
        | (refine hN _ ?_; clear hN N)
        | ((first | refine hK1 _ _ (FinI.ret3 ?_) | refine hK1 _ _ (FinI.nrm3 ?_)); (repeat (clear hN N)); clear hK1 K1; simp only [GA, ↓GB, List.filterMap_cons, eq_self, BEq.rfl, simprocAttr, finP_s, hnt, hT, hnt1, hT1, hU1P, hag])
        | ((first | refine hK _ _ (FinI.ret3 ?_) | refine hK _ _ (FinI.nrm3 ?_)); simp only [GA, ↓GB, List.filterMap_cons, eq_self, BEq.rfl, simprocAttr, finP_s, hnt, hT, hnt1, hT1, hU1P, hag]; refine Done.out ?_)
        | (clear hN N; first | (refine hN _ ?_; clear hN N) | (clear hN N; first | (refine hN _ ?_; clear hN N) | (clear hN N; first | (refine hN _ ?_; clear hN N) | (clear hN N; first | (refine hN _ ?_; clear hN N) | (clear hN N; first | (refine hN _ ?_; clear hN N) | (refine hN _ ?_; clear hN N))))))
        | (refine bif2.mk (fun hb => ?_) (fun hb => ?_) <;> (try simp only [hb, GA, ↓GB, List.filterMap_cons, eq_self, BEq.rfl, simprocAttr, hnt, hT, hnt1, hT1, hU1P, hag]) <;> ((first | cases hb | (simp only [decide_eq_true_eq, decide_eq_false_iff_not, beq_iff_eq, beq_eq_false_iff_ne, bne_iff_ne, Bool.and_eq_true, Bool.or_eq_true, Bool.not_eq_true', Bool.not_eq_false', Bool.and_eq_false_iff, Bool.or_eq_false_iff, Int.not_lt, Int.not_le] at hb) | skip) <;> (first | (exfalso; omega) | skip)))
        | (refine CallVC.inline (f := 71) ?_ rfl Tryd.ntmps71 rfl ?_ ?_; (focus rw [hP]; exact Tryd.func71); (focus simp); have hT1 : zeroCells X.P 134 = some [(Value.int IntKind.i64 0), Value.nilFunc] ∧ calleeOk X.P 124 = true ∧ fieldsOf X.P 134 = some [(0, 1), (1, 1)] ∧ szOf X.P 134 = some 2 := (by rw [hP]; exact ⟨Ty.ze134, Ty.co124, Ty.fs134, Ty.sz134⟩); intro X1 K1 hU1 hnt1 hbl1 hK1; have hU1P := hU1.P; simp only [GA, ↓GB, List.filterMap_cons, eq_self, BEq.rfl, simprocAttr] at hbl1 ⊢)
        | (refine CallVC.inline (f := 72) ?_ rfl Tryd.ntmps72 rfl ?_ ?_; (focus rw [hP]; exact Tryd.func72); (focus simp); have hT1 : zeroCells X.P 134 = some [(Value.int IntKind.i64 0), Value.nilFunc] ∧ calleeOk X.P 125 = true ∧ fieldsOf X.P 134 = some [(0, 1), (1, 1)] ∧ szOf X.P 134 = some 2 := (by rw [hP]; exact ⟨Ty.ze134, Ty.co125, Ty.fs134, Ty.sz134⟩); intro X1 K1 hU1 hnt1 hbl1 hK1; have hU1P := hU1.P; simp only [GA, ↓GB, List.filterMap_cons, eq_self, BEq.rfl, simprocAttr] at hbl1 ⊢)
        | (refine CallVC.inline (f := 77) ?_ rfl Tryd.ntmps77 rfl ?_ ?_; (focus rw [hP]; exact Tryd.func77); (focus simp); have hT1 : zeroCells X.P 134 = some [(Value.int IntKind.i64 0), Value.nilFunc] ∧ calleeOk X.P 129 = true ∧ fieldsOf X.P 134 = some [(0, 1), (1, 1)] ∧ szOf X.P 134 = some 2 := (by rw [hP]; exact ⟨Ty.ze134, Ty.co129, Ty.fs134, Ty.sz134⟩); intro X1 K1 hU1 hnt1 hbl1 hK1; have hU1P := hU1.P; simp only [GA, ↓GB, List.filterMap_cons, eq_self, BEq.rfl, simprocAttr] at hbl1 ⊢)
        | (refine SX.block ?_)
        | (refine and_mk ?_ ?_; (focus first | decide | omega | rfl | assumption | (simp only [List.length_append, List.length_cons, List.length_nil, B_size]; omega) | (simp; done)))
        | (refine And.intro ?_ ?_))
      all_goals (try refine Done.mk ?_)
      all_goals (refine Imp.le [0, 1, 2, 3, 4, 5, 6, 7, 8, 9, 10, 11] ?_; (refine LeR.of ?_ ?_ ?_ ?_ ?_ ?_ ?_ <;> first | (rw [hbl]; decide) | decide | (simp only [GA, ↓GB, List.filterMap_cons, eq_self, BEq.rfl, simprocAttr, GDs, ren_cond, okB_cond, lren_cond, lokB_cond, map_cond, all_cond, Bool.cond_self, cond_true, cond_false, List.map_append, List.all_append, List.map_cons, List.map_nil, Bool.and_true]; done)))
  simp only [grC, cond_true, List.nil_append, List.cons_append, GA, ↓GB, List.filterMap_cons, eq_self, BEq.rfl, simprocAttr, hnt, hT, hag]
  first
    | exact hk
    | (trace_state; sorry)
end Go.Proofs.YtbdacbcpniegiaaDoor
namespace Go.Proofs.YtbdacbcpniegiaaDoor
open Go Go.RowKit Go.Proofs Go.Sx
set_option maxHeartbeats 32000000
set_option maxRecDepth 100000
set_option linter.unusedSimpArgs false
set_option linter.unusedVariables false
structure RqB (n : Nat) (m : RqS) : Prop where
  sb : ∀ x ∈ m.sb, x.length ≤ n
  un : ∀ x ∈ m.un, x.length ≤ n
  hv : ∀ x ∈ m.hv, x.1.length ≤ n
  det : m.det.length ≤ n
theorem RqB.zero (n : Nat) : RqB n .zero := ⟨fun x h => (by cases h), fun x h => (by cases h), fun x h => (by cases h), Nat.zero_le _⟩
theorem takeH_len (s : List UInt8) (n : Nat) (hs : s.length ≤ n) (m : HvS) (hm : m.1.length ≤ n) : (takeB stepH s m).1.1.length ≤ n := by
  unfold takeB
  cases hp : NW.parse s with
  | none => exact hm
  | some l =>
    refine takeG_inv (fun m => m.1.length ≤ n) l m hm fun f hf m m' h1 h2 => ?_
    have := parse_slen hp f hf
    unfold stepH at h2
    repeat' split at h2
    all_goals first
      | (cases h2; done)
      | (cases h2; exact h1)
      | (cases h2; show f.s.length ≤ n; omega)
theorem stepQ_b {n : Nat} {f : NW.Fld} {m : RqS} (hf : f.s.length ≤ n) (h : RqB n m) : RqB n (stepQ f m).1 ∧ (stepQ f m).1.sb.length ≤ m.sb.length + 1 ∧ (stepQ f m).1.un.length ≤ m.un.length + 1 ∧ (stepQ f m).1.hv.length ≤ m.hv.length + 1 := by
  have hh := takeH_len f.s n hf ([], 0) (Nat.zero_le _)
  unfold stepQ
  repeat' split
  all_goals first
    | exact ⟨h, by omega, by omega, by omega⟩
    | exact ⟨⟨h.sb, h.un, h.hv, h.det⟩, by simp, by simp, by simp⟩
    | exact ⟨⟨h.sb, h.un, h.hv, hf⟩, by simp, by simp, by simp⟩
    | (refine ⟨⟨fun x hx => ?_, h.un, h.hv, h.det⟩, by simp, by simp, by simp⟩
       rcases List.mem_append.1 hx with hx | hx
       · exact h.sb x hx
       · simp at hx; rw [hx]; exact hf)
    | (refine ⟨⟨h.sb, fun x hx => ?_, h.hv, h.det⟩, by simp, by simp, by simp⟩
       rcases List.mem_append.1 hx with hx | hx
       · exact h.un x hx
       · simp at hx; rw [hx]; exact hf)
    | (refine ⟨⟨h.sb, h.un, fun x hx => ?_, h.det⟩, by simp, by simp, by simp⟩
       rcases List.mem_append.1 hx with hx | hx
       · exact h.hv x hx
       · simp at hx; rw [hx]; exact hh)
theorem takeX_b {n : Nat} : ∀ {l : List NW.Fld} {m : RqS}, (∀ f ∈ l, f.s.length ≤ n) → RqB n m → RqB n (takeX stepQ l m).1 ∧ (takeX stepQ l m).1.sb.length ≤ m.sb.length + l.length ∧ (takeX stepQ l m).1.un.length ≤ m.un.length + l.length ∧ (takeX stepQ l m).1.hv.length ≤ m.hv.length + l.length
  | [], m, _, h => ⟨h, Nat.le_refl _, Nat.le_refl _, Nat.le_refl _⟩
  | f :: l, m, hf, h => by
    obtain ⟨h1, h2, h3, h4⟩ := stepQ_b (hf f List.mem_cons_self) h
    obtain ⟨k1, k2, k3, k4⟩ := takeX_b (l := l) (fun g hg => hf g (List.mem_cons_of_mem _ hg)) h1
    rw [takeX]
    split
    · exact ⟨k1, by simp only [List.length_cons]; omega, by simp only [List.length_cons]; omega, by simp only [List.length_cons]; omega⟩
    · exact ⟨h1, by simp only [List.length_cons]; omega, by simp only [List.length_cons]; omega, by simp only [List.length_cons]; omega⟩
theorem takeXB_b (s : List UInt8) : RqB s.length (takeXB stepQ s .zero).1 ∧ (takeXB stepQ s .zero).1.sb.length ≤ s.length ∧ (takeXB stepQ s .zero).1.un.length ≤ s.length ∧ (takeXB stepQ s .zero).1.hv.length ≤ s.length := by
  unfold takeXB
  cases hp : NW.parse s with
  | none => exact ⟨.zero _, Nat.zero_le _, Nat.zero_le _, Nat.zero_le _⟩
  | some l =>
    have hl := parse_len hp
    obtain ⟨k1, k2, k3, k4⟩ := takeX_b (n := s.length) (m := .zero) (parse_slen hp) (.zero _)
    have z : RqS.zero.sb.length = 0 ∧ RqS.zero.un.length = 0 ∧ RqS.zero.hv.length = 0 := ⟨rfl, rfl, rfl⟩
    exact ⟨k1, by show (takeX stepQ l .zero).1.sb.length ≤ _; omega, by show (takeX stepQ l .zero).1.un.length ≤ _; omega, by show (takeX stepQ l .zero).1.hv.length ≤ _; omega⟩
def okQ (m : RqS) : Bool := decide (m.delta ≤ 1) && reqB ((min m.kind 6 : Nat) : Int) ((m.delta : Int) == 1) m.nonce m.sb m.un m.hv m.det
def reqR (s : List UInt8) : Option RqS := if kindL s = 1 then (if (takeXB stepQ (s.drop 1) .zero).2 = true ∧ okQ (takeXB stepQ (s.drop 1) .zero).1 = true then some (takeXB stepQ (s.drop 1) .zero).1 else none) else none
def reqRO : Option RqS → List LO
  | some m => [srow m.sb, srow m.un, hrow m.hv]
  | none => []
def reqRV : Option RqS → SV
  | some m => .tup [.agg [.v (.int .i64 ((min m.kind 6 : Nat) : Int)), .v (.bool ((m.delta : Int) == 1)), .v (.int .u64 m.nonce), .row 0, .row 1, .row 2, .v (.string (B m.det))], .c (.v (.bool true))]
  | none => .tup [.agg [.v (.int .i64 0), .v (.bool false), .v (.int .u64 0), .v (.slice none 0 0), .v (.slice none 0 0), .v (.slice none 0 0), .v (.string (B []))], .c (.v (.bool false))]
theorem getReq_ctr {e : EA} (he : e.Ok) (s : List UInt8) (hs : s.length ≤ 1048576) : Ctr Tryd.prog (GE e) 24 [] [vv (.string (B s))] (fun os v => os = reqRO (reqR s) ∧ v = reqRV (reqR s)) := by
  refine Ctr.less ?_
  by_cases hk : kindL s = 1
  · obtain ⟨hB, h1, h2, h3⟩ := takeXB_b (s.drop 1)
    have hd : (s.drop 1).length ≤ 1048576 := by rw [List.length_drop]; omega
    have hg := getReqM_yes he s (by omega) hk
    unfold reqR
    rw [if_pos hk]
    generalize (takeXB stepQ (s.drop 1) .zero).1 = m at *
    have hr := rightReq_ctr ((min m.kind 6 : Nat) : Int) ((m.delta : Int) == 1) m.nonce m.sb m.un m.hv m.det (by omega) (by omega) (by omega) (fun x hx => Nat.le_trans (hB.sb x hx) (by omega)) (fun x hx => Nat.le_trans (hB.un x hx) (by omega)) (fun x hx => by
      obtain ⟨y, hy, rfl⟩ := List.mem_map.1 hx
      exact Nat.le_trans (hB.hv y hy) (by omega))
    have h6 := min6 m.kind
    have h7 := min6w m.kind
    have hq : okQ m = (decide (m.delta ≤ 1) && reqB ((min m.kind 6 : Nat) : Int) ((m.delta : Int) == 1) m.nonce m.sb m.un m.hv m.det) := rfl
    generalize reqB ((min m.kind 6 : Nat) : Int) ((m.delta : Int) == 1) m.nonce m.sb m.un m.hv m.det = rb at hr hq
    cases hok : (takeXB stepQ (s.drop 1) .zero).2 with
    | true =>
      rw [hok] at hg
      have hb := bad_nil he
      intro X0 hP0 hG0 N0 hN0
      refine CallVC.inline (f := 24) (by rw [hP0]; exact Tryd.func24) rfl Tryd.ntmps24 rfl (by simp) ?_
      intro X K hU hnt hbl hK
      have hP : X.P = Tryd.prog := by rw [hU.P, hP0]
      have hG := hG0.under hU
      have hT : zeroCells X.P 41 = some [(Value.int IntKind.i64 0), (Value.bool false), (Value.int IntKind.u64 0), (Value.slice none 0 0), (Value.slice none 0 0), (Value.slice none 0 0), (Value.string { data := #[] })] ∧ zeroCells X.P 22 = some [(Value.int IntKind.u64 0)] ∧ calleeOk X.P 75 = true ∧ fieldsOf X.P 134 = some [(0, 1), (1, 1)] ∧ zeroCells X.P 134 = some [(Value.int IntKind.i64 0), Value.nilFunc] ∧ szOf X.P 134 = some 2 ∧ calleeOk X.P 71 = true ∧ mapInf X.P 139 = some ((TypeDesc.int IntKind.i64), (Value.agg #[(Value.int IntKind.i64 0), Value.nilFunc])) ∧ fieldOff X.P 41 2 = some 2 ∧ fieldOff X.P 41 3 = some 3 ∧ calleeOk X.P 77 = true ∧ fieldOff X.P 41 4 = some 4 ∧ aggOf X.P 134 = some true ∧ fieldOff X.P 41 6 = some 6 ∧ calleeOk X.P 72 = true ∧ calleeOk X.P 70 = true ∧ aggOf X.P 22 = some false ∧ szOf X.P 22 = some 1 ∧ X.P.underlying 22 = some (TypeDesc.int IntKind.u64) ∧ X.P.underlying 3 = some (TypeDesc.int IntKind.i64) ∧ isBytesT X.P 22 = false ∧ isStrT X.P 3 = false ∧ fieldOff X.P 41 0 = some 0 ∧ szOf X.P 3 = some 1 ∧ fieldOff X.P 41 1 = some 1 ∧ szOf X.P 4 = some 1 ∧ calleeOk X.P 73 = true ∧ aggOf X.P 41 = some true ∧ szOf X.P 41 = some 7 ∧ calleeOk X.P 42 = true ∧ fieldsOf X.P 41 = some [(0, 1), (1, 1), (2, 1), (3, 1), (4, 1), (5, 1), (6, 1)] := by rw [hP]; exact ⟨Ty.ze41, Ty.ze22, Ty.co75, Ty.fs134, Ty.ze134, Ty.sz134, Ty.co71, Ty.mi139, Ty.fo41_2, Ty.fo41_3, Ty.co77, Ty.fo41_4, Ty.ag134, Ty.fo41_6, Ty.co72, Ty.co70, Ty.ag22, Ty.sz22, Tryd.underlying22, Tryd.underlying3, Ty.ib22, Ty.is3, Ty.fo41_0, Ty.sz3, Ty.fo41_1, Ty.sz4, Ty.co73, Ty.ag41, Ty.sz41, Ty.co42, Ty.fs41⟩
      simp only [GA, ↓GB, List.filterMap_cons, eq_self, BEq.rfl, simprocAttr] at hbl ⊢
      repeat' (first
        | (refine SX.select (d := ⟨[(0, vv (.string (B s))), (2, .one (.c (.loc 0 0))), (3, vv (.bool false)), (4, .one (.c (.loc 1 0))), (5, .one (.c (.loc 2 0))), (6, .one (.c (.loc 3 0))), (7, .one (.c (.loc 4 0)))], [.cells [.v (.int .i64 0), .v (.bool false), .v (.int .u64 0), .v (.slice none 0 0), .v (.slice none 0 0), .v (.slice none 0 0), .v (.string (B []))] 41, .cells [.v (.int .i64 0), .v (.bool false), .v (.int .u64 0), .v (.slice none 0 0), .v (.slice none 0 0), .v (.slice none 0 0), .v (.string (B []))] 41, .cells [.v (.int .u64 0)] 22, .cells [.v (.int .u64 0)] 22, .cells [.v (.int .i64 2), .clo 75 [] [.loc 1 0]] 134]⟩) [0, 1, 2, 3, 4] (by (refine LeR.of ?_ ?_ ?_ ?_ ?_ ?_ ?_ <;> first | (rw [hbl]; decide) | decide | (simp only [GA, ↓GB, List.filterMap_cons, eq_self, BEq.rfl, simprocAttr, GDs]; done) | (simp only [GA, ↓GB, List.filterMap_cons, eq_self, BEq.rfl, simprocAttr, GDs]; rfl; done))) (gr_region hP hnt hbl s (fun _ => True) _ ?_) <;> simp only [grC, cond_true, List.nil_append, List.cons_append, GA, ↓GB, List.filterMap_cons, eq_self, BEq.rfl, simprocAttr, hnt, hT])
        | (refine SX.seqK ?_; intro N hN)
        | ((first | (refine SX.ops ?_)); simp only [GA, ↓GB, List.filterMap_cons, eq_self, BEq.rfl, simprocAttr, hnt, hT, h6, h7])
        | ((first | refine SX.skip ?_ | refine SX.exit ?_ | refine SX.label ?_); try simp only [GA, ↓GB, List.filterMap_cons, eq_self, BEq.rfl, simprocAttr])
        | (refine SX.cond rfl (fun hb => ?_) (fun hb => ?_) <;> ((first | cases hb | (simp only [decide_eq_true_eq, decide_eq_false_iff_not, beq_iff_eq, beq_eq_false_iff_ne, bne_iff_ne, Bool.and_eq_true, Bool.or_eq_true, Bool.not_eq_true', Bool.not_eq_false', Bool.and_eq_false_iff, Bool.or_eq_false_iff, Int.not_lt, Int.not_le] at hb) | skip) <;> (first | (exfalso; omega) | skip)))
        | (refine SX.ret ?_; try simp only [GA, ↓GB, List.filterMap_cons, eq_self, BEq.rfl, simprocAttr])
        | (refine hN _ ?_; clear hN N)
        | ((first | refine hK _ _ (FinI.ret3 ?_) | refine hK _ _ (FinI.nrm3 ?_)); simp only [GA, ↓GB, List.filterMap_cons, eq_self, BEq.rfl, simprocAttr, finP_s, hnt, hT, h6, h7]; refine Done.out ?_)
        | (clear hN N; first | (refine hN _ ?_; clear hN N) | (clear hN N; first | (refine hN _ ?_; clear hN N) | (clear hN N; first | (refine hN _ ?_; clear hN N) | (clear hN N; first | (refine hN _ ?_; clear hN N) | (clear hN N; first | (refine hN _ ?_; clear hN N) | (refine hN _ ?_; clear hN N))))))
        | (refine bif2.mk (fun hb => ?_) (fun hb => ?_) <;> (try simp only [hb, GA, ↓GB, List.filterMap_cons, eq_self, BEq.rfl, simprocAttr, hnt, hT, h6, h7]) <;> ((first | cases hb | (simp only [decide_eq_true_eq, decide_eq_false_iff_not, beq_iff_eq, beq_eq_false_iff_ne, bne_iff_ne, Bool.and_eq_true, Bool.or_eq_true, Bool.not_eq_true', Bool.not_eq_false', Bool.and_eq_false_iff, Bool.or_eq_false_iff, Int.not_lt, Int.not_le] at hb) | skip) <;> (first | (exfalso; omega) | skip)))
        | ((first | (refine Ctr.use (hg) hP hG [5,6,7,8,9,10,11,2,3,1] ?_ rfl rfl ?_; (focus (refine LeR.of rfl trivial ?_ ?_ ?_ ?_ ?_ <;> first | decide | (simp only [GA, ↓GB, List.filterMap_cons, eq_self, BEq.rfl, simprocAttr, GDs]; done))); intro os' s hR; obtain ⟨rfl, rfl⟩ := hR) | (refine Ctr.use (hb) hP hG [] ?_ rfl rfl ?_; (focus (refine LeR.of rfl trivial ?_ ?_ ?_ ?_ ?_ <;> first | decide | (simp only [GA, ↓GB, List.filterMap_cons, eq_self, BEq.rfl, simprocAttr, GDs]; done))); intro os' s hR; obtain ⟨rfl, rfl⟩ := hR) | (refine Ctr.use (hr) hP ?_ [12,13,14] ?_ rfl rfl ?_; (focus (intro p hp; cases hp)); (focus (refine LeR.of rfl trivial ?_ ?_ ?_ ?_ ?_ <;> first | decide | (simp only [GA, ↓GB, List.filterMap_cons, eq_self, BEq.rfl, simprocAttr, GDs]; done))); intro os' s hR; obtain ⟨rfl, rfl⟩ := hR)); simp only [GA, ↓GB, List.filterMap_cons, eq_self, BEq.rfl, simprocAttr, hnt, hT, h6, h7])
        | (refine SX.block ?_)
        | (refine and_mk ?_ ?_; (focus first | decide | omega | rfl | assumption | (simp only [List.length_append, List.length_cons, List.length_nil, B_size]; omega) | (simp; done)))
        | (refine And.intro ?_ ?_))
      all_goals (try refine Done.mk ?_)
      · have hf : okQ m = false := by rw [hq, decide_eq_false (by omega)]; rfl
        rw [if_neg (fun h => by rw [hf] at h; cases h.2)] at hN0
        simp only [reqRO, reqRV] at hN0
        (refine hN0 _ _ ⟨[], _, _, ?_, ?_, ?_, ⟨rfl, rfl⟩⟩; (focus exact LeR.of rfl trivial (by simp only [GA, ↓GB, List.filterMap_cons, eq_self, BEq.rfl, simprocAttr, GDs]) (by decide) rfl rfl rfl); rotate_left; (focus rfl))
        rfl
      · have hf : okQ m = false := by rw [hq, hb, Bool.and_false]
        rw [if_neg (fun h => by rw [hf] at h; cases h.2)] at hN0
        simp only [reqRO, reqRV] at hN0
        (refine hN0 _ _ ⟨[], _, _, ?_, ?_, ?_, ⟨rfl, rfl⟩⟩; (focus exact LeR.of rfl trivial (by simp only [GA, ↓GB, List.filterMap_cons, eq_self, BEq.rfl, simprocAttr, GDs]) (by decide) rfl rfl rfl); rotate_left; (focus rfl))
        rfl
      · have hf : okQ m = true := by rw [hq, hb, decide_eq_true (by omega)]; rfl
        rw [if_pos ⟨rfl, hf⟩] at hN0
        simp only [reqRO, reqRV] at hN0
        (refine hN0 _ _ ⟨[12, 13, 14], _, _, ?_, ?_, ?_, ⟨rfl, rfl⟩⟩; (focus exact LeR.of rfl trivial (by simp only [GA, ↓GB, List.filterMap_cons, eq_self, BEq.rfl, simprocAttr, GDs]) (by decide) rfl rfl rfl); rotate_left; (focus rfl))
        rfl
    | false =>
      rw [hok] at hg
      have hb := bad_form he
      intro X0 hP0 hG0 N0 hN0
      refine CallVC.inline (f := 24) (by rw [hP0]; exact Tryd.func24) rfl Tryd.ntmps24 rfl (by simp) ?_
      intro X K hU hnt hbl hK
      have hP : X.P = Tryd.prog := by rw [hU.P, hP0]
      have hG := hG0.under hU
      have hT : zeroCells X.P 41 = some [(Value.int IntKind.i64 0), (Value.bool false), (Value.int IntKind.u64 0), (Value.slice none 0 0), (Value.slice none 0 0), (Value.slice none 0 0), (Value.string { data := #[] })] ∧ zeroCells X.P 22 = some [(Value.int IntKind.u64 0)] ∧ calleeOk X.P 75 = true ∧ fieldsOf X.P 134 = some [(0, 1), (1, 1)] ∧ zeroCells X.P 134 = some [(Value.int IntKind.i64 0), Value.nilFunc] ∧ szOf X.P 134 = some 2 ∧ calleeOk X.P 71 = true ∧ mapInf X.P 139 = some ((TypeDesc.int IntKind.i64), (Value.agg #[(Value.int IntKind.i64 0), Value.nilFunc])) ∧ fieldOff X.P 41 2 = some 2 ∧ fieldOff X.P 41 3 = some 3 ∧ calleeOk X.P 77 = true ∧ fieldOff X.P 41 4 = some 4 ∧ aggOf X.P 134 = some true ∧ fieldOff X.P 41 6 = some 6 ∧ calleeOk X.P 72 = true ∧ calleeOk X.P 70 = true ∧ aggOf X.P 22 = some false ∧ szOf X.P 22 = some 1 ∧ X.P.underlying 22 = some (TypeDesc.int IntKind.u64) ∧ X.P.underlying 3 = some (TypeDesc.int IntKind.i64) ∧ isBytesT X.P 22 = false ∧ isStrT X.P 3 = false ∧ fieldOff X.P 41 0 = some 0 ∧ szOf X.P 3 = some 1 ∧ fieldOff X.P 41 1 = some 1 ∧ szOf X.P 4 = some 1 ∧ calleeOk X.P 73 = true ∧ aggOf X.P 41 = some true ∧ szOf X.P 41 = some 7 ∧ calleeOk X.P 42 = true ∧ fieldsOf X.P 41 = some [(0, 1), (1, 1), (2, 1), (3, 1), (4, 1), (5, 1), (6, 1)] := by rw [hP]; exact ⟨Ty.ze41, Ty.ze22, Ty.co75, Ty.fs134, Ty.ze134, Ty.sz134, Ty.co71, Ty.mi139, Ty.fo41_2, Ty.fo41_3, Ty.co77, Ty.fo41_4, Ty.ag134, Ty.fo41_6, Ty.co72, Ty.co70, Ty.ag22, Ty.sz22, Tryd.underlying22, Tryd.underlying3, Ty.ib22, Ty.is3, Ty.fo41_0, Ty.sz3, Ty.fo41_1, Ty.sz4, Ty.co73, Ty.ag41, Ty.sz41, Ty.co42, Ty.fs41⟩
      simp only [GA, ↓GB, List.filterMap_cons, eq_self, BEq.rfl, simprocAttr] at hbl ⊢
      repeat' (first
        | (refine SX.select (d := ⟨[(0, vv (.string (B s))), (2, .one (.c (.loc 0 0))), (3, vv (.bool false)), (4, .one (.c (.loc 1 0))), (5, .one (.c (.loc 2 0))), (6, .one (.c (.loc 3 0))), (7, .one (.c (.loc 4 0)))], [.cells [.v (.int .i64 0), .v (.bool false), .v (.int .u64 0), .v (.slice none 0 0), .v (.slice none 0 0), .v (.slice none 0 0), .v (.string (B []))] 41, .cells [.v (.int .i64 0), .v (.bool false), .v (.int .u64 0), .v (.slice none 0 0), .v (.slice none 0 0), .v (.slice none 0 0), .v (.string (B []))] 41, .cells [.v (.int .u64 0)] 22, .cells [.v (.int .u64 0)] 22, .cells [.v (.int .i64 2), .clo 75 [] [.loc 1 0]] 134]⟩) [0, 1, 2, 3, 4] (by (refine LeR.of ?_ ?_ ?_ ?_ ?_ ?_ ?_ <;> first | (rw [hbl]; decide) | decide | (simp only [GA, ↓GB, List.filterMap_cons, eq_self, BEq.rfl, simprocAttr, GDs]; done) | (simp only [GA, ↓GB, List.filterMap_cons, eq_self, BEq.rfl, simprocAttr, GDs]; rfl; done))) (gr_region hP hnt hbl s (fun _ => True) _ ?_) <;> simp only [grC, cond_true, List.nil_append, List.cons_append, GA, ↓GB, List.filterMap_cons, eq_self, BEq.rfl, simprocAttr, hnt, hT])
        | (refine SX.seqK ?_; intro N hN)
        | ((first | (refine SX.ops ?_)); simp only [GA, ↓GB, List.filterMap_cons, eq_self, BEq.rfl, simprocAttr, hnt, hT, h6, h7])
        | ((first | refine SX.skip ?_ | refine SX.exit ?_ | refine SX.label ?_); try simp only [GA, ↓GB, List.filterMap_cons, eq_self, BEq.rfl, simprocAttr])
        | (refine SX.cond rfl (fun hb => ?_) (fun hb => ?_) <;> ((first | cases hb | (simp only [decide_eq_true_eq, decide_eq_false_iff_not, beq_iff_eq, beq_eq_false_iff_ne, bne_iff_ne, Bool.and_eq_true, Bool.or_eq_true, Bool.not_eq_true', Bool.not_eq_false', Bool.and_eq_false_iff, Bool.or_eq_false_iff, Int.not_lt, Int.not_le] at hb) | skip) <;> (first | (exfalso; omega) | skip)))
        | (refine SX.ret ?_; try simp only [GA, ↓GB, List.filterMap_cons, eq_self, BEq.rfl, simprocAttr])
        | (refine hN _ ?_; clear hN N)
        | ((first | refine hK _ _ (FinI.ret3 ?_) | refine hK _ _ (FinI.nrm3 ?_)); simp only [GA, ↓GB, List.filterMap_cons, eq_self, BEq.rfl, simprocAttr, finP_s, hnt, hT, h6, h7]; refine Done.out ?_)
        | (clear hN N; first | (refine hN _ ?_; clear hN N) | (clear hN N; first | (refine hN _ ?_; clear hN N) | (clear hN N; first | (refine hN _ ?_; clear hN N) | (clear hN N; first | (refine hN _ ?_; clear hN N) | (clear hN N; first | (refine hN _ ?_; clear hN N) | (refine hN _ ?_; clear hN N))))))
        | (refine bif2.mk (fun hb => ?_) (fun hb => ?_) <;> (try simp only [hb, GA, ↓GB, List.filterMap_cons, eq_self, BEq.rfl, simprocAttr, hnt, hT, h6, h7]) <;> ((first | cases hb | (simp only [decide_eq_true_eq, decide_eq_false_iff_not, beq_iff_eq, beq_eq_false_iff_ne, bne_iff_ne, Bool.and_eq_true, Bool.or_eq_true, Bool.not_eq_true', Bool.not_eq_false', Bool.and_eq_false_iff, Bool.or_eq_false_iff, Int.not_lt, Int.not_le] at hb) | skip) <;> (first | (exfalso; omega) | skip)))
        | ((first | (refine Ctr.use (hg) hP hG [5,6,7,8,9,10,11,2,3,1] ?_ rfl rfl ?_; (focus (refine LeR.of rfl trivial ?_ ?_ ?_ ?_ ?_ <;> first | decide | (simp only [GA, ↓GB, List.filterMap_cons, eq_self, BEq.rfl, simprocAttr, GDs]; done))); intro os' s hR; obtain ⟨rfl, rfl⟩ := hR) | (refine Ctr.use (hb) hP hG [] ?_ rfl rfl ?_; (focus (refine LeR.of rfl trivial ?_ ?_ ?_ ?_ ?_ <;> first | decide | (simp only [GA, ↓GB, List.filterMap_cons, eq_self, BEq.rfl, simprocAttr, GDs]; done))); intro os' s hR; obtain ⟨rfl, rfl⟩ := hR)); simp only [GA, ↓GB, List.filterMap_cons, eq_self, BEq.rfl, simprocAttr, hnt, hT, h6, h7])
        | (refine SX.block ?_)
        | (refine and_mk ?_ ?_; (focus first | decide | omega | rfl | assumption | (simp only [List.length_append, List.length_cons, List.length_nil, B_size]; omega) | (simp; done)))
        | (refine And.intro ?_ ?_))
      all_goals (try refine Done.mk ?_)
      all_goals (rw [if_neg (fun h => by cases h.1)] at hN0; simp only [reqRO, reqRV] at hN0; (refine hN0 _ _ ⟨[], _, _, ?_, ?_, ?_, ⟨rfl, rfl⟩⟩; (focus exact LeR.of rfl trivial (by simp only [GA, ↓GB, List.filterMap_cons, eq_self, BEq.rfl, simprocAttr, GDs]) (by decide) rfl rfl rfl); rotate_left; (focus rfl)); rfl)
  · have hg := getReqM_no he s hk
    have hb := bad_kind he
    have h6 := min6 0
    have h7 := min6w 0
    rw [show reqR s = none by rw [reqR, if_neg hk]]
    intro X0 hP0 hG0 N0 hN0
    refine CallVC.inline (f := 24) (by rw [hP0]; exact Tryd.func24) rfl Tryd.ntmps24 rfl (by simp) ?_
    intro X K hU hnt hbl hK
    have hP : X.P = Tryd.prog := by rw [hU.P, hP0]
    have hG := hG0.under hU
    have hT : zeroCells X.P 41 = some [(Value.int IntKind.i64 0), (Value.bool false), (Value.int IntKind.u64 0), (Value.slice none 0 0), (Value.slice none 0 0), (Value.slice none 0 0), (Value.string { data := #[] })] ∧ zeroCells X.P 22 = some [(Value.int IntKind.u64 0)] ∧ calleeOk X.P 75 = true ∧ fieldsOf X.P 134 = some [(0, 1), (1, 1)] ∧ zeroCells X.P 134 = some [(Value.int IntKind.i64 0), Value.nilFunc] ∧ szOf X.P 134 = some 2 ∧ calleeOk X.P 71 = true ∧ mapInf X.P 139 = some ((TypeDesc.int IntKind.i64), (Value.agg #[(Value.int IntKind.i64 0), Value.nilFunc])) ∧ fieldOff X.P 41 2 = some 2 ∧ fieldOff X.P 41 3 = some 3 ∧ calleeOk X.P 77 = true ∧ fieldOff X.P 41 4 = some 4 ∧ aggOf X.P 134 = some true ∧ fieldOff X.P 41 6 = some 6 ∧ calleeOk X.P 72 = true ∧ calleeOk X.P 70 = true ∧ aggOf X.P 22 = some false ∧ szOf X.P 22 = some 1 ∧ X.P.underlying 22 = some (TypeDesc.int IntKind.u64) ∧ X.P.underlying 3 = some (TypeDesc.int IntKind.i64) ∧ isBytesT X.P 22 = false ∧ isStrT X.P 3 = false ∧ fieldOff X.P 41 0 = some 0 ∧ szOf X.P 3 = some 1 ∧ fieldOff X.P 41 1 = some 1 ∧ szOf X.P 4 = some 1 ∧ calleeOk X.P 73 = true ∧ aggOf X.P 41 = some true ∧ szOf X.P 41 = some 7 ∧ calleeOk X.P 42 = true ∧ fieldsOf X.P 41 = some [(0, 1), (1, 1), (2, 1), (3, 1), (4, 1), (5, 1), (6, 1)] := by rw [hP]; exact ⟨Ty.ze41, Ty.ze22, Ty.co75, Ty.fs134, Ty.ze134, Ty.sz134, Ty.co71, Ty.mi139, Ty.fo41_2, Ty.fo41_3, Ty.co77, Ty.fo41_4, Ty.ag134, Ty.fo41_6, Ty.co72, Ty.co70, Ty.ag22, Ty.sz22, Tryd.underlying22, Tryd.underlying3, Ty.ib22, Ty.is3, Ty.fo41_0, Ty.sz3, Ty.fo41_1, Ty.sz4, Ty.co73, Ty.ag41, Ty.sz41, Ty.co42, Ty.fs41⟩
    simp only [GA, ↓GB, List.filterMap_cons, eq_self, BEq.rfl, simprocAttr] at hbl ⊢
    repeat' (first
      | (refine SX.select (d := ⟨[(0, vv (.string (B s))), (2, .one (.c (.loc 0 0))), (3, vv (.bool false)), (4, .one (.c (.loc 1 0))), (5, .one (.c (.loc 2 0))), (6, .one (.c (.loc 3 0))), (7, .one (.c (.loc 4 0)))], [.cells [.v (.int .i64 0), .v (.bool false), .v (.int .u64 0), .v (.slice none 0 0), .v (.slice none 0 0), .v (.slice none 0 0), .v (.string (B []))] 41, .cells [.v (.int .i64 0), .v (.bool false), .v (.int .u64 0), .v (.slice none 0 0), .v (.slice none 0 0), .v (.slice none 0 0), .v (.string (B []))] 41, .cells [.v (.int .u64 0)] 22, .cells [.v (.int .u64 0)] 22, .cells [.v (.int .i64 2), .clo 75 [] [.loc 1 0]] 134]⟩) [0, 1, 2, 3, 4] (by (refine LeR.of ?_ ?_ ?_ ?_ ?_ ?_ ?_ <;> first | (rw [hbl]; decide) | decide | (simp only [GA, ↓GB, List.filterMap_cons, eq_self, BEq.rfl, simprocAttr, GDs]; done) | (simp only [GA, ↓GB, List.filterMap_cons, eq_self, BEq.rfl, simprocAttr, GDs]; rfl; done))) (gr_region hP hnt hbl s (fun _ => True) _ ?_) <;> simp only [grC, cond_true, List.nil_append, List.cons_append, GA, ↓GB, List.filterMap_cons, eq_self, BEq.rfl, simprocAttr, hnt, hT])
      | (refine SX.seqK ?_; intro N hN)
      | ((first | (refine SX.ops ?_)); simp only [GA, ↓GB, List.filterMap_cons, eq_self, BEq.rfl, simprocAttr, hnt, hT, h6, h7])
      | ((first | refine SX.skip ?_ | refine SX.exit ?_ | refine SX.label ?_); try simp only [GA, ↓GB, List.filterMap_cons, eq_self, BEq.rfl, simprocAttr])
      | (refine SX.cond rfl (fun hb => ?_) (fun hb => ?_) <;> ((first | cases hb | (simp only [decide_eq_true_eq, decide_eq_false_iff_not, beq_iff_eq, beq_eq_false_iff_ne, bne_iff_ne, Bool.and_eq_true, Bool.or_eq_true, Bool.not_eq_true', Bool.not_eq_false', Bool.and_eq_false_iff, Bool.or_eq_false_iff, Int.not_lt, Int.not_le] at hb) | skip) <;> (first | (exfalso; omega) | skip)))
      | (refine SX.ret ?_; try simp only [GA, ↓GB, List.filterMap_cons, eq_self, BEq.rfl, simprocAttr])
      | (refine hN _ ?_; clear hN N)
      | ((first | refine hK _ _ (FinI.ret3 ?_) | refine hK _ _ (FinI.nrm3 ?_)); simp only [GA, ↓GB, List.filterMap_cons, eq_self, BEq.rfl, simprocAttr, finP_s, hnt, hT, h6, h7]; refine Done.out ?_)
      | (clear hN N; first | (refine hN _ ?_; clear hN N) | (clear hN N; first | (refine hN _ ?_; clear hN N) | (clear hN N; first | (refine hN _ ?_; clear hN N) | (clear hN N; first | (refine hN _ ?_; clear hN N) | (clear hN N; first | (refine hN _ ?_; clear hN N) | (refine hN _ ?_; clear hN N))))))
      | (refine bif2.mk (fun hb => ?_) (fun hb => ?_) <;> (try simp only [hb, GA, ↓GB, List.filterMap_cons, eq_self, BEq.rfl, simprocAttr, hnt, hT, h6, h7]) <;> ((first | cases hb | (simp only [decide_eq_true_eq, decide_eq_false_iff_not, beq_iff_eq, beq_eq_false_iff_ne, bne_iff_ne, Bool.and_eq_true, Bool.or_eq_true, Bool.not_eq_true', Bool.not_eq_false', Bool.and_eq_false_iff, Bool.or_eq_false_iff, Int.not_lt, Int.not_le] at hb) | skip) <;> (first | (exfalso; omega) | skip)))
      | ((first | (refine Ctr.use (hg) hP hG [5,6,7,8,9,10,11,2,3,1] ?_ rfl rfl ?_; (focus (refine LeR.of rfl trivial ?_ ?_ ?_ ?_ ?_ <;> first | decide | (simp only [GA, ↓GB, List.filterMap_cons, eq_self, BEq.rfl, simprocAttr, GDs]; done))); intro os' s hR; obtain ⟨rfl, rfl⟩ := hR) | (refine Ctr.use (hb) hP hG [] ?_ rfl rfl ?_; (focus (refine LeR.of rfl trivial ?_ ?_ ?_ ?_ ?_ <;> first | decide | (simp only [GA, ↓GB, List.filterMap_cons, eq_self, BEq.rfl, simprocAttr, GDs]; done))); intro os' s hR; obtain ⟨rfl, rfl⟩ := hR)); simp only [GA, ↓GB, List.filterMap_cons, eq_self, BEq.rfl, simprocAttr, hnt, hT, h6, h7])
      | (refine SX.block ?_)
      | (refine and_mk ?_ ?_; (focus first | decide | omega | rfl | assumption | (simp only [List.length_append, List.length_cons, List.length_nil, B_size]; omega) | (simp; done)))
      | (refine And.intro ?_ ?_))
    all_goals (try refine Done.mk ?_)
    all_goals (simp only [reqRO, reqRV] at hN0; (refine hN0 _ _ ⟨[], _, _, ?_, ?_, ?_, ⟨rfl, rfl⟩⟩; (focus exact LeR.of rfl trivial (by simp only [GA, ↓GB, List.filterMap_cons, eq_self, BEq.rfl, simprocAttr, GDs]) (by decide) rfl rfl rfl); rotate_left; (focus rfl)); rfl)
end Go.Proofs.YtbdacbcpniegiaaDoor
namespace Go.Proofs.YtbdacbcpniegiaaDoor
open Go Go.RowKit Go.Proofs Go.Sx
set_option maxHeartbeats 16000000
set_option maxRecDepth 100000
set_option linter.unusedSimpArgs false
set_option linter.unusedVariables false
@[reducible] def sl42 : LO := .cells [.v (.string (B [42]))] 9
abbrev nilS : SV := vv (.slice none 0 0)
theorem star42 : starB [42] = true := rfl
theorem index42 : Ctr Tryd.prog [] 154 [sl42, .cells [.clo 100 [] []] 168] [.one (.c (.sl 0 0 1 1)), .one (.c (.clo 139 [] [.loc 1 0]))] (fun os v => os = [sl42, .cells [.clo 100 [] []] 168] ∧ v = vv (.int .i64 (-1))) := by
  have hrun := named1Star [42] (by decide)
  rw [star42] at hrun
  refine Ctr.less ?_
  intro X0 hP0 hG0 N0 hN0
  refine CallVC.inline (f := 154) (by rw [hP0]; exact Tryd.func154) rfl Tryd.ntmps154 rfl (by simp) ?_
  intro X K hU hnt hbl hK
  have hP : X.P = Tryd.prog := by rw [hU.P, hP0]
  have hG := hG0.under hU
  have hT : X.P.underlying 38 = some (TypeDesc.slice 9) ∧ elemSz X.P 38 = some (9, 1) ∧ aggOf X.P 9 = some false ∧ szOf X.P 9 = some 1 := by rw [hP]; exact ⟨Tryd.underlying38, Ty.el38, Ty.ag9, Ty.sz9⟩
  simp only [GA, ↓GB, List.filterMap_cons, eq_self, BEq.rfl, simprocAttr] at hbl ⊢
  have hc : calleeOk X.P 139 = true := by rw [hP]; kernel_rfl
  repeat' (first
    | (refine SX.seqK ?_; intro N hN)
    | ((first | (refine SX.ops ?_)); simp only [GA, ↓GB, List.filterMap_cons, eq_self, BEq.rfl, simprocAttr, hnt, hT, hc])
    | ((first | refine SX.skip ?_ | refine SX.exit ?_ | refine SX.label ?_); try simp only [GA, ↓GB, List.filterMap_cons, eq_self, BEq.rfl, simprocAttr])
    | (refine SX.cond rfl (fun hb => ?_) (fun hb => ?_) <;> ((first | cases hb | (simp only [decide_eq_true_eq, decide_eq_false_iff_not, beq_iff_eq, beq_eq_false_iff_ne, bne_iff_ne, Bool.and_eq_true, Bool.or_eq_true, Bool.not_eq_true', Bool.not_eq_false', Bool.and_eq_false_iff, Bool.or_eq_false_iff, Int.not_lt, Int.not_le] at hb) | skip) <;> (first | (exfalso; omega) | skip)))
    | (refine SX.ret ?_; try simp only [GA, ↓GB, List.filterMap_cons, eq_self, BEq.rfl, simprocAttr])
    | (refine hN _ ?_; clear hN N)
    | ((first | refine hK _ _ (FinI.ret3 ?_) | refine hK _ _ (FinI.nrm3 ?_)); simp only [GA, ↓GB, List.filterMap_cons, eq_self, BEq.rfl, simprocAttr, finP_s, hnt, hT, hc]; refine Done.out ?_)
    | (clear hN N; first | (refine hN _ ?_; clear hN N) | (clear hN N; first | (refine hN _ ?_; clear hN N) | (clear hN N; first | (refine hN _ ?_; clear hN N) | (clear hN N; first | (refine hN _ ?_; clear hN N) | (clear hN N; first | (refine hN _ ?_; clear hN N) | (refine hN _ ?_; clear hN N))))))
    | (refine bif2.mk (fun hb => ?_) (fun hb => ?_) <;> (try simp only [hb, GA, ↓GB, List.filterMap_cons, eq_self, BEq.rfl, simprocAttr, hnt, hT, hc]) <;> ((first | cases hb | (simp only [decide_eq_true_eq, decide_eq_false_iff_not, beq_iff_eq, beq_eq_false_iff_ne, bne_iff_ne, Bool.and_eq_true, Bool.or_eq_true, Bool.not_eq_true', Bool.not_eq_false', Bool.and_eq_false_iff, Bool.or_eq_false_iff, Int.not_lt, Int.not_le] at hb) | skip) <;> (first | (exfalso; omega) | skip)))
    | ((first | (refine Ctr.use (hrun) hP ?_ [1] ?_ rfl rfl ?_; (focus (intro p hp; cases hp)); (focus (refine LeR.of rfl trivial ?_ ?_ ?_ ?_ ?_ <;> first | decide | (simp only [GA, ↓GB, List.filterMap_cons, eq_self, BEq.rfl, simprocAttr, GDs]; done))); intro os' s hR; obtain ⟨rfl, rfl⟩ := hR)); simp only [GA, ↓GB, List.filterMap_cons, eq_self, BEq.rfl, simprocAttr, hnt, hT, hc])
    | (refine SX.loopN 2 ?_)
    | (refine SXr.stepK ?_; intro N hN)
    | (refine SX.block ?_)
    | (refine and_mk ?_ ?_; (focus first | decide | omega | rfl | assumption | (simp only [List.length_append, List.length_cons, List.length_nil, B_size]; omega) | (simp; done)))
    | (refine And.intro ?_ ?_))
  all_goals (try refine Done.mk ?_)
  all_goals ((refine hN0 _ _ ⟨[0, 1], _, _, ?_, ?_, ?_, ⟨rfl, rfl⟩⟩; (focus exact LeR.of rfl trivial (by simp only [GA, ↓GB, List.filterMap_cons, eq_self, BEq.rfl, simprocAttr, GDs]) (by decide) rfl rfl rfl); rotate_left; (focus rfl)); rfl)
theorem contains42 : Ctr Tryd.prog [] 138 [sl42, .cells [.clo 100 [] []] 168] [.one (.c (.sl 0 0 1 1)), .one (.c (.clo 139 [] [.loc 1 0]))] (fun os v => os = [sl42, .cells [.clo 100 [] []] 168] ∧ v = vv (.bool false)) := by
  refine Ctr.less ?_
  intro X0 hP0 hG0 N0 hN0
  refine CallVC.inline (f := 138) (by rw [hP0]; exact Tryd.func138) rfl Tryd.ntmps138 rfl (by simp) ?_
  intro X K hU hnt hbl hK
  have hP : X.P = Tryd.prog := by rw [hU.P, hP0]
  have hG := hG0.under hU
  have hT : calleeOk X.P 154 = true := by rw [hP]; exact Ty.co154
  simp only [GA, ↓GB, List.filterMap_cons, eq_self, BEq.rfl, simprocAttr] at hbl ⊢
  repeat' (first
    | (refine SX.seqK ?_; intro N hN)
    | ((first | (refine SX.ops ?_)); simp only [GA, ↓GB, List.filterMap_cons, eq_self, BEq.rfl, simprocAttr, hnt, hT])
    | ((first | refine SX.skip ?_ | refine SX.exit ?_ | refine SX.label ?_); try simp only [GA, ↓GB, List.filterMap_cons, eq_self, BEq.rfl, simprocAttr])
    | (refine SX.cond rfl (fun hb => ?_) (fun hb => ?_) <;> ((first | cases hb | (simp only [decide_eq_true_eq, decide_eq_false_iff_not, beq_iff_eq, beq_eq_false_iff_ne, bne_iff_ne, Bool.and_eq_true, Bool.or_eq_true, Bool.not_eq_true', Bool.not_eq_false', Bool.and_eq_false_iff, Bool.or_eq_false_iff, Int.not_lt, Int.not_le] at hb) | skip) <;> (first | (exfalso; omega) | skip)))
    | (refine SX.ret ?_; try simp only [GA, ↓GB, List.filterMap_cons, eq_self, BEq.rfl, simprocAttr])
    | (refine hN _ ?_; clear hN N)
    | ((first | refine hK _ _ (FinI.ret3 ?_) | refine hK _ _ (FinI.nrm3 ?_)); simp only [GA, ↓GB, List.filterMap_cons, eq_self, BEq.rfl, simprocAttr, finP_s, hnt, hT]; refine Done.out ?_)
    | (clear hN N; first | (refine hN _ ?_; clear hN N) | (clear hN N; first | (refine hN _ ?_; clear hN N) | (clear hN N; first | (refine hN _ ?_; clear hN N) | (clear hN N; first | (refine hN _ ?_; clear hN N) | (clear hN N; first | (refine hN _ ?_; clear hN N) | (refine hN _ ?_; clear hN N))))))
    | (refine bif2.mk (fun hb => ?_) (fun hb => ?_) <;> (try simp only [hb, GA, ↓GB, List.filterMap_cons, eq_self, BEq.rfl, simprocAttr, hnt, hT]) <;> ((first | cases hb | (simp only [decide_eq_true_eq, decide_eq_false_iff_not, beq_iff_eq, beq_eq_false_iff_ne, bne_iff_ne, Bool.and_eq_true, Bool.or_eq_true, Bool.not_eq_true', Bool.not_eq_false', Bool.and_eq_false_iff, Bool.or_eq_false_iff, Int.not_lt, Int.not_le] at hb) | skip) <;> (first | (exfalso; omega) | skip)))
    | ((first | (refine Ctr.use (index42) hP ?_ [0,1] ?_ rfl rfl ?_; (focus (intro p hp; cases hp)); (focus (refine LeR.of rfl trivial ?_ ?_ ?_ ?_ ?_ <;> first | decide | (simp only [GA, ↓GB, List.filterMap_cons, eq_self, BEq.rfl, simprocAttr, GDs]; done))); intro os' s hR; obtain ⟨rfl, rfl⟩ := hR)); simp only [GA, ↓GB, List.filterMap_cons, eq_self, BEq.rfl, simprocAttr, hnt, hT])
    | (refine SX.block ?_)
    | (refine and_mk ?_ ?_; (focus first | decide | omega | rfl | assumption | (simp only [List.length_append, List.length_cons, List.length_nil, B_size]; omega) | (simp; done)))
    | (refine And.intro ?_ ?_))
  all_goals (try refine Done.mk ?_)
  all_goals ((refine hN0 _ _ ⟨[0, 1], _, _, ?_, ?_, ?_, ⟨rfl, rfl⟩⟩; (focus exact LeR.of rfl trivial (by simp only [GA, ↓GB, List.filterMap_cons, eq_self, BEq.rfl, simprocAttr, GDs]) (by decide) rfl rfl rfl); rotate_left; (focus rfl)); rfl)
theorem named42 : Ctr Tryd.prog [] 99 [sl42] [.one (.c (.sl 0 0 1 1)), .one (.c (.clo 100 [] []))] (fun os v => os = [sl42] ∧ v = vv (.bool true)) := by
  refine Ctr.less ?_
  intro X0 hP0 hG0 N0 hN0
  refine CallVC.inline (f := 99) (by rw [hP0]; exact Tryd.func99) rfl Tryd.ntmps99 rfl (by simp) ?_
  intro X K hU hnt hbl hK
  have hP : X.P = Tryd.prog := by rw [hU.P, hP0]
  have hG := hG0.under hU
  have hT : X.P.underlying 38 = some (TypeDesc.slice 9) ∧ calleeOk X.P 139 = true ∧ calleeOk X.P 138 = true := by rw [hP]; exact ⟨Tryd.underlying38, Ty.co139, Ty.co138⟩
  simp only [GA, ↓GB, List.filterMap_cons, eq_self, BEq.rfl, simprocAttr] at hbl ⊢
  repeat' (first
    | (refine SX.seqK ?_; intro N hN)
    | ((first | (refine SX.ops ?_)); simp only [GA, ↓GB, List.filterMap_cons, eq_self, BEq.rfl, simprocAttr, hnt, hT])
    | ((first | refine SX.skip ?_ | refine SX.exit ?_ | refine SX.label ?_); try simp only [GA, ↓GB, List.filterMap_cons, eq_self, BEq.rfl, simprocAttr])
    | (refine SX.cond rfl (fun hb => ?_) (fun hb => ?_) <;> ((first | cases hb | (simp only [decide_eq_true_eq, decide_eq_false_iff_not, beq_iff_eq, beq_eq_false_iff_ne, bne_iff_ne, Bool.and_eq_true, Bool.or_eq_true, Bool.not_eq_true', Bool.not_eq_false', Bool.and_eq_false_iff, Bool.or_eq_false_iff, Int.not_lt, Int.not_le] at hb) | skip) <;> (first | (exfalso; omega) | skip)))
    | (refine SX.ret ?_; try simp only [GA, ↓GB, List.filterMap_cons, eq_self, BEq.rfl, simprocAttr])
    | (refine hN _ ?_; clear hN N)
    | ((first | refine hK _ _ (FinI.ret3 ?_) | refine hK _ _ (FinI.nrm3 ?_)); simp only [GA, ↓GB, List.filterMap_cons, eq_self, BEq.rfl, simprocAttr, finP_s, hnt, hT]; refine Done.out ?_)
    | (clear hN N; first | (refine hN _ ?_; clear hN N) | (clear hN N; first | (refine hN _ ?_; clear hN N) | (clear hN N; first | (refine hN _ ?_; clear hN N) | (clear hN N; first | (refine hN _ ?_; clear hN N) | (clear hN N; first | (refine hN _ ?_; clear hN N) | (refine hN _ ?_; clear hN N))))))
    | (refine bif2.mk (fun hb => ?_) (fun hb => ?_) <;> (try simp only [hb, GA, ↓GB, List.filterMap_cons, eq_self, BEq.rfl, simprocAttr, hnt, hT]) <;> ((first | cases hb | (simp only [decide_eq_true_eq, decide_eq_false_iff_not, beq_iff_eq, beq_eq_false_iff_ne, bne_iff_ne, Bool.and_eq_true, Bool.or_eq_true, Bool.not_eq_true', Bool.not_eq_false', Bool.and_eq_false_iff, Bool.or_eq_false_iff, Int.not_lt, Int.not_le] at hb) | skip) <;> (first | (exfalso; omega) | skip)))
    | ((first | (refine Ctr.use (contains42) hP ?_ [0,1] ?_ rfl rfl ?_; (focus (intro p hp; cases hp)); (focus (refine LeR.of rfl trivial ?_ ?_ ?_ ?_ ?_ <;> first | decide | (simp only [GA, ↓GB, List.filterMap_cons, eq_self, BEq.rfl, simprocAttr, GDs]; done))); intro os' s hR; obtain ⟨rfl, rfl⟩ := hR)); simp only [GA, ↓GB, List.filterMap_cons, eq_self, BEq.rfl, simprocAttr, hnt, hT])
    | (refine SX.block ?_)
    | (refine and_mk ?_ ?_; (focus first | decide | omega | rfl | assumption | (simp only [List.length_append, List.length_cons, List.length_nil, B_size]; omega) | (simp; done)))
    | (refine And.intro ?_ ?_))
  all_goals (try refine Done.mk ?_)
  all_goals ((refine hN0 _ _ ⟨[0], _, _, ?_, ?_, ?_, ⟨rfl, rfl⟩⟩; (focus exact LeR.of rfl trivial (by simp only [GA, ↓GB, List.filterMap_cons, eq_self, BEq.rfl, simprocAttr, GDs]) (by decide) rfl rfl rfl); rotate_left; (focus rfl)); rfl)
theorem wlist_nil (l : List UInt8) (num : Nat) : Ctr Tryd.prog [] 67 (bldr l) [.one (.c (.loc 0 0)), vv (.int .i64 num), nilS] (fun os r => os = bldr l ∧ r = .tup []) := by
  refine Ctr.less ?_
  intro X0 hP0 hG0 N0 hN0
  refine CallVC.inline (f := 67) (by rw [hP0]; exact Tryd.func67) rfl Tryd.ntmps67 rfl (by simp) ?_
  intro X K hU hnt hbl hK
  have hP : X.P = Tryd.prog := by rw [hU.P, hP0]
  have hG := hG0.under hU
  have hT : X.P.underlying 38 = some (TypeDesc.slice 9) ∧ elemSz X.P 38 = some (9, 1) ∧ aggOf X.P 9 = some false ∧ szOf X.P 9 = some 1 ∧ fieldOff X.P 123 0 = some 0 ∧ calleeOk X.P 104 = true ∧ calleeOk X.P 123 = true := by rw [hP]; exact ⟨Tryd.underlying38, Ty.el38, Ty.ag9, Ty.sz9, Ty.fo123_0, Ty.co104, Ty.co123⟩
  simp only [GA, ↓GB, List.filterMap_cons, eq_self, BEq.rfl, simprocAttr] at hbl ⊢
  repeat' (first
    | (refine SX.seqK ?_; intro N hN)
    | ((first | (refine SX.ops ?_) | (refine SX.planT (id := 3) [.f 0, .f 1, .f 2, .q [(3, [1]), (4, [7])] none, .s 5, .s 6] ?_ ?_ ?_; (focus first | (rw [hP]; kernel_rfl) | (rw [hU1P, hP]; kernel_rfl)); (focus kernel_rfl))); simp only [GA, ↓GB, List.filterMap_cons, eq_self, BEq.rfl, simprocAttr, hnt, hT])
    | ((first | refine SX.skip ?_ | refine SX.exit ?_ | refine SX.label ?_); try simp only [GA, ↓GB, List.filterMap_cons, eq_self, BEq.rfl, simprocAttr])
    | (refine SX.cond rfl (fun hb => ?_) (fun hb => ?_) <;> ((first | cases hb | (simp only [decide_eq_true_eq, decide_eq_false_iff_not, beq_iff_eq, beq_eq_false_iff_ne, bne_iff_ne, Bool.and_eq_true, Bool.or_eq_true, Bool.not_eq_true', Bool.not_eq_false', Bool.and_eq_false_iff, Bool.or_eq_false_iff, Int.not_lt, Int.not_le] at hb) | skip) <;> (first | (exfalso; omega) | skip)))
    | (refine SX.ret ?_; try simp only [GA, ↓GB, List.filterMap_cons, eq_self, BEq.rfl, simprocAttr])
    | (refine hN _ ?_; clear hN N)
    | ((first | refine hK _ _ (FinI.ret3 ?_) | refine hK _ _ (FinI.nrm3 ?_)); simp only [GA, ↓GB, List.filterMap_cons, eq_self, BEq.rfl, simprocAttr, finP_s, hnt, hT]; refine Done.out ?_)
    | (clear hN N; first | (refine hN _ ?_; clear hN N) | (clear hN N; first | (refine hN _ ?_; clear hN N) | (clear hN N; first | (refine hN _ ?_; clear hN N) | (clear hN N; first | (refine hN _ ?_; clear hN N) | (clear hN N; first | (refine hN _ ?_; clear hN N) | (refine hN _ ?_; clear hN N))))))
    | (refine bif2.mk (fun hb => ?_) (fun hb => ?_) <;> (try simp only [hb, GA, ↓GB, List.filterMap_cons, eq_self, BEq.rfl, simprocAttr, hnt, hT]) <;> ((first | cases hb | (simp only [decide_eq_true_eq, decide_eq_false_iff_not, beq_iff_eq, beq_eq_false_iff_ne, bne_iff_ne, Bool.and_eq_true, Bool.or_eq_true, Bool.not_eq_true', Bool.not_eq_false', Bool.and_eq_false_iff, Bool.or_eq_false_iff, Int.not_lt, Int.not_le] at hb) | skip) <;> (first | (exfalso; omega) | skip)))
    | (refine SX.loopN 1 ?_)
    | (refine SXr.stepK ?_; intro N hN)
    | (refine SX.block ?_)
    | (refine and_mk ?_ ?_; (focus first | decide | omega | rfl | assumption | (simp only [List.length_append, List.length_cons, List.length_nil, B_size]; omega) | (simp; done)))
    | (refine And.intro ?_ ?_))
  all_goals (try refine Done.mk ?_)
  all_goals ((refine hN0 _ _ ⟨[0, 1], _, _, ?_, ?_, ?_, ⟨rfl, rfl⟩⟩; (focus exact LeR.of rfl trivial (by simp only [GA, ↓GB, List.filterMap_cons, eq_self, BEq.rfl, simprocAttr, GDs]) (by decide) rfl rfl rfl); rotate_left; (focus rfl)); rfl)
theorem indexNilStar : Ctr Tryd.prog [] 154 [.cells [.clo 100 [] []] 168] [nilS, .one (.c (.clo 139 [] [.loc 0 0]))] (fun os v => os = [.cells [.clo 100 [] []] 168] ∧ v = vv (.int .i64 (-1))) := by
  refine Ctr.less ?_
  intro X0 hP0 hG0 N0 hN0
  refine CallVC.inline (f := 154) (by rw [hP0]; exact Tryd.func154) rfl Tryd.ntmps154 rfl (by simp) ?_
  intro X K hU hnt hbl hK
  have hP : X.P = Tryd.prog := by rw [hU.P, hP0]
  have hG := hG0.under hU
  have hT : X.P.underlying 38 = some (TypeDesc.slice 9) ∧ elemSz X.P 38 = some (9, 1) ∧ aggOf X.P 9 = some false ∧ szOf X.P 9 = some 1 := by rw [hP]; exact ⟨Tryd.underlying38, Ty.el38, Ty.ag9, Ty.sz9⟩
  simp only [GA, ↓GB, List.filterMap_cons, eq_self, BEq.rfl, simprocAttr] at hbl ⊢
  repeat' (first
    | (refine SX.seqK ?_; intro N hN)
    | ((first | (refine SX.ops ?_)); simp only [GA, ↓GB, List.filterMap_cons, eq_self, BEq.rfl, simprocAttr, hnt, hT])
    | ((first | refine SX.skip ?_ | refine SX.exit ?_ | refine SX.label ?_); try simp only [GA, ↓GB, List.filterMap_cons, eq_self, BEq.rfl, simprocAttr])
    | (refine SX.cond rfl (fun hb => ?_) (fun hb => ?_) <;> ((first | cases hb | (simp only [decide_eq_true_eq, decide_eq_false_iff_not, beq_iff_eq, beq_eq_false_iff_ne, bne_iff_ne, Bool.and_eq_true, Bool.or_eq_true, Bool.not_eq_true', Bool.not_eq_false', Bool.and_eq_false_iff, Bool.or_eq_false_iff, Int.not_lt, Int.not_le] at hb) | skip) <;> (first | (exfalso; omega) | skip)))
    | (refine SX.ret ?_; try simp only [GA, ↓GB, List.filterMap_cons, eq_self, BEq.rfl, simprocAttr])
    | (refine hN _ ?_; clear hN N)
    | ((first | refine hK _ _ (FinI.ret3 ?_) | refine hK _ _ (FinI.nrm3 ?_)); simp only [GA, ↓GB, List.filterMap_cons, eq_self, BEq.rfl, simprocAttr, finP_s, hnt, hT]; refine Done.out ?_)
    | (clear hN N; first | (refine hN _ ?_; clear hN N) | (clear hN N; first | (refine hN _ ?_; clear hN N) | (clear hN N; first | (refine hN _ ?_; clear hN N) | (clear hN N; first | (refine hN _ ?_; clear hN N) | (clear hN N; first | (refine hN _ ?_; clear hN N) | (refine hN _ ?_; clear hN N))))))
    | (refine bif2.mk (fun hb => ?_) (fun hb => ?_) <;> (try simp only [hb, GA, ↓GB, List.filterMap_cons, eq_self, BEq.rfl, simprocAttr, hnt, hT]) <;> ((first | cases hb | (simp only [decide_eq_true_eq, decide_eq_false_iff_not, beq_iff_eq, beq_eq_false_iff_ne, bne_iff_ne, Bool.and_eq_true, Bool.or_eq_true, Bool.not_eq_true', Bool.not_eq_false', Bool.and_eq_false_iff, Bool.or_eq_false_iff, Int.not_lt, Int.not_le] at hb) | skip) <;> (first | (exfalso; omega) | skip)))
    | (refine SX.loopN 1 ?_)
    | (refine SXr.stepK ?_; intro N hN)
    | (refine SX.block ?_)
    | (refine and_mk ?_ ?_; (focus first | decide | omega | rfl | assumption | (simp only [List.length_append, List.length_cons, List.length_nil, B_size]; omega) | (simp; done)))
    | (refine And.intro ?_ ?_))
  all_goals (try refine Done.mk ?_)
  all_goals ((refine hN0 _ _ ⟨[0], _, _, ?_, ?_, ?_, ⟨rfl, rfl⟩⟩; (focus exact LeR.of rfl trivial (by simp only [GA, ↓GB, List.filterMap_cons, eq_self, BEq.rfl, simprocAttr, GDs]) (by decide) rfl rfl rfl); rotate_left; (focus rfl)); rfl)
theorem containsNilStar : Ctr Tryd.prog [] 138 [.cells [.clo 100 [] []] 168] [nilS, .one (.c (.clo 139 [] [.loc 0 0]))] (fun os v => os = [.cells [.clo 100 [] []] 168] ∧ v = vv (.bool false)) := by
  refine Ctr.less ?_
  intro X0 hP0 hG0 N0 hN0
  refine CallVC.inline (f := 138) (by rw [hP0]; exact Tryd.func138) rfl Tryd.ntmps138 rfl (by simp) ?_
  intro X K hU hnt hbl hK
  have hP : X.P = Tryd.prog := by rw [hU.P, hP0]
  have hG := hG0.under hU
  have hT : calleeOk X.P 154 = true := by rw [hP]; exact Ty.co154
  simp only [GA, ↓GB, List.filterMap_cons, eq_self, BEq.rfl, simprocAttr] at hbl ⊢
  repeat' (first
    | (refine SX.seqK ?_; intro N hN)
    | ((first | (refine SX.ops ?_)); simp only [GA, ↓GB, List.filterMap_cons, eq_self, BEq.rfl, simprocAttr, hnt, hT])
    | ((first | refine SX.skip ?_ | refine SX.exit ?_ | refine SX.label ?_); try simp only [GA, ↓GB, List.filterMap_cons, eq_self, BEq.rfl, simprocAttr])
    | (refine SX.cond rfl (fun hb => ?_) (fun hb => ?_) <;> ((first | cases hb | (simp only [decide_eq_true_eq, decide_eq_false_iff_not, beq_iff_eq, beq_eq_false_iff_ne, bne_iff_ne, Bool.and_eq_true, Bool.or_eq_true, Bool.not_eq_true', Bool.not_eq_false', Bool.and_eq_false_iff, Bool.or_eq_false_iff, Int.not_lt, Int.not_le] at hb) | skip) <;> (first | (exfalso; omega) | skip)))
    | (refine SX.ret ?_; try simp only [GA, ↓GB, List.filterMap_cons, eq_self, BEq.rfl, simprocAttr])
    | (refine hN _ ?_; clear hN N)
    | ((first | refine hK _ _ (FinI.ret3 ?_) | refine hK _ _ (FinI.nrm3 ?_)); simp only [GA, ↓GB, List.filterMap_cons, eq_self, BEq.rfl, simprocAttr, finP_s, hnt, hT]; refine Done.out ?_)
    | (clear hN N; first | (refine hN _ ?_; clear hN N) | (clear hN N; first | (refine hN _ ?_; clear hN N) | (clear hN N; first | (refine hN _ ?_; clear hN N) | (clear hN N; first | (refine hN _ ?_; clear hN N) | (clear hN N; first | (refine hN _ ?_; clear hN N) | (refine hN _ ?_; clear hN N))))))
    | (refine bif2.mk (fun hb => ?_) (fun hb => ?_) <;> (try simp only [hb, GA, ↓GB, List.filterMap_cons, eq_self, BEq.rfl, simprocAttr, hnt, hT]) <;> ((first | cases hb | (simp only [decide_eq_true_eq, decide_eq_false_iff_not, beq_iff_eq, beq_eq_false_iff_ne, bne_iff_ne, Bool.and_eq_true, Bool.or_eq_true, Bool.not_eq_true', Bool.not_eq_false', Bool.and_eq_false_iff, Bool.or_eq_false_iff, Int.not_lt, Int.not_le] at hb) | skip) <;> (first | (exfalso; omega) | skip)))
    | ((first | (refine Ctr.use (indexNilStar) hP ?_ [0] ?_ rfl rfl ?_; (focus (intro p hp; cases hp)); (focus (refine LeR.of rfl trivial ?_ ?_ ?_ ?_ ?_ <;> first | decide | (simp only [GA, ↓GB, List.filterMap_cons, eq_self, BEq.rfl, simprocAttr, GDs]; done))); intro os' s hR; obtain ⟨rfl, rfl⟩ := hR)); simp only [GA, ↓GB, List.filterMap_cons, eq_self, BEq.rfl, simprocAttr, hnt, hT])
    | (refine SX.block ?_)
    | (refine and_mk ?_ ?_; (focus first | decide | omega | rfl | assumption | (simp only [List.length_append, List.length_cons, List.length_nil, B_size]; omega) | (simp; done)))
    | (refine And.intro ?_ ?_))
  all_goals (try refine Done.mk ?_)
  all_goals ((refine hN0 _ _ ⟨[0], _, _, ?_, ?_, ?_, ⟨rfl, rfl⟩⟩; (focus exact LeR.of rfl trivial (by simp only [GA, ↓GB, List.filterMap_cons, eq_self, BEq.rfl, simprocAttr, GDs]) (by decide) rfl rfl rfl); rotate_left; (focus rfl)); rfl)
theorem namedNilStar : Ctr Tryd.prog [] 99 [] [nilS, .one (.c (.clo 100 [] []))] (fun os v => os = [] ∧ v = vv (.bool true)) := by
  refine Ctr.less ?_
  intro X0 hP0 hG0 N0 hN0
  refine CallVC.inline (f := 99) (by rw [hP0]; exact Tryd.func99) rfl Tryd.ntmps99 rfl (by simp) ?_
  intro X K hU hnt hbl hK
  have hP : X.P = Tryd.prog := by rw [hU.P, hP0]
  have hG := hG0.under hU
  have hT : X.P.underlying 38 = some (TypeDesc.slice 9) ∧ calleeOk X.P 139 = true ∧ calleeOk X.P 138 = true := by rw [hP]; exact ⟨Tryd.underlying38, Ty.co139, Ty.co138⟩
  simp only [GA, ↓GB, List.filterMap_cons, eq_self, BEq.rfl, simprocAttr] at hbl ⊢
  repeat' (first
    | (refine SX.seqK ?_; intro N hN)
    | ((first | (refine SX.ops ?_)); simp only [GA, ↓GB, List.filterMap_cons, eq_self, BEq.rfl, simprocAttr, hnt, hT])
    | ((first | refine SX.skip ?_ | refine SX.exit ?_ | refine SX.label ?_); try simp only [GA, ↓GB, List.filterMap_cons, eq_self, BEq.rfl, simprocAttr])
    | (refine SX.cond rfl (fun hb => ?_) (fun hb => ?_) <;> ((first | cases hb | (simp only [decide_eq_true_eq, decide_eq_false_iff_not, beq_iff_eq, beq_eq_false_iff_ne, bne_iff_ne, Bool.and_eq_true, Bool.or_eq_true, Bool.not_eq_true', Bool.not_eq_false', Bool.and_eq_false_iff, Bool.or_eq_false_iff, Int.not_lt, Int.not_le] at hb) | skip) <;> (first | (exfalso; omega) | skip)))
    | (refine SX.ret ?_; try simp only [GA, ↓GB, List.filterMap_cons, eq_self, BEq.rfl, simprocAttr])
    | (refine hN _ ?_; clear hN N)
    | ((first | refine hK _ _ (FinI.ret3 ?_) | refine hK _ _ (FinI.nrm3 ?_)); simp only [GA, ↓GB, List.filterMap_cons, eq_self, BEq.rfl, simprocAttr, finP_s, hnt, hT]; refine Done.out ?_)
    | (clear hN N; first | (refine hN _ ?_; clear hN N) | (clear hN N; first | (refine hN _ ?_; clear hN N) | (clear hN N; first | (refine hN _ ?_; clear hN N) | (clear hN N; first | (refine hN _ ?_; clear hN N) | (clear hN N; first | (refine hN _ ?_; clear hN N) | (refine hN _ ?_; clear hN N))))))
    | (refine bif2.mk (fun hb => ?_) (fun hb => ?_) <;> (try simp only [hb, GA, ↓GB, List.filterMap_cons, eq_self, BEq.rfl, simprocAttr, hnt, hT]) <;> ((first | cases hb | (simp only [decide_eq_true_eq, decide_eq_false_iff_not, beq_iff_eq, beq_eq_false_iff_ne, bne_iff_ne, Bool.and_eq_true, Bool.or_eq_true, Bool.not_eq_true', Bool.not_eq_false', Bool.and_eq_false_iff, Bool.or_eq_false_iff, Int.not_lt, Int.not_le] at hb) | skip) <;> (first | (exfalso; omega) | skip)))
    | ((first | (refine Ctr.use (containsNilStar) hP ?_ [0] ?_ rfl rfl ?_; (focus (intro p hp; cases hp)); (focus (refine LeR.of rfl trivial ?_ ?_ ?_ ?_ ?_ <;> first | decide | (simp only [GA, ↓GB, List.filterMap_cons, eq_self, BEq.rfl, simprocAttr, GDs]; done))); intro os' s hR; obtain ⟨rfl, rfl⟩ := hR)); simp only [GA, ↓GB, List.filterMap_cons, eq_self, BEq.rfl, simprocAttr, hnt, hT])
    | (refine SX.block ?_)
    | (refine and_mk ?_ ?_; (focus first | decide | omega | rfl | assumption | (simp only [List.length_append, List.length_cons, List.length_nil, B_size]; omega) | (simp; done)))
    | (refine And.intro ?_ ?_))
  all_goals (try refine Done.mk ?_)
  all_goals ((refine hN0 _ _ ⟨[], _, _, ?_, ?_, ?_, ⟨rfl, rfl⟩⟩; (focus exact LeR.of rfl trivial (by simp only [GA, ↓GB, List.filterMap_cons, eq_self, BEq.rfl, simprocAttr, GDs]) (by decide) rfl rfl rfl); rotate_left; (focus rfl)); rfl)
theorem rightReqEx : Ctr Tryd.prog [] 42 [sl42] [.one (.agg [.v (.int .i64 1), .v (.bool false), .v (.int .u64 0), .sl 0 0 1 1, .v (.slice none 0 0), .v (.slice none 0 0), .v (.string (B []))])] (fun os v => os = [sl42] ∧ v = vv (.bool true)) := by
  have n3 := namedName [] (by decide) (by simp)
  refine Ctr.less ?_
  intro X0 hP0 hG0 N0 hN0
  refine CallVC.inline (f := 42) (by rw [hP0]; exact Tryd.func42) rfl Tryd.ntmps42 rfl (by simp) ?_
  intro X K hU hnt hbl hK
  have hP : X.P = Tryd.prog := by rw [hU.P, hP0]
  have hG := hG0.under hU
  have hT : fieldOff X.P 41 5 = some 5 ∧ aggOf X.P 39 = some false ∧ szOf X.P 39 = some 1 ∧ X.P.underlying 39 = some (TypeDesc.slice 87) ∧ elemInf X.P 38 = some (9, 1, 16, (Value.string { data := #[] })) ∧ elemSz X.P 39 = some (87, 2) ∧ aggOf X.P 87 = some true ∧ szOf X.P 87 = some 2 ∧ zeroCells X.P 87 = some [(Value.string { data := #[] }), (Value.int IntKind.u64 0)] ∧ fieldOff X.P 87 0 = some 0 ∧ aggOf X.P 9 = some false ∧ szOf X.P 9 = some 1 ∧ elemSz X.P 38 = some (9, 1) ∧ zeroCells X.P 9 = some [(Value.string { data := #[] })] ∧ isStrT X.P 38 = false ∧ fieldOff X.P 41 0 = some 0 ∧ aggOf X.P 3 = some false ∧ szOf X.P 3 = some 1 ∧ calleeOk X.P 98 = true ∧ fieldOff X.P 41 3 = some 3 ∧ aggOf X.P 38 = some false ∧ szOf X.P 38 = some 1 ∧ calleeOk X.P 99 = true ∧ fieldOff X.P 41 4 = some 4 ∧ fieldOff X.P 41 6 = some 6 ∧ X.P.underlying 9 = some TypeDesc.string ∧ fieldOff X.P 41 2 = some 2 ∧ aggOf X.P 22 = some false ∧ szOf X.P 22 = some 1 ∧ fieldOff X.P 41 1 = some 1 ∧ aggOf X.P 4 = some false ∧ szOf X.P 4 = some 1 ∧ X.P.underlying 38 = some (TypeDesc.slice 9) := by rw [hP]; exact ⟨Ty.fo41_5, Ty.ag39, Ty.sz39, Tryd.underlying39, Ty.ei38, Ty.el39, Ty.ag87, Ty.sz87, Ty.ze87, Ty.fo87_0, Ty.ag9, Ty.sz9, Ty.el38, Ty.ze9, Ty.is38, Ty.fo41_0, Ty.ag3, Ty.sz3, Ty.co98, Ty.fo41_3, Ty.ag38, Ty.sz38, Ty.co99, Ty.fo41_4, Ty.fo41_6, Tryd.underlying9, Ty.fo41_2, Ty.ag22, Ty.sz22, Ty.fo41_1, Ty.ag4, Ty.sz4, Tryd.underlying38⟩
  simp only [GA, ↓GB, List.filterMap_cons, eq_self, BEq.rfl, simprocAttr] at hbl ⊢
  repeat' (first
    | (refine SX.seqK ?_; intro N hN)
    | ((first | (refine SX.ops ?_)); simp only [GA, ↓GB, List.filterMap_cons, eq_self, BEq.rfl, simprocAttr, hnt, hT])
    | ((first | refine SX.skip ?_ | refine SX.exit ?_ | refine SX.label ?_); try simp only [GA, ↓GB, List.filterMap_cons, eq_self, BEq.rfl, simprocAttr])
    | (refine SX.cond rfl (fun hb => ?_) (fun hb => ?_) <;> ((first | cases hb | (simp only [decide_eq_true_eq, decide_eq_false_iff_not, beq_iff_eq, beq_eq_false_iff_ne, bne_iff_ne, Bool.and_eq_true, Bool.or_eq_true, Bool.not_eq_true', Bool.not_eq_false', Bool.and_eq_false_iff, Bool.or_eq_false_iff, Int.not_lt, Int.not_le] at hb) | skip) <;> (first | (exfalso; omega) | skip)))
    | (refine SX.ret ?_; try simp only [GA, ↓GB, List.filterMap_cons, eq_self, BEq.rfl, simprocAttr])
    | (refine hN _ ?_; clear hN N)
    | ((first | refine hK _ _ (FinI.ret3 ?_) | refine hK _ _ (FinI.nrm3 ?_)); simp only [GA, ↓GB, List.filterMap_cons, eq_self, BEq.rfl, simprocAttr, finP_s, hnt, hT]; refine Done.out ?_)
    | (clear hN N; first | (refine hN _ ?_; clear hN N) | (clear hN N; first | (refine hN _ ?_; clear hN N) | (clear hN N; first | (refine hN _ ?_; clear hN N) | (clear hN N; first | (refine hN _ ?_; clear hN N) | (clear hN N; first | (refine hN _ ?_; clear hN N) | (refine hN _ ?_; clear hN N))))))
    | (refine bif2.mk (fun hb => ?_) (fun hb => ?_) <;> (try simp only [hb, GA, ↓GB, List.filterMap_cons, eq_self, BEq.rfl, simprocAttr, hnt, hT]) <;> ((first | cases hb | (simp only [decide_eq_true_eq, decide_eq_false_iff_not, beq_iff_eq, beq_eq_false_iff_ne, bne_iff_ne, Bool.and_eq_true, Bool.or_eq_true, Bool.not_eq_true', Bool.not_eq_false', Bool.and_eq_false_iff, Bool.or_eq_false_iff, Int.not_lt, Int.not_le] at hb) | skip) <;> (first | (exfalso; omega) | skip)))
    | ((first | (refine CallVC.pv hP (typed_any 1) rfl ?_) | (refine CallQ.pv hP (typed_any 1) rfl ?_) | (refine Ctr.use (named42) hP ?_ [0] ?_ rfl rfl ?_; (focus (intro p hp; cases hp)); (focus (refine LeR.of rfl trivial ?_ ?_ ?_ ?_ ?_ <;> first | decide | (simp only [GA, ↓GB, List.filterMap_cons, eq_self, BEq.rfl, simprocAttr, GDs]; done))); intro os' s hR; obtain ⟨rfl, rfl⟩ := hR) | (refine Ctr.use (namedNilStar) hP ?_ [] ?_ rfl rfl ?_; (focus (intro p hp; cases hp)); (focus (refine LeR.of rfl trivial ?_ ?_ ?_ ?_ ?_ <;> first | decide | (simp only [GA, ↓GB, List.filterMap_cons, eq_self, BEq.rfl, simprocAttr, GDs]; done))); intro os' s hR; obtain ⟨rfl, rfl⟩ := hR) | (refine Ctr.use (n3) hP ?_ [2] ?_ rfl rfl ?_; (focus (intro p hp; cases hp)); (focus (refine LeR.of rfl trivial ?_ ?_ ?_ ?_ ?_ <;> first | decide | (simp only [GA, ↓GB, List.filterMap_cons, eq_self, BEq.rfl, simprocAttr, GDs]; done))); intro os' s hR; obtain ⟨rfl, rfl⟩ := hR)); simp only [GA, ↓GB, List.filterMap_cons, eq_self, BEq.rfl, simprocAttr, hnt, hT])
    | (refine SX.loopN 1 ?_)
    | (refine SXr.stepK ?_; intro N hN)
    | (refine SX.block ?_)
    | (refine and_mk ?_ ?_; (focus first | decide | omega | rfl | assumption | (simp only [List.length_append, List.length_cons, List.length_nil, B_size]; omega) | (simp; done)))
    | (refine And.intro ?_ ?_))
  all_goals (try refine Done.mk ?_)
  all_goals ((refine hN0 _ _ ⟨[0], _, _, ?_, ?_, ?_, ⟨rfl, rfl⟩⟩; (focus exact LeR.of rfl trivial (by simp only [GA, ↓GB, List.filterMap_cons, eq_self, BEq.rfl, simprocAttr, GDs]) (by decide) rfl rfl rfl); rotate_left; (focus rfl)); rfl)
theorem rightReqZero : Ctr Tryd.prog [] 42 [] [.one (.agg [.v (.int .i64 0), .v (.bool false), .v (.int .u64 0), .v (.slice none 0 0), .v (.slice none 0 0), .v (.slice none 0 0), .v (.string (B []))])] (fun os v => os = [] ∧ v = vv (.bool false)) := by
  refine Ctr.less ?_
  intro X0 hP0 hG0 N0 hN0
  refine CallVC.inline (f := 42) (by rw [hP0]; exact Tryd.func42) rfl Tryd.ntmps42 rfl (by simp) ?_
  intro X K hU hnt hbl hK
  have hP : X.P = Tryd.prog := by rw [hU.P, hP0]
  have hG := hG0.under hU
  have hT : fieldOff X.P 41 5 = some 5 ∧ aggOf X.P 39 = some false ∧ szOf X.P 39 = some 1 ∧ X.P.underlying 39 = some (TypeDesc.slice 87) ∧ elemInf X.P 38 = some (9, 1, 16, (Value.string { data := #[] })) ∧ elemSz X.P 39 = some (87, 2) ∧ aggOf X.P 87 = some true ∧ szOf X.P 87 = some 2 ∧ zeroCells X.P 87 = some [(Value.string { data := #[] }), (Value.int IntKind.u64 0)] ∧ fieldOff X.P 87 0 = some 0 ∧ aggOf X.P 9 = some false ∧ szOf X.P 9 = some 1 ∧ elemSz X.P 38 = some (9, 1) ∧ zeroCells X.P 9 = some [(Value.string { data := #[] })] ∧ isStrT X.P 38 = false ∧ fieldOff X.P 41 0 = some 0 ∧ aggOf X.P 3 = some false ∧ szOf X.P 3 = some 1 ∧ calleeOk X.P 98 = true ∧ fieldOff X.P 41 3 = some 3 ∧ aggOf X.P 38 = some false ∧ szOf X.P 38 = some 1 ∧ calleeOk X.P 99 = true ∧ fieldOff X.P 41 4 = some 4 ∧ fieldOff X.P 41 6 = some 6 ∧ X.P.underlying 9 = some TypeDesc.string ∧ fieldOff X.P 41 2 = some 2 ∧ aggOf X.P 22 = some false ∧ szOf X.P 22 = some 1 ∧ fieldOff X.P 41 1 = some 1 ∧ aggOf X.P 4 = some false ∧ szOf X.P 4 = some 1 ∧ X.P.underlying 38 = some (TypeDesc.slice 9) := by rw [hP]; exact ⟨Ty.fo41_5, Ty.ag39, Ty.sz39, Tryd.underlying39, Ty.ei38, Ty.el39, Ty.ag87, Ty.sz87, Ty.ze87, Ty.fo87_0, Ty.ag9, Ty.sz9, Ty.el38, Ty.ze9, Ty.is38, Ty.fo41_0, Ty.ag3, Ty.sz3, Ty.co98, Ty.fo41_3, Ty.ag38, Ty.sz38, Ty.co99, Ty.fo41_4, Ty.fo41_6, Tryd.underlying9, Ty.fo41_2, Ty.ag22, Ty.sz22, Ty.fo41_1, Ty.ag4, Ty.sz4, Tryd.underlying38⟩
  simp only [GA, ↓GB, List.filterMap_cons, eq_self, BEq.rfl, simprocAttr] at hbl ⊢
  repeat' (first
    | (refine SX.seqK ?_; intro N hN)
    | ((first | (refine SX.ops ?_)); simp only [GA, ↓GB, List.filterMap_cons, eq_self, BEq.rfl, simprocAttr, hnt, hT])
    | ((first | refine SX.skip ?_ | refine SX.exit ?_ | refine SX.label ?_); try simp only [GA, ↓GB, List.filterMap_cons, eq_self, BEq.rfl, simprocAttr])
    | (refine SX.cond rfl (fun hb => ?_) (fun hb => ?_) <;> ((first | cases hb | (simp only [decide_eq_true_eq, decide_eq_false_iff_not, beq_iff_eq, beq_eq_false_iff_ne, bne_iff_ne, Bool.and_eq_true, Bool.or_eq_true, Bool.not_eq_true', Bool.not_eq_false', Bool.and_eq_false_iff, Bool.or_eq_false_iff, Int.not_lt, Int.not_le] at hb) | skip) <;> (first | (exfalso; omega) | skip)))
    | (refine SX.ret ?_; try simp only [GA, ↓GB, List.filterMap_cons, eq_self, BEq.rfl, simprocAttr])
    | (refine hN _ ?_; clear hN N)
    | ((first | refine hK _ _ (FinI.ret3 ?_) | refine hK _ _ (FinI.nrm3 ?_)); simp only [GA, ↓GB, List.filterMap_cons, eq_self, BEq.rfl, simprocAttr, finP_s, hnt, hT]; refine Done.out ?_)
    | (clear hN N; first | (refine hN _ ?_; clear hN N) | (clear hN N; first | (refine hN _ ?_; clear hN N) | (clear hN N; first | (refine hN _ ?_; clear hN N) | (clear hN N; first | (refine hN _ ?_; clear hN N) | (clear hN N; first | (refine hN _ ?_; clear hN N) | (refine hN _ ?_; clear hN N))))))
    | (refine bif2.mk (fun hb => ?_) (fun hb => ?_) <;> (try simp only [hb, GA, ↓GB, List.filterMap_cons, eq_self, BEq.rfl, simprocAttr, hnt, hT]) <;> ((first | cases hb | (simp only [decide_eq_true_eq, decide_eq_false_iff_not, beq_iff_eq, beq_eq_false_iff_ne, bne_iff_ne, Bool.and_eq_true, Bool.or_eq_true, Bool.not_eq_true', Bool.not_eq_false', Bool.and_eq_false_iff, Bool.or_eq_false_iff, Int.not_lt, Int.not_le] at hb) | skip) <;> (first | (exfalso; omega) | skip)))
    | ((first | (refine CallVC.pv hP (typed_any 0) rfl ?_) | (refine CallQ.pv hP (typed_any 0) rfl ?_)); simp only [GA, ↓GB, List.filterMap_cons, eq_self, BEq.rfl, simprocAttr, hnt, hT])
    | (refine SX.loopN 1 ?_)
    | (refine SXr.stepK ?_; intro N hN)
    | (refine SX.block ?_)
    | (refine and_mk ?_ ?_; (focus first | decide | omega | rfl | assumption | (simp only [List.length_append, List.length_cons, List.length_nil, B_size]; omega) | (simp; done)))
    | (refine And.intro ?_ ?_))
  all_goals (try refine Done.mk ?_)
  all_goals ((refine hN0 _ _ ⟨[], _, _, ?_, ?_, ?_, ⟨rfl, rfl⟩⟩; (focus exact LeR.of rfl trivial (by simp only [GA, ↓GB, List.filterMap_cons, eq_self, BEq.rfl, simprocAttr, GDs]) (by decide) rfl rfl rfl); rotate_left; (focus rfl)); rfl)
theorem putReqZero : Ctr Tryd.prog [] 40 [] [.one (.agg [.v (.int .i64 0), .v (.bool false), .v (.int .u64 0), .v (.slice none 0 0), .v (.slice none 0 0), .v (.slice none 0 0), .v (.string (B []))])] (fun os v => os = [] ∧ v = .tup [.c (.v (.string (B []))), .c (.v (.bool false))]) := by
  refine Ctr.less ?_
  intro X0 hP0 hG0 N0 hN0
  refine CallVC.inline (f := 40) (by rw [hP0]; exact Tryd.func40) rfl Tryd.ntmps40 rfl (by simp) ?_
  intro X K hU hnt hbl hK
  have hP : X.P = Tryd.prog := by rw [hU.P, hP0]
  have hG := hG0.under hU
  have hT : aggOf X.P 41 = some true ∧ szOf X.P 41 = some 7 ∧ calleeOk X.P 42 = true ∧ zeroCells X.P 123 = some [(Value.pointer none), (Value.slice none 0 0)] ∧ fieldOff X.P 123 0 = some 0 ∧ calleeOk X.P 65 = true ∧ fieldOff X.P 41 0 = some 0 ∧ aggOf X.P 3 = some false ∧ szOf X.P 3 = some 1 ∧ X.P.underlying 3 = some (TypeDesc.int IntKind.i64) ∧ X.P.underlying 22 = some (TypeDesc.int IntKind.u64) ∧ isBytesT X.P 3 = false ∧ isStrT X.P 22 = false ∧ calleeOk X.P 66 = true ∧ fieldOff X.P 41 1 = some 1 ∧ aggOf X.P 4 = some false ∧ szOf X.P 4 = some 1 ∧ calleeOk X.P 68 = true ∧ fieldOff X.P 41 2 = some 2 ∧ aggOf X.P 22 = some false ∧ szOf X.P 22 = some 1 ∧ fieldOff X.P 41 3 = some 3 ∧ aggOf X.P 38 = some false ∧ szOf X.P 38 = some 1 ∧ calleeOk X.P 67 = true ∧ fieldOff X.P 41 4 = some 4 ∧ fieldOff X.P 41 5 = some 5 ∧ aggOf X.P 39 = some false ∧ szOf X.P 39 = some 1 ∧ X.P.underlying 39 = some (TypeDesc.slice 87) ∧ elemSz X.P 39 = some (87, 2) ∧ aggOf X.P 87 = some true ∧ szOf X.P 87 = some 2 ∧ zeroCells X.P 87 = some [(Value.string { data := #[] }), (Value.int IntKind.u64 0)] ∧ fieldOff X.P 87 0 = some 0 ∧ aggOf X.P 9 = some false ∧ szOf X.P 9 = some 1 ∧ elemSz X.P 38 = some (9, 1) ∧ zeroCells X.P 9 = some [(Value.string { data := #[] })] ∧ fieldOff X.P 87 1 = some 1 ∧ calleeOk X.P 69 = true ∧ fieldOff X.P 41 6 = some 6 := by rw [hP]; exact ⟨Ty.ag41, Ty.sz41, Ty.co42, Ty.ze123, Ty.fo123_0, Ty.co65, Ty.fo41_0, Ty.ag3, Ty.sz3, Tryd.underlying3, Tryd.underlying22, Ty.ib3, Ty.is22, Ty.co66, Ty.fo41_1, Ty.ag4, Ty.sz4, Ty.co68, Ty.fo41_2, Ty.ag22, Ty.sz22, Ty.fo41_3, Ty.ag38, Ty.sz38, Ty.co67, Ty.fo41_4, Ty.fo41_5, Ty.ag39, Ty.sz39, Tryd.underlying39, Ty.el39, Ty.ag87, Ty.sz87, Ty.ze87, Ty.fo87_0, Ty.ag9, Ty.sz9, Ty.el38, Ty.ze9, Ty.fo87_1, Ty.co69, Ty.fo41_6⟩
  simp only [GA, ↓GB, List.filterMap_cons, eq_self, BEq.rfl, simprocAttr] at hbl ⊢
  repeat' (first
    | (refine SX.seqK ?_; intro N hN)
    | ((first | (refine SX.ops ?_)); simp only [GA, ↓GB, List.filterMap_cons, eq_self, BEq.rfl, simprocAttr, hnt, hT])
    | ((first | refine SX.skip ?_ | refine SX.exit ?_ | refine SX.label ?_); try simp only [GA, ↓GB, List.filterMap_cons, eq_self, BEq.rfl, simprocAttr])
    | (refine SX.cond rfl (fun hb => ?_) (fun hb => ?_) <;> ((first | cases hb | (simp only [decide_eq_true_eq, decide_eq_false_iff_not, beq_iff_eq, beq_eq_false_iff_ne, bne_iff_ne, Bool.and_eq_true, Bool.or_eq_true, Bool.not_eq_true', Bool.not_eq_false', Bool.and_eq_false_iff, Bool.or_eq_false_iff, Int.not_lt, Int.not_le] at hb) | skip) <;> (first | (exfalso; omega) | skip)))
    | (refine SX.ret ?_; try simp only [GA, ↓GB, List.filterMap_cons, eq_self, BEq.rfl, simprocAttr])
    | (refine hN _ ?_; clear hN N)
    | ((first | refine hK _ _ (FinI.ret3 ?_) | refine hK _ _ (FinI.nrm3 ?_)); simp only [GA, ↓GB, List.filterMap_cons, eq_self, BEq.rfl, simprocAttr, finP_s, hnt, hT]; refine Done.out ?_)
    | (clear hN N; first | (refine hN _ ?_; clear hN N) | (clear hN N; first | (refine hN _ ?_; clear hN N) | (clear hN N; first | (refine hN _ ?_; clear hN N) | (clear hN N; first | (refine hN _ ?_; clear hN N) | (clear hN N; first | (refine hN _ ?_; clear hN N) | (refine hN _ ?_; clear hN N))))))
    | (refine bif2.mk (fun hb => ?_) (fun hb => ?_) <;> (try simp only [hb, GA, ↓GB, List.filterMap_cons, eq_self, BEq.rfl, simprocAttr, hnt, hT]) <;> ((first | cases hb | (simp only [decide_eq_true_eq, decide_eq_false_iff_not, beq_iff_eq, beq_eq_false_iff_ne, bne_iff_ne, Bool.and_eq_true, Bool.or_eq_true, Bool.not_eq_true', Bool.not_eq_false', Bool.and_eq_false_iff, Bool.or_eq_false_iff, Int.not_lt, Int.not_le] at hb) | skip) <;> (first | (exfalso; omega) | skip)))
    | ((first | (refine Ctr.use (rightReqZero) hP ?_ [] ?_ rfl rfl ?_; (focus (intro p hp; cases hp)); (focus (refine LeR.of rfl trivial ?_ ?_ ?_ ?_ ?_ <;> first | decide | (simp only [GA, ↓GB, List.filterMap_cons, eq_self, BEq.rfl, simprocAttr, GDs]; done))); intro os' s hR; obtain ⟨rfl, rfl⟩ := hR)); simp only [GA, ↓GB, List.filterMap_cons, eq_self, BEq.rfl, simprocAttr, hnt, hT])
    | (refine SX.block ?_)
    | (refine and_mk ?_ ?_; (focus first | decide | omega | rfl | assumption | (simp only [List.length_append, List.length_cons, List.length_nil, B_size]; omega) | (simp; done)))
    | (refine And.intro ?_ ?_))
  all_goals (try refine Done.mk ?_)
  all_goals ((refine hN0 _ _ ⟨[], _, _, ?_, ?_, ?_, ⟨rfl, rfl⟩⟩; (focus exact LeR.of rfl trivial (by simp only [GA, ↓GB, List.filterMap_cons, eq_self, BEq.rfl, simprocAttr, GDs]) (by decide) rfl rfl rfl); rotate_left; (focus rfl)); rfl)
theorem numB11 : numB 1 1 = [8, 1] := by simp [numB, NW.varint_lt]
theorem textB4 : textB 4 [42] = [34, 1, 42] := by simp [textB, NW.varint_lt]
theorem wnumberZero (l : List UInt8) (num : Nat) : Ctr Tryd.prog [] 66 (bldr l) [.one (.c (.loc 0 0)), vv (.int .i64 num), vv (.int .u64 0)] (fun os r => os = bldr l ∧ r = .tup []) := by
  refine Ctr.less ?_
  intro X0 hP0 hG0 N0 hN0
  refine CallVC.inline (f := 66) (by rw [hP0]; exact Tryd.func66) rfl Tryd.ntmps66 rfl (by simp) ?_
  intro X K hU hnt hbl hK
  have hP : X.P = Tryd.prog := by rw [hU.P, hP0]
  have hG := hG0.under hU
  have hT : fieldOff X.P 123 0 = some 0 ∧ calleeOk X.P 23 = true ∧ calleeOk X.P 123 = true := by rw [hP]; exact ⟨Ty.fo123_0, Ty.co23, Ty.co123⟩
  simp only [GA, ↓GB, List.filterMap_cons, eq_self, BEq.rfl, simprocAttr] at hbl ⊢
  repeat' (first
    | (refine SX.seqK ?_; intro N hN)
    | ((first | (refine SX.ops ?_) | (refine SX.planT (id := 1) [.f 0, .f 1, .f 2, .q [(3, [1]), (4, [2])] none, .s 5, .s 6] ?_ ?_ ?_; (focus first | (rw [hP]; kernel_rfl) | (rw [hU1P, hP]; kernel_rfl)); (focus kernel_rfl))); simp only [GA, ↓GB, List.filterMap_cons, eq_self, BEq.rfl, simprocAttr, hnt, hT])
    | ((first | refine SX.skip ?_ | refine SX.exit ?_ | refine SX.label ?_); try simp only [GA, ↓GB, List.filterMap_cons, eq_self, BEq.rfl, simprocAttr])
    | (refine SX.cond rfl (fun hb => ?_) (fun hb => ?_) <;> ((first | cases hb | (simp only [decide_eq_true_eq, decide_eq_false_iff_not, beq_iff_eq, beq_eq_false_iff_ne, bne_iff_ne, Bool.and_eq_true, Bool.or_eq_true, Bool.not_eq_true', Bool.not_eq_false', Bool.and_eq_false_iff, Bool.or_eq_false_iff, Int.not_lt, Int.not_le] at hb) | skip) <;> (first | (exfalso; omega) | skip)))
    | (refine SX.ret ?_; try simp only [GA, ↓GB, List.filterMap_cons, eq_self, BEq.rfl, simprocAttr])
    | (refine hN _ ?_; clear hN N)
    | ((first | refine hK _ _ (FinI.ret3 ?_) | refine hK _ _ (FinI.nrm3 ?_)); simp only [GA, ↓GB, List.filterMap_cons, eq_self, BEq.rfl, simprocAttr, finP_s, hnt, hT]; refine Done.out ?_)
    | (clear hN N; first | (refine hN _ ?_; clear hN N) | (clear hN N; first | (refine hN _ ?_; clear hN N) | (clear hN N; first | (refine hN _ ?_; clear hN N) | (clear hN N; first | (refine hN _ ?_; clear hN N) | (clear hN N; first | (refine hN _ ?_; clear hN N) | (refine hN _ ?_; clear hN N))))))
    | (refine bif2.mk (fun hb => ?_) (fun hb => ?_) <;> (try simp only [hb, GA, ↓GB, List.filterMap_cons, eq_self, BEq.rfl, simprocAttr, hnt, hT]) <;> ((first | cases hb | (simp only [decide_eq_true_eq, decide_eq_false_iff_not, beq_iff_eq, beq_eq_false_iff_ne, bne_iff_ne, Bool.and_eq_true, Bool.or_eq_true, Bool.not_eq_true', Bool.not_eq_false', Bool.and_eq_false_iff, Bool.or_eq_false_iff, Int.not_lt, Int.not_le] at hb) | skip) <;> (first | (exfalso; omega) | skip)))
    | (refine SX.block ?_)
    | (refine and_mk ?_ ?_; (focus first | decide | omega | rfl | assumption | (simp only [List.length_append, List.length_cons, List.length_nil, B_size]; omega) | (simp; done)))
    | (refine And.intro ?_ ?_))
  all_goals (try refine Done.mk ?_)
  all_goals ((refine hN0 _ _ ⟨[0, 1], _, _, ?_, ?_, ?_, ⟨rfl, rfl⟩⟩; (focus exact LeR.of rfl trivial (by simp only [GA, ↓GB, List.filterMap_cons, eq_self, BEq.rfl, simprocAttr, GDs]) (by decide) rfl rfl rfl); rotate_left; (focus rfl)); rfl)
theorem putReqEx : Ctr Tryd.prog [] 40 [sl42] [.one (.agg [.v (.int .i64 1), .v (.bool false), .v (.int .u64 0), .sl 0 0 1 1, .v (.slice none 0 0), .v (.slice none 0 0), .v (.string (B []))])] (fun os v => os = [sl42] ∧ v = .tup [.c (.v (.string (B [1, 8, 1, 34, 1, 42]))), .c (.v (.bool true))]) := by
  have e1 : IntKind.u64.wrap (1 : Int) = 1 := by decide
  have a1 := wnumber_ctr [1] 1 1 (by decide) (by decide) (by decide) (by decide) (by decide)
  rw [numB11] at a1
  have a2 := wlist1_ctr [1, 8, 1] [42] 4 (by decide) (by decide) (by decide) (by decide)
  rw [textB4] at a2
  refine Ctr.less ?_
  intro X0 hP0 hG0 N0 hN0
  refine CallVC.inline (f := 40) (by rw [hP0]; exact Tryd.func40) rfl Tryd.ntmps40 rfl (by simp) ?_
  intro X K hU hnt hbl hK
  have hP : X.P = Tryd.prog := by rw [hU.P, hP0]
  have hG := hG0.under hU
  have hT : aggOf X.P 41 = some true ∧ szOf X.P 41 = some 7 ∧ calleeOk X.P 42 = true ∧ zeroCells X.P 123 = some [(Value.pointer none), (Value.slice none 0 0)] ∧ fieldOff X.P 123 0 = some 0 ∧ calleeOk X.P 65 = true ∧ fieldOff X.P 41 0 = some 0 ∧ aggOf X.P 3 = some false ∧ szOf X.P 3 = some 1 ∧ X.P.underlying 3 = some (TypeDesc.int IntKind.i64) ∧ X.P.underlying 22 = some (TypeDesc.int IntKind.u64) ∧ isBytesT X.P 3 = false ∧ isStrT X.P 22 = false ∧ calleeOk X.P 66 = true ∧ fieldOff X.P 41 1 = some 1 ∧ aggOf X.P 4 = some false ∧ szOf X.P 4 = some 1 ∧ calleeOk X.P 68 = true ∧ fieldOff X.P 41 2 = some 2 ∧ aggOf X.P 22 = some false ∧ szOf X.P 22 = some 1 ∧ fieldOff X.P 41 3 = some 3 ∧ aggOf X.P 38 = some false ∧ szOf X.P 38 = some 1 ∧ calleeOk X.P 67 = true ∧ fieldOff X.P 41 4 = some 4 ∧ fieldOff X.P 41 5 = some 5 ∧ aggOf X.P 39 = some false ∧ szOf X.P 39 = some 1 ∧ X.P.underlying 39 = some (TypeDesc.slice 87) ∧ elemSz X.P 39 = some (87, 2) ∧ aggOf X.P 87 = some true ∧ szOf X.P 87 = some 2 ∧ zeroCells X.P 87 = some [(Value.string { data := #[] }), (Value.int IntKind.u64 0)] ∧ fieldOff X.P 87 0 = some 0 ∧ aggOf X.P 9 = some false ∧ szOf X.P 9 = some 1 ∧ elemSz X.P 38 = some (9, 1) ∧ zeroCells X.P 9 = some [(Value.string { data := #[] })] ∧ fieldOff X.P 87 1 = some 1 ∧ calleeOk X.P 69 = true ∧ fieldOff X.P 41 6 = some 6 := by rw [hP]; exact ⟨Ty.ag41, Ty.sz41, Ty.co42, Ty.ze123, Ty.fo123_0, Ty.co65, Ty.fo41_0, Ty.ag3, Ty.sz3, Tryd.underlying3, Tryd.underlying22, Ty.ib3, Ty.is22, Ty.co66, Ty.fo41_1, Ty.ag4, Ty.sz4, Ty.co68, Ty.fo41_2, Ty.ag22, Ty.sz22, Ty.fo41_3, Ty.ag38, Ty.sz38, Ty.co67, Ty.fo41_4, Ty.fo41_5, Ty.ag39, Ty.sz39, Tryd.underlying39, Ty.el39, Ty.ag87, Ty.sz87, Ty.ze87, Ty.fo87_0, Ty.ag9, Ty.sz9, Ty.el38, Ty.ze9, Ty.fo87_1, Ty.co69, Ty.fo41_6⟩
  simp only [GA, ↓GB, List.filterMap_cons, eq_self, BEq.rfl, simprocAttr] at hbl ⊢
  repeat' (first
    | (refine SX.seqK ?_; intro N hN)
    | ((first | (refine SX.ops ?_)); simp only [GA, ↓GB, List.filterMap_cons, eq_self, BEq.rfl, simprocAttr, hnt, hT, e1])
    | ((first | refine SX.skip ?_ | refine SX.exit ?_ | refine SX.label ?_); try simp only [GA, ↓GB, List.filterMap_cons, eq_self, BEq.rfl, simprocAttr])
    | (refine SX.cond rfl (fun hb => ?_) (fun hb => ?_) <;> ((first | cases hb | (simp only [decide_eq_true_eq, decide_eq_false_iff_not, beq_iff_eq, beq_eq_false_iff_ne, bne_iff_ne, Bool.and_eq_true, Bool.or_eq_true, Bool.not_eq_true', Bool.not_eq_false', Bool.and_eq_false_iff, Bool.or_eq_false_iff, Int.not_lt, Int.not_le] at hb) | skip) <;> (first | (exfalso; omega) | skip)))
    | (refine SX.ret ?_; try simp only [GA, ↓GB, List.filterMap_cons, eq_self, BEq.rfl, simprocAttr])
    | (refine hN _ ?_; clear hN N)
    | ((first | refine hK _ _ (FinI.ret3 ?_) | refine hK _ _ (FinI.nrm3 ?_)); simp only [GA, ↓GB, List.filterMap_cons, eq_self, BEq.rfl, simprocAttr, finP_s, hnt, hT, e1]; refine Done.out ?_)
    | (clear hN N; first | (refine hN _ ?_; clear hN N) | (clear hN N; first | (refine hN _ ?_; clear hN N) | (clear hN N; first | (refine hN _ ?_; clear hN N) | (clear hN N; first | (refine hN _ ?_; clear hN N) | (clear hN N; first | (refine hN _ ?_; clear hN N) | (refine hN _ ?_; clear hN N))))))
    | (refine bif2.mk (fun hb => ?_) (fun hb => ?_) <;> (try simp only [hb, GA, ↓GB, List.filterMap_cons, eq_self, BEq.rfl, simprocAttr, hnt, hT, e1]) <;> ((first | cases hb | (simp only [decide_eq_true_eq, decide_eq_false_iff_not, beq_iff_eq, beq_eq_false_iff_ne, bne_iff_ne, Bool.and_eq_true, Bool.or_eq_true, Bool.not_eq_true', Bool.not_eq_false', Bool.and_eq_false_iff, Bool.or_eq_false_iff, Int.not_lt, Int.not_le] at hb) | skip) <;> (first | (exfalso; omega) | skip)))
    | ((first | (refine Ctr.use (rightReqEx) hP ?_ [0] ?_ rfl rfl ?_; (focus (intro p hp; cases hp)); (focus (refine LeR.of rfl trivial ?_ ?_ ?_ ?_ ?_ <;> first | decide | (simp only [GA, ↓GB, List.filterMap_cons, eq_self, BEq.rfl, simprocAttr, GDs]; done))); intro os' s hR; obtain ⟨rfl, rfl⟩ := hR) | (refine Ctr.use (writeByte_ctr 1) hP ?_ [2] ?_ rfl rfl ?_; (focus (intro p hp; cases hp)); (focus (refine LeR.of rfl trivial ?_ ?_ ?_ ?_ ?_ <;> first | decide | (simp only [GA, ↓GB, List.filterMap_cons, eq_self, BEq.rfl, simprocAttr, GDs]; done))); intro os' s hR; obtain ⟨rfl, rfl⟩ := hR) | (refine Ctr.use (a1) hP ?_ [2,5] ?_ rfl rfl ?_; (focus (intro p hp; cases hp)); (focus (refine LeR.of rfl trivial ?_ ?_ ?_ ?_ ?_ <;> first | decide | (simp only [GA, ↓GB, List.filterMap_cons, eq_self, BEq.rfl, simprocAttr, GDs]; done))); intro os' s hR; obtain ⟨rfl, rfl⟩ := hR) | (refine Ctr.use (wflag_no [1, 8, 1] 2) hP ?_ [2,6] ?_ rfl rfl ?_; (focus (intro p hp; cases hp)); (focus (refine LeR.of rfl trivial ?_ ?_ ?_ ?_ ?_ <;> first | decide | (simp only [GA, ↓GB, List.filterMap_cons, eq_self, BEq.rfl, simprocAttr, GDs]; done))); intro os' s hR; obtain ⟨rfl, rfl⟩ := hR) | (refine Ctr.use (wnumberZero [1, 8, 1] 3) hP ?_ [2,6] ?_ rfl rfl ?_; (focus (intro p hp; cases hp)); (focus (refine LeR.of rfl trivial ?_ ?_ ?_ ?_ ?_ <;> first | decide | (simp only [GA, ↓GB, List.filterMap_cons, eq_self, BEq.rfl, simprocAttr, GDs]; done))); intro os' s hR; obtain ⟨rfl, rfl⟩ := hR) | (refine Ctr.use (a2) hP ?_ [2,6,0] ?_ rfl rfl ?_; (focus (intro p hp; cases hp)); (focus (refine LeR.of rfl trivial ?_ ?_ ?_ ?_ ?_ <;> first | decide | (simp only [GA, ↓GB, List.filterMap_cons, eq_self, BEq.rfl, simprocAttr, GDs]; done))); intro os' s hR; obtain ⟨rfl, rfl⟩ := hR) | (refine Ctr.use (wlist_nil [1, 8, 1, 34, 1, 42] 5) hP ?_ [2,7] ?_ rfl rfl ?_; (focus (intro p hp; cases hp)); (focus (refine LeR.of rfl trivial ?_ ?_ ?_ ?_ ?_ <;> first | decide | (simp only [GA, ↓GB, List.filterMap_cons, eq_self, BEq.rfl, simprocAttr, GDs]; done))); intro os' s hR; obtain ⟨rfl, rfl⟩ := hR) | (refine Ctr.use (string_ctr [1, 8, 1, 34, 1, 42] (by decide) (by decide)) hP ?_ [2,7] ?_ rfl rfl ?_; (focus (intro p hp; cases hp)); (focus (refine LeR.of rfl trivial ?_ ?_ ?_ ?_ ?_ <;> first | decide | (simp only [GA, ↓GB, List.filterMap_cons, eq_self, BEq.rfl, simprocAttr, GDs]; done))); intro os' s hR; obtain ⟨rfl, rfl⟩ := hR)); simp only [GA, ↓GB, List.filterMap_cons, eq_self, BEq.rfl, simprocAttr, hnt, hT, e1])
    | (refine SX.loopN 1 ?_)
    | (refine SXr.stepK ?_; intro N hN)
    | (refine SX.block ?_)
    | (refine and_mk ?_ ?_; (focus first | decide | omega | rfl | assumption | (simp only [List.length_append, List.length_cons, List.length_nil, B_size]; omega) | (simp; done)))
    | (refine And.intro ?_ ?_))
  all_goals (try refine Done.mk ?_)
  all_goals ((refine hN0 _ _ ⟨[0], _, _, ?_, ?_, ?_, ⟨rfl, rfl⟩⟩; (focus exact LeR.of rfl trivial (by simp only [GA, ↓GB, List.filterMap_cons, eq_self, BEq.rfl, simprocAttr, GDs]) (by decide) rfl rfl rfl); rotate_left; (focus rfl)); rfl)
end Go.Proofs.YtbdacbcpniegiaaDoor
namespace Go.Proofs.YtbdacbcpniegiaaDoor
open Go Go.RowKit Go.Proofs Go.Sx
set_option maxHeartbeats 16000000
set_option maxRecDepth 100000
set_option linter.unusedSimpArgs false
set_option linter.unusedVariables false
theorem ex_parse : NW.parse [8, 1, 34, 1, 42] = some [⟨1, 0, 1, []⟩, ⟨4, 2, 0, [42]⟩] := by
  have h1 : (⟨1, 0, 1, []⟩ : NW.Fld).Ok := ⟨by decide, by decide, .inl ⟨rfl, rfl, by decide⟩⟩
  have h2 : (⟨4, 2, 0, [42]⟩ : NW.Fld).Ok := ⟨by decide, by decide, .inr (.inr (.inl ⟨rfl, by decide, rfl⟩))⟩
  have := NW.parse_encs' [⟨1, 0, 1, []⟩, ⟨4, 2, 0, [42]⟩] (by intro f hf; simp at hf; rcases hf with rfl | rfl; exact h1; exact h2)
  have e : NW.encs [⟨1, 0, 1, []⟩, ⟨4, 2, 0, [42]⟩] = [8, 1, 34, 1, 42] := by simp [NW.encs, NW.Fld.enc, NW.varint_lt]
  rwa [e] at this
theorem ex_req : reqR [1, 8, 1, 34, 1, 42] = some ⟨1, 0, 0, [[42]], [], [], []⟩ := by
  have h : takeXB stepQ [8, 1, 34, 1, 42] .zero = (⟨1, 0, 0, [[42]], [], [], []⟩, true) := by
    rw [takeXB, ex_parse]; rfl
  have hk : kindL [1, 8, 1, 34, 1, 42] = 1 := rfl
  unfold reqR
  rw [if_pos hk, show ([1, 8, 1, 34, 1, 42] : List UInt8).drop 1 = [8, 1, 34, 1, 42] from rfl, h]
  exact if_pos ⟨rfl, rfl⟩
def pingB (n : Nat) : List UInt8 := 3 :: (if n = 0 then [] else numB 1 n)
theorem ping_ctr (n : Nat) (hn : n < 18446744073709551616) : Ctr Tryd.prog [] 21 [] [vv (.int .u64 n)] (fun os v => os = [] ∧ v = vv (.string (B (pingB n)))) := by
  refine Ctr.less ?_
  by_cases h0 : n = 0
  · subst h0
    rw [show pingB 0 = [3] from rfl]
    intro X0 hP0 hG0 N0 hN0
    refine CallVC.inline (f := 21) (by rw [hP0]; exact Tryd.func21) rfl Tryd.ntmps21 rfl (by simp) ?_
    intro X K hU hnt hbl hK
    have hP : X.P = Tryd.prog := by rw [hU.P, hP0]
    have hG := hG0.under hU
    have hT : zeroCells X.P 123 = some [(Value.pointer none), (Value.slice none 0 0)] ∧ fieldOff X.P 123 0 = some 0 ∧ calleeOk X.P 65 = true ∧ calleeOk X.P 66 = true ∧ calleeOk X.P 69 = true := by rw [hP]; exact ⟨Ty.ze123, Ty.fo123_0, Ty.co65, Ty.co66, Ty.co69⟩
    simp only [GA, ↓GB, List.filterMap_cons, eq_self, BEq.rfl, simprocAttr] at hbl ⊢
    repeat' (first
      | (refine SX.seqK ?_; intro N hN)
      | ((first | (refine SX.ops ?_)); simp only [GA, ↓GB, List.filterMap_cons, eq_self, BEq.rfl, simprocAttr, hnt, hT])
      | ((first | refine SX.skip ?_ | refine SX.exit ?_ | refine SX.label ?_); try simp only [GA, ↓GB, List.filterMap_cons, eq_self, BEq.rfl, simprocAttr])
      | (refine SX.cond rfl (fun hb => ?_) (fun hb => ?_) <;> ((first | cases hb | (simp only [decide_eq_true_eq, decide_eq_false_iff_not, beq_iff_eq, beq_eq_false_iff_ne, bne_iff_ne, Bool.and_eq_true, Bool.or_eq_true, Bool.not_eq_true', Bool.not_eq_false', Bool.and_eq_false_iff, Bool.or_eq_false_iff, Int.not_lt, Int.not_le] at hb) | skip) <;> (first | (exfalso; omega) | skip)))
      | (refine SX.ret ?_; try simp only [GA, ↓GB, List.filterMap_cons, eq_self, BEq.rfl, simprocAttr])
      | (refine hN _ ?_; clear hN N)
      | ((first | refine hK _ _ (FinI.ret3 ?_) | refine hK _ _ (FinI.nrm3 ?_)); simp only [GA, ↓GB, List.filterMap_cons, eq_self, BEq.rfl, simprocAttr, finP_s, hnt, hT]; refine Done.out ?_)
      | (clear hN N; first | (refine hN _ ?_; clear hN N) | (clear hN N; first | (refine hN _ ?_; clear hN N) | (clear hN N; first | (refine hN _ ?_; clear hN N) | (clear hN N; first | (refine hN _ ?_; clear hN N) | (clear hN N; first | (refine hN _ ?_; clear hN N) | (refine hN _ ?_; clear hN N))))))
      | (refine bif2.mk (fun hb => ?_) (fun hb => ?_) <;> (try simp only [hb, GA, ↓GB, List.filterMap_cons, eq_self, BEq.rfl, simprocAttr, hnt, hT]) <;> ((first | cases hb | (simp only [decide_eq_true_eq, decide_eq_false_iff_not, beq_iff_eq, beq_eq_false_iff_ne, bne_iff_ne, Bool.and_eq_true, Bool.or_eq_true, Bool.not_eq_true', Bool.not_eq_false', Bool.and_eq_false_iff, Bool.or_eq_false_iff, Int.not_lt, Int.not_le] at hb) | skip) <;> (first | (exfalso; omega) | skip)))
      | ((first | (refine Ctr.use (writeByte_ctr 3) hP ?_ [0] ?_ rfl rfl ?_; (focus (intro p hp; cases hp)); (focus (refine LeR.of rfl trivial ?_ ?_ ?_ ?_ ?_ <;> first | decide | (simp only [GA, ↓GB, List.filterMap_cons, eq_self, BEq.rfl, simprocAttr, GDs]; done))); intro os' s hR; obtain ⟨rfl, rfl⟩ := hR) | (refine Ctr.use (wnumberZero [3] 1) hP ?_ [0,3] ?_ rfl rfl ?_; (focus (intro p hp; cases hp)); (focus (refine LeR.of rfl trivial ?_ ?_ ?_ ?_ ?_ <;> first | decide | (simp only [GA, ↓GB, List.filterMap_cons, eq_self, BEq.rfl, simprocAttr, GDs]; done))); intro os' s hR; obtain ⟨rfl, rfl⟩ := hR) | (refine Ctr.use (string_ctr [3] (by decide) (by decide)) hP ?_ [0,3] ?_ rfl rfl ?_; (focus (intro p hp; cases hp)); (focus (refine LeR.of rfl trivial ?_ ?_ ?_ ?_ ?_ <;> first | decide | (simp only [GA, ↓GB, List.filterMap_cons, eq_self, BEq.rfl, simprocAttr, GDs]; done))); intro os' s hR; obtain ⟨rfl, rfl⟩ := hR)); simp only [GA, ↓GB, List.filterMap_cons, eq_self, BEq.rfl, simprocAttr, hnt, hT])
      | (refine SX.block ?_)
      | (refine and_mk ?_ ?_; (focus first | decide | omega | rfl | assumption | (simp only [List.length_append, List.length_cons, List.length_nil, B_size]; omega) | (simp; done)))
      | (refine And.intro ?_ ?_))
    all_goals (try refine Done.mk ?_)
    all_goals ((refine hN0 _ _ ⟨[], _, _, ?_, ?_, ?_, ⟨rfl, rfl⟩⟩; (focus exact LeR.of rfl trivial (by simp only [GA, ↓GB, List.filterMap_cons, eq_self, BEq.rfl, simprocAttr, GDs]) (by decide) rfl rfl rfl); rotate_left; (focus rfl)); rfl)
  · have hB : pingB n = [3] ++ numB 1 n := by rw [pingB, if_neg h0]; rfl
    have hL := numB_len 1 n (by decide) hn
    rw [hB]
    intro X0 hP0 hG0 N0 hN0
    refine CallVC.inline (f := 21) (by rw [hP0]; exact Tryd.func21) rfl Tryd.ntmps21 rfl (by simp) ?_
    intro X K hU hnt hbl hK
    have hP : X.P = Tryd.prog := by rw [hU.P, hP0]
    have hG := hG0.under hU
    have hT : zeroCells X.P 123 = some [(Value.pointer none), (Value.slice none 0 0)] ∧ fieldOff X.P 123 0 = some 0 ∧ calleeOk X.P 65 = true ∧ calleeOk X.P 66 = true ∧ calleeOk X.P 69 = true := by rw [hP]; exact ⟨Ty.ze123, Ty.fo123_0, Ty.co65, Ty.co66, Ty.co69⟩
    simp only [GA, ↓GB, List.filterMap_cons, eq_self, BEq.rfl, simprocAttr] at hbl ⊢
    repeat' (first
      | (refine SX.seqK ?_; intro N hN)
      | ((first | (refine SX.ops ?_)); simp only [GA, ↓GB, List.filterMap_cons, eq_self, BEq.rfl, simprocAttr, hnt, hT])
      | ((first | refine SX.skip ?_ | refine SX.exit ?_ | refine SX.label ?_); try simp only [GA, ↓GB, List.filterMap_cons, eq_self, BEq.rfl, simprocAttr])
      | (refine SX.cond rfl (fun hb => ?_) (fun hb => ?_) <;> ((first | cases hb | (simp only [decide_eq_true_eq, decide_eq_false_iff_not, beq_iff_eq, beq_eq_false_iff_ne, bne_iff_ne, Bool.and_eq_true, Bool.or_eq_true, Bool.not_eq_true', Bool.not_eq_false', Bool.and_eq_false_iff, Bool.or_eq_false_iff, Int.not_lt, Int.not_le] at hb) | skip) <;> (first | (exfalso; omega) | skip)))
      | (refine SX.ret ?_; try simp only [GA, ↓GB, List.filterMap_cons, eq_self, BEq.rfl, simprocAttr])
      | (refine hN _ ?_; clear hN N)
      | ((first | refine hK _ _ (FinI.ret3 ?_) | refine hK _ _ (FinI.nrm3 ?_)); simp only [GA, ↓GB, List.filterMap_cons, eq_self, BEq.rfl, simprocAttr, finP_s, hnt, hT]; refine Done.out ?_)
      | (clear hN N; first | (refine hN _ ?_; clear hN N) | (clear hN N; first | (refine hN _ ?_; clear hN N) | (clear hN N; first | (refine hN _ ?_; clear hN N) | (clear hN N; first | (refine hN _ ?_; clear hN N) | (clear hN N; first | (refine hN _ ?_; clear hN N) | (refine hN _ ?_; clear hN N))))))
      | (refine bif2.mk (fun hb => ?_) (fun hb => ?_) <;> (try simp only [hb, GA, ↓GB, List.filterMap_cons, eq_self, BEq.rfl, simprocAttr, hnt, hT]) <;> ((first | cases hb | (simp only [decide_eq_true_eq, decide_eq_false_iff_not, beq_iff_eq, beq_eq_false_iff_ne, bne_iff_ne, Bool.and_eq_true, Bool.or_eq_true, Bool.not_eq_true', Bool.not_eq_false', Bool.and_eq_false_iff, Bool.or_eq_false_iff, Int.not_lt, Int.not_le] at hb) | skip) <;> (first | (exfalso; omega) | skip)))
      | ((first | (refine Ctr.use (writeByte_ctr 3) hP ?_ [0] ?_ rfl rfl ?_; (focus (intro p hp; cases hp)); (focus (refine LeR.of rfl trivial ?_ ?_ ?_ ?_ ?_ <;> first | decide | (simp only [GA, ↓GB, List.filterMap_cons, eq_self, BEq.rfl, simprocAttr, GDs]; done))); intro os' s hR; obtain ⟨rfl, rfl⟩ := hR) | (refine Ctr.use (wnumber_ctr [3] 1 n (by decide) (by decide) (by omega) hn (by decide)) hP ?_ [0,3] ?_ rfl rfl ?_; (focus (intro p hp; cases hp)); (focus (refine LeR.of rfl trivial ?_ ?_ ?_ ?_ ?_ <;> first | decide | (simp only [GA, ↓GB, List.filterMap_cons, eq_self, BEq.rfl, simprocAttr, GDs]; done))); intro os' s hR; obtain ⟨rfl, rfl⟩ := hR) | (refine Ctr.use (string_ctr ([3] ++ numB 1 n) (by simp) (by simp; omega)) hP ?_ [0,4] ?_ rfl rfl ?_; (focus (intro p hp; cases hp)); (focus (refine LeR.of rfl trivial ?_ ?_ ?_ ?_ ?_ <;> first | decide | (simp only [GA, ↓GB, List.filterMap_cons, eq_self, BEq.rfl, simprocAttr, GDs]; done))); intro os' s hR; obtain ⟨rfl, rfl⟩ := hR)); simp only [GA, ↓GB, List.filterMap_cons, eq_self, BEq.rfl, simprocAttr, hnt, hT])
      | (refine SX.block ?_)
      | (refine and_mk ?_ ?_; (focus first | decide | omega | rfl | assumption | (simp only [List.length_append, List.length_cons, List.length_nil, B_size]; omega) | (simp; done)))
      | (refine And.intro ?_ ?_))
    all_goals (try refine Done.mk ?_)
    all_goals ((refine hN0 _ _ ⟨[], _, _, ?_, ?_, ?_, ⟨rfl, rfl⟩⟩; (focus exact LeR.of rfl trivial (by simp only [GA, ↓GB, List.filterMap_cons, eq_self, BEq.rfl, simprocAttr, GDs]) (by decide) rfl rfl rfl); rotate_left; (focus rfl)); rfl)
theorem numB15 : numB 1 5 = [8, 5] := by simp [numB, NW.varint_lt]
theorem ping5 : pingB 5 = [3, 8, 5] := by rw [pingB, if_neg (by decide), numB15]
theorem pingR5 : pingR [3, 8, 5] = some 5 := by
  have h1 : (⟨1, 0, 5, []⟩ : NW.Fld).Ok := ⟨by decide, by decide, .inl ⟨rfl, rfl, by decide⟩⟩
  have := NW.parse_encs' [⟨1, 0, 5, []⟩] (by intro f hf; simp at hf; subst hf; exact h1)
  have e : NW.encs [⟨1, 0, 5, []⟩] = [8, 5] := by simp [NW.encs, NW.Fld.enc, NW.varint_lt]
  rw [e] at this
  have hk : kindL [3, 8, 5] = 3 := rfl
  have h : takeR ([3, 8, 5].drop 1) 0 = (5, true) := by
    rw [show ([3, 8, 5] : List UInt8).drop 1 = [8, 5] from rfl, takeR, this]; rfl
  rw [pingR, if_pos hk, h]; rfl
@[irreducible] def SB05 : List UInt8 := statusBytes 1 [97] 1 true []
theorem putStatus05 (w : World) : Calls Tryd.prog 19 #[.agg #[.int .i64 1, .string (B [97]), .int .u64 1, .bool true, .string (B [])]] w fun e w' => e = .returned (.tuple #[.string (B SB05), .bool true]) ∧ Below w.heap.size w w' := by
  have h := putStatus_any 1 [97] 1 true [] (by decide) (by decide) w
  rw [show statusB 1 [97] ((1 : Nat) : Int) true [] = true from rfl] at h
  unfold SB05
  exact h
theorem kind05 (w : World) : Calls Tryd.prog 25 #[.string (B SB05)] w fun e w' => e = .returned (.int .i64 4) ∧ Below w.heap.size w w' := by
  have h := kind_any SB05 w
  rw [show kindL SB05 = 4 by unfold SB05; rfl] at h
  exact h
theorem kind00 (w : World) : Calls Tryd.prog 25 #[.string (B [])] w fun e w' => e = .returned (.int .i64 0) ∧ Below w.heap.size w w' := kind_any [] w
theorem ex05_ctr {e : EA} (he : e.Ok) : Ctr Tryd.prog (GE e) 17 [] [] (fun os v => os = [] ∧ v = vv (.bool true)) := by
  have hg := getReq_ctr he [1, 8, 1, 34, 1, 42] (by decide)
  rw [ex_req] at hg
  simp only [reqRO, reqRV] at hg
  have hp := getPing_ctr he [3, 8, 5] (by decide)
  rw [pingR5] at hp
  have h5 := ping_ctr 5 (by decide)
  rw [ping5] at h5
  refine Ctr.less ?_
  intro X0 hP0 hG0 N0 hN0
  refine CallVC.inline (f := 17) (by rw [hP0]; exact Tryd.func17) rfl Tryd.ntmps17 rfl (by simp) ?_
  intro X K hU hnt hbl hK
  have hP : X.P = Tryd.prog := by rw [hU.P, hP0]
  have hG := hG0.under hU
  have hT : elemSz X.P 38 = some (9, 1) ∧ zeroCells X.P 9 = some [(Value.string { data := #[] })] ∧ fieldsOf X.P 41 = some [(0, 1), (1, 1), (2, 1), (3, 1), (4, 1), (5, 1), (6, 1)] ∧ zeroCells X.P 41 = some [(Value.int IntKind.i64 0), (Value.bool false), (Value.int IntKind.u64 0), (Value.slice none 0 0), (Value.slice none 0 0), (Value.slice none 0 0), (Value.string { data := #[] })] ∧ calleeOk X.P 40 = true ∧ calleeOk X.P 24 = true ∧ szOf X.P 41 = some 7 ∧ calleeOk X.P 22 = true ∧ fieldsOf X.P 26 = some [(0, 1), (1, 1)] ∧ zeroCells X.P 26 = some [(Value.int IntKind.i64 0), (Value.string { data := #[] })] ∧ fieldsOf X.P 30 = some [(0, 2), (2, 1), (3, 1), (4, 1)] ∧ zeroCells X.P 30 = some [(Value.int IntKind.i64 0), (Value.string { data := #[] }), (Value.int IntKind.u64 0), (Value.bool false), (Value.string { data := #[] })] ∧ calleeOk X.P 19 = true ∧ fieldOff X.P 41 3 = some 3 ∧ aggOf X.P 38 = some false ∧ szOf X.P 38 = some 1 ∧ X.P.underlying 38 = some (TypeDesc.slice 9) ∧ calleeOk X.P 21 = true ∧ calleeOk X.P 25 = true := by rw [hP]; exact ⟨Ty.el38, Ty.ze9, Ty.fs41, Ty.ze41, Ty.co40, Ty.co24, Ty.sz41, Ty.co22, Ty.fs26, Ty.ze26, Ty.fs30, Ty.ze30, Ty.co19, Ty.fo41_3, Ty.ag38, Ty.sz38, Tryd.underlying38, Ty.co21, Ty.co25⟩
  simp only [GA, ↓GB, List.filterMap_cons, eq_self, BEq.rfl, simprocAttr] at hbl ⊢
  repeat' (first
    | (refine SX.seqK ?_; intro N hN)
    | ((first | (refine SX.ops ?_)); simp only [GA, ↓GB, List.filterMap_cons, eq_self, BEq.rfl, simprocAttr, hnt, hT])
    | ((first | refine SX.skip ?_ | refine SX.exit ?_ | refine SX.label ?_); try simp only [GA, ↓GB, List.filterMap_cons, eq_self, BEq.rfl, simprocAttr])
    | (refine SX.cond rfl (fun hb => ?_) (fun hb => ?_) <;> ((first | cases hb | (simp only [decide_eq_true_eq, decide_eq_false_iff_not, beq_iff_eq, beq_eq_false_iff_ne, bne_iff_ne, Bool.and_eq_true, Bool.or_eq_true, Bool.not_eq_true', Bool.not_eq_false', Bool.and_eq_false_iff, Bool.or_eq_false_iff, Int.not_lt, Int.not_le] at hb) | skip) <;> (first | (exfalso; omega) | skip)))
    | (refine SX.ret ?_; try simp only [GA, ↓GB, List.filterMap_cons, eq_self, BEq.rfl, simprocAttr])
    | (refine hN _ ?_; clear hN N)
    | ((first | refine hK _ _ (FinI.ret3 ?_) | refine hK _ _ (FinI.nrm3 ?_)); simp only [GA, ↓GB, List.filterMap_cons, eq_self, BEq.rfl, simprocAttr, finP_s, hnt, hT]; refine Done.out ?_)
    | (clear hN N; first | (refine hN _ ?_; clear hN N) | (clear hN N; first | (refine hN _ ?_; clear hN N) | (clear hN N; first | (refine hN _ ?_; clear hN N) | (clear hN N; first | (refine hN _ ?_; clear hN N) | (clear hN N; first | (refine hN _ ?_; clear hN N) | (refine hN _ ?_; clear hN N))))))
    | (refine bif2.mk (fun hb => ?_) (fun hb => ?_) <;> (try simp only [hb, GA, ↓GB, List.filterMap_cons, eq_self, BEq.rfl, simprocAttr, hnt, hT]) <;> ((first | cases hb | (simp only [decide_eq_true_eq, decide_eq_false_iff_not, beq_iff_eq, beq_eq_false_iff_ne, bne_iff_ne, Bool.and_eq_true, Bool.or_eq_true, Bool.not_eq_true', Bool.not_eq_false', Bool.and_eq_false_iff, Bool.or_eq_false_iff, Int.not_lt, Int.not_le] at hb) | skip) <;> (first | (exfalso; omega) | skip)))
    | ((first | (refine Ctr.use (putReqEx) hP ?_ [0] ?_ rfl rfl ?_; (focus (intro p hp; cases hp)); (focus (refine LeR.of rfl trivial ?_ ?_ ?_ ?_ ?_ <;> first | decide | (simp only [GA, ↓GB, List.filterMap_cons, eq_self, BEq.rfl, simprocAttr, GDs]; done))); intro os' s hR; obtain ⟨rfl, rfl⟩ := hR) | (refine Ctr.use (hg) hP hG [] ?_ rfl rfl ?_; (focus (refine LeR.of rfl trivial ?_ ?_ ?_ ?_ ?_ <;> first | decide | (simp only [GA, ↓GB, List.filterMap_cons, eq_self, BEq.rfl, simprocAttr, GDs]; done))); intro os' s hR; obtain ⟨rfl, rfl⟩ := hR) | (refine Ctr.use (putReqZero) hP ?_ [] ?_ rfl rfl ?_; (focus (intro p hp; cases hp)); (focus (refine LeR.of rfl trivial ?_ ?_ ?_ ?_ ?_ <;> first | decide | (simp only [GA, ↓GB, List.filterMap_cons, eq_self, BEq.rfl, simprocAttr, GDs]; done))); intro os' s hR; obtain ⟨rfl, rfl⟩ := hR) | (refine Ctr.use (hp) hP hG [] ?_ rfl rfl ?_; (focus (refine LeR.of rfl trivial ?_ ?_ ?_ ?_ ?_ <;> first | decide | (simp only [GA, ↓GB, List.filterMap_cons, eq_self, BEq.rfl, simprocAttr, GDs]; done))); intro os' s hR; obtain ⟨rfl, rfl⟩ := hR) | (refine Ctr.use (h5) hP ?_ [] ?_ rfl rfl ?_; (focus (intro p hp; cases hp)); (focus (refine LeR.of rfl trivial ?_ ?_ ?_ ?_ ?_ <;> first | decide | (simp only [GA, ↓GB, List.filterMap_cons, eq_self, BEq.rfl, simprocAttr, GDs]; done))); intro os' s hR; obtain ⟨rfl, rfl⟩ := hR) | (refine CallVC.pt (l := [_, _]) hP (putStatus05) rfl ?_) | (refine CallQ.pt (l := [_, _]) hP (putStatus05) rfl ?_) | (refine CallVC.pv hP (kind05) rfl ?_) | (refine CallQ.pv hP (kind05) rfl ?_) | (refine CallVC.pv hP (kind00) rfl ?_) | (refine CallQ.pv hP (kind00) rfl ?_)); simp only [GA, ↓GB, List.filterMap_cons, eq_self, BEq.rfl, simprocAttr, hnt, hT])
    | (refine SX.block ?_)
    | (refine and_mk ?_ ?_; (focus first | decide | omega | rfl | assumption | (simp only [List.length_append, List.length_cons, List.length_nil, B_size]; omega) | (simp; done)))
    | (refine And.intro ?_ ?_))
  all_goals (try refine Done.mk ?_)
  all_goals ((refine hN0 _ _ ⟨[], _, _, ?_, ?_, ?_, ⟨rfl, rfl⟩⟩; (focus exact LeR.of rfl trivial (by simp only [GA, ↓GB, List.filterMap_cons, eq_self, BEq.rfl, simprocAttr, GDs]) (by decide) rfl rfl rfl); rotate_left; (focus rfl)); rfl)
end Go.Proofs.YtbdacbcpniegiaaDoor
namespace Go.Proofs.YtbdacbcpniegiaaDoor
open Go Go.RowKit Go.Proofs Go.Sx
set_option maxHeartbeats 16000000
set_option maxRecDepth 100000
set_option linter.unusedSimpArgs false
set_option linter.unusedVariables false
theorem wB8 {x : Int} (h0 : 0 ≤ x) (h1 : x < 256) : IntKind.u8.wrap x = x := by
  simp [IntKind.wrap, IntKind.bits, IntKind.signed]
  omega
def sufL (n : Nat) : List UInt8 := if n = 0 then [] else if n = 1 then [49] else [47, 120]
def nameL (n : Nat) : List UInt8 := if n % 16 = 15 then [42] else UInt8.ofNat (97 + n % 12) :: sufL (n / 16 % 3)
def nmC (n : Nat) (c : UInt8) (k : Nat) (M : Nat → Bool) : Cfg :=
  ⟨[(16, bif M 10 then vv (.string (B (sufL k))) else ddd), (15, bif M 9 then .one (.c (.loc 1 k)) else ddd), (14, bif M 8 then vv (.int .u8 (k : Nat)) else ddd), (13, bif M 7 then vv (.int .u8 ((n : Int).tdiv 16)) else ddd), (12, bif M 6 then vv (.int .u8 n) else ddd), (11, bif M 5 then .one (.c (.sl 1 0 3 3)) else ddd), (10, bif M 4 then vv (.string (B [c])) else ddd), (9, bif M 3 then .one (.c (.sl 0 0 1 1)) else ddd), (8, bif M 2 then vv (.int .u8 (c.toNat : Nat)) else ddd), (7, bif M 1 then vv (.int .u8 ((n : Int).tmod 12)) else ddd), (6, bif M 0 then vv (.int .u8 n) else ddd), (5, vv (.bool false)), (4, vv (.int .u8 ((n : Int).tmod 16))), (3, vv (.int .u8 n)), (2, vv (.string (B []))), (0, vv (.int .u8 n))],
   [bif M 3 then .cells [.v (.int .u8 (c.toNat : Nat))] 5 else .gone, bif M 5 then .cells [.v (.string (B [])), .v (.string (B [49])), .v (.string (B [47, 120]))] 9 else .gone]⟩
theorem name_star (n : Nat) (hn : n < 256) (h : n % 16 = 15) : Ctr Tryd.prog [] 18 [] [vv (.int .u8 n)] (fun os v => os = [] ∧ v = vv (.string (B [42]))) := by
  have h16 : ((n : Int).tmod 16 == 15) = true := by rw [Int.tmod_eq_emod_of_nonneg (by omega)]; simp; omega
  refine Ctr.less ?_
  intro X0 hP0 hG0 N0 hN0
  refine CallVC.inline (f := 18) (by rw [hP0]; exact Tryd.func18) rfl Tryd.ntmps18 rfl (by simp) ?_
  intro X K hU hnt hbl hK
  have hP : X.P = Tryd.prog := by rw [hU.P, hP0]
  have hG := hG0.under hU
  have hT : elemSz X.P 58 = some (5, 1) ∧ zeroCells X.P 5 = some [(Value.int IntKind.u8 0)] ∧ X.P.underlying 58 = some (TypeDesc.slice 5) ∧ X.P.underlying 9 = some TypeDesc.string ∧ isBytesT X.P 58 = true ∧ isStrT X.P 9 = true ∧ elemSz X.P 38 = some (9, 1) ∧ zeroCells X.P 9 = some [(Value.string { data := #[] })] ∧ aggOf X.P 9 = some false ∧ szOf X.P 9 = some 1 := by rw [hP]; exact ⟨Ty.el58, Ty.ze5, Tryd.underlying58, Tryd.underlying9, Ty.ib58, Ty.is9, Ty.el38, Ty.ze9, Ty.ag9, Ty.sz9⟩
  simp only [GA, ↓GB, List.filterMap_cons, eq_self, BEq.rfl, simprocAttr] at hbl ⊢
  repeat' (first
    | (refine SX.seqK ?_; intro N hN)
    | ((first | (refine SX.ops ?_)); simp only [GA, ↓GB, List.filterMap_cons, eq_self, BEq.rfl, simprocAttr, hnt, hT, h16])
    | ((first | refine SX.skip ?_ | refine SX.exit ?_ | refine SX.label ?_); try simp only [GA, ↓GB, List.filterMap_cons, eq_self, BEq.rfl, simprocAttr])
    | (refine SX.cond rfl (fun hb => ?_) (fun hb => ?_) <;> ((first | cases hb | (simp only [decide_eq_true_eq, decide_eq_false_iff_not, beq_iff_eq, beq_eq_false_iff_ne, bne_iff_ne, Bool.and_eq_true, Bool.or_eq_true, Bool.not_eq_true', Bool.not_eq_false', Bool.and_eq_false_iff, Bool.or_eq_false_iff, Int.not_lt, Int.not_le] at hb) | skip) <;> (first | (exfalso; omega) | skip)))
    | (refine SX.ret ?_; try simp only [GA, ↓GB, List.filterMap_cons, eq_self, BEq.rfl, simprocAttr])
    | (refine hN _ ?_; clear hN N)
    | ((first | refine hK _ _ (FinI.ret3 ?_) | refine hK _ _ (FinI.nrm3 ?_)); simp only [GA, ↓GB, List.filterMap_cons, eq_self, BEq.rfl, simprocAttr, finP_s, hnt, hT, h16]; refine Done.out ?_)
    | (clear hN N; first | (refine hN _ ?_; clear hN N) | (clear hN N; first | (refine hN _ ?_; clear hN N) | (clear hN N; first | (refine hN _ ?_; clear hN N) | (clear hN N; first | (refine hN _ ?_; clear hN N) | (clear hN N; first | (refine hN _ ?_; clear hN N) | (refine hN _ ?_; clear hN N))))))
    | (refine bif2.mk (fun hb => ?_) (fun hb => ?_) <;> (try simp only [hb, GA, ↓GB, List.filterMap_cons, eq_self, BEq.rfl, simprocAttr, hnt, hT, h16]) <;> ((first | cases hb | (simp only [decide_eq_true_eq, decide_eq_false_iff_not, beq_iff_eq, beq_eq_false_iff_ne, bne_iff_ne, Bool.and_eq_true, Bool.or_eq_true, Bool.not_eq_true', Bool.not_eq_false', Bool.and_eq_false_iff, Bool.or_eq_false_iff, Int.not_lt, Int.not_le] at hb) | skip) <;> (first | (exfalso; omega) | skip)))
    | (refine SX.block ?_)
    | (refine and_mk ?_ ?_; (focus first | decide | omega | rfl | assumption | (simp only [List.length_append, List.length_cons, List.length_nil, B_size]; omega) | (simp; done)))
    | (refine And.intro ?_ ?_))
  all_goals (try refine Done.mk ?_)
  all_goals ((refine hN0 _ _ ⟨[], _, _, ?_, ?_, ?_, ⟨rfl, rfl⟩⟩; (focus exact LeR.of rfl trivial (by simp only [GA, ↓GB, List.filterMap_cons, eq_self, BEq.rfl, simprocAttr, GDs]) (by decide) rfl rfl rfl); rotate_left; (focus rfl)); rfl)
theorem name_0 (n : Nat) (hn : n < 256) (h : ¬ n % 16 = 15) (h3 : n / 16 % 3 = 0) : Ctr Tryd.prog [] 18 [] [vv (.int .u8 n)] (fun os v => os = [] ∧ v = vv (.string (B (UInt8.ofNat (97 + n % 12) :: sufL 0)))) := by
  have h16 : ((n : Int).tmod 16 == 15) = false := by rw [Int.tmod_eq_emod_of_nonneg (by omega)]; simp; omega
  obtain ⟨c, hcc⟩ : ∃ c, UInt8.ofNat (97 + n % 12) = c := ⟨_, rfl⟩
  have hc : IntKind.u8.wrap (97 + (n : Int).tmod 12) = (c.toNat : Int) := by
    rw [← hcc, Int.tmod_eq_emod_of_nonneg (by omega), UInt8.toNat_ofNat', wB8 (by omega) (by omega)]
    omega
  have hd16 : IntKind.u8.wrap ((n : Int).tdiv 16) = (n : Int).tdiv 16 := by
    exact wB8 (by rw [Int.tdiv_eq_ediv_of_nonneg (by omega)]; omega) (by rw [Int.tdiv_eq_ediv_of_nonneg (by omega)]; omega)
  have hk : ((n : Int).tdiv 16).tmod 3 = 0 := by
    rw [Int.tdiv_eq_ediv_of_nonneg (by omega), Int.tmod_eq_emod_of_nonneg (by omega)]
    omega
  rw [hcc]
  refine Ctr.less ?_
  intro X0 hP0 hG0 N0 hN0
  refine CallVC.inline (f := 18) (by rw [hP0]; exact Tryd.func18) rfl Tryd.ntmps18 rfl (by simp) ?_
  intro X K hU hnt hbl hK
  have hP : X.P = Tryd.prog := by rw [hU.P, hP0]
  have hG := hG0.under hU
  have hT : elemSz X.P 58 = some (5, 1) ∧ zeroCells X.P 5 = some [(Value.int IntKind.u8 0)] ∧ X.P.underlying 58 = some (TypeDesc.slice 5) ∧ X.P.underlying 9 = some TypeDesc.string ∧ isBytesT X.P 58 = true ∧ isStrT X.P 9 = true ∧ elemSz X.P 38 = some (9, 1) ∧ zeroCells X.P 9 = some [(Value.string { data := #[] })] ∧ aggOf X.P 9 = some false ∧ szOf X.P 9 = some 1 := by rw [hP]; exact ⟨Ty.el58, Ty.ze5, Tryd.underlying58, Tryd.underlying9, Ty.ib58, Ty.is9, Ty.el38, Ty.ze9, Ty.ag9, Ty.sz9⟩
  simp only [GA, ↓GB, List.filterMap_cons, eq_self, BEq.rfl, simprocAttr] at hbl ⊢
  repeat' (first
    | (refine SX.seqK ?_; intro N hN)
    | ((first | (refine SX.ops ?_)); simp only [GA, ↓GB, List.filterMap_cons, eq_self, BEq.rfl, simprocAttr, hnt, hT, h16, hc, hk, hd16])
    | ((first | refine SX.skip ?_ | refine SX.exit ?_ | refine SX.label ?_); try simp only [GA, ↓GB, List.filterMap_cons, eq_self, BEq.rfl, simprocAttr])
    | (refine SX.cond rfl (fun hb => ?_) (fun hb => ?_) <;> ((first | cases hb | (simp only [decide_eq_true_eq, decide_eq_false_iff_not, beq_iff_eq, beq_eq_false_iff_ne, bne_iff_ne, Bool.and_eq_true, Bool.or_eq_true, Bool.not_eq_true', Bool.not_eq_false', Bool.and_eq_false_iff, Bool.or_eq_false_iff, Int.not_lt, Int.not_le] at hb) | skip) <;> (first | (exfalso; omega) | skip)))
    | (refine SX.ret ?_; try simp only [GA, ↓GB, List.filterMap_cons, eq_self, BEq.rfl, simprocAttr])
    | (refine hN _ ?_; clear hN N)
    | ((first | refine hK _ _ (FinI.ret3 ?_) | refine hK _ _ (FinI.nrm3 ?_)); simp only [GA, ↓GB, List.filterMap_cons, eq_self, BEq.rfl, simprocAttr, finP_s, hnt, hT, h16, hc, hk, hd16]; refine Done.out ?_)
    | (clear hN N; first | (refine hN _ ?_; clear hN N) | (clear hN N; first | (refine hN _ ?_; clear hN N) | (clear hN N; first | (refine hN _ ?_; clear hN N) | (clear hN N; first | (refine hN _ ?_; clear hN N) | (clear hN N; first | (refine hN _ ?_; clear hN N) | (refine hN _ ?_; clear hN N))))))
    | (refine bif2.mk (fun hb => ?_) (fun hb => ?_) <;> (try simp only [hb, GA, ↓GB, List.filterMap_cons, eq_self, BEq.rfl, simprocAttr, hnt, hT, h16, hc, hk, hd16]) <;> ((first | cases hb | (simp only [decide_eq_true_eq, decide_eq_false_iff_not, beq_iff_eq, beq_eq_false_iff_ne, bne_iff_ne, Bool.and_eq_true, Bool.or_eq_true, Bool.not_eq_true', Bool.not_eq_false', Bool.and_eq_false_iff, Bool.or_eq_false_iff, Int.not_lt, Int.not_le] at hb) | skip) <;> (first | (exfalso; omega) | skip)))
    | (refine SX.block ?_)
    | (refine and_mk ?_ ?_; (focus first | decide | omega | rfl | assumption | (simp only [List.length_append, List.length_cons, List.length_nil, B_size]; omega) | (simp; done)))
    | (refine And.intro ?_ ?_))
  all_goals (try refine Done.mk ?_)
  refine SX.dia (id := 3) [0, 1, 2, 3, 4, 5, 6, 7, 8, 9, 10] (nmC n c 0) [.s 11, .s 12] (nmC n c 0 (fun _ => true)) ?_ ?_ ?_ ?_ rfl ?_
  · rw [hP]; kernel_rfl
  · kernel_rfl
  · refine Imp.trans (Imp.le [] (d := ⟨[(5, vv (.bool false)), (4, vv (.int .u8 ((n : Int).tmod 16))), (3, vv (.int .u8 n)), (2, vv (.string (B []))), (0, vv (.int .u8 n))], []⟩) (by (refine LeR.of ?_ ?_ ?_ ?_ ?_ ?_ ?_ <;> first | (rw [hbl]; decide) | decide | (simp only [GA, ↓GB, List.filterMap_cons, eq_self, BEq.rfl, simprocAttr, GDs]; done) | (simp only [GA, ↓GB, List.filterMap_cons, eq_self, BEq.rfl, simprocAttr, GDs]; rfl; done)))) ?_
    refine Imp.trans (Imp.dead (t := 6) (by rw [hnt]; decide)) ?_
    refine Imp.trans (Imp.dead (t := 7) (by rw [hnt]; decide)) ?_
    refine Imp.trans (Imp.dead (t := 8) (by rw [hnt]; decide)) ?_
    refine Imp.trans (Imp.dead (t := 9) (by rw [hnt]; decide)) ?_
    refine Imp.trans (Imp.dead (t := 10) (by rw [hnt]; decide)) ?_
    refine Imp.trans (Imp.dead (t := 11) (by rw [hnt]; decide)) ?_
    refine Imp.trans (Imp.dead (t := 12) (by rw [hnt]; decide)) ?_
    refine Imp.trans (Imp.dead (t := 13) (by rw [hnt]; decide)) ?_
    refine Imp.trans (Imp.dead (t := 14) (by rw [hnt]; decide)) ?_
    refine Imp.trans (Imp.dead (t := 15) (by rw [hnt]; decide)) ?_
    refine Imp.trans (Imp.dead (t := 16) (by rw [hnt]; decide)) ?_
    refine Imp.trans Imp.gone ?_
    refine Imp.trans Imp.gone ?_
    exact Imp.refl
  · rintro M i hi hd
    simp only [List.mem_cons, List.not_mem_nil, or_false] at hi
    rcases hi with rfl | rfl | rfl | rfl | rfl | rfl | rfl | rfl | rfl | rfl | rfl
    · have n1 : M 1 = false := dNot hd rfl (Array.mem_of_getElem? (i := 0) rfl) rfl hd.un
      have n2 : M 2 = false := dNot hd rfl (Array.mem_of_getElem? (i := 0) rfl) rfl n1
      have n3 : M 3 = false := dNot hd rfl (Array.mem_of_getElem? (i := 0) rfl) rfl n2
      have n4 : M 4 = false := dNot hd rfl (Array.mem_of_getElem? (i := 0) rfl) rfl n3
      have hun := hd.un
      refine ⟨_, rfl, rfl, ?_⟩
      simp only [nmC, upd, ↓reduceIte, Nat.reduceEqDiff, reduceCtorEq, hun, n1, n2, n3, n4, ren_cond, okB_cond, lren_cond, lokB_cond, map_cond, all_cond, Bool.cond_self, cond_true, cond_false, List.map_append, List.all_append, List.map_cons, List.map_nil, Bool.and_true, List.nil_append, List.cons_append, simprocAttr]
      refine vcOp_sound ?_
      simp only [GA, ↓GB, List.filterMap_cons, eq_self, BEq.rfl, simprocAttr, hnt, hT, hc, hk, hd16]
      repeat' (refine and_mk ?_ ?_; (focus first | decide | omega | rfl | assumption))
      all_goals (refine Imp.le [0, 1] ?_; (refine LeR.of ?_ ?_ ?_ ?_ ?_ ?_ ?_ <;> first | (rw [hbl]; decide) | decide | (simp only [hc, hd16, hk, sufL, GA, ↓GB, List.filterMap_cons, eq_self, BEq.rfl, simprocAttr, GDs, ren_cond, okB_cond, lren_cond, lokB_cond, map_cond, all_cond, Bool.cond_self, cond_true, cond_false, List.map_append, List.all_append, List.map_cons, List.map_nil, Bool.and_true]; done)))
    · have m0 : M 0 = true := hd.dep _ rfl _ (Array.mem_of_getElem? (i := 0) rfl) rfl
      have n2 : M 2 = false := dNot hd rfl (Array.mem_of_getElem? (i := 0) rfl) rfl hd.un
      have n3 : M 3 = false := dNot hd rfl (Array.mem_of_getElem? (i := 0) rfl) rfl n2
      have n4 : M 4 = false := dNot hd rfl (Array.mem_of_getElem? (i := 0) rfl) rfl n3
      have hun := hd.un
      refine ⟨_, rfl, rfl, ?_⟩
      simp only [nmC, upd, ↓reduceIte, Nat.reduceEqDiff, reduceCtorEq, hun, m0, n2, n3, n4, ren_cond, okB_cond, lren_cond, lokB_cond, map_cond, all_cond, Bool.cond_self, cond_true, cond_false, List.map_append, List.all_append, List.map_cons, List.map_nil, Bool.and_true, List.nil_append, List.cons_append, simprocAttr]
      refine vcOp_sound ?_
      simp only [GA, ↓GB, List.filterMap_cons, eq_self, BEq.rfl, simprocAttr, hnt, hT, hc, hk, hd16]
      repeat' (refine and_mk ?_ ?_; (focus first | decide | omega | rfl | assumption))
      all_goals (refine Imp.le [0, 1] ?_; (refine LeR.of ?_ ?_ ?_ ?_ ?_ ?_ ?_ <;> first | (rw [hbl]; decide) | decide | (simp only [hc, hd16, hk, sufL, GA, ↓GB, List.filterMap_cons, eq_self, BEq.rfl, simprocAttr, GDs, ren_cond, okB_cond, lren_cond, lokB_cond, map_cond, all_cond, Bool.cond_self, cond_true, cond_false, List.map_append, List.all_append, List.map_cons, List.map_nil, Bool.and_true]; done)))
    · have m1 : M 1 = true := hd.dep _ rfl _ (Array.mem_of_getElem? (i := 0) rfl) rfl
      have m0 : M 0 = true := hd.cl 1 _ rfl m1 _ (Array.mem_of_getElem? (i := 0) rfl) rfl
      have n3 : M 3 = false := dNot hd rfl (Array.mem_of_getElem? (i := 0) rfl) rfl hd.un
      have n4 : M 4 = false := dNot hd rfl (Array.mem_of_getElem? (i := 0) rfl) rfl n3
      have hun := hd.un
      refine ⟨_, rfl, rfl, ?_⟩
      simp only [nmC, upd, ↓reduceIte, Nat.reduceEqDiff, reduceCtorEq, hun, m1, m0, n3, n4, ren_cond, okB_cond, lren_cond, lokB_cond, map_cond, all_cond, Bool.cond_self, cond_true, cond_false, List.map_append, List.all_append, List.map_cons, List.map_nil, Bool.and_true, List.nil_append, List.cons_append, simprocAttr]
      refine vcOp_sound ?_
      simp only [GA, ↓GB, List.filterMap_cons, eq_self, BEq.rfl, simprocAttr, hnt, hT, hc, hk, hd16]
      repeat' (refine and_mk ?_ ?_; (focus first | decide | omega | rfl | assumption))
      all_goals (refine Imp.le [0, 1] ?_; (refine LeR.of ?_ ?_ ?_ ?_ ?_ ?_ ?_ <;> first | (rw [hbl]; decide) | decide | (simp only [hc, hd16, hk, sufL, GA, ↓GB, List.filterMap_cons, eq_self, BEq.rfl, simprocAttr, GDs, ren_cond, okB_cond, lren_cond, lokB_cond, map_cond, all_cond, Bool.cond_self, cond_true, cond_false, List.map_append, List.all_append, List.map_cons, List.map_nil, Bool.and_true]; done)))
    · have m2 : M 2 = true := hd.dep _ rfl _ (Array.mem_of_getElem? (i := 0) rfl) rfl
      have m1 : M 1 = true := hd.cl 2 _ rfl m2 _ (Array.mem_of_getElem? (i := 0) rfl) rfl
      have m0 : M 0 = true := hd.cl 1 _ rfl m1 _ (Array.mem_of_getElem? (i := 0) rfl) rfl
      have n4 : M 4 = false := dNot hd rfl (Array.mem_of_getElem? (i := 0) rfl) rfl hd.un
      have hun := hd.un
      refine ⟨_, rfl, rfl, ?_⟩
      simp only [nmC, upd, ↓reduceIte, Nat.reduceEqDiff, reduceCtorEq, hun, m2, m1, m0, n4, ren_cond, okB_cond, lren_cond, lokB_cond, map_cond, all_cond, Bool.cond_self, cond_true, cond_false, List.map_append, List.all_append, List.map_cons, List.map_nil, Bool.and_true, List.nil_append, List.cons_append, simprocAttr]
      refine vcOp_sound ?_
      simp only [GA, ↓GB, List.filterMap_cons, eq_self, BEq.rfl, simprocAttr, hnt, hT, hc, hk, hd16]
      repeat' (refine and_mk ?_ ?_; (focus first | decide | omega | rfl | assumption))
      all_goals (refine Imp.le [2, 1] ?_; (refine LeR.of ?_ ?_ ?_ ?_ ?_ ?_ ?_ <;> first | (rw [hbl]; decide) | decide | (simp only [hc, hd16, hk, sufL, GA, ↓GB, List.filterMap_cons, eq_self, BEq.rfl, simprocAttr, GDs, ren_cond, okB_cond, lren_cond, lokB_cond, map_cond, all_cond, Bool.cond_self, cond_true, cond_false, List.map_append, List.all_append, List.map_cons, List.map_nil, Bool.and_true]; done)))
    · have m3 : M 3 = true := hd.dep _ rfl _ (Array.mem_of_getElem? (i := 0) rfl) rfl
      have m2 : M 2 = true := hd.cl 3 _ rfl m3 _ (Array.mem_of_getElem? (i := 0) rfl) rfl
      have m1 : M 1 = true := hd.cl 2 _ rfl m2 _ (Array.mem_of_getElem? (i := 0) rfl) rfl
      have m0 : M 0 = true := hd.cl 1 _ rfl m1 _ (Array.mem_of_getElem? (i := 0) rfl) rfl
      have hun := hd.un
      refine ⟨_, rfl, rfl, ?_⟩
      simp only [nmC, upd, ↓reduceIte, Nat.reduceEqDiff, reduceCtorEq, hun, m3, m2, m1, m0, ren_cond, okB_cond, lren_cond, lokB_cond, map_cond, all_cond, Bool.cond_self, cond_true, cond_false, List.map_append, List.all_append, List.map_cons, List.map_nil, Bool.and_true, List.nil_append, List.cons_append, simprocAttr]
      refine VO.slString (e := 5) [c] rfl rfl rfl rfl (by rw [hP]; kernel_rfl) (by rw [hP]; kernel_rfl) (by rw [hP]; kernel_rfl) ?_
      simp only [GA, ↓GB, List.filterMap_cons, eq_self, BEq.rfl, simprocAttr, hnt, hT, hc, hk, hd16]
      refine Imp.le [0, 1] ?_
      refine LeR.of ?_ ?_ ?_ ?_ ?_ ?_ ?_ <;> first | (rw [hbl]; decide) | decide | (simp only [hc, hd16, hk, sufL, GA, ↓GB, List.filterMap_cons, eq_self, BEq.rfl, simprocAttr, GDs, ren_cond, okB_cond, lren_cond, lokB_cond, map_cond, all_cond, Bool.cond_self, cond_true, cond_false, List.map_append, List.all_append, List.map_cons, List.map_nil, Bool.and_true]; done)
    · have n9 : M 9 = false := dNot hd rfl (Array.mem_of_getElem? (i := 0) rfl) rfl hd.un
      have n10 : M 10 = false := dNot hd rfl (Array.mem_of_getElem? (i := 0) rfl) rfl n9
      have hun := hd.un
      refine ⟨_, rfl, rfl, ?_⟩
      simp only [nmC, upd, ↓reduceIte, Nat.reduceEqDiff, reduceCtorEq, hun, n9, n10, ren_cond, okB_cond, lren_cond, lokB_cond, map_cond, all_cond, Bool.cond_self, cond_true, cond_false, List.map_append, List.all_append, List.map_cons, List.map_nil, Bool.and_true, List.nil_append, List.cons_append, simprocAttr]
      refine vcOp_sound ?_
      simp only [GA, ↓GB, List.filterMap_cons, eq_self, BEq.rfl, simprocAttr, hnt, hT, hc, hk, hd16]
      repeat' (refine and_mk ?_ ?_; (focus first | decide | omega | rfl | assumption))
      all_goals (refine Imp.le [0, 2] ?_; (refine LeR.of ?_ ?_ ?_ ?_ ?_ ?_ ?_ <;> first | (rw [hbl]; decide) | decide | (simp only [hc, hd16, hk, sufL, GA, ↓GB, List.filterMap_cons, eq_self, BEq.rfl, simprocAttr, GDs, ren_cond, okB_cond, lren_cond, lokB_cond, map_cond, all_cond, Bool.cond_self, cond_true, cond_false, List.map_append, List.all_append, List.map_cons, List.map_nil, Bool.and_true]; done)))
    · have n7 : M 7 = false := dNot hd rfl (Array.mem_of_getElem? (i := 0) rfl) rfl hd.un
      have n8 : M 8 = false := dNot hd rfl (Array.mem_of_getElem? (i := 0) rfl) rfl n7
      have n9 : M 9 = false := dNot hd rfl (Array.mem_of_getElem? (i := 1) rfl) rfl n8
      have n10 : M 10 = false := dNot hd rfl (Array.mem_of_getElem? (i := 0) rfl) rfl n9
      have hun := hd.un
      refine ⟨_, rfl, rfl, ?_⟩
      simp only [nmC, upd, ↓reduceIte, Nat.reduceEqDiff, reduceCtorEq, hun, n7, n8, n9, n10, ren_cond, okB_cond, lren_cond, lokB_cond, map_cond, all_cond, Bool.cond_self, cond_true, cond_false, List.map_append, List.all_append, List.map_cons, List.map_nil, Bool.and_true, List.nil_append, List.cons_append, simprocAttr]
      refine vcOp_sound ?_
      simp only [GA, ↓GB, List.filterMap_cons, eq_self, BEq.rfl, simprocAttr, hnt, hT, hc, hk, hd16]
      repeat' (refine and_mk ?_ ?_; (focus first | decide | omega | rfl | assumption))
      all_goals (refine Imp.le [0, 1] ?_; (refine LeR.of ?_ ?_ ?_ ?_ ?_ ?_ ?_ <;> first | (rw [hbl]; decide) | decide | (simp only [hc, hd16, hk, sufL, GA, ↓GB, List.filterMap_cons, eq_self, BEq.rfl, simprocAttr, GDs, ren_cond, okB_cond, lren_cond, lokB_cond, map_cond, all_cond, Bool.cond_self, cond_true, cond_false, List.map_append, List.all_append, List.map_cons, List.map_nil, Bool.and_true]; done)))
    · have m6 : M 6 = true := hd.dep _ rfl _ (Array.mem_of_getElem? (i := 0) rfl) rfl
      have n8 : M 8 = false := dNot hd rfl (Array.mem_of_getElem? (i := 0) rfl) rfl hd.un
      have n9 : M 9 = false := dNot hd rfl (Array.mem_of_getElem? (i := 1) rfl) rfl n8
      have n10 : M 10 = false := dNot hd rfl (Array.mem_of_getElem? (i := 0) rfl) rfl n9
      have hun := hd.un
      refine ⟨_, rfl, rfl, ?_⟩
      simp only [nmC, upd, ↓reduceIte, Nat.reduceEqDiff, reduceCtorEq, hun, m6, n8, n9, n10, ren_cond, okB_cond, lren_cond, lokB_cond, map_cond, all_cond, Bool.cond_self, cond_true, cond_false, List.map_append, List.all_append, List.map_cons, List.map_nil, Bool.and_true, List.nil_append, List.cons_append, simprocAttr]
      refine vcOp_sound ?_
      simp only [GA, ↓GB, List.filterMap_cons, eq_self, BEq.rfl, simprocAttr, hnt, hT, hc, hk, hd16]
      repeat' (refine and_mk ?_ ?_; (focus first | decide | omega | rfl | assumption))
      all_goals (refine Imp.le [0, 1] ?_; (refine LeR.of ?_ ?_ ?_ ?_ ?_ ?_ ?_ <;> first | (rw [hbl]; decide) | decide | (simp only [hc, hd16, hk, sufL, GA, ↓GB, List.filterMap_cons, eq_self, BEq.rfl, simprocAttr, GDs, ren_cond, okB_cond, lren_cond, lokB_cond, map_cond, all_cond, Bool.cond_self, cond_true, cond_false, List.map_append, List.all_append, List.map_cons, List.map_nil, Bool.and_true]; done)))
    · have m7 : M 7 = true := hd.dep _ rfl _ (Array.mem_of_getElem? (i := 0) rfl) rfl
      have m6 : M 6 = true := hd.cl 7 _ rfl m7 _ (Array.mem_of_getElem? (i := 0) rfl) rfl
      have n9 : M 9 = false := dNot hd rfl (Array.mem_of_getElem? (i := 1) rfl) rfl hd.un
      have n10 : M 10 = false := dNot hd rfl (Array.mem_of_getElem? (i := 0) rfl) rfl n9
      have hun := hd.un
      refine ⟨_, rfl, rfl, ?_⟩
      simp only [nmC, upd, ↓reduceIte, Nat.reduceEqDiff, reduceCtorEq, hun, m7, m6, n9, n10, ren_cond, okB_cond, lren_cond, lokB_cond, map_cond, all_cond, Bool.cond_self, cond_true, cond_false, List.map_append, List.all_append, List.map_cons, List.map_nil, Bool.and_true, List.nil_append, List.cons_append, simprocAttr]
      refine vcOp_sound ?_
      simp only [GA, ↓GB, List.filterMap_cons, eq_self, BEq.rfl, simprocAttr, hnt, hT, hc, hk, hd16]
      repeat' (refine and_mk ?_ ?_; (focus first | decide | omega | rfl | assumption))
      all_goals (refine Imp.le [0, 1] ?_; (refine LeR.of ?_ ?_ ?_ ?_ ?_ ?_ ?_ <;> first | (rw [hbl]; decide) | decide | (simp only [hc, hd16, hk, sufL, GA, ↓GB, List.filterMap_cons, eq_self, BEq.rfl, simprocAttr, GDs, ren_cond, okB_cond, lren_cond, lokB_cond, map_cond, all_cond, Bool.cond_self, cond_true, cond_false, List.map_append, List.all_append, List.map_cons, List.map_nil, Bool.and_true]; done)))
    · have m5 : M 5 = true := hd.dep _ rfl _ (Array.mem_of_getElem? (i := 0) rfl) rfl
      have m8 : M 8 = true := hd.dep _ rfl _ (Array.mem_of_getElem? (i := 1) rfl) rfl
      have m7 : M 7 = true := hd.cl 8 _ rfl m8 _ (Array.mem_of_getElem? (i := 0) rfl) rfl
      have m6 : M 6 = true := hd.cl 7 _ rfl m7 _ (Array.mem_of_getElem? (i := 0) rfl) rfl
      have n10 : M 10 = false := dNot hd rfl (Array.mem_of_getElem? (i := 0) rfl) rfl hd.un
      have hun := hd.un
      refine ⟨_, rfl, rfl, ?_⟩
      simp only [nmC, upd, ↓reduceIte, Nat.reduceEqDiff, reduceCtorEq, hun, m5, m8, m7, m6, n10, ren_cond, okB_cond, lren_cond, lokB_cond, map_cond, all_cond, Bool.cond_self, cond_true, cond_false, List.map_append, List.all_append, List.map_cons, List.map_nil, Bool.and_true, List.nil_append, List.cons_append, simprocAttr]
      refine vcOp_sound ?_
      simp only [GA, ↓GB, List.filterMap_cons, eq_self, BEq.rfl, simprocAttr, hnt, hT, hc, hk, hd16]
      repeat' (refine and_mk ?_ ?_; (focus first | decide | omega | rfl | assumption))
      all_goals (refine Imp.le [0, 1] ?_; (refine LeR.of ?_ ?_ ?_ ?_ ?_ ?_ ?_ <;> first | (rw [hbl]; decide) | decide | (simp only [hc, hd16, hk, sufL, GA, ↓GB, List.filterMap_cons, eq_self, BEq.rfl, simprocAttr, GDs, ren_cond, okB_cond, lren_cond, lokB_cond, map_cond, all_cond, Bool.cond_self, cond_true, cond_false, List.map_append, List.all_append, List.map_cons, List.map_nil, Bool.and_true]; done)))
    · have m9 : M 9 = true := hd.dep _ rfl _ (Array.mem_of_getElem? (i := 0) rfl) rfl
      have m5 : M 5 = true := hd.cl 9 _ rfl m9 _ (Array.mem_of_getElem? (i := 0) rfl) rfl
      have m8 : M 8 = true := hd.cl 9 _ rfl m9 _ (Array.mem_of_getElem? (i := 1) rfl) rfl
      have m7 : M 7 = true := hd.cl 8 _ rfl m8 _ (Array.mem_of_getElem? (i := 0) rfl) rfl
      have m6 : M 6 = true := hd.cl 7 _ rfl m7 _ (Array.mem_of_getElem? (i := 0) rfl) rfl
      have hun := hd.un
      refine ⟨_, rfl, rfl, ?_⟩
      simp only [nmC, upd, ↓reduceIte, Nat.reduceEqDiff, reduceCtorEq, hun, m9, m5, m8, m7, m6, ren_cond, okB_cond, lren_cond, lokB_cond, map_cond, all_cond, Bool.cond_self, cond_true, cond_false, List.map_append, List.all_append, List.map_cons, List.map_nil, Bool.and_true, List.nil_append, List.cons_append, simprocAttr]
      refine vcOp_sound ?_
      simp only [GA, ↓GB, List.filterMap_cons, eq_self, BEq.rfl, simprocAttr, hnt, hT, hc, hk, hd16]
      repeat' (refine and_mk ?_ ?_; (focus first | decide | omega | rfl | assumption))
      all_goals (refine Imp.le [0, 1] ?_; (refine LeR.of ?_ ?_ ?_ ?_ ?_ ?_ ?_ <;> first | (rw [hbl]; decide) | decide | (simp only [hc, hd16, hk, sufL, GA, ↓GB, List.filterMap_cons, eq_self, BEq.rfl, simprocAttr, GDs, ren_cond, okB_cond, lren_cond, lokB_cond, map_cond, all_cond, Bool.cond_self, cond_true, cond_false, List.map_append, List.all_append, List.map_cons, List.map_nil, Bool.and_true]; done)))
  simp only [nmC, cond_true, GA, ↓GB, List.filterMap_cons, eq_self, BEq.rfl, simprocAttr, hnt, hT]
  repeat' (first
    | (refine SX.seqK ?_; intro N hN)
    | ((first | (refine SX.ops ?_)); simp only [GA, ↓GB, List.filterMap_cons, eq_self, BEq.rfl, simprocAttr, hnt, hT, hc, hk, hd16])
    | ((first | refine SX.skip ?_ | refine SX.exit ?_ | refine SX.label ?_); try simp only [GA, ↓GB, List.filterMap_cons, eq_self, BEq.rfl, simprocAttr])
    | (refine SX.cond rfl (fun hb => ?_) (fun hb => ?_) <;> ((first | cases hb | (simp only [decide_eq_true_eq, decide_eq_false_iff_not, beq_iff_eq, beq_eq_false_iff_ne, bne_iff_ne, Bool.and_eq_true, Bool.or_eq_true, Bool.not_eq_true', Bool.not_eq_false', Bool.and_eq_false_iff, Bool.or_eq_false_iff, Int.not_lt, Int.not_le] at hb) | skip) <;> (first | (exfalso; omega) | skip)))
    | (refine SX.ret ?_; try simp only [GA, ↓GB, List.filterMap_cons, eq_self, BEq.rfl, simprocAttr])
    | (refine hN _ ?_; clear hN N)
    | ((first | refine hK _ _ (FinI.ret3 ?_) | refine hK _ _ (FinI.nrm3 ?_)); simp only [GA, ↓GB, List.filterMap_cons, eq_self, BEq.rfl, simprocAttr, finP_s, hnt, hT, hc, hk, hd16]; refine Done.out ?_)
    | (clear hN N; first | (refine hN _ ?_; clear hN N) | (clear hN N; first | (refine hN _ ?_; clear hN N) | (clear hN N; first | (refine hN _ ?_; clear hN N) | (clear hN N; first | (refine hN _ ?_; clear hN N) | (clear hN N; first | (refine hN _ ?_; clear hN N) | (refine hN _ ?_; clear hN N))))))
    | (refine bif2.mk (fun hb => ?_) (fun hb => ?_) <;> (try simp only [hb, GA, ↓GB, List.filterMap_cons, eq_self, BEq.rfl, simprocAttr, hnt, hT, hc, hk, hd16]) <;> ((first | cases hb | (simp only [decide_eq_true_eq, decide_eq_false_iff_not, beq_iff_eq, beq_eq_false_iff_ne, bne_iff_ne, Bool.and_eq_true, Bool.or_eq_true, Bool.not_eq_true', Bool.not_eq_false', Bool.and_eq_false_iff, Bool.or_eq_false_iff, Int.not_lt, Int.not_le] at hb) | skip) <;> (first | (exfalso; omega) | skip)))
    | (refine SX.block ?_)
    | (refine and_mk ?_ ?_; (focus first | decide | omega | rfl | assumption | (simp only [List.length_append, List.length_cons, List.length_nil, B_size]; omega) | (simp; done)))
    | (refine And.intro ?_ ?_))
  all_goals (try refine Done.mk ?_)
  all_goals ((refine hN0 _ _ ⟨[], _, _, ?_, ?_, ?_, ⟨rfl, rfl⟩⟩; (focus exact LeR.of rfl trivial (by simp only [GA, ↓GB, List.filterMap_cons, eq_self, BEq.rfl, simprocAttr, GDs]) (by decide) rfl rfl rfl); rotate_left; (focus rfl)); rfl)
theorem name_1 (n : Nat) (hn : n < 256) (h : ¬ n % 16 = 15) (h3 : n / 16 % 3 = 1) : Ctr Tryd.prog [] 18 [] [vv (.int .u8 n)] (fun os v => os = [] ∧ v = vv (.string (B (UInt8.ofNat (97 + n % 12) :: sufL 1)))) := by
  have h16 : ((n : Int).tmod 16 == 15) = false := by rw [Int.tmod_eq_emod_of_nonneg (by omega)]; simp; omega
  obtain ⟨c, hcc⟩ : ∃ c, UInt8.ofNat (97 + n % 12) = c := ⟨_, rfl⟩
  have hc : IntKind.u8.wrap (97 + (n : Int).tmod 12) = (c.toNat : Int) := by
    rw [← hcc, Int.tmod_eq_emod_of_nonneg (by omega), UInt8.toNat_ofNat', wB8 (by omega) (by omega)]
    omega
  have hd16 : IntKind.u8.wrap ((n : Int).tdiv 16) = (n : Int).tdiv 16 := by
    exact wB8 (by rw [Int.tdiv_eq_ediv_of_nonneg (by omega)]; omega) (by rw [Int.tdiv_eq_ediv_of_nonneg (by omega)]; omega)
  have hk : ((n : Int).tdiv 16).tmod 3 = 1 := by
    rw [Int.tdiv_eq_ediv_of_nonneg (by omega), Int.tmod_eq_emod_of_nonneg (by omega)]
    omega
  rw [hcc]
  refine Ctr.less ?_
  intro X0 hP0 hG0 N0 hN0
  refine CallVC.inline (f := 18) (by rw [hP0]; exact Tryd.func18) rfl Tryd.ntmps18 rfl (by simp) ?_
  intro X K hU hnt hbl hK
  have hP : X.P = Tryd.prog := by rw [hU.P, hP0]
  have hG := hG0.under hU
  have hT : elemSz X.P 58 = some (5, 1) ∧ zeroCells X.P 5 = some [(Value.int IntKind.u8 0)] ∧ X.P.underlying 58 = some (TypeDesc.slice 5) ∧ X.P.underlying 9 = some TypeDesc.string ∧ isBytesT X.P 58 = true ∧ isStrT X.P 9 = true ∧ elemSz X.P 38 = some (9, 1) ∧ zeroCells X.P 9 = some [(Value.string { data := #[] })] ∧ aggOf X.P 9 = some false ∧ szOf X.P 9 = some 1 := by rw [hP]; exact ⟨Ty.el58, Ty.ze5, Tryd.underlying58, Tryd.underlying9, Ty.ib58, Ty.is9, Ty.el38, Ty.ze9, Ty.ag9, Ty.sz9⟩
  simp only [GA, ↓GB, List.filterMap_cons, eq_self, BEq.rfl, simprocAttr] at hbl ⊢
  repeat' (first
    | (refine SX.seqK ?_; intro N hN)
    | ((first | (refine SX.ops ?_)); simp only [GA, ↓GB, List.filterMap_cons, eq_self, BEq.rfl, simprocAttr, hnt, hT, h16, hc, hk, hd16])
    | ((first | refine SX.skip ?_ | refine SX.exit ?_ | refine SX.label ?_); try simp only [GA, ↓GB, List.filterMap_cons, eq_self, BEq.rfl, simprocAttr])
    | (refine SX.cond rfl (fun hb => ?_) (fun hb => ?_) <;> ((first | cases hb | (simp only [decide_eq_true_eq, decide_eq_false_iff_not, beq_iff_eq, beq_eq_false_iff_ne, bne_iff_ne, Bool.and_eq_true, Bool.or_eq_true, Bool.not_eq_true', Bool.not_eq_false', Bool.and_eq_false_iff, Bool.or_eq_false_iff, Int.not_lt, Int.not_le] at hb) | skip) <;> (first | (exfalso; omega) | skip)))
    | (refine SX.ret ?_; try simp only [GA, ↓GB, List.filterMap_cons, eq_self, BEq.rfl, simprocAttr])
    | (refine hN _ ?_; clear hN N)
    | ((first | refine hK _ _ (FinI.ret3 ?_) | refine hK _ _ (FinI.nrm3 ?_)); simp only [GA, ↓GB, List.filterMap_cons, eq_self, BEq.rfl, simprocAttr, finP_s, hnt, hT, h16, hc, hk, hd16]; refine Done.out ?_)
    | (clear hN N; first | (refine hN _ ?_; clear hN N) | (clear hN N; first | (refine hN _ ?_; clear hN N) | (clear hN N; first | (refine hN _ ?_; clear hN N) | (clear hN N; first | (refine hN _ ?_; clear hN N) | (clear hN N; first | (refine hN _ ?_; clear hN N) | (refine hN _ ?_; clear hN N))))))
    | (refine bif2.mk (fun hb => ?_) (fun hb => ?_) <;> (try simp only [hb, GA, ↓GB, List.filterMap_cons, eq_self, BEq.rfl, simprocAttr, hnt, hT, h16, hc, hk, hd16]) <;> ((first | cases hb | (simp only [decide_eq_true_eq, decide_eq_false_iff_not, beq_iff_eq, beq_eq_false_iff_ne, bne_iff_ne, Bool.and_eq_true, Bool.or_eq_true, Bool.not_eq_true', Bool.not_eq_false', Bool.and_eq_false_iff, Bool.or_eq_false_iff, Int.not_lt, Int.not_le] at hb) | skip) <;> (first | (exfalso; omega) | skip)))
    | (refine SX.block ?_)
    | (refine and_mk ?_ ?_; (focus first | decide | omega | rfl | assumption | (simp only [List.length_append, List.length_cons, List.length_nil, B_size]; omega) | (simp; done)))
    | (refine And.intro ?_ ?_))
  all_goals (try refine Done.mk ?_)
  refine SX.dia (id := 3) [0, 1, 2, 3, 4, 5, 6, 7, 8, 9, 10] (nmC n c 1) [.s 11, .s 12] (nmC n c 1 (fun _ => true)) ?_ ?_ ?_ ?_ rfl ?_
  · rw [hP]; kernel_rfl
  · kernel_rfl
  · refine Imp.trans (Imp.le [] (d := ⟨[(5, vv (.bool false)), (4, vv (.int .u8 ((n : Int).tmod 16))), (3, vv (.int .u8 n)), (2, vv (.string (B []))), (0, vv (.int .u8 n))], []⟩) (by (refine LeR.of ?_ ?_ ?_ ?_ ?_ ?_ ?_ <;> first | (rw [hbl]; decide) | decide | (simp only [GA, ↓GB, List.filterMap_cons, eq_self, BEq.rfl, simprocAttr, GDs]; done) | (simp only [GA, ↓GB, List.filterMap_cons, eq_self, BEq.rfl, simprocAttr, GDs]; rfl; done)))) ?_
    refine Imp.trans (Imp.dead (t := 6) (by rw [hnt]; decide)) ?_
    refine Imp.trans (Imp.dead (t := 7) (by rw [hnt]; decide)) ?_
    refine Imp.trans (Imp.dead (t := 8) (by rw [hnt]; decide)) ?_
    refine Imp.trans (Imp.dead (t := 9) (by rw [hnt]; decide)) ?_
    refine Imp.trans (Imp.dead (t := 10) (by rw [hnt]; decide)) ?_
    refine Imp.trans (Imp.dead (t := 11) (by rw [hnt]; decide)) ?_
    refine Imp.trans (Imp.dead (t := 12) (by rw [hnt]; decide)) ?_
    refine Imp.trans (Imp.dead (t := 13) (by rw [hnt]; decide)) ?_
    refine Imp.trans (Imp.dead (t := 14) (by rw [hnt]; decide)) ?_
    refine Imp.trans (Imp.dead (t := 15) (by rw [hnt]; decide)) ?_
    refine Imp.trans (Imp.dead (t := 16) (by rw [hnt]; decide)) ?_
    refine Imp.trans Imp.gone ?_
    refine Imp.trans Imp.gone ?_
    exact Imp.refl
  · rintro M i hi hd
    simp only [List.mem_cons, List.not_mem_nil, or_false] at hi
    rcases hi with rfl | rfl | rfl | rfl | rfl | rfl | rfl | rfl | rfl | rfl | rfl
    · have n1 : M 1 = false := dNot hd rfl (Array.mem_of_getElem? (i := 0) rfl) rfl hd.un
      have n2 : M 2 = false := dNot hd rfl (Array.mem_of_getElem? (i := 0) rfl) rfl n1
      have n3 : M 3 = false := dNot hd rfl (Array.mem_of_getElem? (i := 0) rfl) rfl n2
      have n4 : M 4 = false := dNot hd rfl (Array.mem_of_getElem? (i := 0) rfl) rfl n3
      have hun := hd.un
      refine ⟨_, rfl, rfl, ?_⟩
      simp only [nmC, upd, ↓reduceIte, Nat.reduceEqDiff, reduceCtorEq, hun, n1, n2, n3, n4, ren_cond, okB_cond, lren_cond, lokB_cond, map_cond, all_cond, Bool.cond_self, cond_true, cond_false, List.map_append, List.all_append, List.map_cons, List.map_nil, Bool.and_true, List.nil_append, List.cons_append, simprocAttr]
      refine vcOp_sound ?_
      simp only [GA, ↓GB, List.filterMap_cons, eq_self, BEq.rfl, simprocAttr, hnt, hT, hc, hk, hd16]
      repeat' (refine and_mk ?_ ?_; (focus first | decide | omega | rfl | assumption))
      all_goals (refine Imp.le [0, 1] ?_; (refine LeR.of ?_ ?_ ?_ ?_ ?_ ?_ ?_ <;> first | (rw [hbl]; decide) | decide | (simp only [hc, hd16, hk, sufL, GA, ↓GB, List.filterMap_cons, eq_self, BEq.rfl, simprocAttr, GDs, ren_cond, okB_cond, lren_cond, lokB_cond, map_cond, all_cond, Bool.cond_self, cond_true, cond_false, List.map_append, List.all_append, List.map_cons, List.map_nil, Bool.and_true]; done)))
    · have m0 : M 0 = true := hd.dep _ rfl _ (Array.mem_of_getElem? (i := 0) rfl) rfl
      have n2 : M 2 = false := dNot hd rfl (Array.mem_of_getElem? (i := 0) rfl) rfl hd.un
      have n3 : M 3 = false := dNot hd rfl (Array.mem_of_getElem? (i := 0) rfl) rfl n2
      have n4 : M 4 = false := dNot hd rfl (Array.mem_of_getElem? (i := 0) rfl) rfl n3
      have hun := hd.un
      refine ⟨_, rfl, rfl, ?_⟩
      simp only [nmC, upd, ↓reduceIte, Nat.reduceEqDiff, reduceCtorEq, hun, m0, n2, n3, n4, ren_cond, okB_cond, lren_cond, lokB_cond, map_cond, all_cond, Bool.cond_self, cond_true, cond_false, List.map_append, List.all_append, List.map_cons, List.map_nil, Bool.and_true, List.nil_append, List.cons_append, simprocAttr]
      refine vcOp_sound ?_
      simp only [GA, ↓GB, List.filterMap_cons, eq_self, BEq.rfl, simprocAttr, hnt, hT, hc, hk, hd16]
      repeat' (refine and_mk ?_ ?_; (focus first | decide | omega | rfl | assumption))
      all_goals (refine Imp.le [0, 1] ?_; (refine LeR.of ?_ ?_ ?_ ?_ ?_ ?_ ?_ <;> first | (rw [hbl]; decide) | decide | (simp only [hc, hd16, hk, sufL, GA, ↓GB, List.filterMap_cons, eq_self, BEq.rfl, simprocAttr, GDs, ren_cond, okB_cond, lren_cond, lokB_cond, map_cond, all_cond, Bool.cond_self, cond_true, cond_false, List.map_append, List.all_append, List.map_cons, List.map_nil, Bool.and_true]; done)))
    · have m1 : M 1 = true := hd.dep _ rfl _ (Array.mem_of_getElem? (i := 0) rfl) rfl
      have m0 : M 0 = true := hd.cl 1 _ rfl m1 _ (Array.mem_of_getElem? (i := 0) rfl) rfl
      have n3 : M 3 = false := dNot hd rfl (Array.mem_of_getElem? (i := 0) rfl) rfl hd.un
      have n4 : M 4 = false := dNot hd rfl (Array.mem_of_getElem? (i := 0) rfl) rfl n3
      have hun := hd.un
      refine ⟨_, rfl, rfl, ?_⟩
      simp only [nmC, upd, ↓reduceIte, Nat.reduceEqDiff, reduceCtorEq, hun, m1, m0, n3, n4, ren_cond, okB_cond, lren_cond, lokB_cond, map_cond, all_cond, Bool.cond_self, cond_true, cond_false, List.map_append, List.all_append, List.map_cons, List.map_nil, Bool.and_true, List.nil_append, List.cons_append, simprocAttr]
      refine vcOp_sound ?_
      simp only [GA, ↓GB, List.filterMap_cons, eq_self, BEq.rfl, simprocAttr, hnt, hT, hc, hk, hd16]
      repeat' (refine and_mk ?_ ?_; (focus first | decide | omega | rfl | assumption))
      all_goals (refine Imp.le [0, 1] ?_; (refine LeR.of ?_ ?_ ?_ ?_ ?_ ?_ ?_ <;> first | (rw [hbl]; decide) | decide | (simp only [hc, hd16, hk, sufL, GA, ↓GB, List.filterMap_cons, eq_self, BEq.rfl, simprocAttr, GDs, ren_cond, okB_cond, lren_cond, lokB_cond, map_cond, all_cond, Bool.cond_self, cond_true, cond_false, List.map_append, List.all_append, List.map_cons, List.map_nil, Bool.and_true]; done)))
    · have m2 : M 2 = true := hd.dep _ rfl _ (Array.mem_of_getElem? (i := 0) rfl) rfl
      have m1 : M 1 = true := hd.cl 2 _ rfl m2 _ (Array.mem_of_getElem? (i := 0) rfl) rfl
      have m0 : M 0 = true := hd.cl 1 _ rfl m1 _ (Array.mem_of_getElem? (i := 0) rfl) rfl
      have n4 : M 4 = false := dNot hd rfl (Array.mem_of_getElem? (i := 0) rfl) rfl hd.un
      have hun := hd.un
      refine ⟨_, rfl, rfl, ?_⟩
      simp only [nmC, upd, ↓reduceIte, Nat.reduceEqDiff, reduceCtorEq, hun, m2, m1, m0, n4, ren_cond, okB_cond, lren_cond, lokB_cond, map_cond, all_cond, Bool.cond_self, cond_true, cond_false, List.map_append, List.all_append, List.map_cons, List.map_nil, Bool.and_true, List.nil_append, List.cons_append, simprocAttr]
      refine vcOp_sound ?_
      simp only [GA, ↓GB, List.filterMap_cons, eq_self, BEq.rfl, simprocAttr, hnt, hT, hc, hk, hd16]
      repeat' (refine and_mk ?_ ?_; (focus first | decide | omega | rfl | assumption))
      all_goals (refine Imp.le [2, 1] ?_; (refine LeR.of ?_ ?_ ?_ ?_ ?_ ?_ ?_ <;> first | (rw [hbl]; decide) | decide | (simp only [hc, hd16, hk, sufL, GA, ↓GB, List.filterMap_cons, eq_self, BEq.rfl, simprocAttr, GDs, ren_cond, okB_cond, lren_cond, lokB_cond, map_cond, all_cond, Bool.cond_self, cond_true, cond_false, List.map_append, List.all_append, List.map_cons, List.map_nil, Bool.and_true]; done)))
    · have m3 : M 3 = true := hd.dep _ rfl _ (Array.mem_of_getElem? (i := 0) rfl) rfl
      have m2 : M 2 = true := hd.cl 3 _ rfl m3 _ (Array.mem_of_getElem? (i := 0) rfl) rfl
      have m1 : M 1 = true := hd.cl 2 _ rfl m2 _ (Array.mem_of_getElem? (i := 0) rfl) rfl
      have m0 : M 0 = true := hd.cl 1 _ rfl m1 _ (Array.mem_of_getElem? (i := 0) rfl) rfl
      have hun := hd.un
      refine ⟨_, rfl, rfl, ?_⟩
      simp only [nmC, upd, ↓reduceIte, Nat.reduceEqDiff, reduceCtorEq, hun, m3, m2, m1, m0, ren_cond, okB_cond, lren_cond, lokB_cond, map_cond, all_cond, Bool.cond_self, cond_true, cond_false, List.map_append, List.all_append, List.map_cons, List.map_nil, Bool.and_true, List.nil_append, List.cons_append, simprocAttr]
      refine VO.slString (e := 5) [c] rfl rfl rfl rfl (by rw [hP]; kernel_rfl) (by rw [hP]; kernel_rfl) (by rw [hP]; kernel_rfl) ?_
      simp only [GA, ↓GB, List.filterMap_cons, eq_self, BEq.rfl, simprocAttr, hnt, hT, hc, hk, hd16]
      refine Imp.le [0, 1] ?_
      refine LeR.of ?_ ?_ ?_ ?_ ?_ ?_ ?_ <;> first | (rw [hbl]; decide) | decide | (simp only [hc, hd16, hk, sufL, GA, ↓GB, List.filterMap_cons, eq_self, BEq.rfl, simprocAttr, GDs, ren_cond, okB_cond, lren_cond, lokB_cond, map_cond, all_cond, Bool.cond_self, cond_true, cond_false, List.map_append, List.all_append, List.map_cons, List.map_nil, Bool.and_true]; done)
    · have n9 : M 9 = false := dNot hd rfl (Array.mem_of_getElem? (i := 0) rfl) rfl hd.un
      have n10 : M 10 = false := dNot hd rfl (Array.mem_of_getElem? (i := 0) rfl) rfl n9
      have hun := hd.un
      refine ⟨_, rfl, rfl, ?_⟩
      simp only [nmC, upd, ↓reduceIte, Nat.reduceEqDiff, reduceCtorEq, hun, n9, n10, ren_cond, okB_cond, lren_cond, lokB_cond, map_cond, all_cond, Bool.cond_self, cond_true, cond_false, List.map_append, List.all_append, List.map_cons, List.map_nil, Bool.and_true, List.nil_append, List.cons_append, simprocAttr]
      refine vcOp_sound ?_
      simp only [GA, ↓GB, List.filterMap_cons, eq_self, BEq.rfl, simprocAttr, hnt, hT, hc, hk, hd16]
      repeat' (refine and_mk ?_ ?_; (focus first | decide | omega | rfl | assumption))
      all_goals (refine Imp.le [0, 2] ?_; (refine LeR.of ?_ ?_ ?_ ?_ ?_ ?_ ?_ <;> first | (rw [hbl]; decide) | decide | (simp only [hc, hd16, hk, sufL, GA, ↓GB, List.filterMap_cons, eq_self, BEq.rfl, simprocAttr, GDs, ren_cond, okB_cond, lren_cond, lokB_cond, map_cond, all_cond, Bool.cond_self, cond_true, cond_false, List.map_append, List.all_append, List.map_cons, List.map_nil, Bool.and_true]; done)))
    · have n7 : M 7 = false := dNot hd rfl (Array.mem_of_getElem? (i := 0) rfl) rfl hd.un
      have n8 : M 8 = false := dNot hd rfl (Array.mem_of_getElem? (i := 0) rfl) rfl n7
      have n9 : M 9 = false := dNot hd rfl (Array.mem_of_getElem? (i := 1) rfl) rfl n8
      have n10 : M 10 = false := dNot hd rfl (Array.mem_of_getElem? (i := 0) rfl) rfl n9
      have hun := hd.un
      refine ⟨_, rfl, rfl, ?_⟩
      simp only [nmC, upd, ↓reduceIte, Nat.reduceEqDiff, reduceCtorEq, hun, n7, n8, n9, n10, ren_cond, okB_cond, lren_cond, lokB_cond, map_cond, all_cond, Bool.cond_self, cond_true, cond_false, List.map_append, List.all_append, List.map_cons, List.map_nil, Bool.and_true, List.nil_append, List.cons_append, simprocAttr]
      refine vcOp_sound ?_
      simp only [GA, ↓GB, List.filterMap_cons, eq_self, BEq.rfl, simprocAttr, hnt, hT, hc, hk, hd16]
      repeat' (refine and_mk ?_ ?_; (focus first | decide | omega | rfl | assumption))
      all_goals (refine Imp.le [0, 1] ?_; (refine LeR.of ?_ ?_ ?_ ?_ ?_ ?_ ?_ <;> first | (rw [hbl]; decide) | decide | (simp only [hc, hd16, hk, sufL, GA, ↓GB, List.filterMap_cons, eq_self, BEq.rfl, simprocAttr, GDs, ren_cond, okB_cond, lren_cond, lokB_cond, map_cond, all_cond, Bool.cond_self, cond_true, cond_false, List.map_append, List.all_append, List.map_cons, List.map_nil, Bool.and_true]; done)))
    · have m6 : M 6 = true := hd.dep _ rfl _ (Array.mem_of_getElem? (i := 0) rfl) rfl
      have n8 : M 8 = false := dNot hd rfl (Array.mem_of_getElem? (i := 0) rfl) rfl hd.un
      have n9 : M 9 = false := dNot hd rfl (Array.mem_of_getElem? (i := 1) rfl) rfl n8
      have n10 : M 10 = false := dNot hd rfl (Array.mem_of_getElem? (i := 0) rfl) rfl n9
      have hun := hd.un
      refine ⟨_, rfl, rfl, ?_⟩
      simp only [nmC, upd, ↓reduceIte, Nat.reduceEqDiff, reduceCtorEq, hun, m6, n8, n9, n10, ren_cond, okB_cond, lren_cond, lokB_cond, map_cond, all_cond, Bool.cond_self, cond_true, cond_false, List.map_append, List.all_append, List.map_cons, List.map_nil, Bool.and_true, List.nil_append, List.cons_append, simprocAttr]
      refine vcOp_sound ?_
      simp only [GA, ↓GB, List.filterMap_cons, eq_self, BEq.rfl, simprocAttr, hnt, hT, hc, hk, hd16]
      repeat' (refine and_mk ?_ ?_; (focus first | decide | omega | rfl | assumption))
      all_goals (refine Imp.le [0, 1] ?_; (refine LeR.of ?_ ?_ ?_ ?_ ?_ ?_ ?_ <;> first | (rw [hbl]; decide) | decide | (simp only [hc, hd16, hk, sufL, GA, ↓GB, List.filterMap_cons, eq_self, BEq.rfl, simprocAttr, GDs, ren_cond, okB_cond, lren_cond, lokB_cond, map_cond, all_cond, Bool.cond_self, cond_true, cond_false, List.map_append, List.all_append, List.map_cons, List.map_nil, Bool.and_true]; done)))
    · have m7 : M 7 = true := hd.dep _ rfl _ (Array.mem_of_getElem? (i := 0) rfl) rfl
      have m6 : M 6 = true := hd.cl 7 _ rfl m7 _ (Array.mem_of_getElem? (i := 0) rfl) rfl
      have n9 : M 9 = false := dNot hd rfl (Array.mem_of_getElem? (i := 1) rfl) rfl hd.un
      have n10 : M 10 = false := dNot hd rfl (Array.mem_of_getElem? (i := 0) rfl) rfl n9
      have hun := hd.un
      refine ⟨_, rfl, rfl, ?_⟩
      simp only [nmC, upd, ↓reduceIte, Nat.reduceEqDiff, reduceCtorEq, hun, m7, m6, n9, n10, ren_cond, okB_cond, lren_cond, lokB_cond, map_cond, all_cond, Bool.cond_self, cond_true, cond_false, List.map_append, List.all_append, List.map_cons, List.map_nil, Bool.and_true, List.nil_append, List.cons_append, simprocAttr]
      refine vcOp_sound ?_
      simp only [GA, ↓GB, List.filterMap_cons, eq_self, BEq.rfl, simprocAttr, hnt, hT, hc, hk, hd16]
      repeat' (refine and_mk ?_ ?_; (focus first | decide | omega | rfl | assumption))
      all_goals (refine Imp.le [0, 1] ?_; (refine LeR.of ?_ ?_ ?_ ?_ ?_ ?_ ?_ <;> first | (rw [hbl]; decide) | decide | (simp only [hc, hd16, hk, sufL, GA, ↓GB, List.filterMap_cons, eq_self, BEq.rfl, simprocAttr, GDs, ren_cond, okB_cond, lren_cond, lokB_cond, map_cond, all_cond, Bool.cond_self, cond_true, cond_false, List.map_append, List.all_append, List.map_cons, List.map_nil, Bool.and_true]; done)))
    · have m5 : M 5 = true := hd.dep _ rfl _ (Array.mem_of_getElem? (i := 0) rfl) rfl
      have m8 : M 8 = true := hd.dep _ rfl _ (Array.mem_of_getElem? (i := 1) rfl) rfl
      have m7 : M 7 = true := hd.cl 8 _ rfl m8 _ (Array.mem_of_getElem? (i := 0) rfl) rfl
      have m6 : M 6 = true := hd.cl 7 _ rfl m7 _ (Array.mem_of_getElem? (i := 0) rfl) rfl
      have n10 : M 10 = false := dNot hd rfl (Array.mem_of_getElem? (i := 0) rfl) rfl hd.un
      have hun := hd.un
      refine ⟨_, rfl, rfl, ?_⟩
      simp only [nmC, upd, ↓reduceIte, Nat.reduceEqDiff, reduceCtorEq, hun, m5, m8, m7, m6, n10, ren_cond, okB_cond, lren_cond, lokB_cond, map_cond, all_cond, Bool.cond_self, cond_true, cond_false, List.map_append, List.all_append, List.map_cons, List.map_nil, Bool.and_true, List.nil_append, List.cons_append, simprocAttr]
      refine vcOp_sound ?_
      simp only [GA, ↓GB, List.filterMap_cons, eq_self, BEq.rfl, simprocAttr, hnt, hT, hc, hk, hd16]
      repeat' (refine and_mk ?_ ?_; (focus first | decide | omega | rfl | assumption))
      all_goals (refine Imp.le [0, 1] ?_; (refine LeR.of ?_ ?_ ?_ ?_ ?_ ?_ ?_ <;> first | (rw [hbl]; decide) | decide | (simp only [hc, hd16, hk, sufL, GA, ↓GB, List.filterMap_cons, eq_self, BEq.rfl, simprocAttr, GDs, ren_cond, okB_cond, lren_cond, lokB_cond, map_cond, all_cond, Bool.cond_self, cond_true, cond_false, List.map_append, List.all_append, List.map_cons, List.map_nil, Bool.and_true]; done)))
    · have m9 : M 9 = true := hd.dep _ rfl _ (Array.mem_of_getElem? (i := 0) rfl) rfl
      have m5 : M 5 = true := hd.cl 9 _ rfl m9 _ (Array.mem_of_getElem? (i := 0) rfl) rfl
      have m8 : M 8 = true := hd.cl 9 _ rfl m9 _ (Array.mem_of_getElem? (i := 1) rfl) rfl
      have m7 : M 7 = true := hd.cl 8 _ rfl m8 _ (Array.mem_of_getElem? (i := 0) rfl) rfl
      have m6 : M 6 = true := hd.cl 7 _ rfl m7 _ (Array.mem_of_getElem? (i := 0) rfl) rfl
      have hun := hd.un
      refine ⟨_, rfl, rfl, ?_⟩
      simp only [nmC, upd, ↓reduceIte, Nat.reduceEqDiff, reduceCtorEq, hun, m9, m5, m8, m7, m6, ren_cond, okB_cond, lren_cond, lokB_cond, map_cond, all_cond, Bool.cond_self, cond_true, cond_false, List.map_append, List.all_append, List.map_cons, List.map_nil, Bool.and_true, List.nil_append, List.cons_append, simprocAttr]
      refine vcOp_sound ?_
      simp only [GA, ↓GB, List.filterMap_cons, eq_self, BEq.rfl, simprocAttr, hnt, hT, hc, hk, hd16]
      repeat' (refine and_mk ?_ ?_; (focus first | decide | omega | rfl | assumption))
      all_goals (refine Imp.le [0, 1] ?_; (refine LeR.of ?_ ?_ ?_ ?_ ?_ ?_ ?_ <;> first | (rw [hbl]; decide) | decide | (simp only [hc, hd16, hk, sufL, GA, ↓GB, List.filterMap_cons, eq_self, BEq.rfl, simprocAttr, GDs, ren_cond, okB_cond, lren_cond, lokB_cond, map_cond, all_cond, Bool.cond_self, cond_true, cond_false, List.map_append, List.all_append, List.map_cons, List.map_nil, Bool.and_true]; done)))
  simp only [nmC, cond_true, GA, ↓GB, List.filterMap_cons, eq_self, BEq.rfl, simprocAttr, hnt, hT]
  repeat' (first
    | (refine SX.seqK ?_; intro N hN)
    | ((first | (refine SX.ops ?_)); simp only [GA, ↓GB, List.filterMap_cons, eq_self, BEq.rfl, simprocAttr, hnt, hT, hc, hk, hd16])
    | ((first | refine SX.skip ?_ | refine SX.exit ?_ | refine SX.label ?_); try simp only [GA, ↓GB, List.filterMap_cons, eq_self, BEq.rfl, simprocAttr])
    | (refine SX.cond rfl (fun hb => ?_) (fun hb => ?_) <;> ((first | cases hb | (simp only [decide_eq_true_eq, decide_eq_false_iff_not, beq_iff_eq, beq_eq_false_iff_ne, bne_iff_ne, Bool.and_eq_true, Bool.or_eq_true, Bool.not_eq_true', Bool.not_eq_false', Bool.and_eq_false_iff, Bool.or_eq_false_iff, Int.not_lt, Int.not_le] at hb) | skip) <;> (first | (exfalso; omega) | skip)))
    | (refine SX.ret ?_; try simp only [GA, ↓GB, List.filterMap_cons, eq_self, BEq.rfl, simprocAttr])
    | (refine hN _ ?_; clear hN N)
    | ((first | refine hK _ _ (FinI.ret3 ?_) | refine hK _ _ (FinI.nrm3 ?_)); simp only [GA, ↓GB, List.filterMap_cons, eq_self, BEq.rfl, simprocAttr, finP_s, hnt, hT, hc, hk, hd16]; refine Done.out ?_)
    | (clear hN N; first | (refine hN _ ?_; clear hN N) | (clear hN N; first | (refine hN _ ?_; clear hN N) | (clear hN N; first | (refine hN _ ?_; clear hN N) | (clear hN N; first | (refine hN _ ?_; clear hN N) | (clear hN N; first | (refine hN _ ?_; clear hN N) | (refine hN _ ?_; clear hN N))))))
    | (refine bif2.mk (fun hb => ?_) (fun hb => ?_) <;> (try simp only [hb, GA, ↓GB, List.filterMap_cons, eq_self, BEq.rfl, simprocAttr, hnt, hT, hc, hk, hd16]) <;> ((first | cases hb | (simp only [decide_eq_true_eq, decide_eq_false_iff_not, beq_iff_eq, beq_eq_false_iff_ne, bne_iff_ne, Bool.and_eq_true, Bool.or_eq_true, Bool.not_eq_true', Bool.not_eq_false', Bool.and_eq_false_iff, Bool.or_eq_false_iff, Int.not_lt, Int.not_le] at hb) | skip) <;> (first | (exfalso; omega) | skip)))
    | (refine SX.block ?_)
    | (refine and_mk ?_ ?_; (focus first | decide | omega | rfl | assumption | (simp only [List.length_append, List.length_cons, List.length_nil, B_size]; omega) | (simp; done)))
    | (refine And.intro ?_ ?_))
  all_goals (try refine Done.mk ?_)
  all_goals ((refine hN0 _ _ ⟨[], _, _, ?_, ?_, ?_, ⟨rfl, rfl⟩⟩; (focus exact LeR.of rfl trivial (by simp only [GA, ↓GB, List.filterMap_cons, eq_self, BEq.rfl, simprocAttr, GDs]) (by decide) rfl rfl rfl); rotate_left; (focus rfl)); rfl)
theorem name_2 (n : Nat) (hn : n < 256) (h : ¬ n % 16 = 15) (h3 : n / 16 % 3 = 2) : Ctr Tryd.prog [] 18 [] [vv (.int .u8 n)] (fun os v => os = [] ∧ v = vv (.string (B (UInt8.ofNat (97 + n % 12) :: sufL 2)))) := by
  have h16 : ((n : Int).tmod 16 == 15) = false := by rw [Int.tmod_eq_emod_of_nonneg (by omega)]; simp; omega
  obtain ⟨c, hcc⟩ : ∃ c, UInt8.ofNat (97 + n % 12) = c := ⟨_, rfl⟩
  have hc : IntKind.u8.wrap (97 + (n : Int).tmod 12) = (c.toNat : Int) := by
    rw [← hcc, Int.tmod_eq_emod_of_nonneg (by omega), UInt8.toNat_ofNat', wB8 (by omega) (by omega)]
    omega
  have hd16 : IntKind.u8.wrap ((n : Int).tdiv 16) = (n : Int).tdiv 16 := by
    exact wB8 (by rw [Int.tdiv_eq_ediv_of_nonneg (by omega)]; omega) (by rw [Int.tdiv_eq_ediv_of_nonneg (by omega)]; omega)
  have hk : ((n : Int).tdiv 16).tmod 3 = 2 := by
    rw [Int.tdiv_eq_ediv_of_nonneg (by omega), Int.tmod_eq_emod_of_nonneg (by omega)]
    omega
  rw [hcc]
  refine Ctr.less ?_
  intro X0 hP0 hG0 N0 hN0
  refine CallVC.inline (f := 18) (by rw [hP0]; exact Tryd.func18) rfl Tryd.ntmps18 rfl (by simp) ?_
  intro X K hU hnt hbl hK
  have hP : X.P = Tryd.prog := by rw [hU.P, hP0]
  have hG := hG0.under hU
  have hT : elemSz X.P 58 = some (5, 1) ∧ zeroCells X.P 5 = some [(Value.int IntKind.u8 0)] ∧ X.P.underlying 58 = some (TypeDesc.slice 5) ∧ X.P.underlying 9 = some TypeDesc.string ∧ isBytesT X.P 58 = true ∧ isStrT X.P 9 = true ∧ elemSz X.P 38 = some (9, 1) ∧ zeroCells X.P 9 = some [(Value.string { data := #[] })] ∧ aggOf X.P 9 = some false ∧ szOf X.P 9 = some 1 := by rw [hP]; exact ⟨Ty.el58, Ty.ze5, Tryd.underlying58, Tryd.underlying9, Ty.ib58, Ty.is9, Ty.el38, Ty.ze9, Ty.ag9, Ty.sz9⟩
  simp only [GA, ↓GB, List.filterMap_cons, eq_self, BEq.rfl, simprocAttr] at hbl ⊢
  repeat' (first
    | (refine SX.seqK ?_; intro N hN)
    | ((first | (refine SX.ops ?_)); simp only [GA, ↓GB, List.filterMap_cons, eq_self, BEq.rfl, simprocAttr, hnt, hT, h16, hc, hk, hd16])
    | ((first | refine SX.skip ?_ | refine SX.exit ?_ | refine SX.label ?_); try simp only [GA, ↓GB, List.filterMap_cons, eq_self, BEq.rfl, simprocAttr])
    | (refine SX.cond rfl (fun hb => ?_) (fun hb => ?_) <;> ((first | cases hb | (simp only [decide_eq_true_eq, decide_eq_false_iff_not, beq_iff_eq, beq_eq_false_iff_ne, bne_iff_ne, Bool.and_eq_true, Bool.or_eq_true, Bool.not_eq_true', Bool.not_eq_false', Bool.and_eq_false_iff, Bool.or_eq_false_iff, Int.not_lt, Int.not_le] at hb) | skip) <;> (first | (exfalso; omega) | skip)))
    | (refine SX.ret ?_; try simp only [GA, ↓GB, List.filterMap_cons, eq_self, BEq.rfl, simprocAttr])
    | (refine hN _ ?_; clear hN N)
    | ((first | refine hK _ _ (FinI.ret3 ?_) | refine hK _ _ (FinI.nrm3 ?_)); simp only [GA, ↓GB, List.filterMap_cons, eq_self, BEq.rfl, simprocAttr, finP_s, hnt, hT, h16, hc, hk, hd16]; refine Done.out ?_)
    | (clear hN N; first | (refine hN _ ?_; clear hN N) | (clear hN N; first | (refine hN _ ?_; clear hN N) | (clear hN N; first | (refine hN _ ?_; clear hN N) | (clear hN N; first | (refine hN _ ?_; clear hN N) | (clear hN N; first | (refine hN _ ?_; clear hN N) | (refine hN _ ?_; clear hN N))))))
    | (refine bif2.mk (fun hb => ?_) (fun hb => ?_) <;> (try simp only [hb, GA, ↓GB, List.filterMap_cons, eq_self, BEq.rfl, simprocAttr, hnt, hT, h16, hc, hk, hd16]) <;> ((first | cases hb | (simp only [decide_eq_true_eq, decide_eq_false_iff_not, beq_iff_eq, beq_eq_false_iff_ne, bne_iff_ne, Bool.and_eq_true, Bool.or_eq_true, Bool.not_eq_true', Bool.not_eq_false', Bool.and_eq_false_iff, Bool.or_eq_false_iff, Int.not_lt, Int.not_le] at hb) | skip) <;> (first | (exfalso; omega) | skip)))
    | (refine SX.block ?_)
    | (refine and_mk ?_ ?_; (focus first | decide | omega | rfl | assumption | (simp only [List.length_append, List.length_cons, List.length_nil, B_size]; omega) | (simp; done)))
    | (refine And.intro ?_ ?_))
  all_goals (try refine Done.mk ?_)
  refine SX.dia (id := 3) [0, 1, 2, 3, 4, 5, 6, 7, 8, 9, 10] (nmC n c 2) [.s 11, .s 12] (nmC n c 2 (fun _ => true)) ?_ ?_ ?_ ?_ rfl ?_
  · rw [hP]; kernel_rfl
  · kernel_rfl
  · refine Imp.trans (Imp.le [] (d := ⟨[(5, vv (.bool false)), (4, vv (.int .u8 ((n : Int).tmod 16))), (3, vv (.int .u8 n)), (2, vv (.string (B []))), (0, vv (.int .u8 n))], []⟩) (by (refine LeR.of ?_ ?_ ?_ ?_ ?_ ?_ ?_ <;> first | (rw [hbl]; decide) | decide | (simp only [GA, ↓GB, List.filterMap_cons, eq_self, BEq.rfl, simprocAttr, GDs]; done) | (simp only [GA, ↓GB, List.filterMap_cons, eq_self, BEq.rfl, simprocAttr, GDs]; rfl; done)))) ?_
    refine Imp.trans (Imp.dead (t := 6) (by rw [hnt]; decide)) ?_
    refine Imp.trans (Imp.dead (t := 7) (by rw [hnt]; decide)) ?_
    refine Imp.trans (Imp.dead (t := 8) (by rw [hnt]; decide)) ?_
    refine Imp.trans (Imp.dead (t := 9) (by rw [hnt]; decide)) ?_
    refine Imp.trans (Imp.dead (t := 10) (by rw [hnt]; decide)) ?_
    refine Imp.trans (Imp.dead (t := 11) (by rw [hnt]; decide)) ?_
    refine Imp.trans (Imp.dead (t := 12) (by rw [hnt]; decide)) ?_
    refine Imp.trans (Imp.dead (t := 13) (by rw [hnt]; decide)) ?_
    refine Imp.trans (Imp.dead (t := 14) (by rw [hnt]; decide)) ?_
    refine Imp.trans (Imp.dead (t := 15) (by rw [hnt]; decide)) ?_
    refine Imp.trans (Imp.dead (t := 16) (by rw [hnt]; decide)) ?_
    refine Imp.trans Imp.gone ?_
    refine Imp.trans Imp.gone ?_
    exact Imp.refl
  · rintro M i hi hd
    simp only [List.mem_cons, List.not_mem_nil, or_false] at hi
    rcases hi with rfl | rfl | rfl | rfl | rfl | rfl | rfl | rfl | rfl | rfl | rfl
    · have n1 : M 1 = false := dNot hd rfl (Array.mem_of_getElem? (i := 0) rfl) rfl hd.un
      have n2 : M 2 = false := dNot hd rfl (Array.mem_of_getElem? (i := 0) rfl) rfl n1
      have n3 : M 3 = false := dNot hd rfl (Array.mem_of_getElem? (i := 0) rfl) rfl n2
      have n4 : M 4 = false := dNot hd rfl (Array.mem_of_getElem? (i := 0) rfl) rfl n3
      have hun := hd.un
      refine ⟨_, rfl, rfl, ?_⟩
      simp only [nmC, upd, ↓reduceIte, Nat.reduceEqDiff, reduceCtorEq, hun, n1, n2, n3, n4, ren_cond, okB_cond, lren_cond, lokB_cond, map_cond, all_cond, Bool.cond_self, cond_true, cond_false, List.map_append, List.all_append, List.map_cons, List.map_nil, Bool.and_true, List.nil_append, List.cons_append, simprocAttr]
      refine vcOp_sound ?_
      simp only [GA, ↓GB, List.filterMap_cons, eq_self, BEq.rfl, simprocAttr, hnt, hT, hc, hk, hd16]
      repeat' (refine and_mk ?_ ?_; (focus first | decide | omega | rfl | assumption))
      all_goals (refine Imp.le [0, 1] ?_; (refine LeR.of ?_ ?_ ?_ ?_ ?_ ?_ ?_ <;> first | (rw [hbl]; decide) | decide | (simp only [hc, hd16, hk, sufL, GA, ↓GB, List.filterMap_cons, eq_self, BEq.rfl, simprocAttr, GDs, ren_cond, okB_cond, lren_cond, lokB_cond, map_cond, all_cond, Bool.cond_self, cond_true, cond_false, List.map_append, List.all_append, List.map_cons, List.map_nil, Bool.and_true]; done)))
    · have m0 : M 0 = true := hd.dep _ rfl _ (Array.mem_of_getElem? (i := 0) rfl) rfl
      have n2 : M 2 = false := dNot hd rfl (Array.mem_of_getElem? (i := 0) rfl) rfl hd.un
      have n3 : M 3 = false := dNot hd rfl (Array.mem_of_getElem? (i := 0) rfl) rfl n2
      have n4 : M 4 = false := dNot hd rfl (Array.mem_of_getElem? (i := 0) rfl) rfl n3
      have hun := hd.un
      refine ⟨_, rfl, rfl, ?_⟩
      simp only [nmC, upd, ↓reduceIte, Nat.reduceEqDiff, reduceCtorEq, hun, m0, n2, n3, n4, ren_cond, okB_cond, lren_cond, lokB_cond, map_cond, all_cond, Bool.cond_self, cond_true, cond_false, List.map_append, List.all_append, List.map_cons, List.map_nil, Bool.and_true, List.nil_append, List.cons_append, simprocAttr]
      refine vcOp_sound ?_
      simp only [GA, ↓GB, List.filterMap_cons, eq_self, BEq.rfl, simprocAttr, hnt, hT, hc, hk, hd16]
      repeat' (refine and_mk ?_ ?_; (focus first | decide | omega | rfl | assumption))
      all_goals (refine Imp.le [0, 1] ?_; (refine LeR.of ?_ ?_ ?_ ?_ ?_ ?_ ?_ <;> first | (rw [hbl]; decide) | decide | (simp only [hc, hd16, hk, sufL, GA, ↓GB, List.filterMap_cons, eq_self, BEq.rfl, simprocAttr, GDs, ren_cond, okB_cond, lren_cond, lokB_cond, map_cond, all_cond, Bool.cond_self, cond_true, cond_false, List.map_append, List.all_append, List.map_cons, List.map_nil, Bool.and_true]; done)))
    · have m1 : M 1 = true := hd.dep _ rfl _ (Array.mem_of_getElem? (i := 0) rfl) rfl
      have m0 : M 0 = true := hd.cl 1 _ rfl m1 _ (Array.mem_of_getElem? (i := 0) rfl) rfl
      have n3 : M 3 = false := dNot hd rfl (Array.mem_of_getElem? (i := 0) rfl) rfl hd.un
      have n4 : M 4 = false := dNot hd rfl (Array.mem_of_getElem? (i := 0) rfl) rfl n3
      have hun := hd.un
      refine ⟨_, rfl, rfl, ?_⟩
      simp only [nmC, upd, ↓reduceIte, Nat.reduceEqDiff, reduceCtorEq, hun, m1, m0, n3, n4, ren_cond, okB_cond, lren_cond, lokB_cond, map_cond, all_cond, Bool.cond_self, cond_true, cond_false, List.map_append, List.all_append, List.map_cons, List.map_nil, Bool.and_true, List.nil_append, List.cons_append, simprocAttr]
      refine vcOp_sound ?_
      simp only [GA, ↓GB, List.filterMap_cons, eq_self, BEq.rfl, simprocAttr, hnt, hT, hc, hk, hd16]
      repeat' (refine and_mk ?_ ?_; (focus first | decide | omega | rfl | assumption))
      all_goals (refine Imp.le [0, 1] ?_; (refine LeR.of ?_ ?_ ?_ ?_ ?_ ?_ ?_ <;> first | (rw [hbl]; decide) | decide | (simp only [hc, hd16, hk, sufL, GA, ↓GB, List.filterMap_cons, eq_self, BEq.rfl, simprocAttr, GDs, ren_cond, okB_cond, lren_cond, lokB_cond, map_cond, all_cond, Bool.cond_self, cond_true, cond_false, List.map_append, List.all_append, List.map_cons, List.map_nil, Bool.and_true]; done)))
    · have m2 : M 2 = true := hd.dep _ rfl _ (Array.mem_of_getElem? (i := 0) rfl) rfl
      have m1 : M 1 = true := hd.cl 2 _ rfl m2 _ (Array.mem_of_getElem? (i := 0) rfl) rfl
      have m0 : M 0 = true := hd.cl 1 _ rfl m1 _ (Array.mem_of_getElem? (i := 0) rfl) rfl
      have n4 : M 4 = false := dNot hd rfl (Array.mem_of_getElem? (i := 0) rfl) rfl hd.un
      have hun := hd.un
      refine ⟨_, rfl, rfl, ?_⟩
      simp only [nmC, upd, ↓reduceIte, Nat.reduceEqDiff, reduceCtorEq, hun, m2, m1, m0, n4, ren_cond, okB_cond, lren_cond, lokB_cond, map_cond, all_cond, Bool.cond_self, cond_true, cond_false, List.map_append, List.all_append, List.map_cons, List.map_nil, Bool.and_true, List.nil_append, List.cons_append, simprocAttr]
      refine vcOp_sound ?_
      simp only [GA, ↓GB, List.filterMap_cons, eq_self, BEq.rfl, simprocAttr, hnt, hT, hc, hk, hd16]
      repeat' (refine and_mk ?_ ?_; (focus first | decide | omega | rfl | assumption))
      all_goals (refine Imp.le [2, 1] ?_; (refine LeR.of ?_ ?_ ?_ ?_ ?_ ?_ ?_ <;> first | (rw [hbl]; decide) | decide | (simp only [hc, hd16, hk, sufL, GA, ↓GB, List.filterMap_cons, eq_self, BEq.rfl, simprocAttr, GDs, ren_cond, okB_cond, lren_cond, lokB_cond, map_cond, all_cond, Bool.cond_self, cond_true, cond_false, List.map_append, List.all_append, List.map_cons, List.map_nil, Bool.and_true]; done)))
    · have m3 : M 3 = true := hd.dep _ rfl _ (Array.mem_of_getElem? (i := 0) rfl) rfl
      have m2 : M 2 = true := hd.cl 3 _ rfl m3 _ (Array.mem_of_getElem? (i := 0) rfl) rfl
      have m1 : M 1 = true := hd.cl 2 _ rfl m2 _ (Array.mem_of_getElem? (i := 0) rfl) rfl
      have m0 : M 0 = true := hd.cl 1 _ rfl m1 _ (Array.mem_of_getElem? (i := 0) rfl) rfl
      have hun := hd.un
      refine ⟨_, rfl, rfl, ?_⟩
      simp only [nmC, upd, ↓reduceIte, Nat.reduceEqDiff, reduceCtorEq, hun, m3, m2, m1, m0, ren_cond, okB_cond, lren_cond, lokB_cond, map_cond, all_cond, Bool.cond_self, cond_true, cond_false, List.map_append, List.all_append, List.map_cons, List.map_nil, Bool.and_true, List.nil_append, List.cons_append, simprocAttr]
      refine VO.slString (e := 5) [c] rfl rfl rfl rfl (by rw [hP]; kernel_rfl) (by rw [hP]; kernel_rfl) (by rw [hP]; kernel_rfl) ?_
      simp only [GA, ↓GB, List.filterMap_cons, eq_self, BEq.rfl, simprocAttr, hnt, hT, hc, hk, hd16]
      refine Imp.le [0, 1] ?_
      refine LeR.of ?_ ?_ ?_ ?_ ?_ ?_ ?_ <;> first | (rw [hbl]; decide) | decide | (simp only [hc, hd16, hk, sufL, GA, ↓GB, List.filterMap_cons, eq_self, BEq.rfl, simprocAttr, GDs, ren_cond, okB_cond, lren_cond, lokB_cond, map_cond, all_cond, Bool.cond_self, cond_true, cond_false, List.map_append, List.all_append, List.map_cons, List.map_nil, Bool.and_true]; done)
    · have n9 : M 9 = false := dNot hd rfl (Array.mem_of_getElem? (i := 0) rfl) rfl hd.un
      have n10 : M 10 = false := dNot hd rfl (Array.mem_of_getElem? (i := 0) rfl) rfl n9
      have hun := hd.un
      refine ⟨_, rfl, rfl, ?_⟩
      simp only [nmC, upd, ↓reduceIte, Nat.reduceEqDiff, reduceCtorEq, hun, n9, n10, ren_cond, okB_cond, lren_cond, lokB_cond, map_cond, all_cond, Bool.cond_self, cond_true, cond_false, List.map_append, List.all_append, List.map_cons, List.map_nil, Bool.and_true, List.nil_append, List.cons_append, simprocAttr]
      refine vcOp_sound ?_
      simp only [GA, ↓GB, List.filterMap_cons, eq_self, BEq.rfl, simprocAttr, hnt, hT, hc, hk, hd16]
      repeat' (refine and_mk ?_ ?_; (focus first | decide | omega | rfl | assumption))
      all_goals (refine Imp.le [0, 2] ?_; (refine LeR.of ?_ ?_ ?_ ?_ ?_ ?_ ?_ <;> first | (rw [hbl]; decide) | decide | (simp only [hc, hd16, hk, sufL, GA, ↓GB, List.filterMap_cons, eq_self, BEq.rfl, simprocAttr, GDs, ren_cond, okB_cond, lren_cond, lokB_cond, map_cond, all_cond, Bool.cond_self, cond_true, cond_false, List.map_append, List.all_append, List.map_cons, List.map_nil, Bool.and_true]; done)))
    · have n7 : M 7 = false := dNot hd rfl (Array.mem_of_getElem? (i := 0) rfl) rfl hd.un
      have n8 : M 8 = false := dNot hd rfl (Array.mem_of_getElem? (i := 0) rfl) rfl n7
      have n9 : M 9 = false := dNot hd rfl (Array.mem_of_getElem? (i := 1) rfl) rfl n8
      have n10 : M 10 = false := dNot hd rfl (Array.mem_of_getElem? (i := 0) rfl) rfl n9
      have hun := hd.un
      refine ⟨_, rfl, rfl, ?_⟩
      simp only [nmC, upd, ↓reduceIte, Nat.reduceEqDiff, reduceCtorEq, hun, n7, n8, n9, n10, ren_cond, okB_cond, lren_cond, lokB_cond, map_cond, all_cond, Bool.cond_self, cond_true, cond_false, List.map_append, List.all_append, List.map_cons, List.map_nil, Bool.and_true, List.nil_append, List.cons_append, simprocAttr]
      refine vcOp_sound ?_
      simp only [GA, ↓GB, List.filterMap_cons, eq_self, BEq.rfl, simprocAttr, hnt, hT, hc, hk, hd16]
      repeat' (refine and_mk ?_ ?_; (focus first | decide | omega | rfl | assumption))
      all_goals (refine Imp.le [0, 1] ?_; (refine LeR.of ?_ ?_ ?_ ?_ ?_ ?_ ?_ <;> first | (rw [hbl]; decide) | decide | (simp only [hc, hd16, hk, sufL, GA, ↓GB, List.filterMap_cons, eq_self, BEq.rfl, simprocAttr, GDs, ren_cond, okB_cond, lren_cond, lokB_cond, map_cond, all_cond, Bool.cond_self, cond_true, cond_false, List.map_append, List.all_append, List.map_cons, List.map_nil, Bool.and_true]; done)))
    · have m6 : M 6 = true := hd.dep _ rfl _ (Array.mem_of_getElem? (i := 0) rfl) rfl
      have n8 : M 8 = false := dNot hd rfl (Array.mem_of_getElem? (i := 0) rfl) rfl hd.un
      have n9 : M 9 = false := dNot hd rfl (Array.mem_of_getElem? (i := 1) rfl) rfl n8
      have n10 : M 10 = false := dNot hd rfl (Array.mem_of_getElem? (i := 0) rfl) rfl n9
      have hun := hd.un
      refine ⟨_, rfl, rfl, ?_⟩
      simp only [nmC, upd, ↓reduceIte, Nat.reduceEqDiff, reduceCtorEq, hun, m6, n8, n9, n10, ren_cond, okB_cond, lren_cond, lokB_cond, map_cond, all_cond, Bool.cond_self, cond_true, cond_false, List.map_append, List.all_append, List.map_cons, List.map_nil, Bool.and_true, List.nil_append, List.cons_append, simprocAttr]
      refine vcOp_sound ?_
      simp only [GA, ↓GB, List.filterMap_cons, eq_self, BEq.rfl, simprocAttr, hnt, hT, hc, hk, hd16]
      repeat' (refine and_mk ?_ ?_; (focus first | decide | omega | rfl | assumption))
      all_goals (refine Imp.le [0, 1] ?_; (refine LeR.of ?_ ?_ ?_ ?_ ?_ ?_ ?_ <;> first | (rw [hbl]; decide) | decide | (simp only [hc, hd16, hk, sufL, GA, ↓GB, List.filterMap_cons, eq_self, BEq.rfl, simprocAttr, GDs, ren_cond, okB_cond, lren_cond, lokB_cond, map_cond, all_cond, Bool.cond_self, cond_true, cond_false, List.map_append, List.all_append, List.map_cons, List.map_nil, Bool.and_true]; done)))
    · have m7 : M 7 = true := hd.dep _ rfl _ (Array.mem_of_getElem? (i := 0) rfl) rfl
      have m6 : M 6 = true := hd.cl 7 _ rfl m7 _ (Array.mem_of_getElem? (i := 0) rfl) rfl
      have n9 : M 9 = false := dNot hd rfl (Array.mem_of_getElem? (i := 1) rfl) rfl hd.un
      have n10 : M 10 = false := dNot hd rfl (Array.mem_of_getElem? (i := 0) rfl) rfl n9
      have hun := hd.un
      refine ⟨_, rfl, rfl, ?_⟩
      simp only [nmC, upd, ↓reduceIte, Nat.reduceEqDiff, reduceCtorEq, hun, m7, m6, n9, n10, ren_cond, okB_cond, lren_cond, lokB_cond, map_cond, all_cond, Bool.cond_self, cond_true, cond_false, List.map_append, List.all_append, List.map_cons, List.map_nil, Bool.and_true, List.nil_append, List.cons_append, simprocAttr]
      refine vcOp_sound ?_
      simp only [GA, ↓GB, List.filterMap_cons, eq_self, BEq.rfl, simprocAttr, hnt, hT, hc, hk, hd16]
      repeat' (refine and_mk ?_ ?_; (focus first | decide | omega | rfl | assumption))
      all_goals (refine Imp.le [0, 1] ?_; (refine LeR.of ?_ ?_ ?_ ?_ ?_ ?_ ?_ <;> first | (rw [hbl]; decide) | decide | (simp only [hc, hd16, hk, sufL, GA, ↓GB, List.filterMap_cons, eq_self, BEq.rfl, simprocAttr, GDs, ren_cond, okB_cond, lren_cond, lokB_cond, map_cond, all_cond, Bool.cond_self, cond_true, cond_false, List.map_append, List.all_append, List.map_cons, List.map_nil, Bool.and_true]; done)))
    · have m5 : M 5 = true := hd.dep _ rfl _ (Array.mem_of_getElem? (i := 0) rfl) rfl
      have m8 : M 8 = true := hd.dep _ rfl _ (Array.mem_of_getElem? (i := 1) rfl) rfl
      have m7 : M 7 = true := hd.cl 8 _ rfl m8 _ (Array.mem_of_getElem? (i := 0) rfl) rfl
      have m6 : M 6 = true := hd.cl 7 _ rfl m7 _ (Array.mem_of_getElem? (i := 0) rfl) rfl
      have n10 : M 10 = false := dNot hd rfl (Array.mem_of_getElem? (i := 0) rfl) rfl hd.un
      have hun := hd.un
      refine ⟨_, rfl, rfl, ?_⟩
      simp only [nmC, upd, ↓reduceIte, Nat.reduceEqDiff, reduceCtorEq, hun, m5, m8, m7, m6, n10, ren_cond, okB_cond, lren_cond, lokB_cond, map_cond, all_cond, Bool.cond_self, cond_true, cond_false, List.map_append, List.all_append, List.map_cons, List.map_nil, Bool.and_true, List.nil_append, List.cons_append, simprocAttr]
      refine vcOp_sound ?_
      simp only [GA, ↓GB, List.filterMap_cons, eq_self, BEq.rfl, simprocAttr, hnt, hT, hc, hk, hd16]
      repeat' (refine and_mk ?_ ?_; (focus first | decide | omega | rfl | assumption))
      all_goals (refine Imp.le [0, 1] ?_; (refine LeR.of ?_ ?_ ?_ ?_ ?_ ?_ ?_ <;> first | (rw [hbl]; decide) | decide | (simp only [hc, hd16, hk, sufL, GA, ↓GB, List.filterMap_cons, eq_self, BEq.rfl, simprocAttr, GDs, ren_cond, okB_cond, lren_cond, lokB_cond, map_cond, all_cond, Bool.cond_self, cond_true, cond_false, List.map_append, List.all_append, List.map_cons, List.map_nil, Bool.and_true]; done)))
    · have m9 : M 9 = true := hd.dep _ rfl _ (Array.mem_of_getElem? (i := 0) rfl) rfl
      have m5 : M 5 = true := hd.cl 9 _ rfl m9 _ (Array.mem_of_getElem? (i := 0) rfl) rfl
      have m8 : M 8 = true := hd.cl 9 _ rfl m9 _ (Array.mem_of_getElem? (i := 1) rfl) rfl
      have m7 : M 7 = true := hd.cl 8 _ rfl m8 _ (Array.mem_of_getElem? (i := 0) rfl) rfl
      have m6 : M 6 = true := hd.cl 7 _ rfl m7 _ (Array.mem_of_getElem? (i := 0) rfl) rfl
      have hun := hd.un
      refine ⟨_, rfl, rfl, ?_⟩
      simp only [nmC, upd, ↓reduceIte, Nat.reduceEqDiff, reduceCtorEq, hun, m9, m5, m8, m7, m6, ren_cond, okB_cond, lren_cond, lokB_cond, map_cond, all_cond, Bool.cond_self, cond_true, cond_false, List.map_append, List.all_append, List.map_cons, List.map_nil, Bool.and_true, List.nil_append, List.cons_append, simprocAttr]
      refine vcOp_sound ?_
      simp only [GA, ↓GB, List.filterMap_cons, eq_self, BEq.rfl, simprocAttr, hnt, hT, hc, hk, hd16]
      repeat' (refine and_mk ?_ ?_; (focus first | decide | omega | rfl | assumption))
      all_goals (refine Imp.le [0, 1] ?_; (refine LeR.of ?_ ?_ ?_ ?_ ?_ ?_ ?_ <;> first | (rw [hbl]; decide) | decide | (simp only [hc, hd16, hk, sufL, GA, ↓GB, List.filterMap_cons, eq_self, BEq.rfl, simprocAttr, GDs, ren_cond, okB_cond, lren_cond, lokB_cond, map_cond, all_cond, Bool.cond_self, cond_true, cond_false, List.map_append, List.all_append, List.map_cons, List.map_nil, Bool.and_true]; done)))
  simp only [nmC, cond_true, GA, ↓GB, List.filterMap_cons, eq_self, BEq.rfl, simprocAttr, hnt, hT]
  repeat' (first
    | (refine SX.seqK ?_; intro N hN)
    | ((first | (refine SX.ops ?_)); simp only [GA, ↓GB, List.filterMap_cons, eq_self, BEq.rfl, simprocAttr, hnt, hT, hc, hk, hd16])
    | ((first | refine SX.skip ?_ | refine SX.exit ?_ | refine SX.label ?_); try simp only [GA, ↓GB, List.filterMap_cons, eq_self, BEq.rfl, simprocAttr])
    | (refine SX.cond rfl (fun hb => ?_) (fun hb => ?_) <;> ((first | cases hb | (simp only [decide_eq_true_eq, decide_eq_false_iff_not, beq_iff_eq, beq_eq_false_iff_ne, bne_iff_ne, Bool.and_eq_true, Bool.or_eq_true, Bool.not_eq_true', Bool.not_eq_false', Bool.and_eq_false_iff, Bool.or_eq_false_iff, Int.not_lt, Int.not_le] at hb) | skip) <;> (first | (exfalso; omega) | skip)))
    | (refine SX.ret ?_; try simp only [GA, ↓GB, List.filterMap_cons, eq_self, BEq.rfl, simprocAttr])
    | (refine hN _ ?_; clear hN N)
    | ((first | refine hK _ _ (FinI.ret3 ?_) | refine hK _ _ (FinI.nrm3 ?_)); simp only [GA, ↓GB, List.filterMap_cons, eq_self, BEq.rfl, simprocAttr, finP_s, hnt, hT, hc, hk, hd16]; refine Done.out ?_)
    | (clear hN N; first | (refine hN _ ?_; clear hN N) | (clear hN N; first | (refine hN _ ?_; clear hN N) | (clear hN N; first | (refine hN _ ?_; clear hN N) | (clear hN N; first | (refine hN _ ?_; clear hN N) | (clear hN N; first | (refine hN _ ?_; clear hN N) | (refine hN _ ?_; clear hN N))))))
    | (refine bif2.mk (fun hb => ?_) (fun hb => ?_) <;> (try simp only [hb, GA, ↓GB, List.filterMap_cons, eq_self, BEq.rfl, simprocAttr, hnt, hT, hc, hk, hd16]) <;> ((first | cases hb | (simp only [decide_eq_true_eq, decide_eq_false_iff_not, beq_iff_eq, beq_eq_false_iff_ne, bne_iff_ne, Bool.and_eq_true, Bool.or_eq_true, Bool.not_eq_true', Bool.not_eq_false', Bool.and_eq_false_iff, Bool.or_eq_false_iff, Int.not_lt, Int.not_le] at hb) | skip) <;> (first | (exfalso; omega) | skip)))
    | (refine SX.block ?_)
    | (refine and_mk ?_ ?_; (focus first | decide | omega | rfl | assumption | (simp only [List.length_append, List.length_cons, List.length_nil, B_size]; omega) | (simp; done)))
    | (refine And.intro ?_ ?_))
  all_goals (try refine Done.mk ?_)
  all_goals ((refine hN0 _ _ ⟨[], _, _, ?_, ?_, ?_, ⟨rfl, rfl⟩⟩; (focus exact LeR.of rfl trivial (by simp only [GA, ↓GB, List.filterMap_cons, eq_self, BEq.rfl, simprocAttr, GDs]) (by decide) rfl rfl rfl); rotate_left; (focus rfl)); rfl)
theorem name_ctr (n : Nat) (hn : n < 256) : Ctr Tryd.prog [] 18 [] [vv (.int .u8 n)] (fun os v => os = [] ∧ v = vv (.string (B (nameL n)))) := by
  unfold nameL
  split
  · rename_i h; exact name_star n hn h
  · rename_i h
    rcases (by omega : n / 16 % 3 = 0 ∨ n / 16 % 3 = 1 ∨ n / 16 % 3 = 2) with h3 | h3 | h3 <;> rw [h3]
    · exact name_0 n hn h h3
    · exact name_1 n hn h h3
    · exact name_2 n hn h h3
end Go.Proofs.YtbdacbcpniegiaaDoor
