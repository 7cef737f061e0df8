/- Own work: a part of the symbolic executor and of the walks of the functions that the claim reaches. -/
import Derived.Test.YtbdacbcpniegiaaDoorBase4
namespace Go.Proofs.YtbdacbcpniegiaaDoor
open Go Go.RowKit Go.Proofs Go.Sx
set_option maxHeartbeats 4000000
set_option maxRecDepth 100000
set_option linter.unusedSimpArgs false
set_option linter.unusedVariables false
def led (ms : List Mk) : List LO := [.cells [.row 1] 148, mrow ms]
theorem erase_ctr (ms : List Mk) (hms : ms.length ≤ 1000000) : Ctr Tryd.prog [] 34 [.cells [.row 1] 148, mrow ms] [.one (.c (.loc 0 0))]
    (fun os v => os = [.cells [.row 2] 148, .gone, mrow (ms.filter fun m => !isPend m)] ∧ v = .tup []) := by
  intro X0 hP0 hG0 N0 hN0
  refine CallVC.inline (f := 34) (by rw [hP0]; exact Tryd.func34) rfl Tryd.ntmps34 rfl (by simp) ?_
  intro X K hU hnt hbl hK
  have hP : X.P = Tryd.prog := by rw [hU.P, hP0]
  have hG := hG0.under hU
  have hT : fieldOff X.P 148 0 = some 0 ∧ aggOf X.P 59 = some false ∧ szOf X.P 59 = some 1 ∧ calleeOk X.P 87 = true := by rw [hP]; exact ⟨Ty.fo148_0, Ty.ag59, Ty.sz59, Ty.co87⟩
  simp only [WS, JA, JB, wI64, wU64, Int.reduceAdd, Int.reduceSub, Int.reduceMul, Int.reduceLE, Int.reduceLT, Int.reduceNeg, Int.reduceToNat, Int.cast_ofNat_Int, sx0, sx1, sx2, sx3, sx4, sx5, sx6, sx7, sy0, sy1, List.filterMap_cons, JC, JD, WT, JE, JF, JG, JH, JI, JJ, JK, WU, JL, JM, JN, JO, WV, JP, JQ, WW, JR, JS, JT, JU, JV, JW, JX, JY, JZ, WA, WB, WC, WD, WE, WF, WG, WH, WI, WJ, WK, WL, WM, WN, true_and, and_true, reduceCtorEq, ↓reduceIte, ↓bifT, ↓bifF, ↓gifT, ↓gifF, eq_self, WO, WP, WQ, Nat.reduceLT, Nat.reduceLeDiff, Nat.reduceAdd, Nat.reduceSub, Nat.reduceMul, Nat.reduceMod, WR, Nat.reduceBEq, Int.reduceBEq, Int.reduceBNe, BEq.rfl] at hbl ⊢
  repeat' (first
    | (refine SX.seqK ?_; intro N hN)
    | ((first | (refine SX.ops ?_)); simp only [WS, JA, JB, wI64, wU64, Int.reduceAdd, Int.reduceSub, Int.reduceMul, Int.reduceLE, Int.reduceLT, Int.reduceNeg, Int.reduceToNat, Int.cast_ofNat_Int, sx0, sx1, sx2, sx3, sx4, sx5, sx6, sx7, sy0, sy1, List.filterMap_cons, JC, JD, WT, JE, JF, JG, JH, JI, JJ, JK, WU, JL, JM, JN, JO, WV, JP, JQ, WW, JR, JS, JT, JU, JV, JW, JX, JY, JZ, WA, WB, WC, WD, WE, WF, WG, WH, WI, WJ, WK, WL, WM, WN, true_and, and_true, reduceCtorEq, ↓reduceIte, ↓bifT, ↓bifF, ↓gifT, ↓gifF, eq_self, WO, WP, WQ, Nat.reduceLT, Nat.reduceLeDiff, Nat.reduceAdd, Nat.reduceSub, Nat.reduceMul, Nat.reduceMod, WR, Nat.reduceBEq, Int.reduceBEq, Int.reduceBNe, BEq.rfl, hnt, hT])
    | ((first | refine SX.skip ?_ | refine SX.exit ?_ | refine SX.label ?_); try simp only [WS, JA, JB, wI64, wU64, Int.reduceAdd, Int.reduceSub, Int.reduceMul, Int.reduceLE, Int.reduceLT, Int.reduceNeg, Int.reduceToNat, Int.cast_ofNat_Int, sx0, sx1, sx2, sx3, sx4, sx5, sx6, sx7, sy0, sy1, List.filterMap_cons, JC, JD, WT, JE, JF, JG, JH, JI, JJ, JK, WU, JL, JM, JN, JO, WV, JP, JQ, WW, JR, JS, JT, JU, JV, JW, JX, JY, JZ, WA, WB, WC, WD, WE, WF, WG, WH, WI, WJ, WK, WL, WM, WN, true_and, and_true, reduceCtorEq, ↓reduceIte, ↓bifT, ↓bifF, ↓gifT, ↓gifF, eq_self, WO, WP, WQ, Nat.reduceLT, Nat.reduceLeDiff, Nat.reduceAdd, Nat.reduceSub, Nat.reduceMul, Nat.reduceMod, WR, Nat.reduceBEq, Int.reduceBEq, Int.reduceBNe, BEq.rfl])
    | (refine SX.cond rfl (fun hb => ?_) (fun hb => ?_) <;> ((first | cases hb | (simp only [decide_eq_true_eq, decide_eq_false_iff_not, beq_iff_eq, beq_eq_false_iff_ne, bne_iff_ne, Bool.and_eq_true, Bool.or_eq_true, Bool.not_eq_true', Bool.not_eq_false', Bool.and_eq_false_iff, Bool.or_eq_false_iff, Int.not_lt, Int.not_le] at hb) | skip) <;> (first | (exfalso; omega) | skip)))
    | (refine SX.ret ?_; try simp only [WS, JA, JB, wI64, wU64, Int.reduceAdd, Int.reduceSub, Int.reduceMul, Int.reduceLE, Int.reduceLT, Int.reduceNeg, Int.reduceToNat, Int.cast_ofNat_Int, sx0, sx1, sx2, sx3, sx4, sx5, sx6, sx7, sy0, sy1, List.filterMap_cons, JC, JD, WT, JE, JF, JG, JH, JI, JJ, JK, WU, JL, JM, JN, JO, WV, JP, JQ, WW, JR, JS, JT, JU, JV, JW, JX, JY, JZ, WA, WB, WC, WD, WE, WF, WG, WH, WI, WJ, WK, WL, WM, WN, true_and, and_true, reduceCtorEq, ↓reduceIte, ↓bifT, ↓bifF, ↓gifT, ↓gifF, eq_self, WO, WP, WQ, Nat.reduceLT, Nat.reduceLeDiff, Nat.reduceAdd, Nat.reduceSub, Nat.reduceMul, Nat.reduceMod, WR, Nat.reduceBEq, Int.reduceBEq, Int.reduceBNe, BEq.rfl])
    | (refine hN _ ?_; clear hN N)
    | ((first | refine hK _ _ (FinI.ret3 ?_) | refine hK _ _ (FinI.nrm3 ?_)); simp only [WS, JA, JB, wI64, wU64, Int.reduceAdd, Int.reduceSub, Int.reduceMul, Int.reduceLE, Int.reduceLT, Int.reduceNeg, Int.reduceToNat, Int.cast_ofNat_Int, sx0, sx1, sx2, sx3, sx4, sx5, sx6, sx7, sy0, sy1, List.filterMap_cons, JC, JD, WT, JE, JF, JG, JH, JI, JJ, JK, WU, JL, JM, JN, JO, WV, JP, JQ, WW, JR, JS, JT, JU, JV, JW, JX, JY, JZ, WA, WB, WC, WD, WE, WF, WG, WH, WI, WJ, WK, WL, WM, WN, true_and, and_true, reduceCtorEq, ↓reduceIte, ↓bifT, ↓bifF, ↓gifT, ↓gifF, eq_self, WO, WP, WQ, Nat.reduceLT, Nat.reduceLeDiff, Nat.reduceAdd, Nat.reduceSub, Nat.reduceMul, Nat.reduceMod, WR, Nat.reduceBEq, Int.reduceBEq, Int.reduceBNe, BEq.rfl, finP_s, hnt, hT]; refine Done.out ?_)
    | (clear hN N; first | (refine hN _ ?_; clear hN N) | (clear hN N; first | (refine hN _ ?_; clear hN N) | (clear hN N; first | (refine hN _ ?_; clear hN N) | (clear hN N; first | (refine hN _ ?_; clear hN N) | (clear hN N; first | (refine hN _ ?_; clear hN N) | (refine hN _ ?_; clear hN N))))))
    | (refine bif2.mk (fun hb => ?_) (fun hb => ?_) <;> (try simp only [hb, WS, JA, JB, wI64, wU64, Int.reduceAdd, Int.reduceSub, Int.reduceMul, Int.reduceLE, Int.reduceLT, Int.reduceNeg, Int.reduceToNat, Int.cast_ofNat_Int, sx0, sx1, sx2, sx3, sx4, sx5, sx6, sx7, sy0, sy1, List.filterMap_cons, JC, JD, WT, JE, JF, JG, JH, JI, JJ, JK, WU, JL, JM, JN, JO, WV, JP, JQ, WW, JR, JS, JT, JU, JV, JW, JX, JY, JZ, WA, WB, WC, WD, WE, WF, WG, WH, WI, WJ, WK, WL, WM, WN, true_and, and_true, reduceCtorEq, ↓reduceIte, ↓bifT, ↓bifF, ↓gifT, ↓gifF, eq_self, WO, WP, WQ, Nat.reduceLT, Nat.reduceLeDiff, Nat.reduceAdd, Nat.reduceSub, Nat.reduceMul, Nat.reduceMod, WR, Nat.reduceBEq, Int.reduceBEq, Int.reduceBNe, BEq.rfl, hnt, hT]) <;> ((first | cases hb | (simp only [decide_eq_true_eq, decide_eq_false_iff_not, beq_iff_eq, beq_eq_false_iff_ne, bne_iff_ne, Bool.and_eq_true, Bool.or_eq_true, Bool.not_eq_true', Bool.not_eq_false', Bool.and_eq_false_iff, Bool.or_eq_false_iff, Int.not_lt, Int.not_le] at hb) | skip) <;> (first | (exfalso; omega) | skip)))
    | ((first | (refine Ctr.use (deleteFuncE ms hms) hP ?_ [1] ?_ rfl rfl ?_; (focus (intro p hp; cases hp)); (focus (refine LeR.of rfl trivial ?_ ?_ ?_ ?_ ?_ <;> first | decide | (simp only [WS, JA, JB, wI64, wU64, Int.reduceAdd, Int.reduceSub, Int.reduceMul, Int.reduceLE, Int.reduceLT, Int.reduceNeg, Int.reduceToNat, Int.cast_ofNat_Int, sx0, sx1, sx2, sx3, sx4, sx5, sx6, sx7, sy0, sy1, List.filterMap_cons, JC, JD, WT, JE, JF, JG, JH, JI, JJ, JK, WU, JL, JM, JN, JO, WV, JP, JQ, WW, JR, JS, JT, JU, JV, JW, JX, JY, JZ, WA, WB, WC, WD, WE, WF, WG, WH, WI, WJ, WK, WL, WM, WN, true_and, and_true, reduceCtorEq, ↓reduceIte, ↓bifT, ↓bifF, ↓gifT, ↓gifF, eq_self, WO, WP, WQ, Nat.reduceLT, Nat.reduceLeDiff, Nat.reduceAdd, Nat.reduceSub, Nat.reduceMul, Nat.reduceMod, WR, Nat.reduceBEq, Int.reduceBEq, Int.reduceBNe, BEq.rfl, List.getD_cons_zero, List.getD_cons_succ, or_false, false_or, or_self, or_true, true_or, decide_true]; done))); intro os' s hR; obtain ⟨rfl, rfl⟩ := hR)); simp only [WS, JA, JB, wI64, wU64, Int.reduceAdd, Int.reduceSub, Int.reduceMul, Int.reduceLE, Int.reduceLT, Int.reduceNeg, Int.reduceToNat, Int.cast_ofNat_Int, sx0, sx1, sx2, sx3, sx4, sx5, sx6, sx7, sy0, sy1, List.filterMap_cons, JC, JD, WT, JE, JF, JG, JH, JI, JJ, JK, WU, JL, JM, JN, JO, WV, JP, JQ, WW, JR, JS, JT, JU, JV, JW, JX, JY, JZ, WA, WB, WC, WD, WE, WF, WG, WH, WI, WJ, WK, WL, WM, WN, true_and, and_true, reduceCtorEq, ↓reduceIte, ↓bifT, ↓bifF, ↓gifT, ↓gifF, eq_self, WO, WP, WQ, Nat.reduceLT, Nat.reduceLeDiff, Nat.reduceAdd, Nat.reduceSub, Nat.reduceMul, Nat.reduceMod, WR, Nat.reduceBEq, Int.reduceBEq, Int.reduceBNe, BEq.rfl, hnt, hT])
    | (refine SX.block ?_)
    | (refine and_mk ?_ ?_; (focus first | decide | omega | rfl | assumption | (simp only [List.length_append, List.length_cons, List.length_nil, B_size]; omega) | (simp; done)))
    | (refine And.intro ?_ ?_))
  all_goals (try refine Done.mk ?_)
  all_goals exact hN0 _ _ ⟨rfl, rfl⟩
def askM (t : Int) (s : List UInt8) (q : Int) : Mk := ⟨t, s, q, 0, []⟩
def hasM (ms : List Mk) (x : Mk) : Bool := decide (bsN ms x < ms.length) && decide (cmpM (ms.getD (bsN ms x) default) x = 0)
theorem find_yes (ms : List Mk) (hms : ms.length ≤ 1000000) (t : Int) (s : List UInt8) (q : Int) (hs : Sorted2 ms (askM t s q)) (hf : hasM ms (askM t s q) = true) : Ctr Tryd.prog [] 89 [.cells [.row 1] 148, mrow ms] [.one (.c (.loc 0 0)), .one (.agg [.v (.int .i64 t), .v (.string (B s))]), vv (.int .u64 q)]
    (fun os v => os = [.cells [.row 1] 148, mrow ms] ∧ v = .tup [.c (.ri 1 (bsN ms (askM t s q) * 5)), .c (.v (.bool true))]) := by
  refine Ctr.less ?_
  have hf2 := hf
  simp only [hasM, Bool.and_eq_true, decide_eq_true_eq] at hf2
  have hc1 : decide (bsN ms (askM t s q) < ms.length) = true := by simp [hf2.1]
  have hc2 : decide (cmpM (ms.getD (bsN ms (askM t s q)) default) (askM t s q) = 0) = true := decide_eq_true hf2.2
  have hlt := hf2.1
  intro X0 hP0 hG0 N0 hN0
  refine CallVC.inline (f := 89) (by rw [hP0]; exact Tryd.func89) rfl Tryd.ntmps89 rfl (by simp) ?_
  intro X K hU hnt hbl hK
  have hP : X.P = Tryd.prog := by rw [hU.P, hP0]
  have hG := hG0.under hU
  have hT : fieldOff X.P 148 0 = some 0 ∧ aggOf X.P 59 = some false ∧ szOf X.P 59 = some 1 ∧ aggOf X.P 26 = some true ∧ szOf X.P 26 = some 2 ∧ fieldsOf X.P 62 = some [(0, 2), (2, 1), (3, 1), (4, 1)] ∧ zeroCells X.P 62 = some [(Value.int IntKind.i64 0), (Value.string { data := #[] }), (Value.int IntKind.u64 0), (Value.int IntKind.i64 0), (Value.string { data := #[] })] ∧ calleeOk X.P 81 = true ∧ elemSz X.P 59 = some (62, 5) := by rw [hP]; exact ⟨Ty.fo148_0, Ty.ag59, Ty.sz59, Ty.ag26, Ty.sz26, Ty.fs62, Ty.ze62, Ty.co81, Ty.el59⟩
  simp only [WS, JA, JB, wI64, wU64, Int.reduceAdd, Int.reduceSub, Int.reduceMul, Int.reduceLE, Int.reduceLT, Int.reduceNeg, Int.reduceToNat, Int.cast_ofNat_Int, sx0, sx1, sx2, sx3, sx4, sx5, sx6, sx7, sy0, sy1, List.filterMap_cons, JC, JD, WT, JE, JF, JG, JH, JI, JJ, JK, WU, JL, JM, JN, JO, WV, JP, JQ, WW, JR, JS, JT, JU, JV, JW, JX, JY, JZ, WA, WB, WC, WD, WE, WF, WG, WH, WI, WJ, WK, WL, WM, WN, true_and, and_true, reduceCtorEq, ↓reduceIte, ↓bifT, ↓bifF, ↓gifT, ↓gifF, eq_self, WO, WP, WQ, Nat.reduceLT, Nat.reduceLeDiff, Nat.reduceAdd, Nat.reduceSub, Nat.reduceMul, Nat.reduceMod, WR, Nat.reduceBEq, Int.reduceBEq, Int.reduceBNe, BEq.rfl] at hbl ⊢
  repeat' (first
    | (refine SX.seqK ?_; intro N hN)
    | ((first | (refine SX.ops ?_) | (refine SX.planT (id := 1) [.q [(0, [0]), (1, [11]), (2, [12]), (3, [13]), (4, [4]), (5, [2]), (6, [15, 16])] none, .s 7, .s 8, .q [(9, [10]), (10, [10]), (11, [19]), (12, [20])] none] ?_ ?_ ?_; (focus first | (rw [hP]; kernel_rfl) | (rw [hU1P, hP]; kernel_rfl)); (focus kernel_rfl))); simp only [WS, JA, JB, wI64, wU64, Int.reduceAdd, Int.reduceSub, Int.reduceMul, Int.reduceLE, Int.reduceLT, Int.reduceNeg, Int.reduceToNat, Int.cast_ofNat_Int, sx0, sx1, sx2, sx3, sx4, sx5, sx6, sx7, sy0, sy1, List.filterMap_cons, JC, JD, WT, JE, JF, JG, JH, JI, JJ, JK, WU, JL, JM, JN, JO, WV, JP, JQ, WW, JR, JS, JT, JU, JV, JW, JX, JY, JZ, WA, WB, WC, WD, WE, WF, WG, WH, WI, WJ, WK, WL, WM, WN, true_and, and_true, reduceCtorEq, ↓reduceIte, ↓bifT, ↓bifF, ↓gifT, ↓gifF, eq_self, WO, WP, WQ, Nat.reduceLT, Nat.reduceLeDiff, Nat.reduceAdd, Nat.reduceSub, Nat.reduceMul, Nat.reduceMod, WR, Nat.reduceBEq, Int.reduceBEq, Int.reduceBNe, BEq.rfl, hnt, hT, hc1, hc2])
    | ((first | refine SX.skip ?_ | refine SX.exit ?_ | refine SX.label ?_); try simp only [WS, JA, JB, wI64, wU64, Int.reduceAdd, Int.reduceSub, Int.reduceMul, Int.reduceLE, Int.reduceLT, Int.reduceNeg, Int.reduceToNat, Int.cast_ofNat_Int, sx0, sx1, sx2, sx3, sx4, sx5, sx6, sx7, sy0, sy1, List.filterMap_cons, JC, JD, WT, JE, JF, JG, JH, JI, JJ, JK, WU, JL, JM, JN, JO, WV, JP, JQ, WW, JR, JS, JT, JU, JV, JW, JX, JY, JZ, WA, WB, WC, WD, WE, WF, WG, WH, WI, WJ, WK, WL, WM, WN, true_and, and_true, reduceCtorEq, ↓reduceIte, ↓bifT, ↓bifF, ↓gifT, ↓gifF, eq_self, WO, WP, WQ, Nat.reduceLT, Nat.reduceLeDiff, Nat.reduceAdd, Nat.reduceSub, Nat.reduceMul, Nat.reduceMod, WR, Nat.reduceBEq, Int.reduceBEq, Int.reduceBNe, BEq.rfl])
    | (refine SX.cond rfl (fun hb => ?_) (fun hb => ?_) <;> ((first | cases hb | (simp only [decide_eq_true_eq, decide_eq_false_iff_not, beq_iff_eq, beq_eq_false_iff_ne, bne_iff_ne, Bool.and_eq_true, Bool.or_eq_true, Bool.not_eq_true', Bool.not_eq_false', Bool.and_eq_false_iff, Bool.or_eq_false_iff, Int.not_lt, Int.not_le] at hb) | skip) <;> (first | (exfalso; omega) | skip)))
    | (refine SX.ret ?_; try simp only [WS, JA, JB, wI64, wU64, Int.reduceAdd, Int.reduceSub, Int.reduceMul, Int.reduceLE, Int.reduceLT, Int.reduceNeg, Int.reduceToNat, Int.cast_ofNat_Int, sx0, sx1, sx2, sx3, sx4, sx5, sx6, sx7, sy0, sy1, List.filterMap_cons, JC, JD, WT, JE, JF, JG, JH, JI, JJ, JK, WU, JL, JM, JN, JO, WV, JP, JQ, WW, JR, JS, JT, JU, JV, JW, JX, JY, JZ, WA, WB, WC, WD, WE, WF, WG, WH, WI, WJ, WK, WL, WM, WN, true_and, and_true, reduceCtorEq, ↓reduceIte, ↓bifT, ↓bifF, ↓gifT, ↓gifF, eq_self, WO, WP, WQ, Nat.reduceLT, Nat.reduceLeDiff, Nat.reduceAdd, Nat.reduceSub, Nat.reduceMul, Nat.reduceMod, WR, Nat.reduceBEq, Int.reduceBEq, Int.reduceBNe, BEq.rfl])
    | (refine hN _ ?_; clear hN N)
    | ((first | refine hK _ _ (FinI.ret3 ?_) | refine hK _ _ (FinI.nrm3 ?_)); simp only [WS, JA, JB, wI64, wU64, Int.reduceAdd, Int.reduceSub, Int.reduceMul, Int.reduceLE, Int.reduceLT, Int.reduceNeg, Int.reduceToNat, Int.cast_ofNat_Int, sx0, sx1, sx2, sx3, sx4, sx5, sx6, sx7, sy0, sy1, List.filterMap_cons, JC, JD, WT, JE, JF, JG, JH, JI, JJ, JK, WU, JL, JM, JN, JO, WV, JP, JQ, WW, JR, JS, JT, JU, JV, JW, JX, JY, JZ, WA, WB, WC, WD, WE, WF, WG, WH, WI, WJ, WK, WL, WM, WN, true_and, and_true, reduceCtorEq, ↓reduceIte, ↓bifT, ↓bifF, ↓gifT, ↓gifF, eq_self, WO, WP, WQ, Nat.reduceLT, Nat.reduceLeDiff, Nat.reduceAdd, Nat.reduceSub, Nat.reduceMul, Nat.reduceMod, WR, Nat.reduceBEq, Int.reduceBEq, Int.reduceBNe, BEq.rfl, finP_s, hnt, hT, hc1, hc2]; refine Done.out ?_)
    | (clear hN N; first | (refine hN _ ?_; clear hN N) | (clear hN N; first | (refine hN _ ?_; clear hN N) | (clear hN N; first | (refine hN _ ?_; clear hN N) | (clear hN N; first | (refine hN _ ?_; clear hN N) | (clear hN N; first | (refine hN _ ?_; clear hN N) | (refine hN _ ?_; clear hN N))))))
    | (refine bif2.mk (fun hb => ?_) (fun hb => ?_) <;> (try simp only [hb, WS, JA, JB, wI64, wU64, Int.reduceAdd, Int.reduceSub, Int.reduceMul, Int.reduceLE, Int.reduceLT, Int.reduceNeg, Int.reduceToNat, Int.cast_ofNat_Int, sx0, sx1, sx2, sx3, sx4, sx5, sx6, sx7, sy0, sy1, List.filterMap_cons, JC, JD, WT, JE, JF, JG, JH, JI, JJ, JK, WU, JL, JM, JN, JO, WV, JP, JQ, WW, JR, JS, JT, JU, JV, JW, JX, JY, JZ, WA, WB, WC, WD, WE, WF, WG, WH, WI, WJ, WK, WL, WM, WN, true_and, and_true, reduceCtorEq, ↓reduceIte, ↓bifT, ↓bifF, ↓gifT, ↓gifF, eq_self, WO, WP, WQ, Nat.reduceLT, Nat.reduceLeDiff, Nat.reduceAdd, Nat.reduceSub, Nat.reduceMul, Nat.reduceMod, WR, Nat.reduceBEq, Int.reduceBEq, Int.reduceBNe, BEq.rfl, hnt, hT, hc1, hc2]) <;> ((first | cases hb | (simp only [decide_eq_true_eq, decide_eq_false_iff_not, beq_iff_eq, beq_eq_false_iff_ne, bne_iff_ne, Bool.and_eq_true, Bool.or_eq_true, Bool.not_eq_true', Bool.not_eq_false', Bool.and_eq_false_iff, Bool.or_eq_false_iff, Int.not_lt, Int.not_le] at hb) | skip) <;> (first | (exfalso; omega) | skip)))
    | ((first | (refine Ctr.use (search_ctr ms hms (askM t s q) hs) hP ?_ [1] ?_ rfl rfl ?_; (focus (intro p hp; cases hp)); (focus (refine LeR.of rfl trivial ?_ ?_ ?_ ?_ ?_ <;> first | decide | (simp only [WS, JA, JB, wI64, wU64, Int.reduceAdd, Int.reduceSub, Int.reduceMul, Int.reduceLE, Int.reduceLT, Int.reduceNeg, Int.reduceToNat, Int.cast_ofNat_Int, sx0, sx1, sx2, sx3, sx4, sx5, sx6, sx7, sy0, sy1, List.filterMap_cons, JC, JD, WT, JE, JF, JG, JH, JI, JJ, JK, WU, JL, JM, JN, JO, WV, JP, JQ, WW, JR, JS, JT, JU, JV, JW, JX, JY, JZ, WA, WB, WC, WD, WE, WF, WG, WH, WI, WJ, WK, WL, WM, WN, true_and, and_true, reduceCtorEq, ↓reduceIte, ↓bifT, ↓bifF, ↓gifT, ↓gifF, eq_self, WO, WP, WQ, Nat.reduceLT, Nat.reduceLeDiff, Nat.reduceAdd, Nat.reduceSub, Nat.reduceMul, Nat.reduceMod, WR, Nat.reduceBEq, Int.reduceBEq, Int.reduceBNe, BEq.rfl, List.getD_cons_zero, List.getD_cons_succ, or_false, false_or, or_self, or_true, true_or, decide_true]; done))); intro os' s hR; obtain ⟨rfl, rfl⟩ := hR)); simp only [WS, JA, JB, wI64, wU64, Int.reduceAdd, Int.reduceSub, Int.reduceMul, Int.reduceLE, Int.reduceLT, Int.reduceNeg, Int.reduceToNat, Int.cast_ofNat_Int, sx0, sx1, sx2, sx3, sx4, sx5, sx6, sx7, sy0, sy1, List.filterMap_cons, JC, JD, WT, JE, JF, JG, JH, JI, JJ, JK, WU, JL, JM, JN, JO, WV, JP, JQ, WW, JR, JS, JT, JU, JV, JW, JX, JY, JZ, WA, WB, WC, WD, WE, WF, WG, WH, WI, WJ, WK, WL, WM, WN, true_and, and_true, reduceCtorEq, ↓reduceIte, ↓bifT, ↓bifF, ↓gifT, ↓gifF, eq_self, WO, WP, WQ, Nat.reduceLT, Nat.reduceLeDiff, Nat.reduceAdd, Nat.reduceSub, Nat.reduceMul, Nat.reduceMod, WR, Nat.reduceBEq, Int.reduceBEq, Int.reduceBNe, BEq.rfl, hnt, hT, hc1, hc2])
    | (refine ⟨by omega, by omega, ?_⟩)
    | (refine SX.block ?_)
    | (refine and_mk ?_ ?_; (focus first | decide | omega | rfl | assumption | (simp only [List.length_append, List.length_cons, List.length_nil, B_size]; omega) | (simp; done)))
    | (refine And.intro ?_ ?_))
  all_goals (try refine Done.mk ?_)
  all_goals ((refine hN0 _ _ ⟨[0, 1], _, _, ?_, ?_, ?_, ⟨rfl, rfl⟩⟩; (focus exact LeR.of rfl trivial (by simp only [WS, JA, JB, wI64, wU64, Int.reduceAdd, Int.reduceSub, Int.reduceMul, Int.reduceLE, Int.reduceLT, Int.reduceNeg, Int.reduceToNat, Int.cast_ofNat_Int, sx0, sx1, sx2, sx3, sx4, sx5, sx6, sx7, sy0, sy1, List.filterMap_cons, JC, JD, WT, JE, JF, JG, JH, JI, JJ, JK, WU, JL, JM, JN, JO, WV, JP, JQ, WW, JR, JS, JT, JU, JV, JW, JX, JY, JZ, WA, WB, WC, WD, WE, WF, WG, WH, WI, WJ, WK, WL, WM, WN, true_and, and_true, reduceCtorEq, ↓reduceIte, ↓bifT, ↓bifF, ↓gifT, ↓gifF, eq_self, WO, WP, WQ, Nat.reduceLT, Nat.reduceLeDiff, Nat.reduceAdd, Nat.reduceSub, Nat.reduceMul, Nat.reduceMod, WR, Nat.reduceBEq, Int.reduceBEq, Int.reduceBNe, BEq.rfl, List.getD_cons_zero, List.getD_cons_succ, or_false, false_or, or_self, or_true, true_or, decide_true]) (by decide) rfl rfl rfl); rotate_left; (focus rfl)); rfl)
theorem find_no (ms : List Mk) (hms : ms.length ≤ 1000000) (t : Int) (s : List UInt8) (q : Int) (hs : Sorted2 ms (askM t s q)) (hf : hasM ms (askM t s q) = false) : Ctr Tryd.prog [] 89 [.cells [.row 1] 148, mrow ms] [.one (.c (.loc 0 0)), .one (.agg [.v (.int .i64 t), .v (.string (B s))]), vv (.int .u64 q)]
    (fun os v => os = [.cells [.row 1] 148, mrow ms] ∧ v = .tup [.c (.v (.pointer none)), .c (.v (.bool false))]) := by
  refine Ctr.less ?_
  simp only [hasM] at hf
  intro X0 hP0 hG0 N0 hN0
  refine CallVC.inline (f := 89) (by rw [hP0]; exact Tryd.func89) rfl Tryd.ntmps89 rfl (by simp) ?_
  intro X K hU hnt hbl hK
  have hP : X.P = Tryd.prog := by rw [hU.P, hP0]
  have hG := hG0.under hU
  have hT : fieldOff X.P 148 0 = some 0 ∧ aggOf X.P 59 = some false ∧ szOf X.P 59 = some 1 ∧ aggOf X.P 26 = some true ∧ szOf X.P 26 = some 2 ∧ fieldsOf X.P 62 = some [(0, 2), (2, 1), (3, 1), (4, 1)] ∧ zeroCells X.P 62 = some [(Value.int IntKind.i64 0), (Value.string { data := #[] }), (Value.int IntKind.u64 0), (Value.int IntKind.i64 0), (Value.string { data := #[] })] ∧ calleeOk X.P 81 = true ∧ elemSz X.P 59 = some (62, 5) := by rw [hP]; exact ⟨Ty.fo148_0, Ty.ag59, Ty.sz59, Ty.ag26, Ty.sz26, Ty.fs62, Ty.ze62, Ty.co81, Ty.el59⟩
  simp only [WS, JA, JB, wI64, wU64, Int.reduceAdd, Int.reduceSub, Int.reduceMul, Int.reduceLE, Int.reduceLT, Int.reduceNeg, Int.reduceToNat, Int.cast_ofNat_Int, sx0, sx1, sx2, sx3, sx4, sx5, sx6, sx7, sy0, sy1, List.filterMap_cons, JC, JD, WT, JE, JF, JG, JH, JI, JJ, JK, WU, JL, JM, JN, JO, WV, JP, JQ, WW, JR, JS, JT, JU, JV, JW, JX, JY, JZ, WA, WB, WC, WD, WE, WF, WG, WH, WI, WJ, WK, WL, WM, WN, true_and, and_true, reduceCtorEq, ↓reduceIte, ↓bifT, ↓bifF, ↓gifT, ↓gifF, eq_self, WO, WP, WQ, Nat.reduceLT, Nat.reduceLeDiff, Nat.reduceAdd, Nat.reduceSub, Nat.reduceMul, Nat.reduceMod, WR, Nat.reduceBEq, Int.reduceBEq, Int.reduceBNe, BEq.rfl] at hbl ⊢
  repeat' (first
    | (refine SX.seqK ?_; intro N hN)
    | ((first | (refine SX.ops ?_) | (refine SX.planT (id := 1) [.q [(0, [0]), (1, [11]), (2, [12]), (3, [13]), (4, [4]), (5, [2]), (6, [15, 16])] none, .s 7, .s 8, .q [(9, [10]), (10, [10]), (11, [19]), (12, [20])] none] ?_ ?_ ?_; (focus first | (rw [hP]; kernel_rfl) | (rw [hU1P, hP]; kernel_rfl)); (focus kernel_rfl))); simp only [WS, JA, JB, wI64, wU64, Int.reduceAdd, Int.reduceSub, Int.reduceMul, Int.reduceLE, Int.reduceLT, Int.reduceNeg, Int.reduceToNat, Int.cast_ofNat_Int, sx0, sx1, sx2, sx3, sx4, sx5, sx6, sx7, sy0, sy1, List.filterMap_cons, JC, JD, WT, JE, JF, JG, JH, JI, JJ, JK, WU, JL, JM, JN, JO, WV, JP, JQ, WW, JR, JS, JT, JU, JV, JW, JX, JY, JZ, WA, WB, WC, WD, WE, WF, WG, WH, WI, WJ, WK, WL, WM, WN, true_and, and_true, reduceCtorEq, ↓reduceIte, ↓bifT, ↓bifF, ↓gifT, ↓gifF, eq_self, WO, WP, WQ, Nat.reduceLT, Nat.reduceLeDiff, Nat.reduceAdd, Nat.reduceSub, Nat.reduceMul, Nat.reduceMod, WR, Nat.reduceBEq, Int.reduceBEq, Int.reduceBNe, BEq.rfl, hnt, hT, hf])
    | ((first | refine SX.skip ?_ | refine SX.exit ?_ | refine SX.label ?_); try simp only [WS, JA, JB, wI64, wU64, Int.reduceAdd, Int.reduceSub, Int.reduceMul, Int.reduceLE, Int.reduceLT, Int.reduceNeg, Int.reduceToNat, Int.cast_ofNat_Int, sx0, sx1, sx2, sx3, sx4, sx5, sx6, sx7, sy0, sy1, List.filterMap_cons, JC, JD, WT, JE, JF, JG, JH, JI, JJ, JK, WU, JL, JM, JN, JO, WV, JP, JQ, WW, JR, JS, JT, JU, JV, JW, JX, JY, JZ, WA, WB, WC, WD, WE, WF, WG, WH, WI, WJ, WK, WL, WM, WN, true_and, and_true, reduceCtorEq, ↓reduceIte, ↓bifT, ↓bifF, ↓gifT, ↓gifF, eq_self, WO, WP, WQ, Nat.reduceLT, Nat.reduceLeDiff, Nat.reduceAdd, Nat.reduceSub, Nat.reduceMul, Nat.reduceMod, WR, Nat.reduceBEq, Int.reduceBEq, Int.reduceBNe, BEq.rfl])
    | (refine SX.cond rfl (fun hb => ?_) (fun hb => ?_) <;> ((first | cases hb | (simp only [decide_eq_true_eq, decide_eq_false_iff_not, beq_iff_eq, beq_eq_false_iff_ne, bne_iff_ne, Bool.and_eq_true, Bool.or_eq_true, Bool.not_eq_true', Bool.not_eq_false', Bool.and_eq_false_iff, Bool.or_eq_false_iff, Int.not_lt, Int.not_le] at hb) | skip) <;> (first | (exfalso; omega) | skip)))
    | (refine SX.ret ?_; try simp only [WS, JA, JB, wI64, wU64, Int.reduceAdd, Int.reduceSub, Int.reduceMul, Int.reduceLE, Int.reduceLT, Int.reduceNeg, Int.reduceToNat, Int.cast_ofNat_Int, sx0, sx1, sx2, sx3, sx4, sx5, sx6, sx7, sy0, sy1, List.filterMap_cons, JC, JD, WT, JE, JF, JG, JH, JI, JJ, JK, WU, JL, JM, JN, JO, WV, JP, JQ, WW, JR, JS, JT, JU, JV, JW, JX, JY, JZ, WA, WB, WC, WD, WE, WF, WG, WH, WI, WJ, WK, WL, WM, WN, true_and, and_true, reduceCtorEq, ↓reduceIte, ↓bifT, ↓bifF, ↓gifT, ↓gifF, eq_self, WO, WP, WQ, Nat.reduceLT, Nat.reduceLeDiff, Nat.reduceAdd, Nat.reduceSub, Nat.reduceMul, Nat.reduceMod, WR, Nat.reduceBEq, Int.reduceBEq, Int.reduceBNe, BEq.rfl])
    | (refine hN _ ?_; clear hN N)
    | ((first | refine hK _ _ (FinI.ret3 ?_) | refine hK _ _ (FinI.nrm3 ?_)); simp only [WS, JA, JB, wI64, wU64, Int.reduceAdd, Int.reduceSub, Int.reduceMul, Int.reduceLE, Int.reduceLT, Int.reduceNeg, Int.reduceToNat, Int.cast_ofNat_Int, sx0, sx1, sx2, sx3, sx4, sx5, sx6, sx7, sy0, sy1, List.filterMap_cons, JC, JD, WT, JE, JF, JG, JH, JI, JJ, JK, WU, JL, JM, JN, JO, WV, JP, JQ, WW, JR, JS, JT, JU, JV, JW, JX, JY, JZ, WA, WB, WC, WD, WE, WF, WG, WH, WI, WJ, WK, WL, WM, WN, true_and, and_true, reduceCtorEq, ↓reduceIte, ↓bifT, ↓bifF, ↓gifT, ↓gifF, eq_self, WO, WP, WQ, Nat.reduceLT, Nat.reduceLeDiff, Nat.reduceAdd, Nat.reduceSub, Nat.reduceMul, Nat.reduceMod, WR, Nat.reduceBEq, Int.reduceBEq, Int.reduceBNe, BEq.rfl, finP_s, hnt, hT, hf]; refine Done.out ?_)
    | (clear hN N; first | (refine hN _ ?_; clear hN N) | (clear hN N; first | (refine hN _ ?_; clear hN N) | (clear hN N; first | (refine hN _ ?_; clear hN N) | (clear hN N; first | (refine hN _ ?_; clear hN N) | (clear hN N; first | (refine hN _ ?_; clear hN N) | (refine hN _ ?_; clear hN N))))))
    | (refine bif2.mk (fun hb => ?_) (fun hb => ?_) <;> (try simp only [hb, WS, JA, JB, wI64, wU64, Int.reduceAdd, Int.reduceSub, Int.reduceMul, Int.reduceLE, Int.reduceLT, Int.reduceNeg, Int.reduceToNat, Int.cast_ofNat_Int, sx0, sx1, sx2, sx3, sx4, sx5, sx6, sx7, sy0, sy1, List.filterMap_cons, JC, JD, WT, JE, JF, JG, JH, JI, JJ, JK, WU, JL, JM, JN, JO, WV, JP, JQ, WW, JR, JS, JT, JU, JV, JW, JX, JY, JZ, WA, WB, WC, WD, WE, WF, WG, WH, WI, WJ, WK, WL, WM, WN, true_and, and_true, reduceCtorEq, ↓reduceIte, ↓bifT, ↓bifF, ↓gifT, ↓gifF, eq_self, WO, WP, WQ, Nat.reduceLT, Nat.reduceLeDiff, Nat.reduceAdd, Nat.reduceSub, Nat.reduceMul, Nat.reduceMod, WR, Nat.reduceBEq, Int.reduceBEq, Int.reduceBNe, BEq.rfl, hnt, hT, hf]) <;> ((first | cases hb | (simp only [decide_eq_true_eq, decide_eq_false_iff_not, beq_iff_eq, beq_eq_false_iff_ne, bne_iff_ne, Bool.and_eq_true, Bool.or_eq_true, Bool.not_eq_true', Bool.not_eq_false', Bool.and_eq_false_iff, Bool.or_eq_false_iff, Int.not_lt, Int.not_le] at hb) | skip) <;> (first | (exfalso; omega) | skip)))
    | ((first | (refine Ctr.use (search_ctr ms hms (askM t s q) hs) hP ?_ [1] ?_ rfl rfl ?_; (focus (intro p hp; cases hp)); (focus (refine LeR.of rfl trivial ?_ ?_ ?_ ?_ ?_ <;> first | decide | (simp only [WS, JA, JB, wI64, wU64, Int.reduceAdd, Int.reduceSub, Int.reduceMul, Int.reduceLE, Int.reduceLT, Int.reduceNeg, Int.reduceToNat, Int.cast_ofNat_Int, sx0, sx1, sx2, sx3, sx4, sx5, sx6, sx7, sy0, sy1, List.filterMap_cons, JC, JD, WT, JE, JF, JG, JH, JI, JJ, JK, WU, JL, JM, JN, JO, WV, JP, JQ, WW, JR, JS, JT, JU, JV, JW, JX, JY, JZ, WA, WB, WC, WD, WE, WF, WG, WH, WI, WJ, WK, WL, WM, WN, true_and, and_true, reduceCtorEq, ↓reduceIte, ↓bifT, ↓bifF, ↓gifT, ↓gifF, eq_self, WO, WP, WQ, Nat.reduceLT, Nat.reduceLeDiff, Nat.reduceAdd, Nat.reduceSub, Nat.reduceMul, Nat.reduceMod, WR, Nat.reduceBEq, Int.reduceBEq, Int.reduceBNe, BEq.rfl, List.getD_cons_zero, List.getD_cons_succ, or_false, false_or, or_self, or_true, true_or, decide_true]; done))); intro os' s hR; obtain ⟨rfl, rfl⟩ := hR)); simp only [WS, JA, JB, wI64, wU64, Int.reduceAdd, Int.reduceSub, Int.reduceMul, Int.reduceLE, Int.reduceLT, Int.reduceNeg, Int.reduceToNat, Int.cast_ofNat_Int, sx0, sx1, sx2, sx3, sx4, sx5, sx6, sx7, sy0, sy1, List.filterMap_cons, JC, JD, WT, JE, JF, JG, JH, JI, JJ, JK, WU, JL, JM, JN, JO, WV, JP, JQ, WW, JR, JS, JT, JU, JV, JW, JX, JY, JZ, WA, WB, WC, WD, WE, WF, WG, WH, WI, WJ, WK, WL, WM, WN, true_and, and_true, reduceCtorEq, ↓reduceIte, ↓bifT, ↓bifF, ↓gifT, ↓gifF, eq_self, WO, WP, WQ, Nat.reduceLT, Nat.reduceLeDiff, Nat.reduceAdd, Nat.reduceSub, Nat.reduceMul, Nat.reduceMod, WR, Nat.reduceBEq, Int.reduceBEq, Int.reduceBNe, BEq.rfl, hnt, hT, hf])
    | (refine ⟨by omega, by omega, ?_⟩)
    | (refine SX.block ?_)
    | (refine and_mk ?_ ?_; (focus first | decide | omega | rfl | assumption | (simp only [List.length_append, List.length_cons, List.length_nil, B_size]; omega) | (simp; done)))
    | (refine And.intro ?_ ?_))
  all_goals (try refine Done.mk ?_)
  all_goals ((refine hN0 _ _ ⟨[0, 1], _, _, ?_, ?_, ?_, ⟨rfl, rfl⟩⟩; (focus exact LeR.of rfl trivial (by simp only [WS, JA, JB, wI64, wU64, Int.reduceAdd, Int.reduceSub, Int.reduceMul, Int.reduceLE, Int.reduceLT, Int.reduceNeg, Int.reduceToNat, Int.cast_ofNat_Int, sx0, sx1, sx2, sx3, sx4, sx5, sx6, sx7, sy0, sy1, List.filterMap_cons, JC, JD, WT, JE, JF, JG, JH, JI, JJ, JK, WU, JL, JM, JN, JO, WV, JP, JQ, WW, JR, JS, JT, JU, JV, JW, JX, JY, JZ, WA, WB, WC, WD, WE, WF, WG, WH, WI, WJ, WK, WL, WM, WN, true_and, and_true, reduceCtorEq, ↓reduceIte, ↓bifT, ↓bifF, ↓gifT, ↓gifF, eq_self, WO, WP, WQ, Nat.reduceLT, Nat.reduceLeDiff, Nat.reduceAdd, Nat.reduceSub, Nat.reduceMul, Nat.reduceMod, WR, Nat.reduceBEq, Int.reduceBEq, Int.reduceBNe, BEq.rfl, List.getD_cons_zero, List.getD_cons_succ, or_false, false_or, or_self, or_true, true_or, decide_true]) (by decide) rfl rfl rfl); rotate_left; (focus rfl)); rfl)
theorem mks_cell (ms : List Mk) (i j : Nat) (h : i < ms.length) (hj : j < 5) : (mks ms)[i * 5 + j]? = (ms.getD i default).cells[j]? := by
  rw [← mks_at ms i h, List.getElem?_take_of_lt hj, List.getElem?_drop]
theorem mks_st (ms : List Mk) (i : Nat) (h : i < ms.length) : (mks ms)[i * 5 + 3]? = some (.int .i64 (ms.getD i default).st) := by rw [mks_cell ms i 3 h (by decide)]; rfl
theorem mks_d (ms : List Mk) (i : Nat) (h : i < ms.length) : (mks ms)[i * 5 + 4]? = some (.string (B (ms.getD i default).d)) := by rw [mks_cell ms i 4 h (by decide)]; rfl
theorem state_yes (ms : List Mk) (hms : ms.length ≤ 1000000) (t : Int) (s : List UInt8) (q : Int) (hs : Sorted2 ms (askM t s q)) (hf : hasM ms (askM t s q) = true) : Ctr Tryd.prog [] 30 [.cells [.row 1] 148, mrow ms] [.one (.c (.loc 0 0)), .one (.agg [.v (.int .i64 t), .v (.string (B s))]), vv (.int .u64 q)]
    (fun os v => os = [.cells [.row 1] 148, mrow ms] ∧ v = .tup [.c (.v (.int .i64 (ms.getD (bsN ms (askM t s q)) default).st)), .c (.v (.string (B (ms.getD (bsN ms (askM t s q)) default).d)))]) := by
  refine Ctr.less ?_
  have hlt : bsN ms (askM t s q) < ms.length := by
    simp only [hasM, Bool.and_eq_true, decide_eq_true_eq] at hf
    exact hf.1
  intro X0 hP0 hG0 N0 hN0
  refine CallVC.inline (f := 30) (by rw [hP0]; exact Tryd.func30) rfl Tryd.ntmps30 rfl (by simp) ?_
  intro X K hU hnt hbl hK
  have hP : X.P = Tryd.prog := by rw [hU.P, hP0]
  have hG := hG0.under hU
  have hT : aggOf X.P 26 = some true ∧ szOf X.P 26 = some 2 ∧ calleeOk X.P 89 = true ∧ fieldOff X.P 62 2 = some 3 ∧ aggOf X.P 3 = some false ∧ szOf X.P 3 = some 1 ∧ fieldOff X.P 62 3 = some 4 ∧ aggOf X.P 9 = some false ∧ szOf X.P 9 = some 1 := by rw [hP]; exact ⟨Ty.ag26, Ty.sz26, Ty.co89, Ty.fo62_2, Ty.ag3, Ty.sz3, Ty.fo62_3, Ty.ag9, Ty.sz9⟩
  simp only [WS, JA, JB, wI64, wU64, Int.reduceAdd, Int.reduceSub, Int.reduceMul, Int.reduceLE, Int.reduceLT, Int.reduceNeg, Int.reduceToNat, Int.cast_ofNat_Int, sx0, sx1, sx2, sx3, sx4, sx5, sx6, sx7, sy0, sy1, List.filterMap_cons, JC, JD, WT, JE, JF, JG, JH, JI, JJ, JK, WU, JL, JM, JN, JO, WV, JP, JQ, WW, JR, JS, JT, JU, JV, JW, JX, JY, JZ, WA, WB, WC, WD, WE, WF, WG, WH, WI, WJ, WK, WL, WM, WN, true_and, and_true, reduceCtorEq, ↓reduceIte, ↓bifT, ↓bifF, ↓gifT, ↓gifF, eq_self, WO, WP, WQ, Nat.reduceLT, Nat.reduceLeDiff, Nat.reduceAdd, Nat.reduceSub, Nat.reduceMul, Nat.reduceMod, WR, Nat.reduceBEq, Int.reduceBEq, Int.reduceBNe, BEq.rfl] at hbl ⊢
  repeat' (first
    | (refine SX.seqK ?_; intro N hN)
    | ((first | (refine SX.ops ?_) | (refine SX.planT (id := 4) [.q [(0, [8]), (1, [19]), (2, [20]), (3, [21]), (4, [8]), (5, [23]), (6, [24]), (7, [25]), (8, [22]), (9, [26])] none] ?_ ?_ ?_; (focus first | (rw [hP]; kernel_rfl) | (rw [hU1P, hP]; kernel_rfl)); (focus kernel_rfl))); simp only [WS, JA, JB, wI64, wU64, Int.reduceAdd, Int.reduceSub, Int.reduceMul, Int.reduceLE, Int.reduceLT, Int.reduceNeg, Int.reduceToNat, Int.cast_ofNat_Int, sx0, sx1, sx2, sx3, sx4, sx5, sx6, sx7, sy0, sy1, List.filterMap_cons, JC, JD, WT, JE, JF, JG, JH, JI, JJ, JK, WU, JL, JM, JN, JO, WV, JP, JQ, WW, JR, JS, JT, JU, JV, JW, JX, JY, JZ, WA, WB, WC, WD, WE, WF, WG, WH, WI, WJ, WK, WL, WM, WN, true_and, and_true, reduceCtorEq, ↓reduceIte, ↓bifT, ↓bifF, ↓gifT, ↓gifF, eq_self, WO, WP, WQ, Nat.reduceLT, Nat.reduceLeDiff, Nat.reduceAdd, Nat.reduceSub, Nat.reduceMul, Nat.reduceMod, WR, Nat.reduceBEq, Int.reduceBEq, Int.reduceBNe, BEq.rfl, hnt, hT])
    | ((first | refine SX.skip ?_ | refine SX.exit ?_ | refine SX.label ?_); try simp only [WS, JA, JB, wI64, wU64, Int.reduceAdd, Int.reduceSub, Int.reduceMul, Int.reduceLE, Int.reduceLT, Int.reduceNeg, Int.reduceToNat, Int.cast_ofNat_Int, sx0, sx1, sx2, sx3, sx4, sx5, sx6, sx7, sy0, sy1, List.filterMap_cons, JC, JD, WT, JE, JF, JG, JH, JI, JJ, JK, WU, JL, JM, JN, JO, WV, JP, JQ, WW, JR, JS, JT, JU, JV, JW, JX, JY, JZ, WA, WB, WC, WD, WE, WF, WG, WH, WI, WJ, WK, WL, WM, WN, true_and, and_true, reduceCtorEq, ↓reduceIte, ↓bifT, ↓bifF, ↓gifT, ↓gifF, eq_self, WO, WP, WQ, Nat.reduceLT, Nat.reduceLeDiff, Nat.reduceAdd, Nat.reduceSub, Nat.reduceMul, Nat.reduceMod, WR, Nat.reduceBEq, Int.reduceBEq, Int.reduceBNe, BEq.rfl])
    | (refine SX.cond rfl (fun hb => ?_) (fun hb => ?_) <;> ((first | cases hb | (simp only [decide_eq_true_eq, decide_eq_false_iff_not, beq_iff_eq, beq_eq_false_iff_ne, bne_iff_ne, Bool.and_eq_true, Bool.or_eq_true, Bool.not_eq_true', Bool.not_eq_false', Bool.and_eq_false_iff, Bool.or_eq_false_iff, Int.not_lt, Int.not_le] at hb) | skip) <;> (first | (exfalso; omega) | skip)))
    | (refine SX.ret ?_; try simp only [WS, JA, JB, wI64, wU64, Int.reduceAdd, Int.reduceSub, Int.reduceMul, Int.reduceLE, Int.reduceLT, Int.reduceNeg, Int.reduceToNat, Int.cast_ofNat_Int, sx0, sx1, sx2, sx3, sx4, sx5, sx6, sx7, sy0, sy1, List.filterMap_cons, JC, JD, WT, JE, JF, JG, JH, JI, JJ, JK, WU, JL, JM, JN, JO, WV, JP, JQ, WW, JR, JS, JT, JU, JV, JW, JX, JY, JZ, WA, WB, WC, WD, WE, WF, WG, WH, WI, WJ, WK, WL, WM, WN, true_and, and_true, reduceCtorEq, ↓reduceIte, ↓bifT, ↓bifF, ↓gifT, ↓gifF, eq_self, WO, WP, WQ, Nat.reduceLT, Nat.reduceLeDiff, Nat.reduceAdd, Nat.reduceSub, Nat.reduceMul, Nat.reduceMod, WR, Nat.reduceBEq, Int.reduceBEq, Int.reduceBNe, BEq.rfl])
    | (refine hN _ ?_; clear hN N)
    | ((first | refine hK _ _ (FinI.ret3 ?_) | refine hK _ _ (FinI.nrm3 ?_)); simp only [WS, JA, JB, wI64, wU64, Int.reduceAdd, Int.reduceSub, Int.reduceMul, Int.reduceLE, Int.reduceLT, Int.reduceNeg, Int.reduceToNat, Int.cast_ofNat_Int, sx0, sx1, sx2, sx3, sx4, sx5, sx6, sx7, sy0, sy1, List.filterMap_cons, JC, JD, WT, JE, JF, JG, JH, JI, JJ, JK, WU, JL, JM, JN, JO, WV, JP, JQ, WW, JR, JS, JT, JU, JV, JW, JX, JY, JZ, WA, WB, WC, WD, WE, WF, WG, WH, WI, WJ, WK, WL, WM, WN, true_and, and_true, reduceCtorEq, ↓reduceIte, ↓bifT, ↓bifF, ↓gifT, ↓gifF, eq_self, WO, WP, WQ, Nat.reduceLT, Nat.reduceLeDiff, Nat.reduceAdd, Nat.reduceSub, Nat.reduceMul, Nat.reduceMod, WR, Nat.reduceBEq, Int.reduceBEq, Int.reduceBNe, BEq.rfl, finP_s, hnt, hT]; refine Done.out ?_)
    | (clear hN N; first | (refine hN _ ?_; clear hN N) | (clear hN N; first | (refine hN _ ?_; clear hN N) | (clear hN N; first | (refine hN _ ?_; clear hN N) | (clear hN N; first | (refine hN _ ?_; clear hN N) | (clear hN N; first | (refine hN _ ?_; clear hN N) | (refine hN _ ?_; clear hN N))))))
    | (refine bif2.mk (fun hb => ?_) (fun hb => ?_) <;> (try simp only [hb, WS, JA, JB, wI64, wU64, Int.reduceAdd, Int.reduceSub, Int.reduceMul, Int.reduceLE, Int.reduceLT, Int.reduceNeg, Int.reduceToNat, Int.cast_ofNat_Int, sx0, sx1, sx2, sx3, sx4, sx5, sx6, sx7, sy0, sy1, List.filterMap_cons, JC, JD, WT, JE, JF, JG, JH, JI, JJ, JK, WU, JL, JM, JN, JO, WV, JP, JQ, WW, JR, JS, JT, JU, JV, JW, JX, JY, JZ, WA, WB, WC, WD, WE, WF, WG, WH, WI, WJ, WK, WL, WM, WN, true_and, and_true, reduceCtorEq, ↓reduceIte, ↓bifT, ↓bifF, ↓gifT, ↓gifF, eq_self, WO, WP, WQ, Nat.reduceLT, Nat.reduceLeDiff, Nat.reduceAdd, Nat.reduceSub, Nat.reduceMul, Nat.reduceMod, WR, Nat.reduceBEq, Int.reduceBEq, Int.reduceBNe, BEq.rfl, hnt, hT]) <;> ((first | cases hb | (simp only [decide_eq_true_eq, decide_eq_false_iff_not, beq_iff_eq, beq_eq_false_iff_ne, bne_iff_ne, Bool.and_eq_true, Bool.or_eq_true, Bool.not_eq_true', Bool.not_eq_false', Bool.and_eq_false_iff, Bool.or_eq_false_iff, Int.not_lt, Int.not_le] at hb) | skip) <;> (first | (exfalso; omega) | skip)))
    | ((first | (refine Ctr.use (find_yes ms hms t s q hs hf) hP ?_ [0,1] ?_ rfl rfl ?_; (focus (intro p hp; cases hp)); (focus (refine LeR.of rfl trivial ?_ ?_ ?_ ?_ ?_ <;> first | decide | (simp only [WS, JA, JB, wI64, wU64, Int.reduceAdd, Int.reduceSub, Int.reduceMul, Int.reduceLE, Int.reduceLT, Int.reduceNeg, Int.reduceToNat, Int.cast_ofNat_Int, sx0, sx1, sx2, sx3, sx4, sx5, sx6, sx7, sy0, sy1, List.filterMap_cons, JC, JD, WT, JE, JF, JG, JH, JI, JJ, JK, WU, JL, JM, JN, JO, WV, JP, JQ, WW, JR, JS, JT, JU, JV, JW, JX, JY, JZ, WA, WB, WC, WD, WE, WF, WG, WH, WI, WJ, WK, WL, WM, WN, true_and, and_true, reduceCtorEq, ↓reduceIte, ↓bifT, ↓bifF, ↓gifT, ↓gifF, eq_self, WO, WP, WQ, Nat.reduceLT, Nat.reduceLeDiff, Nat.reduceAdd, Nat.reduceSub, Nat.reduceMul, Nat.reduceMod, WR, Nat.reduceBEq, Int.reduceBEq, Int.reduceBNe, BEq.rfl, List.getD_cons_zero, List.getD_cons_succ, or_false, false_or, or_self, or_true, true_or, decide_true]; done))); intro os' s hR; obtain ⟨rfl, rfl⟩ := hR)); simp only [WS, JA, JB, wI64, wU64, Int.reduceAdd, Int.reduceSub, Int.reduceMul, Int.reduceLE, Int.reduceLT, Int.reduceNeg, Int.reduceToNat, Int.cast_ofNat_Int, sx0, sx1, sx2, sx3, sx4, sx5, sx6, sx7, sy0, sy1, List.filterMap_cons, JC, JD, WT, JE, JF, JG, JH, JI, JJ, JK, WU, JL, JM, JN, JO, WV, JP, JQ, WW, JR, JS, JT, JU, JV, JW, JX, JY, JZ, WA, WB, WC, WD, WE, WF, WG, WH, WI, WJ, WK, WL, WM, WN, true_and, and_true, reduceCtorEq, ↓reduceIte, ↓bifT, ↓bifF, ↓gifT, ↓gifF, eq_self, WO, WP, WQ, Nat.reduceLT, Nat.reduceLeDiff, Nat.reduceAdd, Nat.reduceSub, Nat.reduceMul, Nat.reduceMod, WR, Nat.reduceBEq, Int.reduceBEq, Int.reduceBNe, BEq.rfl, hnt, hT])
    | (refine ⟨_, mks_st ms _ hlt, ?_⟩)
    | (refine ⟨_, mks_d ms _ hlt, ?_⟩)
    | (refine SX.block ?_)
    | (refine and_mk ?_ ?_; (focus first | decide | omega | rfl | assumption | (simp only [List.length_append, List.length_cons, List.length_nil, B_size]; omega) | (simp; done)))
    | (refine And.intro ?_ ?_))
  all_goals (try refine Done.mk ?_)
  all_goals ((refine hN0 _ _ ⟨[0, 1], _, _, ?_, ?_, ?_, ⟨rfl, rfl⟩⟩; (focus exact LeR.of rfl trivial (by simp only [WS, JA, JB, wI64, wU64, Int.reduceAdd, Int.reduceSub, Int.reduceMul, Int.reduceLE, Int.reduceLT, Int.reduceNeg, Int.reduceToNat, Int.cast_ofNat_Int, sx0, sx1, sx2, sx3, sx4, sx5, sx6, sx7, sy0, sy1, List.filterMap_cons, JC, JD, WT, JE, JF, JG, JH, JI, JJ, JK, WU, JL, JM, JN, JO, WV, JP, JQ, WW, JR, JS, JT, JU, JV, JW, JX, JY, JZ, WA, WB, WC, WD, WE, WF, WG, WH, WI, WJ, WK, WL, WM, WN, true_and, and_true, reduceCtorEq, ↓reduceIte, ↓bifT, ↓bifF, ↓gifT, ↓gifF, eq_self, WO, WP, WQ, Nat.reduceLT, Nat.reduceLeDiff, Nat.reduceAdd, Nat.reduceSub, Nat.reduceMul, Nat.reduceMod, WR, Nat.reduceBEq, Int.reduceBEq, Int.reduceBNe, BEq.rfl, List.getD_cons_zero, List.getD_cons_succ, or_false, false_or, or_self, or_true, true_or, decide_true]) (by decide) rfl rfl rfl); rotate_left; (focus rfl)); rfl)
theorem state_no (ms : List Mk) (hms : ms.length ≤ 1000000) (t : Int) (s : List UInt8) (q : Int) (hs : Sorted2 ms (askM t s q)) (hf : hasM ms (askM t s q) = false) : Ctr Tryd.prog [] 30 [.cells [.row 1] 148, mrow ms] [.one (.c (.loc 0 0)), .one (.agg [.v (.int .i64 t), .v (.string (B s))]), vv (.int .u64 q)]
    (fun os v => os = [.cells [.row 1] 148, mrow ms] ∧ v = .tup [.c (.v (.int .i64 0)), .c (.v (.string (B [])))]) := by
  refine Ctr.less ?_
  intro X0 hP0 hG0 N0 hN0
  refine CallVC.inline (f := 30) (by rw [hP0]; exact Tryd.func30) rfl Tryd.ntmps30 rfl (by simp) ?_
  intro X K hU hnt hbl hK
  have hP : X.P = Tryd.prog := by rw [hU.P, hP0]
  have hG := hG0.under hU
  have hT : aggOf X.P 26 = some true ∧ szOf X.P 26 = some 2 ∧ calleeOk X.P 89 = true ∧ fieldOff X.P 62 2 = some 3 ∧ aggOf X.P 3 = some false ∧ szOf X.P 3 = some 1 ∧ fieldOff X.P 62 3 = some 4 ∧ aggOf X.P 9 = some false ∧ szOf X.P 9 = some 1 := by rw [hP]; exact ⟨Ty.ag26, Ty.sz26, Ty.co89, Ty.fo62_2, Ty.ag3, Ty.sz3, Ty.fo62_3, Ty.ag9, Ty.sz9⟩
  simp only [WS, JA, JB, wI64, wU64, Int.reduceAdd, Int.reduceSub, Int.reduceMul, Int.reduceLE, Int.reduceLT, Int.reduceNeg, Int.reduceToNat, Int.cast_ofNat_Int, sx0, sx1, sx2, sx3, sx4, sx5, sx6, sx7, sy0, sy1, List.filterMap_cons, JC, JD, WT, JE, JF, JG, JH, JI, JJ, JK, WU, JL, JM, JN, JO, WV, JP, JQ, WW, JR, JS, JT, JU, JV, JW, JX, JY, JZ, WA, WB, WC, WD, WE, WF, WG, WH, WI, WJ, WK, WL, WM, WN, true_and, and_true, reduceCtorEq, ↓reduceIte, ↓bifT, ↓bifF, ↓gifT, ↓gifF, eq_self, WO, WP, WQ, Nat.reduceLT, Nat.reduceLeDiff, Nat.reduceAdd, Nat.reduceSub, Nat.reduceMul, Nat.reduceMod, WR, Nat.reduceBEq, Int.reduceBEq, Int.reduceBNe, BEq.rfl] at hbl ⊢
  repeat' (first
    | (refine SX.seqK ?_; intro N hN)
    | ((first | (refine SX.ops ?_) | (refine SX.planT (id := 4) [.q [(0, [8]), (1, [19]), (2, [20]), (3, [21]), (4, [8]), (5, [23]), (6, [24]), (7, [25]), (8, [22]), (9, [26])] none] ?_ ?_ ?_; (focus first | (rw [hP]; kernel_rfl) | (rw [hU1P, hP]; kernel_rfl)); (focus kernel_rfl))); simp only [WS, JA, JB, wI64, wU64, Int.reduceAdd, Int.reduceSub, Int.reduceMul, Int.reduceLE, Int.reduceLT, Int.reduceNeg, Int.reduceToNat, Int.cast_ofNat_Int, sx0, sx1, sx2, sx3, sx4, sx5, sx6, sx7, sy0, sy1, List.filterMap_cons, JC, JD, WT, JE, JF, JG, JH, JI, JJ, JK, WU, JL, JM, JN, JO, WV, JP, JQ, WW, JR, JS, JT, JU, JV, JW, JX, JY, JZ, WA, WB, WC, WD, WE, WF, WG, WH, WI, WJ, WK, WL, WM, WN, true_and, and_true, reduceCtorEq, ↓reduceIte, ↓bifT, ↓bifF, ↓gifT, ↓gifF, eq_self, WO, WP, WQ, Nat.reduceLT, Nat.reduceLeDiff, Nat.reduceAdd, Nat.reduceSub, Nat.reduceMul, Nat.reduceMod, WR, Nat.reduceBEq, Int.reduceBEq, Int.reduceBNe, BEq.rfl, hnt, hT])
    | ((first | refine SX.skip ?_ | refine SX.exit ?_ | refine SX.label ?_); try simp only [WS, JA, JB, wI64, wU64, Int.reduceAdd, Int.reduceSub, Int.reduceMul, Int.reduceLE, Int.reduceLT, Int.reduceNeg, Int.reduceToNat, Int.cast_ofNat_Int, sx0, sx1, sx2, sx3, sx4, sx5, sx6, sx7, sy0, sy1, List.filterMap_cons, JC, JD, WT, JE, JF, JG, JH, JI, JJ, JK, WU, JL, JM, JN, JO, WV, JP, JQ, WW, JR, JS, JT, JU, JV, JW, JX, JY, JZ, WA, WB, WC, WD, WE, WF, WG, WH, WI, WJ, WK, WL, WM, WN, true_and, and_true, reduceCtorEq, ↓reduceIte, ↓bifT, ↓bifF, ↓gifT, ↓gifF, eq_self, WO, WP, WQ, Nat.reduceLT, Nat.reduceLeDiff, Nat.reduceAdd, Nat.reduceSub, Nat.reduceMul, Nat.reduceMod, WR, Nat.reduceBEq, Int.reduceBEq, Int.reduceBNe, BEq.rfl])
    | (refine SX.cond rfl (fun hb => ?_) (fun hb => ?_) <;> ((first | cases hb | (simp only [decide_eq_true_eq, decide_eq_false_iff_not, beq_iff_eq, beq_eq_false_iff_ne, bne_iff_ne, Bool.and_eq_true, Bool.or_eq_true, Bool.not_eq_true', Bool.not_eq_false', Bool.and_eq_false_iff, Bool.or_eq_false_iff, Int.not_lt, Int.not_le] at hb) | skip) <;> (first | (exfalso; omega) | skip)))
    | (refine SX.ret ?_; try simp only [WS, JA, JB, wI64, wU64, Int.reduceAdd, Int.reduceSub, Int.reduceMul, Int.reduceLE, Int.reduceLT, Int.reduceNeg, Int.reduceToNat, Int.cast_ofNat_Int, sx0, sx1, sx2, sx3, sx4, sx5, sx6, sx7, sy0, sy1, List.filterMap_cons, JC, JD, WT, JE, JF, JG, JH, JI, JJ, JK, WU, JL, JM, JN, JO, WV, JP, JQ, WW, JR, JS, JT, JU, JV, JW, JX, JY, JZ, WA, WB, WC, WD, WE, WF, WG, WH, WI, WJ, WK, WL, WM, WN, true_and, and_true, reduceCtorEq, ↓reduceIte, ↓bifT, ↓bifF, ↓gifT, ↓gifF, eq_self, WO, WP, WQ, Nat.reduceLT, Nat.reduceLeDiff, Nat.reduceAdd, Nat.reduceSub, Nat.reduceMul, Nat.reduceMod, WR, Nat.reduceBEq, Int.reduceBEq, Int.reduceBNe, BEq.rfl])
    | (refine hN _ ?_; clear hN N)
    | ((first | refine hK _ _ (FinI.ret3 ?_) | refine hK _ _ (FinI.nrm3 ?_)); simp only [WS, JA, JB, wI64, wU64, Int.reduceAdd, Int.reduceSub, Int.reduceMul, Int.reduceLE, Int.reduceLT, Int.reduceNeg, Int.reduceToNat, Int.cast_ofNat_Int, sx0, sx1, sx2, sx3, sx4, sx5, sx6, sx7, sy0, sy1, List.filterMap_cons, JC, JD, WT, JE, JF, JG, JH, JI, JJ, JK, WU, JL, JM, JN, JO, WV, JP, JQ, WW, JR, JS, JT, JU, JV, JW, JX, JY, JZ, WA, WB, WC, WD, WE, WF, WG, WH, WI, WJ, WK, WL, WM, WN, true_and, and_true, reduceCtorEq, ↓reduceIte, ↓bifT, ↓bifF, ↓gifT, ↓gifF, eq_self, WO, WP, WQ, Nat.reduceLT, Nat.reduceLeDiff, Nat.reduceAdd, Nat.reduceSub, Nat.reduceMul, Nat.reduceMod, WR, Nat.reduceBEq, Int.reduceBEq, Int.reduceBNe, BEq.rfl, finP_s, hnt, hT]; refine Done.out ?_)
    | (clear hN N; first | (refine hN _ ?_; clear hN N) | (clear hN N; first | (refine hN _ ?_; clear hN N) | (clear hN N; first | (refine hN _ ?_; clear hN N) | (clear hN N; first | (refine hN _ ?_; clear hN N) | (clear hN N; first | (refine hN _ ?_; clear hN N) | (refine hN _ ?_; clear hN N))))))
    | (refine bif2.mk (fun hb => ?_) (fun hb => ?_) <;> (try simp only [hb, WS, JA, JB, wI64, wU64, Int.reduceAdd, Int.reduceSub, Int.reduceMul, Int.reduceLE, Int.reduceLT, Int.reduceNeg, Int.reduceToNat, Int.cast_ofNat_Int, sx0, sx1, sx2, sx3, sx4, sx5, sx6, sx7, sy0, sy1, List.filterMap_cons, JC, JD, WT, JE, JF, JG, JH, JI, JJ, JK, WU, JL, JM, JN, JO, WV, JP, JQ, WW, JR, JS, JT, JU, JV, JW, JX, JY, JZ, WA, WB, WC, WD, WE, WF, WG, WH, WI, WJ, WK, WL, WM, WN, true_and, and_true, reduceCtorEq, ↓reduceIte, ↓bifT, ↓bifF, ↓gifT, ↓gifF, eq_self, WO, WP, WQ, Nat.reduceLT, Nat.reduceLeDiff, Nat.reduceAdd, Nat.reduceSub, Nat.reduceMul, Nat.reduceMod, WR, Nat.reduceBEq, Int.reduceBEq, Int.reduceBNe, BEq.rfl, hnt, hT]) <;> ((first | cases hb | (simp only [decide_eq_true_eq, decide_eq_false_iff_not, beq_iff_eq, beq_eq_false_iff_ne, bne_iff_ne, Bool.and_eq_true, Bool.or_eq_true, Bool.not_eq_true', Bool.not_eq_false', Bool.and_eq_false_iff, Bool.or_eq_false_iff, Int.not_lt, Int.not_le] at hb) | skip) <;> (first | (exfalso; omega) | skip)))
    | ((first | (refine Ctr.use (find_no ms hms t s q hs hf) hP ?_ [0,1] ?_ rfl rfl ?_; (focus (intro p hp; cases hp)); (focus (refine LeR.of rfl trivial ?_ ?_ ?_ ?_ ?_ <;> first | decide | (simp only [WS, JA, JB, wI64, wU64, Int.reduceAdd, Int.reduceSub, Int.reduceMul, Int.reduceLE, Int.reduceLT, Int.reduceNeg, Int.reduceToNat, Int.cast_ofNat_Int, sx0, sx1, sx2, sx3, sx4, sx5, sx6, sx7, sy0, sy1, List.filterMap_cons, JC, JD, WT, JE, JF, JG, JH, JI, JJ, JK, WU, JL, JM, JN, JO, WV, JP, JQ, WW, JR, JS, JT, JU, JV, JW, JX, JY, JZ, WA, WB, WC, WD, WE, WF, WG, WH, WI, WJ, WK, WL, WM, WN, true_and, and_true, reduceCtorEq, ↓reduceIte, ↓bifT, ↓bifF, ↓gifT, ↓gifF, eq_self, WO, WP, WQ, Nat.reduceLT, Nat.reduceLeDiff, Nat.reduceAdd, Nat.reduceSub, Nat.reduceMul, Nat.reduceMod, WR, Nat.reduceBEq, Int.reduceBEq, Int.reduceBNe, BEq.rfl, List.getD_cons_zero, List.getD_cons_succ, or_false, false_or, or_self, or_true, true_or, decide_true]; done))); intro os' s hR; obtain ⟨rfl, rfl⟩ := hR)); simp only [WS, JA, JB, wI64, wU64, Int.reduceAdd, Int.reduceSub, Int.reduceMul, Int.reduceLE, Int.reduceLT, Int.reduceNeg, Int.reduceToNat, Int.cast_ofNat_Int, sx0, sx1, sx2, sx3, sx4, sx5, sx6, sx7, sy0, sy1, List.filterMap_cons, JC, JD, WT, JE, JF, JG, JH, JI, JJ, JK, WU, JL, JM, JN, JO, WV, JP, JQ, WW, JR, JS, JT, JU, JV, JW, JX, JY, JZ, WA, WB, WC, WD, WE, WF, WG, WH, WI, WJ, WK, WL, WM, WN, true_and, and_true, reduceCtorEq, ↓reduceIte, ↓bifT, ↓bifF, ↓gifT, ↓gifF, eq_self, WO, WP, WQ, Nat.reduceLT, Nat.reduceLeDiff, Nat.reduceAdd, Nat.reduceSub, Nat.reduceMul, Nat.reduceMod, WR, Nat.reduceBEq, Int.reduceBEq, Int.reduceBNe, BEq.rfl, hnt, hT])
    | (refine SX.block ?_)
    | (refine and_mk ?_ ?_; (focus first | decide | omega | rfl | assumption | (simp only [List.length_append, List.length_cons, List.length_nil, B_size]; omega) | (simp; done)))
    | (refine And.intro ?_ ?_))
  all_goals (try refine Done.mk ?_)
  all_goals ((refine hN0 _ _ ⟨[0, 1], _, _, ?_, ?_, ?_, ⟨rfl, rfl⟩⟩; (focus exact LeR.of rfl trivial (by simp only [WS, JA, JB, wI64, wU64, Int.reduceAdd, Int.reduceSub, Int.reduceMul, Int.reduceLE, Int.reduceLT, Int.reduceNeg, Int.reduceToNat, Int.cast_ofNat_Int, sx0, sx1, sx2, sx3, sx4, sx5, sx6, sx7, sy0, sy1, List.filterMap_cons, JC, JD, WT, JE, JF, JG, JH, JI, JJ, JK, WU, JL, JM, JN, JO, WV, JP, JQ, WW, JR, JS, JT, JU, JV, JW, JX, JY, JZ, WA, WB, WC, WD, WE, WF, WG, WH, WI, WJ, WK, WL, WM, WN, true_and, and_true, reduceCtorEq, ↓reduceIte, ↓bifT, ↓bifF, ↓gifT, ↓gifF, eq_self, WO, WP, WQ, Nat.reduceLT, Nat.reduceLeDiff, Nat.reduceAdd, Nat.reduceSub, Nat.reduceMul, Nat.reduceMod, WR, Nat.reduceBEq, Int.reduceBEq, Int.reduceBNe, BEq.rfl, List.getD_cons_zero, List.getD_cons_succ, or_false, false_or, or_self, or_true, true_or, decide_true]) (by decide) rfl rfl rfl); rotate_left; (focus rfl)); rfl)
theorem marks_ctr (ms : List Mk) (hms : ms.length ≤ 1000000) : Ctr Tryd.prog [] 31 [.cells [.row 1] 148, mrow ms] [.one (.c (.loc 0 0))]
    (fun os v => os = [.cells [.row 1] 148, mrow ms, mrow ms] ∧ v = .one (.c (.row 2))) := by
  intro X0 hP0 hG0 N0 hN0
  refine CallVC.inline (f := 31) (by rw [hP0]; exact Tryd.func31) rfl Tryd.ntmps31 rfl (by simp) ?_
  intro X K hU hnt hbl hK
  have hP : X.P = Tryd.prog := by rw [hU.P, hP0]
  have hG := hG0.under hU
  have hT : fieldOff X.P 148 0 = some 0 ∧ aggOf X.P 59 = some false ∧ szOf X.P 59 = some 1 ∧ calleeOk X.P 90 = true := by rw [hP]; exact ⟨Ty.fo148_0, Ty.ag59, Ty.sz59, Ty.co90⟩
  simp only [WS, JA, JB, wI64, wU64, Int.reduceAdd, Int.reduceSub, Int.reduceMul, Int.reduceLE, Int.reduceLT, Int.reduceNeg, Int.reduceToNat, Int.cast_ofNat_Int, sx0, sx1, sx2, sx3, sx4, sx5, sx6, sx7, sy0, sy1, List.filterMap_cons, JC, JD, WT, JE, JF, JG, JH, JI, JJ, JK, WU, JL, JM, JN, JO, WV, JP, JQ, WW, JR, JS, JT, JU, JV, JW, JX, JY, JZ, WA, WB, WC, WD, WE, WF, WG, WH, WI, WJ, WK, WL, WM, WN, true_and, and_true, reduceCtorEq, ↓reduceIte, ↓bifT, ↓bifF, ↓gifT, ↓gifF, eq_self, WO, WP, WQ, Nat.reduceLT, Nat.reduceLeDiff, Nat.reduceAdd, Nat.reduceSub, Nat.reduceMul, Nat.reduceMod, WR, Nat.reduceBEq, Int.reduceBEq, Int.reduceBNe, BEq.rfl] at hbl ⊢
  repeat' (first
    | (refine SX.seqK ?_; intro N hN)
    | ((first | (refine SX.ops ?_)); simp only [WS, JA, JB, wI64, wU64, Int.reduceAdd, Int.reduceSub, Int.reduceMul, Int.reduceLE, Int.reduceLT, Int.reduceNeg, Int.reduceToNat, Int.cast_ofNat_Int, sx0, sx1, sx2, sx3, sx4, sx5, sx6, sx7, sy0, sy1, List.filterMap_cons, JC, JD, WT, JE, JF, JG, JH, JI, JJ, JK, WU, JL, JM, JN, JO, WV, JP, JQ, WW, JR, JS, JT, JU, JV, JW, JX, JY, JZ, WA, WB, WC, WD, WE, WF, WG, WH, WI, WJ, WK, WL, WM, WN, true_and, and_true, reduceCtorEq, ↓reduceIte, ↓bifT, ↓bifF, ↓gifT, ↓gifF, eq_self, WO, WP, WQ, Nat.reduceLT, Nat.reduceLeDiff, Nat.reduceAdd, Nat.reduceSub, Nat.reduceMul, Nat.reduceMod, WR, Nat.reduceBEq, Int.reduceBEq, Int.reduceBNe, BEq.rfl, hnt, hT])
    | ((first | refine SX.skip ?_ | refine SX.exit ?_ | refine SX.label ?_); try simp only [WS, JA, JB, wI64, wU64, Int.reduceAdd, Int.reduceSub, Int.reduceMul, Int.reduceLE, Int.reduceLT, Int.reduceNeg, Int.reduceToNat, Int.cast_ofNat_Int, sx0, sx1, sx2, sx3, sx4, sx5, sx6, sx7, sy0, sy1, List.filterMap_cons, JC, JD, WT, JE, JF, JG, JH, JI, JJ, JK, WU, JL, JM, JN, JO, WV, JP, JQ, WW, JR, JS, JT, JU, JV, JW, JX, JY, JZ, WA, WB, WC, WD, WE, WF, WG, WH, WI, WJ, WK, WL, WM, WN, true_and, and_true, reduceCtorEq, ↓reduceIte, ↓bifT, ↓bifF, ↓gifT, ↓gifF, eq_self, WO, WP, WQ, Nat.reduceLT, Nat.reduceLeDiff, Nat.reduceAdd, Nat.reduceSub, Nat.reduceMul, Nat.reduceMod, WR, Nat.reduceBEq, Int.reduceBEq, Int.reduceBNe, BEq.rfl])
    | (refine SX.cond rfl (fun hb => ?_) (fun hb => ?_) <;> ((first | cases hb | (simp only [decide_eq_true_eq, decide_eq_false_iff_not, beq_iff_eq, beq_eq_false_iff_ne, bne_iff_ne, Bool.and_eq_true, Bool.or_eq_true, Bool.not_eq_true', Bool.not_eq_false', Bool.and_eq_false_iff, Bool.or_eq_false_iff, Int.not_lt, Int.not_le] at hb) | skip) <;> (first | (exfalso; omega) | skip)))
    | (refine SX.ret ?_; try simp only [WS, JA, JB, wI64, wU64, Int.reduceAdd, Int.reduceSub, Int.reduceMul, Int.reduceLE, Int.reduceLT, Int.reduceNeg, Int.reduceToNat, Int.cast_ofNat_Int, sx0, sx1, sx2, sx3, sx4, sx5, sx6, sx7, sy0, sy1, List.filterMap_cons, JC, JD, WT, JE, JF, JG, JH, JI, JJ, JK, WU, JL, JM, JN, JO, WV, JP, JQ, WW, JR, JS, JT, JU, JV, JW, JX, JY, JZ, WA, WB, WC, WD, WE, WF, WG, WH, WI, WJ, WK, WL, WM, WN, true_and, and_true, reduceCtorEq, ↓reduceIte, ↓bifT, ↓bifF, ↓gifT, ↓gifF, eq_self, WO, WP, WQ, Nat.reduceLT, Nat.reduceLeDiff, Nat.reduceAdd, Nat.reduceSub, Nat.reduceMul, Nat.reduceMod, WR, Nat.reduceBEq, Int.reduceBEq, Int.reduceBNe, BEq.rfl])
    | (refine hN _ ?_; clear hN N)
    | ((first | refine hK _ _ (FinI.ret3 ?_) | refine hK _ _ (FinI.nrm3 ?_)); simp only [WS, JA, JB, wI64, wU64, Int.reduceAdd, Int.reduceSub, Int.reduceMul, Int.reduceLE, Int.reduceLT, Int.reduceNeg, Int.reduceToNat, Int.cast_ofNat_Int, sx0, sx1, sx2, sx3, sx4, sx5, sx6, sx7, sy0, sy1, List.filterMap_cons, JC, JD, WT, JE, JF, JG, JH, JI, JJ, JK, WU, JL, JM, JN, JO, WV, JP, JQ, WW, JR, JS, JT, JU, JV, JW, JX, JY, JZ, WA, WB, WC, WD, WE, WF, WG, WH, WI, WJ, WK, WL, WM, WN, true_and, and_true, reduceCtorEq, ↓reduceIte, ↓bifT, ↓bifF, ↓gifT, ↓gifF, eq_self, WO, WP, WQ, Nat.reduceLT, Nat.reduceLeDiff, Nat.reduceAdd, Nat.reduceSub, Nat.reduceMul, Nat.reduceMod, WR, Nat.reduceBEq, Int.reduceBEq, Int.reduceBNe, BEq.rfl, finP_s, hnt, hT]; refine Done.out ?_)
    | (clear hN N; first | (refine hN _ ?_; clear hN N) | (clear hN N; first | (refine hN _ ?_; clear hN N) | (clear hN N; first | (refine hN _ ?_; clear hN N) | (clear hN N; first | (refine hN _ ?_; clear hN N) | (clear hN N; first | (refine hN _ ?_; clear hN N) | (refine hN _ ?_; clear hN N))))))
    | (refine bif2.mk (fun hb => ?_) (fun hb => ?_) <;> (try simp only [hb, WS, JA, JB, wI64, wU64, Int.reduceAdd, Int.reduceSub, Int.reduceMul, Int.reduceLE, Int.reduceLT, Int.reduceNeg, Int.reduceToNat, Int.cast_ofNat_Int, sx0, sx1, sx2, sx3, sx4, sx5, sx6, sx7, sy0, sy1, List.filterMap_cons, JC, JD, WT, JE, JF, JG, JH, JI, JJ, JK, WU, JL, JM, JN, JO, WV, JP, JQ, WW, JR, JS, JT, JU, JV, JW, JX, JY, JZ, WA, WB, WC, WD, WE, WF, WG, WH, WI, WJ, WK, WL, WM, WN, true_and, and_true, reduceCtorEq, ↓reduceIte, ↓bifT, ↓bifF, ↓gifT, ↓gifF, eq_self, WO, WP, WQ, Nat.reduceLT, Nat.reduceLeDiff, Nat.reduceAdd, Nat.reduceSub, Nat.reduceMul, Nat.reduceMod, WR, Nat.reduceBEq, Int.reduceBEq, Int.reduceBNe, BEq.rfl, hnt, hT]) <;> ((first | cases hb | (simp only [decide_eq_true_eq, decide_eq_false_iff_not, beq_iff_eq, beq_eq_false_iff_ne, bne_iff_ne, Bool.and_eq_true, Bool.or_eq_true, Bool.not_eq_true', Bool.not_eq_false', Bool.and_eq_false_iff, Bool.or_eq_false_iff, Int.not_lt, Int.not_le] at hb) | skip) <;> (first | (exfalso; omega) | skip)))
    | ((first | (refine Ctr.use (clone_ctr ms hms) hP ?_ [1] ?_ rfl rfl ?_; (focus (intro p hp; cases hp)); (focus (refine LeR.of rfl trivial ?_ ?_ ?_ ?_ ?_ <;> first | decide | (simp only [WS, JA, JB, wI64, wU64, Int.reduceAdd, Int.reduceSub, Int.reduceMul, Int.reduceLE, Int.reduceLT, Int.reduceNeg, Int.reduceToNat, Int.cast_ofNat_Int, sx0, sx1, sx2, sx3, sx4, sx5, sx6, sx7, sy0, sy1, List.filterMap_cons, JC, JD, WT, JE, JF, JG, JH, JI, JJ, JK, WU, JL, JM, JN, JO, WV, JP, JQ, WW, JR, JS, JT, JU, JV, JW, JX, JY, JZ, WA, WB, WC, WD, WE, WF, WG, WH, WI, WJ, WK, WL, WM, WN, true_and, and_true, reduceCtorEq, ↓reduceIte, ↓bifT, ↓bifF, ↓gifT, ↓gifF, eq_self, WO, WP, WQ, Nat.reduceLT, Nat.reduceLeDiff, Nat.reduceAdd, Nat.reduceSub, Nat.reduceMul, Nat.reduceMod, WR, Nat.reduceBEq, Int.reduceBEq, Int.reduceBNe, BEq.rfl, List.getD_cons_zero, List.getD_cons_succ, or_false, false_or, or_self, or_true, true_or, decide_true]; done))); intro os' s hR; obtain ⟨rfl, rfl⟩ := hR)); simp only [WS, JA, JB, wI64, wU64, Int.reduceAdd, Int.reduceSub, Int.reduceMul, Int.reduceLE, Int.reduceLT, Int.reduceNeg, Int.reduceToNat, Int.cast_ofNat_Int, sx0, sx1, sx2, sx3, sx4, sx5, sx6, sx7, sy0, sy1, List.filterMap_cons, JC, JD, WT, JE, JF, JG, JH, JI, JJ, JK, WU, JL, JM, JN, JO, WV, JP, JQ, WW, JR, JS, JT, JU, JV, JW, JX, JY, JZ, WA, WB, WC, WD, WE, WF, WG, WH, WI, WJ, WK, WL, WM, WN, true_and, and_true, reduceCtorEq, ↓reduceIte, ↓bifT, ↓bifF, ↓gifT, ↓gifF, eq_self, WO, WP, WQ, Nat.reduceLT, Nat.reduceLeDiff, Nat.reduceAdd, Nat.reduceSub, Nat.reduceMul, Nat.reduceMod, WR, Nat.reduceBEq, Int.reduceBEq, Int.reduceBNe, BEq.rfl, hnt, hT])
    | (refine SX.block ?_)
    | (refine and_mk ?_ ?_; (focus first | decide | omega | rfl | assumption | (simp only [List.length_append, List.length_cons, List.length_nil, B_size]; omega) | (simp; done)))
    | (refine And.intro ?_ ?_))
  all_goals (try refine Done.mk ?_)
  all_goals exact hN0 _ _ ⟨rfl, rfl⟩
end Go.Proofs.YtbdacbcpniegiaaDoor
namespace Go.Proofs.YtbdacbcpniegiaaDoor
open Go Go.RowKit Go.Proofs Go.Sx
set_option maxHeartbeats 4000000
set_option maxRecDepth 100000
set_option linter.unusedSimpArgs false
set_option linter.unusedVariables false
theorem insert_ctr (ms : List Mk) (hms : ms.length ≤ 1000000) (m : Mk) (i : Nat) (hi : i ≤ ms.length) : Ctr Tryd.prog [] 83 [mrow ms, .cells [.v (.int .i64 m.t), .v (.string (B m.s)), .v (.int .u64 m.q), .v (.int .i64 m.st), .v (.string (B m.d))] 62] [.one (.c (.row 0)), vv (.int .i64 i), .one (.c (.sl 1 0 1 1))]
    (fun os v => os = [.gone, .cells [.v (.int .i64 m.t), .v (.string (B m.s)), .v (.int .u64 m.q), .v (.int .i64 m.st), .v (.string (B m.d))] 62, mrow (ms.take i ++ m :: ms.drop i)] ∧ v = .one (.c (.row 2))) := by
  rcases Nat.lt_or_eq_of_le hi with h | h
  · exact insert_mid ms hms m i h
  · subst h
    have e : ms.take ms.length ++ m :: ms.drop ms.length = ms ++ [m] := by simp
    rw [e]
    exact insert_end ms hms m
def badB (t : Int) (s : List UInt8) (q : Int) : Bool := (!keyB t s || s == [42]) || q == 0
theorem begin_wrong (ms : List Mk) (t q : Int) (s : List UInt8) (hsl : s.length ≤ 4611686018427387904) (h : badB t s q = true) : Ctr Tryd.prog [] 28 [.cells [.row 1] 148, mrow ms] [.one (.c (.loc 0 0)), .one (.agg [.v (.int .i64 t), .v (.string (B s))]), vv (.int .u64 q)]
    (fun os v => os = [.cells [.row 1] 148, mrow ms] ∧ v = vv (.int .i64 1)) := by
  refine Ctr.less ?_
  simp only [badB] at h
  intro X0 hP0 hG0 N0 hN0
  refine CallVC.inline (f := 28) (by rw [hP0]; exact Tryd.func28) rfl Tryd.ntmps28 rfl (by simp) ?_
  intro X K hU hnt hbl hK
  have hP : X.P = Tryd.prog := by rw [hU.P, hP0]
  have hG := hG0.under hU
  have hT : aggOf X.P 26 = some true ∧ szOf X.P 26 = some 2 ∧ aggOf X.P 22 = some false ∧ szOf X.P 22 = some 1 ∧ fieldsOf X.P 62 = some [(0, 2), (2, 1), (3, 1), (4, 1)] ∧ zeroCells X.P 62 = some [(Value.int IntKind.i64 0), (Value.string { data := #[] }), (Value.int IntKind.u64 0), (Value.int IntKind.i64 0), (Value.string { data := #[] })] ∧ szOf X.P 62 = some 5 ∧ calleeOk X.P 78 = true ∧ fieldOff X.P 26 1 = some 1 ∧ aggOf X.P 9 = some false ∧ szOf X.P 9 = some 1 ∧ fieldOff X.P 148 0 = some 0 ∧ aggOf X.P 59 = some false ∧ szOf X.P 59 = some 1 ∧ calleeOk X.P 80 = true ∧ calleeOk X.P 79 = true ∧ aggOf X.P 62 = some true ∧ calleeOk X.P 81 = true ∧ elemSz X.P 59 = some (62, 5) ∧ calleeOk X.P 83 = true ∧ X.P.underlying 59 = some (TypeDesc.slice 62) ∧ calleeOk X.P 84 = true ∧ calleeOk X.P 88 = true ∧ calleeOk X.P 87 = true := by rw [hP]; exact ⟨Ty.ag26, Ty.sz26, Ty.ag22, Ty.sz22, Ty.fs62, Ty.ze62, Ty.sz62, Ty.co78, Ty.fo26_1, Ty.ag9, Ty.sz9, Ty.fo148_0, Ty.ag59, Ty.sz59, Ty.co80, Ty.co79, Ty.ag62, Ty.co81, Ty.el59, Ty.co83, Tryd.underlying59, Ty.co84, Ty.co88, Ty.co87⟩
  simp only [WS, JA, JB, wI64, wU64, Int.reduceAdd, Int.reduceSub, Int.reduceMul, Int.reduceLE, Int.reduceLT, Int.reduceNeg, Int.reduceToNat, Int.cast_ofNat_Int, sx0, sx1, sx2, sx3, sx4, sx5, sx6, sx7, sy0, sy1, List.filterMap_cons, JC, JD, WT, JE, JF, JG, JH, JI, JJ, JK, WU, JL, JM, JN, JO, WV, JP, JQ, WW, JR, JS, JT, JU, JV, JW, JX, JY, JZ, WA, WB, WC, WD, WE, WF, WG, WH, WI, WJ, WK, WL, WM, WN, true_and, and_true, reduceCtorEq, ↓reduceIte, ↓bifT, ↓bifF, ↓gifT, ↓gifF, eq_self, WO, WP, WQ, Nat.reduceLT, Nat.reduceLeDiff, Nat.reduceAdd, Nat.reduceSub, Nat.reduceMul, Nat.reduceMod, WR, Nat.reduceBEq, Int.reduceBEq, Int.reduceBNe, BEq.rfl] at hbl ⊢
  repeat' (first
    | (refine SX.seqK ?_; intro N hN)
    | ((first | (refine SX.ops ?_) | (refine SX.planT (id := 6) [.q [(0, [0]), (1, [35]), (2, [36]), (3, [37]), (4, [7])] none, .s 5, .s 6, .q [(7, [34]), (8, [34]), (9, [41]), (10, [42])] none] ?_ ?_ ?_; (focus first | (rw [hP]; kernel_rfl) | (rw [hU1P, hP]; kernel_rfl)); (focus kernel_rfl)) | (refine SX.planT (id := 7) [.f 0, .q [(1, [0]), (2, [44]), (3, [45]), (4, [46]), (5, [8]), (6, [7])] (some (7, [49])), .s 8, .s 9, .s 10, .s 11] ?_ ?_ ?_; (focus first | (rw [hP]; kernel_rfl) | (rw [hU1P, hP]; kernel_rfl)); (focus kernel_rfl))); simp only [WS, JA, JB, wI64, wU64, Int.reduceAdd, Int.reduceSub, Int.reduceMul, Int.reduceLE, Int.reduceLT, Int.reduceNeg, Int.reduceToNat, Int.cast_ofNat_Int, sx0, sx1, sx2, sx3, sx4, sx5, sx6, sx7, sy0, sy1, List.filterMap_cons, JC, JD, WT, JE, JF, JG, JH, JI, JJ, JK, WU, JL, JM, JN, JO, WV, JP, JQ, WW, JR, JS, JT, JU, JV, JW, JX, JY, JZ, WA, WB, WC, WD, WE, WF, WG, WH, WI, WJ, WK, WL, WM, WN, true_and, and_true, reduceCtorEq, ↓reduceIte, ↓bifT, ↓bifF, ↓gifT, ↓gifF, eq_self, WO, WP, WQ, Nat.reduceLT, Nat.reduceLeDiff, Nat.reduceAdd, Nat.reduceSub, Nat.reduceMul, Nat.reduceMod, WR, Nat.reduceBEq, Int.reduceBEq, Int.reduceBNe, BEq.rfl, hnt, hT, h])
    | ((first | refine SX.skip ?_ | refine SX.exit ?_ | refine SX.label ?_); try simp only [WS, JA, JB, wI64, wU64, Int.reduceAdd, Int.reduceSub, Int.reduceMul, Int.reduceLE, Int.reduceLT, Int.reduceNeg, Int.reduceToNat, Int.cast_ofNat_Int, sx0, sx1, sx2, sx3, sx4, sx5, sx6, sx7, sy0, sy1, List.filterMap_cons, JC, JD, WT, JE, JF, JG, JH, JI, JJ, JK, WU, JL, JM, JN, JO, WV, JP, JQ, WW, JR, JS, JT, JU, JV, JW, JX, JY, JZ, WA, WB, WC, WD, WE, WF, WG, WH, WI, WJ, WK, WL, WM, WN, true_and, and_true, reduceCtorEq, ↓reduceIte, ↓bifT, ↓bifF, ↓gifT, ↓gifF, eq_self, WO, WP, WQ, Nat.reduceLT, Nat.reduceLeDiff, Nat.reduceAdd, Nat.reduceSub, Nat.reduceMul, Nat.reduceMod, WR, Nat.reduceBEq, Int.reduceBEq, Int.reduceBNe, BEq.rfl])
    | (refine SX.cond rfl (fun hb => ?_) (fun hb => ?_) <;> ((first | cases hb | (simp only [decide_eq_true_eq, decide_eq_false_iff_not, beq_iff_eq, beq_eq_false_iff_ne, bne_iff_ne, Bool.and_eq_true, Bool.or_eq_true, Bool.not_eq_true', Bool.not_eq_false', Bool.and_eq_false_iff, Bool.or_eq_false_iff, Int.not_lt, Int.not_le] at hb) | skip) <;> (first | (exfalso; omega) | skip)))
    | (refine SX.ret ?_; try simp only [WS, JA, JB, wI64, wU64, Int.reduceAdd, Int.reduceSub, Int.reduceMul, Int.reduceLE, Int.reduceLT, Int.reduceNeg, Int.reduceToNat, Int.cast_ofNat_Int, sx0, sx1, sx2, sx3, sx4, sx5, sx6, sx7, sy0, sy1, List.filterMap_cons, JC, JD, WT, JE, JF, JG, JH, JI, JJ, JK, WU, JL, JM, JN, JO, WV, JP, JQ, WW, JR, JS, JT, JU, JV, JW, JX, JY, JZ, WA, WB, WC, WD, WE, WF, WG, WH, WI, WJ, WK, WL, WM, WN, true_and, and_true, reduceCtorEq, ↓reduceIte, ↓bifT, ↓bifF, ↓gifT, ↓gifF, eq_self, WO, WP, WQ, Nat.reduceLT, Nat.reduceLeDiff, Nat.reduceAdd, Nat.reduceSub, Nat.reduceMul, Nat.reduceMod, WR, Nat.reduceBEq, Int.reduceBEq, Int.reduceBNe, BEq.rfl])
    | (refine hN _ ?_; clear hN N)
    | ((first | refine hK _ _ (FinI.ret3 ?_) | refine hK _ _ (FinI.nrm3 ?_)); simp only [WS, JA, JB, wI64, wU64, Int.reduceAdd, Int.reduceSub, Int.reduceMul, Int.reduceLE, Int.reduceLT, Int.reduceNeg, Int.reduceToNat, Int.cast_ofNat_Int, sx0, sx1, sx2, sx3, sx4, sx5, sx6, sx7, sy0, sy1, List.filterMap_cons, JC, JD, WT, JE, JF, JG, JH, JI, JJ, JK, WU, JL, JM, JN, JO, WV, JP, JQ, WW, JR, JS, JT, JU, JV, JW, JX, JY, JZ, WA, WB, WC, WD, WE, WF, WG, WH, WI, WJ, WK, WL, WM, WN, true_and, and_true, reduceCtorEq, ↓reduceIte, ↓bifT, ↓bifF, ↓gifT, ↓gifF, eq_self, WO, WP, WQ, Nat.reduceLT, Nat.reduceLeDiff, Nat.reduceAdd, Nat.reduceSub, Nat.reduceMul, Nat.reduceMod, WR, Nat.reduceBEq, Int.reduceBEq, Int.reduceBNe, BEq.rfl, finP_s, hnt, hT, h]; refine Done.out ?_)
    | (clear hN N; first | (refine hN _ ?_; clear hN N) | (clear hN N; first | (refine hN _ ?_; clear hN N) | (clear hN N; first | (refine hN _ ?_; clear hN N) | (clear hN N; first | (refine hN _ ?_; clear hN N) | (clear hN N; first | (refine hN _ ?_; clear hN N) | (refine hN _ ?_; clear hN N))))))
    | (refine bif2.mk (fun hb => ?_) (fun hb => ?_) <;> (try simp only [hb, WS, JA, JB, wI64, wU64, Int.reduceAdd, Int.reduceSub, Int.reduceMul, Int.reduceLE, Int.reduceLT, Int.reduceNeg, Int.reduceToNat, Int.cast_ofNat_Int, sx0, sx1, sx2, sx3, sx4, sx5, sx6, sx7, sy0, sy1, List.filterMap_cons, JC, JD, WT, JE, JF, JG, JH, JI, JJ, JK, WU, JL, JM, JN, JO, WV, JP, JQ, WW, JR, JS, JT, JU, JV, JW, JX, JY, JZ, WA, WB, WC, WD, WE, WF, WG, WH, WI, WJ, WK, WL, WM, WN, true_and, and_true, reduceCtorEq, ↓reduceIte, ↓bifT, ↓bifF, ↓gifT, ↓gifF, eq_self, WO, WP, WQ, Nat.reduceLT, Nat.reduceLeDiff, Nat.reduceAdd, Nat.reduceSub, Nat.reduceMul, Nat.reduceMod, WR, Nat.reduceBEq, Int.reduceBEq, Int.reduceBNe, BEq.rfl, hnt, hT, h]) <;> ((first | cases hb | (simp only [decide_eq_true_eq, decide_eq_false_iff_not, beq_iff_eq, beq_eq_false_iff_ne, bne_iff_ne, Bool.and_eq_true, Bool.or_eq_true, Bool.not_eq_true', Bool.not_eq_false', Bool.and_eq_false_iff, Bool.or_eq_false_iff, Int.not_lt, Int.not_le] at hb) | skip) <;> (first | (exfalso; omega) | skip)))
    | ((first | (refine CallVC.pv hP (key_any t s hsl) rfl ?_) | (refine CallQ.pv hP (key_any t s hsl) rfl ?_)); simp only [WS, JA, JB, wI64, wU64, Int.reduceAdd, Int.reduceSub, Int.reduceMul, Int.reduceLE, Int.reduceLT, Int.reduceNeg, Int.reduceToNat, Int.cast_ofNat_Int, sx0, sx1, sx2, sx3, sx4, sx5, sx6, sx7, sy0, sy1, List.filterMap_cons, JC, JD, WT, JE, JF, JG, JH, JI, JJ, JK, WU, JL, JM, JN, JO, WV, JP, JQ, WW, JR, JS, JT, JU, JV, JW, JX, JY, JZ, WA, WB, WC, WD, WE, WF, WG, WH, WI, WJ, WK, WL, WM, WN, true_and, and_true, reduceCtorEq, ↓reduceIte, ↓bifT, ↓bifF, ↓gifT, ↓gifF, eq_self, WO, WP, WQ, Nat.reduceLT, Nat.reduceLeDiff, Nat.reduceAdd, Nat.reduceSub, Nat.reduceMul, Nat.reduceMod, WR, Nat.reduceBEq, Int.reduceBEq, Int.reduceBNe, BEq.rfl, hnt, hT, h])
    | (refine SX.block ?_)
    | (refine and_mk ?_ ?_; (focus first | decide | omega | rfl | assumption | (simp only [List.length_append, List.length_cons, List.length_nil, B_size]; omega) | (simp; done)))
    | (refine And.intro ?_ ?_))
  all_goals (try refine Done.mk ?_)
  all_goals first | ((refine hN0 _ _ ⟨[0, 1], _, _, ?_, ?_, ?_, ⟨rfl, rfl⟩⟩; (focus exact LeR.of rfl trivial (by simp only [WS, JA, JB, wI64, wU64, Int.reduceAdd, Int.reduceSub, Int.reduceMul, Int.reduceLE, Int.reduceLT, Int.reduceNeg, Int.reduceToNat, Int.cast_ofNat_Int, sx0, sx1, sx2, sx3, sx4, sx5, sx6, sx7, sy0, sy1, List.filterMap_cons, JC, JD, WT, JE, JF, JG, JH, JI, JJ, JK, WU, JL, JM, JN, JO, WV, JP, JQ, WW, JR, JS, JT, JU, JV, JW, JX, JY, JZ, WA, WB, WC, WD, WE, WF, WG, WH, WI, WJ, WK, WL, WM, WN, true_and, and_true, reduceCtorEq, ↓reduceIte, ↓bifT, ↓bifF, ↓gifT, ↓gifF, eq_self, WO, WP, WQ, Nat.reduceLT, Nat.reduceLeDiff, Nat.reduceAdd, Nat.reduceSub, Nat.reduceMul, Nat.reduceMod, WR, Nat.reduceBEq, Int.reduceBEq, Int.reduceBNe, BEq.rfl, List.getD_cons_zero, List.getD_cons_succ, or_false, false_or, or_self, or_true, true_or, decide_true]) (by decide) rfl rfl rfl); rotate_left; (focus rfl)); rfl) | (exfalso; clear hN0 hK; simp_all; done)
theorem begin_late (ms : List Mk) (hms : ms.length ≤ 1000000) (t q : Int) (s : List UInt8) (hsl : s.length ≤ 4611686018427387904) (h : badB t s q = false) (hl : decide (0 ≤ idxI (isAt t s q) ms) = true) : Ctr Tryd.prog [] 28 [.cells [.row 1] 148, mrow ms] [.one (.c (.loc 0 0)), .one (.agg [.v (.int .i64 t), .v (.string (B s))]), vv (.int .u64 q)]
    (fun os v => os = [.cells [.row 1] 148, mrow ms] ∧ v = vv (.int .i64 6)) := by
  refine Ctr.less ?_
  simp only [badB, Bool.or_eq_false_iff, Bool.not_eq_false'] at h
  obtain ⟨⟨hk1, hk2⟩, hk3⟩ := h
  intro X0 hP0 hG0 N0 hN0
  refine CallVC.inline (f := 28) (by rw [hP0]; exact Tryd.func28) rfl Tryd.ntmps28 rfl (by simp) ?_
  intro X K hU hnt hbl hK
  have hP : X.P = Tryd.prog := by rw [hU.P, hP0]
  have hG := hG0.under hU
  have hT : aggOf X.P 26 = some true ∧ szOf X.P 26 = some 2 ∧ aggOf X.P 22 = some false ∧ szOf X.P 22 = some 1 ∧ fieldsOf X.P 62 = some [(0, 2), (2, 1), (3, 1), (4, 1)] ∧ zeroCells X.P 62 = some [(Value.int IntKind.i64 0), (Value.string { data := #[] }), (Value.int IntKind.u64 0), (Value.int IntKind.i64 0), (Value.string { data := #[] })] ∧ szOf X.P 62 = some 5 ∧ calleeOk X.P 78 = true ∧ fieldOff X.P 26 1 = some 1 ∧ aggOf X.P 9 = some false ∧ szOf X.P 9 = some 1 ∧ fieldOff X.P 148 0 = some 0 ∧ aggOf X.P 59 = some false ∧ szOf X.P 59 = some 1 ∧ calleeOk X.P 80 = true ∧ calleeOk X.P 79 = true ∧ aggOf X.P 62 = some true ∧ calleeOk X.P 81 = true ∧ elemSz X.P 59 = some (62, 5) ∧ calleeOk X.P 83 = true ∧ X.P.underlying 59 = some (TypeDesc.slice 62) ∧ calleeOk X.P 84 = true ∧ calleeOk X.P 88 = true ∧ calleeOk X.P 87 = true := by rw [hP]; exact ⟨Ty.ag26, Ty.sz26, Ty.ag22, Ty.sz22, Ty.fs62, Ty.ze62, Ty.sz62, Ty.co78, Ty.fo26_1, Ty.ag9, Ty.sz9, Ty.fo148_0, Ty.ag59, Ty.sz59, Ty.co80, Ty.co79, Ty.ag62, Ty.co81, Ty.el59, Ty.co83, Tryd.underlying59, Ty.co84, Ty.co88, Ty.co87⟩
  simp only [WS, JA, JB, wI64, wU64, Int.reduceAdd, Int.reduceSub, Int.reduceMul, Int.reduceLE, Int.reduceLT, Int.reduceNeg, Int.reduceToNat, Int.cast_ofNat_Int, sx0, sx1, sx2, sx3, sx4, sx5, sx6, sx7, sy0, sy1, List.filterMap_cons, JC, JD, WT, JE, JF, JG, JH, JI, JJ, JK, WU, JL, JM, JN, JO, WV, JP, JQ, WW, JR, JS, JT, JU, JV, JW, JX, JY, JZ, WA, WB, WC, WD, WE, WF, WG, WH, WI, WJ, WK, WL, WM, WN, true_and, and_true, reduceCtorEq, ↓reduceIte, ↓bifT, ↓bifF, ↓gifT, ↓gifF, eq_self, WO, WP, WQ, Nat.reduceLT, Nat.reduceLeDiff, Nat.reduceAdd, Nat.reduceSub, Nat.reduceMul, Nat.reduceMod, WR, Nat.reduceBEq, Int.reduceBEq, Int.reduceBNe, BEq.rfl] at hbl ⊢
  repeat' (first
    | (refine SX.seqK ?_; intro N hN)
    | ((first | (refine SX.ops ?_) | (refine SX.planT (id := 6) [.q [(0, [0]), (1, [35]), (2, [36]), (3, [37]), (4, [7])] none, .s 5, .s 6, .q [(7, [34]), (8, [34]), (9, [41]), (10, [42])] none] ?_ ?_ ?_; (focus first | (rw [hP]; kernel_rfl) | (rw [hU1P, hP]; kernel_rfl)); (focus kernel_rfl)) | (refine SX.planT (id := 7) [.f 0, .q [(1, [0]), (2, [44]), (3, [45]), (4, [46]), (5, [8]), (6, [7])] (some (7, [49])), .s 8, .s 9, .s 10, .s 11] ?_ ?_ ?_; (focus first | (rw [hP]; kernel_rfl) | (rw [hU1P, hP]; kernel_rfl)); (focus kernel_rfl))); simp only [WS, JA, JB, wI64, wU64, Int.reduceAdd, Int.reduceSub, Int.reduceMul, Int.reduceLE, Int.reduceLT, Int.reduceNeg, Int.reduceToNat, Int.cast_ofNat_Int, sx0, sx1, sx2, sx3, sx4, sx5, sx6, sx7, sy0, sy1, List.filterMap_cons, JC, JD, WT, JE, JF, JG, JH, JI, JJ, JK, WU, JL, JM, JN, JO, WV, JP, JQ, WW, JR, JS, JT, JU, JV, JW, JX, JY, JZ, WA, WB, WC, WD, WE, WF, WG, WH, WI, WJ, WK, WL, WM, WN, true_and, and_true, reduceCtorEq, ↓reduceIte, ↓bifT, ↓bifF, ↓gifT, ↓gifF, eq_self, WO, WP, WQ, Nat.reduceLT, Nat.reduceLeDiff, Nat.reduceAdd, Nat.reduceSub, Nat.reduceMul, Nat.reduceMod, WR, Nat.reduceBEq, Int.reduceBEq, Int.reduceBNe, BEq.rfl, hnt, hT, hk1, hk2, hk3, hl])
    | ((first | refine SX.skip ?_ | refine SX.exit ?_ | refine SX.label ?_); try simp only [WS, JA, JB, wI64, wU64, Int.reduceAdd, Int.reduceSub, Int.reduceMul, Int.reduceLE, Int.reduceLT, Int.reduceNeg, Int.reduceToNat, Int.cast_ofNat_Int, sx0, sx1, sx2, sx3, sx4, sx5, sx6, sx7, sy0, sy1, List.filterMap_cons, JC, JD, WT, JE, JF, JG, JH, JI, JJ, JK, WU, JL, JM, JN, JO, WV, JP, JQ, WW, JR, JS, JT, JU, JV, JW, JX, JY, JZ, WA, WB, WC, WD, WE, WF, WG, WH, WI, WJ, WK, WL, WM, WN, true_and, and_true, reduceCtorEq, ↓reduceIte, ↓bifT, ↓bifF, ↓gifT, ↓gifF, eq_self, WO, WP, WQ, Nat.reduceLT, Nat.reduceLeDiff, Nat.reduceAdd, Nat.reduceSub, Nat.reduceMul, Nat.reduceMod, WR, Nat.reduceBEq, Int.reduceBEq, Int.reduceBNe, BEq.rfl])
    | (refine SX.cond rfl (fun hb => ?_) (fun hb => ?_) <;> ((first | cases hb | (simp only [decide_eq_true_eq, decide_eq_false_iff_not, beq_iff_eq, beq_eq_false_iff_ne, bne_iff_ne, Bool.and_eq_true, Bool.or_eq_true, Bool.not_eq_true', Bool.not_eq_false', Bool.and_eq_false_iff, Bool.or_eq_false_iff, Int.not_lt, Int.not_le] at hb) | skip) <;> (first | (exfalso; omega) | skip)))
    | (refine SX.ret ?_; try simp only [WS, JA, JB, wI64, wU64, Int.reduceAdd, Int.reduceSub, Int.reduceMul, Int.reduceLE, Int.reduceLT, Int.reduceNeg, Int.reduceToNat, Int.cast_ofNat_Int, sx0, sx1, sx2, sx3, sx4, sx5, sx6, sx7, sy0, sy1, List.filterMap_cons, JC, JD, WT, JE, JF, JG, JH, JI, JJ, JK, WU, JL, JM, JN, JO, WV, JP, JQ, WW, JR, JS, JT, JU, JV, JW, JX, JY, JZ, WA, WB, WC, WD, WE, WF, WG, WH, WI, WJ, WK, WL, WM, WN, true_and, and_true, reduceCtorEq, ↓reduceIte, ↓bifT, ↓bifF, ↓gifT, ↓gifF, eq_self, WO, WP, WQ, Nat.reduceLT, Nat.reduceLeDiff, Nat.reduceAdd, Nat.reduceSub, Nat.reduceMul, Nat.reduceMod, WR, Nat.reduceBEq, Int.reduceBEq, Int.reduceBNe, BEq.rfl])
    | (refine hN _ ?_; clear hN N)
    | ((first | refine hK _ _ (FinI.ret3 ?_) | refine hK _ _ (FinI.nrm3 ?_)); simp only [WS, JA, JB, wI64, wU64, Int.reduceAdd, Int.reduceSub, Int.reduceMul, Int.reduceLE, Int.reduceLT, Int.reduceNeg, Int.reduceToNat, Int.cast_ofNat_Int, sx0, sx1, sx2, sx3, sx4, sx5, sx6, sx7, sy0, sy1, List.filterMap_cons, JC, JD, WT, JE, JF, JG, JH, JI, JJ, JK, WU, JL, JM, JN, JO, WV, JP, JQ, WW, JR, JS, JT, JU, JV, JW, JX, JY, JZ, WA, WB, WC, WD, WE, WF, WG, WH, WI, WJ, WK, WL, WM, WN, true_and, and_true, reduceCtorEq, ↓reduceIte, ↓bifT, ↓bifF, ↓gifT, ↓gifF, eq_self, WO, WP, WQ, Nat.reduceLT, Nat.reduceLeDiff, Nat.reduceAdd, Nat.reduceSub, Nat.reduceMul, Nat.reduceMod, WR, Nat.reduceBEq, Int.reduceBEq, Int.reduceBNe, BEq.rfl, finP_s, hnt, hT, hk1, hk2, hk3, hl]; refine Done.out ?_)
    | (clear hN N; first | (refine hN _ ?_; clear hN N) | (clear hN N; first | (refine hN _ ?_; clear hN N) | (clear hN N; first | (refine hN _ ?_; clear hN N) | (clear hN N; first | (refine hN _ ?_; clear hN N) | (clear hN N; first | (refine hN _ ?_; clear hN N) | (refine hN _ ?_; clear hN N))))))
    | (refine bif2.mk (fun hb => ?_) (fun hb => ?_) <;> (try simp only [hb, WS, JA, JB, wI64, wU64, Int.reduceAdd, Int.reduceSub, Int.reduceMul, Int.reduceLE, Int.reduceLT, Int.reduceNeg, Int.reduceToNat, Int.cast_ofNat_Int, sx0, sx1, sx2, sx3, sx4, sx5, sx6, sx7, sy0, sy1, List.filterMap_cons, JC, JD, WT, JE, JF, JG, JH, JI, JJ, JK, WU, JL, JM, JN, JO, WV, JP, JQ, WW, JR, JS, JT, JU, JV, JW, JX, JY, JZ, WA, WB, WC, WD, WE, WF, WG, WH, WI, WJ, WK, WL, WM, WN, true_and, and_true, reduceCtorEq, ↓reduceIte, ↓bifT, ↓bifF, ↓gifT, ↓gifF, eq_self, WO, WP, WQ, Nat.reduceLT, Nat.reduceLeDiff, Nat.reduceAdd, Nat.reduceSub, Nat.reduceMul, Nat.reduceMod, WR, Nat.reduceBEq, Int.reduceBEq, Int.reduceBNe, BEq.rfl, hnt, hT, hk1, hk2, hk3, hl]) <;> ((first | cases hb | (simp only [decide_eq_true_eq, decide_eq_false_iff_not, beq_iff_eq, beq_eq_false_iff_ne, bne_iff_ne, Bool.and_eq_true, Bool.or_eq_true, Bool.not_eq_true', Bool.not_eq_false', Bool.and_eq_false_iff, Bool.or_eq_false_iff, Int.not_lt, Int.not_le] at hb) | skip) <;> (first | (exfalso; omega) | skip)))
    | ((first | (refine CallVC.pv hP (key_any t s hsl) rfl ?_) | (refine CallQ.pv hP (key_any t s hsl) rfl ?_) | (refine Ctr.use (containsFunc1 ms hms t q s) hP ?_ [1,2,3] ?_ rfl rfl ?_; (focus (intro p hp; cases hp)); (focus (refine LeR.of rfl trivial ?_ ?_ ?_ ?_ ?_ <;> first | decide | (simp only [WS, JA, JB, wI64, wU64, Int.reduceAdd, Int.reduceSub, Int.reduceMul, Int.reduceLE, Int.reduceLT, Int.reduceNeg, Int.reduceToNat, Int.cast_ofNat_Int, sx0, sx1, sx2, sx3, sx4, sx5, sx6, sx7, sy0, sy1, List.filterMap_cons, JC, JD, WT, JE, JF, JG, JH, JI, JJ, JK, WU, JL, JM, JN, JO, WV, JP, JQ, WW, JR, JS, JT, JU, JV, JW, JX, JY, JZ, WA, WB, WC, WD, WE, WF, WG, WH, WI, WJ, WK, WL, WM, WN, true_and, and_true, reduceCtorEq, ↓reduceIte, ↓bifT, ↓bifF, ↓gifT, ↓gifF, eq_self, WO, WP, WQ, Nat.reduceLT, Nat.reduceLeDiff, Nat.reduceAdd, Nat.reduceSub, Nat.reduceMul, Nat.reduceMod, WR, Nat.reduceBEq, Int.reduceBEq, Int.reduceBNe, BEq.rfl, List.getD_cons_zero, List.getD_cons_succ, or_false, false_or, or_self, or_true, true_or, decide_true]; done))); intro os' s hR; obtain ⟨rfl, rfl⟩ := hR)); simp only [WS, JA, JB, wI64, wU64, Int.reduceAdd, Int.reduceSub, Int.reduceMul, Int.reduceLE, Int.reduceLT, Int.reduceNeg, Int.reduceToNat, Int.cast_ofNat_Int, sx0, sx1, sx2, sx3, sx4, sx5, sx6, sx7, sy0, sy1, List.filterMap_cons, JC, JD, WT, JE, JF, JG, JH, JI, JJ, JK, WU, JL, JM, JN, JO, WV, JP, JQ, WW, JR, JS, JT, JU, JV, JW, JX, JY, JZ, WA, WB, WC, WD, WE, WF, WG, WH, WI, WJ, WK, WL, WM, WN, true_and, and_true, reduceCtorEq, ↓reduceIte, ↓bifT, ↓bifF, ↓gifT, ↓gifF, eq_self, WO, WP, WQ, Nat.reduceLT, Nat.reduceLeDiff, Nat.reduceAdd, Nat.reduceSub, Nat.reduceMul, Nat.reduceMod, WR, Nat.reduceBEq, Int.reduceBEq, Int.reduceBNe, BEq.rfl, hnt, hT, hk1, hk2, hk3, hl])
    | (refine SX.block ?_)
    | (refine and_mk ?_ ?_; (focus first | decide | omega | rfl | assumption | (simp only [List.length_append, List.length_cons, List.length_nil, B_size]; omega) | (simp; done)))
    | (refine And.intro ?_ ?_))
  all_goals (try refine Done.mk ?_)
  all_goals ((refine hN0 _ _ ⟨[0, 1], _, _, ?_, ?_, ?_, ⟨rfl, rfl⟩⟩; (focus exact LeR.of rfl trivial (by simp only [WS, JA, JB, wI64, wU64, Int.reduceAdd, Int.reduceSub, Int.reduceMul, Int.reduceLE, Int.reduceLT, Int.reduceNeg, Int.reduceToNat, Int.cast_ofNat_Int, sx0, sx1, sx2, sx3, sx4, sx5, sx6, sx7, sy0, sy1, List.filterMap_cons, JC, JD, WT, JE, JF, JG, JH, JI, JJ, JK, WU, JL, JM, JN, JO, WV, JP, JQ, WW, JR, JS, JT, JU, JV, JW, JX, JY, JZ, WA, WB, WC, WD, WE, WF, WG, WH, WI, WJ, WK, WL, WM, WN, true_and, and_true, reduceCtorEq, ↓reduceIte, ↓bifT, ↓bifF, ↓gifT, ↓gifF, eq_self, WO, WP, WQ, Nat.reduceLT, Nat.reduceLeDiff, Nat.reduceAdd, Nat.reduceSub, Nat.reduceMul, Nat.reduceMod, WR, Nat.reduceBEq, Int.reduceBEq, Int.reduceBNe, BEq.rfl, List.getD_cons_zero, List.getD_cons_succ, or_false, false_or, or_self, or_true, true_or, decide_true]) (by decide) rfl rfl rfl); rotate_left; (focus rfl)); rfl)
def insM (ms : List Mk) (m : Mk) : List Mk := ms.take (bsN ms m) ++ m :: ms.drop (bsN ms m)
theorem bsN_le (ms : List Mk) (m : Mk) : bsN ms m ≤ ms.length := by
  unfold bsN
  exact List.Sublist.length_le (List.takeWhile_sublist _)
theorem insM_len (ms : List Mk) (m : Mk) : (insM ms m).length = ms.length + 1 := by
  have := bsN_le ms m
  simp [insM]; omega
def newM (t : Int) (s : List UInt8) (q : Int) : Mk := ⟨t, s, q, 1, []⟩
theorem begin_ok (ms : List Mk) (hms : ms.length < 1024) (t q : Int) (s : List UInt8) (hsl : s.length ≤ 4611686018427387904) (hs : Sorted2 ms (newM t s q)) (h : badB t s q = false) (hl : decide (0 ≤ idxI (isAt t s q) ms) = false) : Ctr Tryd.prog [] 28 [.cells [.row 1] 148, mrow ms] [.one (.c (.loc 0 0)), .one (.agg [.v (.int .i64 t), .v (.string (B s))]), vv (.int .u64 q)]
    (fun os v => os = [.cells [.row 2] 148, .gone, mrow (insM ms (newM t s q))] ∧ v = vv (.int .i64 0)) := by
  refine Ctr.less ?_
  simp only [badB, Bool.or_eq_false_iff, Bool.not_eq_false'] at h
  obtain ⟨⟨hk1, hk2⟩, hk3⟩ := h
  have hlen := insM_len ms (newM t s q)
  have hgt : decide (1024 < ((insM ms (newM t s q)).length : Int)) = false := by simp; omega
  have hins : Ctr Tryd.prog [] 83 [mrow ms, .cells [.v (.int .i64 t), .v (.string (B s)), .v (.int .u64 q), .v (.int .i64 1), .v (.string (B []))] 62] [.one (.c (.row 0)), vv (.int .i64 (bsN ms (newM t s q))), .one (.c (.sl 1 0 1 1))]
    (fun os v => os = [.gone, .cells [.v (.int .i64 t), .v (.string (B s)), .v (.int .u64 q), .v (.int .i64 1), .v (.string (B []))] 62, mrow (insM ms (newM t s q))] ∧ v = .one (.c (.row 2))) := insert_ctr ms (by omega) (newM t s q) _ (bsN_le _ _)
  intro X0 hP0 hG0 N0 hN0
  refine CallVC.inline (f := 28) (by rw [hP0]; exact Tryd.func28) rfl Tryd.ntmps28 rfl (by simp) ?_
  intro X K hU hnt hbl hK
  have hP : X.P = Tryd.prog := by rw [hU.P, hP0]
  have hG := hG0.under hU
  have hT : aggOf X.P 26 = some true ∧ szOf X.P 26 = some 2 ∧ aggOf X.P 22 = some false ∧ szOf X.P 22 = some 1 ∧ fieldsOf X.P 62 = some [(0, 2), (2, 1), (3, 1), (4, 1)] ∧ zeroCells X.P 62 = some [(Value.int IntKind.i64 0), (Value.string { data := #[] }), (Value.int IntKind.u64 0), (Value.int IntKind.i64 0), (Value.string { data := #[] })] ∧ szOf X.P 62 = some 5 ∧ calleeOk X.P 78 = true ∧ fieldOff X.P 26 1 = some 1 ∧ aggOf X.P 9 = some false ∧ szOf X.P 9 = some 1 ∧ fieldOff X.P 148 0 = some 0 ∧ aggOf X.P 59 = some false ∧ szOf X.P 59 = some 1 ∧ calleeOk X.P 80 = true ∧ calleeOk X.P 79 = true ∧ aggOf X.P 62 = some true ∧ calleeOk X.P 81 = true ∧ elemSz X.P 59 = some (62, 5) ∧ calleeOk X.P 83 = true ∧ X.P.underlying 59 = some (TypeDesc.slice 62) ∧ calleeOk X.P 84 = true ∧ calleeOk X.P 88 = true ∧ calleeOk X.P 87 = true := by rw [hP]; exact ⟨Ty.ag26, Ty.sz26, Ty.ag22, Ty.sz22, Ty.fs62, Ty.ze62, Ty.sz62, Ty.co78, Ty.fo26_1, Ty.ag9, Ty.sz9, Ty.fo148_0, Ty.ag59, Ty.sz59, Ty.co80, Ty.co79, Ty.ag62, Ty.co81, Ty.el59, Ty.co83, Tryd.underlying59, Ty.co84, Ty.co88, Ty.co87⟩
  simp only [WS, JA, JB, wI64, wU64, Int.reduceAdd, Int.reduceSub, Int.reduceMul, Int.reduceLE, Int.reduceLT, Int.reduceNeg, Int.reduceToNat, Int.cast_ofNat_Int, sx0, sx1, sx2, sx3, sx4, sx5, sx6, sx7, sy0, sy1, List.filterMap_cons, JC, JD, WT, JE, JF, JG, JH, JI, JJ, JK, WU, JL, JM, JN, JO, WV, JP, JQ, WW, JR, JS, JT, JU, JV, JW, JX, JY, JZ, WA, WB, WC, WD, WE, WF, WG, WH, WI, WJ, WK, WL, WM, WN, true_and, and_true, reduceCtorEq, ↓reduceIte, ↓bifT, ↓bifF, ↓gifT, ↓gifF, eq_self, WO, WP, WQ, Nat.reduceLT, Nat.reduceLeDiff, Nat.reduceAdd, Nat.reduceSub, Nat.reduceMul, Nat.reduceMod, WR, Nat.reduceBEq, Int.reduceBEq, Int.reduceBNe, BEq.rfl] at hbl ⊢
  repeat' (first
    | (refine SX.seqK ?_; intro N hN)
    | ((first | (refine SX.ops ?_) | (refine SX.planT (id := 6) [.q [(0, [0]), (1, [35]), (2, [36]), (3, [37]), (4, [7])] none, .s 5, .s 6, .q [(7, [34]), (8, [34]), (9, [41]), (10, [42])] none] ?_ ?_ ?_; (focus first | (rw [hP]; kernel_rfl) | (rw [hU1P, hP]; kernel_rfl)); (focus kernel_rfl)) | (refine SX.planT (id := 7) [.f 0, .q [(1, [0]), (2, [44]), (3, [45]), (4, [46]), (5, [8]), (6, [7])] (some (7, [49])), .s 8, .s 9, .s 10, .s 11] ?_ ?_ ?_; (focus first | (rw [hP]; kernel_rfl) | (rw [hU1P, hP]; kernel_rfl)); (focus kernel_rfl))); simp only [WS, JA, JB, wI64, wU64, Int.reduceAdd, Int.reduceSub, Int.reduceMul, Int.reduceLE, Int.reduceLT, Int.reduceNeg, Int.reduceToNat, Int.cast_ofNat_Int, sx0, sx1, sx2, sx3, sx4, sx5, sx6, sx7, sy0, sy1, List.filterMap_cons, JC, JD, WT, JE, JF, JG, JH, JI, JJ, JK, WU, JL, JM, JN, JO, WV, JP, JQ, WW, JR, JS, JT, JU, JV, JW, JX, JY, JZ, WA, WB, WC, WD, WE, WF, WG, WH, WI, WJ, WK, WL, WM, WN, true_and, and_true, reduceCtorEq, ↓reduceIte, ↓bifT, ↓bifF, ↓gifT, ↓gifF, eq_self, WO, WP, WQ, Nat.reduceLT, Nat.reduceLeDiff, Nat.reduceAdd, Nat.reduceSub, Nat.reduceMul, Nat.reduceMod, WR, Nat.reduceBEq, Int.reduceBEq, Int.reduceBNe, BEq.rfl, hnt, hT, hk1, hk2, hk3, hl, hgt])
    | ((first | refine SX.skip ?_ | refine SX.exit ?_ | refine SX.label ?_); try simp only [WS, JA, JB, wI64, wU64, Int.reduceAdd, Int.reduceSub, Int.reduceMul, Int.reduceLE, Int.reduceLT, Int.reduceNeg, Int.reduceToNat, Int.cast_ofNat_Int, sx0, sx1, sx2, sx3, sx4, sx5, sx6, sx7, sy0, sy1, List.filterMap_cons, JC, JD, WT, JE, JF, JG, JH, JI, JJ, JK, WU, JL, JM, JN, JO, WV, JP, JQ, WW, JR, JS, JT, JU, JV, JW, JX, JY, JZ, WA, WB, WC, WD, WE, WF, WG, WH, WI, WJ, WK, WL, WM, WN, true_and, and_true, reduceCtorEq, ↓reduceIte, ↓bifT, ↓bifF, ↓gifT, ↓gifF, eq_self, WO, WP, WQ, Nat.reduceLT, Nat.reduceLeDiff, Nat.reduceAdd, Nat.reduceSub, Nat.reduceMul, Nat.reduceMod, WR, Nat.reduceBEq, Int.reduceBEq, Int.reduceBNe, BEq.rfl])
    | (refine SX.cond rfl (fun hb => ?_) (fun hb => ?_) <;> ((first | cases hb | (simp only [decide_eq_true_eq, decide_eq_false_iff_not, beq_iff_eq, beq_eq_false_iff_ne, bne_iff_ne, Bool.and_eq_true, Bool.or_eq_true, Bool.not_eq_true', Bool.not_eq_false', Bool.and_eq_false_iff, Bool.or_eq_false_iff, Int.not_lt, Int.not_le] at hb) | skip) <;> (first | (exfalso; omega) | skip)))
    | (refine SX.ret ?_; try simp only [WS, JA, JB, wI64, wU64, Int.reduceAdd, Int.reduceSub, Int.reduceMul, Int.reduceLE, Int.reduceLT, Int.reduceNeg, Int.reduceToNat, Int.cast_ofNat_Int, sx0, sx1, sx2, sx3, sx4, sx5, sx6, sx7, sy0, sy1, List.filterMap_cons, JC, JD, WT, JE, JF, JG, JH, JI, JJ, JK, WU, JL, JM, JN, JO, WV, JP, JQ, WW, JR, JS, JT, JU, JV, JW, JX, JY, JZ, WA, WB, WC, WD, WE, WF, WG, WH, WI, WJ, WK, WL, WM, WN, true_and, and_true, reduceCtorEq, ↓reduceIte, ↓bifT, ↓bifF, ↓gifT, ↓gifF, eq_self, WO, WP, WQ, Nat.reduceLT, Nat.reduceLeDiff, Nat.reduceAdd, Nat.reduceSub, Nat.reduceMul, Nat.reduceMod, WR, Nat.reduceBEq, Int.reduceBEq, Int.reduceBNe, BEq.rfl])
    | (refine hN _ ?_; clear hN N)
    | ((first | refine hK _ _ (FinI.ret3 ?_) | refine hK _ _ (FinI.nrm3 ?_)); simp only [WS, JA, JB, wI64, wU64, Int.reduceAdd, Int.reduceSub, Int.reduceMul, Int.reduceLE, Int.reduceLT, Int.reduceNeg, Int.reduceToNat, Int.cast_ofNat_Int, sx0, sx1, sx2, sx3, sx4, sx5, sx6, sx7, sy0, sy1, List.filterMap_cons, JC, JD, WT, JE, JF, JG, JH, JI, JJ, JK, WU, JL, JM, JN, JO, WV, JP, JQ, WW, JR, JS, JT, JU, JV, JW, JX, JY, JZ, WA, WB, WC, WD, WE, WF, WG, WH, WI, WJ, WK, WL, WM, WN, true_and, and_true, reduceCtorEq, ↓reduceIte, ↓bifT, ↓bifF, ↓gifT, ↓gifF, eq_self, WO, WP, WQ, Nat.reduceLT, Nat.reduceLeDiff, Nat.reduceAdd, Nat.reduceSub, Nat.reduceMul, Nat.reduceMod, WR, Nat.reduceBEq, Int.reduceBEq, Int.reduceBNe, BEq.rfl, finP_s, hnt, hT, hk1, hk2, hk3, hl, hgt]; refine Done.out ?_)
    | (clear hN N; first | (refine hN _ ?_; clear hN N) | (clear hN N; first | (refine hN _ ?_; clear hN N) | (clear hN N; first | (refine hN _ ?_; clear hN N) | (clear hN N; first | (refine hN _ ?_; clear hN N) | (clear hN N; first | (refine hN _ ?_; clear hN N) | (refine hN _ ?_; clear hN N))))))
    | (refine bif2.mk (fun hb => ?_) (fun hb => ?_) <;> (try simp only [hb, WS, JA, JB, wI64, wU64, Int.reduceAdd, Int.reduceSub, Int.reduceMul, Int.reduceLE, Int.reduceLT, Int.reduceNeg, Int.reduceToNat, Int.cast_ofNat_Int, sx0, sx1, sx2, sx3, sx4, sx5, sx6, sx7, sy0, sy1, List.filterMap_cons, JC, JD, WT, JE, JF, JG, JH, JI, JJ, JK, WU, JL, JM, JN, JO, WV, JP, JQ, WW, JR, JS, JT, JU, JV, JW, JX, JY, JZ, WA, WB, WC, WD, WE, WF, WG, WH, WI, WJ, WK, WL, WM, WN, true_and, and_true, reduceCtorEq, ↓reduceIte, ↓bifT, ↓bifF, ↓gifT, ↓gifF, eq_self, WO, WP, WQ, Nat.reduceLT, Nat.reduceLeDiff, Nat.reduceAdd, Nat.reduceSub, Nat.reduceMul, Nat.reduceMod, WR, Nat.reduceBEq, Int.reduceBEq, Int.reduceBNe, BEq.rfl, hnt, hT, hk1, hk2, hk3, hl, hgt]) <;> ((first | cases hb | (simp only [decide_eq_true_eq, decide_eq_false_iff_not, beq_iff_eq, beq_eq_false_iff_ne, bne_iff_ne, Bool.and_eq_true, Bool.or_eq_true, Bool.not_eq_true', Bool.not_eq_false', Bool.and_eq_false_iff, Bool.or_eq_false_iff, Int.not_lt, Int.not_le] at hb) | skip) <;> (first | (exfalso; omega) | skip)))
    | ((first | (refine CallVC.pv hP (key_any t s hsl) rfl ?_) | (refine CallQ.pv hP (key_any t s hsl) rfl ?_) | (refine Ctr.use (containsFunc1 ms (by omega) t q s) hP ?_ [1,2,3] ?_ rfl rfl ?_; (focus (intro p hp; cases hp)); (focus (refine LeR.of rfl trivial ?_ ?_ ?_ ?_ ?_ <;> first | decide | (simp only [WS, JA, JB, wI64, wU64, Int.reduceAdd, Int.reduceSub, Int.reduceMul, Int.reduceLE, Int.reduceLT, Int.reduceNeg, Int.reduceToNat, Int.cast_ofNat_Int, sx0, sx1, sx2, sx3, sx4, sx5, sx6, sx7, sy0, sy1, List.filterMap_cons, JC, JD, WT, JE, JF, JG, JH, JI, JJ, JK, WU, JL, JM, JN, JO, WV, JP, JQ, WW, JR, JS, JT, JU, JV, JW, JX, JY, JZ, WA, WB, WC, WD, WE, WF, WG, WH, WI, WJ, WK, WL, WM, WN, true_and, and_true, reduceCtorEq, ↓reduceIte, ↓bifT, ↓bifF, ↓gifT, ↓gifF, eq_self, WO, WP, WQ, Nat.reduceLT, Nat.reduceLeDiff, Nat.reduceAdd, Nat.reduceSub, Nat.reduceMul, Nat.reduceMod, WR, Nat.reduceBEq, Int.reduceBEq, Int.reduceBNe, BEq.rfl, List.getD_cons_zero, List.getD_cons_succ, or_false, false_or, or_self, or_true, true_or, decide_true]; done))); intro os' s hR; obtain ⟨rfl, rfl⟩ := hR) | (refine Ctr.use (search_ctr ms (by omega) (newM t s q) hs) hP ?_ [1] ?_ rfl rfl ?_; (focus (intro p hp; cases hp)); (focus (refine LeR.of rfl trivial ?_ ?_ ?_ ?_ ?_ <;> first | decide | (simp only [WS, JA, JB, wI64, wU64, Int.reduceAdd, Int.reduceSub, Int.reduceMul, Int.reduceLE, Int.reduceLT, Int.reduceNeg, Int.reduceToNat, Int.cast_ofNat_Int, sx0, sx1, sx2, sx3, sx4, sx5, sx6, sx7, sy0, sy1, List.filterMap_cons, JC, JD, WT, JE, JF, JG, JH, JI, JJ, JK, WU, JL, JM, JN, JO, WV, JP, JQ, WW, JR, JS, JT, JU, JV, JW, JX, JY, JZ, WA, WB, WC, WD, WE, WF, WG, WH, WI, WJ, WK, WL, WM, WN, true_and, and_true, reduceCtorEq, ↓reduceIte, ↓bifT, ↓bifF, ↓gifT, ↓gifF, eq_self, WO, WP, WQ, Nat.reduceLT, Nat.reduceLeDiff, Nat.reduceAdd, Nat.reduceSub, Nat.reduceMul, Nat.reduceMod, WR, Nat.reduceBEq, Int.reduceBEq, Int.reduceBNe, BEq.rfl, List.getD_cons_zero, List.getD_cons_succ, or_false, false_or, or_self, or_true, true_or, decide_true]; done))); intro os' s hR; obtain ⟨rfl, rfl⟩ := hR) | (refine Ctr.use (hins) hP ?_ [1,5] ?_ rfl rfl ?_; (focus (intro p hp; cases hp)); (focus (refine LeR.of rfl trivial ?_ ?_ ?_ ?_ ?_ <;> first | decide | (simp only [WS, JA, JB, wI64, wU64, Int.reduceAdd, Int.reduceSub, Int.reduceMul, Int.reduceLE, Int.reduceLT, Int.reduceNeg, Int.reduceToNat, Int.cast_ofNat_Int, sx0, sx1, sx2, sx3, sx4, sx5, sx6, sx7, sy0, sy1, List.filterMap_cons, JC, JD, WT, JE, JF, JG, JH, JI, JJ, JK, WU, JL, JM, JN, JO, WV, JP, JQ, WW, JR, JS, JT, JU, JV, JW, JX, JY, JZ, WA, WB, WC, WD, WE, WF, WG, WH, WI, WJ, WK, WL, WM, WN, true_and, and_true, reduceCtorEq, ↓reduceIte, ↓bifT, ↓bifF, ↓gifT, ↓gifF, eq_self, WO, WP, WQ, Nat.reduceLT, Nat.reduceLeDiff, Nat.reduceAdd, Nat.reduceSub, Nat.reduceMul, Nat.reduceMod, WR, Nat.reduceBEq, Int.reduceBEq, Int.reduceBNe, BEq.rfl, List.getD_cons_zero, List.getD_cons_succ, or_false, false_or, or_self, or_true, true_or, decide_true]; done))); intro os' s hR; obtain ⟨rfl, rfl⟩ := hR)); simp only [WS, JA, JB, wI64, wU64, Int.reduceAdd, Int.reduceSub, Int.reduceMul, Int.reduceLE, Int.reduceLT, Int.reduceNeg, Int.reduceToNat, Int.cast_ofNat_Int, sx0, sx1, sx2, sx3, sx4, sx5, sx6, sx7, sy0, sy1, List.filterMap_cons, JC, JD, WT, JE, JF, JG, JH, JI, JJ, JK, WU, JL, JM, JN, JO, WV, JP, JQ, WW, JR, JS, JT, JU, JV, JW, JX, JY, JZ, WA, WB, WC, WD, WE, WF, WG, WH, WI, WJ, WK, WL, WM, WN, true_and, and_true, reduceCtorEq, ↓reduceIte, ↓bifT, ↓bifF, ↓gifT, ↓gifF, eq_self, WO, WP, WQ, Nat.reduceLT, Nat.reduceLeDiff, Nat.reduceAdd, Nat.reduceSub, Nat.reduceMul, Nat.reduceMod, WR, Nat.reduceBEq, Int.reduceBEq, Int.reduceBNe, BEq.rfl, hnt, hT, hk1, hk2, hk3, hl, hgt])
    | (refine SX.block ?_)
    | (refine and_mk ?_ ?_; (focus first | decide | omega | rfl | assumption | (simp only [List.length_append, List.length_cons, List.length_nil, B_size]; omega) | (simp; done)))
    | (refine And.intro ?_ ?_))
  all_goals (try refine Done.mk ?_)
  all_goals ((refine hN0 _ _ ⟨[0, 1, 6], _, _, ?_, ?_, ?_, ⟨rfl, rfl⟩⟩; (focus exact LeR.of rfl trivial (by simp only [WS, JA, JB, wI64, wU64, Int.reduceAdd, Int.reduceSub, Int.reduceMul, Int.reduceLE, Int.reduceLT, Int.reduceNeg, Int.reduceToNat, Int.cast_ofNat_Int, sx0, sx1, sx2, sx3, sx4, sx5, sx6, sx7, sy0, sy1, List.filterMap_cons, JC, JD, WT, JE, JF, JG, JH, JI, JJ, JK, WU, JL, JM, JN, JO, WV, JP, JQ, WW, JR, JS, JT, JU, JV, JW, JX, JY, JZ, WA, WB, WC, WD, WE, WF, WG, WH, WI, WJ, WK, WL, WM, WN, true_and, and_true, reduceCtorEq, ↓reduceIte, ↓bifT, ↓bifF, ↓gifT, ↓gifF, eq_self, WO, WP, WQ, Nat.reduceLT, Nat.reduceLeDiff, Nat.reduceAdd, Nat.reduceSub, Nat.reduceMul, Nat.reduceMod, WR, Nat.reduceBEq, Int.reduceBEq, Int.reduceBNe, BEq.rfl, List.getD_cons_zero, List.getD_cons_succ, or_false, false_or, or_self, or_true, true_or, decide_true]) (by decide) rfl rfl rfl); rotate_left; (focus rfl)); rfl)
def dropM (ms : List Mk) (m : Mk) : List Mk := ms.filter fun x => !isMk m.t m.s m.q m.st m.d x
def fullM (ms : List Mk) (m : Mk) : List Mk := dropM (insM ms m) (minQ (insM ms m) ((insM ms m).length - 1))
theorem begin_full (ms : List Mk) (hms : ms.length = 1024) (t q : Int) (s : List UInt8) (hsl : s.length ≤ 4611686018427387904) (hs : Sorted2 ms (newM t s q)) (h : badB t s q = false) (hl : decide (0 ≤ idxI (isAt t s q) ms) = false) : Ctr Tryd.prog [] 28 [.cells [.row 1] 148, mrow ms] [.one (.c (.loc 0 0)), .one (.agg [.v (.int .i64 t), .v (.string (B s))]), vv (.int .u64 q)]
    (fun os v => os = [.cells [.row 2] 148, .gone, mrow (fullM ms (newM t s q))] ∧ v = vv (.int .i64 0)) := by
  unfold fullM dropM
  refine Ctr.less ?_
  simp only [badB, Bool.or_eq_false_iff, Bool.not_eq_false'] at h
  obtain ⟨⟨hk1, hk2⟩, hk3⟩ := h
  have hlen := insM_len ms (newM t s q)
  have hgt : decide (1024 < ((insM ms (newM t s q)).length : Int)) = true := by simp; omega
  have hins : Ctr Tryd.prog [] 83 [mrow ms, .cells [.v (.int .i64 t), .v (.string (B s)), .v (.int .u64 q), .v (.int .i64 1), .v (.string (B []))] 62] [.one (.c (.row 0)), vv (.int .i64 (bsN ms (newM t s q))), .one (.c (.sl 1 0 1 1))]
    (fun os v => os = [.gone, .cells [.v (.int .i64 t), .v (.string (B s)), .v (.int .u64 q), .v (.int .i64 1), .v (.string (B []))] 62, mrow (insM ms (newM t s q))] ∧ v = .one (.c (.row 2))) := insert_ctr ms (by omega) (newM t s q) _ (bsN_le _ _)
  have hmin := min_ctr (insM ms (newM t s q)) (by omega) (by omega)
  have hdel := deleteFunc3 (insM ms (newM t s q)) (by omega) (minQ (insM ms (newM t s q)) ((insM ms (newM t s q)).length - 1)).t (minQ (insM ms (newM t s q)) ((insM ms (newM t s q)).length - 1)).q (minQ (insM ms (newM t s q)) ((insM ms (newM t s q)).length - 1)).st (minQ (insM ms (newM t s q)) ((insM ms (newM t s q)).length - 1)).s (minQ (insM ms (newM t s q)) ((insM ms (newM t s q)).length - 1)).d
  simp only [Mk.cells, List.map_cons, List.map_nil] at hmin
  intro X0 hP0 hG0 N0 hN0
  refine CallVC.inline (f := 28) (by rw [hP0]; exact Tryd.func28) rfl Tryd.ntmps28 rfl (by simp) ?_
  intro X K hU hnt hbl hK
  have hP : X.P = Tryd.prog := by rw [hU.P, hP0]
  have hG := hG0.under hU
  have hT : aggOf X.P 26 = some true ∧ szOf X.P 26 = some 2 ∧ aggOf X.P 22 = some false ∧ szOf X.P 22 = some 1 ∧ fieldsOf X.P 62 = some [(0, 2), (2, 1), (3, 1), (4, 1)] ∧ zeroCells X.P 62 = some [(Value.int IntKind.i64 0), (Value.string { data := #[] }), (Value.int IntKind.u64 0), (Value.int IntKind.i64 0), (Value.string { data := #[] })] ∧ szOf X.P 62 = some 5 ∧ calleeOk X.P 78 = true ∧ fieldOff X.P 26 1 = some 1 ∧ aggOf X.P 9 = some false ∧ szOf X.P 9 = some 1 ∧ fieldOff X.P 148 0 = some 0 ∧ aggOf X.P 59 = some false ∧ szOf X.P 59 = some 1 ∧ calleeOk X.P 80 = true ∧ calleeOk X.P 79 = true ∧ aggOf X.P 62 = some true ∧ calleeOk X.P 81 = true ∧ elemSz X.P 59 = some (62, 5) ∧ calleeOk X.P 83 = true ∧ X.P.underlying 59 = some (TypeDesc.slice 62) ∧ calleeOk X.P 84 = true ∧ calleeOk X.P 88 = true ∧ calleeOk X.P 87 = true := by rw [hP]; exact ⟨Ty.ag26, Ty.sz26, Ty.ag22, Ty.sz22, Ty.fs62, Ty.ze62, Ty.sz62, Ty.co78, Ty.fo26_1, Ty.ag9, Ty.sz9, Ty.fo148_0, Ty.ag59, Ty.sz59, Ty.co80, Ty.co79, Ty.ag62, Ty.co81, Ty.el59, Ty.co83, Tryd.underlying59, Ty.co84, Ty.co88, Ty.co87⟩
  simp only [WS, JA, JB, wI64, wU64, Int.reduceAdd, Int.reduceSub, Int.reduceMul, Int.reduceLE, Int.reduceLT, Int.reduceNeg, Int.reduceToNat, Int.cast_ofNat_Int, sx0, sx1, sx2, sx3, sx4, sx5, sx6, sx7, sy0, sy1, List.filterMap_cons, JC, JD, WT, JE, JF, JG, JH, JI, JJ, JK, WU, JL, JM, JN, JO, WV, JP, JQ, WW, JR, JS, JT, JU, JV, JW, JX, JY, JZ, WA, WB, WC, WD, WE, WF, WG, WH, WI, WJ, WK, WL, WM, WN, true_and, and_true, reduceCtorEq, ↓reduceIte, ↓bifT, ↓bifF, ↓gifT, ↓gifF, eq_self, WO, WP, WQ, Nat.reduceLT, Nat.reduceLeDiff, Nat.reduceAdd, Nat.reduceSub, Nat.reduceMul, Nat.reduceMod, WR, Nat.reduceBEq, Int.reduceBEq, Int.reduceBNe, BEq.rfl] at hbl ⊢
  repeat' (first
    | (refine SX.seqK ?_; intro N hN)
    | ((first | (refine SX.ops ?_) | (refine SX.planT (id := 6) [.q [(0, [0]), (1, [35]), (2, [36]), (3, [37]), (4, [7])] none, .s 5, .s 6, .q [(7, [34]), (8, [34]), (9, [41]), (10, [42])] none] ?_ ?_ ?_; (focus first | (rw [hP]; kernel_rfl) | (rw [hU1P, hP]; kernel_rfl)); (focus kernel_rfl)) | (refine SX.planT (id := 7) [.f 0, .q [(1, [0]), (2, [44]), (3, [45]), (4, [46]), (5, [8]), (6, [7])] (some (7, [49])), .s 8, .s 9, .s 10, .s 11] ?_ ?_ ?_; (focus first | (rw [hP]; kernel_rfl) | (rw [hU1P, hP]; kernel_rfl)); (focus kernel_rfl))); simp only [WS, JA, JB, wI64, wU64, Int.reduceAdd, Int.reduceSub, Int.reduceMul, Int.reduceLE, Int.reduceLT, Int.reduceNeg, Int.reduceToNat, Int.cast_ofNat_Int, sx0, sx1, sx2, sx3, sx4, sx5, sx6, sx7, sy0, sy1, List.filterMap_cons, JC, JD, WT, JE, JF, JG, JH, JI, JJ, JK, WU, JL, JM, JN, JO, WV, JP, JQ, WW, JR, JS, JT, JU, JV, JW, JX, JY, JZ, WA, WB, WC, WD, WE, WF, WG, WH, WI, WJ, WK, WL, WM, WN, true_and, and_true, reduceCtorEq, ↓reduceIte, ↓bifT, ↓bifF, ↓gifT, ↓gifF, eq_self, WO, WP, WQ, Nat.reduceLT, Nat.reduceLeDiff, Nat.reduceAdd, Nat.reduceSub, Nat.reduceMul, Nat.reduceMod, WR, Nat.reduceBEq, Int.reduceBEq, Int.reduceBNe, BEq.rfl, hnt, hT, hk1, hk2, hk3, hl, hgt])
    | ((first | refine SX.skip ?_ | refine SX.exit ?_ | refine SX.label ?_); try simp only [WS, JA, JB, wI64, wU64, Int.reduceAdd, Int.reduceSub, Int.reduceMul, Int.reduceLE, Int.reduceLT, Int.reduceNeg, Int.reduceToNat, Int.cast_ofNat_Int, sx0, sx1, sx2, sx3, sx4, sx5, sx6, sx7, sy0, sy1, List.filterMap_cons, JC, JD, WT, JE, JF, JG, JH, JI, JJ, JK, WU, JL, JM, JN, JO, WV, JP, JQ, WW, JR, JS, JT, JU, JV, JW, JX, JY, JZ, WA, WB, WC, WD, WE, WF, WG, WH, WI, WJ, WK, WL, WM, WN, true_and, and_true, reduceCtorEq, ↓reduceIte, ↓bifT, ↓bifF, ↓gifT, ↓gifF, eq_self, WO, WP, WQ, Nat.reduceLT, Nat.reduceLeDiff, Nat.reduceAdd, Nat.reduceSub, Nat.reduceMul, Nat.reduceMod, WR, Nat.reduceBEq, Int.reduceBEq, Int.reduceBNe, BEq.rfl])
    | (refine SX.cond rfl (fun hb => ?_) (fun hb => ?_) <;> ((first | cases hb | (simp only [decide_eq_true_eq, decide_eq_false_iff_not, beq_iff_eq, beq_eq_false_iff_ne, bne_iff_ne, Bool.and_eq_true, Bool.or_eq_true, Bool.not_eq_true', Bool.not_eq_false', Bool.and_eq_false_iff, Bool.or_eq_false_iff, Int.not_lt, Int.not_le] at hb) | skip) <;> (first | (exfalso; omega) | skip)))
    | (refine SX.ret ?_; try simp only [WS, JA, JB, wI64, wU64, Int.reduceAdd, Int.reduceSub, Int.reduceMul, Int.reduceLE, Int.reduceLT, Int.reduceNeg, Int.reduceToNat, Int.cast_ofNat_Int, sx0, sx1, sx2, sx3, sx4, sx5, sx6, sx7, sy0, sy1, List.filterMap_cons, JC, JD, WT, JE, JF, JG, JH, JI, JJ, JK, WU, JL, JM, JN, JO, WV, JP, JQ, WW, JR, JS, JT, JU, JV, JW, JX, JY, JZ, WA, WB, WC, WD, WE, WF, WG, WH, WI, WJ, WK, WL, WM, WN, true_and, and_true, reduceCtorEq, ↓reduceIte, ↓bifT, ↓bifF, ↓gifT, ↓gifF, eq_self, WO, WP, WQ, Nat.reduceLT, Nat.reduceLeDiff, Nat.reduceAdd, Nat.reduceSub, Nat.reduceMul, Nat.reduceMod, WR, Nat.reduceBEq, Int.reduceBEq, Int.reduceBNe, BEq.rfl])
    | (refine hN _ ?_; clear hN N)
    | ((first | refine hK _ _ (FinI.ret3 ?_) | refine hK _ _ (FinI.nrm3 ?_)); simp only [WS, JA, JB, wI64, wU64, Int.reduceAdd, Int.reduceSub, Int.reduceMul, Int.reduceLE, Int.reduceLT, Int.reduceNeg, Int.reduceToNat, Int.cast_ofNat_Int, sx0, sx1, sx2, sx3, sx4, sx5, sx6, sx7, sy0, sy1, List.filterMap_cons, JC, JD, WT, JE, JF, JG, JH, JI, JJ, JK, WU, JL, JM, JN, JO, WV, JP, JQ, WW, JR, JS, JT, JU, JV, JW, JX, JY, JZ, WA, WB, WC, WD, WE, WF, WG, WH, WI, WJ, WK, WL, WM, WN, true_and, and_true, reduceCtorEq, ↓reduceIte, ↓bifT, ↓bifF, ↓gifT, ↓gifF, eq_self, WO, WP, WQ, Nat.reduceLT, Nat.reduceLeDiff, Nat.reduceAdd, Nat.reduceSub, Nat.reduceMul, Nat.reduceMod, WR, Nat.reduceBEq, Int.reduceBEq, Int.reduceBNe, BEq.rfl, finP_s, hnt, hT, hk1, hk2, hk3, hl, hgt]; refine Done.out ?_)
    | (clear hN N; first | (refine hN _ ?_; clear hN N) | (clear hN N; first | (refine hN _ ?_; clear hN N) | (clear hN N; first | (refine hN _ ?_; clear hN N) | (clear hN N; first | (refine hN _ ?_; clear hN N) | (clear hN N; first | (refine hN _ ?_; clear hN N) | (refine hN _ ?_; clear hN N))))))
    | (refine bif2.mk (fun hb => ?_) (fun hb => ?_) <;> (try simp only [hb, WS, JA, JB, wI64, wU64, Int.reduceAdd, Int.reduceSub, Int.reduceMul, Int.reduceLE, Int.reduceLT, Int.reduceNeg, Int.reduceToNat, Int.cast_ofNat_Int, sx0, sx1, sx2, sx3, sx4, sx5, sx6, sx7, sy0, sy1, List.filterMap_cons, JC, JD, WT, JE, JF, JG, JH, JI, JJ, JK, WU, JL, JM, JN, JO, WV, JP, JQ, WW, JR, JS, JT, JU, JV, JW, JX, JY, JZ, WA, WB, WC, WD, WE, WF, WG, WH, WI, WJ, WK, WL, WM, WN, true_and, and_true, reduceCtorEq, ↓reduceIte, ↓bifT, ↓bifF, ↓gifT, ↓gifF, eq_self, WO, WP, WQ, Nat.reduceLT, Nat.reduceLeDiff, Nat.reduceAdd, Nat.reduceSub, Nat.reduceMul, Nat.reduceMod, WR, Nat.reduceBEq, Int.reduceBEq, Int.reduceBNe, BEq.rfl, hnt, hT, hk1, hk2, hk3, hl, hgt]) <;> ((first | cases hb | (simp only [decide_eq_true_eq, decide_eq_false_iff_not, beq_iff_eq, beq_eq_false_iff_ne, bne_iff_ne, Bool.and_eq_true, Bool.or_eq_true, Bool.not_eq_true', Bool.not_eq_false', Bool.and_eq_false_iff, Bool.or_eq_false_iff, Int.not_lt, Int.not_le] at hb) | skip) <;> (first | (exfalso; omega) | skip)))
    | ((first | (refine CallVC.pv hP (key_any t s hsl) rfl ?_) | (refine CallQ.pv hP (key_any t s hsl) rfl ?_) | (refine Ctr.use (containsFunc1 ms (by omega) t q s) hP ?_ [1,2,3] ?_ rfl rfl ?_; (focus (intro p hp; cases hp)); (focus (refine LeR.of rfl trivial ?_ ?_ ?_ ?_ ?_ <;> first | decide | (simp only [WS, JA, JB, wI64, wU64, Int.reduceAdd, Int.reduceSub, Int.reduceMul, Int.reduceLE, Int.reduceLT, Int.reduceNeg, Int.reduceToNat, Int.cast_ofNat_Int, sx0, sx1, sx2, sx3, sx4, sx5, sx6, sx7, sy0, sy1, List.filterMap_cons, JC, JD, WT, JE, JF, JG, JH, JI, JJ, JK, WU, JL, JM, JN, JO, WV, JP, JQ, WW, JR, JS, JT, JU, JV, JW, JX, JY, JZ, WA, WB, WC, WD, WE, WF, WG, WH, WI, WJ, WK, WL, WM, WN, true_and, and_true, reduceCtorEq, ↓reduceIte, ↓bifT, ↓bifF, ↓gifT, ↓gifF, eq_self, WO, WP, WQ, Nat.reduceLT, Nat.reduceLeDiff, Nat.reduceAdd, Nat.reduceSub, Nat.reduceMul, Nat.reduceMod, WR, Nat.reduceBEq, Int.reduceBEq, Int.reduceBNe, BEq.rfl, List.getD_cons_zero, List.getD_cons_succ, or_false, false_or, or_self, or_true, true_or, decide_true]; done))); intro os' s hR; obtain ⟨rfl, rfl⟩ := hR) | (refine Ctr.use (search_ctr ms (by omega) (newM t s q) hs) hP ?_ [1] ?_ rfl rfl ?_; (focus (intro p hp; cases hp)); (focus (refine LeR.of rfl trivial ?_ ?_ ?_ ?_ ?_ <;> first | decide | (simp only [WS, JA, JB, wI64, wU64, Int.reduceAdd, Int.reduceSub, Int.reduceMul, Int.reduceLE, Int.reduceLT, Int.reduceNeg, Int.reduceToNat, Int.cast_ofNat_Int, sx0, sx1, sx2, sx3, sx4, sx5, sx6, sx7, sy0, sy1, List.filterMap_cons, JC, JD, WT, JE, JF, JG, JH, JI, JJ, JK, WU, JL, JM, JN, JO, WV, JP, JQ, WW, JR, JS, JT, JU, JV, JW, JX, JY, JZ, WA, WB, WC, WD, WE, WF, WG, WH, WI, WJ, WK, WL, WM, WN, true_and, and_true, reduceCtorEq, ↓reduceIte, ↓bifT, ↓bifF, ↓gifT, ↓gifF, eq_self, WO, WP, WQ, Nat.reduceLT, Nat.reduceLeDiff, Nat.reduceAdd, Nat.reduceSub, Nat.reduceMul, Nat.reduceMod, WR, Nat.reduceBEq, Int.reduceBEq, Int.reduceBNe, BEq.rfl, List.getD_cons_zero, List.getD_cons_succ, or_false, false_or, or_self, or_true, true_or, decide_true]; done))); intro os' s hR; obtain ⟨rfl, rfl⟩ := hR) | (refine Ctr.use (hins) hP ?_ [1,5] ?_ rfl rfl ?_; (focus (intro p hp; cases hp)); (focus (refine LeR.of rfl trivial ?_ ?_ ?_ ?_ ?_ <;> first | decide | (simp only [WS, JA, JB, wI64, wU64, Int.reduceAdd, Int.reduceSub, Int.reduceMul, Int.reduceLE, Int.reduceLT, Int.reduceNeg, Int.reduceToNat, Int.cast_ofNat_Int, sx0, sx1, sx2, sx3, sx4, sx5, sx6, sx7, sy0, sy1, List.filterMap_cons, JC, JD, WT, JE, JF, JG, JH, JI, JJ, JK, WU, JL, JM, JN, JO, WV, JP, JQ, WW, JR, JS, JT, JU, JV, JW, JX, JY, JZ, WA, WB, WC, WD, WE, WF, WG, WH, WI, WJ, WK, WL, WM, WN, true_and, and_true, reduceCtorEq, ↓reduceIte, ↓bifT, ↓bifF, ↓gifT, ↓gifF, eq_self, WO, WP, WQ, Nat.reduceLT, Nat.reduceLeDiff, Nat.reduceAdd, Nat.reduceSub, Nat.reduceMul, Nat.reduceMod, WR, Nat.reduceBEq, Int.reduceBEq, Int.reduceBNe, BEq.rfl, List.getD_cons_zero, List.getD_cons_succ, or_false, false_or, or_self, or_true, true_or, decide_true]; done))); intro os' s hR; obtain ⟨rfl, rfl⟩ := hR) | (refine Ctr.use (hmin) hP ?_ [6] ?_ rfl rfl ?_; (focus (intro p hp; cases hp)); (focus (refine LeR.of rfl trivial ?_ ?_ ?_ ?_ ?_ <;> first | decide | (simp only [WS, JA, JB, wI64, wU64, Int.reduceAdd, Int.reduceSub, Int.reduceMul, Int.reduceLE, Int.reduceLT, Int.reduceNeg, Int.reduceToNat, Int.cast_ofNat_Int, sx0, sx1, sx2, sx3, sx4, sx5, sx6, sx7, sy0, sy1, List.filterMap_cons, JC, JD, WT, JE, JF, JG, JH, JI, JJ, JK, WU, JL, JM, JN, JO, WV, JP, JQ, WW, JR, JS, JT, JU, JV, JW, JX, JY, JZ, WA, WB, WC, WD, WE, WF, WG, WH, WI, WJ, WK, WL, WM, WN, true_and, and_true, reduceCtorEq, ↓reduceIte, ↓bifT, ↓bifF, ↓gifT, ↓gifF, eq_self, WO, WP, WQ, Nat.reduceLT, Nat.reduceLeDiff, Nat.reduceAdd, Nat.reduceSub, Nat.reduceMul, Nat.reduceMod, WR, Nat.reduceBEq, Int.reduceBEq, Int.reduceBNe, BEq.rfl, List.getD_cons_zero, List.getD_cons_succ, or_false, false_or, or_self, or_true, true_or, decide_true]; done))); intro os' s hR; obtain ⟨rfl, rfl⟩ := hR) | (refine Ctr.use (hdel) hP ?_ [6,7] ?_ rfl rfl ?_; (focus (intro p hp; cases hp)); (focus (refine LeR.of rfl trivial ?_ ?_ ?_ ?_ ?_ <;> first | decide | (simp only [WS, JA, JB, wI64, wU64, Int.reduceAdd, Int.reduceSub, Int.reduceMul, Int.reduceLE, Int.reduceLT, Int.reduceNeg, Int.reduceToNat, Int.cast_ofNat_Int, sx0, sx1, sx2, sx3, sx4, sx5, sx6, sx7, sy0, sy1, List.filterMap_cons, JC, JD, WT, JE, JF, JG, JH, JI, JJ, JK, WU, JL, JM, JN, JO, WV, JP, JQ, WW, JR, JS, JT, JU, JV, JW, JX, JY, JZ, WA, WB, WC, WD, WE, WF, WG, WH, WI, WJ, WK, WL, WM, WN, true_and, and_true, reduceCtorEq, ↓reduceIte, ↓bifT, ↓bifF, ↓gifT, ↓gifF, eq_self, WO, WP, WQ, Nat.reduceLT, Nat.reduceLeDiff, Nat.reduceAdd, Nat.reduceSub, Nat.reduceMul, Nat.reduceMod, WR, Nat.reduceBEq, Int.reduceBEq, Int.reduceBNe, BEq.rfl, List.getD_cons_zero, List.getD_cons_succ, or_false, false_or, or_self, or_true, true_or, decide_true]; done))); intro os' s hR; obtain ⟨rfl, rfl⟩ := hR)); simp only [WS, JA, JB, wI64, wU64, Int.reduceAdd, Int.reduceSub, Int.reduceMul, Int.reduceLE, Int.reduceLT, Int.reduceNeg, Int.reduceToNat, Int.cast_ofNat_Int, sx0, sx1, sx2, sx3, sx4, sx5, sx6, sx7, sy0, sy1, List.filterMap_cons, JC, JD, WT, JE, JF, JG, JH, JI, JJ, JK, WU, JL, JM, JN, JO, WV, JP, JQ, WW, JR, JS, JT, JU, JV, JW, JX, JY, JZ, WA, WB, WC, WD, WE, WF, WG, WH, WI, WJ, WK, WL, WM, WN, true_and, and_true, reduceCtorEq, ↓reduceIte, ↓bifT, ↓bifF, ↓gifT, ↓gifF, eq_self, WO, WP, WQ, Nat.reduceLT, Nat.reduceLeDiff, Nat.reduceAdd, Nat.reduceSub, Nat.reduceMul, Nat.reduceMod, WR, Nat.reduceBEq, Int.reduceBEq, Int.reduceBNe, BEq.rfl, hnt, hT, hk1, hk2, hk3, hl, hgt])
    | (refine SX.block ?_)
    | (refine and_mk ?_ ?_; (focus first | decide | omega | rfl | assumption | (simp only [List.length_append, List.length_cons, List.length_nil, B_size]; omega) | (simp; done)))
    | (refine And.intro ?_ ?_))
  all_goals (try refine Done.mk ?_)
  all_goals ((refine hN0 _ _ ⟨[0, 1, 8], _, _, ?_, ?_, ?_, ⟨rfl, rfl⟩⟩; (focus exact LeR.of rfl trivial (by simp only [WS, JA, JB, wI64, wU64, Int.reduceAdd, Int.reduceSub, Int.reduceMul, Int.reduceLE, Int.reduceLT, Int.reduceNeg, Int.reduceToNat, Int.cast_ofNat_Int, sx0, sx1, sx2, sx3, sx4, sx5, sx6, sx7, sy0, sy1, List.filterMap_cons, JC, JD, WT, JE, JF, JG, JH, JI, JJ, JK, WU, JL, JM, JN, JO, WV, JP, JQ, WW, JR, JS, JT, JU, JV, JW, JX, JY, JZ, WA, WB, WC, WD, WE, WF, WG, WH, WI, WJ, WK, WL, WM, WN, true_and, and_true, reduceCtorEq, ↓reduceIte, ↓bifT, ↓bifF, ↓gifT, ↓gifF, eq_self, WO, WP, WQ, Nat.reduceLT, Nat.reduceLeDiff, Nat.reduceAdd, Nat.reduceSub, Nat.reduceMul, Nat.reduceMod, WR, Nat.reduceBEq, Int.reduceBEq, Int.reduceBNe, BEq.rfl, List.getD_cons_zero, List.getD_cons_succ, or_false, false_or, or_self, or_true, true_or, decide_true]) (by decide) rfl rfl rfl); rotate_left; (focus rfl)); rfl)
end Go.Proofs.YtbdacbcpniegiaaDoor
namespace Go.Proofs.YtbdacbcpniegiaaDoor
open Go Go.RowKit Go.Proofs Go.Sx
set_option maxHeartbeats 4000000
set_option maxRecDepth 100000
set_option linter.unusedSimpArgs false
set_option linter.unusedVariables false
theorem note_wrong (ms : List Mk) (t : Int) (s : List UInt8) (q : Nat) (ok : Bool) (d : List UInt8) (hsl : s.length ≤ 4611686018427387904) (hq : q < 18446744073709551616) (h : statusB t s q ok d = false) : Ctr Tryd.prog [] 29 [.cells [.row 1] 148, mrow ms] [.one (.c (.loc 0 0)), .one (.agg [.v (.int .i64 t), .v (.string (B s)), .v (.int .u64 q), .v (.bool ok), .v (.string (B d))])]
    (fun os v => os = [.cells [.row 1] 148, mrow ms] ∧ v = vv (.int .i64 1)) := by
  refine Ctr.less ?_
  intro X0 hP0 hG0 N0 hN0
  refine CallVC.inline (f := 29) (by rw [hP0]; exact Tryd.func29) rfl Tryd.ntmps29 rfl (by simp) ?_
  intro X K hU hnt hbl hK
  have hP : X.P = Tryd.prog := by rw [hU.P, hP0]
  have hG := hG0.under hU
  have hT : aggOf X.P 30 = some true ∧ szOf X.P 30 = some 5 ∧ calleeOk X.P 19 = true ∧ fieldOff X.P 30 0 = some 0 ∧ aggOf X.P 26 = some true ∧ szOf X.P 26 = some 2 ∧ fieldOff X.P 30 1 = some 2 ∧ aggOf X.P 22 = some false ∧ szOf X.P 22 = some 1 ∧ calleeOk X.P 89 = true ∧ fieldOff X.P 30 2 = some 3 ∧ aggOf X.P 4 = some false ∧ szOf X.P 4 = some 1 ∧ fieldOff X.P 62 2 = some 3 ∧ aggOf X.P 3 = some false ∧ szOf X.P 3 = some 1 ∧ fieldOff X.P 30 3 = some 4 ∧ aggOf X.P 9 = some false ∧ szOf X.P 9 = some 1 ∧ fieldOff X.P 62 3 = some 4 ∧ fieldOff X.P 148 0 = some 0 ∧ aggOf X.P 59 = some false ∧ szOf X.P 59 = some 1 ∧ X.P.underlying 59 = some (TypeDesc.slice 62) ∧ elemSz X.P 59 = some (62, 5) ∧ fieldOff X.P 62 0 = some 0 ∧ fieldOff X.P 62 1 = some 2 := by rw [hP]; exact ⟨Ty.ag30, Ty.sz30, Ty.co19, Ty.fo30_0, Ty.ag26, Ty.sz26, Ty.fo30_1, Ty.ag22, Ty.sz22, Ty.co89, Ty.fo30_2, Ty.ag4, Ty.sz4, Ty.fo62_2, Ty.ag3, Ty.sz3, Ty.fo30_3, Ty.ag9, Ty.sz9, Ty.fo62_3, Ty.fo148_0, Ty.ag59, Ty.sz59, Tryd.underlying59, Ty.el59, Ty.fo62_0, Ty.fo62_1⟩
  simp only [WS, JA, JB, wI64, wU64, Int.reduceAdd, Int.reduceSub, Int.reduceMul, Int.reduceLE, Int.reduceLT, Int.reduceNeg, Int.reduceToNat, Int.cast_ofNat_Int, sx0, sx1, sx2, sx3, sx4, sx5, sx6, sx7, sy0, sy1, List.filterMap_cons, JC, JD, WT, JE, JF, JG, JH, JI, JJ, JK, WU, JL, JM, JN, JO, WV, JP, JQ, WW, JR, JS, JT, JU, JV, JW, JX, JY, JZ, WA, WB, WC, WD, WE, WF, WG, WH, WI, WJ, WK, WL, WM, WN, true_and, and_true, reduceCtorEq, ↓reduceIte, ↓bifT, ↓bifF, ↓gifT, ↓gifF, eq_self, WO, WP, WQ, Nat.reduceLT, Nat.reduceLeDiff, Nat.reduceAdd, Nat.reduceSub, Nat.reduceMul, Nat.reduceMod, WR, Nat.reduceBEq, Int.reduceBEq, Int.reduceBNe, BEq.rfl] at hbl ⊢
  repeat' (first
    | (refine SX.seqK ?_; intro N hN)
    | ((first | (refine SX.ops ?_) | (refine SX.planT (id := 9) [.f 0, .f 1, .f 2, .f 4, .f 5, .b 3 6, .s 7, .s 8, .s 9] ?_ ?_ ?_; (focus first | (rw [hP]; kernel_rfl) | (rw [hU1P, hP]; kernel_rfl)); (focus kernel_rfl)) | (refine SX.planT (id := 15) [.q [(0, [10]), (1, [61]), (2, [62]), (3, [63]), (4, [3]), (5, [65]), (6, [64, 66]), (7, [67]), (8, [10, 68]), (9, [69, 68]), (10, [70, 68]), (11, [71, 68]), (12, [3, 68]), (13, [73, 68]), (14, [72, 74, 68]), (15, [68, 75]), (16, [76]), (17, [10, 77]), (18, [78, 77]), (19, [79, 77]), (20, [80, 77]), (21, [81, 77]), (22, [77, 82])] none] ?_ ?_ ?_; (focus first | (rw [hP]; kernel_rfl) | (rw [hU1P, hP]; kernel_rfl)); (focus kernel_rfl))); simp only [WS, JA, JB, wI64, wU64, Int.reduceAdd, Int.reduceSub, Int.reduceMul, Int.reduceLE, Int.reduceLT, Int.reduceNeg, Int.reduceToNat, Int.cast_ofNat_Int, sx0, sx1, sx2, sx3, sx4, sx5, sx6, sx7, sy0, sy1, List.filterMap_cons, JC, JD, WT, JE, JF, JG, JH, JI, JJ, JK, WU, JL, JM, JN, JO, WV, JP, JQ, WW, JR, JS, JT, JU, JV, JW, JX, JY, JZ, WA, WB, WC, WD, WE, WF, WG, WH, WI, WJ, WK, WL, WM, WN, true_and, and_true, reduceCtorEq, ↓reduceIte, ↓bifT, ↓bifF, ↓gifT, ↓gifF, eq_self, WO, WP, WQ, Nat.reduceLT, Nat.reduceLeDiff, Nat.reduceAdd, Nat.reduceSub, Nat.reduceMul, Nat.reduceMod, WR, Nat.reduceBEq, Int.reduceBEq, Int.reduceBNe, BEq.rfl, hnt, hT, h])
    | ((first | refine SX.skip ?_ | refine SX.exit ?_ | refine SX.label ?_); try simp only [WS, JA, JB, wI64, wU64, Int.reduceAdd, Int.reduceSub, Int.reduceMul, Int.reduceLE, Int.reduceLT, Int.reduceNeg, Int.reduceToNat, Int.cast_ofNat_Int, sx0, sx1, sx2, sx3, sx4, sx5, sx6, sx7, sy0, sy1, List.filterMap_cons, JC, JD, WT, JE, JF, JG, JH, JI, JJ, JK, WU, JL, JM, JN, JO, WV, JP, JQ, WW, JR, JS, JT, JU, JV, JW, JX, JY, JZ, WA, WB, WC, WD, WE, WF, WG, WH, WI, WJ, WK, WL, WM, WN, true_and, and_true, reduceCtorEq, ↓reduceIte, ↓bifT, ↓bifF, ↓gifT, ↓gifF, eq_self, WO, WP, WQ, Nat.reduceLT, Nat.reduceLeDiff, Nat.reduceAdd, Nat.reduceSub, Nat.reduceMul, Nat.reduceMod, WR, Nat.reduceBEq, Int.reduceBEq, Int.reduceBNe, BEq.rfl])
    | (refine SX.cond rfl (fun hb => ?_) (fun hb => ?_) <;> ((first | cases hb | (simp only [decide_eq_true_eq, decide_eq_false_iff_not, beq_iff_eq, beq_eq_false_iff_ne, bne_iff_ne, Bool.and_eq_true, Bool.or_eq_true, Bool.not_eq_true', Bool.not_eq_false', Bool.and_eq_false_iff, Bool.or_eq_false_iff, Int.not_lt, Int.not_le] at hb) | skip) <;> (first | (exfalso; omega) | skip)))
    | (refine SX.ret ?_; try simp only [WS, JA, JB, wI64, wU64, Int.reduceAdd, Int.reduceSub, Int.reduceMul, Int.reduceLE, Int.reduceLT, Int.reduceNeg, Int.reduceToNat, Int.cast_ofNat_Int, sx0, sx1, sx2, sx3, sx4, sx5, sx6, sx7, sy0, sy1, List.filterMap_cons, JC, JD, WT, JE, JF, JG, JH, JI, JJ, JK, WU, JL, JM, JN, JO, WV, JP, JQ, WW, JR, JS, JT, JU, JV, JW, JX, JY, JZ, WA, WB, WC, WD, WE, WF, WG, WH, WI, WJ, WK, WL, WM, WN, true_and, and_true, reduceCtorEq, ↓reduceIte, ↓bifT, ↓bifF, ↓gifT, ↓gifF, eq_self, WO, WP, WQ, Nat.reduceLT, Nat.reduceLeDiff, Nat.reduceAdd, Nat.reduceSub, Nat.reduceMul, Nat.reduceMod, WR, Nat.reduceBEq, Int.reduceBEq, Int.reduceBNe, BEq.rfl])
    | (refine hN _ ?_; clear hN N)
    | ((first | refine hK _ _ (FinI.ret3 ?_) | refine hK _ _ (FinI.nrm3 ?_)); simp only [WS, JA, JB, wI64, wU64, Int.reduceAdd, Int.reduceSub, Int.reduceMul, Int.reduceLE, Int.reduceLT, Int.reduceNeg, Int.reduceToNat, Int.cast_ofNat_Int, sx0, sx1, sx2, sx3, sx4, sx5, sx6, sx7, sy0, sy1, List.filterMap_cons, JC, JD, WT, JE, JF, JG, JH, JI, JJ, JK, WU, JL, JM, JN, JO, WV, JP, JQ, WW, JR, JS, JT, JU, JV, JW, JX, JY, JZ, WA, WB, WC, WD, WE, WF, WG, WH, WI, WJ, WK, WL, WM, WN, true_and, and_true, reduceCtorEq, ↓reduceIte, ↓bifT, ↓bifF, ↓gifT, ↓gifF, eq_self, WO, WP, WQ, Nat.reduceLT, Nat.reduceLeDiff, Nat.reduceAdd, Nat.reduceSub, Nat.reduceMul, Nat.reduceMod, WR, Nat.reduceBEq, Int.reduceBEq, Int.reduceBNe, BEq.rfl, finP_s, hnt, hT, h]; refine Done.out ?_)
    | (clear hN N; first | (refine hN _ ?_; clear hN N) | (clear hN N; first | (refine hN _ ?_; clear hN N) | (clear hN N; first | (refine hN _ ?_; clear hN N) | (clear hN N; first | (refine hN _ ?_; clear hN N) | (clear hN N; first | (refine hN _ ?_; clear hN N) | (refine hN _ ?_; clear hN N))))))
    | (refine bif2.mk (fun hb => ?_) (fun hb => ?_) <;> (try simp only [hb, WS, JA, JB, wI64, wU64, Int.reduceAdd, Int.reduceSub, Int.reduceMul, Int.reduceLE, Int.reduceLT, Int.reduceNeg, Int.reduceToNat, Int.cast_ofNat_Int, sx0, sx1, sx2, sx3, sx4, sx5, sx6, sx7, sy0, sy1, List.filterMap_cons, JC, JD, WT, JE, JF, JG, JH, JI, JJ, JK, WU, JL, JM, JN, JO, WV, JP, JQ, WW, JR, JS, JT, JU, JV, JW, JX, JY, JZ, WA, WB, WC, WD, WE, WF, WG, WH, WI, WJ, WK, WL, WM, WN, true_and, and_true, reduceCtorEq, ↓reduceIte, ↓bifT, ↓bifF, ↓gifT, ↓gifF, eq_self, WO, WP, WQ, Nat.reduceLT, Nat.reduceLeDiff, Nat.reduceAdd, Nat.reduceSub, Nat.reduceMul, Nat.reduceMod, WR, Nat.reduceBEq, Int.reduceBEq, Int.reduceBNe, BEq.rfl, hnt, hT, h]) <;> ((first | cases hb | (simp only [decide_eq_true_eq, decide_eq_false_iff_not, beq_iff_eq, beq_eq_false_iff_ne, bne_iff_ne, Bool.and_eq_true, Bool.or_eq_true, Bool.not_eq_true', Bool.not_eq_false', Bool.and_eq_false_iff, Bool.or_eq_false_iff, Int.not_lt, Int.not_le] at hb) | skip) <;> (first | (exfalso; omega) | skip)))
    | ((first | (refine CallVC.pt (l := [_, _]) hP (putStatus_any t s q ok d hsl hq) rfl ?_) | (refine CallQ.pt (l := [_, _]) hP (putStatus_any t s q ok d hsl hq) rfl ?_)); simp only [WS, JA, JB, wI64, wU64, Int.reduceAdd, Int.reduceSub, Int.reduceMul, Int.reduceLE, Int.reduceLT, Int.reduceNeg, Int.reduceToNat, Int.cast_ofNat_Int, sx0, sx1, sx2, sx3, sx4, sx5, sx6, sx7, sy0, sy1, List.filterMap_cons, JC, JD, WT, JE, JF, JG, JH, JI, JJ, JK, WU, JL, JM, JN, JO, WV, JP, JQ, WW, JR, JS, JT, JU, JV, JW, JX, JY, JZ, WA, WB, WC, WD, WE, WF, WG, WH, WI, WJ, WK, WL, WM, WN, true_and, and_true, reduceCtorEq, ↓reduceIte, ↓bifT, ↓bifF, ↓gifT, ↓gifF, eq_self, WO, WP, WQ, Nat.reduceLT, Nat.reduceLeDiff, Nat.reduceAdd, Nat.reduceSub, Nat.reduceMul, Nat.reduceMod, WR, Nat.reduceBEq, Int.reduceBEq, Int.reduceBNe, BEq.rfl, hnt, hT, h])
    | (refine SX.block ?_)
    | (refine and_mk ?_ ?_; (focus first | decide | omega | rfl | assumption | (simp only [List.length_append, List.length_cons, List.length_nil, B_size]; omega) | (simp; done)))
    | (refine And.intro ?_ ?_))
  all_goals (try refine Done.mk ?_)
  all_goals ((refine hN0 _ _ ⟨[0, 1], _, _, ?_, ?_, ?_, ⟨rfl, rfl⟩⟩; (focus exact LeR.of rfl trivial (by simp only [WS, JA, JB, wI64, wU64, Int.reduceAdd, Int.reduceSub, Int.reduceMul, Int.reduceLE, Int.reduceLT, Int.reduceNeg, Int.reduceToNat, Int.cast_ofNat_Int, sx0, sx1, sx2, sx3, sx4, sx5, sx6, sx7, sy0, sy1, List.filterMap_cons, JC, JD, WT, JE, JF, JG, JH, JI, JJ, JK, WU, JL, JM, JN, JO, WV, JP, JQ, WW, JR, JS, JT, JU, JV, JW, JX, JY, JZ, WA, WB, WC, WD, WE, WF, WG, WH, WI, WJ, WK, WL, WM, WN, true_and, and_true, reduceCtorEq, ↓reduceIte, ↓bifT, ↓bifF, ↓gifT, ↓gifF, eq_self, WO, WP, WQ, Nat.reduceLT, Nat.reduceLeDiff, Nat.reduceAdd, Nat.reduceSub, Nat.reduceMul, Nat.reduceMod, WR, Nat.reduceBEq, Int.reduceBEq, Int.reduceBNe, BEq.rfl, List.getD_cons_zero, List.getD_cons_succ, or_false, false_or, or_self, or_true, true_or, decide_true]) (by decide) rfl rfl rfl); rotate_left; (focus rfl)); rfl)
theorem note_none (ms : List Mk) (hms : ms.length ≤ 1000000) (t : Int) (s : List UInt8) (q : Nat) (ok : Bool) (d : List UInt8) (hsl : s.length ≤ 4611686018427387904) (hq : q < 18446744073709551616) (h : statusB t s q ok d = true) (hs : Sorted2 ms (askM t s q)) (hf : hasM ms (askM t s q) = false) : Ctr Tryd.prog [] 29 [.cells [.row 1] 148, mrow ms] [.one (.c (.loc 0 0)), .one (.agg [.v (.int .i64 t), .v (.string (B s)), .v (.int .u64 q), .v (.bool ok), .v (.string (B d))])]
    (fun os v => os = [.cells [.row 1] 148, mrow ms] ∧ v = vv (.int .i64 5)) := by
  refine Ctr.less ?_
  intro X0 hP0 hG0 N0 hN0
  refine CallVC.inline (f := 29) (by rw [hP0]; exact Tryd.func29) rfl Tryd.ntmps29 rfl (by simp) ?_
  intro X K hU hnt hbl hK
  have hP : X.P = Tryd.prog := by rw [hU.P, hP0]
  have hG := hG0.under hU
  have hT : aggOf X.P 30 = some true ∧ szOf X.P 30 = some 5 ∧ calleeOk X.P 19 = true ∧ fieldOff X.P 30 0 = some 0 ∧ aggOf X.P 26 = some true ∧ szOf X.P 26 = some 2 ∧ fieldOff X.P 30 1 = some 2 ∧ aggOf X.P 22 = some false ∧ szOf X.P 22 = some 1 ∧ calleeOk X.P 89 = true ∧ fieldOff X.P 30 2 = some 3 ∧ aggOf X.P 4 = some false ∧ szOf X.P 4 = some 1 ∧ fieldOff X.P 62 2 = some 3 ∧ aggOf X.P 3 = some false ∧ szOf X.P 3 = some 1 ∧ fieldOff X.P 30 3 = some 4 ∧ aggOf X.P 9 = some false ∧ szOf X.P 9 = some 1 ∧ fieldOff X.P 62 3 = some 4 ∧ fieldOff X.P 148 0 = some 0 ∧ aggOf X.P 59 = some false ∧ szOf X.P 59 = some 1 ∧ X.P.underlying 59 = some (TypeDesc.slice 62) ∧ elemSz X.P 59 = some (62, 5) ∧ fieldOff X.P 62 0 = some 0 ∧ fieldOff X.P 62 1 = some 2 := by rw [hP]; exact ⟨Ty.ag30, Ty.sz30, Ty.co19, Ty.fo30_0, Ty.ag26, Ty.sz26, Ty.fo30_1, Ty.ag22, Ty.sz22, Ty.co89, Ty.fo30_2, Ty.ag4, Ty.sz4, Ty.fo62_2, Ty.ag3, Ty.sz3, Ty.fo30_3, Ty.ag9, Ty.sz9, Ty.fo62_3, Ty.fo148_0, Ty.ag59, Ty.sz59, Tryd.underlying59, Ty.el59, Ty.fo62_0, Ty.fo62_1⟩
  simp only [WS, JA, JB, wI64, wU64, Int.reduceAdd, Int.reduceSub, Int.reduceMul, Int.reduceLE, Int.reduceLT, Int.reduceNeg, Int.reduceToNat, Int.cast_ofNat_Int, sx0, sx1, sx2, sx3, sx4, sx5, sx6, sx7, sy0, sy1, List.filterMap_cons, JC, JD, WT, JE, JF, JG, JH, JI, JJ, JK, WU, JL, JM, JN, JO, WV, JP, JQ, WW, JR, JS, JT, JU, JV, JW, JX, JY, JZ, WA, WB, WC, WD, WE, WF, WG, WH, WI, WJ, WK, WL, WM, WN, true_and, and_true, reduceCtorEq, ↓reduceIte, ↓bifT, ↓bifF, ↓gifT, ↓gifF, eq_self, WO, WP, WQ, Nat.reduceLT, Nat.reduceLeDiff, Nat.reduceAdd, Nat.reduceSub, Nat.reduceMul, Nat.reduceMod, WR, Nat.reduceBEq, Int.reduceBEq, Int.reduceBNe, BEq.rfl] at hbl ⊢
  repeat' (first
    | (refine SX.seqK ?_; intro N hN)
    | ((first | (refine SX.ops ?_) | (refine SX.planT (id := 9) [.f 0, .f 1, .f 2, .f 4, .f 5, .b 3 6, .s 7, .s 8, .s 9] ?_ ?_ ?_; (focus first | (rw [hP]; kernel_rfl) | (rw [hU1P, hP]; kernel_rfl)); (focus kernel_rfl)) | (refine SX.planT (id := 15) [.q [(0, [10]), (1, [61]), (2, [62]), (3, [63]), (4, [3]), (5, [65]), (6, [64, 66]), (7, [67]), (8, [10, 68]), (9, [69, 68]), (10, [70, 68]), (11, [71, 68]), (12, [3, 68]), (13, [73, 68]), (14, [72, 74, 68]), (15, [68, 75]), (16, [76]), (17, [10, 77]), (18, [78, 77]), (19, [79, 77]), (20, [80, 77]), (21, [81, 77]), (22, [77, 82])] none] ?_ ?_ ?_; (focus first | (rw [hP]; kernel_rfl) | (rw [hU1P, hP]; kernel_rfl)); (focus kernel_rfl))); simp only [WS, JA, JB, wI64, wU64, Int.reduceAdd, Int.reduceSub, Int.reduceMul, Int.reduceLE, Int.reduceLT, Int.reduceNeg, Int.reduceToNat, Int.cast_ofNat_Int, sx0, sx1, sx2, sx3, sx4, sx5, sx6, sx7, sy0, sy1, List.filterMap_cons, JC, JD, WT, JE, JF, JG, JH, JI, JJ, JK, WU, JL, JM, JN, JO, WV, JP, JQ, WW, JR, JS, JT, JU, JV, JW, JX, JY, JZ, WA, WB, WC, WD, WE, WF, WG, WH, WI, WJ, WK, WL, WM, WN, true_and, and_true, reduceCtorEq, ↓reduceIte, ↓bifT, ↓bifF, ↓gifT, ↓gifF, eq_self, WO, WP, WQ, Nat.reduceLT, Nat.reduceLeDiff, Nat.reduceAdd, Nat.reduceSub, Nat.reduceMul, Nat.reduceMod, WR, Nat.reduceBEq, Int.reduceBEq, Int.reduceBNe, BEq.rfl, hnt, hT, h])
    | ((first | refine SX.skip ?_ | refine SX.exit ?_ | refine SX.label ?_); try simp only [WS, JA, JB, wI64, wU64, Int.reduceAdd, Int.reduceSub, Int.reduceMul, Int.reduceLE, Int.reduceLT, Int.reduceNeg, Int.reduceToNat, Int.cast_ofNat_Int, sx0, sx1, sx2, sx3, sx4, sx5, sx6, sx7, sy0, sy1, List.filterMap_cons, JC, JD, WT, JE, JF, JG, JH, JI, JJ, JK, WU, JL, JM, JN, JO, WV, JP, JQ, WW, JR, JS, JT, JU, JV, JW, JX, JY, JZ, WA, WB, WC, WD, WE, WF, WG, WH, WI, WJ, WK, WL, WM, WN, true_and, and_true, reduceCtorEq, ↓reduceIte, ↓bifT, ↓bifF, ↓gifT, ↓gifF, eq_self, WO, WP, WQ, Nat.reduceLT, Nat.reduceLeDiff, Nat.reduceAdd, Nat.reduceSub, Nat.reduceMul, Nat.reduceMod, WR, Nat.reduceBEq, Int.reduceBEq, Int.reduceBNe, BEq.rfl])
    | (refine SX.cond rfl (fun hb => ?_) (fun hb => ?_) <;> ((first | cases hb | (simp only [decide_eq_true_eq, decide_eq_false_iff_not, beq_iff_eq, beq_eq_false_iff_ne, bne_iff_ne, Bool.and_eq_true, Bool.or_eq_true, Bool.not_eq_true', Bool.not_eq_false', Bool.and_eq_false_iff, Bool.or_eq_false_iff, Int.not_lt, Int.not_le] at hb) | skip) <;> (first | (exfalso; omega) | skip)))
    | (refine SX.ret ?_; try simp only [WS, JA, JB, wI64, wU64, Int.reduceAdd, Int.reduceSub, Int.reduceMul, Int.reduceLE, Int.reduceLT, Int.reduceNeg, Int.reduceToNat, Int.cast_ofNat_Int, sx0, sx1, sx2, sx3, sx4, sx5, sx6, sx7, sy0, sy1, List.filterMap_cons, JC, JD, WT, JE, JF, JG, JH, JI, JJ, JK, WU, JL, JM, JN, JO, WV, JP, JQ, WW, JR, JS, JT, JU, JV, JW, JX, JY, JZ, WA, WB, WC, WD, WE, WF, WG, WH, WI, WJ, WK, WL, WM, WN, true_and, and_true, reduceCtorEq, ↓reduceIte, ↓bifT, ↓bifF, ↓gifT, ↓gifF, eq_self, WO, WP, WQ, Nat.reduceLT, Nat.reduceLeDiff, Nat.reduceAdd, Nat.reduceSub, Nat.reduceMul, Nat.reduceMod, WR, Nat.reduceBEq, Int.reduceBEq, Int.reduceBNe, BEq.rfl])
    | (refine hN _ ?_; clear hN N)
    | ((first | refine hK _ _ (FinI.ret3 ?_) | refine hK _ _ (FinI.nrm3 ?_)); simp only [WS, JA, JB, wI64, wU64, Int.reduceAdd, Int.reduceSub, Int.reduceMul, Int.reduceLE, Int.reduceLT, Int.reduceNeg, Int.reduceToNat, Int.cast_ofNat_Int, sx0, sx1, sx2, sx3, sx4, sx5, sx6, sx7, sy0, sy1, List.filterMap_cons, JC, JD, WT, JE, JF, JG, JH, JI, JJ, JK, WU, JL, JM, JN, JO, WV, JP, JQ, WW, JR, JS, JT, JU, JV, JW, JX, JY, JZ, WA, WB, WC, WD, WE, WF, WG, WH, WI, WJ, WK, WL, WM, WN, true_and, and_true, reduceCtorEq, ↓reduceIte, ↓bifT, ↓bifF, ↓gifT, ↓gifF, eq_self, WO, WP, WQ, Nat.reduceLT, Nat.reduceLeDiff, Nat.reduceAdd, Nat.reduceSub, Nat.reduceMul, Nat.reduceMod, WR, Nat.reduceBEq, Int.reduceBEq, Int.reduceBNe, BEq.rfl, finP_s, hnt, hT, h]; refine Done.out ?_)
    | (clear hN N; first | (refine hN _ ?_; clear hN N) | (clear hN N; first | (refine hN _ ?_; clear hN N) | (clear hN N; first | (refine hN _ ?_; clear hN N) | (clear hN N; first | (refine hN _ ?_; clear hN N) | (clear hN N; first | (refine hN _ ?_; clear hN N) | (refine hN _ ?_; clear hN N))))))
    | (refine bif2.mk (fun hb => ?_) (fun hb => ?_) <;> (try simp only [hb, WS, JA, JB, wI64, wU64, Int.reduceAdd, Int.reduceSub, Int.reduceMul, Int.reduceLE, Int.reduceLT, Int.reduceNeg, Int.reduceToNat, Int.cast_ofNat_Int, sx0, sx1, sx2, sx3, sx4, sx5, sx6, sx7, sy0, sy1, List.filterMap_cons, JC, JD, WT, JE, JF, JG, JH, JI, JJ, JK, WU, JL, JM, JN, JO, WV, JP, JQ, WW, JR, JS, JT, JU, JV, JW, JX, JY, JZ, WA, WB, WC, WD, WE, WF, WG, WH, WI, WJ, WK, WL, WM, WN, true_and, and_true, reduceCtorEq, ↓reduceIte, ↓bifT, ↓bifF, ↓gifT, ↓gifF, eq_self, WO, WP, WQ, Nat.reduceLT, Nat.reduceLeDiff, Nat.reduceAdd, Nat.reduceSub, Nat.reduceMul, Nat.reduceMod, WR, Nat.reduceBEq, Int.reduceBEq, Int.reduceBNe, BEq.rfl, hnt, hT, h]) <;> ((first | cases hb | (simp only [decide_eq_true_eq, decide_eq_false_iff_not, beq_iff_eq, beq_eq_false_iff_ne, bne_iff_ne, Bool.and_eq_true, Bool.or_eq_true, Bool.not_eq_true', Bool.not_eq_false', Bool.and_eq_false_iff, Bool.or_eq_false_iff, Int.not_lt, Int.not_le] at hb) | skip) <;> (first | (exfalso; omega) | skip)))
    | ((first | (refine CallVC.pt (l := [_, _]) hP (putStatus_any t s q ok d hsl hq) rfl ?_) | (refine CallQ.pt (l := [_, _]) hP (putStatus_any t s q ok d hsl hq) rfl ?_) | (refine Ctr.use (find_no ms hms t s q hs hf) hP ?_ [0,1] ?_ rfl rfl ?_; (focus (intro p hp; cases hp)); (focus (refine LeR.of rfl trivial ?_ ?_ ?_ ?_ ?_ <;> first | decide | (simp only [WS, JA, JB, wI64, wU64, Int.reduceAdd, Int.reduceSub, Int.reduceMul, Int.reduceLE, Int.reduceLT, Int.reduceNeg, Int.reduceToNat, Int.cast_ofNat_Int, sx0, sx1, sx2, sx3, sx4, sx5, sx6, sx7, sy0, sy1, List.filterMap_cons, JC, JD, WT, JE, JF, JG, JH, JI, JJ, JK, WU, JL, JM, JN, JO, WV, JP, JQ, WW, JR, JS, JT, JU, JV, JW, JX, JY, JZ, WA, WB, WC, WD, WE, WF, WG, WH, WI, WJ, WK, WL, WM, WN, true_and, and_true, reduceCtorEq, ↓reduceIte, ↓bifT, ↓bifF, ↓gifT, ↓gifF, eq_self, WO, WP, WQ, Nat.reduceLT, Nat.reduceLeDiff, Nat.reduceAdd, Nat.reduceSub, Nat.reduceMul, Nat.reduceMod, WR, Nat.reduceBEq, Int.reduceBEq, Int.reduceBNe, BEq.rfl, List.getD_cons_zero, List.getD_cons_succ, or_false, false_or, or_self, or_true, true_or, decide_true]; done))); intro os' s hR; obtain ⟨rfl, rfl⟩ := hR)); simp only [WS, JA, JB, wI64, wU64, Int.reduceAdd, Int.reduceSub, Int.reduceMul, Int.reduceLE, Int.reduceLT, Int.reduceNeg, Int.reduceToNat, Int.cast_ofNat_Int, sx0, sx1, sx2, sx3, sx4, sx5, sx6, sx7, sy0, sy1, List.filterMap_cons, JC, JD, WT, JE, JF, JG, JH, JI, JJ, JK, WU, JL, JM, JN, JO, WV, JP, JQ, WW, JR, JS, JT, JU, JV, JW, JX, JY, JZ, WA, WB, WC, WD, WE, WF, WG, WH, WI, WJ, WK, WL, WM, WN, true_and, and_true, reduceCtorEq, ↓reduceIte, ↓bifT, ↓bifF, ↓gifT, ↓gifF, eq_self, WO, WP, WQ, Nat.reduceLT, Nat.reduceLeDiff, Nat.reduceAdd, Nat.reduceSub, Nat.reduceMul, Nat.reduceMod, WR, Nat.reduceBEq, Int.reduceBEq, Int.reduceBNe, BEq.rfl, hnt, hT, h])
    | (refine SX.block ?_)
    | (refine and_mk ?_ ?_; (focus first | decide | omega | rfl | assumption | (simp only [List.length_append, List.length_cons, List.length_nil, B_size]; omega) | (simp; done)))
    | (refine And.intro ?_ ?_))
  all_goals (try refine Done.mk ?_)
  all_goals ((refine hN0 _ _ ⟨[0, 1], _, _, ?_, ?_, ?_, ⟨rfl, rfl⟩⟩; (focus exact LeR.of rfl trivial (by simp only [WS, JA, JB, wI64, wU64, Int.reduceAdd, Int.reduceSub, Int.reduceMul, Int.reduceLE, Int.reduceLT, Int.reduceNeg, Int.reduceToNat, Int.cast_ofNat_Int, sx0, sx1, sx2, sx3, sx4, sx5, sx6, sx7, sy0, sy1, List.filterMap_cons, JC, JD, WT, JE, JF, JG, JH, JI, JJ, JK, WU, JL, JM, JN, JO, WV, JP, JQ, WW, JR, JS, JT, JU, JV, JW, JX, JY, JZ, WA, WB, WC, WD, WE, WF, WG, WH, WI, WJ, WK, WL, WM, WN, true_and, and_true, reduceCtorEq, ↓reduceIte, ↓bifT, ↓bifF, ↓gifT, ↓gifF, eq_self, WO, WP, WQ, Nat.reduceLT, Nat.reduceLeDiff, Nat.reduceAdd, Nat.reduceSub, Nat.reduceMul, Nat.reduceMod, WR, Nat.reduceBEq, Int.reduceBEq, Int.reduceBNe, BEq.rfl, List.getD_cons_zero, List.getD_cons_succ, or_false, false_or, or_self, or_true, true_or, decide_true]) (by decide) rfl rfl rfl); rotate_left; (focus rfl)); rfl)
theorem note_settled (ms : List Mk) (hms : ms.length ≤ 1000000) (t : Int) (s : List UInt8) (q : Nat) (d : List UInt8) (hsl : s.length ≤ 4611686018427387904) (hq : q < 18446744073709551616) (h : statusB t s q false d = true) (hs : Sorted2 ms (askM t s q)) (hf : hasM ms (askM t s q) = true) (hp : (ms.getD (bsN ms (askM t s q)) default).st ≠ 1) : Ctr Tryd.prog [] 29 [.cells [.row 1] 148, mrow ms] [.one (.c (.loc 0 0)), .one (.agg [.v (.int .i64 t), .v (.string (B s)), .v (.int .u64 q), .v (.bool false), .v (.string (B d))])]
    (fun os v => os = [.cells [.row 1] 148, mrow ms] ∧ v = vv (.int .i64 0)) := by
  refine Ctr.less ?_
  have hlt : bsN ms (askM t s q) < ms.length := by
    simp only [hasM, Bool.and_eq_true, decide_eq_true_eq] at hf
    exact hf.1
  have hp2 : ((ms.getD (bsN ms (askM t s q)) default).st == 1) = false := by simpa using hp
  intro X0 hP0 hG0 N0 hN0
  refine CallVC.inline (f := 29) (by rw [hP0]; exact Tryd.func29) rfl Tryd.ntmps29 rfl (by simp) ?_
  intro X K hU hnt hbl hK
  have hP : X.P = Tryd.prog := by rw [hU.P, hP0]
  have hG := hG0.under hU
  have hT : aggOf X.P 30 = some true ∧ szOf X.P 30 = some 5 ∧ calleeOk X.P 19 = true ∧ fieldOff X.P 30 0 = some 0 ∧ aggOf X.P 26 = some true ∧ szOf X.P 26 = some 2 ∧ fieldOff X.P 30 1 = some 2 ∧ aggOf X.P 22 = some false ∧ szOf X.P 22 = some 1 ∧ calleeOk X.P 89 = true ∧ fieldOff X.P 30 2 = some 3 ∧ aggOf X.P 4 = some false ∧ szOf X.P 4 = some 1 ∧ fieldOff X.P 62 2 = some 3 ∧ aggOf X.P 3 = some false ∧ szOf X.P 3 = some 1 ∧ fieldOff X.P 30 3 = some 4 ∧ aggOf X.P 9 = some false ∧ szOf X.P 9 = some 1 ∧ fieldOff X.P 62 3 = some 4 ∧ fieldOff X.P 148 0 = some 0 ∧ aggOf X.P 59 = some false ∧ szOf X.P 59 = some 1 ∧ X.P.underlying 59 = some (TypeDesc.slice 62) ∧ elemSz X.P 59 = some (62, 5) ∧ fieldOff X.P 62 0 = some 0 ∧ fieldOff X.P 62 1 = some 2 := by rw [hP]; exact ⟨Ty.ag30, Ty.sz30, Ty.co19, Ty.fo30_0, Ty.ag26, Ty.sz26, Ty.fo30_1, Ty.ag22, Ty.sz22, Ty.co89, Ty.fo30_2, Ty.ag4, Ty.sz4, Ty.fo62_2, Ty.ag3, Ty.sz3, Ty.fo30_3, Ty.ag9, Ty.sz9, Ty.fo62_3, Ty.fo148_0, Ty.ag59, Ty.sz59, Tryd.underlying59, Ty.el59, Ty.fo62_0, Ty.fo62_1⟩
  simp only [WS, JA, JB, wI64, wU64, Int.reduceAdd, Int.reduceSub, Int.reduceMul, Int.reduceLE, Int.reduceLT, Int.reduceNeg, Int.reduceToNat, Int.cast_ofNat_Int, sx0, sx1, sx2, sx3, sx4, sx5, sx6, sx7, sy0, sy1, List.filterMap_cons, JC, JD, WT, JE, JF, JG, JH, JI, JJ, JK, WU, JL, JM, JN, JO, WV, JP, JQ, WW, JR, JS, JT, JU, JV, JW, JX, JY, JZ, WA, WB, WC, WD, WE, WF, WG, WH, WI, WJ, WK, WL, WM, WN, true_and, and_true, reduceCtorEq, ↓reduceIte, ↓bifT, ↓bifF, ↓gifT, ↓gifF, eq_self, WO, WP, WQ, Nat.reduceLT, Nat.reduceLeDiff, Nat.reduceAdd, Nat.reduceSub, Nat.reduceMul, Nat.reduceMod, WR, Nat.reduceBEq, Int.reduceBEq, Int.reduceBNe, BEq.rfl] at hbl ⊢
  repeat' (first
    | (refine SX.seqK ?_; intro N hN)
    | ((first | (refine SX.ops ?_) | (refine SX.planT (id := 9) [.f 0, .f 1, .f 2, .f 4, .f 5, .b 3 6, .s 7, .s 8, .s 9] ?_ ?_ ?_; (focus first | (rw [hP]; kernel_rfl) | (rw [hU1P, hP]; kernel_rfl)); (focus kernel_rfl)) | (refine SX.planT (id := 15) [.q [(0, [10]), (1, [61]), (2, [62]), (3, [63]), (4, [3]), (5, [65]), (6, [64, 66]), (7, [67]), (8, [10, 68]), (9, [69, 68]), (10, [70, 68]), (11, [71, 68]), (12, [3, 68]), (13, [73, 68]), (14, [72, 74, 68]), (15, [68, 75]), (16, [76]), (17, [10, 77]), (18, [78, 77]), (19, [79, 77]), (20, [80, 77]), (21, [81, 77]), (22, [77, 82])] none] ?_ ?_ ?_; (focus first | (rw [hP]; kernel_rfl) | (rw [hU1P, hP]; kernel_rfl)); (focus kernel_rfl))); simp only [WS, JA, JB, wI64, wU64, Int.reduceAdd, Int.reduceSub, Int.reduceMul, Int.reduceLE, Int.reduceLT, Int.reduceNeg, Int.reduceToNat, Int.cast_ofNat_Int, sx0, sx1, sx2, sx3, sx4, sx5, sx6, sx7, sy0, sy1, List.filterMap_cons, JC, JD, WT, JE, JF, JG, JH, JI, JJ, JK, WU, JL, JM, JN, JO, WV, JP, JQ, WW, JR, JS, JT, JU, JV, JW, JX, JY, JZ, WA, WB, WC, WD, WE, WF, WG, WH, WI, WJ, WK, WL, WM, WN, true_and, and_true, reduceCtorEq, ↓reduceIte, ↓bifT, ↓bifF, ↓gifT, ↓gifF, eq_self, WO, WP, WQ, Nat.reduceLT, Nat.reduceLeDiff, Nat.reduceAdd, Nat.reduceSub, Nat.reduceMul, Nat.reduceMod, WR, Nat.reduceBEq, Int.reduceBEq, Int.reduceBNe, BEq.rfl, hnt, hT, h, hp2])
    | ((first | refine SX.skip ?_ | refine SX.exit ?_ | refine SX.label ?_); try simp only [WS, JA, JB, wI64, wU64, Int.reduceAdd, Int.reduceSub, Int.reduceMul, Int.reduceLE, Int.reduceLT, Int.reduceNeg, Int.reduceToNat, Int.cast_ofNat_Int, sx0, sx1, sx2, sx3, sx4, sx5, sx6, sx7, sy0, sy1, List.filterMap_cons, JC, JD, WT, JE, JF, JG, JH, JI, JJ, JK, WU, JL, JM, JN, JO, WV, JP, JQ, WW, JR, JS, JT, JU, JV, JW, JX, JY, JZ, WA, WB, WC, WD, WE, WF, WG, WH, WI, WJ, WK, WL, WM, WN, true_and, and_true, reduceCtorEq, ↓reduceIte, ↓bifT, ↓bifF, ↓gifT, ↓gifF, eq_self, WO, WP, WQ, Nat.reduceLT, Nat.reduceLeDiff, Nat.reduceAdd, Nat.reduceSub, Nat.reduceMul, Nat.reduceMod, WR, Nat.reduceBEq, Int.reduceBEq, Int.reduceBNe, BEq.rfl])
    | (refine SX.cond rfl (fun hb => ?_) (fun hb => ?_) <;> ((first | cases hb | (simp only [decide_eq_true_eq, decide_eq_false_iff_not, beq_iff_eq, beq_eq_false_iff_ne, bne_iff_ne, Bool.and_eq_true, Bool.or_eq_true, Bool.not_eq_true', Bool.not_eq_false', Bool.and_eq_false_iff, Bool.or_eq_false_iff, Int.not_lt, Int.not_le] at hb) | skip) <;> (first | (exfalso; omega) | skip)))
    | (refine SX.ret ?_; try simp only [WS, JA, JB, wI64, wU64, Int.reduceAdd, Int.reduceSub, Int.reduceMul, Int.reduceLE, Int.reduceLT, Int.reduceNeg, Int.reduceToNat, Int.cast_ofNat_Int, sx0, sx1, sx2, sx3, sx4, sx5, sx6, sx7, sy0, sy1, List.filterMap_cons, JC, JD, WT, JE, JF, JG, JH, JI, JJ, JK, WU, JL, JM, JN, JO, WV, JP, JQ, WW, JR, JS, JT, JU, JV, JW, JX, JY, JZ, WA, WB, WC, WD, WE, WF, WG, WH, WI, WJ, WK, WL, WM, WN, true_and, and_true, reduceCtorEq, ↓reduceIte, ↓bifT, ↓bifF, ↓gifT, ↓gifF, eq_self, WO, WP, WQ, Nat.reduceLT, Nat.reduceLeDiff, Nat.reduceAdd, Nat.reduceSub, Nat.reduceMul, Nat.reduceMod, WR, Nat.reduceBEq, Int.reduceBEq, Int.reduceBNe, BEq.rfl])
    | (refine hN _ ?_; clear hN N)
    | ((first | refine hK _ _ (FinI.ret3 ?_) | refine hK _ _ (FinI.nrm3 ?_)); simp only [WS, JA, JB, wI64, wU64, Int.reduceAdd, Int.reduceSub, Int.reduceMul, Int.reduceLE, Int.reduceLT, Int.reduceNeg, Int.reduceToNat, Int.cast_ofNat_Int, sx0, sx1, sx2, sx3, sx4, sx5, sx6, sx7, sy0, sy1, List.filterMap_cons, JC, JD, WT, JE, JF, JG, JH, JI, JJ, JK, WU, JL, JM, JN, JO, WV, JP, JQ, WW, JR, JS, JT, JU, JV, JW, JX, JY, JZ, WA, WB, WC, WD, WE, WF, WG, WH, WI, WJ, WK, WL, WM, WN, true_and, and_true, reduceCtorEq, ↓reduceIte, ↓bifT, ↓bifF, ↓gifT, ↓gifF, eq_self, WO, WP, WQ, Nat.reduceLT, Nat.reduceLeDiff, Nat.reduceAdd, Nat.reduceSub, Nat.reduceMul, Nat.reduceMod, WR, Nat.reduceBEq, Int.reduceBEq, Int.reduceBNe, BEq.rfl, finP_s, hnt, hT, h, hp2]; refine Done.out ?_)
    | (clear hN N; first | (refine hN _ ?_; clear hN N) | (clear hN N; first | (refine hN _ ?_; clear hN N) | (clear hN N; first | (refine hN _ ?_; clear hN N) | (clear hN N; first | (refine hN _ ?_; clear hN N) | (clear hN N; first | (refine hN _ ?_; clear hN N) | (refine hN _ ?_; clear hN N))))))
    | (refine bif2.mk (fun hb => ?_) (fun hb => ?_) <;> (try simp only [hb, WS, JA, JB, wI64, wU64, Int.reduceAdd, Int.reduceSub, Int.reduceMul, Int.reduceLE, Int.reduceLT, Int.reduceNeg, Int.reduceToNat, Int.cast_ofNat_Int, sx0, sx1, sx2, sx3, sx4, sx5, sx6, sx7, sy0, sy1, List.filterMap_cons, JC, JD, WT, JE, JF, JG, JH, JI, JJ, JK, WU, JL, JM, JN, JO, WV, JP, JQ, WW, JR, JS, JT, JU, JV, JW, JX, JY, JZ, WA, WB, WC, WD, WE, WF, WG, WH, WI, WJ, WK, WL, WM, WN, true_and, and_true, reduceCtorEq, ↓reduceIte, ↓bifT, ↓bifF, ↓gifT, ↓gifF, eq_self, WO, WP, WQ, Nat.reduceLT, Nat.reduceLeDiff, Nat.reduceAdd, Nat.reduceSub, Nat.reduceMul, Nat.reduceMod, WR, Nat.reduceBEq, Int.reduceBEq, Int.reduceBNe, BEq.rfl, hnt, hT, h, hp2]) <;> ((first | cases hb | (simp only [decide_eq_true_eq, decide_eq_false_iff_not, beq_iff_eq, beq_eq_false_iff_ne, bne_iff_ne, Bool.and_eq_true, Bool.or_eq_true, Bool.not_eq_true', Bool.not_eq_false', Bool.and_eq_false_iff, Bool.or_eq_false_iff, Int.not_lt, Int.not_le] at hb) | skip) <;> (first | (exfalso; omega) | skip)))
    | ((first | (refine CallVC.pt (l := [_, _]) hP (putStatus_any t s q false d hsl hq) rfl ?_) | (refine CallQ.pt (l := [_, _]) hP (putStatus_any t s q false d hsl hq) rfl ?_) | (refine Ctr.use (find_yes ms hms t s q hs hf) hP ?_ [0,1] ?_ rfl rfl ?_; (focus (intro p hp; cases hp)); (focus (refine LeR.of rfl trivial ?_ ?_ ?_ ?_ ?_ <;> first | decide | (simp only [WS, JA, JB, wI64, wU64, Int.reduceAdd, Int.reduceSub, Int.reduceMul, Int.reduceLE, Int.reduceLT, Int.reduceNeg, Int.reduceToNat, Int.cast_ofNat_Int, sx0, sx1, sx2, sx3, sx4, sx5, sx6, sx7, sy0, sy1, List.filterMap_cons, JC, JD, WT, JE, JF, JG, JH, JI, JJ, JK, WU, JL, JM, JN, JO, WV, JP, JQ, WW, JR, JS, JT, JU, JV, JW, JX, JY, JZ, WA, WB, WC, WD, WE, WF, WG, WH, WI, WJ, WK, WL, WM, WN, true_and, and_true, reduceCtorEq, ↓reduceIte, ↓bifT, ↓bifF, ↓gifT, ↓gifF, eq_self, WO, WP, WQ, Nat.reduceLT, Nat.reduceLeDiff, Nat.reduceAdd, Nat.reduceSub, Nat.reduceMul, Nat.reduceMod, WR, Nat.reduceBEq, Int.reduceBEq, Int.reduceBNe, BEq.rfl, List.getD_cons_zero, List.getD_cons_succ, or_false, false_or, or_self, or_true, true_or, decide_true]; done))); intro os' s hR; obtain ⟨rfl, rfl⟩ := hR)); simp only [WS, JA, JB, wI64, wU64, Int.reduceAdd, Int.reduceSub, Int.reduceMul, Int.reduceLE, Int.reduceLT, Int.reduceNeg, Int.reduceToNat, Int.cast_ofNat_Int, sx0, sx1, sx2, sx3, sx4, sx5, sx6, sx7, sy0, sy1, List.filterMap_cons, JC, JD, WT, JE, JF, JG, JH, JI, JJ, JK, WU, JL, JM, JN, JO, WV, JP, JQ, WW, JR, JS, JT, JU, JV, JW, JX, JY, JZ, WA, WB, WC, WD, WE, WF, WG, WH, WI, WJ, WK, WL, WM, WN, true_and, and_true, reduceCtorEq, ↓reduceIte, ↓bifT, ↓bifF, ↓gifT, ↓gifF, eq_self, WO, WP, WQ, Nat.reduceLT, Nat.reduceLeDiff, Nat.reduceAdd, Nat.reduceSub, Nat.reduceMul, Nat.reduceMod, WR, Nat.reduceBEq, Int.reduceBEq, Int.reduceBNe, BEq.rfl, hnt, hT, h, hp2])
    | (refine ⟨_, mks_st ms _ hlt, ?_⟩)
    | (refine SX.block ?_)
    | (refine and_mk ?_ ?_; (focus first | decide | omega | rfl | assumption | (simp only [List.length_append, List.length_cons, List.length_nil, B_size]; omega) | (simp; done)))
    | (refine And.intro ?_ ?_))
  all_goals (try refine Done.mk ?_)
  all_goals ((refine hN0 _ _ ⟨[0, 1], _, _, ?_, ?_, ?_, ⟨rfl, rfl⟩⟩; (focus exact LeR.of rfl trivial (by simp only [WS, JA, JB, wI64, wU64, Int.reduceAdd, Int.reduceSub, Int.reduceMul, Int.reduceLE, Int.reduceLT, Int.reduceNeg, Int.reduceToNat, Int.cast_ofNat_Int, sx0, sx1, sx2, sx3, sx4, sx5, sx6, sx7, sy0, sy1, List.filterMap_cons, JC, JD, WT, JE, JF, JG, JH, JI, JJ, JK, WU, JL, JM, JN, JO, WV, JP, JQ, WW, JR, JS, JT, JU, JV, JW, JX, JY, JZ, WA, WB, WC, WD, WE, WF, WG, WH, WI, WJ, WK, WL, WM, WN, true_and, and_true, reduceCtorEq, ↓reduceIte, ↓bifT, ↓bifF, ↓gifT, ↓gifF, eq_self, WO, WP, WQ, Nat.reduceLT, Nat.reduceLeDiff, Nat.reduceAdd, Nat.reduceSub, Nat.reduceMul, Nat.reduceMod, WR, Nat.reduceBEq, Int.reduceBEq, Int.reduceBNe, BEq.rfl, List.getD_cons_zero, List.getD_cons_succ, or_false, false_or, or_self, or_true, true_or, decide_true]) (by decide) rfl rfl rfl); rotate_left; (focus rfl)); rfl)
end Go.Proofs.YtbdacbcpniegiaaDoor
namespace Go.Proofs.YtbdacbcpniegiaaDoor
open Go Go.RowKit Go.Proofs Go.Sx
set_option maxHeartbeats 4000000
set_option maxRecDepth 100000
set_option linter.unusedSimpArgs false
set_option linter.unusedVariables false
def isTk (t : Int) (s : List UInt8) (q : Int) (x : Mk) : Bool := (x.t == t && x.s == s) && decide (x.q ≤ q) && (x.st == 1)
def tkM (t : Int) (s : List UInt8) (q : Int) (x : Mk) : Mk := if isTk t s q x then { x with st := 2 } else x
def tkTo (t : Int) (s : List UInt8) (q : Int) (ms : List Mk) (i : Nat) : List Mk := (ms.take i).map (tkM t s q) ++ ms.drop i
theorem tkTo_len (t : Int) (s : List UInt8) (q : Int) (ms : List Mk) (i : Nat) (h : i ≤ ms.length) : (tkTo t s q ms i).length = ms.length := by simp [tkTo]; omega
theorem tkTo_at (t : Int) (s : List UInt8) (q : Int) (ms : List Mk) (i : Nat) (h : i < ms.length) : (tkTo t s q ms i).getD i default = ms.getD i default := by
  rw [List.getD_eq_getElem?_getD, List.getD_eq_getElem?_getD, tkTo, List.getElem?_append_right (by simp; omega), List.getElem?_drop]
  congr 2
  simp; omega
theorem mks_key (l : List Mk) (i : Nat) (h : i < l.length) : ((mks l).drop (i * 5)).take 2 = [.int .i64 (l.getD i default).t, .string (B (l.getD i default).s)] := by
  have := congrArg (List.take 2) (mks_at l i h)
  rw [List.take_take] at this
  exact this
theorem mks_q (ms : List Mk) (i : Nat) (h : i < ms.length) : (mks ms)[i * 5 + 2]? = some (.int .u64 (ms.getD i default).q) := by rw [mks_cell ms i 2 h (by decide)]; rfl
theorem mks_set3 (l : List Mk) (i : Nat) (v : Int) (h : i < l.length) : (mks l).take (i * 5 + 3) ++ [Value.int .i64 v] ++ (mks l).drop (i * 5 + 3 + 1) = mks (l.set i { l.getD i default with st := v }) := by
  have hA : ((mks l).take (i * 5)).length = i * 5 := by rw [List.length_take, mks_length]; omega
  have e : mks l = (mks l).take (i * 5) ++ ((l.getD i default).cells ++ (mks l).drop (i * 5 + 5)) := by
    rw [← mks_at l i h, ← List.drop_drop, List.take_append_drop, List.take_append_drop]
  rw [← mks_set l i _ h]
  have e1 : (mks l).take (i * 5 + 3) = (mks l).take (i * 5) ++ (l.getD i default).cells.take 3 := by
    conv => lhs; rw [e]
    rw [List.take_append, hA, List.take_of_length_le (by omega), show i * 5 + 3 - i * 5 = 3 by omega]
    rfl
  have e2 : (mks l).drop (i * 5 + 3 + 1) = (l.getD i default).cells.drop 4 ++ (mks l).drop (i * 5 + 5) := by
    conv => lhs; rw [e]
    rw [List.drop_append, hA, List.drop_of_length_le (by omega), show i * 5 + 3 + 1 - i * 5 = 4 by omega]
    rfl
  rw [e1, e2]
  simp [Mk.cells]
theorem tkTo_succ (t : Int) (s : List UInt8) (q : Int) (ms : List Mk) (i : Nat) (h : i < ms.length) : tkTo t s q ms (i + 1) = (tkTo t s q ms i).set i (tkM t s q (ms.getD i default)) := by
  have e : ms.getD i default = ms[i] := by rw [List.getD_eq_getElem?_getD, List.getElem?_eq_getElem h]; rfl
  rw [e, tkTo, tkTo, List.take_succ_eq_append_getElem h, List.set_append_right _ _ (by simp; omega), List.drop_eq_getElem_cons h, List.map_append, List.length_map, List.length_take, Nat.min_eq_left (Nat.le_of_lt h), Nat.sub_self, List.set_cons_zero, List.append_assoc]
  rfl
theorem tk_yes (t : Int) (s : List UInt8) (q : Int) (ms : List Mk) (i : Nat) (h : i < ms.length) (n : Nat) (hp : isTk t s q ((tkTo t s q ms i).getD i default) = true) :
    LO.row 62 5 n ((mks (tkTo t s q ms i)).take (i * 5 + 3) ++ [Value.int .i64 2] ++ (mks (tkTo t s q ms i)).drop (i * 5 + 3 + 1)) = LO.row 62 5 n (mks (tkTo t s q ms (i + 1))) := by
  rw [mks_set3 _ _ _ (by rw [tkTo_len _ _ _ _ _ (Nat.le_of_lt h)]; exact h), tkTo_succ t s q ms i h]
  rw [tkTo_at _ _ _ _ _ h] at hp ⊢
  rw [tkM, if_pos hp]
theorem tk_no (t : Int) (s : List UInt8) (q : Int) (ms : List Mk) (i : Nat) (h : i < ms.length) (hp : isTk t s q ((tkTo t s q ms i).getD i default) = false) :
    tkTo t s q ms (i + 1) = tkTo t s q ms i := by
  rw [tkTo_succ t s q ms i h]
  have e := tkTo_at t s q ms i h
  rw [e] at hp
  rw [tkM, hp, if_neg (by simp), ← e, List.getD_eq_getElem?_getD, List.getElem?_eq_getElem (by rw [tkTo_len _ _ _ _ _ (Nat.le_of_lt h)]; exact h)]
  simp
theorem note_ok (ms : List Mk) (hms : ms.length ≤ 1000000) (t : Int) (s : List UInt8) (q : Nat) (d : List UInt8) (hsl : s.length ≤ 4611686018427387904) (hq : q < 18446744073709551616) (h : statusB t s q true d = true) (hs : Sorted2 ms (askM t s q)) (hf : hasM ms (askM t s q) = true) : Ctr Tryd.prog [] 29 [.cells [.row 1] 148, mrow ms] [.one (.c (.loc 0 0)), .one (.agg [.v (.int .i64 t), .v (.string (B s)), .v (.int .u64 q), .v (.bool true), .v (.string (B d))])]
    (fun os v => os = [.cells [.row 1] 148, mrow (ms.map (tkM t s q))] ∧ v = vv (.int .i64 0)) := by
  refine Ctr.less ?_
  have hlt : bsN ms (askM t s q) < ms.length := by
    simp only [hasM, Bool.and_eq_true, decide_eq_true_eq] at hf
    exact hf.1
  intro X0 hP0 hG0 N0 hN0
  refine CallVC.inline (f := 29) (by rw [hP0]; exact Tryd.func29) rfl Tryd.ntmps29 rfl (by simp) ?_
  intro X K hU hnt hbl hK
  have hP : X.P = Tryd.prog := by rw [hU.P, hP0]
  have hG := hG0.under hU
  have hT : aggOf X.P 30 = some true ∧ szOf X.P 30 = some 5 ∧ calleeOk X.P 19 = true ∧ fieldOff X.P 30 0 = some 0 ∧ aggOf X.P 26 = some true ∧ szOf X.P 26 = some 2 ∧ fieldOff X.P 30 1 = some 2 ∧ aggOf X.P 22 = some false ∧ szOf X.P 22 = some 1 ∧ calleeOk X.P 89 = true ∧ fieldOff X.P 30 2 = some 3 ∧ aggOf X.P 4 = some false ∧ szOf X.P 4 = some 1 ∧ fieldOff X.P 62 2 = some 3 ∧ aggOf X.P 3 = some false ∧ szOf X.P 3 = some 1 ∧ fieldOff X.P 30 3 = some 4 ∧ aggOf X.P 9 = some false ∧ szOf X.P 9 = some 1 ∧ fieldOff X.P 62 3 = some 4 ∧ fieldOff X.P 148 0 = some 0 ∧ aggOf X.P 59 = some false ∧ szOf X.P 59 = some 1 ∧ X.P.underlying 59 = some (TypeDesc.slice 62) ∧ elemSz X.P 59 = some (62, 5) ∧ fieldOff X.P 62 0 = some 0 ∧ fieldOff X.P 62 1 = some 2 := by rw [hP]; exact ⟨Ty.ag30, Ty.sz30, Ty.co19, Ty.fo30_0, Ty.ag26, Ty.sz26, Ty.fo30_1, Ty.ag22, Ty.sz22, Ty.co89, Ty.fo30_2, Ty.ag4, Ty.sz4, Ty.fo62_2, Ty.ag3, Ty.sz3, Ty.fo30_3, Ty.ag9, Ty.sz9, Ty.fo62_3, Ty.fo148_0, Ty.ag59, Ty.sz59, Tryd.underlying59, Ty.el59, Ty.fo62_0, Ty.fo62_1⟩
  simp only [WS, JA, JB, wI64, wU64, Int.reduceAdd, Int.reduceSub, Int.reduceMul, Int.reduceLE, Int.reduceLT, Int.reduceNeg, Int.reduceToNat, Int.cast_ofNat_Int, sx0, sx1, sx2, sx3, sx4, sx5, sx6, sx7, sy0, sy1, List.filterMap_cons, JC, JD, WT, JE, JF, JG, JH, JI, JJ, JK, WU, JL, JM, JN, JO, WV, JP, JQ, WW, JR, JS, JT, JU, JV, JW, JX, JY, JZ, WA, WB, WC, WD, WE, WF, WG, WH, WI, WJ, WK, WL, WM, WN, true_and, and_true, reduceCtorEq, ↓reduceIte, ↓bifT, ↓bifF, ↓gifT, ↓gifF, eq_self, WO, WP, WQ, Nat.reduceLT, Nat.reduceLeDiff, Nat.reduceAdd, Nat.reduceSub, Nat.reduceMul, Nat.reduceMod, WR, Nat.reduceBEq, Int.reduceBEq, Int.reduceBNe, BEq.rfl] at hbl ⊢
  repeat' (first
    | (refine SX.seqK ?_; intro N hN)
    | ((first | (refine SX.ops ?_) | (refine SX.planT (id := 9) [.f 0, .f 1, .f 2, .f 4, .f 5, .b 3 6, .s 7, .s 8, .s 9] ?_ ?_ ?_; (focus first | (rw [hP]; kernel_rfl) | (rw [hU1P, hP]; kernel_rfl)); (focus kernel_rfl)) | (refine SX.planT (id := 15) [.q [(0, [10]), (1, [61]), (2, [62]), (3, [63]), (4, [3]), (5, [65]), (6, [64, 66]), (7, [67]), (8, [10, 68]), (9, [69, 68]), (10, [70, 68]), (11, [71, 68]), (12, [3, 68]), (13, [73, 68]), (14, [72, 74, 68]), (15, [68, 75]), (16, [76]), (17, [10, 77]), (18, [78, 77]), (19, [79, 77]), (20, [80, 77]), (21, [81, 77]), (22, [77, 82])] none] ?_ ?_ ?_; (focus first | (rw [hP]; kernel_rfl) | (rw [hU1P, hP]; kernel_rfl)); (focus kernel_rfl))); simp only [WS, JA, JB, wI64, wU64, Int.reduceAdd, Int.reduceSub, Int.reduceMul, Int.reduceLE, Int.reduceLT, Int.reduceNeg, Int.reduceToNat, Int.cast_ofNat_Int, sx0, sx1, sx2, sx3, sx4, sx5, sx6, sx7, sy0, sy1, List.filterMap_cons, JC, JD, WT, JE, JF, JG, JH, JI, JJ, JK, WU, JL, JM, JN, JO, WV, JP, JQ, WW, JR, JS, JT, JU, JV, JW, JX, JY, JZ, WA, WB, WC, WD, WE, WF, WG, WH, WI, WJ, WK, WL, WM, WN, true_and, and_true, reduceCtorEq, ↓reduceIte, ↓bifT, ↓bifF, ↓gifT, ↓gifF, eq_self, WO, WP, WQ, Nat.reduceLT, Nat.reduceLeDiff, Nat.reduceAdd, Nat.reduceSub, Nat.reduceMul, Nat.reduceMod, WR, Nat.reduceBEq, Int.reduceBEq, Int.reduceBNe, BEq.rfl, hnt, hT, h])
    | ((first | refine SX.skip ?_ | refine SX.exit ?_ | refine SX.label ?_); try simp only [WS, JA, JB, wI64, wU64, Int.reduceAdd, Int.reduceSub, Int.reduceMul, Int.reduceLE, Int.reduceLT, Int.reduceNeg, Int.reduceToNat, Int.cast_ofNat_Int, sx0, sx1, sx2, sx3, sx4, sx5, sx6, sx7, sy0, sy1, List.filterMap_cons, JC, JD, WT, JE, JF, JG, JH, JI, JJ, JK, WU, JL, JM, JN, JO, WV, JP, JQ, WW, JR, JS, JT, JU, JV, JW, JX, JY, JZ, WA, WB, WC, WD, WE, WF, WG, WH, WI, WJ, WK, WL, WM, WN, true_and, and_true, reduceCtorEq, ↓reduceIte, ↓bifT, ↓bifF, ↓gifT, ↓gifF, eq_self, WO, WP, WQ, Nat.reduceLT, Nat.reduceLeDiff, Nat.reduceAdd, Nat.reduceSub, Nat.reduceMul, Nat.reduceMod, WR, Nat.reduceBEq, Int.reduceBEq, Int.reduceBNe, BEq.rfl])
    | (refine SX.cond rfl (fun hb => ?_) (fun hb => ?_) <;> ((first | cases hb | (simp only [decide_eq_true_eq, decide_eq_false_iff_not, beq_iff_eq, beq_eq_false_iff_ne, bne_iff_ne, Bool.and_eq_true, Bool.or_eq_true, Bool.not_eq_true', Bool.not_eq_false', Bool.and_eq_false_iff, Bool.or_eq_false_iff, Int.not_lt, Int.not_le] at hb) | skip) <;> (first | (exfalso; omega) | skip)))
    | (refine SX.ret ?_; try simp only [WS, JA, JB, wI64, wU64, Int.reduceAdd, Int.reduceSub, Int.reduceMul, Int.reduceLE, Int.reduceLT, Int.reduceNeg, Int.reduceToNat, Int.cast_ofNat_Int, sx0, sx1, sx2, sx3, sx4, sx5, sx6, sx7, sy0, sy1, List.filterMap_cons, JC, JD, WT, JE, JF, JG, JH, JI, JJ, JK, WU, JL, JM, JN, JO, WV, JP, JQ, WW, JR, JS, JT, JU, JV, JW, JX, JY, JZ, WA, WB, WC, WD, WE, WF, WG, WH, WI, WJ, WK, WL, WM, WN, true_and, and_true, reduceCtorEq, ↓reduceIte, ↓bifT, ↓bifF, ↓gifT, ↓gifF, eq_self, WO, WP, WQ, Nat.reduceLT, Nat.reduceLeDiff, Nat.reduceAdd, Nat.reduceSub, Nat.reduceMul, Nat.reduceMod, WR, Nat.reduceBEq, Int.reduceBEq, Int.reduceBNe, BEq.rfl])
    | (refine hN _ ?_; clear hN N)
    | ((first | refine hK _ _ (FinI.ret3 ?_) | refine hK _ _ (FinI.nrm3 ?_)); simp only [WS, JA, JB, wI64, wU64, Int.reduceAdd, Int.reduceSub, Int.reduceMul, Int.reduceLE, Int.reduceLT, Int.reduceNeg, Int.reduceToNat, Int.cast_ofNat_Int, sx0, sx1, sx2, sx3, sx4, sx5, sx6, sx7, sy0, sy1, List.filterMap_cons, JC, JD, WT, JE, JF, JG, JH, JI, JJ, JK, WU, JL, JM, JN, JO, WV, JP, JQ, WW, JR, JS, JT, JU, JV, JW, JX, JY, JZ, WA, WB, WC, WD, WE, WF, WG, WH, WI, WJ, WK, WL, WM, WN, true_and, and_true, reduceCtorEq, ↓reduceIte, ↓bifT, ↓bifF, ↓gifT, ↓gifF, eq_self, WO, WP, WQ, Nat.reduceLT, Nat.reduceLeDiff, Nat.reduceAdd, Nat.reduceSub, Nat.reduceMul, Nat.reduceMod, WR, Nat.reduceBEq, Int.reduceBEq, Int.reduceBNe, BEq.rfl, finP_s, hnt, hT, h]; refine Done.out ?_)
    | (clear hN N; first | (refine hN _ ?_; clear hN N) | (clear hN N; first | (refine hN _ ?_; clear hN N) | (clear hN N; first | (refine hN _ ?_; clear hN N) | (clear hN N; first | (refine hN _ ?_; clear hN N) | (clear hN N; first | (refine hN _ ?_; clear hN N) | (refine hN _ ?_; clear hN N))))))
    | (refine bif2.mk (fun hb => ?_) (fun hb => ?_) <;> (try simp only [hb, WS, JA, JB, wI64, wU64, Int.reduceAdd, Int.reduceSub, Int.reduceMul, Int.reduceLE, Int.reduceLT, Int.reduceNeg, Int.reduceToNat, Int.cast_ofNat_Int, sx0, sx1, sx2, sx3, sx4, sx5, sx6, sx7, sy0, sy1, List.filterMap_cons, JC, JD, WT, JE, JF, JG, JH, JI, JJ, JK, WU, JL, JM, JN, JO, WV, JP, JQ, WW, JR, JS, JT, JU, JV, JW, JX, JY, JZ, WA, WB, WC, WD, WE, WF, WG, WH, WI, WJ, WK, WL, WM, WN, true_and, and_true, reduceCtorEq, ↓reduceIte, ↓bifT, ↓bifF, ↓gifT, ↓gifF, eq_self, WO, WP, WQ, Nat.reduceLT, Nat.reduceLeDiff, Nat.reduceAdd, Nat.reduceSub, Nat.reduceMul, Nat.reduceMod, WR, Nat.reduceBEq, Int.reduceBEq, Int.reduceBNe, BEq.rfl, hnt, hT, h]) <;> ((first | cases hb | (simp only [decide_eq_true_eq, decide_eq_false_iff_not, beq_iff_eq, beq_eq_false_iff_ne, bne_iff_ne, Bool.and_eq_true, Bool.or_eq_true, Bool.not_eq_true', Bool.not_eq_false', Bool.and_eq_false_iff, Bool.or_eq_false_iff, Int.not_lt, Int.not_le] at hb) | skip) <;> (first | (exfalso; omega) | skip)))
    | ((first | (refine CallVC.pt (l := [_, _]) hP (putStatus_any t s q true d hsl hq) rfl ?_) | (refine CallQ.pt (l := [_, _]) hP (putStatus_any t s q true d hsl hq) rfl ?_) | (refine Ctr.use (find_yes ms hms t s q hs hf) hP ?_ [0,1] ?_ rfl rfl ?_; (focus (intro p hp; cases hp)); (focus (refine LeR.of rfl trivial ?_ ?_ ?_ ?_ ?_ <;> first | decide | (simp only [WS, JA, JB, wI64, wU64, Int.reduceAdd, Int.reduceSub, Int.reduceMul, Int.reduceLE, Int.reduceLT, Int.reduceNeg, Int.reduceToNat, Int.cast_ofNat_Int, sx0, sx1, sx2, sx3, sx4, sx5, sx6, sx7, sy0, sy1, List.filterMap_cons, JC, JD, WT, JE, JF, JG, JH, JI, JJ, JK, WU, JL, JM, JN, JO, WV, JP, JQ, WW, JR, JS, JT, JU, JV, JW, JX, JY, JZ, WA, WB, WC, WD, WE, WF, WG, WH, WI, WJ, WK, WL, WM, WN, true_and, and_true, reduceCtorEq, ↓reduceIte, ↓bifT, ↓bifF, ↓gifT, ↓gifF, eq_self, WO, WP, WQ, Nat.reduceLT, Nat.reduceLeDiff, Nat.reduceAdd, Nat.reduceSub, Nat.reduceMul, Nat.reduceMod, WR, Nat.reduceBEq, Int.reduceBEq, Int.reduceBNe, BEq.rfl, List.getD_cons_zero, List.getD_cons_succ, or_false, false_or, or_self, or_true, true_or, decide_true]; done))); intro os' s hR; obtain ⟨rfl, rfl⟩ := hR)); simp only [WS, JA, JB, wI64, wU64, Int.reduceAdd, Int.reduceSub, Int.reduceMul, Int.reduceLE, Int.reduceLT, Int.reduceNeg, Int.reduceToNat, Int.cast_ofNat_Int, sx0, sx1, sx2, sx3, sx4, sx5, sx6, sx7, sy0, sy1, List.filterMap_cons, JC, JD, WT, JE, JF, JG, JH, JI, JJ, JK, WU, JL, JM, JN, JO, WV, JP, JQ, WW, JR, JS, JT, JU, JV, JW, JX, JY, JZ, WA, WB, WC, WD, WE, WF, WG, WH, WI, WJ, WK, WL, WM, WN, true_and, and_true, reduceCtorEq, ↓reduceIte, ↓bifT, ↓bifF, ↓gifT, ↓gifF, eq_self, WO, WP, WQ, Nat.reduceLT, Nat.reduceLeDiff, Nat.reduceAdd, Nat.reduceSub, Nat.reduceMul, Nat.reduceMod, WR, Nat.reduceBEq, Int.reduceBEq, Int.reduceBNe, BEq.rfl, hnt, hT, h])
    | (refine SX.loop (ι := { i : Nat // i ≤ ms.length }) (fun i => ⟨[(0, .one (.c (.loc 0 0))), (3, .one (.c (.loc 2 0))), (51, vv (.int .i64 ms.length)), (52, vv (.int .i64 i.1))], [.cells [.row 1] 148, .row 62 5 ms.length (mks (tkTo t s q ms i.1)), .cells [.v (.int .i64 t), .v (.string (B s)), .v (.int .u64 q), .v (.bool true), .v (.string (B d))] 30]⟩) (fun i => ms.length - i.1) ⟨0, Nat.zero_le _⟩ ⟨[0, 1, 2], (LeR.of (by rw [hbl]; decide) (by simp only [WS, JA, JB, wI64, wU64, Int.reduceAdd, Int.reduceSub, Int.reduceMul, Int.reduceLE, Int.reduceLT, Int.reduceNeg, Int.reduceToNat, Int.cast_ofNat_Int, sx0, sx1, sx2, sx3, sx4, sx5, sx6, sx7, sy0, sy1, List.filterMap_cons, JC, JD, WT, JE, JF, JG, JH, JI, JJ, JK, WU, JL, JM, JN, JO, WV, JP, JQ, WW, JR, JS, JT, JU, JV, JW, JX, JY, JZ, WA, WB, WC, WD, WE, WF, WG, WH, WI, WJ, WK, WL, WM, WN, true_and, and_true, reduceCtorEq, ↓reduceIte, ↓bifT, ↓bifF, ↓gifT, ↓gifF, eq_self, WO, WP, WQ, Nat.reduceLT, Nat.reduceLeDiff, Nat.reduceAdd, Nat.reduceSub, Nat.reduceMul, Nat.reduceMod, WR, Nat.reduceBEq, Int.reduceBEq, Int.reduceBNe, BEq.rfl, List.getD_cons_zero, List.getD_cons_succ, or_false, false_or, or_self, or_true, true_or, decide_true]; try (rfl)) (by simp only [WS, JA, JB, wI64, wU64, Int.reduceAdd, Int.reduceSub, Int.reduceMul, Int.reduceLE, Int.reduceLT, Int.reduceNeg, Int.reduceToNat, Int.cast_ofNat_Int, sx0, sx1, sx2, sx3, sx4, sx5, sx6, sx7, sy0, sy1, List.filterMap_cons, JC, JD, WT, JE, JF, JG, JH, JI, JJ, JK, WU, JL, JM, JN, JO, WV, JP, JQ, WW, JR, JS, JT, JU, JV, JW, JX, JY, JZ, WA, WB, WC, WD, WE, WF, WG, WH, WI, WJ, WK, WL, WM, WN, true_and, and_true, reduceCtorEq, ↓reduceIte, ↓bifT, ↓bifF, ↓gifT, ↓gifF, eq_self, WO, WP, WQ, Nat.reduceLT, Nat.reduceLeDiff, Nat.reduceAdd, Nat.reduceSub, Nat.reduceMul, Nat.reduceMod, WR, Nat.reduceBEq, Int.reduceBEq, Int.reduceBNe, BEq.rfl, List.getD_cons_zero, List.getD_cons_succ, or_false, false_or, or_self, or_true, true_or, decide_true]; try (rfl)) (by decide) (by simp only [WS, JA, JB, wI64, wU64, Int.reduceAdd, Int.reduceSub, Int.reduceMul, Int.reduceLE, Int.reduceLT, Int.reduceNeg, Int.reduceToNat, Int.cast_ofNat_Int, sx0, sx1, sx2, sx3, sx4, sx5, sx6, sx7, sy0, sy1, List.filterMap_cons, JC, JD, WT, JE, JF, JG, JH, JI, JJ, JK, WU, JL, JM, JN, JO, WV, JP, JQ, WW, JR, JS, JT, JU, JV, JW, JX, JY, JZ, WA, WB, WC, WD, WE, WF, WG, WH, WI, WJ, WK, WL, WM, WN, true_and, and_true, reduceCtorEq, ↓reduceIte, ↓bifT, ↓bifF, ↓gifT, ↓gifF, eq_self, WO, WP, WQ, Nat.reduceLT, Nat.reduceLeDiff, Nat.reduceAdd, Nat.reduceSub, Nat.reduceMul, Nat.reduceMod, WR, Nat.reduceBEq, Int.reduceBEq, Int.reduceBNe, BEq.rfl, List.getD_cons_zero, List.getD_cons_succ, or_false, false_or, or_self, or_true, true_or, decide_true]) (by simp only [WS, JA, JB, wI64, wU64, Int.reduceAdd, Int.reduceSub, Int.reduceMul, Int.reduceLE, Int.reduceLT, Int.reduceNeg, Int.reduceToNat, Int.cast_ofNat_Int, sx0, sx1, sx2, sx3, sx4, sx5, sx6, sx7, sy0, sy1, List.filterMap_cons, JC, JD, WT, JE, JF, JG, JH, JI, JJ, JK, WU, JL, JM, JN, JO, WV, JP, JQ, WW, JR, JS, JT, JU, JV, JW, JX, JY, JZ, WA, WB, WC, WD, WE, WF, WG, WH, WI, WJ, WK, WL, WM, WN, true_and, and_true, reduceCtorEq, ↓reduceIte, ↓bifT, ↓bifF, ↓gifT, ↓gifF, eq_self, WO, WP, WQ, Nat.reduceLT, Nat.reduceLeDiff, Nat.reduceAdd, Nat.reduceSub, Nat.reduceMul, Nat.reduceMod, WR, Nat.reduceBEq, Int.reduceBEq, Int.reduceBNe, BEq.rfl, List.getD_cons_zero, List.getD_cons_succ, or_false, false_or, or_self, or_true, true_or, decide_true]) (by simp only [WS, JA, JB, wI64, wU64, Int.reduceAdd, Int.reduceSub, Int.reduceMul, Int.reduceLE, Int.reduceLT, Int.reduceNeg, Int.reduceToNat, Int.cast_ofNat_Int, sx0, sx1, sx2, sx3, sx4, sx5, sx6, sx7, sy0, sy1, List.filterMap_cons, JC, JD, WT, JE, JF, JG, JH, JI, JJ, JK, WU, JL, JM, JN, JO, WV, JP, JQ, WW, JR, JS, JT, JU, JV, JW, JX, JY, JZ, WA, WB, WC, WD, WE, WF, WG, WH, WI, WJ, WK, WL, WM, WN, true_and, and_true, reduceCtorEq, ↓reduceIte, ↓bifT, ↓bifF, ↓gifT, ↓gifF, eq_self, WO, WP, WQ, Nat.reduceLT, Nat.reduceLeDiff, Nat.reduceAdd, Nat.reduceSub, Nat.reduceMul, Nat.reduceMod, WR, Nat.reduceBEq, Int.reduceBEq, Int.reduceBNe, BEq.rfl, List.getD_cons_zero, List.getD_cons_succ, or_false, false_or, or_self, or_true, true_or, decide_true]))⟩ ?_ <;> rintro ⟨i, hi⟩ <;> simp only [] at hi ⊢)
    | (refine ⟨_, rfl, mks_key _ i (by rw [tkTo_len _ _ _ _ _ hi]; omega), ?_⟩ <;> simp only [WS, JA, JB, wI64, wU64, Int.reduceAdd, Int.reduceSub, Int.reduceMul, Int.reduceLE, Int.reduceLT, Int.reduceNeg, Int.reduceToNat, Int.cast_ofNat_Int, sx0, sx1, sx2, sx3, sx4, sx5, sx6, sx7, sy0, sy1, List.filterMap_cons, JC, JD, WT, JE, JF, JG, JH, JI, JJ, JK, WU, JL, JM, JN, JO, WV, JP, JQ, WW, JR, JS, JT, JU, JV, JW, JX, JY, JZ, WA, WB, WC, WD, WE, WF, WG, WH, WI, WJ, WK, WL, WM, WN, true_and, and_true, reduceCtorEq, ↓reduceIte, ↓bifT, ↓bifF, ↓gifT, ↓gifF, eq_self, WO, WP, WQ, Nat.reduceLT, Nat.reduceLeDiff, Nat.reduceAdd, Nat.reduceSub, Nat.reduceMul, Nat.reduceMod, WR, Nat.reduceBEq, Int.reduceBEq, Int.reduceBNe, BEq.rfl, hnt, hT])
    | (refine ⟨_, mks_q _ i (by rw [tkTo_len _ _ _ _ _ hi]; omega), ?_⟩)
    | (refine ⟨_, mks_st _ i (by rw [tkTo_len _ _ _ _ _ hi]; omega), ?_⟩)
    | (refine ⟨_, strEq_to hP (Ty.eqS26 _ _ _ _), ?_⟩)
    | (refine ⟨by rw [mks_length, tkTo_len _ _ _ _ _ hi]; omega, ?_⟩)
    | (refine SX.block ?_)
    | (refine and_mk ?_ ?_; (focus first | decide | omega | rfl | assumption | (simp only [List.length_append, List.length_cons, List.length_nil, B_size]; omega) | (simp; done)))
    | (refine And.intro ?_ ?_))
  all_goals (try refine Done.mk ?_)
  · refine ⟨⟨i + 1, by omega⟩, [0, 1, 2], (LeR.of (by rw [hbl]; decide) (by simp only [WS, JA, JB, wI64, wU64, Int.reduceAdd, Int.reduceSub, Int.reduceMul, Int.reduceLE, Int.reduceLT, Int.reduceNeg, Int.reduceToNat, Int.cast_ofNat_Int, sx0, sx1, sx2, sx3, sx4, sx5, sx6, sx7, sy0, sy1, List.filterMap_cons, JC, JD, WT, JE, JF, JG, JH, JI, JJ, JK, WU, JL, JM, JN, JO, WV, JP, JQ, WW, JR, JS, JT, JU, JV, JW, JX, JY, JZ, WA, WB, WC, WD, WE, WF, WG, WH, WI, WJ, WK, WL, WM, WN, true_and, and_true, reduceCtorEq, ↓reduceIte, ↓bifT, ↓bifF, ↓gifT, ↓gifF, eq_self, WO, WP, WQ, Nat.reduceLT, Nat.reduceLeDiff, Nat.reduceAdd, Nat.reduceSub, Nat.reduceMul, Nat.reduceMod, WR, Nat.reduceBEq, Int.reduceBEq, Int.reduceBNe, BEq.rfl, List.getD_cons_zero, List.getD_cons_succ, or_false, false_or, or_self, or_true, true_or, decide_true]; try (first | (rw [wI64 (by omega) (by omega)]; rfl) | exact tk_yes t s q ms i (by omega) _ (by simp_all [isTk]))) (by simp only [WS, JA, JB, wI64, wU64, Int.reduceAdd, Int.reduceSub, Int.reduceMul, Int.reduceLE, Int.reduceLT, Int.reduceNeg, Int.reduceToNat, Int.cast_ofNat_Int, sx0, sx1, sx2, sx3, sx4, sx5, sx6, sx7, sy0, sy1, List.filterMap_cons, JC, JD, WT, JE, JF, JG, JH, JI, JJ, JK, WU, JL, JM, JN, JO, WV, JP, JQ, WW, JR, JS, JT, JU, JV, JW, JX, JY, JZ, WA, WB, WC, WD, WE, WF, WG, WH, WI, WJ, WK, WL, WM, WN, true_and, and_true, reduceCtorEq, ↓reduceIte, ↓bifT, ↓bifF, ↓gifT, ↓gifF, eq_self, WO, WP, WQ, Nat.reduceLT, Nat.reduceLeDiff, Nat.reduceAdd, Nat.reduceSub, Nat.reduceMul, Nat.reduceMod, WR, Nat.reduceBEq, Int.reduceBEq, Int.reduceBNe, BEq.rfl, List.getD_cons_zero, List.getD_cons_succ, or_false, false_or, or_self, or_true, true_or, decide_true]; try (first | (rw [wI64 (by omega) (by omega)]; rfl) | exact tk_yes t s q ms i (by omega) _ (by simp_all [isTk]))) (by decide) (by simp only [WS, JA, JB, wI64, wU64, Int.reduceAdd, Int.reduceSub, Int.reduceMul, Int.reduceLE, Int.reduceLT, Int.reduceNeg, Int.reduceToNat, Int.cast_ofNat_Int, sx0, sx1, sx2, sx3, sx4, sx5, sx6, sx7, sy0, sy1, List.filterMap_cons, JC, JD, WT, JE, JF, JG, JH, JI, JJ, JK, WU, JL, JM, JN, JO, WV, JP, JQ, WW, JR, JS, JT, JU, JV, JW, JX, JY, JZ, WA, WB, WC, WD, WE, WF, WG, WH, WI, WJ, WK, WL, WM, WN, true_and, and_true, reduceCtorEq, ↓reduceIte, ↓bifT, ↓bifF, ↓gifT, ↓gifF, eq_self, WO, WP, WQ, Nat.reduceLT, Nat.reduceLeDiff, Nat.reduceAdd, Nat.reduceSub, Nat.reduceMul, Nat.reduceMod, WR, Nat.reduceBEq, Int.reduceBEq, Int.reduceBNe, BEq.rfl, List.getD_cons_zero, List.getD_cons_succ, or_false, false_or, or_self, or_true, true_or, decide_true]) (by simp only [WS, JA, JB, wI64, wU64, Int.reduceAdd, Int.reduceSub, Int.reduceMul, Int.reduceLE, Int.reduceLT, Int.reduceNeg, Int.reduceToNat, Int.cast_ofNat_Int, sx0, sx1, sx2, sx3, sx4, sx5, sx6, sx7, sy0, sy1, List.filterMap_cons, JC, JD, WT, JE, JF, JG, JH, JI, JJ, JK, WU, JL, JM, JN, JO, WV, JP, JQ, WW, JR, JS, JT, JU, JV, JW, JX, JY, JZ, WA, WB, WC, WD, WE, WF, WG, WH, WI, WJ, WK, WL, WM, WN, true_and, and_true, reduceCtorEq, ↓reduceIte, ↓bifT, ↓bifF, ↓gifT, ↓gifF, eq_self, WO, WP, WQ, Nat.reduceLT, Nat.reduceLeDiff, Nat.reduceAdd, Nat.reduceSub, Nat.reduceMul, Nat.reduceMod, WR, Nat.reduceBEq, Int.reduceBEq, Int.reduceBNe, BEq.rfl, List.getD_cons_zero, List.getD_cons_succ, or_false, false_or, or_self, or_true, true_or, decide_true]) (by simp only [WS, JA, JB, wI64, wU64, Int.reduceAdd, Int.reduceSub, Int.reduceMul, Int.reduceLE, Int.reduceLT, Int.reduceNeg, Int.reduceToNat, Int.cast_ofNat_Int, sx0, sx1, sx2, sx3, sx4, sx5, sx6, sx7, sy0, sy1, List.filterMap_cons, JC, JD, WT, JE, JF, JG, JH, JI, JJ, JK, WU, JL, JM, JN, JO, WV, JP, JQ, WW, JR, JS, JT, JU, JV, JW, JX, JY, JZ, WA, WB, WC, WD, WE, WF, WG, WH, WI, WJ, WK, WL, WM, WN, true_and, and_true, reduceCtorEq, ↓reduceIte, ↓bifT, ↓bifF, ↓gifT, ↓gifF, eq_self, WO, WP, WQ, Nat.reduceLT, Nat.reduceLeDiff, Nat.reduceAdd, Nat.reduceSub, Nat.reduceMul, Nat.reduceMod, WR, Nat.reduceBEq, Int.reduceBEq, Int.reduceBNe, BEq.rfl, List.getD_cons_zero, List.getD_cons_succ, or_false, false_or, or_self, or_true, true_or, decide_true])), by show ms.length - (i + 1) < ms.length - i; omega⟩
  · refine ⟨⟨i + 1, by omega⟩, [0, 1, 2], (LeR.of (by rw [hbl]; decide) (by simp only [WS, JA, JB, wI64, wU64, Int.reduceAdd, Int.reduceSub, Int.reduceMul, Int.reduceLE, Int.reduceLT, Int.reduceNeg, Int.reduceToNat, Int.cast_ofNat_Int, sx0, sx1, sx2, sx3, sx4, sx5, sx6, sx7, sy0, sy1, List.filterMap_cons, JC, JD, WT, JE, JF, JG, JH, JI, JJ, JK, WU, JL, JM, JN, JO, WV, JP, JQ, WW, JR, JS, JT, JU, JV, JW, JX, JY, JZ, WA, WB, WC, WD, WE, WF, WG, WH, WI, WJ, WK, WL, WM, WN, true_and, and_true, reduceCtorEq, ↓reduceIte, ↓bifT, ↓bifF, ↓gifT, ↓gifF, eq_self, WO, WP, WQ, Nat.reduceLT, Nat.reduceLeDiff, Nat.reduceAdd, Nat.reduceSub, Nat.reduceMul, Nat.reduceMod, WR, Nat.reduceBEq, Int.reduceBEq, Int.reduceBNe, BEq.rfl, List.getD_cons_zero, List.getD_cons_succ, or_false, false_or, or_self, or_true, true_or, decide_true]; try (first | (rw [wI64 (by omega) (by omega)]; rfl) | rw [tk_no t s q ms i (by omega) (by simp_all [isTk] <;> intros <;> first | omega | (rcases hb with hb | hb <;> exact absurd (by assumption) hb))])) (by simp only [WS, JA, JB, wI64, wU64, Int.reduceAdd, Int.reduceSub, Int.reduceMul, Int.reduceLE, Int.reduceLT, Int.reduceNeg, Int.reduceToNat, Int.cast_ofNat_Int, sx0, sx1, sx2, sx3, sx4, sx5, sx6, sx7, sy0, sy1, List.filterMap_cons, JC, JD, WT, JE, JF, JG, JH, JI, JJ, JK, WU, JL, JM, JN, JO, WV, JP, JQ, WW, JR, JS, JT, JU, JV, JW, JX, JY, JZ, WA, WB, WC, WD, WE, WF, WG, WH, WI, WJ, WK, WL, WM, WN, true_and, and_true, reduceCtorEq, ↓reduceIte, ↓bifT, ↓bifF, ↓gifT, ↓gifF, eq_self, WO, WP, WQ, Nat.reduceLT, Nat.reduceLeDiff, Nat.reduceAdd, Nat.reduceSub, Nat.reduceMul, Nat.reduceMod, WR, Nat.reduceBEq, Int.reduceBEq, Int.reduceBNe, BEq.rfl, List.getD_cons_zero, List.getD_cons_succ, or_false, false_or, or_self, or_true, true_or, decide_true]; try (first | (rw [wI64 (by omega) (by omega)]; rfl) | rw [tk_no t s q ms i (by omega) (by simp_all [isTk] <;> intros <;> first | omega | (rcases hb with hb | hb <;> exact absurd (by assumption) hb))])) (by decide) (by simp only [WS, JA, JB, wI64, wU64, Int.reduceAdd, Int.reduceSub, Int.reduceMul, Int.reduceLE, Int.reduceLT, Int.reduceNeg, Int.reduceToNat, Int.cast_ofNat_Int, sx0, sx1, sx2, sx3, sx4, sx5, sx6, sx7, sy0, sy1, List.filterMap_cons, JC, JD, WT, JE, JF, JG, JH, JI, JJ, JK, WU, JL, JM, JN, JO, WV, JP, JQ, WW, JR, JS, JT, JU, JV, JW, JX, JY, JZ, WA, WB, WC, WD, WE, WF, WG, WH, WI, WJ, WK, WL, WM, WN, true_and, and_true, reduceCtorEq, ↓reduceIte, ↓bifT, ↓bifF, ↓gifT, ↓gifF, eq_self, WO, WP, WQ, Nat.reduceLT, Nat.reduceLeDiff, Nat.reduceAdd, Nat.reduceSub, Nat.reduceMul, Nat.reduceMod, WR, Nat.reduceBEq, Int.reduceBEq, Int.reduceBNe, BEq.rfl, List.getD_cons_zero, List.getD_cons_succ, or_false, false_or, or_self, or_true, true_or, decide_true]) (by simp only [WS, JA, JB, wI64, wU64, Int.reduceAdd, Int.reduceSub, Int.reduceMul, Int.reduceLE, Int.reduceLT, Int.reduceNeg, Int.reduceToNat, Int.cast_ofNat_Int, sx0, sx1, sx2, sx3, sx4, sx5, sx6, sx7, sy0, sy1, List.filterMap_cons, JC, JD, WT, JE, JF, JG, JH, JI, JJ, JK, WU, JL, JM, JN, JO, WV, JP, JQ, WW, JR, JS, JT, JU, JV, JW, JX, JY, JZ, WA, WB, WC, WD, WE, WF, WG, WH, WI, WJ, WK, WL, WM, WN, true_and, and_true, reduceCtorEq, ↓reduceIte, ↓bifT, ↓bifF, ↓gifT, ↓gifF, eq_self, WO, WP, WQ, Nat.reduceLT, Nat.reduceLeDiff, Nat.reduceAdd, Nat.reduceSub, Nat.reduceMul, Nat.reduceMod, WR, Nat.reduceBEq, Int.reduceBEq, Int.reduceBNe, BEq.rfl, List.getD_cons_zero, List.getD_cons_succ, or_false, false_or, or_self, or_true, true_or, decide_true]) (by simp only [WS, JA, JB, wI64, wU64, Int.reduceAdd, Int.reduceSub, Int.reduceMul, Int.reduceLE, Int.reduceLT, Int.reduceNeg, Int.reduceToNat, Int.cast_ofNat_Int, sx0, sx1, sx2, sx3, sx4, sx5, sx6, sx7, sy0, sy1, List.filterMap_cons, JC, JD, WT, JE, JF, JG, JH, JI, JJ, JK, WU, JL, JM, JN, JO, WV, JP, JQ, WW, JR, JS, JT, JU, JV, JW, JX, JY, JZ, WA, WB, WC, WD, WE, WF, WG, WH, WI, WJ, WK, WL, WM, WN, true_and, and_true, reduceCtorEq, ↓reduceIte, ↓bifT, ↓bifF, ↓gifT, ↓gifF, eq_self, WO, WP, WQ, Nat.reduceLT, Nat.reduceLeDiff, Nat.reduceAdd, Nat.reduceSub, Nat.reduceMul, Nat.reduceMod, WR, Nat.reduceBEq, Int.reduceBEq, Int.reduceBNe, BEq.rfl, List.getD_cons_zero, List.getD_cons_succ, or_false, false_or, or_self, or_true, true_or, decide_true])), by show ms.length - (i + 1) < ms.length - i; omega⟩
  · refine ⟨⟨i + 1, by omega⟩, [0, 1, 2], (LeR.of (by rw [hbl]; decide) (by simp only [WS, JA, JB, wI64, wU64, Int.reduceAdd, Int.reduceSub, Int.reduceMul, Int.reduceLE, Int.reduceLT, Int.reduceNeg, Int.reduceToNat, Int.cast_ofNat_Int, sx0, sx1, sx2, sx3, sx4, sx5, sx6, sx7, sy0, sy1, List.filterMap_cons, JC, JD, WT, JE, JF, JG, JH, JI, JJ, JK, WU, JL, JM, JN, JO, WV, JP, JQ, WW, JR, JS, JT, JU, JV, JW, JX, JY, JZ, WA, WB, WC, WD, WE, WF, WG, WH, WI, WJ, WK, WL, WM, WN, true_and, and_true, reduceCtorEq, ↓reduceIte, ↓bifT, ↓bifF, ↓gifT, ↓gifF, eq_self, WO, WP, WQ, Nat.reduceLT, Nat.reduceLeDiff, Nat.reduceAdd, Nat.reduceSub, Nat.reduceMul, Nat.reduceMod, WR, Nat.reduceBEq, Int.reduceBEq, Int.reduceBNe, BEq.rfl, List.getD_cons_zero, List.getD_cons_succ, or_false, false_or, or_self, or_true, true_or, decide_true]; try (first | (rw [wI64 (by omega) (by omega)]; rfl) | rw [tk_no t s q ms i (by omega) (by simp_all [isTk] <;> intros <;> first | omega | (rcases hb with hb | hb <;> exact absurd (by assumption) hb))])) (by simp only [WS, JA, JB, wI64, wU64, Int.reduceAdd, Int.reduceSub, Int.reduceMul, Int.reduceLE, Int.reduceLT, Int.reduceNeg, Int.reduceToNat, Int.cast_ofNat_Int, sx0, sx1, sx2, sx3, sx4, sx5, sx6, sx7, sy0, sy1, List.filterMap_cons, JC, JD, WT, JE, JF, JG, JH, JI, JJ, JK, WU, JL, JM, JN, JO, WV, JP, JQ, WW, JR, JS, JT, JU, JV, JW, JX, JY, JZ, WA, WB, WC, WD, WE, WF, WG, WH, WI, WJ, WK, WL, WM, WN, true_and, and_true, reduceCtorEq, ↓reduceIte, ↓bifT, ↓bifF, ↓gifT, ↓gifF, eq_self, WO, WP, WQ, Nat.reduceLT, Nat.reduceLeDiff, Nat.reduceAdd, Nat.reduceSub, Nat.reduceMul, Nat.reduceMod, WR, Nat.reduceBEq, Int.reduceBEq, Int.reduceBNe, BEq.rfl, List.getD_cons_zero, List.getD_cons_succ, or_false, false_or, or_self, or_true, true_or, decide_true]; try (first | (rw [wI64 (by omega) (by omega)]; rfl) | rw [tk_no t s q ms i (by omega) (by simp_all [isTk] <;> intros <;> first | omega | (rcases hb with hb | hb <;> exact absurd (by assumption) hb))])) (by decide) (by simp only [WS, JA, JB, wI64, wU64, Int.reduceAdd, Int.reduceSub, Int.reduceMul, Int.reduceLE, Int.reduceLT, Int.reduceNeg, Int.reduceToNat, Int.cast_ofNat_Int, sx0, sx1, sx2, sx3, sx4, sx5, sx6, sx7, sy0, sy1, List.filterMap_cons, JC, JD, WT, JE, JF, JG, JH, JI, JJ, JK, WU, JL, JM, JN, JO, WV, JP, JQ, WW, JR, JS, JT, JU, JV, JW, JX, JY, JZ, WA, WB, WC, WD, WE, WF, WG, WH, WI, WJ, WK, WL, WM, WN, true_and, and_true, reduceCtorEq, ↓reduceIte, ↓bifT, ↓bifF, ↓gifT, ↓gifF, eq_self, WO, WP, WQ, Nat.reduceLT, Nat.reduceLeDiff, Nat.reduceAdd, Nat.reduceSub, Nat.reduceMul, Nat.reduceMod, WR, Nat.reduceBEq, Int.reduceBEq, Int.reduceBNe, BEq.rfl, List.getD_cons_zero, List.getD_cons_succ, or_false, false_or, or_self, or_true, true_or, decide_true]) (by simp only [WS, JA, JB, wI64, wU64, Int.reduceAdd, Int.reduceSub, Int.reduceMul, Int.reduceLE, Int.reduceLT, Int.reduceNeg, Int.reduceToNat, Int.cast_ofNat_Int, sx0, sx1, sx2, sx3, sx4, sx5, sx6, sx7, sy0, sy1, List.filterMap_cons, JC, JD, WT, JE, JF, JG, JH, JI, JJ, JK, WU, JL, JM, JN, JO, WV, JP, JQ, WW, JR, JS, JT, JU, JV, JW, JX, JY, JZ, WA, WB, WC, WD, WE, WF, WG, WH, WI, WJ, WK, WL, WM, WN, true_and, and_true, reduceCtorEq, ↓reduceIte, ↓bifT, ↓bifF, ↓gifT, ↓gifF, eq_self, WO, WP, WQ, Nat.reduceLT, Nat.reduceLeDiff, Nat.reduceAdd, Nat.reduceSub, Nat.reduceMul, Nat.reduceMod, WR, Nat.reduceBEq, Int.reduceBEq, Int.reduceBNe, BEq.rfl, List.getD_cons_zero, List.getD_cons_succ, or_false, false_or, or_self, or_true, true_or, decide_true]) (by simp only [WS, JA, JB, wI64, wU64, Int.reduceAdd, Int.reduceSub, Int.reduceMul, Int.reduceLE, Int.reduceLT, Int.reduceNeg, Int.reduceToNat, Int.cast_ofNat_Int, sx0, sx1, sx2, sx3, sx4, sx5, sx6, sx7, sy0, sy1, List.filterMap_cons, JC, JD, WT, JE, JF, JG, JH, JI, JJ, JK, WU, JL, JM, JN, JO, WV, JP, JQ, WW, JR, JS, JT, JU, JV, JW, JX, JY, JZ, WA, WB, WC, WD, WE, WF, WG, WH, WI, WJ, WK, WL, WM, WN, true_and, and_true, reduceCtorEq, ↓reduceIte, ↓bifT, ↓bifF, ↓gifT, ↓gifF, eq_self, WO, WP, WQ, Nat.reduceLT, Nat.reduceLeDiff, Nat.reduceAdd, Nat.reduceSub, Nat.reduceMul, Nat.reduceMod, WR, Nat.reduceBEq, Int.reduceBEq, Int.reduceBNe, BEq.rfl, List.getD_cons_zero, List.getD_cons_succ, or_false, false_or, or_self, or_true, true_or, decide_true])), by show ms.length - (i + 1) < ms.length - i; omega⟩
  · refine ⟨⟨i + 1, by omega⟩, [0, 1, 2], (LeR.of (by rw [hbl]; decide) (by simp only [WS, JA, JB, wI64, wU64, Int.reduceAdd, Int.reduceSub, Int.reduceMul, Int.reduceLE, Int.reduceLT, Int.reduceNeg, Int.reduceToNat, Int.cast_ofNat_Int, sx0, sx1, sx2, sx3, sx4, sx5, sx6, sx7, sy0, sy1, List.filterMap_cons, JC, JD, WT, JE, JF, JG, JH, JI, JJ, JK, WU, JL, JM, JN, JO, WV, JP, JQ, WW, JR, JS, JT, JU, JV, JW, JX, JY, JZ, WA, WB, WC, WD, WE, WF, WG, WH, WI, WJ, WK, WL, WM, WN, true_and, and_true, reduceCtorEq, ↓reduceIte, ↓bifT, ↓bifF, ↓gifT, ↓gifF, eq_self, WO, WP, WQ, Nat.reduceLT, Nat.reduceLeDiff, Nat.reduceAdd, Nat.reduceSub, Nat.reduceMul, Nat.reduceMod, WR, Nat.reduceBEq, Int.reduceBEq, Int.reduceBNe, BEq.rfl, List.getD_cons_zero, List.getD_cons_succ, or_false, false_or, or_self, or_true, true_or, decide_true]; try (first | (rw [wI64 (by omega) (by omega)]; rfl) | rw [tk_no t s q ms i (by omega) (by simp_all [isTk] <;> intros <;> first | omega | (rcases hb with hb | hb <;> exact absurd (by assumption) hb))])) (by simp only [WS, JA, JB, wI64, wU64, Int.reduceAdd, Int.reduceSub, Int.reduceMul, Int.reduceLE, Int.reduceLT, Int.reduceNeg, Int.reduceToNat, Int.cast_ofNat_Int, sx0, sx1, sx2, sx3, sx4, sx5, sx6, sx7, sy0, sy1, List.filterMap_cons, JC, JD, WT, JE, JF, JG, JH, JI, JJ, JK, WU, JL, JM, JN, JO, WV, JP, JQ, WW, JR, JS, JT, JU, JV, JW, JX, JY, JZ, WA, WB, WC, WD, WE, WF, WG, WH, WI, WJ, WK, WL, WM, WN, true_and, and_true, reduceCtorEq, ↓reduceIte, ↓bifT, ↓bifF, ↓gifT, ↓gifF, eq_self, WO, WP, WQ, Nat.reduceLT, Nat.reduceLeDiff, Nat.reduceAdd, Nat.reduceSub, Nat.reduceMul, Nat.reduceMod, WR, Nat.reduceBEq, Int.reduceBEq, Int.reduceBNe, BEq.rfl, List.getD_cons_zero, List.getD_cons_succ, or_false, false_or, or_self, or_true, true_or, decide_true]; try (first | (rw [wI64 (by omega) (by omega)]; rfl) | rw [tk_no t s q ms i (by omega) (by simp_all [isTk] <;> intros <;> first | omega | (rcases hb with hb | hb <;> exact absurd (by assumption) hb))])) (by decide) (by simp only [WS, JA, JB, wI64, wU64, Int.reduceAdd, Int.reduceSub, Int.reduceMul, Int.reduceLE, Int.reduceLT, Int.reduceNeg, Int.reduceToNat, Int.cast_ofNat_Int, sx0, sx1, sx2, sx3, sx4, sx5, sx6, sx7, sy0, sy1, List.filterMap_cons, JC, JD, WT, JE, JF, JG, JH, JI, JJ, JK, WU, JL, JM, JN, JO, WV, JP, JQ, WW, JR, JS, JT, JU, JV, JW, JX, JY, JZ, WA, WB, WC, WD, WE, WF, WG, WH, WI, WJ, WK, WL, WM, WN, true_and, and_true, reduceCtorEq, ↓reduceIte, ↓bifT, ↓bifF, ↓gifT, ↓gifF, eq_self, WO, WP, WQ, Nat.reduceLT, Nat.reduceLeDiff, Nat.reduceAdd, Nat.reduceSub, Nat.reduceMul, Nat.reduceMod, WR, Nat.reduceBEq, Int.reduceBEq, Int.reduceBNe, BEq.rfl, List.getD_cons_zero, List.getD_cons_succ, or_false, false_or, or_self, or_true, true_or, decide_true]) (by simp only [WS, JA, JB, wI64, wU64, Int.reduceAdd, Int.reduceSub, Int.reduceMul, Int.reduceLE, Int.reduceLT, Int.reduceNeg, Int.reduceToNat, Int.cast_ofNat_Int, sx0, sx1, sx2, sx3, sx4, sx5, sx6, sx7, sy0, sy1, List.filterMap_cons, JC, JD, WT, JE, JF, JG, JH, JI, JJ, JK, WU, JL, JM, JN, JO, WV, JP, JQ, WW, JR, JS, JT, JU, JV, JW, JX, JY, JZ, WA, WB, WC, WD, WE, WF, WG, WH, WI, WJ, WK, WL, WM, WN, true_and, and_true, reduceCtorEq, ↓reduceIte, ↓bifT, ↓bifF, ↓gifT, ↓gifF, eq_self, WO, WP, WQ, Nat.reduceLT, Nat.reduceLeDiff, Nat.reduceAdd, Nat.reduceSub, Nat.reduceMul, Nat.reduceMod, WR, Nat.reduceBEq, Int.reduceBEq, Int.reduceBNe, BEq.rfl, List.getD_cons_zero, List.getD_cons_succ, or_false, false_or, or_self, or_true, true_or, decide_true]) (by simp only [WS, JA, JB, wI64, wU64, Int.reduceAdd, Int.reduceSub, Int.reduceMul, Int.reduceLE, Int.reduceLT, Int.reduceNeg, Int.reduceToNat, Int.cast_ofNat_Int, sx0, sx1, sx2, sx3, sx4, sx5, sx6, sx7, sy0, sy1, List.filterMap_cons, JC, JD, WT, JE, JF, JG, JH, JI, JJ, JK, WU, JL, JM, JN, JO, WV, JP, JQ, WW, JR, JS, JT, JU, JV, JW, JX, JY, JZ, WA, WB, WC, WD, WE, WF, WG, WH, WI, WJ, WK, WL, WM, WN, true_and, and_true, reduceCtorEq, ↓reduceIte, ↓bifT, ↓bifF, ↓gifT, ↓gifF, eq_self, WO, WP, WQ, Nat.reduceLT, Nat.reduceLeDiff, Nat.reduceAdd, Nat.reduceSub, Nat.reduceMul, Nat.reduceMod, WR, Nat.reduceBEq, Int.reduceBEq, Int.reduceBNe, BEq.rfl, List.getD_cons_zero, List.getD_cons_succ, or_false, false_or, or_self, or_true, true_or, decide_true])), by show ms.length - (i + 1) < ms.length - i; omega⟩
  · have e : LO.row 62 5 ms.length (mks (tkTo t s q ms i)) = mrow (ms.map (tkM t s q)) := by
      rw [tkTo, List.take_of_length_le (by omega), List.drop_of_length_le (by omega), List.append_nil]; simp [mrow]
    rw [e]
    (refine hN0 _ _ ⟨[0, 1], _, _, ?_, ?_, ?_, ⟨rfl, rfl⟩⟩; (focus exact LeR.of rfl trivial (by simp only [WS, JA, JB, wI64, wU64, Int.reduceAdd, Int.reduceSub, Int.reduceMul, Int.reduceLE, Int.reduceLT, Int.reduceNeg, Int.reduceToNat, Int.cast_ofNat_Int, sx0, sx1, sx2, sx3, sx4, sx5, sx6, sx7, sy0, sy1, List.filterMap_cons, JC, JD, WT, JE, JF, JG, JH, JI, JJ, JK, WU, JL, JM, JN, JO, WV, JP, JQ, WW, JR, JS, JT, JU, JV, JW, JX, JY, JZ, WA, WB, WC, WD, WE, WF, WG, WH, WI, WJ, WK, WL, WM, WN, true_and, and_true, reduceCtorEq, ↓reduceIte, ↓bifT, ↓bifF, ↓gifT, ↓gifF, eq_self, WO, WP, WQ, Nat.reduceLT, Nat.reduceLeDiff, Nat.reduceAdd, Nat.reduceSub, Nat.reduceMul, Nat.reduceMod, WR, Nat.reduceBEq, Int.reduceBEq, Int.reduceBNe, BEq.rfl, List.getD_cons_zero, List.getD_cons_succ, or_false, false_or, or_self, or_true, true_or, decide_true]) (by decide) rfl rfl rfl); rotate_left; (focus rfl))
    rfl
end Go.Proofs.YtbdacbcpniegiaaDoor
namespace Go.Proofs.YtbdacbcpniegiaaDoor
open Go Go.RowKit Go.Proofs Go.Sx
set_option maxHeartbeats 4000000
set_option maxRecDepth 100000
set_option linter.unusedSimpArgs false
set_option linter.unusedVariables false
theorem new_ctr : Ctr Tryd.prog [] 27 [] [] (fun os v => os = [.cells [.row 1] 148, mrow []] ∧ v = .one (.c (.loc 0 0))) := by
  refine Ctr.nilCell 62 5 ?_
  intro X0 hP0 hG0 N0 hN0
  refine CallVC.inline (f := 27) (by rw [hP0]; exact Tryd.func27) rfl Tryd.ntmps27 rfl (by simp) ?_
  intro X K hU hnt hbl hK
  have hP : X.P = Tryd.prog := by rw [hU.P, hP0]
  have hG := hG0.under hU
  have hT : fieldsOf X.P 148 = some [(0, 1)] ∧ zeroCells X.P 148 = some [(Value.slice none 0 0)] := by rw [hP]; exact ⟨Ty.fs148, Ty.ze148⟩
  simp only [WS, JA, JB, wI64, wU64, Int.reduceAdd, Int.reduceSub, Int.reduceMul, Int.reduceLE, Int.reduceLT, Int.reduceNeg, Int.reduceToNat, Int.cast_ofNat_Int, sx0, sx1, sx2, sx3, sx4, sx5, sx6, sx7, sy0, sy1, List.filterMap_cons, JC, JD, WT, JE, JF, JG, JH, JI, JJ, JK, WU, JL, JM, JN, JO, WV, JP, JQ, WW, JR, JS, JT, JU, JV, JW, JX, JY, JZ, WA, WB, WC, WD, WE, WF, WG, WH, WI, WJ, WK, WL, WM, WN, true_and, and_true, reduceCtorEq, ↓reduceIte, ↓bifT, ↓bifF, ↓gifT, ↓gifF, eq_self, WO, WP, WQ, Nat.reduceLT, Nat.reduceLeDiff, Nat.reduceAdd, Nat.reduceSub, Nat.reduceMul, Nat.reduceMod, WR, Nat.reduceBEq, Int.reduceBEq, Int.reduceBNe, BEq.rfl] at hbl ⊢
  repeat' (first
    | (refine SX.seqK ?_; intro N hN)
    | ((first | (refine SX.ops ?_)); simp only [WS, JA, JB, wI64, wU64, Int.reduceAdd, Int.reduceSub, Int.reduceMul, Int.reduceLE, Int.reduceLT, Int.reduceNeg, Int.reduceToNat, Int.cast_ofNat_Int, sx0, sx1, sx2, sx3, sx4, sx5, sx6, sx7, sy0, sy1, List.filterMap_cons, JC, JD, WT, JE, JF, JG, JH, JI, JJ, JK, WU, JL, JM, JN, JO, WV, JP, JQ, WW, JR, JS, JT, JU, JV, JW, JX, JY, JZ, WA, WB, WC, WD, WE, WF, WG, WH, WI, WJ, WK, WL, WM, WN, true_and, and_true, reduceCtorEq, ↓reduceIte, ↓bifT, ↓bifF, ↓gifT, ↓gifF, eq_self, WO, WP, WQ, Nat.reduceLT, Nat.reduceLeDiff, Nat.reduceAdd, Nat.reduceSub, Nat.reduceMul, Nat.reduceMod, WR, Nat.reduceBEq, Int.reduceBEq, Int.reduceBNe, BEq.rfl, hnt, hT])
    | ((first | refine SX.skip ?_ | refine SX.exit ?_ | refine SX.label ?_); try simp only [WS, JA, JB, wI64, wU64, Int.reduceAdd, Int.reduceSub, Int.reduceMul, Int.reduceLE, Int.reduceLT, Int.reduceNeg, Int.reduceToNat, Int.cast_ofNat_Int, sx0, sx1, sx2, sx3, sx4, sx5, sx6, sx7, sy0, sy1, List.filterMap_cons, JC, JD, WT, JE, JF, JG, JH, JI, JJ, JK, WU, JL, JM, JN, JO, WV, JP, JQ, WW, JR, JS, JT, JU, JV, JW, JX, JY, JZ, WA, WB, WC, WD, WE, WF, WG, WH, WI, WJ, WK, WL, WM, WN, true_and, and_true, reduceCtorEq, ↓reduceIte, ↓bifT, ↓bifF, ↓gifT, ↓gifF, eq_self, WO, WP, WQ, Nat.reduceLT, Nat.reduceLeDiff, Nat.reduceAdd, Nat.reduceSub, Nat.reduceMul, Nat.reduceMod, WR, Nat.reduceBEq, Int.reduceBEq, Int.reduceBNe, BEq.rfl])
    | (refine SX.cond rfl (fun hb => ?_) (fun hb => ?_) <;> ((first | cases hb | (simp only [decide_eq_true_eq, decide_eq_false_iff_not, beq_iff_eq, beq_eq_false_iff_ne, bne_iff_ne, Bool.and_eq_true, Bool.or_eq_true, Bool.not_eq_true', Bool.not_eq_false', Bool.and_eq_false_iff, Bool.or_eq_false_iff, Int.not_lt, Int.not_le] at hb) | skip) <;> (first | (exfalso; omega) | skip)))
    | (refine SX.ret ?_; try simp only [WS, JA, JB, wI64, wU64, Int.reduceAdd, Int.reduceSub, Int.reduceMul, Int.reduceLE, Int.reduceLT, Int.reduceNeg, Int.reduceToNat, Int.cast_ofNat_Int, sx0, sx1, sx2, sx3, sx4, sx5, sx6, sx7, sy0, sy1, List.filterMap_cons, JC, JD, WT, JE, JF, JG, JH, JI, JJ, JK, WU, JL, JM, JN, JO, WV, JP, JQ, WW, JR, JS, JT, JU, JV, JW, JX, JY, JZ, WA, WB, WC, WD, WE, WF, WG, WH, WI, WJ, WK, WL, WM, WN, true_and, and_true, reduceCtorEq, ↓reduceIte, ↓bifT, ↓bifF, ↓gifT, ↓gifF, eq_self, WO, WP, WQ, Nat.reduceLT, Nat.reduceLeDiff, Nat.reduceAdd, Nat.reduceSub, Nat.reduceMul, Nat.reduceMod, WR, Nat.reduceBEq, Int.reduceBEq, Int.reduceBNe, BEq.rfl])
    | (refine hN _ ?_; clear hN N)
    | ((first | refine hK _ _ (FinI.ret3 ?_) | refine hK _ _ (FinI.nrm3 ?_)); simp only [WS, JA, JB, wI64, wU64, Int.reduceAdd, Int.reduceSub, Int.reduceMul, Int.reduceLE, Int.reduceLT, Int.reduceNeg, Int.reduceToNat, Int.cast_ofNat_Int, sx0, sx1, sx2, sx3, sx4, sx5, sx6, sx7, sy0, sy1, List.filterMap_cons, JC, JD, WT, JE, JF, JG, JH, JI, JJ, JK, WU, JL, JM, JN, JO, WV, JP, JQ, WW, JR, JS, JT, JU, JV, JW, JX, JY, JZ, WA, WB, WC, WD, WE, WF, WG, WH, WI, WJ, WK, WL, WM, WN, true_and, and_true, reduceCtorEq, ↓reduceIte, ↓bifT, ↓bifF, ↓gifT, ↓gifF, eq_self, WO, WP, WQ, Nat.reduceLT, Nat.reduceLeDiff, Nat.reduceAdd, Nat.reduceSub, Nat.reduceMul, Nat.reduceMod, WR, Nat.reduceBEq, Int.reduceBEq, Int.reduceBNe, BEq.rfl, finP_s, hnt, hT]; refine Done.out ?_)
    | (clear hN N; first | (refine hN _ ?_; clear hN N) | (clear hN N; first | (refine hN _ ?_; clear hN N) | (clear hN N; first | (refine hN _ ?_; clear hN N) | (clear hN N; first | (refine hN _ ?_; clear hN N) | (clear hN N; first | (refine hN _ ?_; clear hN N) | (refine hN _ ?_; clear hN N))))))
    | (refine bif2.mk (fun hb => ?_) (fun hb => ?_) <;> (try simp only [hb, WS, JA, JB, wI64, wU64, Int.reduceAdd, Int.reduceSub, Int.reduceMul, Int.reduceLE, Int.reduceLT, Int.reduceNeg, Int.reduceToNat, Int.cast_ofNat_Int, sx0, sx1, sx2, sx3, sx4, sx5, sx6, sx7, sy0, sy1, List.filterMap_cons, JC, JD, WT, JE, JF, JG, JH, JI, JJ, JK, WU, JL, JM, JN, JO, WV, JP, JQ, WW, JR, JS, JT, JU, JV, JW, JX, JY, JZ, WA, WB, WC, WD, WE, WF, WG, WH, WI, WJ, WK, WL, WM, WN, true_and, and_true, reduceCtorEq, ↓reduceIte, ↓bifT, ↓bifF, ↓gifT, ↓gifF, eq_self, WO, WP, WQ, Nat.reduceLT, Nat.reduceLeDiff, Nat.reduceAdd, Nat.reduceSub, Nat.reduceMul, Nat.reduceMod, WR, Nat.reduceBEq, Int.reduceBEq, Int.reduceBNe, BEq.rfl, hnt, hT]) <;> ((first | cases hb | (simp only [decide_eq_true_eq, decide_eq_false_iff_not, beq_iff_eq, beq_eq_false_iff_ne, bne_iff_ne, Bool.and_eq_true, Bool.or_eq_true, Bool.not_eq_true', Bool.not_eq_false', Bool.and_eq_false_iff, Bool.or_eq_false_iff, Int.not_lt, Int.not_le] at hb) | skip) <;> (first | (exfalso; omega) | skip)))
    | (refine SX.block ?_)
    | (refine and_mk ?_ ?_; (focus first | decide | omega | rfl | assumption | (simp only [List.length_append, List.length_cons, List.length_nil, B_size]; omega) | (simp; done)))
    | (refine And.intro ?_ ?_))
  all_goals (try refine Done.mk ?_)
  exact hN0 _ _ ⟨148, rfl, rfl, rfl⟩
end Go.Proofs.YtbdacbcpniegiaaDoor
namespace Go.Proofs.YtbdacbcpniegiaaDoor
open Go Go.RowKit Go.Proofs Go.Sx
set_option maxHeartbeats 4000000
set_option maxRecDepth 100000
set_option linter.unusedSimpArgs false
set_option linter.unusedVariables false
def refM (ms : List Mk) (x : Mk) (d : List UInt8) : List Mk := ms.set (bsN ms x) { ms.getD (bsN ms x) default with st := 3, d := d }
theorem mks_set4 (l : List Mk) (i : Nat) (v : List UInt8) (h : i < l.length) : (mks l).take (i * 5 + 4) ++ [Value.string (B v)] ++ (mks l).drop (i * 5 + 4 + 1) = mks (l.set i { l.getD i default with d := v }) := by
  have hA : ((mks l).take (i * 5)).length = i * 5 := by rw [List.length_take, mks_length]; omega
  have e : mks l = (mks l).take (i * 5) ++ ((l.getD i default).cells ++ (mks l).drop (i * 5 + 5)) := by
    rw [← mks_at l i h, ← List.drop_drop, List.take_append_drop, List.take_append_drop]
  rw [← mks_set l i _ h]
  have e1 : (mks l).take (i * 5 + 4) = (mks l).take (i * 5) ++ (l.getD i default).cells.take 4 := by
    conv => lhs; rw [e]
    rw [List.take_append, hA, List.take_of_length_le (by omega), show i * 5 + 4 - i * 5 = 4 by omega]
    rfl
  rw [e1]
  simp [Mk.cells]
theorem ref_cells (ms : List Mk) (x : Mk) (d : List UInt8) (hlt : bsN ms x < ms.length) :
    ((mks ms).take (bsN ms x * 5 + 3) ++ [Value.int .i64 3] ++ (mks ms).drop (bsN ms x * 5 + 3 + 1)).take (bsN ms x * 5 + 4) ++ [Value.string (B d)] ++
      ((mks ms).take (bsN ms x * 5 + 3) ++ [Value.int .i64 3] ++ (mks ms).drop (bsN ms x * 5 + 3 + 1)).drop (bsN ms x * 5 + 4 + 1) = mks (refM ms x d) := by
  rw [mks_set3 ms (bsN ms x) 3 hlt, mks_set4 _ _ d (by rw [List.length_set]; exact hlt), List.set_set, refM]
  rw [List.getD_eq_getElem?_getD, List.getElem?_set_self hlt]
  rfl
theorem note_refused (ms : List Mk) (hms : ms.length ≤ 1000000) (t : Int) (s : List UInt8) (q : Nat) (d : List UInt8) (hsl : s.length ≤ 4611686018427387904) (hq : q < 18446744073709551616) (h : statusB t s q false d = true) (hs : Sorted2 ms (askM t s q)) (hf : hasM ms (askM t s q) = true) (hp : (ms.getD (bsN ms (askM t s q)) default).st = 1) : Ctr Tryd.prog [] 29 [.cells [.row 1] 148, mrow ms] [.one (.c (.loc 0 0)), .one (.agg [.v (.int .i64 t), .v (.string (B s)), .v (.int .u64 q), .v (.bool false), .v (.string (B d))])]
    (fun os v => os = [.cells [.row 1] 148, mrow (refM ms (askM t s q) d)] ∧ v = vv (.int .i64 0)) := by
  refine Ctr.less ?_
  have hlt : bsN ms (askM t s q) < ms.length := by
    simp only [hasM, Bool.and_eq_true, decide_eq_true_eq] at hf
    exact hf.1
  intro X0 hP0 hG0 N0 hN0
  refine CallVC.inline (f := 29) (by rw [hP0]; exact Tryd.func29) rfl Tryd.ntmps29 rfl (by simp) ?_
  intro X K hU hnt hbl hK
  have hP : X.P = Tryd.prog := by rw [hU.P, hP0]
  have hG := hG0.under hU
  have hT : aggOf X.P 30 = some true ∧ szOf X.P 30 = some 5 ∧ calleeOk X.P 19 = true ∧ fieldOff X.P 30 0 = some 0 ∧ aggOf X.P 26 = some true ∧ szOf X.P 26 = some 2 ∧ fieldOff X.P 30 1 = some 2 ∧ aggOf X.P 22 = some false ∧ szOf X.P 22 = some 1 ∧ calleeOk X.P 89 = true ∧ fieldOff X.P 30 2 = some 3 ∧ aggOf X.P 4 = some false ∧ szOf X.P 4 = some 1 ∧ fieldOff X.P 62 2 = some 3 ∧ aggOf X.P 3 = some false ∧ szOf X.P 3 = some 1 ∧ fieldOff X.P 30 3 = some 4 ∧ aggOf X.P 9 = some false ∧ szOf X.P 9 = some 1 ∧ fieldOff X.P 62 3 = some 4 ∧ fieldOff X.P 148 0 = some 0 ∧ aggOf X.P 59 = some false ∧ szOf X.P 59 = some 1 ∧ X.P.underlying 59 = some (TypeDesc.slice 62) ∧ elemSz X.P 59 = some (62, 5) ∧ fieldOff X.P 62 0 = some 0 ∧ fieldOff X.P 62 1 = some 2 := by rw [hP]; exact ⟨Ty.ag30, Ty.sz30, Ty.co19, Ty.fo30_0, Ty.ag26, Ty.sz26, Ty.fo30_1, Ty.ag22, Ty.sz22, Ty.co89, Ty.fo30_2, Ty.ag4, Ty.sz4, Ty.fo62_2, Ty.ag3, Ty.sz3, Ty.fo30_3, Ty.ag9, Ty.sz9, Ty.fo62_3, Ty.fo148_0, Ty.ag59, Ty.sz59, Tryd.underlying59, Ty.el59, Ty.fo62_0, Ty.fo62_1⟩
  simp only [WS, JA, JB, wI64, wU64, Int.reduceAdd, Int.reduceSub, Int.reduceMul, Int.reduceLE, Int.reduceLT, Int.reduceNeg, Int.reduceToNat, Int.cast_ofNat_Int, sx0, sx1, sx2, sx3, sx4, sx5, sx6, sx7, sy0, sy1, List.filterMap_cons, JC, JD, WT, JE, JF, JG, JH, JI, JJ, JK, WU, JL, JM, JN, JO, WV, JP, JQ, WW, JR, JS, JT, JU, JV, JW, JX, JY, JZ, WA, WB, WC, WD, WE, WF, WG, WH, WI, WJ, WK, WL, WM, WN, true_and, and_true, reduceCtorEq, ↓reduceIte, ↓bifT, ↓bifF, ↓gifT, ↓gifF, eq_self, WO, WP, WQ, Nat.reduceLT, Nat.reduceLeDiff, Nat.reduceAdd, Nat.reduceSub, Nat.reduceMul, Nat.reduceMod, WR, Nat.reduceBEq, Int.reduceBEq, Int.reduceBNe, BEq.rfl] at hbl ⊢
  repeat' (first
    | (refine SX.seqK ?_; intro N hN)
    | ((first | (refine SX.ops ?_) | (refine SX.planT (id := 9) [.f 0, .f 1, .f 2, .f 4, .f 5, .b 3 6, .s 7, .s 8, .s 9] ?_ ?_ ?_; (focus first | (rw [hP]; kernel_rfl) | (rw [hU1P, hP]; kernel_rfl)); (focus kernel_rfl)) | (refine SX.planT (id := 15) [.q [(0, [10]), (1, [61]), (2, [62]), (3, [63]), (4, [3]), (5, [65]), (6, [64, 66]), (7, [67]), (8, [10, 68]), (9, [69, 68]), (10, [70, 68]), (11, [71, 68]), (12, [3, 68]), (13, [73, 68]), (14, [72, 74, 68]), (15, [68, 75]), (16, [76]), (17, [10, 77]), (18, [78, 77]), (19, [79, 77]), (20, [80, 77]), (21, [81, 77]), (22, [77, 82])] none] ?_ ?_ ?_; (focus first | (rw [hP]; kernel_rfl) | (rw [hU1P, hP]; kernel_rfl)); (focus kernel_rfl))); simp only [WS, JA, JB, wI64, wU64, Int.reduceAdd, Int.reduceSub, Int.reduceMul, Int.reduceLE, Int.reduceLT, Int.reduceNeg, Int.reduceToNat, Int.cast_ofNat_Int, sx0, sx1, sx2, sx3, sx4, sx5, sx6, sx7, sy0, sy1, List.filterMap_cons, JC, JD, WT, JE, JF, JG, JH, JI, JJ, JK, WU, JL, JM, JN, JO, WV, JP, JQ, WW, JR, JS, JT, JU, JV, JW, JX, JY, JZ, WA, WB, WC, WD, WE, WF, WG, WH, WI, WJ, WK, WL, WM, WN, true_and, and_true, reduceCtorEq, ↓reduceIte, ↓bifT, ↓bifF, ↓gifT, ↓gifF, eq_self, WO, WP, WQ, Nat.reduceLT, Nat.reduceLeDiff, Nat.reduceAdd, Nat.reduceSub, Nat.reduceMul, Nat.reduceMod, WR, Nat.reduceBEq, Int.reduceBEq, Int.reduceBNe, BEq.rfl, hnt, hT, h, hp])
    | ((first | refine SX.skip ?_ | refine SX.exit ?_ | refine SX.label ?_); try simp only [WS, JA, JB, wI64, wU64, Int.reduceAdd, Int.reduceSub, Int.reduceMul, Int.reduceLE, Int.reduceLT, Int.reduceNeg, Int.reduceToNat, Int.cast_ofNat_Int, sx0, sx1, sx2, sx3, sx4, sx5, sx6, sx7, sy0, sy1, List.filterMap_cons, JC, JD, WT, JE, JF, JG, JH, JI, JJ, JK, WU, JL, JM, JN, JO, WV, JP, JQ, WW, JR, JS, JT, JU, JV, JW, JX, JY, JZ, WA, WB, WC, WD, WE, WF, WG, WH, WI, WJ, WK, WL, WM, WN, true_and, and_true, reduceCtorEq, ↓reduceIte, ↓bifT, ↓bifF, ↓gifT, ↓gifF, eq_self, WO, WP, WQ, Nat.reduceLT, Nat.reduceLeDiff, Nat.reduceAdd, Nat.reduceSub, Nat.reduceMul, Nat.reduceMod, WR, Nat.reduceBEq, Int.reduceBEq, Int.reduceBNe, BEq.rfl])
    | (refine SX.cond rfl (fun hb => ?_) (fun hb => ?_) <;> ((first | cases hb | (simp only [decide_eq_true_eq, decide_eq_false_iff_not, beq_iff_eq, beq_eq_false_iff_ne, bne_iff_ne, Bool.and_eq_true, Bool.or_eq_true, Bool.not_eq_true', Bool.not_eq_false', Bool.and_eq_false_iff, Bool.or_eq_false_iff, Int.not_lt, Int.not_le] at hb) | skip) <;> (first | (exfalso; omega) | skip)))
    | (refine SX.ret ?_; try simp only [WS, JA, JB, wI64, wU64, Int.reduceAdd, Int.reduceSub, Int.reduceMul, Int.reduceLE, Int.reduceLT, Int.reduceNeg, Int.reduceToNat, Int.cast_ofNat_Int, sx0, sx1, sx2, sx3, sx4, sx5, sx6, sx7, sy0, sy1, List.filterMap_cons, JC, JD, WT, JE, JF, JG, JH, JI, JJ, JK, WU, JL, JM, JN, JO, WV, JP, JQ, WW, JR, JS, JT, JU, JV, JW, JX, JY, JZ, WA, WB, WC, WD, WE, WF, WG, WH, WI, WJ, WK, WL, WM, WN, true_and, and_true, reduceCtorEq, ↓reduceIte, ↓bifT, ↓bifF, ↓gifT, ↓gifF, eq_self, WO, WP, WQ, Nat.reduceLT, Nat.reduceLeDiff, Nat.reduceAdd, Nat.reduceSub, Nat.reduceMul, Nat.reduceMod, WR, Nat.reduceBEq, Int.reduceBEq, Int.reduceBNe, BEq.rfl])
    | (refine hN _ ?_; clear hN N)
    | ((first | refine hK _ _ (FinI.ret3 ?_) | refine hK _ _ (FinI.nrm3 ?_)); simp only [WS, JA, JB, wI64, wU64, Int.reduceAdd, Int.reduceSub, Int.reduceMul, Int.reduceLE, Int.reduceLT, Int.reduceNeg, Int.reduceToNat, Int.cast_ofNat_Int, sx0, sx1, sx2, sx3, sx4, sx5, sx6, sx7, sy0, sy1, List.filterMap_cons, JC, JD, WT, JE, JF, JG, JH, JI, JJ, JK, WU, JL, JM, JN, JO, WV, JP, JQ, WW, JR, JS, JT, JU, JV, JW, JX, JY, JZ, WA, WB, WC, WD, WE, WF, WG, WH, WI, WJ, WK, WL, WM, WN, true_and, and_true, reduceCtorEq, ↓reduceIte, ↓bifT, ↓bifF, ↓gifT, ↓gifF, eq_self, WO, WP, WQ, Nat.reduceLT, Nat.reduceLeDiff, Nat.reduceAdd, Nat.reduceSub, Nat.reduceMul, Nat.reduceMod, WR, Nat.reduceBEq, Int.reduceBEq, Int.reduceBNe, BEq.rfl, finP_s, hnt, hT, h, hp]; refine Done.out ?_)
    | (clear hN N; first | (refine hN _ ?_; clear hN N) | (clear hN N; first | (refine hN _ ?_; clear hN N) | (clear hN N; first | (refine hN _ ?_; clear hN N) | (clear hN N; first | (refine hN _ ?_; clear hN N) | (clear hN N; first | (refine hN _ ?_; clear hN N) | (refine hN _ ?_; clear hN N))))))
    | (refine bif2.mk (fun hb => ?_) (fun hb => ?_) <;> (try simp only [hb, WS, JA, JB, wI64, wU64, Int.reduceAdd, Int.reduceSub, Int.reduceMul, Int.reduceLE, Int.reduceLT, Int.reduceNeg, Int.reduceToNat, Int.cast_ofNat_Int, sx0, sx1, sx2, sx3, sx4, sx5, sx6, sx7, sy0, sy1, List.filterMap_cons, JC, JD, WT, JE, JF, JG, JH, JI, JJ, JK, WU, JL, JM, JN, JO, WV, JP, JQ, WW, JR, JS, JT, JU, JV, JW, JX, JY, JZ, WA, WB, WC, WD, WE, WF, WG, WH, WI, WJ, WK, WL, WM, WN, true_and, and_true, reduceCtorEq, ↓reduceIte, ↓bifT, ↓bifF, ↓gifT, ↓gifF, eq_self, WO, WP, WQ, Nat.reduceLT, Nat.reduceLeDiff, Nat.reduceAdd, Nat.reduceSub, Nat.reduceMul, Nat.reduceMod, WR, Nat.reduceBEq, Int.reduceBEq, Int.reduceBNe, BEq.rfl, hnt, hT, h, hp]) <;> ((first | cases hb | (simp only [decide_eq_true_eq, decide_eq_false_iff_not, beq_iff_eq, beq_eq_false_iff_ne, bne_iff_ne, Bool.and_eq_true, Bool.or_eq_true, Bool.not_eq_true', Bool.not_eq_false', Bool.and_eq_false_iff, Bool.or_eq_false_iff, Int.not_lt, Int.not_le] at hb) | skip) <;> (first | (exfalso; omega) | skip)))
    | ((first | (refine CallVC.pt (l := [_, _]) hP (putStatus_any t s q false d hsl hq) rfl ?_) | (refine CallQ.pt (l := [_, _]) hP (putStatus_any t s q false d hsl hq) rfl ?_) | (refine Ctr.use (find_yes ms hms t s q hs hf) hP ?_ [0,1] ?_ rfl rfl ?_; (focus (intro p hp; cases hp)); (focus (refine LeR.of rfl trivial ?_ ?_ ?_ ?_ ?_ <;> first | decide | (simp only [WS, JA, JB, wI64, wU64, Int.reduceAdd, Int.reduceSub, Int.reduceMul, Int.reduceLE, Int.reduceLT, Int.reduceNeg, Int.reduceToNat, Int.cast_ofNat_Int, sx0, sx1, sx2, sx3, sx4, sx5, sx6, sx7, sy0, sy1, List.filterMap_cons, JC, JD, WT, JE, JF, JG, JH, JI, JJ, JK, WU, JL, JM, JN, JO, WV, JP, JQ, WW, JR, JS, JT, JU, JV, JW, JX, JY, JZ, WA, WB, WC, WD, WE, WF, WG, WH, WI, WJ, WK, WL, WM, WN, true_and, and_true, reduceCtorEq, ↓reduceIte, ↓bifT, ↓bifF, ↓gifT, ↓gifF, eq_self, WO, WP, WQ, Nat.reduceLT, Nat.reduceLeDiff, Nat.reduceAdd, Nat.reduceSub, Nat.reduceMul, Nat.reduceMod, WR, Nat.reduceBEq, Int.reduceBEq, Int.reduceBNe, BEq.rfl, List.getD_cons_zero, List.getD_cons_succ, or_false, false_or, or_self, or_true, true_or, decide_true]; done))); intro os' s hR; obtain ⟨rfl, rfl⟩ := hR)); simp only [WS, JA, JB, wI64, wU64, Int.reduceAdd, Int.reduceSub, Int.reduceMul, Int.reduceLE, Int.reduceLT, Int.reduceNeg, Int.reduceToNat, Int.cast_ofNat_Int, sx0, sx1, sx2, sx3, sx4, sx5, sx6, sx7, sy0, sy1, List.filterMap_cons, JC, JD, WT, JE, JF, JG, JH, JI, JJ, JK, WU, JL, JM, JN, JO, WV, JP, JQ, WW, JR, JS, JT, JU, JV, JW, JX, JY, JZ, WA, WB, WC, WD, WE, WF, WG, WH, WI, WJ, WK, WL, WM, WN, true_and, and_true, reduceCtorEq, ↓reduceIte, ↓bifT, ↓bifF, ↓gifT, ↓gifF, eq_self, WO, WP, WQ, Nat.reduceLT, Nat.reduceLeDiff, Nat.reduceAdd, Nat.reduceSub, Nat.reduceMul, Nat.reduceMod, WR, Nat.reduceBEq, Int.reduceBEq, Int.reduceBNe, BEq.rfl, hnt, hT, h, hp])
    | (refine ⟨_, mks_st ms _ hlt, ?_⟩)
    | (refine ⟨by simp only [mks_length, List.length_append, List.length_take, List.length_drop, List.length_cons, List.length_nil]; omega, ?_⟩)
    | (refine SX.block ?_)
    | (refine and_mk ?_ ?_; (focus first | decide | omega | rfl | assumption | (simp only [List.length_append, List.length_cons, List.length_nil, B_size]; omega) | (simp; done)))
    | (refine And.intro ?_ ?_))
  all_goals (try refine Done.mk ?_)
  all_goals
    rw [ref_cells ms _ d hlt]
    have e : LO.row 62 5 ms.length (mks (refM ms (askM t s q) d)) = mrow (refM ms (askM t s q) d) := by simp [mrow, refM]
    rw [e]
    (refine hN0 _ _ ⟨[0, 1], _, _, ?_, ?_, ?_, ⟨rfl, rfl⟩⟩; (focus exact LeR.of rfl trivial (by simp only [WS, JA, JB, wI64, wU64, Int.reduceAdd, Int.reduceSub, Int.reduceMul, Int.reduceLE, Int.reduceLT, Int.reduceNeg, Int.reduceToNat, Int.cast_ofNat_Int, sx0, sx1, sx2, sx3, sx4, sx5, sx6, sx7, sy0, sy1, List.filterMap_cons, JC, JD, WT, JE, JF, JG, JH, JI, JJ, JK, WU, JL, JM, JN, JO, WV, JP, JQ, WW, JR, JS, JT, JU, JV, JW, JX, JY, JZ, WA, WB, WC, WD, WE, WF, WG, WH, WI, WJ, WK, WL, WM, WN, true_and, and_true, reduceCtorEq, ↓reduceIte, ↓bifT, ↓bifF, ↓gifT, ↓gifF, eq_self, WO, WP, WQ, Nat.reduceLT, Nat.reduceLeDiff, Nat.reduceAdd, Nat.reduceSub, Nat.reduceMul, Nat.reduceMod, WR, Nat.reduceBEq, Int.reduceBEq, Int.reduceBNe, BEq.rfl, List.getD_cons_zero, List.getD_cons_succ, or_false, false_or, or_self, or_true, true_or, decide_true]) (by decide) rfl rfl rfl); rotate_left; (focus rfl))
    rfl
end Go.Proofs.YtbdacbcpniegiaaDoor
namespace Go.Proofs.YtbdacbcpniegiaaDoor
open Go Go.RowKit Go.Proofs Go.Sx
set_option maxHeartbeats 4000000
set_option maxRecDepth 100000
set_option linter.unusedSimpArgs false
set_option linter.unusedVariables false
def beginL (ms : List Mk) (t : Int) (s : List UInt8) (q : Int) : List Mk × Int :=
  if badB t s q then (ms, 1) else if decide (0 ≤ idxI (isAt t s q) ms) then (ms, 6) else if ms.length < 1024 then (insM ms (newM t s q), 0) else (fullM ms (newM t s q), 0)
def noteL (ms : List Mk) (t : Int) (s : List UInt8) (q : Nat) (ok : Bool) (d : List UInt8) : List Mk × Int :=
  if !statusB t s q ok d then (ms, 1) else if !hasM ms (askM t s q) then (ms, 5) else if ok then (ms.map (tkM t s q), 0)
  else if (ms.getD (bsN ms (askM t s q)) default).st = 1 then (refM ms (askM t s q) d, 0) else (ms, 0)
def stateL (ms : List Mk) (t : Int) (s : List UInt8) (q : Int) : Int × List UInt8 :=
  if hasM ms (askM t s q) then ((ms.getD (bsN ms (askM t s q)) default).st, (ms.getD (bsN ms (askM t s q)) default).d) else (0, [])
def eraseL (ms : List Mk) : List Mk := ms.filter fun m => !isPend m
end Go.Proofs.YtbdacbcpniegiaaDoor
namespace Go.Proofs.YtbdacbcpniegiaaDoor
open Go Go.RowKit Go.Proofs Go.Sx
set_option linter.unusedSimpArgs false
set_option linter.unusedVariables false
theorem cmpS_lt {a b : List UInt8} : cmpS a b < 0 ↔ Op.bytesLess a b = true := by
  unfold cmpS
  split
  · rename_i h; simp [h]
  · rename_i h
    split
    · simp [h]
    · simp [h]
theorem cmpS_gt {a b : List UInt8} : 0 < cmpS a b ↔ Op.bytesLess b a = true := by
  unfold cmpS
  split
  · rename_i h; simp [bytesLess_asymm h]
  · split
    · rename_i h; simp [h]
    · rename_i h; simp [h]
theorem cmpM_lt {a b : Mk} : cmpM a b < 0 ↔ a.t < b.t ∨ (a.t = b.t ∧ (Op.bytesLess a.s b.s = true ∨ (a.s = b.s ∧ a.q < b.q))) := by
  unfold cmpM cmpMark cmpKey
  by_cases h1 : cmpI a.t b.t = 0
  · by_cases h2 : cmpS a.s b.s = 0
    · have e1 := cmpI_eq.1 h1
      have e2 := cmpS_eq.1 h2
      simp only [h1, h2, ne_eq, not_true_eq_false, if_false, cmpI_lt]
      rw [e1, e2, bytesLess_irrefl]
      simp
    · have e1 := cmpI_eq.1 h1
      have n2 : a.s ≠ b.s := fun e => h2 (cmpS_eq.2 e)
      simp only [h1, ne_eq, not_true_eq_false, if_false, h2, not_false_eq_true, if_true, cmpS_lt]
      rw [e1]
      simp [n2]
  · have n1 : a.t ≠ b.t := fun e => h1 (cmpI_eq.2 e)
    simp only [ne_eq, h1, not_false_eq_true, if_true, cmpI_lt]
    simp [n1]
theorem cmpM_eq {a b : Mk} : cmpM a b = 0 ↔ a.t = b.t ∧ a.s = b.s ∧ a.q = b.q := by
  unfold cmpM cmpMark cmpKey
  by_cases h1 : cmpI a.t b.t = 0
  · by_cases h2 : cmpS a.s b.s = 0
    · simp only [h1, h2, ne_eq, not_true_eq_false, if_false, cmpI_eq]
      simp [cmpI_eq.1 h1, cmpS_eq.1 h2]
    · have n2 : a.s ≠ b.s := fun e => h2 (cmpS_eq.2 e)
      simp only [h1, ne_eq, not_true_eq_false, if_false, h2, not_false_eq_true, if_true]
      simp [n2]
  · have n1 : a.t ≠ b.t := fun e => h1 (cmpI_eq.2 e)
    simp only [ne_eq, h1, not_false_eq_true, if_true]
    simp [n1]
theorem cmpM_irrefl (a : Mk) : ¬ cmpM a a < 0 := by rw [cmpM_eq.2 ⟨rfl, rfl, rfl⟩]; decide
theorem cmpM_trans {a b c : Mk} (h1 : cmpM a b < 0) (h2 : cmpM b c < 0) : cmpM a c < 0 := by
  rw [cmpM_lt] at *
  rcases h1 with h1 | ⟨e1, h1⟩
  · rcases h2 with h2 | ⟨e2, h2⟩
    · exact .inl (by omega)
    · exact .inl (by omega)
  · rcases h2 with h2 | ⟨e2, h2⟩
    · exact .inl (by omega)
    · refine .inr ⟨by omega, ?_⟩
      rcases h1 with h1 | ⟨s1, h1⟩
      · rcases h2 with h2 | ⟨s2, h2⟩
        · exact .inl (bytesLess_trans h1 h2)
        · exact .inl (s2 ▸ h1)
      · rcases h2 with h2 | ⟨s2, h2⟩
        · exact .inl (s1 ▸ h2)
        · exact .inr ⟨s1.trans s2, by omega⟩
theorem cmpM_tri {a b : Mk} (h1 : ¬ cmpM a b < 0) (h2 : cmpM a b ≠ 0) : cmpM b a < 0 := by
  rw [cmpM_lt] at h1 ⊢
  rw [Ne, cmpM_eq] at h2
  by_cases ht : a.t = b.t
  · refine .inr ⟨ht.symm, ?_⟩
    by_cases hs : a.s = b.s
    · refine .inr ⟨hs.symm, ?_⟩
      have n1 : ¬ a.q < b.q := fun e => h1 (.inr ⟨ht, .inr ⟨hs, e⟩⟩)
      have n2 : a.q ≠ b.q := fun e => h2 ⟨ht, hs, e⟩
      omega
    · refine .inl ?_
      cases h : Op.bytesLess b.s a.s with
      | true => rfl
      | false =>
        cases h' : Op.bytesLess a.s b.s with
        | true => exact absurd (.inr ⟨ht, .inl h'⟩) h1
        | false => exact absurd (bytesLess_total h' h) hs
  · have n1 : ¬ a.t < b.t := fun e => h1 (.inl e)
    exact .inl (by omega)
theorem cmpM_congr {a b c e : Mk} (h1 : a.t = c.t ∧ a.s = c.s ∧ a.q = c.q) (h2 : b.t = e.t ∧ b.s = e.s ∧ b.q = e.q) : cmpM a b = cmpM c e := by
  simp only [cmpM, h1.1, h1.2.1, h1.2.2, h2.1, h2.2.1, h2.2.2]
def Srt (ms : List Mk) : Prop := ms.Pairwise fun a b => cmpM a b < 0
theorem Srt.sorted2 {ms : List Mk} (h : Srt ms) (m : Mk) : Sorted2 ms m := fun a b hab hb hm => by
  rcases Nat.lt_or_eq_of_le hab with hlt | rfl
  · rw [List.getD_eq_getElem?_getD, List.getElem?_eq_getElem hb] at hm
    rw [List.getD_eq_getElem?_getD, List.getElem?_eq_getElem (by omega)]
    exact cmpM_trans (List.pairwise_iff_getElem.1 h a b (by omega) hb hlt) hm
  · exact hm
theorem takeWhile_take {α : Type} (p : α → Bool) : ∀ l : List α, l.take (l.takeWhile p).length = l.takeWhile p
  | [] => rfl
  | a :: l => by
    cases h : p a with
    | true => simp [List.takeWhile_cons, h, takeWhile_take p l]
    | false => simp [List.takeWhile_cons, h]
theorem takeWhile_drop {α : Type} (p : α → Bool) : ∀ l : List α, l.drop (l.takeWhile p).length = l.dropWhile p
  | [] => rfl
  | a :: l => by
    cases h : p a with
    | true => simp [List.takeWhile_cons, List.dropWhile_cons, h, takeWhile_drop p l]
    | false => simp [List.takeWhile_cons, List.dropWhile_cons, h]
theorem bs_take (ms : List Mk) (m : Mk) : ∀ x ∈ ms.take (bsN ms m), cmpM x m < 0 := fun x hx => by
  rw [bsN, takeWhile_take] at hx
  have := List.all_eq_true.1 (List.all_takeWhile (p := fun x => decide (cmpM x m < 0)) (l := ms)) x hx
  simpa using this
theorem bs_drop {ms : List Mk} (h : Srt ms) (m : Mk) : ∀ x ∈ ms.drop (bsN ms m), ¬ cmpM x m < 0 := fun x hx hlt => by
  rw [bsN, takeWhile_drop] at hx
  cases hd : ms.dropWhile (fun x => decide (cmpM x m < 0)) with
  | nil => rw [hd] at hx; cases hx
  | cons y l =>
    have hy : ¬ cmpM y m < 0 := by
      have := List.head?_dropWhile_not (fun x => decide (cmpM x m < 0)) ms
      rw [hd] at this
      simpa using this
    have hs : (y :: l).Pairwise fun a b => cmpM a b < 0 := hd ▸ (List.Pairwise.sublist (List.dropWhile_sublist _) h)
    rw [hd] at hx
    rcases List.mem_cons.1 hx with rfl | hx
    · exact hy hlt
    · exact hy (cmpM_trans ((List.pairwise_cons.1 hs).1 x hx) hlt)
theorem take_bs_drop (ms : List Mk) (m : Mk) : ms.take (bsN ms m) ++ ms.drop (bsN ms m) = ms := List.take_append_drop _ _
theorem mem_insM {ms : List Mk} {m x : Mk} : x ∈ insM ms m ↔ x = m ∨ x ∈ ms := by
  conv => rhs; rw [← take_bs_drop ms m]
  simp only [insM, List.mem_append, List.mem_cons]
  constructor
  · rintro (h | h | h)
    · exact .inr (.inl h)
    · exact .inl h
    · exact .inr (.inr h)
  · rintro (h | h | h)
    · exact .inr (.inl h)
    · exact .inl h
    · exact .inr (.inr h)
theorem Srt.ins {ms : List Mk} (h : Srt ms) (m : Mk) (hn : ∀ x ∈ ms, cmpM x m ≠ 0) : Srt (insM ms m) := by
  have hd := bs_drop h m
  have ht := bs_take ms m
  have e := take_bs_drop ms m
  have hs : (ms.take (bsN ms m) ++ ms.drop (bsN ms m)).Pairwise fun a b => cmpM a b < 0 := by rw [e]; exact h
  rw [List.pairwise_append] at hs
  have hm : ∀ x ∈ ms.drop (bsN ms m), cmpM m x < 0 := fun x hx => cmpM_tri (hd x hx) (hn x (List.mem_of_mem_drop hx))
  rw [Srt, insM, List.pairwise_append]
  refine ⟨hs.1, List.pairwise_cons.2 ⟨hm, hs.2.1⟩, fun a ha b hb => ?_⟩
  rcases List.mem_cons.1 hb with rfl | hb
  · exact ht a ha
  · exact hs.2.2 a ha b hb
theorem late_iff {ms : List Mk} {t q : Int} {s : List UInt8} : decide (0 ≤ idxI (isAt t s q) ms) = true ↔ ∃ x ∈ ms, x.t = t ∧ x.s = s ∧ q ≤ x.q := by
  unfold idxI
  cases h : ms.findIdx? (isAt t s q) with
  | none =>
    rw [List.findIdx?_eq_none_iff] at h
    simp only [decide_eq_true_eq]
    constructor
    · intro h0; omega
    · rintro ⟨x, hx, h1, h2, h3⟩
      have := h x hx
      simp [isAt, h1, h2, h3] at this
  | some i =>
    rw [List.findIdx?_eq_some_iff_getElem] at h
    obtain ⟨hi, hp, _⟩ := h
    simp only [isAt, Bool.and_eq_true, beq_iff_eq, decide_eq_true_eq] at hp
    constructor
    · intro _; exact ⟨ms[i], List.getElem_mem hi, hp.1.1, hp.1.2, hp.2⟩
    · intro _; simp only [decide_eq_true_eq]; omega
theorem late_ins {ms : List Mk} {t q : Int} {s : List UInt8} (h : decide (0 ≤ idxI (isAt t s q) ms) = false) : ∀ x ∈ ms, cmpM x (newM t s q) ≠ 0 := fun x hx e => by
  rw [cmpM_eq] at e
  have : decide (0 ≤ idxI (isAt t s q) ms) = true := late_iff.2 ⟨x, hx, e.1, e.2.1, by have := e.2.2; simp only [newM] at this; omega⟩
  rw [h] at this; cases this
def kk (t : Int) (s : List UInt8) (q : Int) (x : Mk) : Bool := x.t == t && x.s == s && x.q == q
theorem kk_iff {t : Int} {s : List UInt8} {q : Int} {x : Mk} : kk t s q x = true ↔ x.t = t ∧ x.s = s ∧ x.q = q := by simp [kk, and_assoc]
theorem Srt.uniq {ms : List Mk} (h : Srt ms) {x y : Mk} (hx : x ∈ ms) (hy : y ∈ ms) (e : cmpM x y = 0) : x = y := by
  obtain ⟨i, hi, rfl⟩ := List.mem_iff_getElem.1 hx
  obtain ⟨j, hj, rfl⟩ := List.mem_iff_getElem.1 hy
  have hp := List.pairwise_iff_getElem.1 h
  rcases Nat.lt_trichotomy i j with hij | rfl | hij
  · have := hp i j hi hj hij; omega
  · rfl
  · have h2 := hp j i hj hi hij
    have : cmpM ms[j] ms[i] = 0 := by rw [cmpM_eq] at e ⊢; exact ⟨e.1.symm, e.2.1.symm, e.2.2.symm⟩
    omega
theorem has_spec {ms : List Mk} (h : Srt ms) (t : Int) (s : List UInt8) (q : Int) :
    (hasM ms (askM t s q) = true → bsN ms (askM t s q) < ms.length ∧ ms.find? (kk t s q) = some (ms.getD (bsN ms (askM t s q)) default)) ∧ (hasM ms (askM t s q) = false → ms.find? (kk t s q) = none) := by
  have hd := bs_drop h (askM t s q)
  have ht := bs_take ms (askM t s q)
  have e := take_bs_drop ms (askM t s q)
  have hT : (ms.take (bsN ms (askM t s q))).find? (kk t s q) = none := by
    rw [List.find?_eq_none]
    intro x hx hk
    have h1 := ht x hx
    rw [cmpM_eq.2 (kk_iff.1 hk)] at h1
    omega
  have hf : ms.find? (kk t s q) = (ms.drop (bsN ms (askM t s q))).find? (kk t s q) := by
    conv => lhs; rw [← e]
    rw [List.find?_append, hT]; rfl
  constructor
  · intro hh
    simp only [hasM, Bool.and_eq_true, decide_eq_true_eq] at hh
    obtain ⟨hlt, hh⟩ := hh
    refine ⟨hlt, ?_⟩
    have hg : ms.getD (bsN ms (askM t s q)) default = ms[bsN ms (askM t s q)]'hlt := by rw [List.getD_eq_getElem?_getD, List.getElem?_eq_getElem hlt]; rfl
    have hk : kk t s q (ms[bsN ms (askM t s q)]'hlt) = true := by rw [kk_iff]; rw [hg] at hh; exact cmpM_eq.1 hh
    rw [hf, List.drop_eq_getElem_cons hlt, List.find?_cons_of_pos hk, hg]
  · intro hh
    simp only [hasM] at hh
    rw [hf, List.find?_eq_none]
    intro x hx hk
    have hlt : bsN ms (askM t s q) < ms.length := by
      rcases Nat.lt_or_ge (bsN ms (askM t s q)) ms.length with h1 | h1
      · exact h1
      · rw [List.drop_of_length_le h1] at hx; cases hx
    have hg : ms.getD (bsN ms (askM t s q)) default = ms[bsN ms (askM t s q)]'hlt := by rw [List.getD_eq_getElem?_getD, List.getElem?_eq_getElem hlt]; rfl
    have hne : cmpM (ms[bsN ms (askM t s q)]'hlt) (askM t s q) ≠ 0 := by rw [hg] at hh; simpa [hlt] using hh
    rw [List.drop_eq_getElem_cons hlt] at hx hd
    have h0 : ¬ cmpM (ms[bsN ms (askM t s q)]'hlt) (askM t s q) < 0 := hd _ (List.mem_cons_self ..)
    have h1 := cmpM_tri h0 hne
    rcases List.mem_cons.1 hx with rfl | hx
    · exact hne (cmpM_eq.2 (kk_iff.1 hk))
    · have hs : (ms[bsN ms (askM t s q)]'hlt :: ms.drop (bsN ms (askM t s q) + 1)).Pairwise fun a b => cmpM a b < 0 := by
        rw [← List.drop_eq_getElem_cons hlt]; exact List.Pairwise.sublist (List.drop_sublist _ _) h
      have h2 := cmpM_trans h1 ((List.pairwise_cons.1 hs).1 x hx)
      rw [cmpM_congr (a := askM t s q) (c := x) (b := x) (e := x) (by have := kk_iff.1 hk; exact ⟨this.1.symm, this.2.1.symm, this.2.2.symm⟩) ⟨rfl, rfl, rfl⟩] at h2
      exact cmpM_irrefl _ h2
theorem Srt.map {ms : List Mk} (h : Srt ms) {f : Mk → Mk} (hf : ∀ x, (f x).t = x.t ∧ (f x).s = x.s ∧ (f x).q = x.q) : Srt (ms.map f) := by
  rw [Srt, List.pairwise_map]
  exact h.imp fun {a b} hab => by rw [cmpM_congr (hf a) (hf b)]; exact hab
theorem Srt.filter {ms : List Mk} (h : Srt ms) (p : Mk → Bool) : Srt (ms.filter p) := List.Pairwise.sublist List.filter_sublist h
theorem tkM_key (t : Int) (s : List UInt8) (q : Int) (x : Mk) : (tkM t s q x).t = x.t ∧ (tkM t s q x).s = x.s ∧ (tkM t s q x).q = x.q := by unfold tkM; split <;> simp
def rfM (t : Int) (s : List UInt8) (q : Int) (d : List UInt8) (x : Mk) : Mk := if kk t s q x then { x with st := 3, d := d } else x
theorem rfM_key (t : Int) (s : List UInt8) (q : Int) (d : List UInt8) (x : Mk) : (rfM t s q d x).t = x.t ∧ (rfM t s q d x).s = x.s ∧ (rfM t s q d x).q = x.q := by unfold rfM; split <;> simp
theorem refM_eq {ms : List Mk} (h : Srt ms) {t : Int} {s : List UInt8} {q : Int} (hh : hasM ms (askM t s q) = true) (d : List UInt8) : refM ms (askM t s q) d = ms.map (rfM t s q d) := by
  obtain ⟨hlt, hf⟩ := (has_spec h t s q).1 hh
  have hg : ms.getD (bsN ms (askM t s q)) default = ms[bsN ms (askM t s q)]'hlt := by rw [List.getD_eq_getElem?_getD, List.getElem?_eq_getElem hlt]; rfl
  have hk := List.find?_some hf
  unfold refM
  refine List.ext_getElem (by simp) fun i h1 h2 => ?_
  have hi : i < ms.length := by simpa using h1
  rw [List.getElem_map, List.getElem_set]
  by_cases e : bsN ms (askM t s q) = i
  · subst e
    rw [if_pos rfl, hg, rfM, if_pos (hg ▸ hk)]
  · rw [if_neg e, rfM, if_neg]
    intro hk2
    have := h.uniq (List.getElem_mem hi) (List.getElem_mem hlt) (by
      rw [cmpM_eq]
      have k1 := kk_iff.1 hk2
      have k2 := kk_iff.1 (hg ▸ hk)
      exact ⟨k1.1.trans k2.1.symm, k1.2.1.trans k2.2.1.symm, k1.2.2.trans k2.2.2.symm⟩)
    have hp := List.pairwise_iff_getElem.1 h
    rcases Nat.lt_trichotomy i (bsN ms (askM t s q)) with hij | hij | hij
    · have h3 := hp _ _ hi hlt hij; rw [this] at h3; exact cmpM_irrefl _ h3
    · exact e hij.symm
    · have h3 := hp _ _ hlt hi hij; rw [this] at h3; exact cmpM_irrefl _ h3
theorem minQ_spec (ms : List Mk) : ∀ n, n < ms.length → minQ ms n ∈ ms ∧ ∀ k, k ≤ n → (minQ ms n).q ≤ (ms.getD k default).q
  | 0, h => by
    refine ⟨?_, fun k hk => ?_⟩
    · rw [minQ, List.getD_eq_getElem?_getD, List.getElem?_eq_getElem h]; exact List.getElem_mem h
    · obtain rfl : k = 0 := by omega
      exact Int.le_refl _
  | n + 1, h => by
    obtain ⟨h1, h2⟩ := minQ_spec ms n (by omega)
    rw [minQ]
    split
    · rename_i hb
      rw [cmpI_lt] at hb
      refine ⟨?_, fun k hk => ?_⟩
      · rw [List.getD_eq_getElem?_getD, List.getElem?_eq_getElem h]; exact List.getElem_mem h
      · rcases Nat.lt_or_eq_of_le hk with hk | rfl
        · have := h2 k (by omega); omega
        · exact Int.le_refl _
    · rename_i hb
      rw [cmpI_lt] at hb
      refine ⟨h1, fun k hk => ?_⟩
      rcases Nat.lt_or_eq_of_le hk with hk | rfl
      · exact h2 k (by omega)
      · omega
theorem minQ_le {ms : List Mk} (h : 0 < ms.length) : minQ ms (ms.length - 1) ∈ ms ∧ ∀ x ∈ ms, (minQ ms (ms.length - 1)).q ≤ x.q := by
  obtain ⟨h1, h2⟩ := minQ_spec ms (ms.length - 1) (by omega)
  refine ⟨h1, fun x hx => ?_⟩
  obtain ⟨i, hi, rfl⟩ := List.mem_iff_getElem.1 hx
  have := h2 i (by omega)
  rwa [List.getD_eq_getElem?_getD, List.getElem?_eq_getElem hi] at this
theorem isMk_iff {m x : Mk} : isMk m.t m.s m.q m.st m.d x = true ↔ x = m := by
  cases m; cases x
  simp [isMk, and_assoc]
theorem dropM_mem {ms : List Mk} {m x : Mk} : x ∈ dropM ms m ↔ x ∈ ms ∧ x ≠ m := by
  rw [dropM, List.mem_filter, Bool.not_eq_true', ← Bool.not_eq_true, isMk_iff]
theorem dropM_len {ms : List Mk} (h : Srt ms) {m : Mk} (hm : m ∈ ms) : (dropM ms m).length + 1 = ms.length := by
  induction ms with
  | nil => cases hm
  | cons a l ih =>
    have hp := List.pairwise_cons.1 h
    by_cases e : a = m
    · subst e
      have : l.filter (fun x => !isMk a.t a.s a.q a.st a.d x) = l := by
        rw [List.filter_eq_self]
        intro x hx
        rw [Bool.not_eq_true', ← Bool.not_eq_true, isMk_iff]
        rintro rfl
        exact cmpM_irrefl _ (hp.1 x hx)
      rw [dropM, List.filter_cons_of_neg (by rw [Bool.not_eq_true, Bool.not_eq_false']; exact isMk_iff.2 rfl), this]; rfl
    · have hm' : m ∈ l := by
        rcases List.mem_cons.1 hm with h1 | h1
        · exact absurd h1.symm e
        · exact h1
      have := ih hp.2 hm'
      rw [dropM] at this ⊢
      rw [List.filter_cons_of_pos (by rw [Bool.not_eq_true', ← Bool.not_eq_true, isMk_iff]; exact e)]
      simp only [List.length_cons]; omega
structure Inv (ms : List Mk) : Prop where
  srt : Srt ms
  room : ms.length ≤ 1024
theorem Inv.nil : Inv [] := ⟨List.Pairwise.nil, by decide⟩
theorem Inv.begin {ms : List Mk} (h : Inv ms) (t : Int) (s : List UInt8) (q : Int) : Inv (beginL ms t s q).1 := by
  unfold beginL
  split
  · exact h
  · split
    · exact h
    · rename_i h1 h2
      have hs := h.srt.ins (newM t s q) (late_ins (by simpa using h2))
      split
      · exact ⟨hs, by rw [insM_len]; omega⟩
      · have hl := insM_len ms (newM t s q)
        have hm := (minQ_le (ms := insM ms (newM t s q)) (by omega)).1
        refine ⟨hs.filter _, ?_⟩
        have := dropM_len hs hm
        have := h.room
        show (dropM _ _).length ≤ 1024
        omega
theorem Inv.note {ms : List Mk} (h : Inv ms) (t : Int) (s : List UInt8) (q : Nat) (ok : Bool) (d : List UInt8) : Inv (noteL ms t s q ok d).1 := by
  unfold noteL
  split
  · exact h
  · split
    · exact h
    · rename_i h1 h2
      split
      · exact ⟨h.srt.map (tkM_key t s q), by simpa using h.room⟩
      · split
        · rw [refM_eq h.srt (by simpa using h2)]
          exact ⟨h.srt.map (rfM_key t s q d), by simpa using h.room⟩
        · exact h
theorem Inv.erase {ms : List Mk} (h : Inv ms) : Inv (eraseL ms) := ⟨h.srt.filter _, Nat.le_trans (List.length_filter_le _ _) h.room⟩
theorem stateL_eq {ms : List Mk} (h : Inv ms) (t : Int) (s : List UInt8) (q : Int) : stateL ms t s q = match ms.find? (kk t s q) with | some x => (x.st, x.d) | none => (0, []) := by
  unfold stateL
  cases hh : hasM ms (askM t s q) with
  | true => rw [((has_spec h.srt t s q).1 hh).2]; rfl
  | false => rw [(has_spec h.srt t s q).2 hh]; rfl
theorem noteL_eq {ms : List Mk} (h : Inv ms) (t : Int) (s : List UInt8) (q : Nat) (ok : Bool) (d : List UInt8) : noteL ms t s q ok d =
    if !statusB t s q ok d then (ms, (1 : Int)) else match ms.find? (kk t s q) with
    | none => (ms, 5)
    | some x => if ok then (ms.map (tkM t s q), 0) else if x.st = 1 then (ms.map (rfM t s q d), 0) else (ms, 0) := by
  unfold noteL
  split
  · rfl
  · cases hh : hasM ms (askM t s q) with
    | true =>
      rw [((has_spec h.srt t s q).1 hh).2, refM_eq h.srt hh]
      rfl
    | false => rw [(has_spec h.srt t s q).2 hh]; rfl
end Go.Proofs.YtbdacbcpniegiaaDoor
namespace Go.Proofs.YtbdacbcpniegiaaDoor
open Go Go.RowKit Go.Proofs Go.Sx
set_option maxHeartbeats 4000000
set_option maxRecDepth 100000
set_option linter.unusedSimpArgs false
set_option linter.unusedVariables false
theorem begin_any (ms : List Mk) (hi : Inv ms) (t q : Int) (s : List UInt8) (hsl : s.length ≤ 4611686018427387904) : Ctr Tryd.prog [] 28 [.cells [.row 1] 148, mrow ms] [.one (.c (.loc 0 0)), .one (.agg [.v (.int .i64 t), .v (.string (B s))]), vv (.int .u64 q)]
    (fun os v => os = [.cells [.row 2] 148, .gone, mrow (beginL ms t s q).1] ∧ v = vv (.int .i64 (beginL ms t s q).2)) := by
  have hr := hi.room
  refine Ctr.moveCell ?_
  cases hb : badB t s q with
  | true =>
    have e : beginL ms t s q = (ms, 1) := by simp [beginL, hb]
    rw [e]
    exact (begin_wrong ms t q s hsl hb).mono fun os v h => .inr ⟨148, 62, 5, _, _, h.1, rfl, h.2⟩
  | false =>
    cases hl : decide (0 ≤ idxI (isAt t s q) ms) with
    | true =>
      have e : beginL ms t s q = (ms, 6) := by unfold beginL; rw [hb, hl]; simp
      rw [e]
      exact (begin_late ms (by omega) t q s hsl hb hl).mono fun os v h => .inr ⟨148, 62, 5, _, _, h.1, rfl, h.2⟩
    | false =>
      by_cases hn : ms.length < 1024
      · have e : beginL ms t s q = (insM ms (newM t s q), 0) := by unfold beginL; rw [hb, hl]; simp [hn]
        rw [e]
        exact (begin_ok ms hn t q s hsl (hi.srt.sorted2 _) hb hl).mono fun os v h => .inl h
      · have e : beginL ms t s q = (fullM ms (newM t s q), 0) := by unfold beginL; rw [hb, hl]; simp [hn]
        rw [e]
        exact (begin_full ms (by omega) t q s hsl (hi.srt.sorted2 _) hb hl).mono fun os v h => .inl h
theorem note_any (ms : List Mk) (hi : Inv ms) (t : Int) (s : List UInt8) (q : Nat) (ok : Bool) (d : List UInt8) (hsl : s.length ≤ 4611686018427387904) (hq : q < 18446744073709551616) : Ctr Tryd.prog [] 29 [.cells [.row 1] 148, mrow ms] [.one (.c (.loc 0 0)), .one (.agg [.v (.int .i64 t), .v (.string (B s)), .v (.int .u64 q), .v (.bool ok), .v (.string (B d))])]
    (fun os v => os = [.cells [.row 2] 148, .gone, mrow (noteL ms t s q ok d).1] ∧ v = vv (.int .i64 (noteL ms t s q ok d).2)) := by
  have hr := hi.room
  have hms : ms.length ≤ 1000000 := by omega
  have hs := hi.srt.sorted2 (askM t s q)
  refine Ctr.moveCell ?_
  cases h : statusB t s q ok d with
  | false =>
    have e : noteL ms t s q ok d = (ms, 1) := by simp [noteL, h]
    rw [e]
    exact (note_wrong ms t s q ok d hsl hq h).mono fun os v h => .inr ⟨148, 62, 5, _, _, h.1, rfl, h.2⟩
  | true =>
    cases hf : hasM ms (askM t s q) with
    | false =>
      have e : noteL ms t s q ok d = (ms, 5) := by simp [noteL, h, hf]
      rw [e]
      exact (note_none ms hms t s q ok d hsl hq h hs hf).mono fun os v h => .inr ⟨148, 62, 5, _, _, h.1, rfl, h.2⟩
    | true =>
      cases ok with
      | true =>
        have e : noteL ms t s q true d = (ms.map (tkM t s q), 0) := by simp [noteL, h, hf]
        rw [e]
        exact (note_ok ms hms t s q d hsl hq h hs hf).mono fun os v h => .inr ⟨148, 62, 5, _, _, h.1, rfl, h.2⟩
      | false =>
        by_cases hp : (ms.getD (bsN ms (askM t s q)) default).st = 1
        · have e : noteL ms t s q false d = (refM ms (askM t s q) d, 0) := by unfold noteL; rw [h, hf]; simp only [Bool.not_true, Bool.false_eq_true, if_false, hp, if_true]
          rw [e]
          exact (note_refused ms hms t s q d hsl hq h hs hf hp).mono fun os v h => .inr ⟨148, 62, 5, _, _, h.1, rfl, h.2⟩
        · have e : noteL ms t s q false d = (ms, 0) := by unfold noteL; rw [h, hf]; simp only [Bool.not_true, Bool.false_eq_true, if_false, hp]
          rw [e]
          exact (note_settled ms hms t s q d hsl hq h hs hf hp).mono fun os v h => .inr ⟨148, 62, 5, _, _, h.1, rfl, h.2⟩
theorem state_any (ms : List Mk) (hi : Inv ms) (t : Int) (s : List UInt8) (q : Int) : Ctr Tryd.prog [] 30 [.cells [.row 1] 148, mrow ms] [.one (.c (.loc 0 0)), .one (.agg [.v (.int .i64 t), .v (.string (B s))]), vv (.int .u64 q)]
    (fun os v => os = [.cells [.row 1] 148, mrow ms] ∧ v = .tup [.c (.v (.int .i64 (stateL ms t s q).1)), .c (.v (.string (B (stateL ms t s q).2)))]) := by
  have hr := hi.room
  have hs := hi.srt.sorted2 (askM t s q)
  cases hf : hasM ms (askM t s q) with
  | true =>
    have e : stateL ms t s q = ((ms.getD (bsN ms (askM t s q)) default).st, (ms.getD (bsN ms (askM t s q)) default).d) := by simp [stateL, hf]
    rw [e]
    exact state_yes ms (by omega) t s q hs hf
  | false =>
    have e : stateL ms t s q = (0, []) := by simp [stateL, hf]
    rw [e]
    exact state_no ms (by omega) t s q hs hf
theorem erase_any (ms : List Mk) (hi : Inv ms) : Ctr Tryd.prog [] 34 [.cells [.row 1] 148, mrow ms] [.one (.c (.loc 0 0))]
    (fun os v => os = [.cells [.row 2] 148, .gone, mrow (eraseL ms)] ∧ v = .tup []) := by
  have hr := hi.room
  exact erase_ctr ms (by omega)
theorem marks_any (ms : List Mk) (hi : Inv ms) : Ctr Tryd.prog [] 31 [.cells [.row 1] 148, mrow ms] [.one (.c (.loc 0 0))]
    (fun os v => os = [.cells [.row 1] 148, mrow ms, mrow ms] ∧ v = .one (.c (.row 2))) := by
  have hr := hi.room
  exact marks_ctr ms (by omega)
end Go.Proofs.YtbdacbcpniegiaaDoor
namespace Go.Proofs.YtbdacbcpniegiaaDoor
open Go Go.RowKit Go.Proofs Go.Sx
set_option linter.unusedSimpArgs false
set_option linter.unusedVariables false
set_option maxRecDepth 100000
def rng (n : Nat) : List Mk := (List.range n).map fun (j : Nat) => ⟨2, [107], ((j + 1 : Nat) : Int), 1, []⟩
def tkn (n m : Nat) : List Mk := (noteL (rng n) 2 [107] m true []).1
def wantE (n e : Nat) : Int := if e = 0 then 1 else if e ≤ n then 6 else 0
theorem rng_ok : ∀ i : Nat, i < 10 → beginL (rng i) 2 [107] ((i + 1 : Nat) : Int) = (rng (i + 1), 0) := by decide +kernel
theorem ers_ok : ∀ n : Nat, n < 11 → ∀ m : Nat, m < n + 1 → ∀ e : Nat, e < 20 → (beginL (tkn n m) 2 [107] (e : Int)).2 = wantE n e ∧ (eraseL (beginL (tkn n m) 2 [107] (e : Int)).1).length = m := by decide +kernel
theorem rng_inv : ∀ i, i ≤ 10 → Inv (rng i)
  | 0, _ => Inv.nil
  | i + 1, h => by
    have := (rng_inv i (by omega)).begin 2 [107] ((i + 1 : Nat) : Int)
    rw [rng_ok i (by omega)] at this
    exact this
theorem star_bad (ms : List Mk) : beginL ms 2 [42] 5 = (ms, 1) := by simp [beginL, badB]
end Go.Proofs.YtbdacbcpniegiaaDoor
namespace Go.Proofs.YtbdacbcpniegiaaDoor
open Go Go.RowKit Go.Proofs Go.Sx
set_option linter.unusedSimpArgs false
set_option linter.unusedVariables false
set_option maxRecDepth 100000
theorem find_of_mem {ms : List Mk} (h : Srt ms) {x : Mk} (hx : x ∈ ms) {t : Int} {s : List UInt8} {q : Int} (hk : x.t = t ∧ x.s = s ∧ x.q = q) : ms.find? (kk t s q) = some x := by
  cases hf : ms.find? (kk t s q) with
  | none =>
    rw [List.find?_eq_none] at hf
    exact absurd (kk_iff.2 hk) (hf x hx)
  | some y =>
    have h1 := kk_iff.1 (List.find?_some hf)
    have := h.uniq (List.mem_of_find?_eq_some hf) hx (by rw [cmpM_eq]; exact ⟨h1.1.trans hk.1.symm, h1.2.1.trans hk.2.1.symm, h1.2.2.trans hk.2.2.symm⟩)
    rw [this]
def lst (n : Nat) (f : Nat → Int × List UInt8) : List Mk := (List.range n).map fun (j : Nat) => ⟨4, [107], ((2 * (j + 1) : Nat) : Int), (f (j + 1)).1, (f (j + 1)).2⟩
theorem lst_len (n : Nat) (f : Nat → Int × List UInt8) : (lst n f).length = n := by simp [lst]
theorem lst_mem {n : Nat} {f : Nat → Int × List UInt8} {x : Mk} : x ∈ lst n f ↔ ∃ j, j < n ∧ x = ⟨4, [107], ((2 * (j + 1) : Nat) : Int), (f (j + 1)).1, (f (j + 1)).2⟩ := by
  simp only [lst, List.mem_map, List.mem_range]
  constructor
  · rintro ⟨j, hj, e⟩; exact ⟨j, hj, e.symm⟩
  · rintro ⟨j, hj, e⟩; exact ⟨j, hj, e.symm⟩
theorem lst_srt (n : Nat) (f : Nat → Int × List UInt8) : Srt (lst n f) := by
  rw [Srt, lst, List.pairwise_map]
  refine List.pairwise_lt_range.imp fun {a b} hab => ?_
  rw [cmpM_lt]
  refine .inr ⟨rfl, .inr ⟨rfl, ?_⟩⟩
  show ((2 * (a + 1) : Nat) : Int) < ((2 * (b + 1) : Nat) : Int)
  omega
theorem lst_inv {n : Nat} (hn : n ≤ 10) (f : Nat → Int × List UInt8) : Inv (lst n f) := ⟨lst_srt n f, by rw [lst_len]; omega⟩
def pend (_ : Nat) : Int × List UInt8 := (1, [])
theorem lst_begin : ∀ i : Nat, i < 10 → beginL (lst i pend) 4 [107] ((2 * (i + 1) : Nat) : Int) = (lst (i + 1) pend, 0) := by decide +kernel
theorem lst_find {n : Nat} (f : Nat → Int × List UInt8) {j : Nat} (h1 : 1 ≤ j) (h2 : j ≤ n) : (lst n f).find? (kk 4 [107] ((2 * j : Nat) : Int)) = some ⟨4, [107], ((2 * j : Nat) : Int), (f j).1, (f j).2⟩ := by
  obtain ⟨i, rfl⟩ : ∃ i, j = i + 1 := ⟨j - 1, by omega⟩
  exact find_of_mem (lst_srt n f) (lst_mem.2 ⟨i, by omega, rfl⟩) ⟨rfl, rfl, rfl⟩
theorem lst_state {n : Nat} (hn : n ≤ 10) (f : Nat → Int × List UInt8) {j : Nat} (h1 : 1 ≤ j) (h2 : j ≤ n) : stateL (lst n f) 4 [107] ((2 * j : Nat) : Int) = f j := by
  rw [stateL_eq (lst_inv hn f), lst_find f h1 h2]
theorem lst_odd {n : Nat} (f : Nat → Int × List UInt8) (j : Nat) : (lst n f).find? (kk 4 [107] ((2 * j + 1 : Nat) : Int)) = none := by
  rw [List.find?_eq_none]
  intro x hx hk
  obtain ⟨i, hi, rfl⟩ := lst_mem.1 hx
  have := (kk_iff.1 hk).2.2
  simp only [] at this
  omega
theorem status4 {q : Int} {ok : Bool} {d : List UInt8} (hq : 0 < q) (hd : d.length ≤ 256) (ho : ok = true → d = []) : statusB 4 [107] q ok d = true := by
  have hk : keyB 4 [107] = true := by decide +kernel
  simp only [statusB, hk, Bool.true_and, Bool.and_eq_true, decide_eq_true_eq, Bool.or_eq_true, Bool.not_eq_true', beq_iff_eq]
  refine ⟨⟨⟨rfl, hq⟩, by omega⟩, ?_⟩
  cases ok with
  | true => exact .inr (ho rfl)
  | false => exact .inl rfl
theorem lst_none {n : Nat} (hn : n ≤ 10) (f : Nat → Int × List UInt8) (j : Nat) : noteL (lst n f) 4 [107] (2 * j + 1) true [] = (lst n f, 5) := by
  rw [noteL_eq (lst_inv hn f), status4 (by omega) (by simp) (fun _ => rfl), lst_odd]
  rfl
def upd (a : Nat) (ok : Bool) (d : List UInt8) (f : Nat → Int × List UInt8) (j : Nat) : Int × List UInt8 :=
  if (f j).1 = 1 then (if ok then (if j ≤ a then (2, (f j).2) else f j) else if j = a then (3, d) else f j) else f j
theorem lst_note {n : Nat} (hn : n ≤ 10) (f : Nat → Int × List UInt8) {a : Nat} (h1 : 1 ≤ a) (h2 : a ≤ n) (ok : Bool) (d : List UInt8) (hd : d.length ≤ 256) (ho : ok = true → d = []) :
    noteL (lst n f) 4 [107] (2 * a) ok d = (lst n (upd a ok d f), 0) := by
  rw [noteL_eq (lst_inv hn f), status4 (by omega) hd ho, lst_find f h1 h2]
  cases ok with
  | true =>
    simp only [Bool.not_true, Bool.false_eq_true, if_false, if_true, Prod.mk.injEq, and_true]
    rw [lst, lst, List.map_map]
    refine List.map_congr_left fun j hj => ?_
    simp only [Function.comp, tkM, isTk, upd, beq_self_eq_true, Bool.true_and, if_true, Bool.and_eq_true, decide_eq_true_eq, beq_iff_eq]
    by_cases e1 : (f (j + 1)).1 = 1
    · by_cases e2 : j + 1 ≤ a
      · have : ((2 * (j + 1) : Nat) : Int) ≤ ((2 * a : Nat) : Int) := by omega
        simp [e1, e2, this] <;> omega
      · have : ¬ ((2 * (j + 1) : Nat) : Int) ≤ ((2 * a : Nat) : Int) := by omega
        simp [e1, e2, this] <;> omega
    · simp [e1]
  | false =>
    simp only [Bool.not_true, Bool.false_eq_true, if_false]
    by_cases e : (f a).1 = 1
    · simp only [e, if_true, Prod.mk.injEq, and_true]
      rw [lst, lst, List.map_map]
      refine List.map_congr_left fun j hj => ?_
      simp only [Function.comp, rfM, kk, upd, beq_self_eq_true, Bool.true_and, Bool.and_eq_true, beq_iff_eq, Bool.false_eq_true, if_false]
      by_cases e2 : j + 1 = a
      · subst e2; simp [e]
      · have : ((2 * (j + 1) : Nat) : Int) ≠ ((2 * a : Nat) : Int) := by omega
        simp only [this, e2, if_false]
        split <;> rfl
    · simp only [e, if_false, Prod.mk.injEq, and_true]
      rw [lst, lst]
      refine List.map_congr_left fun j hj => ?_
      simp only [upd, Bool.false_eq_true, if_false]
      by_cases e2 : j + 1 = a
      · subst e2; simp [e]
      · simp only [e2, if_false, ite_self]
end Go.Proofs.YtbdacbcpniegiaaDoor
namespace Go.Proofs.YtbdacbcpniegiaaDoor
open Go Go.RowKit Go.Proofs Go.Sx
set_option linter.unusedSimpArgs false
set_option linter.unusedVariables false
set_option maxRecDepth 100000
structure Keys (ms : List Mk) (q : Nat → Nat) : Prop where
  inv : Inv ms
  all : ∀ x ∈ ms, ∃ k, k < 3 ∧ x.t = ((1 + k : Nat) : Int) ∧ x.s = [107] ∧ x.st = 1 ∧ 1 ≤ x.q ∧ x.q ≤ (q k : Int)
  last : ∀ k, k < 3 → 0 < q k → ∃ x ∈ ms, x.t = ((1 + k : Nat) : Int) ∧ x.s = [107] ∧ x.q = (q k : Int)
theorem Keys.nil : Keys [] (fun _ => 0) := ⟨Inv.nil, fun x hx => (by cases hx), fun k _ h => absurd h (by decide)⟩
theorem key3 : ∀ k : Nat, k < 3 → keyB ((1 + k : Nat) : Int) [107] = true := by decide +kernel
def put (q : Nat → Nat) (k n : Nat) (j : Nat) : Nat := if j = k then n else q j
theorem Keys.begin {ms : List Mk} {q : Nat → Nat} (h : Keys ms q) (hl : ms.length < 1024) {k n : Nat} (hk : k < 3) (hn : q k < n) :
    ∃ ms', beginL ms ((1 + k : Nat) : Int) [107] (n : Int) = (ms', 0) ∧ ms'.length = ms.length + 1 ∧ Keys ms' (put q k n) := by
  have hb : badB ((1 + k : Nat) : Int) [107] (n : Int) = false := by
    simp only [badB, key3 k hk, Bool.not_true, Bool.false_or, Bool.or_eq_false_iff, beq_eq_false_iff_ne]
    exact ⟨by simp, by omega⟩
  have hlt : decide (0 ≤ idxI (isAt ((1 + k : Nat) : Int) [107] (n : Int)) ms) = false := by
    rw [← Bool.not_eq_true, late_iff]
    rintro ⟨x, hx, h1, h2, h3⟩
    obtain ⟨j, hj, e1, e2, e3, e4, e5⟩ := h.all x hx
    obtain rfl : j = k := by omega
    omega
  have e : beginL ms ((1 + k : Nat) : Int) [107] (n : Int) = (insM ms (newM ((1 + k : Nat) : Int) [107] n), 0) := by unfold beginL; rw [hb, hlt]; simp [hl]
  have hi := h.inv.begin ((1 + k : Nat) : Int) [107] n
  rw [e] at hi
  refine ⟨_, e, insM_len _ _, hi, fun x hx => ?_, fun j hj h0 => ?_⟩
  · rcases mem_insM.1 hx with rfl | hx
    · exact ⟨k, hk, rfl, rfl, rfl, by show (1 : Int) ≤ (n : Int); omega, by simp [put, newM]⟩
    · obtain ⟨j, hj, e1, e2, e3, e4, e5⟩ := h.all x hx
      refine ⟨j, hj, e1, e2, e3, e4, ?_⟩
      unfold put
      split
      · rename_i e; subst e; omega
      · exact e5
  · unfold put at h0 ⊢
    split
    · rename_i e; subst e
      exact ⟨_, mem_insM.2 (.inl rfl), rfl, rfl, rfl⟩
    · rename_i e
      rw [if_neg e] at h0
      obtain ⟨x, hx, h1⟩ := h.last j hj h0
      exact ⟨x, mem_insM.2 (.inr hx), h1⟩
structure KeysT (ms : List Mk) (w : Nat) : Prop where
  srt : Srt ms
  st : ∀ x ∈ ms, (x.st = 2 ↔ x.t = ((1 + w : Nat) : Int))
theorem Keys.note {ms : List Mk} {q : Nat → Nat} (h : Keys ms q) {w : Nat} (hw : w < 3) :
    ∃ ms' e, noteL ms ((1 + w : Nat) : Int) [107] (q w) true [] = (ms', e) ∧ ms'.length = ms.length ∧ Inv ms' ∧ KeysT ms' w := by
  by_cases h0 : q w = 0
  · have hs : statusB ((1 + w : Nat) : Int) [107] ((q w : Nat) : Int) true [] = false := by
      simp [statusB, h0]
    refine ⟨ms, 1, by rw [noteL_eq h.inv, hs]; rfl, rfl, h.inv, h.inv.srt, fun x hx => ?_⟩
    obtain ⟨j, hj, e1, e2, e3, e4, e5⟩ := h.all x hx
    constructor
    · intro e; omega
    · intro e
      obtain rfl : j = w := by omega
      omega
  · have hs : statusB ((1 + w : Nat) : Int) [107] ((q w : Nat) : Int) true [] = true := by
      simp only [statusB, key3 w hw, Bool.true_and, Bool.and_eq_true, decide_eq_true_eq, Bool.or_eq_true, Bool.not_eq_true', beq_iff_eq]
      exact ⟨⟨⟨rfl, by omega⟩, by simp⟩, .inr trivial⟩
    obtain ⟨x, hx, h1, h2, h3⟩ := h.last w hw (by omega)
    have e : noteL ms ((1 + w : Nat) : Int) [107] (q w) true [] = (ms.map (tkM ((1 + w : Nat) : Int) [107] (q w)), 0) := by
      rw [noteL_eq h.inv, hs, find_of_mem h.inv.srt hx ⟨h1, h2, h3⟩]; rfl
    have hi := h.inv.note ((1 + w : Nat) : Int) [107] (q w) true []
    rw [e] at hi
    refine ⟨_, 0, e, by simp, hi, hi.srt, fun y hy => ?_⟩
    obtain ⟨z, hz, rfl⟩ := List.mem_map.1 hy
    obtain ⟨j, hj, e1, e2, e3, e4, e5⟩ := h.all z hz
    by_cases ej : j = w
    · subst ej
      have : isTk ((1 + j : Nat) : Int) [107] (q j) z = true := by simp [isTk, e1, e2, e3, e5]
      rw [tkM, if_pos this]
      simp [e1]
    · have : isTk ((1 + w : Nat) : Int) [107] (q w) z = false := by
        simp only [isTk, Bool.and_eq_false_iff, beq_eq_false_iff_ne]
        exact .inl (.inl (.inl (by omega)))
      rw [tkM, this, if_neg (by simp)]
      constructor <;> intro <;> omega
theorem srt_next {ms : List Mk} (h : Srt ms) {i : Nat} (hi : i + 1 < ms.length) :
    (ms.getD i default).t ≤ (ms.getD (i + 1) default).t ∧ ((ms.getD i default).t = (ms.getD (i + 1) default).t → (ms.getD i default).s = (ms.getD (i + 1) default).s → (ms.getD i default).q < (ms.getD (i + 1) default).q) := by
  have := List.pairwise_iff_getElem.1 h i (i + 1) (by omega) hi (by omega)
  rw [List.getD_eq_getElem?_getD, List.getElem?_eq_getElem (by omega), List.getD_eq_getElem?_getD, List.getElem?_eq_getElem hi]
  rw [cmpM_lt] at this
  simp only [Option.getD_some]
  rcases this with h1 | ⟨h1, h2 | ⟨h2, h3⟩⟩
  · exact ⟨by omega, fun e => by omega⟩
  · refine ⟨by omega, fun _ e => ?_⟩
    rw [e, bytesLess_irrefl] at h2; cases h2
  · exact ⟨by omega, fun _ _ => h3⟩
end Go.Proofs.YtbdacbcpniegiaaDoor
namespace Go.Proofs.YtbdacbcpniegiaaDoor
open Go Go.RowKit Go.Proofs Go.Sx
set_option linter.unusedSimpArgs false
set_option linter.unusedVariables false
set_option maxRecDepth 100000
def nm3 (i : Nat) : List UInt8 := [UInt8.ofNat (97 + i % 26), UInt8.ofNat (97 + i / 26 % 26), UInt8.ofNat (97 + i / 676)]
theorem nm3_key : ∀ i : Nat, i < 1034 → keyB ((1 + i % 5 : Nat) : Int) (nm3 i) = true ∧ (nm3 i == [42]) = false := by decide +kernel
structure Room (ms : List Mk) (i : Nat) : Prop where
  inv : Inv ms
  len : ms.length = min i 1024
  le : ∀ x ∈ ms, ((i - 1024 : Nat) : Int) < x.q ∧ x.q ≤ (i : Int)
  uniq : ∀ x ∈ ms, ∀ y ∈ ms, x.q = y.q → x = y
  has : ∀ k : Nat, i - 1024 < k → k ≤ i → ∃ x ∈ ms, x.q = (k : Int)
theorem Room.nil : Room [] 0 := ⟨Inv.nil, rfl, fun x hx => (by cases hx), fun x hx => (by cases hx), fun k h1 h2 => by omega⟩
theorem Room.begin {ms : List Mk} {i : Nat} (h : Room ms i) (hi : i < 1033) :
    ∃ ms', beginL ms ((1 + (i + 1) % 5 : Nat) : Int) (nm3 (i + 1)) ((i + 1 : Nat) : Int) = (ms', 0) ∧ Room ms' (i + 1) := by
  obtain ⟨k1, k2⟩ := nm3_key (i + 1) (by omega)
  have hb : badB ((1 + (i + 1) % 5 : Nat) : Int) (nm3 (i + 1)) ((i + 1 : Nat) : Int) = false := by
    simp only [badB, k1, k2, Bool.not_true, Bool.false_or, beq_eq_false_iff_ne]
    omega
  have hlt : decide (0 ≤ idxI (isAt ((1 + (i + 1) % 5 : Nat) : Int) (nm3 (i + 1)) ((i + 1 : Nat) : Int)) ms) = false := by
    rw [← Bool.not_eq_true, late_iff]
    rintro ⟨x, hx, h1, h2, h3⟩
    have := h.le x hx
    omega
  have hv := h.inv.begin ((1 + (i + 1) % 5 : Nat) : Int) (nm3 (i + 1)) ((i + 1 : Nat) : Int)
  have hlen := h.len
  have hins := insM_len ms (newM ((1 + (i + 1) % 5 : Nat) : Int) (nm3 (i + 1)) ((i + 1 : Nat) : Int))
  have hmem : ∀ x, x ∈ insM ms (newM ((1 + (i + 1) % 5 : Nat) : Int) (nm3 (i + 1)) ((i + 1 : Nat) : Int)) ↔ x = newM ((1 + (i + 1) % 5 : Nat) : Int) (nm3 (i + 1)) ((i + 1 : Nat) : Int) ∨ x ∈ ms := fun x => mem_insM
  have hq : (newM ((1 + (i + 1) % 5 : Nat) : Int) (nm3 (i + 1)) ((i + 1 : Nat) : Int)).q = ((i + 1 : Nat) : Int) := rfl
  have hsrt : Srt (insM ms (newM ((1 + (i + 1) % 5 : Nat) : Int) (nm3 (i + 1)) ((i + 1 : Nat) : Int))) := h.inv.srt.ins _ (late_ins hlt)
  have e : beginL ms ((1 + (i + 1) % 5 : Nat) : Int) (nm3 (i + 1)) ((i + 1 : Nat) : Int) = if ms.length < 1024 then (insM ms (newM ((1 + (i + 1) % 5 : Nat) : Int) (nm3 (i + 1)) ((i + 1 : Nat) : Int)), 0) else (fullM ms (newM ((1 + (i + 1) % 5 : Nat) : Int) (nm3 (i + 1)) ((i + 1 : Nat) : Int)), 0) := by
    unfold beginL; rw [hb, hlt]; simp
  generalize newM ((1 + (i + 1) % 5 : Nat) : Int) (nm3 (i + 1)) ((i + 1 : Nat) : Int) = m at *
  generalize beginL ms ((1 + (i + 1) % 5 : Nat) : Int) (nm3 (i + 1)) ((i + 1 : Nat) : Int) = b at *
  have hu : ∀ x ∈ insM ms m, ∀ y ∈ insM ms m, x.q = y.q → x = y := fun x hx y hy e => by
    rcases (hmem x).1 hx with e1 | hx1 <;> rcases (hmem y).1 hy with e2 | hy1
    · rw [e1, e2]
    · have := h.le y hy1; rw [e1] at e; omega
    · have := h.le x hx1; rw [e2] at e; omega
    · exact h.uniq x hx1 y hy1 e
  by_cases hr : ms.length < 1024
  · rw [if_pos hr] at e
    subst e
    refine ⟨_, rfl, hv, by omega, fun x hx => ?_, hu, fun k h1 h2 => ?_⟩
    · rcases (hmem x).1 hx with rfl | hx
      · omega
      · have := h.le x hx; omega
    · by_cases ek : k = i + 1
      · subst ek; exact ⟨m, (hmem m).2 (.inl rfl), hq⟩
      · obtain ⟨x, hx, e⟩ := h.has k (by omega) (by omega)
        exact ⟨x, (hmem x).2 (.inr hx), e⟩
  · rw [if_neg hr] at e
    subst e
    have hl : ms.length = 1024 := by omega
    have h0 : 0 < (insM ms m).length := by omega
    obtain ⟨m1, m2⟩ := minQ_le h0
    refine ⟨_, rfl, hv, ?_, fun x hx => ?_, fun x hx y hy => ?_, fun k h1 h2 => ?_⟩
    · have := dropM_len hsrt m1
      show (dropM _ _).length = _
      omega
    · have hx' : x ∈ dropM (insM ms m) (minQ (insM ms m) ((insM ms m).length - 1)) := hx
      obtain ⟨hx1, hx2⟩ := dropM_mem.1 hx'
      have h4 : x.q ≠ (minQ (insM ms m) ((insM ms m).length - 1)).q := fun e => hx2 (hu _ hx1 _ m1 e)
      have h5 := m2 x hx1
      obtain ⟨y, hy, ey⟩ := h.has (i - 1024 + 1) (by omega) (by omega)
      have h6 := m2 y ((hmem y).2 (.inr hy))
      have h7 : ((i - 1024 : Nat) : Int) < (minQ (insM ms m) ((insM ms m).length - 1)).q := by
        rcases (hmem _).1 m1 with e | hm
        · rw [e, hq]; omega
        · exact (h.le _ hm).1
      refine ⟨by omega, ?_⟩
      rcases (hmem x).1 hx1 with rfl | hx
      · omega
      · have := h.le x hx; omega
    · have hx' : x ∈ dropM (insM ms m) (minQ (insM ms m) ((insM ms m).length - 1)) := hx
      have hy' : y ∈ dropM (insM ms m) (minQ (insM ms m) ((insM ms m).length - 1)) := hy
      exact hu x (dropM_mem.1 hx').1 y (dropM_mem.1 hy').1
    · obtain ⟨z, hz, ez⟩ := h.has (i - 1024 + 1) (by omega) (by omega)
      have h6 := m2 z ((hmem z).2 (.inr hz))
      obtain ⟨x, hx, ex⟩ : ∃ x ∈ insM ms m, x.q = (k : Int) := by
        by_cases ek : k = i + 1
        · subst ek; exact ⟨m, (hmem m).2 (.inl rfl), hq⟩
        · obtain ⟨x, hx, e⟩ := h.has k (by omega) (by omega)
          exact ⟨x, (hmem x).2 (.inr hx), e⟩
      refine ⟨x, ?_, ex⟩
      show x ∈ dropM _ _
      rw [dropM_mem]
      refine ⟨hx, fun e => ?_⟩
      rw [← e] at h6
      omega
def leastQ (ms : List Mk) (n : Nat) : Int := (ms.take n).foldl (fun a x => if x.q < a then x.q else a) 4611686018427387904
theorem leastQ_succ {ms : List Mk} {n : Nat} (h : n < ms.length) : leastQ ms (n + 1) = if (ms.getD n default).q < leastQ ms n then (ms.getD n default).q else leastQ ms n := by
  rw [leastQ, List.take_succ_eq_append_getElem h, List.foldl_append, List.getD_eq_getElem?_getD, List.getElem?_eq_getElem h]
  rfl
theorem leastQ_spec (ms : List Mk) : ∀ n, n ≤ ms.length → (∀ k, k < n → leastQ ms n ≤ (ms.getD k default).q) ∧ (leastQ ms n = 4611686018427387904 ∨ ∃ x ∈ ms, leastQ ms n = x.q)
  | 0, _ => ⟨fun k h => by omega, .inl rfl⟩
  | n + 1, h => by
    obtain ⟨h1, h2⟩ := leastQ_spec ms n (by omega)
    rw [leastQ_succ (by omega)]
    have hm : ms.getD n default ∈ ms := by rw [List.getD_eq_getElem?_getD, List.getElem?_eq_getElem (by omega)]; exact List.getElem_mem _
    split
    · refine ⟨fun k hk => ?_, .inr ⟨_, hm, rfl⟩⟩
      rcases Nat.lt_or_eq_of_le (Nat.le_of_lt_succ hk) with hk | rfl
      · have := h1 k hk; omega
      · exact Int.le_refl _
    · refine ⟨fun k hk => ?_, h2⟩
      rcases Nat.lt_or_eq_of_le (Nat.le_of_lt_succ hk) with hk | rfl
      · exact h1 k hk
      · omega
theorem Room.least {ms : List Mk} {i : Nat} (h : Room ms i) (h1 : 1024 ≤ i) (h2 : i ≤ 1033) : ms.length = 1024 ∧ leastQ ms 1024 = ((i - 1023 : Nat) : Int) := by
  have hl := h.len
  have hl2 : ms.length = 1024 := by omega
  refine ⟨hl2, ?_⟩
  obtain ⟨s1, s2⟩ := leastQ_spec ms 1024 (by omega)
  obtain ⟨x, hx, ex⟩ := h.has (i - 1023) (by omega) (by omega)
  obtain ⟨j, hj, rfl⟩ := List.mem_iff_getElem.1 hx
  have h3 := s1 j (by omega)
  rw [List.getD_eq_getElem?_getD, List.getElem?_eq_getElem hj] at h3
  simp only [Option.getD_some] at h3
  rcases s2 with e | ⟨y, hy, e⟩
  · omega
  · have := h.le y hy; omega
end Go.Proofs.YtbdacbcpniegiaaDoor
namespace Go.Proofs.YtbdacbcpniegiaaDoor
open Go Go.RowKit Go.Proofs Go.Sx
set_option linter.unusedSimpArgs false
set_option linter.unusedVariables false
set_option maxRecDepth 100000
def refAt (L : List Mk) (t : Int) (s : List UInt8) : Nat → Nat
  | 0 => 0
  | i + 1 => if cmpKey (L.getD i default).t (L.getD i default).s t s ≤ 0 then i + 1 else refAt L t s i
theorem cmpKey_le {a b : Int} {s t : List UInt8} {q r : Int} (h : ¬ (a = b ∧ s = t ∧ r ≤ q)) : cmpKey a s b t ≤ 0 ↔ cmpMark a s q b t r < 0 := by
  unfold cmpMark
  by_cases e : cmpKey a s b t = 0
  · have hk : a = b ∧ s = t := by
      unfold cmpKey at e
      by_cases h1 : cmpI a b = 0
      · simp only [h1, ne_eq, not_true_eq_false, if_false] at e
        exact ⟨cmpI_eq.1 h1, cmpS_eq.1 e⟩
      · rw [if_pos h1] at e; exact absurd e h1
    have : q < r := by
      rcases Int.lt_or_le q r with h2 | h2
      · exact h2
      · exact absurd ⟨hk.1, hk.2, h2⟩ h
    simp only [e, ne_eq, not_true_eq_false, if_false, cmpI_lt]
    constructor
    · intro _; exact this
    · intro _; exact Int.le_refl _
  · rw [if_pos e]; omega
theorem refAt_eq {L : List Mk} (h : Srt L) {t q : Int} {s : List UInt8} (hl : decide (0 ≤ idxI (isAt t s q) L) = false) : ∀ i, i ≤ L.length → refAt L t s i = min i (bsN L (newM t s q))
  | 0, _ => by simp [refAt]
  | i + 1, hi => by
    have hi' : i < L.length := by omega
    have hg : L.getD i default = L[i] := by rw [List.getD_eq_getElem?_getD, List.getElem?_eq_getElem hi']; rfl
    have hn : ¬ (L[i].t = t ∧ L[i].s = s ∧ q ≤ L[i].q) := fun hx => by
      have := late_iff.2 ⟨L[i], List.getElem_mem hi', hx.1, hx.2.1, hx.2.2⟩
      rw [hl] at this; cases this
    have hk := cmpKey_le (a := L[i].t) (b := t) (s := L[i].s) (t := s) (q := L[i].q) (r := q) hn
    rw [refAt, hg, refAt_eq h hl i (by omega)]
    have hm : cmpMark L[i].t L[i].s L[i].q t s q = cmpM L[i] (newM t s q) := rfl
    rw [hm] at hk
    by_cases hlt : i < bsN L (newM t s q)
    · have : cmpM L[i] (newM t s q) < 0 := bs_take L (newM t s q) _ (by
        rw [List.mem_take_iff_getElem]
        exact ⟨i, by omega, rfl⟩)
      rw [if_pos (hk.2 this)]; omega
    · have : ¬ cmpM L[i] (newM t s q) < 0 := bs_drop h (newM t s q) _ (by
        rw [List.mem_drop_iff_getElem]
        exact ⟨i - bsN L (newM t s q), by omega, by congr 1; omega⟩)
      rw [if_neg (fun e => this (hk.1 e))]; omega
def cutAt (L : List Mk) : Nat → Nat
  | 0 => 0
  | i + 1 => if (L.getD i default).q < (L.getD (cutAt L i) default).q then i else cutAt L i
theorem cutAt_lt (L : List Mk) : ∀ i, 0 < L.length → i ≤ L.length → cutAt L i < L.length
  | 0, h, _ => h
  | i + 1, h, h2 => by
    rw [cutAt]
    split
    · omega
    · exact cutAt_lt L i h (by omega)
theorem cutAt_min (L : List Mk) : ∀ i, L.getD (cutAt L (i + 1)) default = minQ L i
  | 0 => by simp [cutAt, minQ]
  | i + 1 => by
    rw [cutAt, minQ, cutAt_min L i]
    by_cases h : (L.getD (i + 1) default).q < (minQ L i).q
    · rw [if_pos h, if_pos (cmpI_lt.2 h)]
    · rw [if_neg h, if_neg (fun e => h (cmpI_lt.1 e)), cutAt_min L i]
theorem dropM_at {L : List Mk} (h : Srt L) {i : Nat} (hi : i < L.length) : dropM L L[i] = L.take i ++ L.drop (i + 1) := by
  have e : L = L.take i ++ L[i] :: L.drop (i + 1) := by rw [← List.drop_eq_getElem_cons hi, List.take_append_drop]
  have hs : (L.take i ++ L[i] :: L.drop (i + 1)).Pairwise fun a b => cmpM a b < 0 := by rw [← e]; exact h
  rw [List.pairwise_append] at hs
  have h1 : (L.take i).filter (fun x => !isMk L[i].t L[i].s L[i].q L[i].st L[i].d x) = L.take i := by
    rw [List.filter_eq_self]
    intro x hx
    rw [Bool.not_eq_true', ← Bool.not_eq_true, isMk_iff]
    intro ex
    have := hs.2.2 x hx L[i] (List.mem_cons_self ..)
    rw [ex] at this
    exact cmpM_irrefl _ this
  have h2 : (L.drop (i + 1)).filter (fun x => !isMk L[i].t L[i].s L[i].q L[i].st L[i].d x) = L.drop (i + 1) := by
    rw [List.filter_eq_self]
    intro x hx
    rw [Bool.not_eq_true', ← Bool.not_eq_true, isMk_iff]
    intro ex
    have := (List.pairwise_cons.1 hs.2.1).1 x hx
    rw [ex] at this
    exact cmpM_irrefl _ this
  have h3 : (L.take i ++ L[i] :: L.drop (i + 1)).filter (fun x => !isMk L[i].t L[i].s L[i].q L[i].st L[i].d x) = L.take i ++ L.drop (i + 1) := by
    rw [List.filter_append, h1, List.filter_cons_of_neg (by rw [Bool.not_eq_true, Bool.not_eq_false']; exact isMk_iff.2 rfl), h2]
  rw [← e] at h3
  exact h3
def cutR (L : List Mk) : List Mk := L.take (cutAt L L.length) ++ L.drop (cutAt L L.length + 1)
theorem cutR_eq {L : List Mk} (h : Srt L) (h0 : 0 < L.length) : cutR L = dropM L (minQ L (L.length - 1)) := by
  obtain ⟨n, hn⟩ : ∃ n, L.length = n + 1 := ⟨L.length - 1, by omega⟩
  have hlt := cutAt_lt L L.length h0 (Nat.le_refl _)
  have hm : minQ L (L.length - 1) = L[cutAt L L.length] := by
    have := cutAt_min L n
    rw [← hn, List.getD_eq_getElem?_getD, List.getElem?_eq_getElem hlt] at this
    rw [show L.length - 1 = n by omega]
    exact this.symm
  rw [hm, dropM_at h hlt]; rfl
def putR (L : List Mk) (t : Int) (s : List UInt8) (q : Int) : List Mk := L.take (refAt L t s L.length) ++ newM t s q :: L.drop (refAt L t s L.length)
def beginR (L : List Mk) (t : Int) (s : List UInt8) (q : Int) : List Mk × Int :=
  if badB t s q then (L, 1) else if decide (0 ≤ idxI (isAt t s q) L) then (L, 6) else if (putR L t s q).length ≤ 1024 then (putR L t s q, 0) else (cutR (putR L t s q), 0)
theorem beginR_eq {L : List Mk} (h : Inv L) (t : Int) (s : List UInt8) (q : Int) : beginR L t s q = beginL L t s q := by
  unfold beginR beginL
  cases hb : badB t s q with
  | true => rfl
  | false =>
    cases hl : decide (0 ≤ idxI (isAt t s q) L) with
    | true => rfl
    | false =>
      have e : putR L t s q = insM L (newM t s q) := by
        have hle := bsN_le L (newM t s q)
        rw [putR, refAt_eq h.srt hl _ (Nat.le_refl _), Nat.min_eq_right hle]; rfl
      have hl2 := insM_len L (newM t s q)
      rw [e]
      simp only [Bool.false_eq_true, if_false]
      by_cases hr : L.length < 1024
      · rw [if_pos hr, if_pos (by omega)]
      · rw [if_neg hr, if_neg (by omega), cutR_eq (h.srt.ins _ (late_ins hl)) (by omega)]; rfl
def noteR (L : List Mk) (t : Int) (s : List UInt8) (q : Nat) (ok : Bool) (d : List UInt8) : List Mk × Int :=
  if !statusB t s q ok d then (L, 1) else if idxI (kk t s q) L < 0 then (L, 5) else
    if ok then (L.map (tkM t s q), 0) else
    if (L.getD (idxI (kk t s q) L).toNat default).st = 1 then (L.set (idxI (kk t s q) L).toNat { L.getD (idxI (kk t s q) L).toNat default with st := 3, d := d }, 0) else (L, 0)
theorem idx_find (L : List Mk) (p : Mk → Bool) : (idxI p L < 0 ∧ L.find? p = none) ∨ (∃ (i : Nat) (hi : i < L.length), idxI p L = i ∧ p L[i] = true ∧ L.find? p = some L[i]) := by
  unfold idxI
  cases h : L.findIdx? p with
  | none =>
    rw [List.findIdx?_eq_none_iff] at h
    refine .inl ⟨by decide, ?_⟩
    rw [List.find?_eq_none]
    intro x hx; rw [h x hx]; decide
  | some i =>
    obtain ⟨hi, hp, hj⟩ := List.findIdx?_eq_some_iff_getElem.1 h
    refine .inr ⟨i, hi, rfl, hp, ?_⟩
    rw [List.find?_eq_some_iff_getElem]
    exact ⟨hp, i, hi, rfl, fun j hj' => by have := hj j hj'; simpa using this⟩
theorem set_rfM {L : List Mk} (h : Srt L) {t : Int} {s : List UInt8} {q : Int} {i : Nat} (hi : i < L.length) (hk : kk t s q L[i] = true) (d : List UInt8) : L.set i { L[i] with st := 3, d := d } = L.map (rfM t s q d) := by
  refine List.ext_getElem (by simp) fun j h1 h2 => ?_
  have hj : j < L.length := by simpa using h1
  rw [List.getElem_map, List.getElem_set]
  by_cases e : i = j
  · subst e; rw [if_pos rfl, rfM, if_pos hk]
  · rw [if_neg e, rfM, if_neg]
    intro hk2
    have k1 := kk_iff.1 hk2
    have k2 := kk_iff.1 hk
    have e0 : cmpM L[j] L[i] = 0 := cmpM_eq.2 ⟨k1.1.trans k2.1.symm, k1.2.1.trans k2.2.1.symm, k1.2.2.trans k2.2.2.symm⟩
    have e1 : cmpM L[i] L[j] = 0 := cmpM_eq.2 ⟨k2.1.trans k1.1.symm, k2.2.1.trans k1.2.1.symm, k2.2.2.trans k1.2.2.symm⟩
    have hp := List.pairwise_iff_getElem.1 h
    rcases Nat.lt_or_ge i j with hij | hij
    · have := hp i j hi hj hij; omega
    · have := hp j i hj hi (by omega); omega
theorem noteR_eq {L : List Mk} (h : Inv L) (t : Int) (s : List UInt8) (q : Nat) (ok : Bool) (d : List UInt8) : noteR L t s q ok d = noteL L t s q ok d := by
  rw [noteL_eq h]
  unfold noteR
  cases hs : statusB t s q ok d with
  | false => rfl
  | true =>
    simp only [Bool.not_true, Bool.false_eq_true, if_false]
    rcases idx_find L (kk t s q) with ⟨h1, h2⟩ | ⟨i, hi, h1, h2, h3⟩
    · rw [if_pos h1, h2]
    · have hg : L.getD i default = L[i] := by rw [List.getD_eq_getElem?_getD, List.getElem?_eq_getElem hi]; rfl
      rw [h1, if_neg (by omega), h3, Int.toNat_natCast, hg, set_rfM h.srt hi h2 d]
def stateR (L : List Mk) (t : Int) (s : List UInt8) (q : Int) : Int × List UInt8 :=
  if idxI (kk t s q) L < 0 then (0, []) else ((L.getD (idxI (kk t s q) L).toNat default).st, (L.getD (idxI (kk t s q) L).toNat default).d)
theorem stateR_eq {L : List Mk} (h : Inv L) (t : Int) (s : List UInt8) (q : Int) : stateR L t s q = stateL L t s q := by
  rw [stateL_eq h]
  unfold stateR
  rcases idx_find L (kk t s q) with ⟨h1, h2⟩ | ⟨i, hi, h1, h2, h3⟩
  · rw [if_pos h1, h2]
  · have hg : L.getD i default = L[i] := by rw [List.getD_eq_getElem?_getD, List.getElem?_eq_getElem hi]; rfl
    rw [h1, if_neg (by omega), h3, Int.toNat_natCast, hg]
end Go.Proofs.YtbdacbcpniegiaaDoor
namespace Go.Proofs.YtbdacbcpniegiaaDoor
open Go Go.RowKit Go.Proofs Go.Sx
set_option linter.unusedSimpArgs false
set_option linter.unusedVariables false
set_option maxRecDepth 100000
theorem ex_plain : ∃ m1 m2 m3 : List Mk, beginL [] 1 [97] 1 = (m1, 0) ∧ beginL m1 1 [97] 3 = (m2, 0) ∧ noteL m2 1 [97] 3 true [] = (m3, 0) ∧ stateL m3 1 [97] 1 = (2, []) ∧ noteL m3 1 [97] 2 true [] = (m3, 5) ∧ m3.length = 2 :=
  ⟨[⟨1, [97], 1, 1, []⟩], [⟨1, [97], 1, 1, []⟩, ⟨1, [97], 3, 1, []⟩], [⟨1, [97], 1, 2, []⟩, ⟨1, [97], 3, 2, []⟩], by decide +kernel⟩
theorem state_nil (t : Int) (s : List UInt8) (q : Int) : stateL [] t s q = (0, []) := by simp [stateL, hasM]
end Go.Proofs.YtbdacbcpniegiaaDoor
namespace Go.Proofs.YtbdacbcpniegiaaDoor
open Go Go.RowKit Go.Proofs Go.Sx
set_option maxHeartbeats 4000000
set_option maxRecDepth 100000
set_option linter.unusedSimpArgs false
set_option linter.unusedVariables false
theorem new_to {m : List Mk} (h : m = []) : Ctr Tryd.prog [] 27 [] [] (fun os v => os = [.cells [.row 1] 148, mrow m] ∧ v = .one (.c (.loc 0 0))) := by
  subst h; exact new_ctr
theorem begin_to {ms m : List Mk} {e : Int} (hi : Inv ms) {t q : Int} {s : List UInt8} (hsl : s.length ≤ 4611686018427387904) (h : beginL ms t s q = (m, e)) : Ctr Tryd.prog [] 28 [.cells [.row 1] 148, mrow ms] [.one (.c (.loc 0 0)), .one (.agg [.v (.int .i64 t), .v (.string (B s))]), vv (.int .u64 q)]
    (fun os v => os = [.cells [.row 2] 148, .gone, mrow m] ∧ v = vv (.int .i64 e)) := by
  have := begin_any ms hi t q s hsl
  rw [h] at this
  exact this
theorem note_to {ms m : List Mk} {e : Int} (hi : Inv ms) {t : Int} {s : List UInt8} {q : Nat} {ok : Bool} {d : List UInt8} (hsl : s.length ≤ 4611686018427387904) (hq : q < 18446744073709551616) (h : noteL ms t s q ok d = (m, e)) {qi : Int} (hqi : qi = (q : Int)) : Ctr Tryd.prog [] 29 [.cells [.row 1] 148, mrow ms] [.one (.c (.loc 0 0)), .one (.agg [.v (.int .i64 t), .v (.string (B s)), .v (.int .u64 qi), .v (.bool ok), .v (.string (B d))])]
    (fun os v => os = [.cells [.row 2] 148, .gone, mrow m] ∧ v = vv (.int .i64 e)) := by
  subst hqi
  have := note_any ms hi t s q ok d hsl hq
  rw [h] at this
  exact this
theorem state_to {ms : List Mk} (hi : Inv ms) {t q st : Int} {s d : List UInt8} (h : stateL ms t s q = (st, d)) : Ctr Tryd.prog [] 30 [.cells [.row 1] 148, mrow ms] [.one (.c (.loc 0 0)), .one (.agg [.v (.int .i64 t), .v (.string (B s))]), vv (.int .u64 q)]
    (fun os v => os = [.cells [.row 1] 148, mrow ms] ∧ v = .tup [.c (.v (.int .i64 st)), .c (.v (.string (B d)))]) := by
  have := state_any ms hi t s q
  rw [h] at this
  exact this
theorem beginW_to {ms m : List Mk} {e : Int} (hi : Inv ms) {t q : Int} {s : List UInt8} (hsl : s.length ≤ 4611686018427387904) (h : beginL ms t s q = (m, e)) {qi : Int} (hqi : qi = q) : Ctr Tryd.prog [] 28 [.cells [.row 1] 148, mrow ms] [.one (.c (.loc 0 0)), .one (.agg [.v (.int .i64 t), .v (.string (B s))]), vv (.int .u64 qi)]
    (fun os v => os = [.cells [.row 2] 148, .gone, mrow m] ∧ v = vv (.int .i64 e)) := by
  subst hqi; exact begin_to hi hsl h
theorem erase_to {ms m : List Mk} (hi : Inv ms) (h : eraseL ms = m) : Ctr Tryd.prog [] 34 [.cells [.row 1] 148, mrow ms] [.one (.c (.loc 0 0))]
    (fun os v => os = [.cells [.row 2] 148, .gone, mrow m] ∧ v = .tup []) := by
  subst h; exact erase_any ms hi
theorem Inv.begin_to {ms m : List Mk} {t q e : Int} {s : List UInt8} (hi : Inv ms) (h : beginL ms t s q = (m, e)) : Inv m := by have := hi.begin t s q; rw [h] at this; exact this
theorem Inv.note_to {ms m : List Mk} {t e : Int} {s d : List UInt8} {q : Nat} {ok : Bool} (hi : Inv ms) (h : noteL ms t s q ok d = (m, e)) : Inv m := by have := hi.note t s q ok d; rw [h] at this; exact this
theorem exitAt {p : Prop} {n i : Nat} (hi : i ≤ n) (hb : (n : Int) < ((i + 1 : Nat) : Int)) (h : n = i → p) : p := h (by omega)
theorem tmodN (a n : Nat) : (a : Int).tmod (n : Int) = ((a % n : Nat) : Int) := rfl
theorem ex13_any (w : World) : Calls Tryd.prog 26 #[] w fun e w' => e = .returned (.bool true) ∧ Below w.heap.size w w' := by
  obtain ⟨m0, e0⟩ : ∃ m : List Mk, m = [] := ⟨_, rfl⟩
  obtain ⟨m1, m2, m3, h1, h2, h3, h4, h5, h6⟩ := ex_plain
  have i0 : Inv m0 := by rw [e0]; exact Inv.nil
  rw [← e0] at h1
  have h0 : stateL m0 1 [97] 1 = (0, []) := by rw [e0]; exact state_nil _ _ _
  have i1 := i0.begin_to h1
  have i2 := i1.begin_to h2
  have i3 := i2.note_to h3
  have hl : (m3.length : Int) = 2 := by rw [h6]; rfl
  clear h6
  refine calls_pureK (args := []) w Tryd.func26 rfl Tryd.ntmps26 (by simp) ?_
  intro X K hX hK
  have hnt : X.nt = 69 := by rw [hX]
  have hwi : X.wi = w := by rw [hX]
  have hP : X.P = Tryd.prog := by rw [hX]
  have hown : X.own = [] := by rw [hX]
  have hbl : X.base.length = 0 := by rw [hX]; rfl
  clear hX
  have hT : calleeOk X.P 27 = true ∧ X.P.underlying 47 = some (TypeDesc.pointer 148) ∧ fieldsOf X.P 26 = some [(0, 1), (1, 1)] ∧ zeroCells X.P 26 = some [(Value.int IntKind.i64 0), (Value.string { data := #[] })] ∧ szOf X.P 26 = some 2 ∧ aggOf X.P 26 = some true ∧ calleeOk X.P 30 = true ∧ calleeOk X.P 28 = true ∧ fieldsOf X.P 30 = some [(0, 2), (2, 1), (3, 1), (4, 1)] ∧ zeroCells X.P 30 = some [(Value.int IntKind.i64 0), (Value.string { data := #[] }), (Value.int IntKind.u64 0), (Value.bool false), (Value.string { data := #[] })] ∧ calleeOk X.P 29 = true ∧ calleeOk X.P 31 = true ∧ X.P.underlying 59 = some (TypeDesc.slice 62) := by rw [hP]; exact ⟨Ty.co27, Tryd.underlying47, Ty.fs26, Ty.ze26, Ty.sz26, Ty.ag26, Ty.co30, Ty.co28, Ty.fs30, Ty.ze30, Ty.co29, Ty.co31, Tryd.underlying59⟩
  repeat' (first
    | (refine SX.seqK ?_; intro N hN)
    | ((first | (refine SX.ops ?_)); simp only [WS, JA, JB, wI64, wU64, Int.reduceAdd, Int.reduceSub, Int.reduceMul, Int.reduceLE, Int.reduceLT, Int.reduceNeg, Int.reduceToNat, Int.cast_ofNat_Int, sx0, sx1, sx2, sx3, sx4, sx5, sx6, sx7, sy0, sy1, List.filterMap_cons, JC, JD, WT, JE, JF, JG, JH, JI, JJ, JK, WU, JL, JM, JN, JO, WV, JP, JQ, WW, JR, JS, JT, JU, JV, JW, JX, JY, JZ, WA, WB, WC, WD, WE, WF, WG, WH, WI, WJ, WK, WL, WM, WN, true_and, and_true, reduceCtorEq, ↓reduceIte, ↓bifT, ↓bifF, ↓gifT, ↓gifF, eq_self, WO, WP, WQ, Nat.reduceLT, Nat.reduceLeDiff, Nat.reduceAdd, Nat.reduceSub, Nat.reduceMul, Nat.reduceMod, WR, Nat.reduceBEq, Int.reduceBEq, Int.reduceBNe, BEq.rfl, hnt, hT, hl])
    | ((first | refine SX.skip ?_ | refine SX.exit ?_ | refine SX.label ?_); try simp only [WS, JA, JB, wI64, wU64, Int.reduceAdd, Int.reduceSub, Int.reduceMul, Int.reduceLE, Int.reduceLT, Int.reduceNeg, Int.reduceToNat, Int.cast_ofNat_Int, sx0, sx1, sx2, sx3, sx4, sx5, sx6, sx7, sy0, sy1, List.filterMap_cons, JC, JD, WT, JE, JF, JG, JH, JI, JJ, JK, WU, JL, JM, JN, JO, WV, JP, JQ, WW, JR, JS, JT, JU, JV, JW, JX, JY, JZ, WA, WB, WC, WD, WE, WF, WG, WH, WI, WJ, WK, WL, WM, WN, true_and, and_true, reduceCtorEq, ↓reduceIte, ↓bifT, ↓bifF, ↓gifT, ↓gifF, eq_self, WO, WP, WQ, Nat.reduceLT, Nat.reduceLeDiff, Nat.reduceAdd, Nat.reduceSub, Nat.reduceMul, Nat.reduceMod, WR, Nat.reduceBEq, Int.reduceBEq, Int.reduceBNe, BEq.rfl])
    | (refine SX.cond rfl (fun hb => ?_) (fun hb => ?_) <;> ((first | cases hb | (simp only [decide_eq_true_eq, decide_eq_false_iff_not, beq_iff_eq, beq_eq_false_iff_ne, bne_iff_ne, Bool.and_eq_true, Bool.or_eq_true, Bool.not_eq_true', Bool.not_eq_false', Bool.and_eq_false_iff, Bool.or_eq_false_iff, Int.not_lt, Int.not_le] at hb) | skip) <;> (first | (exfalso; omega) | skip)))
    | (refine SX.ret ?_; try simp only [WS, JA, JB, wI64, wU64, Int.reduceAdd, Int.reduceSub, Int.reduceMul, Int.reduceLE, Int.reduceLT, Int.reduceNeg, Int.reduceToNat, Int.cast_ofNat_Int, sx0, sx1, sx2, sx3, sx4, sx5, sx6, sx7, sy0, sy1, List.filterMap_cons, JC, JD, WT, JE, JF, JG, JH, JI, JJ, JK, WU, JL, JM, JN, JO, WV, JP, JQ, WW, JR, JS, JT, JU, JV, JW, JX, JY, JZ, WA, WB, WC, WD, WE, WF, WG, WH, WI, WJ, WK, WL, WM, WN, true_and, and_true, reduceCtorEq, ↓reduceIte, ↓bifT, ↓bifF, ↓gifT, ↓gifF, eq_self, WO, WP, WQ, Nat.reduceLT, Nat.reduceLeDiff, Nat.reduceAdd, Nat.reduceSub, Nat.reduceMul, Nat.reduceMod, WR, Nat.reduceBEq, Int.reduceBEq, Int.reduceBNe, BEq.rfl])
    | (refine hN _ ?_; clear hN N)
    | (refine hK _ _ (Fin.res rfl hown ?_); simp only [WS, JA, JB, wI64, wU64, Int.reduceAdd, Int.reduceSub, Int.reduceMul, Int.reduceLE, Int.reduceLT, Int.reduceNeg, Int.reduceToNat, Int.cast_ofNat_Int, sx0, sx1, sx2, sx3, sx4, sx5, sx6, sx7, sy0, sy1, List.filterMap_cons, JC, JD, WT, JE, JF, JG, JH, JI, JJ, JK, WU, JL, JM, JN, JO, WV, JP, JQ, WW, JR, JS, JT, JU, JV, JW, JX, JY, JZ, WA, WB, WC, WD, WE, WF, WG, WH, WI, WJ, WK, WL, WM, WN, true_and, and_true, reduceCtorEq, ↓reduceIte, ↓bifT, ↓bifF, ↓gifT, ↓gifF, eq_self, WO, WP, WQ, Nat.reduceLT, Nat.reduceLeDiff, Nat.reduceAdd, Nat.reduceSub, Nat.reduceMul, Nat.reduceMod, WR, Nat.reduceBEq, Int.reduceBEq, Int.reduceBNe, BEq.rfl, f_a, f_b, f_n, f_c, f_B, f_v, f_g, f_0, f_1, f_2, hT, hwi, hl]; intro w' hbel; refine Done.out ?_)
    | (clear hN N; first | (refine hN _ ?_; clear hN N) | (clear hN N; first | (refine hN _ ?_; clear hN N) | (clear hN N; first | (refine hN _ ?_; clear hN N) | (clear hN N; first | (refine hN _ ?_; clear hN N) | (clear hN N; first | (refine hN _ ?_; clear hN N) | (refine hN _ ?_; clear hN N))))))
    | (refine bif2.mk (fun hb => ?_) (fun hb => ?_) <;> (try simp only [hb, WS, JA, JB, wI64, wU64, Int.reduceAdd, Int.reduceSub, Int.reduceMul, Int.reduceLE, Int.reduceLT, Int.reduceNeg, Int.reduceToNat, Int.cast_ofNat_Int, sx0, sx1, sx2, sx3, sx4, sx5, sx6, sx7, sy0, sy1, List.filterMap_cons, JC, JD, WT, JE, JF, JG, JH, JI, JJ, JK, WU, JL, JM, JN, JO, WV, JP, JQ, WW, JR, JS, JT, JU, JV, JW, JX, JY, JZ, WA, WB, WC, WD, WE, WF, WG, WH, WI, WJ, WK, WL, WM, WN, true_and, and_true, reduceCtorEq, ↓reduceIte, ↓bifT, ↓bifF, ↓gifT, ↓gifF, eq_self, WO, WP, WQ, Nat.reduceLT, Nat.reduceLeDiff, Nat.reduceAdd, Nat.reduceSub, Nat.reduceMul, Nat.reduceMod, WR, Nat.reduceBEq, Int.reduceBEq, Int.reduceBNe, BEq.rfl, hnt, hT, hl]) <;> ((first | cases hb | (simp only [decide_eq_true_eq, decide_eq_false_iff_not, beq_iff_eq, beq_eq_false_iff_ne, bne_iff_ne, Bool.and_eq_true, Bool.or_eq_true, Bool.not_eq_true', Bool.not_eq_false', Bool.and_eq_false_iff, Bool.or_eq_false_iff, Int.not_lt, Int.not_le] at hb) | skip) <;> (first | (exfalso; omega) | skip)))
    | ((first | (refine Ctr.use (new_to e0) hP ?_ [] ?_ rfl rfl ?_; (focus (intro p hp; cases hp)); (focus (refine LeR.of rfl trivial ?_ ?_ ?_ ?_ ?_ <;> first | decide | (simp only [WS, JA, JB, wI64, wU64, Int.reduceAdd, Int.reduceSub, Int.reduceMul, Int.reduceLE, Int.reduceLT, Int.reduceNeg, Int.reduceToNat, Int.cast_ofNat_Int, sx0, sx1, sx2, sx3, sx4, sx5, sx6, sx7, sy0, sy1, List.filterMap_cons, JC, JD, WT, JE, JF, JG, JH, JI, JJ, JK, WU, JL, JM, JN, JO, WV, JP, JQ, WW, JR, JS, JT, JU, JV, JW, JX, JY, JZ, WA, WB, WC, WD, WE, WF, WG, WH, WI, WJ, WK, WL, WM, WN, true_and, and_true, reduceCtorEq, ↓reduceIte, ↓bifT, ↓bifF, ↓gifT, ↓gifF, eq_self, WO, WP, WQ, Nat.reduceLT, Nat.reduceLeDiff, Nat.reduceAdd, Nat.reduceSub, Nat.reduceMul, Nat.reduceMod, WR, Nat.reduceBEq, Int.reduceBEq, Int.reduceBNe, BEq.rfl, List.getD_cons_zero, List.getD_cons_succ, or_false, false_or, or_self, or_true, true_or, decide_true]; done))); intro os' s hR; obtain ⟨rfl, rfl⟩ := hR) | (refine Ctr.use (state_to i0 h0) hP ?_ [0,1] ?_ rfl rfl ?_; (focus (intro p hp; cases hp)); (focus (refine LeR.of rfl trivial ?_ ?_ ?_ ?_ ?_ <;> first | decide | (simp only [WS, JA, JB, wI64, wU64, Int.reduceAdd, Int.reduceSub, Int.reduceMul, Int.reduceLE, Int.reduceLT, Int.reduceNeg, Int.reduceToNat, Int.cast_ofNat_Int, sx0, sx1, sx2, sx3, sx4, sx5, sx6, sx7, sy0, sy1, List.filterMap_cons, JC, JD, WT, JE, JF, JG, JH, JI, JJ, JK, WU, JL, JM, JN, JO, WV, JP, JQ, WW, JR, JS, JT, JU, JV, JW, JX, JY, JZ, WA, WB, WC, WD, WE, WF, WG, WH, WI, WJ, WK, WL, WM, WN, true_and, and_true, reduceCtorEq, ↓reduceIte, ↓bifT, ↓bifF, ↓gifT, ↓gifF, eq_self, WO, WP, WQ, Nat.reduceLT, Nat.reduceLeDiff, Nat.reduceAdd, Nat.reduceSub, Nat.reduceMul, Nat.reduceMod, WR, Nat.reduceBEq, Int.reduceBEq, Int.reduceBNe, BEq.rfl, List.getD_cons_zero, List.getD_cons_succ, or_false, false_or, or_self, or_true, true_or, decide_true]; done))); intro os' s hR; obtain ⟨rfl, rfl⟩ := hR) | (refine Ctr.use (begin_to i0 (by decide) h1) hP ?_ [0,1] ?_ rfl rfl ?_; (focus (intro p hp; cases hp)); (focus (refine LeR.of rfl trivial ?_ ?_ ?_ ?_ ?_ <;> first | decide | (simp only [WS, JA, JB, wI64, wU64, Int.reduceAdd, Int.reduceSub, Int.reduceMul, Int.reduceLE, Int.reduceLT, Int.reduceNeg, Int.reduceToNat, Int.cast_ofNat_Int, sx0, sx1, sx2, sx3, sx4, sx5, sx6, sx7, sy0, sy1, List.filterMap_cons, JC, JD, WT, JE, JF, JG, JH, JI, JJ, JK, WU, JL, JM, JN, JO, WV, JP, JQ, WW, JR, JS, JT, JU, JV, JW, JX, JY, JZ, WA, WB, WC, WD, WE, WF, WG, WH, WI, WJ, WK, WL, WM, WN, true_and, and_true, reduceCtorEq, ↓reduceIte, ↓bifT, ↓bifF, ↓gifT, ↓gifF, eq_self, WO, WP, WQ, Nat.reduceLT, Nat.reduceLeDiff, Nat.reduceAdd, Nat.reduceSub, Nat.reduceMul, Nat.reduceMod, WR, Nat.reduceBEq, Int.reduceBEq, Int.reduceBNe, BEq.rfl, List.getD_cons_zero, List.getD_cons_succ, or_false, false_or, or_self, or_true, true_or, decide_true]; done))); intro os' s hR; obtain ⟨rfl, rfl⟩ := hR) | (refine Ctr.use (begin_to i1 (by decide) h2) hP ?_ [0,3] ?_ rfl rfl ?_; (focus (intro p hp; cases hp)); (focus (refine LeR.of rfl trivial ?_ ?_ ?_ ?_ ?_ <;> first | decide | (simp only [WS, JA, JB, wI64, wU64, Int.reduceAdd, Int.reduceSub, Int.reduceMul, Int.reduceLE, Int.reduceLT, Int.reduceNeg, Int.reduceToNat, Int.cast_ofNat_Int, sx0, sx1, sx2, sx3, sx4, sx5, sx6, sx7, sy0, sy1, List.filterMap_cons, JC, JD, WT, JE, JF, JG, JH, JI, JJ, JK, WU, JL, JM, JN, JO, WV, JP, JQ, WW, JR, JS, JT, JU, JV, JW, JX, JY, JZ, WA, WB, WC, WD, WE, WF, WG, WH, WI, WJ, WK, WL, WM, WN, true_and, and_true, reduceCtorEq, ↓reduceIte, ↓bifT, ↓bifF, ↓gifT, ↓gifF, eq_self, WO, WP, WQ, Nat.reduceLT, Nat.reduceLeDiff, Nat.reduceAdd, Nat.reduceSub, Nat.reduceMul, Nat.reduceMod, WR, Nat.reduceBEq, Int.reduceBEq, Int.reduceBNe, BEq.rfl, List.getD_cons_zero, List.getD_cons_succ, or_false, false_or, or_self, or_true, true_or, decide_true]; done))); intro os' s hR; obtain ⟨rfl, rfl⟩ := hR) | (refine Ctr.use (note_to i2 (by decide) (by decide) h3 rfl) hP ?_ [0,4] ?_ rfl rfl ?_; (focus (intro p hp; cases hp)); (focus (refine LeR.of rfl trivial ?_ ?_ ?_ ?_ ?_ <;> first | decide | (simp only [WS, JA, JB, wI64, wU64, Int.reduceAdd, Int.reduceSub, Int.reduceMul, Int.reduceLE, Int.reduceLT, Int.reduceNeg, Int.reduceToNat, Int.cast_ofNat_Int, sx0, sx1, sx2, sx3, sx4, sx5, sx6, sx7, sy0, sy1, List.filterMap_cons, JC, JD, WT, JE, JF, JG, JH, JI, JJ, JK, WU, JL, JM, JN, JO, WV, JP, JQ, WW, JR, JS, JT, JU, JV, JW, JX, JY, JZ, WA, WB, WC, WD, WE, WF, WG, WH, WI, WJ, WK, WL, WM, WN, true_and, and_true, reduceCtorEq, ↓reduceIte, ↓bifT, ↓bifF, ↓gifT, ↓gifF, eq_self, WO, WP, WQ, Nat.reduceLT, Nat.reduceLeDiff, Nat.reduceAdd, Nat.reduceSub, Nat.reduceMul, Nat.reduceMod, WR, Nat.reduceBEq, Int.reduceBEq, Int.reduceBNe, BEq.rfl, List.getD_cons_zero, List.getD_cons_succ, or_false, false_or, or_self, or_true, true_or, decide_true]; done))); intro os' s hR; obtain ⟨rfl, rfl⟩ := hR) | (refine Ctr.use (state_to i3 h4) hP ?_ [0,5] ?_ rfl rfl ?_; (focus (intro p hp; cases hp)); (focus (refine LeR.of rfl trivial ?_ ?_ ?_ ?_ ?_ <;> first | decide | (simp only [WS, JA, JB, wI64, wU64, Int.reduceAdd, Int.reduceSub, Int.reduceMul, Int.reduceLE, Int.reduceLT, Int.reduceNeg, Int.reduceToNat, Int.cast_ofNat_Int, sx0, sx1, sx2, sx3, sx4, sx5, sx6, sx7, sy0, sy1, List.filterMap_cons, JC, JD, WT, JE, JF, JG, JH, JI, JJ, JK, WU, JL, JM, JN, JO, WV, JP, JQ, WW, JR, JS, JT, JU, JV, JW, JX, JY, JZ, WA, WB, WC, WD, WE, WF, WG, WH, WI, WJ, WK, WL, WM, WN, true_and, and_true, reduceCtorEq, ↓reduceIte, ↓bifT, ↓bifF, ↓gifT, ↓gifF, eq_self, WO, WP, WQ, Nat.reduceLT, Nat.reduceLeDiff, Nat.reduceAdd, Nat.reduceSub, Nat.reduceMul, Nat.reduceMod, WR, Nat.reduceBEq, Int.reduceBEq, Int.reduceBNe, BEq.rfl, List.getD_cons_zero, List.getD_cons_succ, or_false, false_or, or_self, or_true, true_or, decide_true]; done))); intro os' s hR; obtain ⟨rfl, rfl⟩ := hR) | (refine Ctr.use (note_to i3 (by decide) (by decide) h5 rfl) hP ?_ [0,5] ?_ rfl rfl ?_; (focus (intro p hp; cases hp)); (focus (refine LeR.of rfl trivial ?_ ?_ ?_ ?_ ?_ <;> first | decide | (simp only [WS, JA, JB, wI64, wU64, Int.reduceAdd, Int.reduceSub, Int.reduceMul, Int.reduceLE, Int.reduceLT, Int.reduceNeg, Int.reduceToNat, Int.cast_ofNat_Int, sx0, sx1, sx2, sx3, sx4, sx5, sx6, sx7, sy0, sy1, List.filterMap_cons, JC, JD, WT, JE, JF, JG, JH, JI, JJ, JK, WU, JL, JM, JN, JO, WV, JP, JQ, WW, JR, JS, JT, JU, JV, JW, JX, JY, JZ, WA, WB, WC, WD, WE, WF, WG, WH, WI, WJ, WK, WL, WM, WN, true_and, and_true, reduceCtorEq, ↓reduceIte, ↓bifT, ↓bifF, ↓gifT, ↓gifF, eq_self, WO, WP, WQ, Nat.reduceLT, Nat.reduceLeDiff, Nat.reduceAdd, Nat.reduceSub, Nat.reduceMul, Nat.reduceMod, WR, Nat.reduceBEq, Int.reduceBEq, Int.reduceBNe, BEq.rfl, List.getD_cons_zero, List.getD_cons_succ, or_false, false_or, or_self, or_true, true_or, decide_true]; done))); intro os' s hR; obtain ⟨rfl, rfl⟩ := hR) | (refine Ctr.use (marks_any m3 i3) hP ?_ [0,6] ?_ rfl rfl ?_; (focus (intro p hp; cases hp)); (focus (refine LeR.of rfl trivial ?_ ?_ ?_ ?_ ?_ <;> first | decide | (simp only [WS, JA, JB, wI64, wU64, Int.reduceAdd, Int.reduceSub, Int.reduceMul, Int.reduceLE, Int.reduceLT, Int.reduceNeg, Int.reduceToNat, Int.cast_ofNat_Int, sx0, sx1, sx2, sx3, sx4, sx5, sx6, sx7, sy0, sy1, List.filterMap_cons, JC, JD, WT, JE, JF, JG, JH, JI, JJ, JK, WU, JL, JM, JN, JO, WV, JP, JQ, WW, JR, JS, JT, JU, JV, JW, JX, JY, JZ, WA, WB, WC, WD, WE, WF, WG, WH, WI, WJ, WK, WL, WM, WN, true_and, and_true, reduceCtorEq, ↓reduceIte, ↓bifT, ↓bifF, ↓gifT, ↓gifF, eq_self, WO, WP, WQ, Nat.reduceLT, Nat.reduceLeDiff, Nat.reduceAdd, Nat.reduceSub, Nat.reduceMul, Nat.reduceMod, WR, Nat.reduceBEq, Int.reduceBEq, Int.reduceBNe, BEq.rfl, List.getD_cons_zero, List.getD_cons_succ, or_false, false_or, or_self, or_true, true_or, decide_true]; done))); intro os' s hR; obtain ⟨rfl, rfl⟩ := hR) | (refine VO.ptrNil rfl rfl (by rw [hP]; exact Tryd.underlying47) ?_)); simp only [WS, JA, JB, wI64, wU64, Int.reduceAdd, Int.reduceSub, Int.reduceMul, Int.reduceLE, Int.reduceLT, Int.reduceNeg, Int.reduceToNat, Int.cast_ofNat_Int, sx0, sx1, sx2, sx3, sx4, sx5, sx6, sx7, sy0, sy1, List.filterMap_cons, JC, JD, WT, JE, JF, JG, JH, JI, JJ, JK, WU, JL, JM, JN, JO, WV, JP, JQ, WW, JR, JS, JT, JU, JV, JW, JX, JY, JZ, WA, WB, WC, WD, WE, WF, WG, WH, WI, WJ, WK, WL, WM, WN, true_and, and_true, reduceCtorEq, ↓reduceIte, ↓bifT, ↓bifF, ↓gifT, ↓gifF, eq_self, WO, WP, WQ, Nat.reduceLT, Nat.reduceLeDiff, Nat.reduceAdd, Nat.reduceSub, Nat.reduceMul, Nat.reduceMod, WR, Nat.reduceBEq, Int.reduceBEq, Int.reduceBNe, BEq.rfl, hnt, hT, hl])
    | (refine SX.block ?_)
    | (refine and_mk ?_ ?_; (focus first | decide | omega | rfl | assumption | (simp only [List.length_append, List.length_cons, List.length_nil, B_size]; omega) | (simp; done)))
    | (refine And.intro ?_ ?_))
  all_goals (try refine Done.mk ?_)
  all_goals first | exact hbel | exact ⟨rfl, hbel⟩
end Go.Proofs.YtbdacbcpniegiaaDoor
