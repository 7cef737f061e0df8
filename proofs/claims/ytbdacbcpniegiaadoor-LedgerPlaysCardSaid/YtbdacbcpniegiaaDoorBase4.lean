/- Own work: a part of the symbolic executor and of the walks of the functions that the claim reaches. -/
import Derived.Test.YtbdacbcpniegiaaDoorBase3
namespace Go.Proofs.YtbdacbcpniegiaaDoor
open Go Go.RowKit Go.Proofs Go.Sx
set_option maxHeartbeats 4000000
set_option maxRecDepth 100000
set_option linter.unusedSimpArgs false
set_option linter.unusedVariables false
def led (ms : List Mk) : List LO := [.cells [.row 1] 148, mrow ms]
theorem erase_ctr (ms : List Mk) (hms : ms.length ≤ 1000000) : Ctr Tryd.prog [] 34 [.cells [.row 1] 148, mrow ms] [.one (.c (.loc 0 0))]
    (fun os v => os = [.cells [.row 2] 148, .gone, mrow (ms.filter fun m => !isPend m)] ∧ v = .tup []) := by
  intro X0 hP0 hG0 N0 hN0
  refine CallVC.inline (f := 34) (by rw [hP0]; exact Tryd.func34) rfl Tryd.ntmps34 rfl (by simp) ?_
  intro X K hU hnt hbl hK
  have hP : X.P = Tryd.prog := by rw [hU.P, hP0]
  have hG := hG0.under hU
  have hT : fieldOff X.P 148 0 = some 0 ∧ aggOf X.P 59 = some false ∧ szOf X.P 59 = some 1 ∧ calleeOk X.P 87 = true := by rw [hP]; exact ⟨Ty.fo148_0, Ty.ag59, Ty.sz59, Ty.co87⟩
  simp only [GA, ↓GB, List.filterMap_cons, eq_self, BEq.rfl, simprocAttr] at hbl ⊢
  repeat' (first
    | (refine SX.seqK ?_; intro N hN)
    | ((first | (refine SX.ops ?_)); simp only [GA, ↓GB, List.filterMap_cons, eq_self, BEq.rfl, simprocAttr, hnt, hT])
    | ((first | refine SX.skip ?_ | refine SX.exit ?_ | refine SX.label ?_); try simp only [GA, ↓GB, List.filterMap_cons, eq_self, BEq.rfl, simprocAttr])
    | (refine SX.cond rfl (fun hb => ?_) (fun hb => ?_) <;> ((first | cases hb | (simp only [decide_eq_true_eq, decide_eq_false_iff_not, beq_iff_eq, beq_eq_false_iff_ne, bne_iff_ne, Bool.and_eq_true, Bool.or_eq_true, Bool.not_eq_true', Bool.not_eq_false', Bool.and_eq_false_iff, Bool.or_eq_false_iff, Int.not_lt, Int.not_le] at hb) | skip) <;> (first | (exfalso; omega) | skip)))
    | (refine SX.ret ?_; try simp only [GA, ↓GB, List.filterMap_cons, eq_self, BEq.rfl, simprocAttr])
    | (refine hN _ ?_; clear hN N)
    | ((first | refine hK _ _ (FinI.ret3 ?_) | refine hK _ _ (FinI.nrm3 ?_)); simp only [GA, ↓GB, List.filterMap_cons, eq_self, BEq.rfl, simprocAttr, finP_s, hnt, hT]; refine Done.out ?_)
    | (clear hN N; first | (refine hN _ ?_; clear hN N) | (clear hN N; first | (refine hN _ ?_; clear hN N) | (clear hN N; first | (refine hN _ ?_; clear hN N) | (clear hN N; first | (refine hN _ ?_; clear hN N) | (clear hN N; first | (refine hN _ ?_; clear hN N) | (refine hN _ ?_; clear hN N))))))
    | (refine bif2.mk (fun hb => ?_) (fun hb => ?_) <;> (try simp only [hb, GA, ↓GB, List.filterMap_cons, eq_self, BEq.rfl, simprocAttr, hnt, hT]) <;> ((first | cases hb | (simp only [decide_eq_true_eq, decide_eq_false_iff_not, beq_iff_eq, beq_eq_false_iff_ne, bne_iff_ne, Bool.and_eq_true, Bool.or_eq_true, Bool.not_eq_true', Bool.not_eq_false', Bool.and_eq_false_iff, Bool.or_eq_false_iff, Int.not_lt, Int.not_le] at hb) | skip) <;> (first | (exfalso; omega) | skip)))
    | ((first | (refine Ctr.use (deleteFuncE ms hms) hP ?_ [1] ?_ rfl rfl ?_; (focus (intro p hp; cases hp)); (focus (refine LeR.of rfl trivial ?_ ?_ ?_ ?_ ?_ <;> first | decide | (simp only [GA, ↓GB, List.filterMap_cons, eq_self, BEq.rfl, simprocAttr, List.getD_cons_zero, List.getD_cons_succ, or_false, false_or, or_self, or_true, true_or, decide_true]; done))); intro os' s hR; obtain ⟨rfl, rfl⟩ := hR)); simp only [GA, ↓GB, List.filterMap_cons, eq_self, BEq.rfl, simprocAttr, hnt, hT])
    | (refine SX.block ?_)
    | (refine and_mk ?_ ?_; (focus first | decide | omega | rfl | assumption | (simp only [List.length_append, List.length_cons, List.length_nil, B_size]; omega) | (simp; done)))
    | (refine And.intro ?_ ?_))
  all_goals (try refine Done.mk ?_)
  all_goals exact hN0 _ _ ⟨rfl, rfl⟩
def askM (t : Int) (s : List UInt8) (q : Int) : Mk := ⟨t, s, q, 0, []⟩
def hasM (ms : List Mk) (x : Mk) : Bool := decide (bsN ms x < ms.length) && decide (cmpM (ms.getD (bsN ms x) default) x = 0)
theorem find_yes (ms : List Mk) (hms : ms.length ≤ 1000000) (t : Int) (s : List UInt8) (q : Int) (hs : Sorted2 ms (askM t s q)) (hf : hasM ms (askM t s q) = true) : Ctr Tryd.prog [] 89 [.cells [.row 1] 148, mrow ms] [.one (.c (.loc 0 0)), .one (.agg [.v (.int .i64 t), .v (.string (B s))]), vv (.int .u64 q)]
    (fun os v => os = [.cells [.row 1] 148, mrow ms] ∧ v = .tup [.c (.ri 1 (bsN ms (askM t s q) * 5)), .c (.v (.bool true))]) := by
  refine Ctr.less ?_
  have hf2 := hf
  simp only [hasM, Bool.and_eq_true, decide_eq_true_eq] at hf2
  have hc1 : decide (bsN ms (askM t s q) < ms.length) = true := by simp [hf2.1]
  have hc2 : decide (cmpM (ms.getD (bsN ms (askM t s q)) default) (askM t s q) = 0) = true := decide_eq_true hf2.2
  have hlt := hf2.1
  intro X0 hP0 hG0 N0 hN0
  refine CallVC.inline (f := 89) (by rw [hP0]; exact Tryd.func89) rfl Tryd.ntmps89 rfl (by simp) ?_
  intro X K hU hnt hbl hK
  have hP : X.P = Tryd.prog := by rw [hU.P, hP0]
  have hG := hG0.under hU
  have hT : fieldOff X.P 148 0 = some 0 ∧ aggOf X.P 59 = some false ∧ szOf X.P 59 = some 1 ∧ aggOf X.P 26 = some true ∧ szOf X.P 26 = some 2 ∧ fieldsOf X.P 62 = some [(0, 2), (2, 1), (3, 1), (4, 1)] ∧ zeroCells X.P 62 = some [(Value.int IntKind.i64 0), (Value.string { data := #[] }), (Value.int IntKind.u64 0), (Value.int IntKind.i64 0), (Value.string { data := #[] })] ∧ calleeOk X.P 81 = true ∧ elemSz X.P 59 = some (62, 5) := by rw [hP]; exact ⟨Ty.fo148_0, Ty.ag59, Ty.sz59, Ty.ag26, Ty.sz26, Ty.fs62, Ty.ze62, Ty.co81, Ty.el59⟩
  simp only [GA, ↓GB, List.filterMap_cons, eq_self, BEq.rfl, simprocAttr] at hbl ⊢
  repeat' (first
    | (refine SX.seqK ?_; intro N hN)
    | ((first | (refine SX.ops ?_) | (refine SX.planT (id := 1) [.q [(0, [0]), (1, [11]), (2, [12]), (3, [13]), (4, [4]), (5, [2]), (6, [15, 16])] none, .s 7, .s 8, .q [(9, [10]), (10, [10]), (11, [19]), (12, [20])] none] ?_ ?_ ?_; (focus first | (rw [hP]; kernel_rfl) | (rw [hU1P, hP]; kernel_rfl)); (focus kernel_rfl))); simp only [GA, ↓GB, List.filterMap_cons, eq_self, BEq.rfl, simprocAttr, hnt, hT, hc1, hc2])
    | ((first | refine SX.skip ?_ | refine SX.exit ?_ | refine SX.label ?_); try simp only [GA, ↓GB, List.filterMap_cons, eq_self, BEq.rfl, simprocAttr])
    | (refine SX.cond rfl (fun hb => ?_) (fun hb => ?_) <;> ((first | cases hb | (simp only [decide_eq_true_eq, decide_eq_false_iff_not, beq_iff_eq, beq_eq_false_iff_ne, bne_iff_ne, Bool.and_eq_true, Bool.or_eq_true, Bool.not_eq_true', Bool.not_eq_false', Bool.and_eq_false_iff, Bool.or_eq_false_iff, Int.not_lt, Int.not_le] at hb) | skip) <;> (first | (exfalso; omega) | skip)))
    | (refine SX.ret ?_; try simp only [GA, ↓GB, List.filterMap_cons, eq_self, BEq.rfl, simprocAttr])
    | (refine hN _ ?_; clear hN N)
    | ((first | refine hK _ _ (FinI.ret3 ?_) | refine hK _ _ (FinI.nrm3 ?_)); simp only [GA, ↓GB, List.filterMap_cons, eq_self, BEq.rfl, simprocAttr, finP_s, hnt, hT, hc1, hc2]; refine Done.out ?_)
    | (clear hN N; first | (refine hN _ ?_; clear hN N) | (clear hN N; first | (refine hN _ ?_; clear hN N) | (clear hN N; first | (refine hN _ ?_; clear hN N) | (clear hN N; first | (refine hN _ ?_; clear hN N) | (clear hN N; first | (refine hN _ ?_; clear hN N) | (refine hN _ ?_; clear hN N))))))
    | (refine bif2.mk (fun hb => ?_) (fun hb => ?_) <;> (try simp only [hb, GA, ↓GB, List.filterMap_cons, eq_self, BEq.rfl, simprocAttr, hnt, hT, hc1, hc2]) <;> ((first | cases hb | (simp only [decide_eq_true_eq, decide_eq_false_iff_not, beq_iff_eq, beq_eq_false_iff_ne, bne_iff_ne, Bool.and_eq_true, Bool.or_eq_true, Bool.not_eq_true', Bool.not_eq_false', Bool.and_eq_false_iff, Bool.or_eq_false_iff, Int.not_lt, Int.not_le] at hb) | skip) <;> (first | (exfalso; omega) | skip)))
    | ((first | (refine Ctr.use (search_ctr ms hms (askM t s q) hs) hP ?_ [1] ?_ rfl rfl ?_; (focus (intro p hp; cases hp)); (focus (refine LeR.of rfl trivial ?_ ?_ ?_ ?_ ?_ <;> first | decide | (simp only [GA, ↓GB, List.filterMap_cons, eq_self, BEq.rfl, simprocAttr, List.getD_cons_zero, List.getD_cons_succ, or_false, false_or, or_self, or_true, true_or, decide_true]; done))); intro os' s hR; obtain ⟨rfl, rfl⟩ := hR)); simp only [GA, ↓GB, List.filterMap_cons, eq_self, BEq.rfl, simprocAttr, hnt, hT, hc1, hc2])
    | (refine ⟨by omega, by omega, ?_⟩)
    | (refine SX.block ?_)
    | (refine and_mk ?_ ?_; (focus first | decide | omega | rfl | assumption | (simp only [List.length_append, List.length_cons, List.length_nil, B_size]; omega) | (simp; done)))
    | (refine And.intro ?_ ?_))
  all_goals (try refine Done.mk ?_)
  all_goals ((refine hN0 _ _ ⟨[0, 1], _, _, ?_, ?_, ?_, ⟨rfl, rfl⟩⟩; (focus exact LeR.of rfl trivial (by simp only [GA, ↓GB, List.filterMap_cons, eq_self, BEq.rfl, simprocAttr, List.getD_cons_zero, List.getD_cons_succ, or_false, false_or, or_self, or_true, true_or, decide_true]) (by decide) rfl rfl rfl); rotate_left; (focus rfl)); rfl)
theorem find_no (ms : List Mk) (hms : ms.length ≤ 1000000) (t : Int) (s : List UInt8) (q : Int) (hs : Sorted2 ms (askM t s q)) (hf : hasM ms (askM t s q) = false) : Ctr Tryd.prog [] 89 [.cells [.row 1] 148, mrow ms] [.one (.c (.loc 0 0)), .one (.agg [.v (.int .i64 t), .v (.string (B s))]), vv (.int .u64 q)]
    (fun os v => os = [.cells [.row 1] 148, mrow ms] ∧ v = .tup [.c (.v (.pointer none)), .c (.v (.bool false))]) := by
  refine Ctr.less ?_
  simp only [hasM] at hf
  intro X0 hP0 hG0 N0 hN0
  refine CallVC.inline (f := 89) (by rw [hP0]; exact Tryd.func89) rfl Tryd.ntmps89 rfl (by simp) ?_
  intro X K hU hnt hbl hK
  have hP : X.P = Tryd.prog := by rw [hU.P, hP0]
  have hG := hG0.under hU
  have hT : fieldOff X.P 148 0 = some 0 ∧ aggOf X.P 59 = some false ∧ szOf X.P 59 = some 1 ∧ aggOf X.P 26 = some true ∧ szOf X.P 26 = some 2 ∧ fieldsOf X.P 62 = some [(0, 2), (2, 1), (3, 1), (4, 1)] ∧ zeroCells X.P 62 = some [(Value.int IntKind.i64 0), (Value.string { data := #[] }), (Value.int IntKind.u64 0), (Value.int IntKind.i64 0), (Value.string { data := #[] })] ∧ calleeOk X.P 81 = true ∧ elemSz X.P 59 = some (62, 5) := by rw [hP]; exact ⟨Ty.fo148_0, Ty.ag59, Ty.sz59, Ty.ag26, Ty.sz26, Ty.fs62, Ty.ze62, Ty.co81, Ty.el59⟩
  simp only [GA, ↓GB, List.filterMap_cons, eq_self, BEq.rfl, simprocAttr] at hbl ⊢
  repeat' (first
    | (refine SX.seqK ?_; intro N hN)
    | ((first | (refine SX.ops ?_) | (refine SX.planT (id := 1) [.q [(0, [0]), (1, [11]), (2, [12]), (3, [13]), (4, [4]), (5, [2]), (6, [15, 16])] none, .s 7, .s 8, .q [(9, [10]), (10, [10]), (11, [19]), (12, [20])] none] ?_ ?_ ?_; (focus first | (rw [hP]; kernel_rfl) | (rw [hU1P, hP]; kernel_rfl)); (focus kernel_rfl))); simp only [GA, ↓GB, List.filterMap_cons, eq_self, BEq.rfl, simprocAttr, hnt, hT, hf])
    | ((first | refine SX.skip ?_ | refine SX.exit ?_ | refine SX.label ?_); try simp only [GA, ↓GB, List.filterMap_cons, eq_self, BEq.rfl, simprocAttr])
    | (refine SX.cond rfl (fun hb => ?_) (fun hb => ?_) <;> ((first | cases hb | (simp only [decide_eq_true_eq, decide_eq_false_iff_not, beq_iff_eq, beq_eq_false_iff_ne, bne_iff_ne, Bool.and_eq_true, Bool.or_eq_true, Bool.not_eq_true', Bool.not_eq_false', Bool.and_eq_false_iff, Bool.or_eq_false_iff, Int.not_lt, Int.not_le] at hb) | skip) <;> (first | (exfalso; omega) | skip)))
    | (refine SX.ret ?_; try simp only [GA, ↓GB, List.filterMap_cons, eq_self, BEq.rfl, simprocAttr])
    | (refine hN _ ?_; clear hN N)
    | ((first | refine hK _ _ (FinI.ret3 ?_) | refine hK _ _ (FinI.nrm3 ?_)); simp only [GA, ↓GB, List.filterMap_cons, eq_self, BEq.rfl, simprocAttr, finP_s, hnt, hT, hf]; refine Done.out ?_)
    | (clear hN N; first | (refine hN _ ?_; clear hN N) | (clear hN N; first | (refine hN _ ?_; clear hN N) | (clear hN N; first | (refine hN _ ?_; clear hN N) | (clear hN N; first | (refine hN _ ?_; clear hN N) | (clear hN N; first | (refine hN _ ?_; clear hN N) | (refine hN _ ?_; clear hN N))))))
    | (refine bif2.mk (fun hb => ?_) (fun hb => ?_) <;> (try simp only [hb, GA, ↓GB, List.filterMap_cons, eq_self, BEq.rfl, simprocAttr, hnt, hT, hf]) <;> ((first | cases hb | (simp only [decide_eq_true_eq, decide_eq_false_iff_not, beq_iff_eq, beq_eq_false_iff_ne, bne_iff_ne, Bool.and_eq_true, Bool.or_eq_true, Bool.not_eq_true', Bool.not_eq_false', Bool.and_eq_false_iff, Bool.or_eq_false_iff, Int.not_lt, Int.not_le] at hb) | skip) <;> (first | (exfalso; omega) | skip)))
    | ((first | (refine Ctr.use (search_ctr ms hms (askM t s q) hs) hP ?_ [1] ?_ rfl rfl ?_; (focus (intro p hp; cases hp)); (focus (refine LeR.of rfl trivial ?_ ?_ ?_ ?_ ?_ <;> first | decide | (simp only [GA, ↓GB, List.filterMap_cons, eq_self, BEq.rfl, simprocAttr, List.getD_cons_zero, List.getD_cons_succ, or_false, false_or, or_self, or_true, true_or, decide_true]; done))); intro os' s hR; obtain ⟨rfl, rfl⟩ := hR)); simp only [GA, ↓GB, List.filterMap_cons, eq_self, BEq.rfl, simprocAttr, hnt, hT, hf])
    | (refine ⟨by omega, by omega, ?_⟩)
    | (refine SX.block ?_)
    | (refine and_mk ?_ ?_; (focus first | decide | omega | rfl | assumption | (simp only [List.length_append, List.length_cons, List.length_nil, B_size]; omega) | (simp; done)))
    | (refine And.intro ?_ ?_))
  all_goals (try refine Done.mk ?_)
  all_goals ((refine hN0 _ _ ⟨[0, 1], _, _, ?_, ?_, ?_, ⟨rfl, rfl⟩⟩; (focus exact LeR.of rfl trivial (by simp only [GA, ↓GB, List.filterMap_cons, eq_self, BEq.rfl, simprocAttr, List.getD_cons_zero, List.getD_cons_succ, or_false, false_or, or_self, or_true, true_or, decide_true]) (by decide) rfl rfl rfl); rotate_left; (focus rfl)); rfl)
theorem mks_cell (ms : List Mk) (i j : Nat) (h : i < ms.length) (hj : j < 5) : (mks ms)[i * 5 + j]? = (ms.getD i default).cells[j]? := by
  rw [← mks_at ms i h, List.getElem?_take_of_lt hj, List.getElem?_drop]
theorem mks_st (ms : List Mk) (i : Nat) (h : i < ms.length) : (mks ms)[i * 5 + 3]? = some (.int .i64 (ms.getD i default).st) := by rw [mks_cell ms i 3 h (by decide)]; rfl
theorem mks_d (ms : List Mk) (i : Nat) (h : i < ms.length) : (mks ms)[i * 5 + 4]? = some (.string (B (ms.getD i default).d)) := by rw [mks_cell ms i 4 h (by decide)]; rfl
theorem state_yes (ms : List Mk) (hms : ms.length ≤ 1000000) (t : Int) (s : List UInt8) (q : Int) (hs : Sorted2 ms (askM t s q)) (hf : hasM ms (askM t s q) = true) : Ctr Tryd.prog [] 30 [.cells [.row 1] 148, mrow ms] [.one (.c (.loc 0 0)), .one (.agg [.v (.int .i64 t), .v (.string (B s))]), vv (.int .u64 q)]
    (fun os v => os = [.cells [.row 1] 148, mrow ms] ∧ v = .tup [.c (.v (.int .i64 (ms.getD (bsN ms (askM t s q)) default).st)), .c (.v (.string (B (ms.getD (bsN ms (askM t s q)) default).d)))]) := by
  refine Ctr.less ?_
  have hlt : bsN ms (askM t s q) < ms.length := by
    simp only [hasM, Bool.and_eq_true, decide_eq_true_eq] at hf
    exact hf.1
  intro X0 hP0 hG0 N0 hN0
  refine CallVC.inline (f := 30) (by rw [hP0]; exact Tryd.func30) rfl Tryd.ntmps30 rfl (by simp) ?_
  intro X K hU hnt hbl hK
  have hP : X.P = Tryd.prog := by rw [hU.P, hP0]
  have hG := hG0.under hU
  have hT : aggOf X.P 26 = some true ∧ szOf X.P 26 = some 2 ∧ calleeOk X.P 89 = true ∧ fieldOff X.P 62 2 = some 3 ∧ aggOf X.P 3 = some false ∧ szOf X.P 3 = some 1 ∧ fieldOff X.P 62 3 = some 4 ∧ aggOf X.P 9 = some false ∧ szOf X.P 9 = some 1 := by rw [hP]; exact ⟨Ty.ag26, Ty.sz26, Ty.co89, Ty.fo62_2, Ty.ag3, Ty.sz3, Ty.fo62_3, Ty.ag9, Ty.sz9⟩
  simp only [GA, ↓GB, List.filterMap_cons, eq_self, BEq.rfl, simprocAttr] at hbl ⊢
  repeat' (first
    | (refine SX.seqK ?_; intro N hN)
    | ((first | (refine SX.ops ?_) | (refine SX.planT (id := 4) [.q [(0, [8]), (1, [19]), (2, [20]), (3, [21]), (4, [8]), (5, [23]), (6, [24]), (7, [25]), (8, [22]), (9, [26])] none] ?_ ?_ ?_; (focus first | (rw [hP]; kernel_rfl) | (rw [hU1P, hP]; kernel_rfl)); (focus kernel_rfl))); simp only [GA, ↓GB, List.filterMap_cons, eq_self, BEq.rfl, simprocAttr, hnt, hT])
    | ((first | refine SX.skip ?_ | refine SX.exit ?_ | refine SX.label ?_); try simp only [GA, ↓GB, List.filterMap_cons, eq_self, BEq.rfl, simprocAttr])
    | (refine SX.cond rfl (fun hb => ?_) (fun hb => ?_) <;> ((first | cases hb | (simp only [decide_eq_true_eq, decide_eq_false_iff_not, beq_iff_eq, beq_eq_false_iff_ne, bne_iff_ne, Bool.and_eq_true, Bool.or_eq_true, Bool.not_eq_true', Bool.not_eq_false', Bool.and_eq_false_iff, Bool.or_eq_false_iff, Int.not_lt, Int.not_le] at hb) | skip) <;> (first | (exfalso; omega) | skip)))
    | (refine SX.ret ?_; try simp only [GA, ↓GB, List.filterMap_cons, eq_self, BEq.rfl, simprocAttr])
    | (refine hN _ ?_; clear hN N)
    | ((first | refine hK _ _ (FinI.ret3 ?_) | refine hK _ _ (FinI.nrm3 ?_)); simp only [GA, ↓GB, List.filterMap_cons, eq_self, BEq.rfl, simprocAttr, finP_s, hnt, hT]; refine Done.out ?_)
    | (clear hN N; first | (refine hN _ ?_; clear hN N) | (clear hN N; first | (refine hN _ ?_; clear hN N) | (clear hN N; first | (refine hN _ ?_; clear hN N) | (clear hN N; first | (refine hN _ ?_; clear hN N) | (clear hN N; first | (refine hN _ ?_; clear hN N) | (refine hN _ ?_; clear hN N))))))
    | (refine bif2.mk (fun hb => ?_) (fun hb => ?_) <;> (try simp only [hb, GA, ↓GB, List.filterMap_cons, eq_self, BEq.rfl, simprocAttr, hnt, hT]) <;> ((first | cases hb | (simp only [decide_eq_true_eq, decide_eq_false_iff_not, beq_iff_eq, beq_eq_false_iff_ne, bne_iff_ne, Bool.and_eq_true, Bool.or_eq_true, Bool.not_eq_true', Bool.not_eq_false', Bool.and_eq_false_iff, Bool.or_eq_false_iff, Int.not_lt, Int.not_le] at hb) | skip) <;> (first | (exfalso; omega) | skip)))
    | ((first | (refine Ctr.use (find_yes ms hms t s q hs hf) hP ?_ [0,1] ?_ rfl rfl ?_; (focus (intro p hp; cases hp)); (focus (refine LeR.of rfl trivial ?_ ?_ ?_ ?_ ?_ <;> first | decide | (simp only [GA, ↓GB, List.filterMap_cons, eq_self, BEq.rfl, simprocAttr, List.getD_cons_zero, List.getD_cons_succ, or_false, false_or, or_self, or_true, true_or, decide_true]; done))); intro os' s hR; obtain ⟨rfl, rfl⟩ := hR)); simp only [GA, ↓GB, List.filterMap_cons, eq_self, BEq.rfl, simprocAttr, hnt, hT])
    | (refine ⟨_, mks_st ms _ hlt, ?_⟩)
    | (refine ⟨_, mks_d ms _ hlt, ?_⟩)
    | (refine SX.block ?_)
    | (refine and_mk ?_ ?_; (focus first | decide | omega | rfl | assumption | (simp only [List.length_append, List.length_cons, List.length_nil, B_size]; omega) | (simp; done)))
    | (refine And.intro ?_ ?_))
  all_goals (try refine Done.mk ?_)
  all_goals ((refine hN0 _ _ ⟨[0, 1], _, _, ?_, ?_, ?_, ⟨rfl, rfl⟩⟩; (focus exact LeR.of rfl trivial (by simp only [GA, ↓GB, List.filterMap_cons, eq_self, BEq.rfl, simprocAttr, List.getD_cons_zero, List.getD_cons_succ, or_false, false_or, or_self, or_true, true_or, decide_true]) (by decide) rfl rfl rfl); rotate_left; (focus rfl)); rfl)
theorem state_no (ms : List Mk) (hms : ms.length ≤ 1000000) (t : Int) (s : List UInt8) (q : Int) (hs : Sorted2 ms (askM t s q)) (hf : hasM ms (askM t s q) = false) : Ctr Tryd.prog [] 30 [.cells [.row 1] 148, mrow ms] [.one (.c (.loc 0 0)), .one (.agg [.v (.int .i64 t), .v (.string (B s))]), vv (.int .u64 q)]
    (fun os v => os = [.cells [.row 1] 148, mrow ms] ∧ v = .tup [.c (.v (.int .i64 0)), .c (.v (.string (B [])))]) := by
  refine Ctr.less ?_
  intro X0 hP0 hG0 N0 hN0
  refine CallVC.inline (f := 30) (by rw [hP0]; exact Tryd.func30) rfl Tryd.ntmps30 rfl (by simp) ?_
  intro X K hU hnt hbl hK
  have hP : X.P = Tryd.prog := by rw [hU.P, hP0]
  have hG := hG0.under hU
  have hT : aggOf X.P 26 = some true ∧ szOf X.P 26 = some 2 ∧ calleeOk X.P 89 = true ∧ fieldOff X.P 62 2 = some 3 ∧ aggOf X.P 3 = some false ∧ szOf X.P 3 = some 1 ∧ fieldOff X.P 62 3 = some 4 ∧ aggOf X.P 9 = some false ∧ szOf X.P 9 = some 1 := by rw [hP]; exact ⟨Ty.ag26, Ty.sz26, Ty.co89, Ty.fo62_2, Ty.ag3, Ty.sz3, Ty.fo62_3, Ty.ag9, Ty.sz9⟩
  simp only [GA, ↓GB, List.filterMap_cons, eq_self, BEq.rfl, simprocAttr] at hbl ⊢
  repeat' (first
    | (refine SX.seqK ?_; intro N hN)
    | ((first | (refine SX.ops ?_) | (refine SX.planT (id := 4) [.q [(0, [8]), (1, [19]), (2, [20]), (3, [21]), (4, [8]), (5, [23]), (6, [24]), (7, [25]), (8, [22]), (9, [26])] none] ?_ ?_ ?_; (focus first | (rw [hP]; kernel_rfl) | (rw [hU1P, hP]; kernel_rfl)); (focus kernel_rfl))); simp only [GA, ↓GB, List.filterMap_cons, eq_self, BEq.rfl, simprocAttr, hnt, hT])
    | ((first | refine SX.skip ?_ | refine SX.exit ?_ | refine SX.label ?_); try simp only [GA, ↓GB, List.filterMap_cons, eq_self, BEq.rfl, simprocAttr])
    | (refine SX.cond rfl (fun hb => ?_) (fun hb => ?_) <;> ((first | cases hb | (simp only [decide_eq_true_eq, decide_eq_false_iff_not, beq_iff_eq, beq_eq_false_iff_ne, bne_iff_ne, Bool.and_eq_true, Bool.or_eq_true, Bool.not_eq_true', Bool.not_eq_false', Bool.and_eq_false_iff, Bool.or_eq_false_iff, Int.not_lt, Int.not_le] at hb) | skip) <;> (first | (exfalso; omega) | skip)))
    | (refine SX.ret ?_; try simp only [GA, ↓GB, List.filterMap_cons, eq_self, BEq.rfl, simprocAttr])
    | (refine hN _ ?_; clear hN N)
    | ((first | refine hK _ _ (FinI.ret3 ?_) | refine hK _ _ (FinI.nrm3 ?_)); simp only [GA, ↓GB, List.filterMap_cons, eq_self, BEq.rfl, simprocAttr, finP_s, hnt, hT]; refine Done.out ?_)
    | (clear hN N; first | (refine hN _ ?_; clear hN N) | (clear hN N; first | (refine hN _ ?_; clear hN N) | (clear hN N; first | (refine hN _ ?_; clear hN N) | (clear hN N; first | (refine hN _ ?_; clear hN N) | (clear hN N; first | (refine hN _ ?_; clear hN N) | (refine hN _ ?_; clear hN N))))))
    | (refine bif2.mk (fun hb => ?_) (fun hb => ?_) <;> (try simp only [hb, GA, ↓GB, List.filterMap_cons, eq_self, BEq.rfl, simprocAttr, hnt, hT]) <;> ((first | cases hb | (simp only [decide_eq_true_eq, decide_eq_false_iff_not, beq_iff_eq, beq_eq_false_iff_ne, bne_iff_ne, Bool.and_eq_true, Bool.or_eq_true, Bool.not_eq_true', Bool.not_eq_false', Bool.and_eq_false_iff, Bool.or_eq_false_iff, Int.not_lt, Int.not_le] at hb) | skip) <;> (first | (exfalso; omega) | skip)))
    | ((first | (refine Ctr.use (find_no ms hms t s q hs hf) hP ?_ [0,1] ?_ rfl rfl ?_; (focus (intro p hp; cases hp)); (focus (refine LeR.of rfl trivial ?_ ?_ ?_ ?_ ?_ <;> first | decide | (simp only [GA, ↓GB, List.filterMap_cons, eq_self, BEq.rfl, simprocAttr, List.getD_cons_zero, List.getD_cons_succ, or_false, false_or, or_self, or_true, true_or, decide_true]; done))); intro os' s hR; obtain ⟨rfl, rfl⟩ := hR)); simp only [GA, ↓GB, List.filterMap_cons, eq_self, BEq.rfl, simprocAttr, hnt, hT])
    | (refine SX.block ?_)
    | (refine and_mk ?_ ?_; (focus first | decide | omega | rfl | assumption | (simp only [List.length_append, List.length_cons, List.length_nil, B_size]; omega) | (simp; done)))
    | (refine And.intro ?_ ?_))
  all_goals (try refine Done.mk ?_)
  all_goals ((refine hN0 _ _ ⟨[0, 1], _, _, ?_, ?_, ?_, ⟨rfl, rfl⟩⟩; (focus exact LeR.of rfl trivial (by simp only [GA, ↓GB, List.filterMap_cons, eq_self, BEq.rfl, simprocAttr, List.getD_cons_zero, List.getD_cons_succ, or_false, false_or, or_self, or_true, true_or, decide_true]) (by decide) rfl rfl rfl); rotate_left; (focus rfl)); rfl)
theorem marks_ctr (ms : List Mk) (hms : ms.length ≤ 1000000) : Ctr Tryd.prog [] 31 [.cells [.row 1] 148, mrow ms] [.one (.c (.loc 0 0))]
    (fun os v => os = [.cells [.row 1] 148, mrow ms, mrow ms] ∧ v = .one (.c (.row 2))) := by
  intro X0 hP0 hG0 N0 hN0
  refine CallVC.inline (f := 31) (by rw [hP0]; exact Tryd.func31) rfl Tryd.ntmps31 rfl (by simp) ?_
  intro X K hU hnt hbl hK
  have hP : X.P = Tryd.prog := by rw [hU.P, hP0]
  have hG := hG0.under hU
  have hT : fieldOff X.P 148 0 = some 0 ∧ aggOf X.P 59 = some false ∧ szOf X.P 59 = some 1 ∧ calleeOk X.P 90 = true := by rw [hP]; exact ⟨Ty.fo148_0, Ty.ag59, Ty.sz59, Ty.co90⟩
  simp only [GA, ↓GB, List.filterMap_cons, eq_self, BEq.rfl, simprocAttr] at hbl ⊢
  repeat' (first
    | (refine SX.seqK ?_; intro N hN)
    | ((first | (refine SX.ops ?_)); simp only [GA, ↓GB, List.filterMap_cons, eq_self, BEq.rfl, simprocAttr, hnt, hT])
    | ((first | refine SX.skip ?_ | refine SX.exit ?_ | refine SX.label ?_); try simp only [GA, ↓GB, List.filterMap_cons, eq_self, BEq.rfl, simprocAttr])
    | (refine SX.cond rfl (fun hb => ?_) (fun hb => ?_) <;> ((first | cases hb | (simp only [decide_eq_true_eq, decide_eq_false_iff_not, beq_iff_eq, beq_eq_false_iff_ne, bne_iff_ne, Bool.and_eq_true, Bool.or_eq_true, Bool.not_eq_true', Bool.not_eq_false', Bool.and_eq_false_iff, Bool.or_eq_false_iff, Int.not_lt, Int.not_le] at hb) | skip) <;> (first | (exfalso; omega) | skip)))
    | (refine SX.ret ?_; try simp only [GA, ↓GB, List.filterMap_cons, eq_self, BEq.rfl, simprocAttr])
    | (refine hN _ ?_; clear hN N)
    | ((first | refine hK _ _ (FinI.ret3 ?_) | refine hK _ _ (FinI.nrm3 ?_)); simp only [GA, ↓GB, List.filterMap_cons, eq_self, BEq.rfl, simprocAttr, finP_s, hnt, hT]; refine Done.out ?_)
    | (clear hN N; first | (refine hN _ ?_; clear hN N) | (clear hN N; first | (refine hN _ ?_; clear hN N) | (clear hN N; first | (refine hN _ ?_; clear hN N) | (clear hN N; first | (refine hN _ ?_; clear hN N) | (clear hN N; first | (refine hN _ ?_; clear hN N) | (refine hN _ ?_; clear hN N))))))
    | (refine bif2.mk (fun hb => ?_) (fun hb => ?_) <;> (try simp only [hb, GA, ↓GB, List.filterMap_cons, eq_self, BEq.rfl, simprocAttr, hnt, hT]) <;> ((first | cases hb | (simp only [decide_eq_true_eq, decide_eq_false_iff_not, beq_iff_eq, beq_eq_false_iff_ne, bne_iff_ne, Bool.and_eq_true, Bool.or_eq_true, Bool.not_eq_true', Bool.not_eq_false', Bool.and_eq_false_iff, Bool.or_eq_false_iff, Int.not_lt, Int.not_le] at hb) | skip) <;> (first | (exfalso; omega) | skip)))
    | ((first | (refine Ctr.use (clone_ctr ms hms) hP ?_ [1] ?_ rfl rfl ?_; (focus (intro p hp; cases hp)); (focus (refine LeR.of rfl trivial ?_ ?_ ?_ ?_ ?_ <;> first | decide | (simp only [GA, ↓GB, List.filterMap_cons, eq_self, BEq.rfl, simprocAttr, List.getD_cons_zero, List.getD_cons_succ, or_false, false_or, or_self, or_true, true_or, decide_true]; done))); intro os' s hR; obtain ⟨rfl, rfl⟩ := hR)); simp only [GA, ↓GB, List.filterMap_cons, eq_self, BEq.rfl, simprocAttr, hnt, hT])
    | (refine SX.block ?_)
    | (refine and_mk ?_ ?_; (focus first | decide | omega | rfl | assumption | (simp only [List.length_append, List.length_cons, List.length_nil, B_size]; omega) | (simp; done)))
    | (refine And.intro ?_ ?_))
  all_goals (try refine Done.mk ?_)
  all_goals exact hN0 _ _ ⟨rfl, rfl⟩
end Go.Proofs.YtbdacbcpniegiaaDoor
namespace Go.Proofs.YtbdacbcpniegiaaDoor
open Go Go.RowKit Go.Proofs Go.Sx
set_option maxHeartbeats 4000000
set_option maxRecDepth 100000
set_option linter.unusedSimpArgs false
set_option linter.unusedVariables false
theorem insert_ctr (ms : List Mk) (hms : ms.length ≤ 1000000) (m : Mk) (i : Nat) (hi : i ≤ ms.length) : Ctr Tryd.prog [] 83 [mrow ms, .cells [.v (.int .i64 m.t), .v (.string (B m.s)), .v (.int .u64 m.q), .v (.int .i64 m.st), .v (.string (B m.d))] 62] [.one (.c (.row 0)), vv (.int .i64 i), .one (.c (.sl 1 0 1 1))]
    (fun os v => os = [.gone, .cells [.v (.int .i64 m.t), .v (.string (B m.s)), .v (.int .u64 m.q), .v (.int .i64 m.st), .v (.string (B m.d))] 62, mrow (ms.take i ++ m :: ms.drop i)] ∧ v = .one (.c (.row 2))) := by
  rcases Nat.lt_or_eq_of_le hi with h | h
  · exact insert_mid ms hms m i h
  · subst h
    have e : ms.take ms.length ++ m :: ms.drop ms.length = ms ++ [m] := by simp
    rw [e]
    exact insert_end ms hms m
def badB (t : Int) (s : List UInt8) (q : Int) : Bool := (!keyB t s || s == [42]) || q == 0
theorem begin_wrong (ms : List Mk) (t q : Int) (s : List UInt8) (hsl : s.length ≤ 9223372036854775807) (h : badB t s q = true) : Ctr Tryd.prog [] 28 [.cells [.row 1] 148, mrow ms] [.one (.c (.loc 0 0)), .one (.agg [.v (.int .i64 t), .v (.string (B s))]), vv (.int .u64 q)]
    (fun os v => os = [.cells [.row 1] 148, mrow ms] ∧ v = vv (.int .i64 1)) := by
  refine Ctr.less ?_
  simp only [badB] at h
  intro X0 hP0 hG0 N0 hN0
  refine CallVC.inline (f := 28) (by rw [hP0]; exact Tryd.func28) rfl Tryd.ntmps28 rfl (by simp) ?_
  intro X K hU hnt hbl hK
  have hP : X.P = Tryd.prog := by rw [hU.P, hP0]
  have hG := hG0.under hU
  have hT : aggOf X.P 26 = some true ∧ szOf X.P 26 = some 2 ∧ aggOf X.P 22 = some false ∧ szOf X.P 22 = some 1 ∧ fieldsOf X.P 62 = some [(0, 2), (2, 1), (3, 1), (4, 1)] ∧ zeroCells X.P 62 = some [(Value.int IntKind.i64 0), (Value.string { data := #[] }), (Value.int IntKind.u64 0), (Value.int IntKind.i64 0), (Value.string { data := #[] })] ∧ szOf X.P 62 = some 5 ∧ calleeOk X.P 78 = true ∧ fieldOff X.P 26 1 = some 1 ∧ aggOf X.P 9 = some false ∧ szOf X.P 9 = some 1 ∧ fieldOff X.P 148 0 = some 0 ∧ aggOf X.P 59 = some false ∧ szOf X.P 59 = some 1 ∧ calleeOk X.P 80 = true ∧ calleeOk X.P 79 = true ∧ aggOf X.P 62 = some true ∧ calleeOk X.P 81 = true ∧ elemSz X.P 59 = some (62, 5) ∧ calleeOk X.P 83 = true ∧ X.P.underlying 59 = some (TypeDesc.slice 62) ∧ calleeOk X.P 84 = true ∧ calleeOk X.P 88 = true ∧ calleeOk X.P 87 = true := by rw [hP]; exact ⟨Ty.ag26, Ty.sz26, Ty.ag22, Ty.sz22, Ty.fs62, Ty.ze62, Ty.sz62, Ty.co78, Ty.fo26_1, Ty.ag9, Ty.sz9, Ty.fo148_0, Ty.ag59, Ty.sz59, Ty.co80, Ty.co79, Ty.ag62, Ty.co81, Ty.el59, Ty.co83, Tryd.underlying59, Ty.co84, Ty.co88, Ty.co87⟩
  simp only [GA, ↓GB, List.filterMap_cons, eq_self, BEq.rfl, simprocAttr] at hbl ⊢
  repeat' (first
    | (refine SX.seqK ?_; intro N hN)
    | ((first | (refine SX.ops ?_) | (refine SX.planT (id := 6) [.q [(0, [0]), (1, [35]), (2, [36]), (3, [37]), (4, [7])] none, .s 5, .s 6, .q [(7, [34]), (8, [34]), (9, [41]), (10, [42])] none] ?_ ?_ ?_; (focus first | (rw [hP]; kernel_rfl) | (rw [hU1P, hP]; kernel_rfl)); (focus kernel_rfl)) | (refine SX.planT (id := 7) [.f 0, .q [(1, [0]), (2, [44]), (3, [45]), (4, [46]), (5, [8]), (6, [7])] (some (7, [49])), .s 8, .s 9, .s 10, .s 11] ?_ ?_ ?_; (focus first | (rw [hP]; kernel_rfl) | (rw [hU1P, hP]; kernel_rfl)); (focus kernel_rfl))); simp only [GA, ↓GB, List.filterMap_cons, eq_self, BEq.rfl, simprocAttr, hnt, hT, h])
    | ((first | refine SX.skip ?_ | refine SX.exit ?_ | refine SX.label ?_); try simp only [GA, ↓GB, List.filterMap_cons, eq_self, BEq.rfl, simprocAttr])
    | (refine SX.cond rfl (fun hb => ?_) (fun hb => ?_) <;> ((first | cases hb | (simp only [decide_eq_true_eq, decide_eq_false_iff_not, beq_iff_eq, beq_eq_false_iff_ne, bne_iff_ne, Bool.and_eq_true, Bool.or_eq_true, Bool.not_eq_true', Bool.not_eq_false', Bool.and_eq_false_iff, Bool.or_eq_false_iff, Int.not_lt, Int.not_le] at hb) | skip) <;> (first | (exfalso; omega) | skip)))
    | (refine SX.ret ?_; try simp only [GA, ↓GB, List.filterMap_cons, eq_self, BEq.rfl, simprocAttr])
    | (refine hN _ ?_; clear hN N)
    | ((first | refine hK _ _ (FinI.ret3 ?_) | refine hK _ _ (FinI.nrm3 ?_)); simp only [GA, ↓GB, List.filterMap_cons, eq_self, BEq.rfl, simprocAttr, finP_s, hnt, hT, h]; refine Done.out ?_)
    | (clear hN N; first | (refine hN _ ?_; clear hN N) | (clear hN N; first | (refine hN _ ?_; clear hN N) | (clear hN N; first | (refine hN _ ?_; clear hN N) | (clear hN N; first | (refine hN _ ?_; clear hN N) | (clear hN N; first | (refine hN _ ?_; clear hN N) | (refine hN _ ?_; clear hN N))))))
    | (refine bif2.mk (fun hb => ?_) (fun hb => ?_) <;> (try simp only [hb, GA, ↓GB, List.filterMap_cons, eq_self, BEq.rfl, simprocAttr, hnt, hT, h]) <;> ((first | cases hb | (simp only [decide_eq_true_eq, decide_eq_false_iff_not, beq_iff_eq, beq_eq_false_iff_ne, bne_iff_ne, Bool.and_eq_true, Bool.or_eq_true, Bool.not_eq_true', Bool.not_eq_false', Bool.and_eq_false_iff, Bool.or_eq_false_iff, Int.not_lt, Int.not_le] at hb) | skip) <;> (first | (exfalso; omega) | skip)))
    | ((first | (refine CallVC.pv hP (key_any t s hsl) rfl ?_) | (refine CallQ.pv hP (key_any t s hsl) rfl ?_)); simp only [GA, ↓GB, List.filterMap_cons, eq_self, BEq.rfl, simprocAttr, hnt, hT, h])
    | (refine SX.block ?_)
    | (refine and_mk ?_ ?_; (focus first | decide | omega | rfl | assumption | (simp only [List.length_append, List.length_cons, List.length_nil, B_size]; omega) | (simp; done)))
    | (refine And.intro ?_ ?_))
  all_goals (try refine Done.mk ?_)
  all_goals first | ((refine hN0 _ _ ⟨[0, 1], _, _, ?_, ?_, ?_, ⟨rfl, rfl⟩⟩; (focus exact LeR.of rfl trivial (by simp only [GA, ↓GB, List.filterMap_cons, eq_self, BEq.rfl, simprocAttr, List.getD_cons_zero, List.getD_cons_succ, or_false, false_or, or_self, or_true, true_or, decide_true]) (by decide) rfl rfl rfl); rotate_left; (focus rfl)); rfl) | (exfalso; clear hN0 hK; simp_all; done)
theorem begin_late (ms : List Mk) (hms : ms.length ≤ 1000000) (t q : Int) (s : List UInt8) (hsl : s.length ≤ 9223372036854775807) (h : badB t s q = false) (hl : decide (0 ≤ idxI (isAt t s q) ms) = true) : Ctr Tryd.prog [] 28 [.cells [.row 1] 148, mrow ms] [.one (.c (.loc 0 0)), .one (.agg [.v (.int .i64 t), .v (.string (B s))]), vv (.int .u64 q)]
    (fun os v => os = [.cells [.row 1] 148, mrow ms] ∧ v = vv (.int .i64 6)) := by
  refine Ctr.less ?_
  simp only [badB, Bool.or_eq_false_iff, Bool.not_eq_false'] at h
  obtain ⟨⟨hk1, hk2⟩, hk3⟩ := h
  intro X0 hP0 hG0 N0 hN0
  refine CallVC.inline (f := 28) (by rw [hP0]; exact Tryd.func28) rfl Tryd.ntmps28 rfl (by simp) ?_
  intro X K hU hnt hbl hK
  have hP : X.P = Tryd.prog := by rw [hU.P, hP0]
  have hG := hG0.under hU
  have hT : aggOf X.P 26 = some true ∧ szOf X.P 26 = some 2 ∧ aggOf X.P 22 = some false ∧ szOf X.P 22 = some 1 ∧ fieldsOf X.P 62 = some [(0, 2), (2, 1), (3, 1), (4, 1)] ∧ zeroCells X.P 62 = some [(Value.int IntKind.i64 0), (Value.string { data := #[] }), (Value.int IntKind.u64 0), (Value.int IntKind.i64 0), (Value.string { data := #[] })] ∧ szOf X.P 62 = some 5 ∧ calleeOk X.P 78 = true ∧ fieldOff X.P 26 1 = some 1 ∧ aggOf X.P 9 = some false ∧ szOf X.P 9 = some 1 ∧ fieldOff X.P 148 0 = some 0 ∧ aggOf X.P 59 = some false ∧ szOf X.P 59 = some 1 ∧ calleeOk X.P 80 = true ∧ calleeOk X.P 79 = true ∧ aggOf X.P 62 = some true ∧ calleeOk X.P 81 = true ∧ elemSz X.P 59 = some (62, 5) ∧ calleeOk X.P 83 = true ∧ X.P.underlying 59 = some (TypeDesc.slice 62) ∧ calleeOk X.P 84 = true ∧ calleeOk X.P 88 = true ∧ calleeOk X.P 87 = true := by rw [hP]; exact ⟨Ty.ag26, Ty.sz26, Ty.ag22, Ty.sz22, Ty.fs62, Ty.ze62, Ty.sz62, Ty.co78, Ty.fo26_1, Ty.ag9, Ty.sz9, Ty.fo148_0, Ty.ag59, Ty.sz59, Ty.co80, Ty.co79, Ty.ag62, Ty.co81, Ty.el59, Ty.co83, Tryd.underlying59, Ty.co84, Ty.co88, Ty.co87⟩
  simp only [GA, ↓GB, List.filterMap_cons, eq_self, BEq.rfl, simprocAttr] at hbl ⊢
  repeat' (first
    | (refine SX.seqK ?_; intro N hN)
    | ((first | (refine SX.ops ?_) | (refine SX.planT (id := 6) [.q [(0, [0]), (1, [35]), (2, [36]), (3, [37]), (4, [7])] none, .s 5, .s 6, .q [(7, [34]), (8, [34]), (9, [41]), (10, [42])] none] ?_ ?_ ?_; (focus first | (rw [hP]; kernel_rfl) | (rw [hU1P, hP]; kernel_rfl)); (focus kernel_rfl)) | (refine SX.planT (id := 7) [.f 0, .q [(1, [0]), (2, [44]), (3, [45]), (4, [46]), (5, [8]), (6, [7])] (some (7, [49])), .s 8, .s 9, .s 10, .s 11] ?_ ?_ ?_; (focus first | (rw [hP]; kernel_rfl) | (rw [hU1P, hP]; kernel_rfl)); (focus kernel_rfl))); simp only [GA, ↓GB, List.filterMap_cons, eq_self, BEq.rfl, simprocAttr, hnt, hT, hk1, hk2, hk3, hl])
    | ((first | refine SX.skip ?_ | refine SX.exit ?_ | refine SX.label ?_); try simp only [GA, ↓GB, List.filterMap_cons, eq_self, BEq.rfl, simprocAttr])
    | (refine SX.cond rfl (fun hb => ?_) (fun hb => ?_) <;> ((first | cases hb | (simp only [decide_eq_true_eq, decide_eq_false_iff_not, beq_iff_eq, beq_eq_false_iff_ne, bne_iff_ne, Bool.and_eq_true, Bool.or_eq_true, Bool.not_eq_true', Bool.not_eq_false', Bool.and_eq_false_iff, Bool.or_eq_false_iff, Int.not_lt, Int.not_le] at hb) | skip) <;> (first | (exfalso; omega) | skip)))
    | (refine SX.ret ?_; try simp only [GA, ↓GB, List.filterMap_cons, eq_self, BEq.rfl, simprocAttr])
    | (refine hN _ ?_; clear hN N)
    | ((first | refine hK _ _ (FinI.ret3 ?_) | refine hK _ _ (FinI.nrm3 ?_)); simp only [GA, ↓GB, List.filterMap_cons, eq_self, BEq.rfl, simprocAttr, finP_s, hnt, hT, hk1, hk2, hk3, hl]; refine Done.out ?_)
    | (clear hN N; first | (refine hN _ ?_; clear hN N) | (clear hN N; first | (refine hN _ ?_; clear hN N) | (clear hN N; first | (refine hN _ ?_; clear hN N) | (clear hN N; first | (refine hN _ ?_; clear hN N) | (clear hN N; first | (refine hN _ ?_; clear hN N) | (refine hN _ ?_; clear hN N))))))
    | (refine bif2.mk (fun hb => ?_) (fun hb => ?_) <;> (try simp only [hb, GA, ↓GB, List.filterMap_cons, eq_self, BEq.rfl, simprocAttr, hnt, hT, hk1, hk2, hk3, hl]) <;> ((first | cases hb | (simp only [decide_eq_true_eq, decide_eq_false_iff_not, beq_iff_eq, beq_eq_false_iff_ne, bne_iff_ne, Bool.and_eq_true, Bool.or_eq_true, Bool.not_eq_true', Bool.not_eq_false', Bool.and_eq_false_iff, Bool.or_eq_false_iff, Int.not_lt, Int.not_le] at hb) | skip) <;> (first | (exfalso; omega) | skip)))
    | ((first | (refine CallVC.pv hP (key_any t s hsl) rfl ?_) | (refine CallQ.pv hP (key_any t s hsl) rfl ?_) | (refine Ctr.use (containsFunc1 ms hms t q s) hP ?_ [1,2,3] ?_ rfl rfl ?_; (focus (intro p hp; cases hp)); (focus (refine LeR.of rfl trivial ?_ ?_ ?_ ?_ ?_ <;> first | decide | (simp only [GA, ↓GB, List.filterMap_cons, eq_self, BEq.rfl, simprocAttr, List.getD_cons_zero, List.getD_cons_succ, or_false, false_or, or_self, or_true, true_or, decide_true]; done))); intro os' s hR; obtain ⟨rfl, rfl⟩ := hR)); simp only [GA, ↓GB, List.filterMap_cons, eq_self, BEq.rfl, simprocAttr, hnt, hT, hk1, hk2, hk3, hl])
    | (refine SX.block ?_)
    | (refine and_mk ?_ ?_; (focus first | decide | omega | rfl | assumption | (simp only [List.length_append, List.length_cons, List.length_nil, B_size]; omega) | (simp; done)))
    | (refine And.intro ?_ ?_))
  all_goals (try refine Done.mk ?_)
  all_goals ((refine hN0 _ _ ⟨[0, 1], _, _, ?_, ?_, ?_, ⟨rfl, rfl⟩⟩; (focus exact LeR.of rfl trivial (by simp only [GA, ↓GB, List.filterMap_cons, eq_self, BEq.rfl, simprocAttr, List.getD_cons_zero, List.getD_cons_succ, or_false, false_or, or_self, or_true, true_or, decide_true]) (by decide) rfl rfl rfl); rotate_left; (focus rfl)); rfl)
def insM (ms : List Mk) (m : Mk) : List Mk := ms.take (bsN ms m) ++ m :: ms.drop (bsN ms m)
theorem bsN_le (ms : List Mk) (m : Mk) : bsN ms m ≤ ms.length := by
  unfold bsN
  exact List.Sublist.length_le (List.takeWhile_sublist _)
theorem insM_len (ms : List Mk) (m : Mk) : (insM ms m).length = ms.length + 1 := by
  have := bsN_le ms m
  simp [insM]; omega
def newM (t : Int) (s : List UInt8) (q : Int) : Mk := ⟨t, s, q, 1, []⟩
theorem begin_ok (ms : List Mk) (hms : ms.length < 1024) (t q : Int) (s : List UInt8) (hsl : s.length ≤ 9223372036854775807) (hs : Sorted2 ms (newM t s q)) (h : badB t s q = false) (hl : decide (0 ≤ idxI (isAt t s q) ms) = false) : Ctr Tryd.prog [] 28 [.cells [.row 1] 148, mrow ms] [.one (.c (.loc 0 0)), .one (.agg [.v (.int .i64 t), .v (.string (B s))]), vv (.int .u64 q)]
    (fun os v => os = [.cells [.row 2] 148, .gone, mrow (insM ms (newM t s q))] ∧ v = vv (.int .i64 0)) := by
  refine Ctr.less ?_
  simp only [badB, Bool.or_eq_false_iff, Bool.not_eq_false'] at h
  obtain ⟨⟨hk1, hk2⟩, hk3⟩ := h
  have hlen := insM_len ms (newM t s q)
  have hgt : decide (1024 < ((insM ms (newM t s q)).length : Int)) = false := by simp; omega
  have hins : Ctr Tryd.prog [] 83 [mrow ms, .cells [.v (.int .i64 t), .v (.string (B s)), .v (.int .u64 q), .v (.int .i64 1), .v (.string (B []))] 62] [.one (.c (.row 0)), vv (.int .i64 (bsN ms (newM t s q))), .one (.c (.sl 1 0 1 1))]
    (fun os v => os = [.gone, .cells [.v (.int .i64 t), .v (.string (B s)), .v (.int .u64 q), .v (.int .i64 1), .v (.string (B []))] 62, mrow (insM ms (newM t s q))] ∧ v = .one (.c (.row 2))) := insert_ctr ms (by omega) (newM t s q) _ (bsN_le _ _)
  intro X0 hP0 hG0 N0 hN0
  refine CallVC.inline (f := 28) (by rw [hP0]; exact Tryd.func28) rfl Tryd.ntmps28 rfl (by simp) ?_
  intro X K hU hnt hbl hK
  have hP : X.P = Tryd.prog := by rw [hU.P, hP0]
  have hG := hG0.under hU
  have hT : aggOf X.P 26 = some true ∧ szOf X.P 26 = some 2 ∧ aggOf X.P 22 = some false ∧ szOf X.P 22 = some 1 ∧ fieldsOf X.P 62 = some [(0, 2), (2, 1), (3, 1), (4, 1)] ∧ zeroCells X.P 62 = some [(Value.int IntKind.i64 0), (Value.string { data := #[] }), (Value.int IntKind.u64 0), (Value.int IntKind.i64 0), (Value.string { data := #[] })] ∧ szOf X.P 62 = some 5 ∧ calleeOk X.P 78 = true ∧ fieldOff X.P 26 1 = some 1 ∧ aggOf X.P 9 = some false ∧ szOf X.P 9 = some 1 ∧ fieldOff X.P 148 0 = some 0 ∧ aggOf X.P 59 = some false ∧ szOf X.P 59 = some 1 ∧ calleeOk X.P 80 = true ∧ calleeOk X.P 79 = true ∧ aggOf X.P 62 = some true ∧ calleeOk X.P 81 = true ∧ elemSz X.P 59 = some (62, 5) ∧ calleeOk X.P 83 = true ∧ X.P.underlying 59 = some (TypeDesc.slice 62) ∧ calleeOk X.P 84 = true ∧ calleeOk X.P 88 = true ∧ calleeOk X.P 87 = true := by rw [hP]; exact ⟨Ty.ag26, Ty.sz26, Ty.ag22, Ty.sz22, Ty.fs62, Ty.ze62, Ty.sz62, Ty.co78, Ty.fo26_1, Ty.ag9, Ty.sz9, Ty.fo148_0, Ty.ag59, Ty.sz59, Ty.co80, Ty.co79, Ty.ag62, Ty.co81, Ty.el59, Ty.co83, Tryd.underlying59, Ty.co84, Ty.co88, Ty.co87⟩
  simp only [GA, ↓GB, List.filterMap_cons, eq_self, BEq.rfl, simprocAttr] at hbl ⊢
  repeat' (first
    | (refine SX.seqK ?_; intro N hN)
    | ((first | (refine SX.ops ?_) | (refine SX.planT (id := 6) [.q [(0, [0]), (1, [35]), (2, [36]), (3, [37]), (4, [7])] none, .s 5, .s 6, .q [(7, [34]), (8, [34]), (9, [41]), (10, [42])] none] ?_ ?_ ?_; (focus first | (rw [hP]; kernel_rfl) | (rw [hU1P, hP]; kernel_rfl)); (focus kernel_rfl)) | (refine SX.planT (id := 7) [.f 0, .q [(1, [0]), (2, [44]), (3, [45]), (4, [46]), (5, [8]), (6, [7])] (some (7, [49])), .s 8, .s 9, .s 10, .s 11] ?_ ?_ ?_; (focus first | (rw [hP]; kernel_rfl) | (rw [hU1P, hP]; kernel_rfl)); (focus kernel_rfl))); simp only [GA, ↓GB, List.filterMap_cons, eq_self, BEq.rfl, simprocAttr, hnt, hT, hk1, hk2, hk3, hl, hgt])
    | ((first | refine SX.skip ?_ | refine SX.exit ?_ | refine SX.label ?_); try simp only [GA, ↓GB, List.filterMap_cons, eq_self, BEq.rfl, simprocAttr])
    | (refine SX.cond rfl (fun hb => ?_) (fun hb => ?_) <;> ((first | cases hb | (simp only [decide_eq_true_eq, decide_eq_false_iff_not, beq_iff_eq, beq_eq_false_iff_ne, bne_iff_ne, Bool.and_eq_true, Bool.or_eq_true, Bool.not_eq_true', Bool.not_eq_false', Bool.and_eq_false_iff, Bool.or_eq_false_iff, Int.not_lt, Int.not_le] at hb) | skip) <;> (first | (exfalso; omega) | skip)))
    | (refine SX.ret ?_; try simp only [GA, ↓GB, List.filterMap_cons, eq_self, BEq.rfl, simprocAttr])
    | (refine hN _ ?_; clear hN N)
    | ((first | refine hK _ _ (FinI.ret3 ?_) | refine hK _ _ (FinI.nrm3 ?_)); simp only [GA, ↓GB, List.filterMap_cons, eq_self, BEq.rfl, simprocAttr, finP_s, hnt, hT, hk1, hk2, hk3, hl, hgt]; refine Done.out ?_)
    | (clear hN N; first | (refine hN _ ?_; clear hN N) | (clear hN N; first | (refine hN _ ?_; clear hN N) | (clear hN N; first | (refine hN _ ?_; clear hN N) | (clear hN N; first | (refine hN _ ?_; clear hN N) | (clear hN N; first | (refine hN _ ?_; clear hN N) | (refine hN _ ?_; clear hN N))))))
    | (refine bif2.mk (fun hb => ?_) (fun hb => ?_) <;> (try simp only [hb, GA, ↓GB, List.filterMap_cons, eq_self, BEq.rfl, simprocAttr, hnt, hT, hk1, hk2, hk3, hl, hgt]) <;> ((first | cases hb | (simp only [decide_eq_true_eq, decide_eq_false_iff_not, beq_iff_eq, beq_eq_false_iff_ne, bne_iff_ne, Bool.and_eq_true, Bool.or_eq_true, Bool.not_eq_true', Bool.not_eq_false', Bool.and_eq_false_iff, Bool.or_eq_false_iff, Int.not_lt, Int.not_le] at hb) | skip) <;> (first | (exfalso; omega) | skip)))
    | ((first | (refine CallVC.pv hP (key_any t s hsl) rfl ?_) | (refine CallQ.pv hP (key_any t s hsl) rfl ?_) | (refine Ctr.use (containsFunc1 ms (by omega) t q s) hP ?_ [1,2,3] ?_ rfl rfl ?_; (focus (intro p hp; cases hp)); (focus (refine LeR.of rfl trivial ?_ ?_ ?_ ?_ ?_ <;> first | decide | (simp only [GA, ↓GB, List.filterMap_cons, eq_self, BEq.rfl, simprocAttr, List.getD_cons_zero, List.getD_cons_succ, or_false, false_or, or_self, or_true, true_or, decide_true]; done))); intro os' s hR; obtain ⟨rfl, rfl⟩ := hR) | (refine Ctr.use (search_ctr ms (by omega) (newM t s q) hs) hP ?_ [1] ?_ rfl rfl ?_; (focus (intro p hp; cases hp)); (focus (refine LeR.of rfl trivial ?_ ?_ ?_ ?_ ?_ <;> first | decide | (simp only [GA, ↓GB, List.filterMap_cons, eq_self, BEq.rfl, simprocAttr, List.getD_cons_zero, List.getD_cons_succ, or_false, false_or, or_self, or_true, true_or, decide_true]; done))); intro os' s hR; obtain ⟨rfl, rfl⟩ := hR) | (refine Ctr.use (hins) hP ?_ [1,5] ?_ rfl rfl ?_; (focus (intro p hp; cases hp)); (focus (refine LeR.of rfl trivial ?_ ?_ ?_ ?_ ?_ <;> first | decide | (simp only [GA, ↓GB, List.filterMap_cons, eq_self, BEq.rfl, simprocAttr, List.getD_cons_zero, List.getD_cons_succ, or_false, false_or, or_self, or_true, true_or, decide_true]; done))); intro os' s hR; obtain ⟨rfl, rfl⟩ := hR)); simp only [GA, ↓GB, List.filterMap_cons, eq_self, BEq.rfl, simprocAttr, hnt, hT, hk1, hk2, hk3, hl, hgt])
    | (refine SX.block ?_)
    | (refine and_mk ?_ ?_; (focus first | decide | omega | rfl | assumption | (simp only [List.length_append, List.length_cons, List.length_nil, B_size]; omega) | (simp; done)))
    | (refine And.intro ?_ ?_))
  all_goals (try refine Done.mk ?_)
  all_goals ((refine hN0 _ _ ⟨[0, 1, 6], _, _, ?_, ?_, ?_, ⟨rfl, rfl⟩⟩; (focus exact LeR.of rfl trivial (by simp only [GA, ↓GB, List.filterMap_cons, eq_self, BEq.rfl, simprocAttr, List.getD_cons_zero, List.getD_cons_succ, or_false, false_or, or_self, or_true, true_or, decide_true]) (by decide) rfl rfl rfl); rotate_left; (focus rfl)); rfl)
def dropM (ms : List Mk) (m : Mk) : List Mk := ms.filter fun x => !isMk m.t m.s m.q m.st m.d x
def fullM (ms : List Mk) (m : Mk) : List Mk := dropM (insM ms m) (minQ (insM ms m) ((insM ms m).length - 1))
theorem begin_full (ms : List Mk) (hms : ms.length = 1024) (t q : Int) (s : List UInt8) (hsl : s.length ≤ 9223372036854775807) (hs : Sorted2 ms (newM t s q)) (h : badB t s q = false) (hl : decide (0 ≤ idxI (isAt t s q) ms) = false) : Ctr Tryd.prog [] 28 [.cells [.row 1] 148, mrow ms] [.one (.c (.loc 0 0)), .one (.agg [.v (.int .i64 t), .v (.string (B s))]), vv (.int .u64 q)]
    (fun os v => os = [.cells [.row 2] 148, .gone, mrow (fullM ms (newM t s q))] ∧ v = vv (.int .i64 0)) := by
  unfold fullM dropM
  refine Ctr.less ?_
  simp only [badB, Bool.or_eq_false_iff, Bool.not_eq_false'] at h
  obtain ⟨⟨hk1, hk2⟩, hk3⟩ := h
  have hlen := insM_len ms (newM t s q)
  have hgt : decide (1024 < ((insM ms (newM t s q)).length : Int)) = true := by simp; omega
  have hins : Ctr Tryd.prog [] 83 [mrow ms, .cells [.v (.int .i64 t), .v (.string (B s)), .v (.int .u64 q), .v (.int .i64 1), .v (.string (B []))] 62] [.one (.c (.row 0)), vv (.int .i64 (bsN ms (newM t s q))), .one (.c (.sl 1 0 1 1))]
    (fun os v => os = [.gone, .cells [.v (.int .i64 t), .v (.string (B s)), .v (.int .u64 q), .v (.int .i64 1), .v (.string (B []))] 62, mrow (insM ms (newM t s q))] ∧ v = .one (.c (.row 2))) := insert_ctr ms (by omega) (newM t s q) _ (bsN_le _ _)
  have hmin := min_ctr (insM ms (newM t s q)) (by omega) (by omega)
  have hdel := deleteFunc3 (insM ms (newM t s q)) (by omega) (minQ (insM ms (newM t s q)) ((insM ms (newM t s q)).length - 1)).t (minQ (insM ms (newM t s q)) ((insM ms (newM t s q)).length - 1)).q (minQ (insM ms (newM t s q)) ((insM ms (newM t s q)).length - 1)).st (minQ (insM ms (newM t s q)) ((insM ms (newM t s q)).length - 1)).s (minQ (insM ms (newM t s q)) ((insM ms (newM t s q)).length - 1)).d
  simp only [Mk.cells, List.map_cons, List.map_nil] at hmin
  intro X0 hP0 hG0 N0 hN0
  refine CallVC.inline (f := 28) (by rw [hP0]; exact Tryd.func28) rfl Tryd.ntmps28 rfl (by simp) ?_
  intro X K hU hnt hbl hK
  have hP : X.P = Tryd.prog := by rw [hU.P, hP0]
  have hG := hG0.under hU
  have hT : aggOf X.P 26 = some true ∧ szOf X.P 26 = some 2 ∧ aggOf X.P 22 = some false ∧ szOf X.P 22 = some 1 ∧ fieldsOf X.P 62 = some [(0, 2), (2, 1), (3, 1), (4, 1)] ∧ zeroCells X.P 62 = some [(Value.int IntKind.i64 0), (Value.string { data := #[] }), (Value.int IntKind.u64 0), (Value.int IntKind.i64 0), (Value.string { data := #[] })] ∧ szOf X.P 62 = some 5 ∧ calleeOk X.P 78 = true ∧ fieldOff X.P 26 1 = some 1 ∧ aggOf X.P 9 = some false ∧ szOf X.P 9 = some 1 ∧ fieldOff X.P 148 0 = some 0 ∧ aggOf X.P 59 = some false ∧ szOf X.P 59 = some 1 ∧ calleeOk X.P 80 = true ∧ calleeOk X.P 79 = true ∧ aggOf X.P 62 = some true ∧ calleeOk X.P 81 = true ∧ elemSz X.P 59 = some (62, 5) ∧ calleeOk X.P 83 = true ∧ X.P.underlying 59 = some (TypeDesc.slice 62) ∧ calleeOk X.P 84 = true ∧ calleeOk X.P 88 = true ∧ calleeOk X.P 87 = true := by rw [hP]; exact ⟨Ty.ag26, Ty.sz26, Ty.ag22, Ty.sz22, Ty.fs62, Ty.ze62, Ty.sz62, Ty.co78, Ty.fo26_1, Ty.ag9, Ty.sz9, Ty.fo148_0, Ty.ag59, Ty.sz59, Ty.co80, Ty.co79, Ty.ag62, Ty.co81, Ty.el59, Ty.co83, Tryd.underlying59, Ty.co84, Ty.co88, Ty.co87⟩
  simp only [GA, ↓GB, List.filterMap_cons, eq_self, BEq.rfl, simprocAttr] at hbl ⊢
  repeat' (first
    | (refine SX.seqK ?_; intro N hN)
    | ((first | (refine SX.ops ?_) | (refine SX.planT (id := 6) [.q [(0, [0]), (1, [35]), (2, [36]), (3, [37]), (4, [7])] none, .s 5, .s 6, .q [(7, [34]), (8, [34]), (9, [41]), (10, [42])] none] ?_ ?_ ?_; (focus first | (rw [hP]; kernel_rfl) | (rw [hU1P, hP]; kernel_rfl)); (focus kernel_rfl)) | (refine SX.planT (id := 7) [.f 0, .q [(1, [0]), (2, [44]), (3, [45]), (4, [46]), (5, [8]), (6, [7])] (some (7, [49])), .s 8, .s 9, .s 10, .s 11] ?_ ?_ ?_; (focus first | (rw [hP]; kernel_rfl) | (rw [hU1P, hP]; kernel_rfl)); (focus kernel_rfl))); simp only [GA, ↓GB, List.filterMap_cons, eq_self, BEq.rfl, simprocAttr, hnt, hT, hk1, hk2, hk3, hl, hgt])
    | ((first | refine SX.skip ?_ | refine SX.exit ?_ | refine SX.label ?_); try simp only [GA, ↓GB, List.filterMap_cons, eq_self, BEq.rfl, simprocAttr])
    | (refine SX.cond rfl (fun hb => ?_) (fun hb => ?_) <;> ((first | cases hb | (simp only [decide_eq_true_eq, decide_eq_false_iff_not, beq_iff_eq, beq_eq_false_iff_ne, bne_iff_ne, Bool.and_eq_true, Bool.or_eq_true, Bool.not_eq_true', Bool.not_eq_false', Bool.and_eq_false_iff, Bool.or_eq_false_iff, Int.not_lt, Int.not_le] at hb) | skip) <;> (first | (exfalso; omega) | skip)))
    | (refine SX.ret ?_; try simp only [GA, ↓GB, List.filterMap_cons, eq_self, BEq.rfl, simprocAttr])
    | (refine hN _ ?_; clear hN N)
    | ((first | refine hK _ _ (FinI.ret3 ?_) | refine hK _ _ (FinI.nrm3 ?_)); simp only [GA, ↓GB, List.filterMap_cons, eq_self, BEq.rfl, simprocAttr, finP_s, hnt, hT, hk1, hk2, hk3, hl, hgt]; refine Done.out ?_)
    | (clear hN N; first | (refine hN _ ?_; clear hN N) | (clear hN N; first | (refine hN _ ?_; clear hN N) | (clear hN N; first | (refine hN _ ?_; clear hN N) | (clear hN N; first | (refine hN _ ?_; clear hN N) | (clear hN N; first | (refine hN _ ?_; clear hN N) | (refine hN _ ?_; clear hN N))))))
    | (refine bif2.mk (fun hb => ?_) (fun hb => ?_) <;> (try simp only [hb, GA, ↓GB, List.filterMap_cons, eq_self, BEq.rfl, simprocAttr, hnt, hT, hk1, hk2, hk3, hl, hgt]) <;> ((first | cases hb | (simp only [decide_eq_true_eq, decide_eq_false_iff_not, beq_iff_eq, beq_eq_false_iff_ne, bne_iff_ne, Bool.and_eq_true, Bool.or_eq_true, Bool.not_eq_true', Bool.not_eq_false', Bool.and_eq_false_iff, Bool.or_eq_false_iff, Int.not_lt, Int.not_le] at hb) | skip) <;> (first | (exfalso; omega) | skip)))
    | ((first | (refine CallVC.pv hP (key_any t s hsl) rfl ?_) | (refine CallQ.pv hP (key_any t s hsl) rfl ?_) | (refine Ctr.use (containsFunc1 ms (by omega) t q s) hP ?_ [1,2,3] ?_ rfl rfl ?_; (focus (intro p hp; cases hp)); (focus (refine LeR.of rfl trivial ?_ ?_ ?_ ?_ ?_ <;> first | decide | (simp only [GA, ↓GB, List.filterMap_cons, eq_self, BEq.rfl, simprocAttr, List.getD_cons_zero, List.getD_cons_succ, or_false, false_or, or_self, or_true, true_or, decide_true]; done))); intro os' s hR; obtain ⟨rfl, rfl⟩ := hR) | (refine Ctr.use (search_ctr ms (by omega) (newM t s q) hs) hP ?_ [1] ?_ rfl rfl ?_; (focus (intro p hp; cases hp)); (focus (refine LeR.of rfl trivial ?_ ?_ ?_ ?_ ?_ <;> first | decide | (simp only [GA, ↓GB, List.filterMap_cons, eq_self, BEq.rfl, simprocAttr, List.getD_cons_zero, List.getD_cons_succ, or_false, false_or, or_self, or_true, true_or, decide_true]; done))); intro os' s hR; obtain ⟨rfl, rfl⟩ := hR) | (refine Ctr.use (hins) hP ?_ [1,5] ?_ rfl rfl ?_; (focus (intro p hp; cases hp)); (focus (refine LeR.of rfl trivial ?_ ?_ ?_ ?_ ?_ <;> first | decide | (simp only [GA, ↓GB, List.filterMap_cons, eq_self, BEq.rfl, simprocAttr, List.getD_cons_zero, List.getD_cons_succ, or_false, false_or, or_self, or_true, true_or, decide_true]; done))); intro os' s hR; obtain ⟨rfl, rfl⟩ := hR) | (refine Ctr.use (hmin) hP ?_ [6] ?_ rfl rfl ?_; (focus (intro p hp; cases hp)); (focus (refine LeR.of rfl trivial ?_ ?_ ?_ ?_ ?_ <;> first | decide | (simp only [GA, ↓GB, List.filterMap_cons, eq_self, BEq.rfl, simprocAttr, List.getD_cons_zero, List.getD_cons_succ, or_false, false_or, or_self, or_true, true_or, decide_true]; done))); intro os' s hR; obtain ⟨rfl, rfl⟩ := hR) | (refine Ctr.use (hdel) hP ?_ [6,7] ?_ rfl rfl ?_; (focus (intro p hp; cases hp)); (focus (refine LeR.of rfl trivial ?_ ?_ ?_ ?_ ?_ <;> first | decide | (simp only [GA, ↓GB, List.filterMap_cons, eq_self, BEq.rfl, simprocAttr, List.getD_cons_zero, List.getD_cons_succ, or_false, false_or, or_self, or_true, true_or, decide_true]; done))); intro os' s hR; obtain ⟨rfl, rfl⟩ := hR)); simp only [GA, ↓GB, List.filterMap_cons, eq_self, BEq.rfl, simprocAttr, hnt, hT, hk1, hk2, hk3, hl, hgt])
    | (refine SX.block ?_)
    | (refine and_mk ?_ ?_; (focus first | decide | omega | rfl | assumption | (simp only [List.length_append, List.length_cons, List.length_nil, B_size]; omega) | (simp; done)))
    | (refine And.intro ?_ ?_))
  all_goals (try refine Done.mk ?_)
  all_goals ((refine hN0 _ _ ⟨[0, 1, 8], _, _, ?_, ?_, ?_, ⟨rfl, rfl⟩⟩; (focus exact LeR.of rfl trivial (by simp only [GA, ↓GB, List.filterMap_cons, eq_self, BEq.rfl, simprocAttr, List.getD_cons_zero, List.getD_cons_succ, or_false, false_or, or_self, or_true, true_or, decide_true]) (by decide) rfl rfl rfl); rotate_left; (focus rfl)); rfl)
end Go.Proofs.YtbdacbcpniegiaaDoor
namespace Go.Proofs.YtbdacbcpniegiaaDoor
open Go Go.RowKit Go.Proofs Go.Sx
set_option maxHeartbeats 4000000
set_option maxRecDepth 100000
set_option linter.unusedSimpArgs false
set_option linter.unusedVariables false
theorem note_wrong (ms : List Mk) (t : Int) (s : List UInt8) (q : Nat) (ok : Bool) (d : List UInt8) (hsl : s.length ≤ 9223372036854775807) (hq : q < 18446744073709551616) (h : statusB t s q ok d = false) : Ctr Tryd.prog [] 29 [.cells [.row 1] 148, mrow ms] [.one (.c (.loc 0 0)), .one (.agg [.v (.int .i64 t), .v (.string (B s)), .v (.int .u64 q), .v (.bool ok), .v (.string (B d))])]
    (fun os v => os = [.cells [.row 1] 148, mrow ms] ∧ v = vv (.int .i64 1)) := by
  refine Ctr.less ?_
  intro X0 hP0 hG0 N0 hN0
  refine CallVC.inline (f := 29) (by rw [hP0]; exact Tryd.func29) rfl Tryd.ntmps29 rfl (by simp) ?_
  intro X K hU hnt hbl hK
  have hP : X.P = Tryd.prog := by rw [hU.P, hP0]
  have hG := hG0.under hU
  have hT : aggOf X.P 30 = some true ∧ szOf X.P 30 = some 5 ∧ calleeOk X.P 19 = true ∧ fieldOff X.P 30 0 = some 0 ∧ aggOf X.P 26 = some true ∧ szOf X.P 26 = some 2 ∧ fieldOff X.P 30 1 = some 2 ∧ aggOf X.P 22 = some false ∧ szOf X.P 22 = some 1 ∧ calleeOk X.P 89 = true ∧ fieldOff X.P 30 2 = some 3 ∧ aggOf X.P 4 = some false ∧ szOf X.P 4 = some 1 ∧ fieldOff X.P 62 2 = some 3 ∧ aggOf X.P 3 = some false ∧ szOf X.P 3 = some 1 ∧ fieldOff X.P 30 3 = some 4 ∧ aggOf X.P 9 = some false ∧ szOf X.P 9 = some 1 ∧ fieldOff X.P 62 3 = some 4 ∧ fieldOff X.P 148 0 = some 0 ∧ aggOf X.P 59 = some false ∧ szOf X.P 59 = some 1 ∧ X.P.underlying 59 = some (TypeDesc.slice 62) ∧ elemSz X.P 59 = some (62, 5) ∧ fieldOff X.P 62 0 = some 0 ∧ fieldOff X.P 62 1 = some 2 := by rw [hP]; exact ⟨Ty.ag30, Ty.sz30, Ty.co19, Ty.fo30_0, Ty.ag26, Ty.sz26, Ty.fo30_1, Ty.ag22, Ty.sz22, Ty.co89, Ty.fo30_2, Ty.ag4, Ty.sz4, Ty.fo62_2, Ty.ag3, Ty.sz3, Ty.fo30_3, Ty.ag9, Ty.sz9, Ty.fo62_3, Ty.fo148_0, Ty.ag59, Ty.sz59, Tryd.underlying59, Ty.el59, Ty.fo62_0, Ty.fo62_1⟩
  simp only [GA, ↓GB, List.filterMap_cons, eq_self, BEq.rfl, simprocAttr] at hbl ⊢
  repeat' (first
    | (refine SX.seqK ?_; intro N hN)
    | ((first | (refine SX.ops ?_) | (refine SX.planT (id := 9) [.f 0, .f 1, .f 2, .f 4, .f 5, .b 3 6, .s 7, .s 8, .s 9] ?_ ?_ ?_; (focus first | (rw [hP]; kernel_rfl) | (rw [hU1P, hP]; kernel_rfl)); (focus kernel_rfl)) | (refine SX.planT (id := 15) [.q [(0, [10]), (1, [61]), (2, [62]), (3, [63]), (4, [3]), (5, [65]), (6, [64, 66]), (7, [67]), (8, [10, 68]), (9, [69, 68]), (10, [70, 68]), (11, [71, 68]), (12, [3, 68]), (13, [73, 68]), (14, [72, 74, 68]), (15, [68, 75]), (16, [76]), (17, [10, 77]), (18, [78, 77]), (19, [79, 77]), (20, [80, 77]), (21, [81, 77]), (22, [77, 82])] none] ?_ ?_ ?_; (focus first | (rw [hP]; kernel_rfl) | (rw [hU1P, hP]; kernel_rfl)); (focus kernel_rfl))); simp only [GA, ↓GB, List.filterMap_cons, eq_self, BEq.rfl, simprocAttr, hnt, hT, h])
    | ((first | refine SX.skip ?_ | refine SX.exit ?_ | refine SX.label ?_); try simp only [GA, ↓GB, List.filterMap_cons, eq_self, BEq.rfl, simprocAttr])
    | (refine SX.cond rfl (fun hb => ?_) (fun hb => ?_) <;> ((first | cases hb | (simp only [decide_eq_true_eq, decide_eq_false_iff_not, beq_iff_eq, beq_eq_false_iff_ne, bne_iff_ne, Bool.and_eq_true, Bool.or_eq_true, Bool.not_eq_true', Bool.not_eq_false', Bool.and_eq_false_iff, Bool.or_eq_false_iff, Int.not_lt, Int.not_le] at hb) | skip) <;> (first | (exfalso; omega) | skip)))
    | (refine SX.ret ?_; try simp only [GA, ↓GB, List.filterMap_cons, eq_self, BEq.rfl, simprocAttr])
    | (refine hN _ ?_; clear hN N)
    | ((first | refine hK _ _ (FinI.ret3 ?_) | refine hK _ _ (FinI.nrm3 ?_)); simp only [GA, ↓GB, List.filterMap_cons, eq_self, BEq.rfl, simprocAttr, finP_s, hnt, hT, h]; refine Done.out ?_)
    | (clear hN N; first | (refine hN _ ?_; clear hN N) | (clear hN N; first | (refine hN _ ?_; clear hN N) | (clear hN N; first | (refine hN _ ?_; clear hN N) | (clear hN N; first | (refine hN _ ?_; clear hN N) | (clear hN N; first | (refine hN _ ?_; clear hN N) | (refine hN _ ?_; clear hN N))))))
    | (refine bif2.mk (fun hb => ?_) (fun hb => ?_) <;> (try simp only [hb, GA, ↓GB, List.filterMap_cons, eq_self, BEq.rfl, simprocAttr, hnt, hT, h]) <;> ((first | cases hb | (simp only [decide_eq_true_eq, decide_eq_false_iff_not, beq_iff_eq, beq_eq_false_iff_ne, bne_iff_ne, Bool.and_eq_true, Bool.or_eq_true, Bool.not_eq_true', Bool.not_eq_false', Bool.and_eq_false_iff, Bool.or_eq_false_iff, Int.not_lt, Int.not_le] at hb) | skip) <;> (first | (exfalso; omega) | skip)))
    | ((first | (refine CallVC.pt (l := [_, _]) hP (putStatus_any t s q ok d hsl hq) rfl ?_) | (refine CallQ.pt (l := [_, _]) hP (putStatus_any t s q ok d hsl hq) rfl ?_)); simp only [GA, ↓GB, List.filterMap_cons, eq_self, BEq.rfl, simprocAttr, hnt, hT, h])
    | (refine SX.block ?_)
    | (refine and_mk ?_ ?_; (focus first | decide | omega | rfl | assumption | (simp only [List.length_append, List.length_cons, List.length_nil, B_size]; omega) | (simp; done)))
    | (refine And.intro ?_ ?_))
  all_goals (try refine Done.mk ?_)
  all_goals ((refine hN0 _ _ ⟨[0, 1], _, _, ?_, ?_, ?_, ⟨rfl, rfl⟩⟩; (focus exact LeR.of rfl trivial (by simp only [GA, ↓GB, List.filterMap_cons, eq_self, BEq.rfl, simprocAttr, List.getD_cons_zero, List.getD_cons_succ, or_false, false_or, or_self, or_true, true_or, decide_true]) (by decide) rfl rfl rfl); rotate_left; (focus rfl)); rfl)
theorem note_none (ms : List Mk) (hms : ms.length ≤ 1000000) (t : Int) (s : List UInt8) (q : Nat) (ok : Bool) (d : List UInt8) (hsl : s.length ≤ 9223372036854775807) (hq : q < 18446744073709551616) (h : statusB t s q ok d = true) (hs : Sorted2 ms (askM t s q)) (hf : hasM ms (askM t s q) = false) : Ctr Tryd.prog [] 29 [.cells [.row 1] 148, mrow ms] [.one (.c (.loc 0 0)), .one (.agg [.v (.int .i64 t), .v (.string (B s)), .v (.int .u64 q), .v (.bool ok), .v (.string (B d))])]
    (fun os v => os = [.cells [.row 1] 148, mrow ms] ∧ v = vv (.int .i64 5)) := by
  refine Ctr.less ?_
  intro X0 hP0 hG0 N0 hN0
  refine CallVC.inline (f := 29) (by rw [hP0]; exact Tryd.func29) rfl Tryd.ntmps29 rfl (by simp) ?_
  intro X K hU hnt hbl hK
  have hP : X.P = Tryd.prog := by rw [hU.P, hP0]
  have hG := hG0.under hU
  have hT : aggOf X.P 30 = some true ∧ szOf X.P 30 = some 5 ∧ calleeOk X.P 19 = true ∧ fieldOff X.P 30 0 = some 0 ∧ aggOf X.P 26 = some true ∧ szOf X.P 26 = some 2 ∧ fieldOff X.P 30 1 = some 2 ∧ aggOf X.P 22 = some false ∧ szOf X.P 22 = some 1 ∧ calleeOk X.P 89 = true ∧ fieldOff X.P 30 2 = some 3 ∧ aggOf X.P 4 = some false ∧ szOf X.P 4 = some 1 ∧ fieldOff X.P 62 2 = some 3 ∧ aggOf X.P 3 = some false ∧ szOf X.P 3 = some 1 ∧ fieldOff X.P 30 3 = some 4 ∧ aggOf X.P 9 = some false ∧ szOf X.P 9 = some 1 ∧ fieldOff X.P 62 3 = some 4 ∧ fieldOff X.P 148 0 = some 0 ∧ aggOf X.P 59 = some false ∧ szOf X.P 59 = some 1 ∧ X.P.underlying 59 = some (TypeDesc.slice 62) ∧ elemSz X.P 59 = some (62, 5) ∧ fieldOff X.P 62 0 = some 0 ∧ fieldOff X.P 62 1 = some 2 := by rw [hP]; exact ⟨Ty.ag30, Ty.sz30, Ty.co19, Ty.fo30_0, Ty.ag26, Ty.sz26, Ty.fo30_1, Ty.ag22, Ty.sz22, Ty.co89, Ty.fo30_2, Ty.ag4, Ty.sz4, Ty.fo62_2, Ty.ag3, Ty.sz3, Ty.fo30_3, Ty.ag9, Ty.sz9, Ty.fo62_3, Ty.fo148_0, Ty.ag59, Ty.sz59, Tryd.underlying59, Ty.el59, Ty.fo62_0, Ty.fo62_1⟩
  simp only [GA, ↓GB, List.filterMap_cons, eq_self, BEq.rfl, simprocAttr] at hbl ⊢
  repeat' (first
    | (refine SX.seqK ?_; intro N hN)
    | ((first | (refine SX.ops ?_) | (refine SX.planT (id := 9) [.f 0, .f 1, .f 2, .f 4, .f 5, .b 3 6, .s 7, .s 8, .s 9] ?_ ?_ ?_; (focus first | (rw [hP]; kernel_rfl) | (rw [hU1P, hP]; kernel_rfl)); (focus kernel_rfl)) | (refine SX.planT (id := 15) [.q [(0, [10]), (1, [61]), (2, [62]), (3, [63]), (4, [3]), (5, [65]), (6, [64, 66]), (7, [67]), (8, [10, 68]), (9, [69, 68]), (10, [70, 68]), (11, [71, 68]), (12, [3, 68]), (13, [73, 68]), (14, [72, 74, 68]), (15, [68, 75]), (16, [76]), (17, [10, 77]), (18, [78, 77]), (19, [79, 77]), (20, [80, 77]), (21, [81, 77]), (22, [77, 82])] none] ?_ ?_ ?_; (focus first | (rw [hP]; kernel_rfl) | (rw [hU1P, hP]; kernel_rfl)); (focus kernel_rfl))); simp only [GA, ↓GB, List.filterMap_cons, eq_self, BEq.rfl, simprocAttr, hnt, hT, h])
    | ((first | refine SX.skip ?_ | refine SX.exit ?_ | refine SX.label ?_); try simp only [GA, ↓GB, List.filterMap_cons, eq_self, BEq.rfl, simprocAttr])
    | (refine SX.cond rfl (fun hb => ?_) (fun hb => ?_) <;> ((first | cases hb | (simp only [decide_eq_true_eq, decide_eq_false_iff_not, beq_iff_eq, beq_eq_false_iff_ne, bne_iff_ne, Bool.and_eq_true, Bool.or_eq_true, Bool.not_eq_true', Bool.not_eq_false', Bool.and_eq_false_iff, Bool.or_eq_false_iff, Int.not_lt, Int.not_le] at hb) | skip) <;> (first | (exfalso; omega) | skip)))
    | (refine SX.ret ?_; try simp only [GA, ↓GB, List.filterMap_cons, eq_self, BEq.rfl, simprocAttr])
    | (refine hN _ ?_; clear hN N)
    | ((first | refine hK _ _ (FinI.ret3 ?_) | refine hK _ _ (FinI.nrm3 ?_)); simp only [GA, ↓GB, List.filterMap_cons, eq_self, BEq.rfl, simprocAttr, finP_s, hnt, hT, h]; refine Done.out ?_)
    | (clear hN N; first | (refine hN _ ?_; clear hN N) | (clear hN N; first | (refine hN _ ?_; clear hN N) | (clear hN N; first | (refine hN _ ?_; clear hN N) | (clear hN N; first | (refine hN _ ?_; clear hN N) | (clear hN N; first | (refine hN _ ?_; clear hN N) | (refine hN _ ?_; clear hN N))))))
    | (refine bif2.mk (fun hb => ?_) (fun hb => ?_) <;> (try simp only [hb, GA, ↓GB, List.filterMap_cons, eq_self, BEq.rfl, simprocAttr, hnt, hT, h]) <;> ((first | cases hb | (simp only [decide_eq_true_eq, decide_eq_false_iff_not, beq_iff_eq, beq_eq_false_iff_ne, bne_iff_ne, Bool.and_eq_true, Bool.or_eq_true, Bool.not_eq_true', Bool.not_eq_false', Bool.and_eq_false_iff, Bool.or_eq_false_iff, Int.not_lt, Int.not_le] at hb) | skip) <;> (first | (exfalso; omega) | skip)))
    | ((first | (refine CallVC.pt (l := [_, _]) hP (putStatus_any t s q ok d hsl hq) rfl ?_) | (refine CallQ.pt (l := [_, _]) hP (putStatus_any t s q ok d hsl hq) rfl ?_) | (refine Ctr.use (find_no ms hms t s q hs hf) hP ?_ [0,1] ?_ rfl rfl ?_; (focus (intro p hp; cases hp)); (focus (refine LeR.of rfl trivial ?_ ?_ ?_ ?_ ?_ <;> first | decide | (simp only [GA, ↓GB, List.filterMap_cons, eq_self, BEq.rfl, simprocAttr, List.getD_cons_zero, List.getD_cons_succ, or_false, false_or, or_self, or_true, true_or, decide_true]; done))); intro os' s hR; obtain ⟨rfl, rfl⟩ := hR)); simp only [GA, ↓GB, List.filterMap_cons, eq_self, BEq.rfl, simprocAttr, hnt, hT, h])
    | (refine SX.block ?_)
    | (refine and_mk ?_ ?_; (focus first | decide | omega | rfl | assumption | (simp only [List.length_append, List.length_cons, List.length_nil, B_size]; omega) | (simp; done)))
    | (refine And.intro ?_ ?_))
  all_goals (try refine Done.mk ?_)
  all_goals ((refine hN0 _ _ ⟨[0, 1], _, _, ?_, ?_, ?_, ⟨rfl, rfl⟩⟩; (focus exact LeR.of rfl trivial (by simp only [GA, ↓GB, List.filterMap_cons, eq_self, BEq.rfl, simprocAttr, List.getD_cons_zero, List.getD_cons_succ, or_false, false_or, or_self, or_true, true_or, decide_true]) (by decide) rfl rfl rfl); rotate_left; (focus rfl)); rfl)
theorem note_settled (ms : List Mk) (hms : ms.length ≤ 1000000) (t : Int) (s : List UInt8) (q : Nat) (d : List UInt8) (hsl : s.length ≤ 9223372036854775807) (hq : q < 18446744073709551616) (h : statusB t s q false d = true) (hs : Sorted2 ms (askM t s q)) (hf : hasM ms (askM t s q) = true) (hp : (ms.getD (bsN ms (askM t s q)) default).st ≠ 1) : Ctr Tryd.prog [] 29 [.cells [.row 1] 148, mrow ms] [.one (.c (.loc 0 0)), .one (.agg [.v (.int .i64 t), .v (.string (B s)), .v (.int .u64 q), .v (.bool false), .v (.string (B d))])]
    (fun os v => os = [.cells [.row 1] 148, mrow ms] ∧ v = vv (.int .i64 0)) := by
  refine Ctr.less ?_
  have hlt : bsN ms (askM t s q) < ms.length := by
    simp only [hasM, Bool.and_eq_true, decide_eq_true_eq] at hf
    exact hf.1
  have hp2 : ((ms.getD (bsN ms (askM t s q)) default).st == 1) = false := by simpa using hp
  intro X0 hP0 hG0 N0 hN0
  refine CallVC.inline (f := 29) (by rw [hP0]; exact Tryd.func29) rfl Tryd.ntmps29 rfl (by simp) ?_
  intro X K hU hnt hbl hK
  have hP : X.P = Tryd.prog := by rw [hU.P, hP0]
  have hG := hG0.under hU
  have hT : aggOf X.P 30 = some true ∧ szOf X.P 30 = some 5 ∧ calleeOk X.P 19 = true ∧ fieldOff X.P 30 0 = some 0 ∧ aggOf X.P 26 = some true ∧ szOf X.P 26 = some 2 ∧ fieldOff X.P 30 1 = some 2 ∧ aggOf X.P 22 = some false ∧ szOf X.P 22 = some 1 ∧ calleeOk X.P 89 = true ∧ fieldOff X.P 30 2 = some 3 ∧ aggOf X.P 4 = some false ∧ szOf X.P 4 = some 1 ∧ fieldOff X.P 62 2 = some 3 ∧ aggOf X.P 3 = some false ∧ szOf X.P 3 = some 1 ∧ fieldOff X.P 30 3 = some 4 ∧ aggOf X.P 9 = some false ∧ szOf X.P 9 = some 1 ∧ fieldOff X.P 62 3 = some 4 ∧ fieldOff X.P 148 0 = some 0 ∧ aggOf X.P 59 = some false ∧ szOf X.P 59 = some 1 ∧ X.P.underlying 59 = some (TypeDesc.slice 62) ∧ elemSz X.P 59 = some (62, 5) ∧ fieldOff X.P 62 0 = some 0 ∧ fieldOff X.P 62 1 = some 2 := by rw [hP]; exact ⟨Ty.ag30, Ty.sz30, Ty.co19, Ty.fo30_0, Ty.ag26, Ty.sz26, Ty.fo30_1, Ty.ag22, Ty.sz22, Ty.co89, Ty.fo30_2, Ty.ag4, Ty.sz4, Ty.fo62_2, Ty.ag3, Ty.sz3, Ty.fo30_3, Ty.ag9, Ty.sz9, Ty.fo62_3, Ty.fo148_0, Ty.ag59, Ty.sz59, Tryd.underlying59, Ty.el59, Ty.fo62_0, Ty.fo62_1⟩
  simp only [GA, ↓GB, List.filterMap_cons, eq_self, BEq.rfl, simprocAttr] at hbl ⊢
  repeat' (first
    | (refine SX.seqK ?_; intro N hN)
    | ((first | (refine SX.ops ?_) | (refine SX.planT (id := 9) [.f 0, .f 1, .f 2, .f 4, .f 5, .b 3 6, .s 7, .s 8, .s 9] ?_ ?_ ?_; (focus first | (rw [hP]; kernel_rfl) | (rw [hU1P, hP]; kernel_rfl)); (focus kernel_rfl)) | (refine SX.planT (id := 15) [.q [(0, [10]), (1, [61]), (2, [62]), (3, [63]), (4, [3]), (5, [65]), (6, [64, 66]), (7, [67]), (8, [10, 68]), (9, [69, 68]), (10, [70, 68]), (11, [71, 68]), (12, [3, 68]), (13, [73, 68]), (14, [72, 74, 68]), (15, [68, 75]), (16, [76]), (17, [10, 77]), (18, [78, 77]), (19, [79, 77]), (20, [80, 77]), (21, [81, 77]), (22, [77, 82])] none] ?_ ?_ ?_; (focus first | (rw [hP]; kernel_rfl) | (rw [hU1P, hP]; kernel_rfl)); (focus kernel_rfl))); simp only [GA, ↓GB, List.filterMap_cons, eq_self, BEq.rfl, simprocAttr, hnt, hT, h, hp2])
    | ((first | refine SX.skip ?_ | refine SX.exit ?_ | refine SX.label ?_); try simp only [GA, ↓GB, List.filterMap_cons, eq_self, BEq.rfl, simprocAttr])
    | (refine SX.cond rfl (fun hb => ?_) (fun hb => ?_) <;> ((first | cases hb | (simp only [decide_eq_true_eq, decide_eq_false_iff_not, beq_iff_eq, beq_eq_false_iff_ne, bne_iff_ne, Bool.and_eq_true, Bool.or_eq_true, Bool.not_eq_true', Bool.not_eq_false', Bool.and_eq_false_iff, Bool.or_eq_false_iff, Int.not_lt, Int.not_le] at hb) | skip) <;> (first | (exfalso; omega) | skip)))
    | (refine SX.ret ?_; try simp only [GA, ↓GB, List.filterMap_cons, eq_self, BEq.rfl, simprocAttr])
    | (refine hN _ ?_; clear hN N)
    | ((first | refine hK _ _ (FinI.ret3 ?_) | refine hK _ _ (FinI.nrm3 ?_)); simp only [GA, ↓GB, List.filterMap_cons, eq_self, BEq.rfl, simprocAttr, finP_s, hnt, hT, h, hp2]; refine Done.out ?_)
    | (clear hN N; first | (refine hN _ ?_; clear hN N) | (clear hN N; first | (refine hN _ ?_; clear hN N) | (clear hN N; first | (refine hN _ ?_; clear hN N) | (clear hN N; first | (refine hN _ ?_; clear hN N) | (clear hN N; first | (refine hN _ ?_; clear hN N) | (refine hN _ ?_; clear hN N))))))
    | (refine bif2.mk (fun hb => ?_) (fun hb => ?_) <;> (try simp only [hb, GA, ↓GB, List.filterMap_cons, eq_self, BEq.rfl, simprocAttr, hnt, hT, h, hp2]) <;> ((first | cases hb | (simp only [decide_eq_true_eq, decide_eq_false_iff_not, beq_iff_eq, beq_eq_false_iff_ne, bne_iff_ne, Bool.and_eq_true, Bool.or_eq_true, Bool.not_eq_true', Bool.not_eq_false', Bool.and_eq_false_iff, Bool.or_eq_false_iff, Int.not_lt, Int.not_le] at hb) | skip) <;> (first | (exfalso; omega) | skip)))
    | ((first | (refine CallVC.pt (l := [_, _]) hP (putStatus_any t s q false d hsl hq) rfl ?_) | (refine CallQ.pt (l := [_, _]) hP (putStatus_any t s q false d hsl hq) rfl ?_) | (refine Ctr.use (find_yes ms hms t s q hs hf) hP ?_ [0,1] ?_ rfl rfl ?_; (focus (intro p hp; cases hp)); (focus (refine LeR.of rfl trivial ?_ ?_ ?_ ?_ ?_ <;> first | decide | (simp only [GA, ↓GB, List.filterMap_cons, eq_self, BEq.rfl, simprocAttr, List.getD_cons_zero, List.getD_cons_succ, or_false, false_or, or_self, or_true, true_or, decide_true]; done))); intro os' s hR; obtain ⟨rfl, rfl⟩ := hR)); simp only [GA, ↓GB, List.filterMap_cons, eq_self, BEq.rfl, simprocAttr, hnt, hT, h, hp2])
    | (refine ⟨_, mks_st ms _ hlt, ?_⟩)
    | (refine SX.block ?_)
    | (refine and_mk ?_ ?_; (focus first | decide | omega | rfl | assumption | (simp only [List.length_append, List.length_cons, List.length_nil, B_size]; omega) | (simp; done)))
    | (refine And.intro ?_ ?_))
  all_goals (try refine Done.mk ?_)
  all_goals ((refine hN0 _ _ ⟨[0, 1], _, _, ?_, ?_, ?_, ⟨rfl, rfl⟩⟩; (focus exact LeR.of rfl trivial (by simp only [GA, ↓GB, List.filterMap_cons, eq_self, BEq.rfl, simprocAttr, List.getD_cons_zero, List.getD_cons_succ, or_false, false_or, or_self, or_true, true_or, decide_true]) (by decide) rfl rfl rfl); rotate_left; (focus rfl)); rfl)
end Go.Proofs.YtbdacbcpniegiaaDoor
namespace Go.Proofs.YtbdacbcpniegiaaDoor
open Go Go.RowKit Go.Proofs Go.Sx
set_option maxHeartbeats 4000000
set_option maxRecDepth 100000
set_option linter.unusedSimpArgs false
set_option linter.unusedVariables false
def isTk (t : Int) (s : List UInt8) (q : Int) (x : Mk) : Bool := (x.t == t && x.s == s) && decide (x.q ≤ q) && (x.st == 1)
def tkM (t : Int) (s : List UInt8) (q : Int) (x : Mk) : Mk := if isTk t s q x then { x with st := 2 } else x
def tkTo (t : Int) (s : List UInt8) (q : Int) (ms : List Mk) (i : Nat) : List Mk := (ms.take i).map (tkM t s q) ++ ms.drop i
theorem tkTo_len (t : Int) (s : List UInt8) (q : Int) (ms : List Mk) (i : Nat) (h : i ≤ ms.length) : (tkTo t s q ms i).length = ms.length := by simp [tkTo]; omega
theorem tkTo_at (t : Int) (s : List UInt8) (q : Int) (ms : List Mk) (i : Nat) (h : i < ms.length) : (tkTo t s q ms i).getD i default = ms.getD i default := by
  rw [List.getD_eq_getElem?_getD, List.getD_eq_getElem?_getD, tkTo, List.getElem?_append_right (by simp; omega), List.getElem?_drop]
  congr 2
  simp; omega
theorem mks_key (l : List Mk) (i : Nat) (h : i < l.length) : ((mks l).drop (i * 5)).take 2 = [.int .i64 (l.getD i default).t, .string (B (l.getD i default).s)] := by
  have := congrArg (List.take 2) (mks_at l i h)
  rw [List.take_take] at this
  exact this
theorem mks_q (ms : List Mk) (i : Nat) (h : i < ms.length) : (mks ms)[i * 5 + 2]? = some (.int .u64 (ms.getD i default).q) := by rw [mks_cell ms i 2 h (by decide)]; rfl
theorem mks_set3 (l : List Mk) (i : Nat) (v : Int) (h : i < l.length) : (mks l).take (i * 5 + 3) ++ [Value.int .i64 v] ++ (mks l).drop (i * 5 + 3 + 1) = mks (l.set i { l.getD i default with st := v }) := by
  have hA : ((mks l).take (i * 5)).length = i * 5 := by rw [List.length_take, mks_length]; omega
  have e : mks l = (mks l).take (i * 5) ++ ((l.getD i default).cells ++ (mks l).drop (i * 5 + 5)) := by
    rw [← mks_at l i h, ← List.drop_drop, List.take_append_drop, List.take_append_drop]
  rw [← mks_set l i _ h]
  have e1 : (mks l).take (i * 5 + 3) = (mks l).take (i * 5) ++ (l.getD i default).cells.take 3 := by
    conv => lhs; rw [e]
    rw [List.take_append, hA, List.take_of_length_le (by omega), show i * 5 + 3 - i * 5 = 3 by omega]
    rfl
  have e2 : (mks l).drop (i * 5 + 3 + 1) = (l.getD i default).cells.drop 4 ++ (mks l).drop (i * 5 + 5) := by
    conv => lhs; rw [e]
    rw [List.drop_append, hA, List.drop_of_length_le (by omega), show i * 5 + 3 + 1 - i * 5 = 4 by omega]
    rfl
  rw [e1, e2]
  simp [Mk.cells]
theorem tkTo_succ (t : Int) (s : List UInt8) (q : Int) (ms : List Mk) (i : Nat) (h : i < ms.length) : tkTo t s q ms (i + 1) = (tkTo t s q ms i).set i (tkM t s q (ms.getD i default)) := by
  have e : ms.getD i default = ms[i] := by rw [List.getD_eq_getElem?_getD, List.getElem?_eq_getElem h]; rfl
  rw [e, tkTo, tkTo, List.take_succ_eq_append_getElem h, List.set_append_right _ _ (by simp; omega), List.drop_eq_getElem_cons h, List.map_append, List.length_map, List.length_take, Nat.min_eq_left (Nat.le_of_lt h), Nat.sub_self, List.set_cons_zero, List.append_assoc]
  rfl
theorem tk_yes (t : Int) (s : List UInt8) (q : Int) (ms : List Mk) (i : Nat) (h : i < ms.length) (n : Nat) (hp : isTk t s q ((tkTo t s q ms i).getD i default) = true) :
    LO.row 62 5 n ((mks (tkTo t s q ms i)).take (i * 5 + 3) ++ [Value.int .i64 2] ++ (mks (tkTo t s q ms i)).drop (i * 5 + 3 + 1)) = LO.row 62 5 n (mks (tkTo t s q ms (i + 1))) := by
  rw [mks_set3 _ _ _ (by rw [tkTo_len _ _ _ _ _ (Nat.le_of_lt h)]; exact h), tkTo_succ t s q ms i h]
  rw [tkTo_at _ _ _ _ _ h] at hp ⊢
  rw [tkM, if_pos hp]
theorem tk_no (t : Int) (s : List UInt8) (q : Int) (ms : List Mk) (i : Nat) (h : i < ms.length) (hp : isTk t s q ((tkTo t s q ms i).getD i default) = false) :
    tkTo t s q ms (i + 1) = tkTo t s q ms i := by
  rw [tkTo_succ t s q ms i h]
  have e := tkTo_at t s q ms i h
  rw [e] at hp
  rw [tkM, hp, if_neg (by simp), ← e, List.getD_eq_getElem?_getD, List.getElem?_eq_getElem (by rw [tkTo_len _ _ _ _ _ (Nat.le_of_lt h)]; exact h)]
  simp
theorem note_ok (ms : List Mk) (hms : ms.length ≤ 1000000) (t : Int) (s : List UInt8) (q : Nat) (d : List UInt8) (hsl : s.length ≤ 9223372036854775807) (hq : q < 18446744073709551616) (h : statusB t s q true d = true) (hs : Sorted2 ms (askM t s q)) (hf : hasM ms (askM t s q) = true) : Ctr Tryd.prog [] 29 [.cells [.row 1] 148, mrow ms] [.one (.c (.loc 0 0)), .one (.agg [.v (.int .i64 t), .v (.string (B s)), .v (.int .u64 q), .v (.bool true), .v (.string (B d))])]
    (fun os v => os = [.cells [.row 1] 148, mrow (ms.map (tkM t s q))] ∧ v = vv (.int .i64 0)) := by
  refine Ctr.less ?_
  have hlt : bsN ms (askM t s q) < ms.length := by
    simp only [hasM, Bool.and_eq_true, decide_eq_true_eq] at hf
    exact hf.1
  intro X0 hP0 hG0 N0 hN0
  refine CallVC.inline (f := 29) (by rw [hP0]; exact Tryd.func29) rfl Tryd.ntmps29 rfl (by simp) ?_
  intro X K hU hnt hbl hK
  have hP : X.P = Tryd.prog := by rw [hU.P, hP0]
  have hG := hG0.under hU
  have hT : aggOf X.P 30 = some true ∧ szOf X.P 30 = some 5 ∧ calleeOk X.P 19 = true ∧ fieldOff X.P 30 0 = some 0 ∧ aggOf X.P 26 = some true ∧ szOf X.P 26 = some 2 ∧ fieldOff X.P 30 1 = some 2 ∧ aggOf X.P 22 = some false ∧ szOf X.P 22 = some 1 ∧ calleeOk X.P 89 = true ∧ fieldOff X.P 30 2 = some 3 ∧ aggOf X.P 4 = some false ∧ szOf X.P 4 = some 1 ∧ fieldOff X.P 62 2 = some 3 ∧ aggOf X.P 3 = some false ∧ szOf X.P 3 = some 1 ∧ fieldOff X.P 30 3 = some 4 ∧ aggOf X.P 9 = some false ∧ szOf X.P 9 = some 1 ∧ fieldOff X.P 62 3 = some 4 ∧ fieldOff X.P 148 0 = some 0 ∧ aggOf X.P 59 = some false ∧ szOf X.P 59 = some 1 ∧ X.P.underlying 59 = some (TypeDesc.slice 62) ∧ elemSz X.P 59 = some (62, 5) ∧ fieldOff X.P 62 0 = some 0 ∧ fieldOff X.P 62 1 = some 2 := by rw [hP]; exact ⟨Ty.ag30, Ty.sz30, Ty.co19, Ty.fo30_0, Ty.ag26, Ty.sz26, Ty.fo30_1, Ty.ag22, Ty.sz22, Ty.co89, Ty.fo30_2, Ty.ag4, Ty.sz4, Ty.fo62_2, Ty.ag3, Ty.sz3, Ty.fo30_3, Ty.ag9, Ty.sz9, Ty.fo62_3, Ty.fo148_0, Ty.ag59, Ty.sz59, Tryd.underlying59, Ty.el59, Ty.fo62_0, Ty.fo62_1⟩
  simp only [GA, ↓GB, List.filterMap_cons, eq_self, BEq.rfl, simprocAttr] at hbl ⊢
  repeat' (first
    | (refine SX.seqK ?_; intro N hN)
    | ((first | (refine SX.ops ?_) | (refine SX.planT (id := 9) [.f 0, .f 1, .f 2, .f 4, .f 5, .b 3 6, .s 7, .s 8, .s 9] ?_ ?_ ?_; (focus first | (rw [hP]; kernel_rfl) | (rw [hU1P, hP]; kernel_rfl)); (focus kernel_rfl)) | (refine SX.planT (id := 15) [.q [(0, [10]), (1, [61]), (2, [62]), (3, [63]), (4, [3]), (5, [65]), (6, [64, 66]), (7, [67]), (8, [10, 68]), (9, [69, 68]), (10, [70, 68]), (11, [71, 68]), (12, [3, 68]), (13, [73, 68]), (14, [72, 74, 68]), (15, [68, 75]), (16, [76]), (17, [10, 77]), (18, [78, 77]), (19, [79, 77]), (20, [80, 77]), (21, [81, 77]), (22, [77, 82])] none] ?_ ?_ ?_; (focus first | (rw [hP]; kernel_rfl) | (rw [hU1P, hP]; kernel_rfl)); (focus kernel_rfl))); simp only [GA, ↓GB, List.filterMap_cons, eq_self, BEq.rfl, simprocAttr, hnt, hT, h])
    | ((first | refine SX.skip ?_ | refine SX.exit ?_ | refine SX.label ?_); try simp only [GA, ↓GB, List.filterMap_cons, eq_self, BEq.rfl, simprocAttr])
    | (refine SX.cond rfl (fun hb => ?_) (fun hb => ?_) <;> ((first | cases hb | (simp only [decide_eq_true_eq, decide_eq_false_iff_not, beq_iff_eq, beq_eq_false_iff_ne, bne_iff_ne, Bool.and_eq_true, Bool.or_eq_true, Bool.not_eq_true', Bool.not_eq_false', Bool.and_eq_false_iff, Bool.or_eq_false_iff, Int.not_lt, Int.not_le] at hb) | skip) <;> (first | (exfalso; omega) | skip)))
    | (refine SX.ret ?_; try simp only [GA, ↓GB, List.filterMap_cons, eq_self, BEq.rfl, simprocAttr])
    | (refine hN _ ?_; clear hN N)
    | ((first | refine hK _ _ (FinI.ret3 ?_) | refine hK _ _ (FinI.nrm3 ?_)); simp only [GA, ↓GB, List.filterMap_cons, eq_self, BEq.rfl, simprocAttr, finP_s, hnt, hT, h]; refine Done.out ?_)
    | (clear hN N; first | (refine hN _ ?_; clear hN N) | (clear hN N; first | (refine hN _ ?_; clear hN N) | (clear hN N; first | (refine hN _ ?_; clear hN N) | (clear hN N; first | (refine hN _ ?_; clear hN N) | (clear hN N; first | (refine hN _ ?_; clear hN N) | (refine hN _ ?_; clear hN N))))))
    | (refine bif2.mk (fun hb => ?_) (fun hb => ?_) <;> (try simp only [hb, GA, ↓GB, List.filterMap_cons, eq_self, BEq.rfl, simprocAttr, hnt, hT, h]) <;> ((first | cases hb | (simp only [decide_eq_true_eq, decide_eq_false_iff_not, beq_iff_eq, beq_eq_false_iff_ne, bne_iff_ne, Bool.and_eq_true, Bool.or_eq_true, Bool.not_eq_true', Bool.not_eq_false', Bool.and_eq_false_iff, Bool.or_eq_false_iff, Int.not_lt, Int.not_le] at hb) | skip) <;> (first | (exfalso; omega) | skip)))
    | ((first | (refine CallVC.pt (l := [_, _]) hP (putStatus_any t s q true d hsl hq) rfl ?_) | (refine CallQ.pt (l := [_, _]) hP (putStatus_any t s q true d hsl hq) rfl ?_) | (refine Ctr.use (find_yes ms hms t s q hs hf) hP ?_ [0,1] ?_ rfl rfl ?_; (focus (intro p hp; cases hp)); (focus (refine LeR.of rfl trivial ?_ ?_ ?_ ?_ ?_ <;> first | decide | (simp only [GA, ↓GB, List.filterMap_cons, eq_self, BEq.rfl, simprocAttr, List.getD_cons_zero, List.getD_cons_succ, or_false, false_or, or_self, or_true, true_or, decide_true]; done))); intro os' s hR; obtain ⟨rfl, rfl⟩ := hR)); simp only [GA, ↓GB, List.filterMap_cons, eq_self, BEq.rfl, simprocAttr, hnt, hT, h])
    | (refine SX.loop (ι := { i : Nat // i ≤ ms.length }) (fun i => ⟨[(0, .one (.c (.loc 0 0))), (3, .one (.c (.loc 2 0))), (51, vv (.int .i64 ms.length)), (52, vv (.int .i64 i.1))], [.cells [.row 1] 148, .row 62 5 ms.length (mks (tkTo t s q ms i.1)), .cells [.v (.int .i64 t), .v (.string (B s)), .v (.int .u64 q), .v (.bool true), .v (.string (B d))] 30]⟩) (fun i => ms.length - i.1) ⟨0, Nat.zero_le _⟩ ⟨[0, 1, 2], (LeR.of (by rw [hbl]; decide) (by simp only [GA, ↓GB, List.filterMap_cons, eq_self, BEq.rfl, simprocAttr, List.getD_cons_zero, List.getD_cons_succ, or_false, false_or, or_self, or_true, true_or, decide_true]; try (rfl)) (by simp only [GA, ↓GB, List.filterMap_cons, eq_self, BEq.rfl, simprocAttr, List.getD_cons_zero, List.getD_cons_succ, or_false, false_or, or_self, or_true, true_or, decide_true]; try (rfl)) (by decide) (by simp only [GA, ↓GB, List.filterMap_cons, eq_self, BEq.rfl, simprocAttr, List.getD_cons_zero, List.getD_cons_succ, or_false, false_or, or_self, or_true, true_or, decide_true]) (by simp only [GA, ↓GB, List.filterMap_cons, eq_self, BEq.rfl, simprocAttr, List.getD_cons_zero, List.getD_cons_succ, or_false, false_or, or_self, or_true, true_or, decide_true]) (by simp only [GA, ↓GB, List.filterMap_cons, eq_self, BEq.rfl, simprocAttr, List.getD_cons_zero, List.getD_cons_succ, or_false, false_or, or_self, or_true, true_or, decide_true]))⟩ ?_ <;> rintro ⟨i, hi⟩ <;> simp only [] at hi ⊢)
    | (refine ⟨_, rfl, mks_key _ i (by rw [tkTo_len _ _ _ _ _ hi]; omega), ?_⟩ <;> simp only [GA, ↓GB, List.filterMap_cons, eq_self, BEq.rfl, simprocAttr, hnt, hT])
    | (refine ⟨_, mks_q _ i (by rw [tkTo_len _ _ _ _ _ hi]; omega), ?_⟩)
    | (refine ⟨_, mks_st _ i (by rw [tkTo_len _ _ _ _ _ hi]; omega), ?_⟩)
    | (refine ⟨_, strEq_to hP (Ty.eqS26 _ _ _ _), ?_⟩)
    | (refine ⟨by rw [mks_length, tkTo_len _ _ _ _ _ hi]; omega, ?_⟩)
    | (refine SX.block ?_)
    | (refine and_mk ?_ ?_; (focus first | decide | omega | rfl | assumption | (simp only [List.length_append, List.length_cons, List.length_nil, B_size]; omega) | (simp; done)))
    | (refine And.intro ?_ ?_))
  all_goals (try refine Done.mk ?_)
  · refine ⟨⟨i + 1, by omega⟩, [0, 1, 2], (LeR.of (by rw [hbl]; decide) (by simp only [GA, ↓GB, List.filterMap_cons, eq_self, BEq.rfl, simprocAttr, List.getD_cons_zero, List.getD_cons_succ, or_false, false_or, or_self, or_true, true_or, decide_true]; try (first | (rw [wI64 (by omega) (by omega)]; rfl) | exact tk_yes t s q ms i (by omega) _ (by simp_all [isTk]))) (by simp only [GA, ↓GB, List.filterMap_cons, eq_self, BEq.rfl, simprocAttr, List.getD_cons_zero, List.getD_cons_succ, or_false, false_or, or_self, or_true, true_or, decide_true]; try (first | (rw [wI64 (by omega) (by omega)]; rfl) | exact tk_yes t s q ms i (by omega) _ (by simp_all [isTk]))) (by decide) (by simp only [GA, ↓GB, List.filterMap_cons, eq_self, BEq.rfl, simprocAttr, List.getD_cons_zero, List.getD_cons_succ, or_false, false_or, or_self, or_true, true_or, decide_true]) (by simp only [GA, ↓GB, List.filterMap_cons, eq_self, BEq.rfl, simprocAttr, List.getD_cons_zero, List.getD_cons_succ, or_false, false_or, or_self, or_true, true_or, decide_true]) (by simp only [GA, ↓GB, List.filterMap_cons, eq_self, BEq.rfl, simprocAttr, List.getD_cons_zero, List.getD_cons_succ, or_false, false_or, or_self, or_true, true_or, decide_true])), by show ms.length - (i + 1) < ms.length - i; omega⟩
  · refine ⟨⟨i + 1, by omega⟩, [0, 1, 2], (LeR.of (by rw [hbl]; decide) (by simp only [GA, ↓GB, List.filterMap_cons, eq_self, BEq.rfl, simprocAttr, List.getD_cons_zero, List.getD_cons_succ, or_false, false_or, or_self, or_true, true_or, decide_true]; try (first | (rw [wI64 (by omega) (by omega)]; rfl) | rw [tk_no t s q ms i (by omega) (by simp_all [isTk] <;> intros <;> first | omega | (rcases hb with hb | hb <;> exact absurd (by assumption) hb))])) (by simp only [GA, ↓GB, List.filterMap_cons, eq_self, BEq.rfl, simprocAttr, List.getD_cons_zero, List.getD_cons_succ, or_false, false_or, or_self, or_true, true_or, decide_true]; try (first | (rw [wI64 (by omega) (by omega)]; rfl) | rw [tk_no t s q ms i (by omega) (by simp_all [isTk] <;> intros <;> first | omega | (rcases hb with hb | hb <;> exact absurd (by assumption) hb))])) (by decide) (by simp only [GA, ↓GB, List.filterMap_cons, eq_self, BEq.rfl, simprocAttr, List.getD_cons_zero, List.getD_cons_succ, or_false, false_or, or_self, or_true, true_or, decide_true]) (by simp only [GA, ↓GB, List.filterMap_cons, eq_self, BEq.rfl, simprocAttr, List.getD_cons_zero, List.getD_cons_succ, or_false, false_or, or_self, or_true, true_or, decide_true]) (by simp only [GA, ↓GB, List.filterMap_cons, eq_self, BEq.rfl, simprocAttr, List.getD_cons_zero, List.getD_cons_succ, or_false, false_or, or_self, or_true, true_or, decide_true])), by show ms.length - (i + 1) < ms.length - i; omega⟩
  · refine ⟨⟨i + 1, by omega⟩, [0, 1, 2], (LeR.of (by rw [hbl]; decide) (by simp only [GA, ↓GB, List.filterMap_cons, eq_self, BEq.rfl, simprocAttr, List.getD_cons_zero, List.getD_cons_succ, or_false, false_or, or_self, or_true, true_or, decide_true]; try (first | (rw [wI64 (by omega) (by omega)]; rfl) | rw [tk_no t s q ms i (by omega) (by simp_all [isTk] <;> intros <;> first | omega | (rcases hb with hb | hb <;> exact absurd (by assumption) hb))])) (by simp only [GA, ↓GB, List.filterMap_cons, eq_self, BEq.rfl, simprocAttr, List.getD_cons_zero, List.getD_cons_succ, or_false, false_or, or_self, or_true, true_or, decide_true]; try (first | (rw [wI64 (by omega) (by omega)]; rfl) | rw [tk_no t s q ms i (by omega) (by simp_all [isTk] <;> intros <;> first | omega | (rcases hb with hb | hb <;> exact absurd (by assumption) hb))])) (by decide) (by simp only [GA, ↓GB, List.filterMap_cons, eq_self, BEq.rfl, simprocAttr, List.getD_cons_zero, List.getD_cons_succ, or_false, false_or, or_self, or_true, true_or, decide_true]) (by simp only [GA, ↓GB, List.filterMap_cons, eq_self, BEq.rfl, simprocAttr, List.getD_cons_zero, List.getD_cons_succ, or_false, false_or, or_self, or_true, true_or, decide_true]) (by simp only [GA, ↓GB, List.filterMap_cons, eq_self, BEq.rfl, simprocAttr, List.getD_cons_zero, List.getD_cons_succ, or_false, false_or, or_self, or_true, true_or, decide_true])), by show ms.length - (i + 1) < ms.length - i; omega⟩
  · refine ⟨⟨i + 1, by omega⟩, [0, 1, 2], (LeR.of (by rw [hbl]; decide) (by simp only [GA, ↓GB, List.filterMap_cons, eq_self, BEq.rfl, simprocAttr, List.getD_cons_zero, List.getD_cons_succ, or_false, false_or, or_self, or_true, true_or, decide_true]; try (first | (rw [wI64 (by omega) (by omega)]; rfl) | rw [tk_no t s q ms i (by omega) (by simp_all [isTk] <;> intros <;> first | omega | (rcases hb with hb | hb <;> exact absurd (by assumption) hb))])) (by simp only [GA, ↓GB, List.filterMap_cons, eq_self, BEq.rfl, simprocAttr, List.getD_cons_zero, List.getD_cons_succ, or_false, false_or, or_self, or_true, true_or, decide_true]; try (first | (rw [wI64 (by omega) (by omega)]; rfl) | rw [tk_no t s q ms i (by omega) (by simp_all [isTk] <;> intros <;> first | omega | (rcases hb with hb | hb <;> exact absurd (by assumption) hb))])) (by decide) (by simp only [GA, ↓GB, List.filterMap_cons, eq_self, BEq.rfl, simprocAttr, List.getD_cons_zero, List.getD_cons_succ, or_false, false_or, or_self, or_true, true_or, decide_true]) (by simp only [GA, ↓GB, List.filterMap_cons, eq_self, BEq.rfl, simprocAttr, List.getD_cons_zero, List.getD_cons_succ, or_false, false_or, or_self, or_true, true_or, decide_true]) (by simp only [GA, ↓GB, List.filterMap_cons, eq_self, BEq.rfl, simprocAttr, List.getD_cons_zero, List.getD_cons_succ, or_false, false_or, or_self, or_true, true_or, decide_true])), by show ms.length - (i + 1) < ms.length - i; omega⟩
  · have e : LO.row 62 5 ms.length (mks (tkTo t s q ms i)) = mrow (ms.map (tkM t s q)) := by
      rw [tkTo, List.take_of_length_le (by omega), List.drop_of_length_le (by omega), List.append_nil]; simp [mrow]
    rw [e]
    (refine hN0 _ _ ⟨[0, 1], _, _, ?_, ?_, ?_, ⟨rfl, rfl⟩⟩; (focus exact LeR.of rfl trivial (by simp only [GA, ↓GB, List.filterMap_cons, eq_self, BEq.rfl, simprocAttr, List.getD_cons_zero, List.getD_cons_succ, or_false, false_or, or_self, or_true, true_or, decide_true]) (by decide) rfl rfl rfl); rotate_left; (focus rfl))
    rfl
end Go.Proofs.YtbdacbcpniegiaaDoor
namespace Go.Proofs.YtbdacbcpniegiaaDoor
open Go Go.RowKit Go.Proofs Go.Sx
set_option maxHeartbeats 4000000
set_option maxRecDepth 100000
set_option linter.unusedSimpArgs false
set_option linter.unusedVariables false
theorem new_ctr : Ctr Tryd.prog [] 27 [] [] (fun os v => os = [.cells [.row 1] 148, mrow []] ∧ v = .one (.c (.loc 0 0))) := by
  refine Ctr.nilCell 62 5 ?_
  intro X0 hP0 hG0 N0 hN0
  refine CallVC.inline (f := 27) (by rw [hP0]; exact Tryd.func27) rfl Tryd.ntmps27 rfl (by simp) ?_
  intro X K hU hnt hbl hK
  have hP : X.P = Tryd.prog := by rw [hU.P, hP0]
  have hG := hG0.under hU
  have hT : fieldsOf X.P 148 = some [(0, 1)] ∧ zeroCells X.P 148 = some [(Value.slice none 0 0)] := by rw [hP]; exact ⟨Ty.fs148, Ty.ze148⟩
  simp only [GA, ↓GB, List.filterMap_cons, eq_self, BEq.rfl, simprocAttr] at hbl ⊢
  repeat' (first
    | (refine SX.seqK ?_; intro N hN)
    | ((first | (refine SX.ops ?_)); simp only [GA, ↓GB, List.filterMap_cons, eq_self, BEq.rfl, simprocAttr, hnt, hT])
    | ((first | refine SX.skip ?_ | refine SX.exit ?_ | refine SX.label ?_); try simp only [GA, ↓GB, List.filterMap_cons, eq_self, BEq.rfl, simprocAttr])
    | (refine SX.cond rfl (fun hb => ?_) (fun hb => ?_) <;> ((first | cases hb | (simp only [decide_eq_true_eq, decide_eq_false_iff_not, beq_iff_eq, beq_eq_false_iff_ne, bne_iff_ne, Bool.and_eq_true, Bool.or_eq_true, Bool.not_eq_true', Bool.not_eq_false', Bool.and_eq_false_iff, Bool.or_eq_false_iff, Int.not_lt, Int.not_le] at hb) | skip) <;> (first | (exfalso; omega) | skip)))
    | (refine SX.ret ?_; try simp only [GA, ↓GB, List.filterMap_cons, eq_self, BEq.rfl, simprocAttr])
    | (refine hN _ ?_; clear hN N)
    | ((first | refine hK _ _ (FinI.ret3 ?_) | refine hK _ _ (FinI.nrm3 ?_)); simp only [GA, ↓GB, List.filterMap_cons, eq_self, BEq.rfl, simprocAttr, finP_s, hnt, hT]; refine Done.out ?_)
    | (clear hN N; first | (refine hN _ ?_; clear hN N) | (clear hN N; first | (refine hN _ ?_; clear hN N) | (clear hN N; first | (refine hN _ ?_; clear hN N) | (clear hN N; first | (refine hN _ ?_; clear hN N) | (clear hN N; first | (refine hN _ ?_; clear hN N) | (refine hN _ ?_; clear hN N))))))
    | (refine bif2.mk (fun hb => ?_) (fun hb => ?_) <;> (try simp only [hb, GA, ↓GB, List.filterMap_cons, eq_self, BEq.rfl, simprocAttr, hnt, hT]) <;> ((first | cases hb | (simp only [decide_eq_true_eq, decide_eq_false_iff_not, beq_iff_eq, beq_eq_false_iff_ne, bne_iff_ne, Bool.and_eq_true, Bool.or_eq_true, Bool.not_eq_true', Bool.not_eq_false', Bool.and_eq_false_iff, Bool.or_eq_false_iff, Int.not_lt, Int.not_le] at hb) | skip) <;> (first | (exfalso; omega) | skip)))
    | (refine SX.block ?_)
    | (refine and_mk ?_ ?_; (focus first | decide | omega | rfl | assumption | (simp only [List.length_append, List.length_cons, List.length_nil, B_size]; omega) | (simp; done)))
    | (refine And.intro ?_ ?_))
  all_goals (try refine Done.mk ?_)
  exact hN0 _ _ ⟨148, rfl, rfl, rfl⟩
end Go.Proofs.YtbdacbcpniegiaaDoor
namespace Go.Proofs.YtbdacbcpniegiaaDoor
open Go Go.RowKit Go.Proofs Go.Sx
set_option maxHeartbeats 4000000
set_option maxRecDepth 100000
set_option linter.unusedSimpArgs false
set_option linter.unusedVariables false
def refM (ms : List Mk) (x : Mk) (d : List UInt8) : List Mk := ms.set (bsN ms x) { ms.getD (bsN ms x) default with st := 3, d := d }
theorem mks_set4 (l : List Mk) (i : Nat) (v : List UInt8) (h : i < l.length) : (mks l).take (i * 5 + 4) ++ [Value.string (B v)] ++ (mks l).drop (i * 5 + 4 + 1) = mks (l.set i { l.getD i default with d := v }) := by
  have hA : ((mks l).take (i * 5)).length = i * 5 := by rw [List.length_take, mks_length]; omega
  have e : mks l = (mks l).take (i * 5) ++ ((l.getD i default).cells ++ (mks l).drop (i * 5 + 5)) := by
    rw [← mks_at l i h, ← List.drop_drop, List.take_append_drop, List.take_append_drop]
  rw [← mks_set l i _ h]
  have e1 : (mks l).take (i * 5 + 4) = (mks l).take (i * 5) ++ (l.getD i default).cells.take 4 := by
    conv => lhs; rw [e]
    rw [List.take_append, hA, List.take_of_length_le (by omega), show i * 5 + 4 - i * 5 = 4 by omega]
    rfl
  rw [e1]
  simp [Mk.cells]
theorem ref_cells (ms : List Mk) (x : Mk) (d : List UInt8) (hlt : bsN ms x < ms.length) :
    ((mks ms).take (bsN ms x * 5 + 3) ++ [Value.int .i64 3] ++ (mks ms).drop (bsN ms x * 5 + 3 + 1)).take (bsN ms x * 5 + 4) ++ [Value.string (B d)] ++
      ((mks ms).take (bsN ms x * 5 + 3) ++ [Value.int .i64 3] ++ (mks ms).drop (bsN ms x * 5 + 3 + 1)).drop (bsN ms x * 5 + 4 + 1) = mks (refM ms x d) := by
  rw [mks_set3 ms (bsN ms x) 3 hlt, mks_set4 _ _ d (by rw [List.length_set]; exact hlt), List.set_set, refM]
  rw [List.getD_eq_getElem?_getD, List.getElem?_set_self hlt]
  rfl
theorem note_refused (ms : List Mk) (hms : ms.length ≤ 1000000) (t : Int) (s : List UInt8) (q : Nat) (d : List UInt8) (hsl : s.length ≤ 9223372036854775807) (hq : q < 18446744073709551616) (h : statusB t s q false d = true) (hs : Sorted2 ms (askM t s q)) (hf : hasM ms (askM t s q) = true) (hp : (ms.getD (bsN ms (askM t s q)) default).st = 1) : Ctr Tryd.prog [] 29 [.cells [.row 1] 148, mrow ms] [.one (.c (.loc 0 0)), .one (.agg [.v (.int .i64 t), .v (.string (B s)), .v (.int .u64 q), .v (.bool false), .v (.string (B d))])]
    (fun os v => os = [.cells [.row 1] 148, mrow (refM ms (askM t s q) d)] ∧ v = vv (.int .i64 0)) := by
  refine Ctr.less ?_
  have hlt : bsN ms (askM t s q) < ms.length := by
    simp only [hasM, Bool.and_eq_true, decide_eq_true_eq] at hf
    exact hf.1
  intro X0 hP0 hG0 N0 hN0
  refine CallVC.inline (f := 29) (by rw [hP0]; exact Tryd.func29) rfl Tryd.ntmps29 rfl (by simp) ?_
  intro X K hU hnt hbl hK
  have hP : X.P = Tryd.prog := by rw [hU.P, hP0]
  have hG := hG0.under hU
  have hT : aggOf X.P 30 = some true ∧ szOf X.P 30 = some 5 ∧ calleeOk X.P 19 = true ∧ fieldOff X.P 30 0 = some 0 ∧ aggOf X.P 26 = some true ∧ szOf X.P 26 = some 2 ∧ fieldOff X.P 30 1 = some 2 ∧ aggOf X.P 22 = some false ∧ szOf X.P 22 = some 1 ∧ calleeOk X.P 89 = true ∧ fieldOff X.P 30 2 = some 3 ∧ aggOf X.P 4 = some false ∧ szOf X.P 4 = some 1 ∧ fieldOff X.P 62 2 = some 3 ∧ aggOf X.P 3 = some false ∧ szOf X.P 3 = some 1 ∧ fieldOff X.P 30 3 = some 4 ∧ aggOf X.P 9 = some false ∧ szOf X.P 9 = some 1 ∧ fieldOff X.P 62 3 = some 4 ∧ fieldOff X.P 148 0 = some 0 ∧ aggOf X.P 59 = some false ∧ szOf X.P 59 = some 1 ∧ X.P.underlying 59 = some (TypeDesc.slice 62) ∧ elemSz X.P 59 = some (62, 5) ∧ fieldOff X.P 62 0 = some 0 ∧ fieldOff X.P 62 1 = some 2 := by rw [hP]; exact ⟨Ty.ag30, Ty.sz30, Ty.co19, Ty.fo30_0, Ty.ag26, Ty.sz26, Ty.fo30_1, Ty.ag22, Ty.sz22, Ty.co89, Ty.fo30_2, Ty.ag4, Ty.sz4, Ty.fo62_2, Ty.ag3, Ty.sz3, Ty.fo30_3, Ty.ag9, Ty.sz9, Ty.fo62_3, Ty.fo148_0, Ty.ag59, Ty.sz59, Tryd.underlying59, Ty.el59, Ty.fo62_0, Ty.fo62_1⟩
  simp only [GA, ↓GB, List.filterMap_cons, eq_self, BEq.rfl, simprocAttr] at hbl ⊢
  repeat' (first
    | (refine SX.seqK ?_; intro N hN)
    | ((first | (refine SX.ops ?_) | (refine SX.planT (id := 9) [.f 0, .f 1, .f 2, .f 4, .f 5, .b 3 6, .s 7, .s 8, .s 9] ?_ ?_ ?_; (focus first | (rw [hP]; kernel_rfl) | (rw [hU1P, hP]; kernel_rfl)); (focus kernel_rfl)) | (refine SX.planT (id := 15) [.q [(0, [10]), (1, [61]), (2, [62]), (3, [63]), (4, [3]), (5, [65]), (6, [64, 66]), (7, [67]), (8, [10, 68]), (9, [69, 68]), (10, [70, 68]), (11, [71, 68]), (12, [3, 68]), (13, [73, 68]), (14, [72, 74, 68]), (15, [68, 75]), (16, [76]), (17, [10, 77]), (18, [78, 77]), (19, [79, 77]), (20, [80, 77]), (21, [81, 77]), (22, [77, 82])] none] ?_ ?_ ?_; (focus first | (rw [hP]; kernel_rfl) | (rw [hU1P, hP]; kernel_rfl)); (focus kernel_rfl))); simp only [GA, ↓GB, List.filterMap_cons, eq_self, BEq.rfl, simprocAttr, hnt, hT, h, hp])
    | ((first | refine SX.skip ?_ | refine SX.exit ?_ | refine SX.label ?_); try simp only [GA, ↓GB, List.filterMap_cons, eq_self, BEq.rfl, simprocAttr])
    | (refine SX.cond rfl (fun hb => ?_) (fun hb => ?_) <;> ((first | cases hb | (simp only [decide_eq_true_eq, decide_eq_false_iff_not, beq_iff_eq, beq_eq_false_iff_ne, bne_iff_ne, Bool.and_eq_true, Bool.or_eq_true, Bool.not_eq_true', Bool.not_eq_false', Bool.and_eq_false_iff, Bool.or_eq_false_iff, Int.not_lt, Int.not_le] at hb) | skip) <;> (first | (exfalso; omega) | skip)))
    | (refine SX.ret ?_; try simp only [GA, ↓GB, List.filterMap_cons, eq_self, BEq.rfl, simprocAttr])
    | (refine hN _ ?_; clear hN N)
    | ((first | refine hK _ _ (FinI.ret3 ?_) | refine hK _ _ (FinI.nrm3 ?_)); simp only [GA, ↓GB, List.filterMap_cons, eq_self, BEq.rfl, simprocAttr, finP_s, hnt, hT, h, hp]; refine Done.out ?_)
    | (clear hN N; first | (refine hN _ ?_; clear hN N) | (clear hN N; first | (refine hN _ ?_; clear hN N) | (clear hN N; first | (refine hN _ ?_; clear hN N) | (clear hN N; first | (refine hN _ ?_; clear hN N) | (clear hN N; first | (refine hN _ ?_; clear hN N) | (refine hN _ ?_; clear hN N))))))
    | (refine bif2.mk (fun hb => ?_) (fun hb => ?_) <;> (try simp only [hb, GA, ↓GB, List.filterMap_cons, eq_self, BEq.rfl, simprocAttr, hnt, hT, h, hp]) <;> ((first | cases hb | (simp only [decide_eq_true_eq, decide_eq_false_iff_not, beq_iff_eq, beq_eq_false_iff_ne, bne_iff_ne, Bool.and_eq_true, Bool.or_eq_true, Bool.not_eq_true', Bool.not_eq_false', Bool.and_eq_false_iff, Bool.or_eq_false_iff, Int.not_lt, Int.not_le] at hb) | skip) <;> (first | (exfalso; omega) | skip)))
    | ((first | (refine CallVC.pt (l := [_, _]) hP (putStatus_any t s q false d hsl hq) rfl ?_) | (refine CallQ.pt (l := [_, _]) hP (putStatus_any t s q false d hsl hq) rfl ?_) | (refine Ctr.use (find_yes ms hms t s q hs hf) hP ?_ [0,1] ?_ rfl rfl ?_; (focus (intro p hp; cases hp)); (focus (refine LeR.of rfl trivial ?_ ?_ ?_ ?_ ?_ <;> first | decide | (simp only [GA, ↓GB, List.filterMap_cons, eq_self, BEq.rfl, simprocAttr, List.getD_cons_zero, List.getD_cons_succ, or_false, false_or, or_self, or_true, true_or, decide_true]; done))); intro os' s hR; obtain ⟨rfl, rfl⟩ := hR)); simp only [GA, ↓GB, List.filterMap_cons, eq_self, BEq.rfl, simprocAttr, hnt, hT, h, hp])
    | (refine ⟨_, mks_st ms _ hlt, ?_⟩)
    | (refine ⟨by simp only [mks_length, List.length_append, List.length_take, List.length_drop, List.length_cons, List.length_nil]; omega, ?_⟩)
    | (refine SX.block ?_)
    | (refine and_mk ?_ ?_; (focus first | decide | omega | rfl | assumption | (simp only [List.length_append, List.length_cons, List.length_nil, B_size]; omega) | (simp; done)))
    | (refine And.intro ?_ ?_))
  all_goals (try refine Done.mk ?_)
  all_goals
    rw [ref_cells ms _ d hlt]
    have e : LO.row 62 5 ms.length (mks (refM ms (askM t s q) d)) = mrow (refM ms (askM t s q) d) := by simp [mrow, refM]
    rw [e]
    (refine hN0 _ _ ⟨[0, 1], _, _, ?_, ?_, ?_, ⟨rfl, rfl⟩⟩; (focus exact LeR.of rfl trivial (by simp only [GA, ↓GB, List.filterMap_cons, eq_self, BEq.rfl, simprocAttr, List.getD_cons_zero, List.getD_cons_succ, or_false, false_or, or_self, or_true, true_or, decide_true]) (by decide) rfl rfl rfl); rotate_left; (focus rfl))
    rfl
end Go.Proofs.YtbdacbcpniegiaaDoor
namespace Go.Proofs.YtbdacbcpniegiaaDoor
open Go Go.RowKit Go.Proofs Go.Sx
set_option maxHeartbeats 4000000
set_option maxRecDepth 100000
set_option linter.unusedSimpArgs false
set_option linter.unusedVariables false
def beginL (ms : List Mk) (t : Int) (s : List UInt8) (q : Int) : List Mk × Int :=
  if badB t s q then (ms, 1) else if decide (0 ≤ idxI (isAt t s q) ms) then (ms, 6) else if ms.length < 1024 then (insM ms (newM t s q), 0) else (fullM ms (newM t s q), 0)
def noteL (ms : List Mk) (t : Int) (s : List UInt8) (q : Nat) (ok : Bool) (d : List UInt8) : List Mk × Int :=
  if !statusB t s q ok d then (ms, 1) else if !hasM ms (askM t s q) then (ms, 5) else if ok then (ms.map (tkM t s q), 0)
  else if (ms.getD (bsN ms (askM t s q)) default).st = 1 then (refM ms (askM t s q) d, 0) else (ms, 0)
def stateL (ms : List Mk) (t : Int) (s : List UInt8) (q : Int) : Int × List UInt8 :=
  if hasM ms (askM t s q) then ((ms.getD (bsN ms (askM t s q)) default).st, (ms.getD (bsN ms (askM t s q)) default).d) else (0, [])
def eraseL (ms : List Mk) : List Mk := ms.filter fun m => !isPend m
end Go.Proofs.YtbdacbcpniegiaaDoor
namespace Go.Proofs.YtbdacbcpniegiaaDoor
open Go Go.RowKit Go.Proofs Go.Sx
set_option linter.unusedSimpArgs false
set_option linter.unusedVariables false
theorem cmpS_lt {a b : List UInt8} : cmpS a b < 0 ↔ Op.bytesLess a b = true := by
  unfold cmpS
  split
  · rename_i h; simp [h]
  · rename_i h
    split
    · simp [h]
    · simp [h]
theorem cmpS_gt {a b : List UInt8} : 0 < cmpS a b ↔ Op.bytesLess b a = true := by
  unfold cmpS
  split
  · rename_i h; simp [bytesLess_asymm h]
  · split
    · rename_i h; simp [h]
    · rename_i h; simp [h]
theorem cmpM_lt {a b : Mk} : cmpM a b < 0 ↔ a.t < b.t ∨ (a.t = b.t ∧ (Op.bytesLess a.s b.s = true ∨ (a.s = b.s ∧ a.q < b.q))) := by
  unfold cmpM cmpMark cmpKey
  by_cases h1 : cmpI a.t b.t = 0
  · by_cases h2 : cmpS a.s b.s = 0
    · have e1 := cmpI_eq.1 h1
      have e2 := cmpS_eq.1 h2
      simp only [h1, h2, ne_eq, not_true_eq_false, if_false, cmpI_lt]
      rw [e1, e2, bytesLess_irrefl]
      simp
    · have e1 := cmpI_eq.1 h1
      have n2 : a.s ≠ b.s := fun e => h2 (cmpS_eq.2 e)
      simp only [h1, ne_eq, not_true_eq_false, if_false, h2, not_false_eq_true, if_true, cmpS_lt]
      rw [e1]
      simp [n2]
  · have n1 : a.t ≠ b.t := fun e => h1 (cmpI_eq.2 e)
    simp only [ne_eq, h1, not_false_eq_true, if_true, cmpI_lt]
    simp [n1]
theorem cmpM_eq {a b : Mk} : cmpM a b = 0 ↔ a.t = b.t ∧ a.s = b.s ∧ a.q = b.q := by
  unfold cmpM cmpMark cmpKey
  by_cases h1 : cmpI a.t b.t = 0
  · by_cases h2 : cmpS a.s b.s = 0
    · simp only [h1, h2, ne_eq, not_true_eq_false, if_false, cmpI_eq]
      simp [cmpI_eq.1 h1, cmpS_eq.1 h2]
    · have n2 : a.s ≠ b.s := fun e => h2 (cmpS_eq.2 e)
      simp only [h1, ne_eq, not_true_eq_false, if_false, h2, not_false_eq_true, if_true]
      simp [n2]
  · have n1 : a.t ≠ b.t := fun e => h1 (cmpI_eq.2 e)
    simp only [ne_eq, h1, not_false_eq_true, if_true]
    simp [n1]
theorem cmpM_irrefl (a : Mk) : ¬ cmpM a a < 0 := by rw [cmpM_eq.2 ⟨rfl, rfl, rfl⟩]; decide
theorem cmpM_trans {a b c : Mk} (h1 : cmpM a b < 0) (h2 : cmpM b c < 0) : cmpM a c < 0 := by
  rw [cmpM_lt] at *
  rcases h1 with h1 | ⟨e1, h1⟩
  · rcases h2 with h2 | ⟨e2, h2⟩
    · exact .inl (by omega)
    · exact .inl (by omega)
  · rcases h2 with h2 | ⟨e2, h2⟩
    · exact .inl (by omega)
    · refine .inr ⟨by omega, ?_⟩
      rcases h1 with h1 | ⟨s1, h1⟩
      · rcases h2 with h2 | ⟨s2, h2⟩
        · exact .inl (bytesLess_trans h1 h2)
        · exact .inl (s2 ▸ h1)
      · rcases h2 with h2 | ⟨s2, h2⟩
        · exact .inl (s1 ▸ h2)
        · exact .inr ⟨s1.trans s2, by omega⟩
theorem cmpM_tri {a b : Mk} (h1 : ¬ cmpM a b < 0) (h2 : cmpM a b ≠ 0) : cmpM b a < 0 := by
  rw [cmpM_lt] at h1 ⊢
  rw [Ne, cmpM_eq] at h2
  by_cases ht : a.t = b.t
  · refine .inr ⟨ht.symm, ?_⟩
    by_cases hs : a.s = b.s
    · refine .inr ⟨hs.symm, ?_⟩
      have n1 : ¬ a.q < b.q := fun e => h1 (.inr ⟨ht, .inr ⟨hs, e⟩⟩)
      have n2 : a.q ≠ b.q := fun e => h2 ⟨ht, hs, e⟩
      omega
    · refine .inl ?_
      cases h : Op.bytesLess b.s a.s with
      | true => rfl
      | false =>
        cases h' : Op.bytesLess a.s b.s with
        | true => exact absurd (.inr ⟨ht, .inl h'⟩) h1
        | false => exact absurd (bytesLess_total h' h) hs
  · have n1 : ¬ a.t < b.t := fun e => h1 (.inl e)
    exact .inl (by omega)
theorem cmpM_congr {a b c e : Mk} (h1 : a.t = c.t ∧ a.s = c.s ∧ a.q = c.q) (h2 : b.t = e.t ∧ b.s = e.s ∧ b.q = e.q) : cmpM a b = cmpM c e := by
  simp only [cmpM, h1.1, h1.2.1, h1.2.2, h2.1, h2.2.1, h2.2.2]
def Srt (ms : List Mk) : Prop := ms.Pairwise fun a b => cmpM a b < 0
theorem Srt.sorted2 {ms : List Mk} (h : Srt ms) (m : Mk) : Sorted2 ms m := fun a b hab hb hm => by
  rcases Nat.lt_or_eq_of_le hab with hlt | rfl
  · rw [List.getD_eq_getElem?_getD, List.getElem?_eq_getElem hb] at hm
    rw [List.getD_eq_getElem?_getD, List.getElem?_eq_getElem (by omega)]
    exact cmpM_trans (List.pairwise_iff_getElem.1 h a b (by omega) hb hlt) hm
  · exact hm
theorem takeWhile_take {α : Type} (p : α → Bool) : ∀ l : List α, l.take (l.takeWhile p).length = l.takeWhile p
  | [] => rfl
  | a :: l => by
    cases h : p a with
    | true => simp [List.takeWhile_cons, h, takeWhile_take p l]
    | false => simp [List.takeWhile_cons, h]
theorem takeWhile_drop {α : Type} (p : α → Bool) : ∀ l : List α, l.drop (l.takeWhile p).length = l.dropWhile p
  | [] => rfl
  | a :: l => by
    cases h : p a with
    | true => simp [List.takeWhile_cons, List.dropWhile_cons, h, takeWhile_drop p l]
    | false => simp [List.takeWhile_cons, List.dropWhile_cons, h]
theorem bs_take (ms : List Mk) (m : Mk) : ∀ x ∈ ms.take (bsN ms m), cmpM x m < 0 := fun x hx => by
  rw [bsN, takeWhile_take] at hx
  have := List.all_eq_true.1 (List.all_takeWhile (p := fun x => decide (cmpM x m < 0)) (l := ms)) x hx
  simpa using this
theorem bs_drop {ms : List Mk} (h : Srt ms) (m : Mk) : ∀ x ∈ ms.drop (bsN ms m), ¬ cmpM x m < 0 := fun x hx hlt => by
  rw [bsN, takeWhile_drop] at hx
  cases hd : ms.dropWhile (fun x => decide (cmpM x m < 0)) with
  | nil => rw [hd] at hx; cases hx
  | cons y l =>
    have hy : ¬ cmpM y m < 0 := by
      have := List.head?_dropWhile_not (fun x => decide (cmpM x m < 0)) ms
      rw [hd] at this
      simpa using this
    have hs : (y :: l).Pairwise fun a b => cmpM a b < 0 := hd ▸ (List.Pairwise.sublist (List.dropWhile_sublist _) h)
    rw [hd] at hx
    rcases List.mem_cons.1 hx with rfl | hx
    · exact hy hlt
    · exact hy (cmpM_trans ((List.pairwise_cons.1 hs).1 x hx) hlt)
theorem take_bs_drop (ms : List Mk) (m : Mk) : ms.take (bsN ms m) ++ ms.drop (bsN ms m) = ms := List.take_append_drop _ _
theorem mem_insM {ms : List Mk} {m x : Mk} : x ∈ insM ms m ↔ x = m ∨ x ∈ ms := by
  conv => rhs; rw [← take_bs_drop ms m]
  simp only [insM, List.mem_append, List.mem_cons]
  constructor
  · rintro (h | h | h)
    · exact .inr (.inl h)
    · exact .inl h
    · exact .inr (.inr h)
  · rintro (h | h | h)
    · exact .inr (.inl h)
    · exact .inl h
    · exact .inr (.inr h)
theorem Srt.ins {ms : List Mk} (h : Srt ms) (m : Mk) (hn : ∀ x ∈ ms, cmpM x m ≠ 0) : Srt (insM ms m) := by
  have hd := bs_drop h m
  have ht := bs_take ms m
  have e := take_bs_drop ms m
  have hs : (ms.take (bsN ms m) ++ ms.drop (bsN ms m)).Pairwise fun a b => cmpM a b < 0 := by rw [e]; exact h
  rw [List.pairwise_append] at hs
  have hm : ∀ x ∈ ms.drop (bsN ms m), cmpM m x < 0 := fun x hx => cmpM_tri (hd x hx) (hn x (List.mem_of_mem_drop hx))
  rw [Srt, insM, List.pairwise_append]
  refine ⟨hs.1, List.pairwise_cons.2 ⟨hm, hs.2.1⟩, fun a ha b hb => ?_⟩
  rcases List.mem_cons.1 hb with rfl | hb
  · exact ht a ha
  · exact hs.2.2 a ha b hb
theorem late_iff {ms : List Mk} {t q : Int} {s : List UInt8} : decide (0 ≤ idxI (isAt t s q) ms) = true ↔ ∃ x ∈ ms, x.t = t ∧ x.s = s ∧ q ≤ x.q := by
  unfold idxI
  cases h : ms.findIdx? (isAt t s q) with
  | none =>
    rw [List.findIdx?_eq_none_iff] at h
    simp only [decide_eq_true_eq]
    constructor
    · intro h0; omega
    · rintro ⟨x, hx, h1, h2, h3⟩
      have := h x hx
      simp [isAt, h1, h2, h3] at this
  | some i =>
    rw [List.findIdx?_eq_some_iff_getElem] at h
    obtain ⟨hi, hp, _⟩ := h
    simp only [isAt, Bool.and_eq_true, beq_iff_eq, decide_eq_true_eq] at hp
    constructor
    · intro _; exact ⟨ms[i], List.getElem_mem hi, hp.1.1, hp.1.2, hp.2⟩
    · intro _; simp only [decide_eq_true_eq]; omega
theorem late_ins {ms : List Mk} {t q : Int} {s : List UInt8} (h : decide (0 ≤ idxI (isAt t s q) ms) = false) : ∀ x ∈ ms, cmpM x (newM t s q) ≠ 0 := fun x hx e => by
  rw [cmpM_eq] at e
  have : decide (0 ≤ idxI (isAt t s q) ms) = true := late_iff.2 ⟨x, hx, e.1, e.2.1, by have := e.2.2; simp only [newM] at this; omega⟩
  rw [h] at this; cases this
def kk (t : Int) (s : List UInt8) (q : Int) (x : Mk) : Bool := x.t == t && x.s == s && x.q == q
theorem kk_iff {t : Int} {s : List UInt8} {q : Int} {x : Mk} : kk t s q x = true ↔ x.t = t ∧ x.s = s ∧ x.q = q := by simp [kk, and_assoc]
theorem Srt.uniq {ms : List Mk} (h : Srt ms) {x y : Mk} (hx : x ∈ ms) (hy : y ∈ ms) (e : cmpM x y = 0) : x = y := by
  obtain ⟨i, hi, rfl⟩ := List.mem_iff_getElem.1 hx
  obtain ⟨j, hj, rfl⟩ := List.mem_iff_getElem.1 hy
  have hp := List.pairwise_iff_getElem.1 h
  rcases Nat.lt_trichotomy i j with hij | rfl | hij
  · have := hp i j hi hj hij; omega
  · rfl
  · have h2 := hp j i hj hi hij
    have : cmpM ms[j] ms[i] = 0 := by rw [cmpM_eq] at e ⊢; exact ⟨e.1.symm, e.2.1.symm, e.2.2.symm⟩
    omega
theorem has_spec {ms : List Mk} (h : Srt ms) (t : Int) (s : List UInt8) (q : Int) :
    (hasM ms (askM t s q) = true → bsN ms (askM t s q) < ms.length ∧ ms.find? (kk t s q) = some (ms.getD (bsN ms (askM t s q)) default)) ∧ (hasM ms (askM t s q) = false → ms.find? (kk t s q) = none) := by
  have hd := bs_drop h (askM t s q)
  have ht := bs_take ms (askM t s q)
  have e := take_bs_drop ms (askM t s q)
  have hT : (ms.take (bsN ms (askM t s q))).find? (kk t s q) = none := by
    rw [List.find?_eq_none]
    intro x hx hk
    have h1 := ht x hx
    rw [cmpM_eq.2 (kk_iff.1 hk)] at h1
    omega
  have hf : ms.find? (kk t s q) = (ms.drop (bsN ms (askM t s q))).find? (kk t s q) := by
    conv => lhs; rw [← e]
    rw [List.find?_append, hT]; rfl
  constructor
  · intro hh
    simp only [hasM, Bool.and_eq_true, decide_eq_true_eq] at hh
    obtain ⟨hlt, hh⟩ := hh
    refine ⟨hlt, ?_⟩
    have hg : ms.getD (bsN ms (askM t s q)) default = ms[bsN ms (askM t s q)]'hlt := by rw [List.getD_eq_getElem?_getD, List.getElem?_eq_getElem hlt]; rfl
    have hk : kk t s q (ms[bsN ms (askM t s q)]'hlt) = true := by rw [kk_iff]; rw [hg] at hh; exact cmpM_eq.1 hh
    rw [hf, List.drop_eq_getElem_cons hlt, List.find?_cons_of_pos hk, hg]
  · intro hh
    simp only [hasM] at hh
    rw [hf, List.find?_eq_none]
    intro x hx hk
    have hlt : bsN ms (askM t s q) < ms.length := by
      rcases Nat.lt_or_ge (bsN ms (askM t s q)) ms.length with h1 | h1
      · exact h1
      · rw [List.drop_of_length_le h1] at hx; cases hx
    have hg : ms.getD (bsN ms (askM t s q)) default = ms[bsN ms (askM t s q)]'hlt := by rw [List.getD_eq_getElem?_getD, List.getElem?_eq_getElem hlt]; rfl
    have hne : cmpM (ms[bsN ms (askM t s q)]'hlt) (askM t s q) ≠ 0 := by rw [hg] at hh; simpa [hlt] using hh
    rw [List.drop_eq_getElem_cons hlt] at hx hd
    have h0 : ¬ cmpM (ms[bsN ms (askM t s q)]'hlt) (askM t s q) < 0 := hd _ (List.mem_cons_self ..)
    have h1 := cmpM_tri h0 hne
    rcases List.mem_cons.1 hx with rfl | hx
    · exact hne (cmpM_eq.2 (kk_iff.1 hk))
    · have hs : (ms[bsN ms (askM t s q)]'hlt :: ms.drop (bsN ms (askM t s q) + 1)).Pairwise fun a b => cmpM a b < 0 := by
        rw [← List.drop_eq_getElem_cons hlt]; exact List.Pairwise.sublist (List.drop_sublist _ _) h
      have h2 := cmpM_trans h1 ((List.pairwise_cons.1 hs).1 x hx)
      rw [cmpM_congr (a := askM t s q) (c := x) (b := x) (e := x) (by have := kk_iff.1 hk; exact ⟨this.1.symm, this.2.1.symm, this.2.2.symm⟩) ⟨rfl, rfl, rfl⟩] at h2
      exact cmpM_irrefl _ h2
theorem Srt.map {ms : List Mk} (h : Srt ms) {f : Mk → Mk} (hf : ∀ x, (f x).t = x.t ∧ (f x).s = x.s ∧ (f x).q = x.q) : Srt (ms.map f) := by
  rw [Srt, List.pairwise_map]
  exact h.imp fun {a b} hab => by rw [cmpM_congr (hf a) (hf b)]; exact hab
theorem Srt.filter {ms : List Mk} (h : Srt ms) (p : Mk → Bool) : Srt (ms.filter p) := List.Pairwise.sublist List.filter_sublist h
theorem tkM_key (t : Int) (s : List UInt8) (q : Int) (x : Mk) : (tkM t s q x).t = x.t ∧ (tkM t s q x).s = x.s ∧ (tkM t s q x).q = x.q := by unfold tkM; split <;> simp
def rfM (t : Int) (s : List UInt8) (q : Int) (d : List UInt8) (x : Mk) : Mk := if kk t s q x then { x with st := 3, d := d } else x
theorem rfM_key (t : Int) (s : List UInt8) (q : Int) (d : List UInt8) (x : Mk) : (rfM t s q d x).t = x.t ∧ (rfM t s q d x).s = x.s ∧ (rfM t s q d x).q = x.q := by unfold rfM; split <;> simp
theorem refM_eq {ms : List Mk} (h : Srt ms) {t : Int} {s : List UInt8} {q : Int} (hh : hasM ms (askM t s q) = true) (d : List UInt8) : refM ms (askM t s q) d = ms.map (rfM t s q d) := by
  obtain ⟨hlt, hf⟩ := (has_spec h t s q).1 hh
  have hg : ms.getD (bsN ms (askM t s q)) default = ms[bsN ms (askM t s q)]'hlt := by rw [List.getD_eq_getElem?_getD, List.getElem?_eq_getElem hlt]; rfl
  have hk := List.find?_some hf
  unfold refM
  refine List.ext_getElem (by simp) fun i h1 h2 => ?_
  have hi : i < ms.length := by simpa using h1
  rw [List.getElem_map, List.getElem_set]
  by_cases e : bsN ms (askM t s q) = i
  · subst e
    rw [if_pos rfl, hg, rfM, if_pos (hg ▸ hk)]
  · rw [if_neg e, rfM, if_neg]
    intro hk2
    have := h.uniq (List.getElem_mem hi) (List.getElem_mem hlt) (by
      rw [cmpM_eq]
      have k1 := kk_iff.1 hk2
      have k2 := kk_iff.1 (hg ▸ hk)
      exact ⟨k1.1.trans k2.1.symm, k1.2.1.trans k2.2.1.symm, k1.2.2.trans k2.2.2.symm⟩)
    have hp := List.pairwise_iff_getElem.1 h
    rcases Nat.lt_trichotomy i (bsN ms (askM t s q)) with hij | hij | hij
    · have h3 := hp _ _ hi hlt hij; rw [this] at h3; exact cmpM_irrefl _ h3
    · exact e hij.symm
    · have h3 := hp _ _ hlt hi hij; rw [this] at h3; exact cmpM_irrefl _ h3
theorem minQ_spec (ms : List Mk) : ∀ n, n < ms.length → minQ ms n ∈ ms ∧ ∀ k, k ≤ n → (minQ ms n).q ≤ (ms.getD k default).q
  | 0, h => by
    refine ⟨?_, fun k hk => ?_⟩
    · rw [minQ, List.getD_eq_getElem?_getD, List.getElem?_eq_getElem h]; exact List.getElem_mem h
    · obtain rfl : k = 0 := by omega
      exact Int.le_refl _
  | n + 1, h => by
    obtain ⟨h1, h2⟩ := minQ_spec ms n (by omega)
    rw [minQ]
    split
    · rename_i hb
      rw [cmpI_lt] at hb
      refine ⟨?_, fun k hk => ?_⟩
      · rw [List.getD_eq_getElem?_getD, List.getElem?_eq_getElem h]; exact List.getElem_mem h
      · rcases Nat.lt_or_eq_of_le hk with hk | rfl
        · have := h2 k (by omega); omega
        · exact Int.le_refl _
    · rename_i hb
      rw [cmpI_lt] at hb
      refine ⟨h1, fun k hk => ?_⟩
      rcases Nat.lt_or_eq_of_le hk with hk | rfl
      · exact h2 k (by omega)
      · omega
theorem minQ_le {ms : List Mk} (h : 0 < ms.length) : minQ ms (ms.length - 1) ∈ ms ∧ ∀ x ∈ ms, (minQ ms (ms.length - 1)).q ≤ x.q := by
  obtain ⟨h1, h2⟩ := minQ_spec ms (ms.length - 1) (by omega)
  refine ⟨h1, fun x hx => ?_⟩
  obtain ⟨i, hi, rfl⟩ := List.mem_iff_getElem.1 hx
  have := h2 i (by omega)
  rwa [List.getD_eq_getElem?_getD, List.getElem?_eq_getElem hi] at this
theorem isMk_iff {m x : Mk} : isMk m.t m.s m.q m.st m.d x = true ↔ x = m := by
  cases m; cases x
  simp [isMk, and_assoc]
theorem dropM_mem {ms : List Mk} {m x : Mk} : x ∈ dropM ms m ↔ x ∈ ms ∧ x ≠ m := by
  rw [dropM, List.mem_filter, Bool.not_eq_true', ← Bool.not_eq_true, isMk_iff]
theorem dropM_len {ms : List Mk} (h : Srt ms) {m : Mk} (hm : m ∈ ms) : (dropM ms m).length + 1 = ms.length := by
  induction ms with
  | nil => cases hm
  | cons a l ih =>
    have hp := List.pairwise_cons.1 h
    by_cases e : a = m
    · subst e
      have : l.filter (fun x => !isMk a.t a.s a.q a.st a.d x) = l := by
        rw [List.filter_eq_self]
        intro x hx
        rw [Bool.not_eq_true', ← Bool.not_eq_true, isMk_iff]
        rintro rfl
        exact cmpM_irrefl _ (hp.1 x hx)
      rw [dropM, List.filter_cons_of_neg (by rw [Bool.not_eq_true, Bool.not_eq_false']; exact isMk_iff.2 rfl), this]; rfl
    · have hm' : m ∈ l := by
        rcases List.mem_cons.1 hm with h1 | h1
        · exact absurd h1.symm e
        · exact h1
      have := ih hp.2 hm'
      rw [dropM] at this ⊢
      rw [List.filter_cons_of_pos (by rw [Bool.not_eq_true', ← Bool.not_eq_true, isMk_iff]; exact e)]
      simp only [List.length_cons]; omega
structure Inv (ms : List Mk) : Prop where
  srt : Srt ms
  room : ms.length ≤ 1024
theorem Inv.nil : Inv [] := ⟨List.Pairwise.nil, by decide⟩
theorem Inv.begin {ms : List Mk} (h : Inv ms) (t : Int) (s : List UInt8) (q : Int) : Inv (beginL ms t s q).1 := by
  unfold beginL
  split
  · exact h
  · split
    · exact h
    · rename_i h1 h2
      have hs := h.srt.ins (newM t s q) (late_ins (by simpa using h2))
      split
      · exact ⟨hs, by rw [insM_len]; omega⟩
      · have hl := insM_len ms (newM t s q)
        have hm := (minQ_le (ms := insM ms (newM t s q)) (by omega)).1
        refine ⟨hs.filter _, ?_⟩
        have := dropM_len hs hm
        have := h.room
        show (dropM _ _).length ≤ 1024
        omega
theorem Inv.note {ms : List Mk} (h : Inv ms) (t : Int) (s : List UInt8) (q : Nat) (ok : Bool) (d : List UInt8) : Inv (noteL ms t s q ok d).1 := by
  unfold noteL
  split
  · exact h
  · split
    · exact h
    · rename_i h1 h2
      split
      · exact ⟨h.srt.map (tkM_key t s q), by simpa using h.room⟩
      · split
        · rw [refM_eq h.srt (by simpa using h2)]
          exact ⟨h.srt.map (rfM_key t s q d), by simpa using h.room⟩
        · exact h
theorem Inv.erase {ms : List Mk} (h : Inv ms) : Inv (eraseL ms) := ⟨h.srt.filter _, Nat.le_trans (List.length_filter_le _ _) h.room⟩
theorem stateL_eq {ms : List Mk} (h : Inv ms) (t : Int) (s : List UInt8) (q : Int) : stateL ms t s q = match ms.find? (kk t s q) with | some x => (x.st, x.d) | none => (0, []) := by
  unfold stateL
  cases hh : hasM ms (askM t s q) with
  | true => rw [((has_spec h.srt t s q).1 hh).2]; rfl
  | false => rw [(has_spec h.srt t s q).2 hh]; rfl
theorem noteL_eq {ms : List Mk} (h : Inv ms) (t : Int) (s : List UInt8) (q : Nat) (ok : Bool) (d : List UInt8) : noteL ms t s q ok d =
    if !statusB t s q ok d then (ms, (1 : Int)) else match ms.find? (kk t s q) with
    | none => (ms, 5)
    | some x => if ok then (ms.map (tkM t s q), 0) else if x.st = 1 then (ms.map (rfM t s q d), 0) else (ms, 0) := by
  unfold noteL
  split
  · rfl
  · cases hh : hasM ms (askM t s q) with
    | true =>
      rw [((has_spec h.srt t s q).1 hh).2, refM_eq h.srt hh]
      rfl
    | false => rw [(has_spec h.srt t s q).2 hh]; rfl
end Go.Proofs.YtbdacbcpniegiaaDoor
namespace Go.Proofs.YtbdacbcpniegiaaDoor
open Go Go.RowKit Go.Proofs Go.Sx
set_option maxHeartbeats 4000000
set_option maxRecDepth 100000
set_option linter.unusedSimpArgs false
set_option linter.unusedVariables false
theorem begin_any (ms : List Mk) (hi : Inv ms) (t q : Int) (s : List UInt8) (hsl : s.length ≤ 9223372036854775807) : Ctr Tryd.prog [] 28 [.cells [.row 1] 148, mrow ms] [.one (.c (.loc 0 0)), .one (.agg [.v (.int .i64 t), .v (.string (B s))]), vv (.int .u64 q)]
    (fun os v => os = [.cells [.row 2] 148, .gone, mrow (beginL ms t s q).1] ∧ v = vv (.int .i64 (beginL ms t s q).2)) := by
  have hr := hi.room
  refine Ctr.moveCell ?_
  cases hb : badB t s q with
  | true =>
    have e : beginL ms t s q = (ms, 1) := by simp [beginL, hb]
    rw [e]
    exact (begin_wrong ms t q s hsl hb).mono fun os v h => .inr ⟨148, 62, 5, _, _, h.1, rfl, h.2⟩
  | false =>
    cases hl : decide (0 ≤ idxI (isAt t s q) ms) with
    | true =>
      have e : beginL ms t s q = (ms, 6) := by unfold beginL; rw [hb, hl]; simp
      rw [e]
      exact (begin_late ms (by omega) t q s hsl hb hl).mono fun os v h => .inr ⟨148, 62, 5, _, _, h.1, rfl, h.2⟩
    | false =>
      by_cases hn : ms.length < 1024
      · have e : beginL ms t s q = (insM ms (newM t s q), 0) := by unfold beginL; rw [hb, hl]; simp [hn]
        rw [e]
        exact (begin_ok ms hn t q s hsl (hi.srt.sorted2 _) hb hl).mono fun os v h => .inl h
      · have e : beginL ms t s q = (fullM ms (newM t s q), 0) := by unfold beginL; rw [hb, hl]; simp [hn]
        rw [e]
        exact (begin_full ms (by omega) t q s hsl (hi.srt.sorted2 _) hb hl).mono fun os v h => .inl h
theorem note_any (ms : List Mk) (hi : Inv ms) (t : Int) (s : List UInt8) (q : Nat) (ok : Bool) (d : List UInt8) (hsl : s.length ≤ 9223372036854775807) (hq : q < 18446744073709551616) : Ctr Tryd.prog [] 29 [.cells [.row 1] 148, mrow ms] [.one (.c (.loc 0 0)), .one (.agg [.v (.int .i64 t), .v (.string (B s)), .v (.int .u64 q), .v (.bool ok), .v (.string (B d))])]
    (fun os v => os = [.cells [.row 2] 148, .gone, mrow (noteL ms t s q ok d).1] ∧ v = vv (.int .i64 (noteL ms t s q ok d).2)) := by
  have hr := hi.room
  have hms : ms.length ≤ 1000000 := by omega
  have hs := hi.srt.sorted2 (askM t s q)
  refine Ctr.moveCell ?_
  cases h : statusB t s q ok d with
  | false =>
    have e : noteL ms t s q ok d = (ms, 1) := by simp [noteL, h]
    rw [e]
    exact (note_wrong ms t s q ok d hsl hq h).mono fun os v h => .inr ⟨148, 62, 5, _, _, h.1, rfl, h.2⟩
  | true =>
    cases hf : hasM ms (askM t s q) with
    | false =>
      have e : noteL ms t s q ok d = (ms, 5) := by simp [noteL, h, hf]
      rw [e]
      exact (note_none ms hms t s q ok d hsl hq h hs hf).mono fun os v h => .inr ⟨148, 62, 5, _, _, h.1, rfl, h.2⟩
    | true =>
      cases ok with
      | true =>
        have e : noteL ms t s q true d = (ms.map (tkM t s q), 0) := by simp [noteL, h, hf]
        rw [e]
        exact (note_ok ms hms t s q d hsl hq h hs hf).mono fun os v h => .inr ⟨148, 62, 5, _, _, h.1, rfl, h.2⟩
      | false =>
        by_cases hp : (ms.getD (bsN ms (askM t s q)) default).st = 1
        · have e : noteL ms t s q false d = (refM ms (askM t s q) d, 0) := by unfold noteL; rw [h, hf]; simp only [Bool.not_true, Bool.false_eq_true, if_false, hp, if_true]
          rw [e]
          exact (note_refused ms hms t s q d hsl hq h hs hf hp).mono fun os v h => .inr ⟨148, 62, 5, _, _, h.1, rfl, h.2⟩
        · have e : noteL ms t s q false d = (ms, 0) := by unfold noteL; rw [h, hf]; simp only [Bool.not_true, Bool.false_eq_true, if_false, hp]
          rw [e]
          exact (note_settled ms hms t s q d hsl hq h hs hf hp).mono fun os v h => .inr ⟨148, 62, 5, _, _, h.1, rfl, h.2⟩
theorem state_any (ms : List Mk) (hi : Inv ms) (t : Int) (s : List UInt8) (q : Int) : Ctr Tryd.prog [] 30 [.cells [.row 1] 148, mrow ms] [.one (.c (.loc 0 0)), .one (.agg [.v (.int .i64 t), .v (.string (B s))]), vv (.int .u64 q)]
    (fun os v => os = [.cells [.row 1] 148, mrow ms] ∧ v = .tup [.c (.v (.int .i64 (stateL ms t s q).1)), .c (.v (.string (B (stateL ms t s q).2)))]) := by
  have hr := hi.room
  have hs := hi.srt.sorted2 (askM t s q)
  cases hf : hasM ms (askM t s q) with
  | true =>
    have e : stateL ms t s q = ((ms.getD (bsN ms (askM t s q)) default).st, (ms.getD (bsN ms (askM t s q)) default).d) := by simp [stateL, hf]
    rw [e]
    exact state_yes ms (by omega) t s q hs hf
  | false =>
    have e : stateL ms t s q = (0, []) := by simp [stateL, hf]
    rw [e]
    exact state_no ms (by omega) t s q hs hf
theorem erase_any (ms : List Mk) (hi : Inv ms) : Ctr Tryd.prog [] 34 [.cells [.row 1] 148, mrow ms] [.one (.c (.loc 0 0))]
    (fun os v => os = [.cells [.row 2] 148, .gone, mrow (eraseL ms)] ∧ v = .tup []) := by
  have hr := hi.room
  exact erase_ctr ms (by omega)
theorem marks_any (ms : List Mk) (hi : Inv ms) : Ctr Tryd.prog [] 31 [.cells [.row 1] 148, mrow ms] [.one (.c (.loc 0 0))]
    (fun os v => os = [.cells [.row 1] 148, mrow ms, mrow ms] ∧ v = .one (.c (.row 2))) := by
  have hr := hi.room
  exact marks_ctr ms (by omega)
end Go.Proofs.YtbdacbcpniegiaaDoor
namespace Go.Proofs.YtbdacbcpniegiaaDoor
open Go Go.RowKit Go.Proofs Go.Sx
set_option linter.unusedSimpArgs false
set_option linter.unusedVariables false
set_option maxRecDepth 100000
theorem ex_plain : ∃ m1 m2 m3 : List Mk, beginL [] 1 [97] 1 = (m1, 0) ∧ beginL m1 1 [97] 3 = (m2, 0) ∧ noteL m2 1 [97] 3 true [] = (m3, 0) ∧ stateL m3 1 [97] 1 = (2, []) ∧ noteL m3 1 [97] 2 true [] = (m3, 5) ∧ m3.length = 2 :=
  ⟨[⟨1, [97], 1, 1, []⟩], [⟨1, [97], 1, 1, []⟩, ⟨1, [97], 3, 1, []⟩], [⟨1, [97], 1, 2, []⟩, ⟨1, [97], 3, 2, []⟩], by decide +kernel⟩
theorem state_nil (t : Int) (s : List UInt8) (q : Int) : stateL [] t s q = (0, []) := by simp [stateL, hasM]
end Go.Proofs.YtbdacbcpniegiaaDoor
namespace Go.Proofs.YtbdacbcpniegiaaDoor
open Go Go.RowKit Go.Proofs Go.Sx
set_option maxHeartbeats 4000000
set_option maxRecDepth 100000
set_option linter.unusedSimpArgs false
set_option linter.unusedVariables false
theorem new_to {m : List Mk} (h : m = []) : Ctr Tryd.prog [] 27 [] [] (fun os v => os = [.cells [.row 1] 148, mrow m] ∧ v = .one (.c (.loc 0 0))) := by
  subst h; exact new_ctr
theorem begin_to {ms m : List Mk} {e : Int} (hi : Inv ms) {t q : Int} {s : List UInt8} (hsl : s.length ≤ 9223372036854775807) (h : beginL ms t s q = (m, e)) : Ctr Tryd.prog [] 28 [.cells [.row 1] 148, mrow ms] [.one (.c (.loc 0 0)), .one (.agg [.v (.int .i64 t), .v (.string (B s))]), vv (.int .u64 q)]
    (fun os v => os = [.cells [.row 2] 148, .gone, mrow m] ∧ v = vv (.int .i64 e)) := by
  have := begin_any ms hi t q s hsl
  rw [h] at this
  exact this
theorem note_to {ms m : List Mk} {e : Int} (hi : Inv ms) {t : Int} {s : List UInt8} {q : Nat} {ok : Bool} {d : List UInt8} (hsl : s.length ≤ 9223372036854775807) (hq : q < 18446744073709551616) (h : noteL ms t s q ok d = (m, e)) {qi : Int} (hqi : qi = (q : Int)) : Ctr Tryd.prog [] 29 [.cells [.row 1] 148, mrow ms] [.one (.c (.loc 0 0)), .one (.agg [.v (.int .i64 t), .v (.string (B s)), .v (.int .u64 qi), .v (.bool ok), .v (.string (B d))])]
    (fun os v => os = [.cells [.row 2] 148, .gone, mrow m] ∧ v = vv (.int .i64 e)) := by
  subst hqi
  have := note_any ms hi t s q ok d hsl hq
  rw [h] at this
  exact this
theorem state_to {ms : List Mk} (hi : Inv ms) {t q st : Int} {s d : List UInt8} (h : stateL ms t s q = (st, d)) : Ctr Tryd.prog [] 30 [.cells [.row 1] 148, mrow ms] [.one (.c (.loc 0 0)), .one (.agg [.v (.int .i64 t), .v (.string (B s))]), vv (.int .u64 q)]
    (fun os v => os = [.cells [.row 1] 148, mrow ms] ∧ v = .tup [.c (.v (.int .i64 st)), .c (.v (.string (B d)))]) := by
  have := state_any ms hi t s q
  rw [h] at this
  exact this
theorem beginW_to {ms m : List Mk} {e : Int} (hi : Inv ms) {t q : Int} {s : List UInt8} (hsl : s.length ≤ 9223372036854775807) (h : beginL ms t s q = (m, e)) {qi : Int} (hqi : qi = q) : Ctr Tryd.prog [] 28 [.cells [.row 1] 148, mrow ms] [.one (.c (.loc 0 0)), .one (.agg [.v (.int .i64 t), .v (.string (B s))]), vv (.int .u64 qi)]
    (fun os v => os = [.cells [.row 2] 148, .gone, mrow m] ∧ v = vv (.int .i64 e)) := by
  subst hqi; exact begin_to hi hsl h
theorem erase_to {ms m : List Mk} (hi : Inv ms) (h : eraseL ms = m) : Ctr Tryd.prog [] 34 [.cells [.row 1] 148, mrow ms] [.one (.c (.loc 0 0))]
    (fun os v => os = [.cells [.row 2] 148, .gone, mrow m] ∧ v = .tup []) := by
  subst h; exact erase_any ms hi
theorem Inv.begin_to {ms m : List Mk} {t q e : Int} {s : List UInt8} (hi : Inv ms) (h : beginL ms t s q = (m, e)) : Inv m := by have := hi.begin t s q; rw [h] at this; exact this
theorem Inv.note_to {ms m : List Mk} {t e : Int} {s d : List UInt8} {q : Nat} {ok : Bool} (hi : Inv ms) (h : noteL ms t s q ok d = (m, e)) : Inv m := by have := hi.note t s q ok d; rw [h] at this; exact this
theorem exitAt {p : Prop} {n i : Nat} (hi : i ≤ n) (hb : (n : Int) < ((i + 1 : Nat) : Int)) (h : n = i → p) : p := h (by omega)
theorem tmodN (a n : Nat) : (a : Int).tmod (n : Int) = ((a % n : Nat) : Int) := rfl
theorem ex13_any (w : World) : Calls Tryd.prog 26 #[] w fun e w' => e = .returned (.bool true) ∧ Below w.heap.size w w' := by
  obtain ⟨m0, e0⟩ : ∃ m : List Mk, m = [] := ⟨_, rfl⟩
  obtain ⟨m1, m2, m3, h1, h2, h3, h4, h5, h6⟩ := ex_plain
  have i0 : Inv m0 := by rw [e0]; exact Inv.nil
  rw [← e0] at h1
  have h0 : stateL m0 1 [97] 1 = (0, []) := by rw [e0]; exact state_nil _ _ _
  have i1 := i0.begin_to h1
  have i2 := i1.begin_to h2
  have i3 := i2.note_to h3
  have hl : (m3.length : Int) = 2 := by rw [h6]; rfl
  clear h6
  refine calls_pureK (args := []) w Tryd.func26 rfl Tryd.ntmps26 (by simp) ?_
  intro X K hX hK
  have hnt : X.nt = 69 := by rw [hX]
  have hwi : X.wi = w := by rw [hX]
  have hP : X.P = Tryd.prog := by rw [hX]
  have hown : X.own = [] := by rw [hX]
  have hbl : X.base.length = 0 := by rw [hX]; rfl
  clear hX
  have hT : calleeOk X.P 27 = true ∧ X.P.underlying 47 = some (TypeDesc.pointer 148) ∧ fieldsOf X.P 26 = some [(0, 1), (1, 1)] ∧ zeroCells X.P 26 = some [(Value.int IntKind.i64 0), (Value.string { data := #[] })] ∧ szOf X.P 26 = some 2 ∧ aggOf X.P 26 = some true ∧ calleeOk X.P 30 = true ∧ calleeOk X.P 28 = true ∧ fieldsOf X.P 30 = some [(0, 2), (2, 1), (3, 1), (4, 1)] ∧ zeroCells X.P 30 = some [(Value.int IntKind.i64 0), (Value.string { data := #[] }), (Value.int IntKind.u64 0), (Value.bool false), (Value.string { data := #[] })] ∧ calleeOk X.P 29 = true ∧ calleeOk X.P 31 = true ∧ X.P.underlying 59 = some (TypeDesc.slice 62) := by rw [hP]; exact ⟨Ty.co27, Tryd.underlying47, Ty.fs26, Ty.ze26, Ty.sz26, Ty.ag26, Ty.co30, Ty.co28, Ty.fs30, Ty.ze30, Ty.co29, Ty.co31, Tryd.underlying59⟩
  repeat' (first
    | (refine SX.seqK ?_; intro N hN)
    | ((first | (refine SX.ops ?_)); simp only [GA, ↓GB, List.filterMap_cons, eq_self, BEq.rfl, simprocAttr, hnt, hT, hl])
    | ((first | refine SX.skip ?_ | refine SX.exit ?_ | refine SX.label ?_); try simp only [GA, ↓GB, List.filterMap_cons, eq_self, BEq.rfl, simprocAttr])
    | (refine SX.cond rfl (fun hb => ?_) (fun hb => ?_) <;> ((first | cases hb | (simp only [decide_eq_true_eq, decide_eq_false_iff_not, beq_iff_eq, beq_eq_false_iff_ne, bne_iff_ne, Bool.and_eq_true, Bool.or_eq_true, Bool.not_eq_true', Bool.not_eq_false', Bool.and_eq_false_iff, Bool.or_eq_false_iff, Int.not_lt, Int.not_le] at hb) | skip) <;> (first | (exfalso; omega) | skip)))
    | (refine SX.ret ?_; try simp only [GA, ↓GB, List.filterMap_cons, eq_self, BEq.rfl, simprocAttr])
    | (refine hN _ ?_; clear hN N)
    | (refine hK _ _ (Fin.res rfl hown ?_); simp only [GA, ↓GB, List.filterMap_cons, eq_self, BEq.rfl, simprocAttr, f_a, f_b, f_n, f_c, f_B, f_v, f_g, f_0, f_1, f_2, hT, hwi, hl]; intro w' hbel; refine Done.out ?_)
    | (clear hN N; first | (refine hN _ ?_; clear hN N) | (clear hN N; first | (refine hN _ ?_; clear hN N) | (clear hN N; first | (refine hN _ ?_; clear hN N) | (clear hN N; first | (refine hN _ ?_; clear hN N) | (clear hN N; first | (refine hN _ ?_; clear hN N) | (refine hN _ ?_; clear hN N))))))
    | (refine bif2.mk (fun hb => ?_) (fun hb => ?_) <;> (try simp only [hb, GA, ↓GB, List.filterMap_cons, eq_self, BEq.rfl, simprocAttr, hnt, hT, hl]) <;> ((first | cases hb | (simp only [decide_eq_true_eq, decide_eq_false_iff_not, beq_iff_eq, beq_eq_false_iff_ne, bne_iff_ne, Bool.and_eq_true, Bool.or_eq_true, Bool.not_eq_true', Bool.not_eq_false', Bool.and_eq_false_iff, Bool.or_eq_false_iff, Int.not_lt, Int.not_le] at hb) | skip) <;> (first | (exfalso; omega) | skip)))
    | ((first | (refine Ctr.use (new_to e0) hP ?_ [] ?_ rfl rfl ?_; (focus (intro p hp; cases hp)); (focus (refine LeR.of rfl trivial ?_ ?_ ?_ ?_ ?_ <;> first | decide | (simp only [GA, ↓GB, List.filterMap_cons, eq_self, BEq.rfl, simprocAttr, List.getD_cons_zero, List.getD_cons_succ, or_false, false_or, or_self, or_true, true_or, decide_true]; done))); intro os' s hR; obtain ⟨rfl, rfl⟩ := hR) | (refine Ctr.use (state_to i0 h0) hP ?_ [0,1] ?_ rfl rfl ?_; (focus (intro p hp; cases hp)); (focus (refine LeR.of rfl trivial ?_ ?_ ?_ ?_ ?_ <;> first | decide | (simp only [GA, ↓GB, List.filterMap_cons, eq_self, BEq.rfl, simprocAttr, List.getD_cons_zero, List.getD_cons_succ, or_false, false_or, or_self, or_true, true_or, decide_true]; done))); intro os' s hR; obtain ⟨rfl, rfl⟩ := hR) | (refine Ctr.use (begin_to i0 (by decide) h1) hP ?_ [0,1] ?_ rfl rfl ?_; (focus (intro p hp; cases hp)); (focus (refine LeR.of rfl trivial ?_ ?_ ?_ ?_ ?_ <;> first | decide | (simp only [GA, ↓GB, List.filterMap_cons, eq_self, BEq.rfl, simprocAttr, List.getD_cons_zero, List.getD_cons_succ, or_false, false_or, or_self, or_true, true_or, decide_true]; done))); intro os' s hR; obtain ⟨rfl, rfl⟩ := hR) | (refine Ctr.use (begin_to i1 (by decide) h2) hP ?_ [0,3] ?_ rfl rfl ?_; (focus (intro p hp; cases hp)); (focus (refine LeR.of rfl trivial ?_ ?_ ?_ ?_ ?_ <;> first | decide | (simp only [GA, ↓GB, List.filterMap_cons, eq_self, BEq.rfl, simprocAttr, List.getD_cons_zero, List.getD_cons_succ, or_false, false_or, or_self, or_true, true_or, decide_true]; done))); intro os' s hR; obtain ⟨rfl, rfl⟩ := hR) | (refine Ctr.use (note_to i2 (by decide) (by decide) h3 rfl) hP ?_ [0,4] ?_ rfl rfl ?_; (focus (intro p hp; cases hp)); (focus (refine LeR.of rfl trivial ?_ ?_ ?_ ?_ ?_ <;> first | decide | (simp only [GA, ↓GB, List.filterMap_cons, eq_self, BEq.rfl, simprocAttr, List.getD_cons_zero, List.getD_cons_succ, or_false, false_or, or_self, or_true, true_or, decide_true]; done))); intro os' s hR; obtain ⟨rfl, rfl⟩ := hR) | (refine Ctr.use (state_to i3 h4) hP ?_ [0,5] ?_ rfl rfl ?_; (focus (intro p hp; cases hp)); (focus (refine LeR.of rfl trivial ?_ ?_ ?_ ?_ ?_ <;> first | decide | (simp only [GA, ↓GB, List.filterMap_cons, eq_self, BEq.rfl, simprocAttr, List.getD_cons_zero, List.getD_cons_succ, or_false, false_or, or_self, or_true, true_or, decide_true]; done))); intro os' s hR; obtain ⟨rfl, rfl⟩ := hR) | (refine Ctr.use (note_to i3 (by decide) (by decide) h5 rfl) hP ?_ [0,5] ?_ rfl rfl ?_; (focus (intro p hp; cases hp)); (focus (refine LeR.of rfl trivial ?_ ?_ ?_ ?_ ?_ <;> first | decide | (simp only [GA, ↓GB, List.filterMap_cons, eq_self, BEq.rfl, simprocAttr, List.getD_cons_zero, List.getD_cons_succ, or_false, false_or, or_self, or_true, true_or, decide_true]; done))); intro os' s hR; obtain ⟨rfl, rfl⟩ := hR) | (refine Ctr.use (marks_any m3 i3) hP ?_ [0,6] ?_ rfl rfl ?_; (focus (intro p hp; cases hp)); (focus (refine LeR.of rfl trivial ?_ ?_ ?_ ?_ ?_ <;> first | decide | (simp only [GA, ↓GB, List.filterMap_cons, eq_self, BEq.rfl, simprocAttr, List.getD_cons_zero, List.getD_cons_succ, or_false, false_or, or_self, or_true, true_or, decide_true]; done))); intro os' s hR; obtain ⟨rfl, rfl⟩ := hR) | (refine VO.ptrNil rfl rfl (by rw [hP]; exact Tryd.underlying47) ?_)); simp only [GA, ↓GB, List.filterMap_cons, eq_self, BEq.rfl, simprocAttr, hnt, hT, hl])
    | (refine SX.block ?_)
    | (refine and_mk ?_ ?_; (focus first | decide | omega | rfl | assumption | (simp only [List.length_append, List.length_cons, List.length_nil, B_size]; omega) | (simp; done)))
    | (refine And.intro ?_ ?_))
  all_goals (try refine Done.mk ?_)
  all_goals first | exact hbel | exact ⟨rfl, hbel⟩
end Go.Proofs.YtbdacbcpniegiaaDoor
