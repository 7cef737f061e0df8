/- Own work: a part of the symbolic executor and of the walks of the functions that the claim reaches. -/
import Derived.Test.YtbdacbcpniegiaaDoorBase3
import Derived.Test.YtbdacbcpniegiaaDoorRows
import Derived.LaidLaws
namespace Go.Proofs.YtbdacbcpniegiaaDoor.Q
open Go Go.RowKit Go.Proofs Go.Sx
set_option maxHeartbeats 4000000
set_option maxRecDepth 100000
set_option linter.unusedSimpArgs false
set_option linter.unusedVariables false
theorem overlaps_run {P : Program} (hP : P = Tryd.prog) (w : World) (a b : Addr) (la ca lb cb : Nat) (cs cs2 : Array Value) (t t2 : TypeId) (h1 : w.heap[a.block]? = some (.cells cs t (0, 0))) (h2 : w.heap[b.block]? = some (.cells cs2 t2 (0, 0))) (hne : a.block ≠ b.block) (h0 : cs2.size ≠ 0) :
    (callFunc 145 #[.slice (some a) la ca, .slice (some b) lb cb]).run P w = .ok (.value (.bool false)) w := by
  subst hP
  rw [run_callFunc_extern Tryd.func145 (by kernel_rfl) (by kernel_rfl) (by kernel_rfl) (e := Extern.SlicesOverlaps.overlaps #[79, 79] #[4]) (by kernel_rfl),
    Lib.run_overlaps_apart w 79 4 89 (by kernel_rfl) 5 (sizeOf_run (by kernel_rfl)) a b la ca lb cb hne t t2 cs.size cs2.size (by simp [World.shape?, h1]) (by simp [World.shape?, h2]) h0 (by simp [World.frozen?, h1]) (by simp [World.frozen?, h1])]
  rfl
theorem insert_end (ms : List Rs) (hms : ms.length ≤ 1000000) (m : Rs) : Ctr Tryd.prog [] 114 [mrow ms, .cells [.v (.int .i64 m.t), .v (.string (B m.s)), .v (.int .u64 m.q), .v (.bool m.g), .v (.string (B m.b))] 89] [.one (.c (.row 0)), vv (.int .i64 ms.length), .one (.c (.sl 1 0 1 1))]
    (fun os v => os = [.gone, .cells [.v (.int .i64 m.t), .v (.string (B m.s)), .v (.int .u64 m.q), .v (.bool m.g), .v (.string (B m.b))] 89, mrow (ms ++ [m])] ∧ v = .one (.c (.row 2))) := by
  refine Ctr.less ?_
  intro X0 hP0 hG0 N0 hN0
  refine CallVC.inline (f := 114) (by rw [hP0]; exact Tryd.func114) rfl Tryd.ntmps114 rfl (by simp) ?_
  intro X K hU hnt hbl hK
  have hP : X.P = Tryd.prog := by rw [hU.P, hP0]
  have hG := hG0.under hU
  have hT : isStrT X.P 79 = false ∧ elemSz X.P 79 = some (89, 5) ∧ X.P.underlying 79 = some (TypeDesc.slice 89) ∧ elemInf X.P 79 = some (89, 5, 56, (Value.agg #[(Value.int IntKind.i64 0), (Value.string { data := #[] }), (Value.int IntKind.u64 0), (Value.bool false), (Value.string { data := #[] })])) ∧ isStrT X.P 3 = false ∧ calleeOk X.P 145 = false ∧ calleeOk X.P 146 = true := by rw [hP]; exact ⟨Ty.is79, Ty.el79, Tryd.underlying79, Ty.ei79, Ty.is3, Ty.cx145, Ty.co146⟩
  simp only [GA, ↓GB, List.filterMap_cons, eq_self, BEq.rfl, simprocAttr] at hbl ⊢
  repeat' (first
    | (exact absurd hb (by simp))
    | (refine SX.seqK ?_; intro N hN)
    | ((first | (refine SX.ops ?_) | (refine SX.planT (id := 11) [.q [(0, [9]), (1, [1]), (2, [7]), (3, [47, 48]), (4, [46, 49]), (5, [0]), (6, [1]), (7, [51, 52])] none, .s 8] ?_ ?_ ?_; (focus first | (rw [hP]; kernel_rfl) | (rw [hU1P, hP]; kernel_rfl)); (focus kernel_rfl)) | (refine SX.planT (id := 15) [.q [(0, [0]), (1, [1]), (2, [7]), (3, [70, 71]), (4, [69, 72]), (5, [0]), (6, [1]), (7, [74, 75])] none, .s 8] ?_ ?_ ?_; (focus first | (rw [hP]; kernel_rfl) | (rw [hU1P, hP]; kernel_rfl)); (focus kernel_rfl))); simp only [GA, ↓GB, List.filterMap_cons, eq_self, BEq.rfl, simprocAttr, hnt, hT])
    | ((first | refine SX.skip ?_ | refine SX.exit ?_ | refine SX.label ?_); try simp only [GA, ↓GB, List.filterMap_cons, eq_self, BEq.rfl, simprocAttr])
    | (refine SX.cond rfl (fun hb => ?_) (fun hb => ?_) <;> ((first | cases hb | (simp only [decide_eq_true_eq, decide_eq_false_iff_not, beq_iff_eq, beq_eq_false_iff_ne, bne_iff_ne, Bool.and_eq_true, Bool.or_eq_true, Bool.not_eq_true', Bool.not_eq_false', Bool.and_eq_false_iff, Bool.or_eq_false_iff, Int.not_lt, Int.not_le] at hb) | skip) <;> (first | (exfalso; omega) | skip)))
    | (refine SX.ret ?_; try simp only [GA, ↓GB, List.filterMap_cons, eq_self, BEq.rfl, simprocAttr])
    | (refine hN _ ?_; clear hN N)
    | ((first | refine hK _ _ (FinI.ret3 ?_) | refine hK _ _ (FinI.nrm3 ?_)); simp only [GA, ↓GB, List.filterMap_cons, eq_self, BEq.rfl, simprocAttr, finP_s, hnt, hT]; refine Done.out ?_)
    | (clear hN N; first | (refine hN _ ?_; clear hN N) | (clear hN N; first | (refine hN _ ?_; clear hN N) | (clear hN N; first | (refine hN _ ?_; clear hN N) | (clear hN N; first | (refine hN _ ?_; clear hN N) | (clear hN N; first | (refine hN _ ?_; clear hN N) | (refine hN _ ?_; clear hN N))))))
    | (refine bif2.mk (fun hb => ?_) (fun hb => ?_) <;> (try simp only [hb, GA, ↓GB, List.filterMap_cons, eq_self, BEq.rfl, simprocAttr, hnt, hT]) <;> ((first | cases hb | (simp only [decide_eq_true_eq, decide_eq_false_iff_not, beq_iff_eq, beq_eq_false_iff_ne, bne_iff_ne, Bool.and_eq_true, Bool.or_eq_true, Bool.not_eq_true', Bool.not_eq_false', Bool.and_eq_false_iff, Bool.or_eq_false_iff, Int.not_lt, Int.not_le] at hb) | skip) <;> (first | (exfalso; omega) | skip)))
    | (refine SX.block ?_)
    | (refine and_mk ?_ ?_; (focus first | decide | omega | rfl | assumption | (simp only [List.length_append, List.length_cons, List.length_nil, B_size]; omega) | (simp; done)))
    | (refine And.intro ?_ ?_))
  all_goals (try refine Done.mk ?_)
  have e : LO.row 89 5 (ms.length + 1) (mks ms ++ [Value.int IntKind.i64 m.t, Value.string (B m.s), Value.int IntKind.u64 m.q, Value.bool m.g, Value.string (B m.b)]) = mrow (ms ++ [m]) := by simp [mrow, mks_append, mks, Rs.cells]
  rw [e]
  (refine hN0 _ _ ⟨[0, 1, 2], _, _, ?_, ?_, ?_, ⟨rfl, rfl⟩⟩; (focus exact LeR.of rfl trivial (by simp only [GA, ↓GB, List.filterMap_cons, eq_self, BEq.rfl, simprocAttr, List.getD_cons_zero, List.getD_cons_succ, or_false, false_or, or_self, or_true, true_or, decide_true]) (by decide) rfl rfl rfl); rotate_left; (focus rfl))
  rfl
theorem cells_one (m : Rs) : ∀ u ∈ m.cells, u.oneCell' = true := by
  have := mks_one [m]
  simpa [mks] using this
theorem src_eq (ms : List Rs) (ys : List Value) (i : Nat) (hi : i < ms.length) : ((mks ms ++ ys).drop (0 + i * 5)).take ((ms.length - i) * 5) = mks (ms.drop i) := by
  rw [Nat.zero_add, List.drop_append_of_le_length (by rw [mks_length]; omega), mks_drop, List.take_append_of_le_length (by rw [mks_length]; simp), List.take_of_length_le (by rw [mks_length]; simp)]
theorem src_len (ms : List Rs) (i : Nat) : (mks (ms.drop i)).length = (ms.length - i) * 5 := by rw [mks_length]; simp
theorem ins_fin (ms : List Rs) (m : Rs) (i n : Nat) (hi : i < ms.length) (hn : n = ms.length + 1) (E : List Value) : LO.row 89 5 n (List.take (n * 5) (mks (ms.take i) ++ m.cells ++ mks (ms.drop i) ++ E)) = mrow (ms.take i ++ m :: ms.drop i) := by
  subst hn
  have l1 : (mks (ms.take i) ++ m.cells ++ mks (ms.drop i)).length = (ms.length + 1) * 5 := by simp [mks_length, Rs.cells]; omega
  rw [List.take_left' l1]
  have l2 : (ms.take i ++ m :: ms.drop i).length = ms.length + 1 := by simp; omega
  simp only [mrow, l2, mks_append, mks_cons, List.append_assoc]
theorem ins1 (ms : List Rs) (m : Rs) (i n : Nat) (hi : i < ms.length) (hn : n = ms.length + 1) (ys zs ys2 D E : List Value) :
    LO.row 89 5 n (List.take (n * 5) (List.take (0 + (i + 1) * 5) (List.take (0 + i * 5) (List.take (i * 5) (mks ms ++ ys) ++ zs ++ ys2) ++ m.cells ++ D) ++ mks (ms.drop i) ++ E)) = mrow (ms.take i ++ m :: ms.drop i) := by
  have e1 : List.take (i * 5) (mks ms ++ ys) = mks (ms.take i) := by rw [List.take_append_of_le_length (by rw [mks_length]; omega), mks_take]
  have l1 : (mks (ms.take i)).length = i * 5 := by rw [mks_length]; simp; omega
  rw [e1, Nat.zero_add, Nat.zero_add, List.append_assoc (mks (ms.take i)) zs ys2, List.take_left' l1]
  have e2 : List.take ((i + 1) * 5) (mks (ms.take i) ++ m.cells ++ D) = mks (ms.take i) ++ m.cells := List.take_left' (by rw [List.length_append, l1]; simp [Rs.cells]; omega)
  rw [e2]
  exact ins_fin ms m i n hi hn E
theorem ins2 (ms : List Rs) (m : Rs) (i n : Nat) (hi : i < ms.length) (hn : n = ms.length + 1) (ys D D' : List Value) :
    LO.row 89 5 n (List.take (n * 5) (List.take (0 + i * 5) (List.take (0 + (i + 1) * 5) (mks ms ++ ys) ++ mks (ms.drop i) ++ D) ++ m.cells ++ List.drop (0 + i * 5 + m.cells.length) (List.take (0 + (i + 1) * 5) (mks ms ++ ys) ++ mks (ms.drop i) ++ D'))) = mrow (ms.take i ++ m :: ms.drop i) := by
  have e1 : List.take ((i + 1) * 5) (mks ms ++ ys) = mks (ms.take (i + 1)) := by rw [List.take_append_of_le_length (by rw [mks_length]; omega), mks_take]
  have l1 : (mks (ms.take (i + 1))).length = (i + 1) * 5 := by rw [mks_length]; simp; omega
  have e2 : List.take (i * 5) (mks (ms.take (i + 1)) ++ mks (ms.drop i) ++ D) = mks (ms.take i) := by
    rw [List.append_assoc, List.take_append_of_le_length (by rw [l1]; omega), mks_take, List.take_take, Nat.min_eq_left (by omega)]
  have e3 : List.drop (i * 5 + m.cells.length) (mks (ms.take (i + 1)) ++ mks (ms.drop i) ++ D') = mks (ms.drop i) ++ D' := by
    rw [List.append_assoc, List.drop_left' (by rw [l1]; simp [Rs.cells]; omega)]
  rw [Nat.zero_add, Nat.zero_add, e1, e2, e3, ← List.append_assoc]
  exact ins_fin ms m i n hi hn D'
theorem insert_mid (ms : List Rs) (hms : ms.length ≤ 1000000) (m : Rs) (i : Nat) (hi : i < ms.length) : Ctr Tryd.prog [] 114 [mrow ms, .cells [.v (.int .i64 m.t), .v (.string (B m.s)), .v (.int .u64 m.q), .v (.bool m.g), .v (.string (B m.b))] 89] [.one (.c (.row 0)), vv (.int .i64 i), .one (.c (.sl 1 0 1 1))]
    (fun os v => os = [.gone, .cells [.v (.int .i64 m.t), .v (.string (B m.s)), .v (.int .u64 m.q), .v (.bool m.g), .v (.string (B m.b))] 89, mrow (ms.take i ++ m :: ms.drop i)] ∧ v = .one (.c (.row 2))) := by
  refine Ctr.less ?_
  intro X0 hP0 hG0 N0 hN0
  refine CallVC.inline (f := 114) (by rw [hP0]; exact Tryd.func114) rfl Tryd.ntmps114 rfl (by simp) ?_
  intro X K hU hnt hbl hK
  have hP : X.P = Tryd.prog := by rw [hU.P, hP0]
  have hG := hG0.under hU
  have hT : isStrT X.P 79 = false ∧ elemSz X.P 79 = some (89, 5) ∧ X.P.underlying 79 = some (TypeDesc.slice 89) ∧ elemInf X.P 79 = some (89, 5, 56, (Value.agg #[(Value.int IntKind.i64 0), (Value.string { data := #[] }), (Value.int IntKind.u64 0), (Value.bool false), (Value.string { data := #[] })])) ∧ isStrT X.P 3 = false ∧ calleeOk X.P 145 = false ∧ calleeOk X.P 146 = true := by rw [hP]; exact ⟨Ty.is79, Ty.el79, Tryd.underlying79, Ty.ei79, Ty.is3, Ty.cx145, Ty.co146⟩
  simp only [GA, ↓GB, List.filterMap_cons, eq_self, BEq.rfl, simprocAttr] at hbl ⊢
  refine SX.openRow (t := 0) (i := 0) rfl rfl (by omega) (fun cap ys hcap1 hcap2 hys => ?_)
  simp only [GA, ↓GB, List.filterMap_cons, eq_self, BEq.rfl, simprocAttr]
  have hw1 : IntKind.i64.wrap ((ms.length : Int) + 1) = ((ms.length + 1 : Nat) : Int) := by rw [wI64 (by omega) (by omega)]; rfl
  have hw2 : IntKind.i64.wrap ((i : Int) + 1) = ((i + 1 : Nat) : Int) := by rw [wI64 (by omega) (by omega)]; rfl
  have hw3 : IntKind.i64.wrap (((ms.length + 1 : Nat) : Int) - (i : Int)) = ((ms.length + 1 - i : Nat) : Int) := by rw [wI64 (by omega) (by omega)]; omega
  repeat' (first
    | (refine SX.closeRow (code := .ret) (t := 6) (j := 4) (sz := 5) (e := 89) (cap := cap2) rfl rfl (by simp only [List.length_append, List.length_take, List.length_drop, mks_length, hys, Rs.cells, List.length_cons, List.length_nil, hzs, hys2]; omega) (by omega) hcap4 ?_ <;> simp only [GA, ↓GB, List.filterMap_cons, eq_self, BEq.rfl, simprocAttr])
    | (refine SX.closeRow (code := .ret) (t := 6) (j := 2) (sz := 5) (e := 89) (cap := cap) rfl rfl (by simp only [List.length_append, List.length_take, List.length_drop, mks_length, hys, Rs.cells, List.length_cons, List.length_nil]; omega) (by omega) hcap2 ?_ <;> simp only [GA, ↓GB, List.filterMap_cons, eq_self, BEq.rfl, simprocAttr])
    | (rw [if_neg (show ¬ cap = i by omega)])
    | (rw [if_neg (show ¬ cap = i + 1 by omega)])
    | (rw [if_neg (show ¬ cap2 = i by omega)])
    | (rw [if_neg (show ¬ cap2 = i + 1 by omega)])
    | (refine SX.openRow (code := .seq (.region 10 _ _) _) (t := 9) (i := 3) rfl rfl (by omega) (fun cap2 ys2 hcap3 hcap4 hys2 => ?_) <;> simp only [GA, ↓GB, List.filterMap_cons, eq_self, BEq.rfl, simprocAttr])
    | (refine SX.seqK ?_; intro N hN)
    | ((first | (refine SX.ops ?_) | (refine SX.planT (id := 11) [.q [(0, [9]), (1, [1]), (2, [7]), (3, [47, 48]), (4, [46, 49]), (5, [0]), (6, [1]), (7, [51, 52])] none, .s 8] ?_ ?_ ?_; (focus first | (rw [hP]; kernel_rfl) | (rw [hU1P, hP]; kernel_rfl)); (focus kernel_rfl)) | (refine SX.planT (id := 15) [.q [(0, [0]), (1, [1]), (2, [7]), (3, [70, 71]), (4, [69, 72]), (5, [0]), (6, [1]), (7, [74, 75])] none, .s 8] ?_ ?_ ?_; (focus first | (rw [hP]; kernel_rfl) | (rw [hU1P, hP]; kernel_rfl)); (focus kernel_rfl))); simp only [GA, ↓GB, List.filterMap_cons, eq_self, BEq.rfl, simprocAttr, hnt, hT, hw1, hw2, hw3, Nat.sub_zero])
    | ((first | refine SX.skip ?_ | refine SX.exit ?_ | refine SX.label ?_); try simp only [GA, ↓GB, List.filterMap_cons, eq_self, BEq.rfl, simprocAttr])
    | (refine SX.cond rfl (fun hb => ?_) (fun hb => ?_) <;> ((first | cases hb | (simp only [decide_eq_true_eq, decide_eq_false_iff_not, beq_iff_eq, beq_eq_false_iff_ne, bne_iff_ne, Bool.and_eq_true, Bool.or_eq_true, Bool.not_eq_true', Bool.not_eq_false', Bool.and_eq_false_iff, Bool.or_eq_false_iff, Int.not_lt, Int.not_le] at hb) | skip) <;> (first | (exfalso; omega) | skip)))
    | (refine SX.ret ?_; try simp only [GA, ↓GB, List.filterMap_cons, eq_self, BEq.rfl, simprocAttr])
    | (refine hN _ ?_; clear hN N)
    | ((first | refine hK _ _ (FinI.ret3 ?_) | refine hK _ _ (FinI.nrm3 ?_)); simp only [GA, ↓GB, List.filterMap_cons, eq_self, BEq.rfl, simprocAttr, finP_s, hnt, hT, hw1, hw2, hw3, Nat.sub_zero]; refine Done.out ?_)
    | (clear hN N; first | (refine hN _ ?_; clear hN N) | (clear hN N; first | (refine hN _ ?_; clear hN N) | (clear hN N; first | (refine hN _ ?_; clear hN N) | (clear hN N; first | (refine hN _ ?_; clear hN N) | (clear hN N; first | (refine hN _ ?_; clear hN N) | (refine hN _ ?_; clear hN N))))))
    | (refine bif2.mk (fun hb => ?_) (fun hb => ?_) <;> (try simp only [hb, GA, ↓GB, List.filterMap_cons, eq_self, BEq.rfl, simprocAttr, hnt, hT, hw1, hw2, hw3, Nat.sub_zero]) <;> ((first | cases hb | (simp only [decide_eq_true_eq, decide_eq_false_iff_not, beq_iff_eq, beq_eq_false_iff_ne, bne_iff_ne, Bool.and_eq_true, Bool.or_eq_true, Bool.not_eq_true', Bool.not_eq_false', Bool.and_eq_false_iff, Bool.or_eq_false_iff, Int.not_lt, Int.not_le] at hb) | skip) <;> (first | (exfalso; omega) | skip)))
    | ((show VO X _ _ _ <;> refine VO.capSl (e := 89) rfl (by rw [hP]; kernel_rfl) ?_ <;> simp only [GA, ↓GB, List.filterMap_cons, eq_self, BEq.rfl, simprocAttr, hnt, hT]))
    | ((show VO X _ _ _ <;> refine VO.appendZeros (e := 89) (e1 := 89) (us := mks ms ++ ys) (k := ms.length + 1 - i) (kn := .i64) rfl rfl (by rw [hP]; exact Ty.ei79) (by rw [hP]; kernel_rfl) rfl (by rw [List.length_append, mks_length]; omega) (by omega) (by omega) (by omega) (by omega) (fun zs hzs => ?_) <;> simp only [GA, ↓GB, List.filterMap_cons, eq_self, BEq.rfl, simprocAttr, hnt, hT]))
    | ((show VO X _ _ _ <;> refine VO.copySl (e := 89) (ws := m.cells) (e2 := 89) (sz := 5) (vs := m.cells) (q := 1) rfl rfl (by rw [hP]; kernel_rfl) (by rw [hP]; kernel_rfl) rfl rfl (by show min _ _ = _; omega) rfl rfl (by simp only [List.length_append, List.length_take, List.length_drop, mks_length, hys, Rs.cells, List.length_cons, List.length_nil]; omega) (cells_one m) ?_ <;> simp only [GA, ↓GB, List.filterMap_cons, eq_self, BEq.rfl, simprocAttr, hnt, hT]))
    | ((show VO X _ _ _ <;> refine VO.copySl (e := 89) (ws := m.cells) (e2 := 89) (sz := 5) (vs := m.cells) (q := 1) rfl rfl (by rw [hP]; kernel_rfl) (by rw [hP]; kernel_rfl) rfl rfl (by show min _ _ = _; omega) rfl rfl (by simp only [List.length_append, List.length_take, List.length_drop, mks_length, hys, Rs.cells, List.length_cons, List.length_nil, hzs, hys2]; omega) (cells_one m) ?_ <;> simp only [GA, ↓GB, List.filterMap_cons, eq_self, BEq.rfl, simprocAttr, hnt, hT]))
    | ((show VO X _ _ _ <;> refine VO.copySl (e := 89) (ws := mks ms ++ ys) (e2 := 89) (sz := 5) (vs := mks (ms.drop i)) (q := ms.length - i) rfl rfl (by rw [hP]; kernel_rfl) (by rw [hP]; kernel_rfl) rfl rfl (by show min _ _ = _; omega) (src_eq ms ys i hi) (src_len ms i) (by simp only [List.length_append, List.length_take, List.length_drop, mks_length, hys, Rs.cells, List.length_cons, List.length_nil]; omega) (mks_one _) ?_ <;> simp only [GA, ↓GB, List.filterMap_cons, eq_self, BEq.rfl, simprocAttr, hnt, hT]))
    | ((show VO X _ _ _ <;> refine VO.copySl (e := 89) (ws := mks ms ++ ys) (e2 := 89) (sz := 5) (vs := mks (ms.drop i)) (q := ms.length - i) rfl rfl (by rw [hP]; kernel_rfl) (by rw [hP]; kernel_rfl) rfl rfl (by show min _ _ = _; omega) (src_eq ms ys i hi) (src_len ms i) (by simp only [List.length_append, List.length_take, List.length_drop, mks_length, hys, Rs.cells, List.length_cons, List.length_nil, hzs, hys2]; omega) (mks_one _) ?_ <;> simp only [GA, ↓GB, List.filterMap_cons, eq_self, BEq.rfl, simprocAttr, hnt, hT]))
    | ((show VO X _ _ _ <;> refine VO.overlaps (us := m.cells) (ws := mks ms ++ ys) (e1 := 89) (e2 := 89) rfl rfl rfl rfl (by decide) (by rw [List.length_append, mks_length]; omega) (overlaps_run hP) ?_ <;> simp only [GA, ↓GB, List.filterMap_cons, eq_self, BEq.rfl, simprocAttr, hnt, hT]))
    | (refine SX.block ?_)
    | (refine and_mk ?_ ?_; (focus first | decide | omega | rfl | assumption | (simp only [List.length_append, List.length_cons, List.length_nil, B_size]; omega) | (simp; done)))
    | (refine And.intro ?_ ?_))
  all_goals (try refine Done.mk ?_)
  · rw [ins1 ms m i _ hi (by omega)]
    (refine hN0 _ _ ⟨[0, 1, 5], _, _, ?_, ?_, ?_, ⟨rfl, rfl⟩⟩; (focus exact LeR.of rfl trivial (by simp only [GA, ↓GB, List.filterMap_cons, eq_self, BEq.rfl, simprocAttr, List.getD_cons_zero, List.getD_cons_succ, or_false, false_or, or_self, or_true, true_or, decide_true]) (by decide) rfl rfl rfl); rotate_left; (focus rfl))
    rfl
  · rw [ins2 ms m i _ hi (by omega)]
    (refine hN0 _ _ ⟨[0, 1, 3], _, _, ?_, ?_, ?_, ⟨rfl, rfl⟩⟩; (focus exact LeR.of rfl trivial (by simp only [GA, ↓GB, List.filterMap_cons, eq_self, BEq.rfl, simprocAttr, List.getD_cons_zero, List.getD_cons_succ, or_false, false_or, or_self, or_true, true_or, decide_true]) (by decide) rfl rfl rfl); rotate_left; (focus rfl))
    rfl
end Go.Proofs.YtbdacbcpniegiaaDoor.Q
namespace Go.Proofs.YtbdacbcpniegiaaDoor.Q
open Go Go.RowKit Go.Proofs Go.Sx
set_option maxHeartbeats 4000000
set_option maxRecDepth 100000
set_option linter.unusedSimpArgs false
set_option linter.unusedVariables false
abbrev zeroR : SV := .tup [.agg [.v (.int .i64 0), .v (.string (B [])), .v (.int .u64 0), .v (.bool false), .v (.string (B []))], .c (.v (.bool false))]
def findV : Option Rs → SV
  | some r => .tup [.agg [.v (.int .i64 r.t), .v (.string (B r.s)), .v (.int .u64 r.q), .v (.bool r.g), .v (.string (B r.b))], .c (.v (.bool true))]
  | none => zeroR
theorem find_none {p : Rs → Bool} {ms : List Rs} (h : ∀ j, j < ms.length → p (ms.getD j default) = false) : ms.find? p = none := by
  rw [List.find?_eq_none]
  intro x hx
  obtain ⟨j, hj, rfl⟩ := List.mem_iff_getElem.1 hx
  have := h j hj
  rw [List.getD_eq_getElem?_getD, List.getElem?_eq_getElem hj] at this
  simpa using this
theorem find_some {p : Rs → Bool} {ms : List Rs} {k : Nat} (hk : k < ms.length) (hp : p (ms.getD k default) = true) (hn : ∀ j, j < k → p (ms.getD j default) = false) : ms.find? p = some (ms.getD k default) := by
  rw [List.find?_eq_some_iff_getElem]
  refine ⟨hp, k, hk, by rw [List.getD_eq_getElem?_getD, List.getElem?_eq_getElem hk]; rfl, fun j hj => ?_⟩
  have := hn j hj
  rw [List.getD_eq_getElem?_getD, List.getElem?_eq_getElem (by omega)] at this
  simpa using this
theorem find_ctr (ms : List Rs) (hms : ms.length ≤ 1000000) (b : Int) (t : List UInt8) : Ctr Tryd.prog [] 54 [mrow ms] [.one (.c (.row 0)), .one (.agg [.v (.int .i64 b), .v (.string (B t))])] (fun os v => os = [mrow ms] ∧ v = findV (ms.find? (isK b t))) := by
  refine Ctr.less ?_
  rcases idxI_spec (isK b t) ms with ⟨he, hall⟩ | ⟨k, hk, he, hp, hn⟩
  · rw [find_none hall]
    intro X0 hP0 hG0 N0 hN0
    refine CallVC.inline (f := 54) (by rw [hP0]; exact Tryd.func54) rfl Tryd.ntmps54 rfl (by simp) ?_
    intro X K hU hnt hbl hK
    have hP : X.P = Tryd.prog := by rw [hU.P, hP0]
    have hG := hG0.under hU
    have hT : zeroCells X.P 89 = some [(Value.int IntKind.i64 0), (Value.string { data := #[] }), (Value.int IntKind.u64 0), (Value.bool false), (Value.string { data := #[] })] ∧ aggOf X.P 26 = some true ∧ szOf X.P 26 = some 2 ∧ calleeOk X.P 115 = true ∧ calleeOk X.P 112 = true ∧ fieldsOf X.P 89 = some [(0, 2), (2, 1), (3, 1), (4, 1)] ∧ szOf X.P 89 = some 5 ∧ elemSz X.P 79 = some (89, 5) ∧ aggOf X.P 89 = some true := by rw [hP]; exact ⟨Ty.ze89, Ty.ag26, Ty.sz26, Ty.co115, Ty.co112, Ty.fs89, Ty.sz89, Ty.el79, Ty.ag89⟩
    simp only [GA, ↓GB, List.filterMap_cons, eq_self, BEq.rfl, simprocAttr] at hbl ⊢
    have hnt1 := True.intro; have hT1 := True.intro; have hU1P := True.intro
    repeat' (first
      | (refine SX.seqK ?_; intro N hN)
      | ((first | (refine SX.ops ?_)); simp only [GA, ↓GB, List.filterMap_cons, eq_self, BEq.rfl, simprocAttr, hnt, hT, hnt1, hT1, hU1P, he])
      | ((first | refine SX.skip ?_ | refine SX.exit ?_ | refine SX.label ?_); try simp only [GA, ↓GB, List.filterMap_cons, eq_self, BEq.rfl, simprocAttr])
      | (refine SX.cond rfl (fun hb => ?_) (fun hb => ?_) <;> ((first | cases hb | (simp only [decide_eq_true_eq, decide_eq_false_iff_not, beq_iff_eq, beq_eq_false_iff_ne, bne_iff_ne, Bool.and_eq_true, Bool.or_eq_true, Bool.not_eq_true', Bool.not_eq_false', Bool.and_eq_false_iff, Bool.or_eq_false_iff, Int.not_lt, Int.not_le] at hb) | skip) <;> (first | (exfalso; omega) | skip)))
      | (refine SX.ret ?_; try simp only [GA, ↓GB, List.filterMap_cons, eq_self, BEq.rfl, simprocAttr])
      | (refine hN _ ?_; clear hN N)
      | ((first | refine hK1 _ _ (FinI.ret3 ?_) | refine hK1 _ _ (FinI.nrm3 ?_)); (repeat (clear hN N)); clear hK1 K1; simp only [GA, ↓GB, List.filterMap_cons, eq_self, BEq.rfl, simprocAttr, finP_s, hnt, hT, hnt1, hT1, hU1P, he])
      | ((first | refine hK _ _ (FinI.ret3 ?_) | refine hK _ _ (FinI.nrm3 ?_)); simp only [GA, ↓GB, List.filterMap_cons, eq_self, BEq.rfl, simprocAttr, finP_s, hnt, hT, hnt1, hT1, hU1P, he]; refine Done.out ?_)
      | (clear hN N; first | (refine hN _ ?_; clear hN N) | (clear hN N; first | (refine hN _ ?_; clear hN N) | (clear hN N; first | (refine hN _ ?_; clear hN N) | (clear hN N; first | (refine hN _ ?_; clear hN N) | (clear hN N; first | (refine hN _ ?_; clear hN N) | (refine hN _ ?_; clear hN N))))))
      | (refine bif2.mk (fun hb => ?_) (fun hb => ?_) <;> (try simp only [hb, GA, ↓GB, List.filterMap_cons, eq_self, BEq.rfl, simprocAttr, hnt, hT, hnt1, hT1, hU1P, he]) <;> ((first | cases hb | (simp only [decide_eq_true_eq, decide_eq_false_iff_not, beq_iff_eq, beq_eq_false_iff_ne, bne_iff_ne, Bool.and_eq_true, Bool.or_eq_true, Bool.not_eq_true', Bool.not_eq_false', Bool.and_eq_false_iff, Bool.or_eq_false_iff, Int.not_lt, Int.not_le] at hb) | skip) <;> (first | (exfalso; omega) | skip)))
      | ((first | (refine Ctr.use (indexFuncK ms hms b t) hP ?_ [0,3] ?_ rfl rfl ?_; (focus (intro p hp; cases hp)); (focus (refine LeR.of rfl trivial ?_ ?_ ?_ ?_ ?_ <;> first | decide | (simp only [GA, ↓GB, List.filterMap_cons, eq_self, BEq.rfl, simprocAttr, List.getD_cons_zero, List.getD_cons_succ, or_false, false_or, or_self, or_true, true_or, decide_true]; done))); intro os' s hR; obtain ⟨rfl, rfl⟩ := hR)); simp only [GA, ↓GB, List.filterMap_cons, eq_self, BEq.rfl, simprocAttr, hnt, hT, hnt1, hT1, hU1P, he])
      | (refine CallVC.inline (f := 115) ?_ rfl Tryd.ntmps115 rfl ?_ ?_; (focus rw [hP]; exact Tryd.func115); (focus simp); have hT1 : calleeOk X.P 147 = true := (by rw [hP]; exact Ty.co147); intro X1 K1 hU1 hnt1 hbl1 hK1; have hU1P := hU1.P; simp only [GA, ↓GB, List.filterMap_cons, eq_self, BEq.rfl, simprocAttr] at hbl1 ⊢)
      | ((first | (refine Ctr.use (indexFuncK ms hms b t) (hU1P.trans hP) ?_ [0,3] ?_ rfl rfl ?_; (focus (intro p hp; cases hp)); (focus (refine LeR.of rfl trivial ?_ ?_ ?_ ?_ ?_ <;> first | decide | (simp only [GA, ↓GB, List.filterMap_cons, eq_self, BEq.rfl, simprocAttr, List.getD_cons_zero, List.getD_cons_succ, or_false, false_or, or_self, or_true, true_or, decide_true]; done))); intro os' s hR; obtain ⟨rfl, rfl⟩ := hR)); simp only [GA, ↓GB, List.filterMap_cons, eq_self, BEq.rfl, simprocAttr, hnt, hT, hnt1, hT1, hU1P, he])
      | (refine SX.block ?_)
      | (refine and_mk ?_ ?_; (focus first | decide | omega | rfl | assumption | (simp only [List.length_append, List.length_cons, List.length_nil, B_size]; omega) | (simp; done)))
      | (refine And.intro ?_ ?_))
    all_goals (try refine Done.mk ?_)
    all_goals ((refine hN0 _ _ ⟨[0], _, _, ?_, ?_, ?_, ⟨rfl, rfl⟩⟩; (focus exact LeR.of rfl trivial (by simp only [GA, ↓GB, List.filterMap_cons, eq_self, BEq.rfl, simprocAttr, List.getD_cons_zero, List.getD_cons_succ, or_false, false_or, or_self, or_true, true_or, decide_true]) (by decide) rfl rfl rfl); rotate_left; (focus rfl)); rfl)
  · rw [find_some hk hp hn]
    intro X0 hP0 hG0 N0 hN0
    refine CallVC.inline (f := 54) (by rw [hP0]; exact Tryd.func54) rfl Tryd.ntmps54 rfl (by simp) ?_
    intro X K hU hnt hbl hK
    have hP : X.P = Tryd.prog := by rw [hU.P, hP0]
    have hG := hG0.under hU
    have hT : zeroCells X.P 89 = some [(Value.int IntKind.i64 0), (Value.string { data := #[] }), (Value.int IntKind.u64 0), (Value.bool false), (Value.string { data := #[] })] ∧ aggOf X.P 26 = some true ∧ szOf X.P 26 = some 2 ∧ calleeOk X.P 115 = true ∧ calleeOk X.P 112 = true ∧ fieldsOf X.P 89 = some [(0, 2), (2, 1), (3, 1), (4, 1)] ∧ szOf X.P 89 = some 5 ∧ elemSz X.P 79 = some (89, 5) ∧ aggOf X.P 89 = some true := by rw [hP]; exact ⟨Ty.ze89, Ty.ag26, Ty.sz26, Ty.co115, Ty.co112, Ty.fs89, Ty.sz89, Ty.el79, Ty.ag89⟩
    simp only [GA, ↓GB, List.filterMap_cons, eq_self, BEq.rfl, simprocAttr] at hbl ⊢
    have hnt1 := True.intro; have hT1 := True.intro; have hU1P := True.intro
    repeat' (first
      | (refine SX.seqK ?_; intro N hN)
      | ((first | (refine SX.ops ?_)); simp only [GA, ↓GB, List.filterMap_cons, eq_self, BEq.rfl, simprocAttr, hnt, hT, hnt1, hT1, hU1P, he])
      | ((first | refine SX.skip ?_ | refine SX.exit ?_ | refine SX.label ?_); try simp only [GA, ↓GB, List.filterMap_cons, eq_self, BEq.rfl, simprocAttr])
      | (refine SX.cond rfl (fun hb => ?_) (fun hb => ?_) <;> ((first | cases hb | (simp only [decide_eq_true_eq, decide_eq_false_iff_not, beq_iff_eq, beq_eq_false_iff_ne, bne_iff_ne, Bool.and_eq_true, Bool.or_eq_true, Bool.not_eq_true', Bool.not_eq_false', Bool.and_eq_false_iff, Bool.or_eq_false_iff, Int.not_lt, Int.not_le] at hb) | skip) <;> (first | (exfalso; omega) | skip)))
      | (refine SX.ret ?_; try simp only [GA, ↓GB, List.filterMap_cons, eq_self, BEq.rfl, simprocAttr])
      | (refine hN _ ?_; clear hN N)
      | ((first | refine hK1 _ _ (FinI.ret3 ?_) | refine hK1 _ _ (FinI.nrm3 ?_)); (repeat (clear hN N)); clear hK1 K1; simp only [GA, ↓GB, List.filterMap_cons, eq_self, BEq.rfl, simprocAttr, finP_s, hnt, hT, hnt1, hT1, hU1P, he])
      | ((first | refine hK _ _ (FinI.ret3 ?_) | refine hK _ _ (FinI.nrm3 ?_)); simp only [GA, ↓GB, List.filterMap_cons, eq_self, BEq.rfl, simprocAttr, finP_s, hnt, hT, hnt1, hT1, hU1P, he]; refine Done.out ?_)
      | (clear hN N; first | (refine hN _ ?_; clear hN N) | (clear hN N; first | (refine hN _ ?_; clear hN N) | (clear hN N; first | (refine hN _ ?_; clear hN N) | (clear hN N; first | (refine hN _ ?_; clear hN N) | (clear hN N; first | (refine hN _ ?_; clear hN N) | (refine hN _ ?_; clear hN N))))))
      | (refine bif2.mk (fun hb => ?_) (fun hb => ?_) <;> (try simp only [hb, GA, ↓GB, List.filterMap_cons, eq_self, BEq.rfl, simprocAttr, hnt, hT, hnt1, hT1, hU1P, he]) <;> ((first | cases hb | (simp only [decide_eq_true_eq, decide_eq_false_iff_not, beq_iff_eq, beq_eq_false_iff_ne, bne_iff_ne, Bool.and_eq_true, Bool.or_eq_true, Bool.not_eq_true', Bool.not_eq_false', Bool.and_eq_false_iff, Bool.or_eq_false_iff, Int.not_lt, Int.not_le] at hb) | skip) <;> (first | (exfalso; omega) | skip)))
      | ((first | (refine Ctr.use (indexFuncK ms hms b t) hP ?_ [0,3] ?_ rfl rfl ?_; (focus (intro p hp; cases hp)); (focus (refine LeR.of rfl trivial ?_ ?_ ?_ ?_ ?_ <;> first | decide | (simp only [GA, ↓GB, List.filterMap_cons, eq_self, BEq.rfl, simprocAttr, List.getD_cons_zero, List.getD_cons_succ, or_false, false_or, or_self, or_true, true_or, decide_true]; done))); intro os' s hR; obtain ⟨rfl, rfl⟩ := hR)); simp only [GA, ↓GB, List.filterMap_cons, eq_self, BEq.rfl, simprocAttr, hnt, hT, hnt1, hT1, hU1P, he])
      | (refine CallVC.inline (f := 115) ?_ rfl Tryd.ntmps115 rfl ?_ ?_; (focus rw [hP]; exact Tryd.func115); (focus simp); have hT1 : calleeOk X.P 147 = true := (by rw [hP]; exact Ty.co147); intro X1 K1 hU1 hnt1 hbl1 hK1; have hU1P := hU1.P; simp only [GA, ↓GB, List.filterMap_cons, eq_self, BEq.rfl, simprocAttr] at hbl1 ⊢)
      | (refine ⟨(ms.getD k default).cells, rfl, mks_at _ _ (by omega), ?_⟩ <;> simp only [Rs.cells, GA, ↓GB, List.filterMap_cons, eq_self, BEq.rfl, simprocAttr, hnt, hT])
      | ((first | (refine Ctr.use (indexFuncK ms hms b t) (hU1P.trans hP) ?_ [0,3] ?_ rfl rfl ?_; (focus (intro p hp; cases hp)); (focus (refine LeR.of rfl trivial ?_ ?_ ?_ ?_ ?_ <;> first | decide | (simp only [GA, ↓GB, List.filterMap_cons, eq_self, BEq.rfl, simprocAttr, List.getD_cons_zero, List.getD_cons_succ, or_false, false_or, or_self, or_true, true_or, decide_true]; done))); intro os' s hR; obtain ⟨rfl, rfl⟩ := hR)); simp only [GA, ↓GB, List.filterMap_cons, eq_self, BEq.rfl, simprocAttr, hnt, hT, hnt1, hT1, hU1P, he])
      | (refine SX.block ?_)
      | (refine and_mk ?_ ?_; (focus first | decide | omega | rfl | assumption | (simp only [List.length_append, List.length_cons, List.length_nil, B_size]; omega) | (simp; done)))
      | (refine And.intro ?_ ?_))
    all_goals (try refine Done.mk ?_)
    all_goals ((refine hN0 _ _ ⟨[0], _, _, ?_, ?_, ?_, ⟨rfl, rfl⟩⟩; (focus exact LeR.of rfl trivial (by simp only [GA, ↓GB, List.filterMap_cons, eq_self, BEq.rfl, simprocAttr, List.getD_cons_zero, List.getD_cons_succ, or_false, false_or, or_self, or_true, true_or, decide_true]) (by decide) rfl rfl rfl); rotate_left; (focus rfl)); rfl)
theorem cut_ctr (ms : List Rs) (hms : ms.length ≤ 1000000) (b : Int) (t : List UInt8) : Ctr Tryd.prog [] 55 [mrow ms] [.one (.c (.row 0)), .one (.agg [.v (.int .i64 b), .v (.string (B t))])] (fun os v => os = [mrow ms, mrow (ms.filter fun m => !isK b t m)] ∧ v = .one (.c (.row 1))) := by
  refine Ctr.less ?_
  intro X0 hP0 hG0 N0 hN0
  refine CallVC.inline (f := 55) (by rw [hP0]; exact Tryd.func55) rfl Tryd.ntmps55 rfl (by simp) ?_
  intro X K hU hnt hbl hK
  have hP : X.P = Tryd.prog := by rw [hU.P, hP0]
  have hG := hG0.under hU
  have hT : calleeOk X.P 117 = true ∧ aggOf X.P 26 = some true ∧ szOf X.P 26 = some 2 ∧ calleeOk X.P 115 = true ∧ calleeOk X.P 116 = true := by rw [hP]; exact ⟨Ty.co117, Ty.ag26, Ty.sz26, Ty.co115, Ty.co116⟩
  simp only [GA, ↓GB, List.filterMap_cons, eq_self, BEq.rfl, simprocAttr] at hbl ⊢
  have hnt1 := True.intro; have hT1 := True.intro; have hU1P := True.intro
  repeat' (first
    | (refine SX.seqK ?_; intro N hN)
    | ((first | (refine SX.ops ?_) | (refine SX.planT (id := 1) [.f 0, .b 1 2, .s 3, .s 4, .s 5] ?_ ?_ ?_; (focus first | (rw [hP]; kernel_rfl) | (rw [hU1P, hP]; kernel_rfl)); (focus kernel_rfl))); simp only [GA, ↓GB, List.filterMap_cons, eq_self, BEq.rfl, simprocAttr, hnt, hT, hnt1, hT1, hU1P])
    | ((first | refine SX.skip ?_ | refine SX.exit ?_ | refine SX.label ?_); try simp only [GA, ↓GB, List.filterMap_cons, eq_self, BEq.rfl, simprocAttr])
    | (refine SX.cond rfl (fun hb => ?_) (fun hb => ?_) <;> ((first | cases hb | (simp only [decide_eq_true_eq, decide_eq_false_iff_not, beq_iff_eq, beq_eq_false_iff_ne, bne_iff_ne, Bool.and_eq_true, Bool.or_eq_true, Bool.not_eq_true', Bool.not_eq_false', Bool.and_eq_false_iff, Bool.or_eq_false_iff, Int.not_lt, Int.not_le] at hb) | skip) <;> (first | (exfalso; omega) | skip)))
    | (refine SX.ret ?_; try simp only [GA, ↓GB, List.filterMap_cons, eq_self, BEq.rfl, simprocAttr])
    | (refine hN _ ?_; clear hN N)
    | ((first | refine hK1 _ _ (FinI.ret3 ?_) | refine hK1 _ _ (FinI.nrm3 ?_)); (repeat (clear hN N)); clear hK1 K1; simp only [GA, ↓GB, List.filterMap_cons, eq_self, BEq.rfl, simprocAttr, finP_s, hnt, hT, hnt1, hT1, hU1P])
    | ((first | refine hK _ _ (FinI.ret3 ?_) | refine hK _ _ (FinI.nrm3 ?_)); simp only [GA, ↓GB, List.filterMap_cons, eq_self, BEq.rfl, simprocAttr, finP_s, hnt, hT, hnt1, hT1, hU1P]; refine Done.out ?_)
    | (clear hN N; first | (refine hN _ ?_; clear hN N) | (clear hN N; first | (refine hN _ ?_; clear hN N) | (clear hN N; first | (refine hN _ ?_; clear hN N) | (clear hN N; first | (refine hN _ ?_; clear hN N) | (clear hN N; first | (refine hN _ ?_; clear hN N) | (refine hN _ ?_; clear hN N))))))
    | (refine bif2.mk (fun hb => ?_) (fun hb => ?_) <;> (try simp only [hb, GA, ↓GB, List.filterMap_cons, eq_self, BEq.rfl, simprocAttr, hnt, hT, hnt1, hT1, hU1P]) <;> ((first | cases hb | (simp only [decide_eq_true_eq, decide_eq_false_iff_not, beq_iff_eq, beq_eq_false_iff_ne, bne_iff_ne, Bool.and_eq_true, Bool.or_eq_true, Bool.not_eq_true', Bool.not_eq_false', Bool.and_eq_false_iff, Bool.or_eq_false_iff, Int.not_lt, Int.not_le] at hb) | skip) <;> (first | (exfalso; omega) | skip)))
    | ((first | (refine Ctr.use (clone_ctr ms hms) hP ?_ [0] ?_ rfl rfl ?_; (focus (intro p hp; cases hp)); (focus (refine LeR.of rfl trivial ?_ ?_ ?_ ?_ ?_ <;> first | decide | (simp only [GA, ↓GB, List.filterMap_cons, eq_self, BEq.rfl, simprocAttr, List.getD_cons_zero, List.getD_cons_succ, or_false, false_or, or_self, or_true, true_or, decide_true]; done))); intro os' s hR; obtain ⟨rfl, rfl⟩ := hR) | (refine Ctr.use (deleteFuncK ms hms b t) hP ?_ [2,3] ?_ rfl rfl ?_; (focus (intro p hp; cases hp)); (focus (refine LeR.of rfl trivial ?_ ?_ ?_ ?_ ?_ <;> first | decide | (simp only [GA, ↓GB, List.filterMap_cons, eq_self, BEq.rfl, simprocAttr, List.getD_cons_zero, List.getD_cons_succ, or_false, false_or, or_self, or_true, true_or, decide_true]; done))); intro os' s hR; obtain ⟨rfl, rfl⟩ := hR)); simp only [GA, ↓GB, List.filterMap_cons, eq_self, BEq.rfl, simprocAttr, hnt, hT, hnt1, hT1, hU1P])
    | (refine CallVC.inline (f := 115) ?_ rfl Tryd.ntmps115 rfl ?_ ?_; (focus rw [hP]; exact Tryd.func115); (focus simp); have hT1 : calleeOk X.P 147 = true := (by rw [hP]; exact Ty.co147); intro X1 K1 hU1 hnt1 hbl1 hK1; have hU1P := hU1.P; simp only [GA, ↓GB, List.filterMap_cons, eq_self, BEq.rfl, simprocAttr] at hbl1 ⊢)
    | ((first | (refine Ctr.use (clone_ctr ms hms) (hU1P.trans hP) ?_ [0] ?_ rfl rfl ?_; (focus (intro p hp; cases hp)); (focus (refine LeR.of rfl trivial ?_ ?_ ?_ ?_ ?_ <;> first | decide | (simp only [GA, ↓GB, List.filterMap_cons, eq_self, BEq.rfl, simprocAttr, List.getD_cons_zero, List.getD_cons_succ, or_false, false_or, or_self, or_true, true_or, decide_true]; done))); intro os' s hR; obtain ⟨rfl, rfl⟩ := hR) | (refine Ctr.use (deleteFuncK ms hms b t) (hU1P.trans hP) ?_ [2,3] ?_ rfl rfl ?_; (focus (intro p hp; cases hp)); (focus (refine LeR.of rfl trivial ?_ ?_ ?_ ?_ ?_ <;> first | decide | (simp only [GA, ↓GB, List.filterMap_cons, eq_self, BEq.rfl, simprocAttr, List.getD_cons_zero, List.getD_cons_succ, or_false, false_or, or_self, or_true, true_or, decide_true]; done))); intro os' s hR; obtain ⟨rfl, rfl⟩ := hR)); simp only [GA, ↓GB, List.filterMap_cons, eq_self, BEq.rfl, simprocAttr, hnt, hT, hnt1, hT1, hU1P])
    | (refine SX.block ?_)
    | (refine and_mk ?_ ?_; (focus first | decide | omega | rfl | assumption | (simp only [List.length_append, List.length_cons, List.length_nil, B_size]; omega) | (simp; done)))
    | (refine And.intro ?_ ?_))
  all_goals (try refine Done.mk ?_)
  all_goals ((refine hN0 _ _ ⟨[0, 4], _, _, ?_, ?_, ?_, ⟨rfl, rfl⟩⟩; (focus exact LeR.of rfl trivial (by simp only [GA, ↓GB, List.filterMap_cons, eq_self, BEq.rfl, simprocAttr, List.getD_cons_zero, List.getD_cons_succ, or_false, false_or, or_self, or_true, true_or, decide_true]) (by decide) rfl rfl rfl); rotate_left; (focus rfl)); rfl)
end Go.Proofs.YtbdacbcpniegiaaDoor.Q
namespace Go.Proofs.YtbdacbcpniegiaaDoor.Q
open Go Go.RowKit Go.Proofs Go.Sx
set_option maxHeartbeats 4000000
set_option maxRecDepth 100000
set_option linter.unusedSimpArgs false
set_option linter.unusedVariables false
def cutL (x : Rs) (ms : List Rs) : List Rs := ms.filter fun m => !isK x.t x.s m
def setL (ms : List Rs) (x : Rs) : List Rs := match (cutL x ms).findIdx? (isO x) with
  | some k => (cutL x ms).take k ++ x :: (cutL x ms).drop k
  | none => cutL x ms ++ [x]
theorem set_ctr (ms : List Rs) (hms : ms.length ≤ 1000000) (x : Rs) : Ctr Tryd.prog [] 53 [mrow ms] [.one (.c (.row 0)), .one (.agg [.v (.int .i64 x.t), .v (.string (B x.s)), .v (.int .u64 x.q), .v (.bool x.g), .v (.string (B x.b))])] (fun os v => os = [mrow ms, mrow (setL ms x)] ∧ v = .one (.c (.row 1))) := by
  have hcl : (cutL x ms).length ≤ 1000000 := Nat.le_trans (List.length_filter_le _ _) hms
  have hc := cut_ctr ms hms x.t x.s
  rw [show (ms.filter fun m => !isK x.t x.s m) = cutL x ms from rfl] at hc
  refine Ctr.less ?_
  rcases idxI_spec (isO x) (cutL x ms) with ⟨he, hall⟩ | ⟨k, hk, he, hp, hn⟩
  · have hs : setL ms x = cutL x ms ++ [x] := by
      have : (cutL x ms).findIdx? (isO x) = none := by
        cases h : (cutL x ms).findIdx? (isO x) with
        | none => rfl
        | some k => exfalso; simp only [idxI, h] at he; omega
      rw [setL, this]
    rw [hs]
    intro X0 hP0 hG0 N0 hN0
    refine CallVC.inline (f := 53) (by rw [hP0]; exact Tryd.func53) rfl Tryd.ntmps53 rfl (by simp) ?_
    intro X K hU hnt hbl hK
    have hP : X.P = Tryd.prog := by rw [hU.P, hP0]
    have hG := hG0.under hU
    have hT : fieldOff X.P 89 0 = some 0 ∧ aggOf X.P 26 = some true ∧ szOf X.P 26 = some 2 ∧ calleeOk X.P 55 = true ∧ calleeOk X.P 113 = true ∧ calleeOk X.P 112 = true ∧ X.P.underlying 79 = some (TypeDesc.slice 89) ∧ aggOf X.P 89 = some true ∧ szOf X.P 89 = some 5 ∧ elemSz X.P 79 = some (89, 5) ∧ zeroCells X.P 89 = some [(Value.int IntKind.i64 0), (Value.string { data := #[] }), (Value.int IntKind.u64 0), (Value.bool false), (Value.string { data := #[] })] ∧ calleeOk X.P 114 = true := by rw [hP]; exact ⟨Ty.fo89_0, Ty.ag26, Ty.sz26, Ty.co55, Ty.co113, Ty.co112, Tryd.underlying79, Ty.ag89, Ty.sz89, Ty.el79, Ty.ze89, Ty.co114⟩
    simp only [GA, ↓GB, List.filterMap_cons, eq_self, BEq.rfl, simprocAttr] at hbl ⊢
    repeat' (first
      | (refine SX.seqK ?_; intro N hN)
      | ((first | (refine SX.ops ?_)); simp only [GA, ↓GB, List.filterMap_cons, eq_self, BEq.rfl, simprocAttr, hnt, hT, he])
      | ((first | refine SX.skip ?_ | refine SX.exit ?_ | refine SX.label ?_); try simp only [GA, ↓GB, List.filterMap_cons, eq_self, BEq.rfl, simprocAttr])
      | (refine SX.cond rfl (fun hb => ?_) (fun hb => ?_) <;> ((first | cases hb | (simp only [decide_eq_true_eq, decide_eq_false_iff_not, beq_iff_eq, beq_eq_false_iff_ne, bne_iff_ne, Bool.and_eq_true, Bool.or_eq_true, Bool.not_eq_true', Bool.not_eq_false', Bool.and_eq_false_iff, Bool.or_eq_false_iff, Int.not_lt, Int.not_le] at hb) | skip) <;> (first | (exfalso; omega) | skip)))
      | (refine SX.ret ?_; try simp only [GA, ↓GB, List.filterMap_cons, eq_self, BEq.rfl, simprocAttr])
      | (refine hN _ ?_; clear hN N)
      | ((first | refine hK _ _ (FinI.ret3 ?_) | refine hK _ _ (FinI.nrm3 ?_)); simp only [GA, ↓GB, List.filterMap_cons, eq_self, BEq.rfl, simprocAttr, finP_s, hnt, hT, he]; refine Done.out ?_)
      | (clear hN N; first | (refine hN _ ?_; clear hN N) | (clear hN N; first | (refine hN _ ?_; clear hN N) | (clear hN N; first | (refine hN _ ?_; clear hN N) | (clear hN N; first | (refine hN _ ?_; clear hN N) | (clear hN N; first | (refine hN _ ?_; clear hN N) | (refine hN _ ?_; clear hN N))))))
      | (refine bif2.mk (fun hb => ?_) (fun hb => ?_) <;> (try simp only [hb, GA, ↓GB, List.filterMap_cons, eq_self, BEq.rfl, simprocAttr, hnt, hT, he]) <;> ((first | cases hb | (simp only [decide_eq_true_eq, decide_eq_false_iff_not, beq_iff_eq, beq_eq_false_iff_ne, bne_iff_ne, Bool.and_eq_true, Bool.or_eq_true, Bool.not_eq_true', Bool.not_eq_false', Bool.and_eq_false_iff, Bool.or_eq_false_iff, Int.not_lt, Int.not_le] at hb) | skip) <;> (first | (exfalso; omega) | skip)))
      | ((first | (refine Ctr.use (hc) hP ?_ [0] ?_ rfl rfl ?_; (focus (intro p hp; cases hp)); (focus (refine LeR.of rfl trivial ?_ ?_ ?_ ?_ ?_ <;> first | decide | (simp only [GA, ↓GB, List.filterMap_cons, eq_self, BEq.rfl, simprocAttr, List.getD_cons_zero, List.getD_cons_succ, or_false, false_or, or_self, or_true, true_or, decide_true]; done))); intro os' s hR; obtain ⟨rfl, rfl⟩ := hR) | (refine Ctr.use (indexFuncO (cutL x ms) hcl x) hP ?_ [2,1] ?_ rfl rfl ?_; (focus (intro p hp; cases hp)); (focus (refine LeR.of rfl trivial ?_ ?_ ?_ ?_ ?_ <;> first | decide | (simp only [GA, ↓GB, List.filterMap_cons, eq_self, BEq.rfl, simprocAttr, List.getD_cons_zero, List.getD_cons_succ, or_false, false_or, or_self, or_true, true_or, decide_true]; done))); intro os' s hR; obtain ⟨rfl, rfl⟩ := hR) | (refine Ctr.use (insert_end (cutL x ms) hcl x) hP ?_ [2,3] ?_ rfl rfl ?_; (focus (intro p hp; cases hp)); (focus (refine LeR.of rfl trivial ?_ ?_ ?_ ?_ ?_ <;> first | decide | (simp only [GA, ↓GB, List.filterMap_cons, eq_self, BEq.rfl, simprocAttr, List.getD_cons_zero, List.getD_cons_succ, or_false, false_or, or_self, or_true, true_or, decide_true]; done))); intro os' s hR; obtain ⟨rfl, rfl⟩ := hR)); simp only [GA, ↓GB, List.filterMap_cons, eq_self, BEq.rfl, simprocAttr, hnt, hT, he])
      | (refine SX.block ?_)
      | (refine and_mk ?_ ?_; (focus first | decide | omega | rfl | assumption | (simp only [List.length_append, List.length_cons, List.length_nil, B_size]; omega) | (simp; done)))
      | (refine And.intro ?_ ?_))
    all_goals (try refine Done.mk ?_)
    all_goals ((refine hN0 _ _ ⟨[0, 4], _, _, ?_, ?_, ?_, ⟨rfl, rfl⟩⟩; (focus exact LeR.of rfl trivial (by simp only [GA, ↓GB, List.filterMap_cons, eq_self, BEq.rfl, simprocAttr, List.getD_cons_zero, List.getD_cons_succ, or_false, false_or, or_self, or_true, true_or, decide_true]) (by decide) rfl rfl rfl); rotate_left; (focus rfl)); rfl)
  · have hs : setL ms x = (cutL x ms).take k ++ x :: (cutL x ms).drop k := by
      have : (cutL x ms).findIdx? (isO x) = some k := by
        cases h : (cutL x ms).findIdx? (isO x) with
        | none => exfalso; simp only [idxI, h] at he; omega
        | some j => exact congrArg some (by simp only [idxI, h] at he; omega)
      rw [setL, this]
    rw [hs]
    intro X0 hP0 hG0 N0 hN0
    refine CallVC.inline (f := 53) (by rw [hP0]; exact Tryd.func53) rfl Tryd.ntmps53 rfl (by simp) ?_
    intro X K hU hnt hbl hK
    have hP : X.P = Tryd.prog := by rw [hU.P, hP0]
    have hG := hG0.under hU
    have hT : fieldOff X.P 89 0 = some 0 ∧ aggOf X.P 26 = some true ∧ szOf X.P 26 = some 2 ∧ calleeOk X.P 55 = true ∧ calleeOk X.P 113 = true ∧ calleeOk X.P 112 = true ∧ X.P.underlying 79 = some (TypeDesc.slice 89) ∧ aggOf X.P 89 = some true ∧ szOf X.P 89 = some 5 ∧ elemSz X.P 79 = some (89, 5) ∧ zeroCells X.P 89 = some [(Value.int IntKind.i64 0), (Value.string { data := #[] }), (Value.int IntKind.u64 0), (Value.bool false), (Value.string { data := #[] })] ∧ calleeOk X.P 114 = true := by rw [hP]; exact ⟨Ty.fo89_0, Ty.ag26, Ty.sz26, Ty.co55, Ty.co113, Ty.co112, Tryd.underlying79, Ty.ag89, Ty.sz89, Ty.el79, Ty.ze89, Ty.co114⟩
    simp only [GA, ↓GB, List.filterMap_cons, eq_self, BEq.rfl, simprocAttr] at hbl ⊢
    repeat' (first
      | (refine SX.seqK ?_; intro N hN)
      | ((first | (refine SX.ops ?_)); simp only [GA, ↓GB, List.filterMap_cons, eq_self, BEq.rfl, simprocAttr, hnt, hT, he])
      | ((first | refine SX.skip ?_ | refine SX.exit ?_ | refine SX.label ?_); try simp only [GA, ↓GB, List.filterMap_cons, eq_self, BEq.rfl, simprocAttr])
      | (refine SX.cond rfl (fun hb => ?_) (fun hb => ?_) <;> ((first | cases hb | (simp only [decide_eq_true_eq, decide_eq_false_iff_not, beq_iff_eq, beq_eq_false_iff_ne, bne_iff_ne, Bool.and_eq_true, Bool.or_eq_true, Bool.not_eq_true', Bool.not_eq_false', Bool.and_eq_false_iff, Bool.or_eq_false_iff, Int.not_lt, Int.not_le] at hb) | skip) <;> (first | (exfalso; omega) | skip)))
      | (refine SX.ret ?_; try simp only [GA, ↓GB, List.filterMap_cons, eq_self, BEq.rfl, simprocAttr])
      | (refine hN _ ?_; clear hN N)
      | ((first | refine hK _ _ (FinI.ret3 ?_) | refine hK _ _ (FinI.nrm3 ?_)); simp only [GA, ↓GB, List.filterMap_cons, eq_self, BEq.rfl, simprocAttr, finP_s, hnt, hT, he]; refine Done.out ?_)
      | (clear hN N; first | (refine hN _ ?_; clear hN N) | (clear hN N; first | (refine hN _ ?_; clear hN N) | (clear hN N; first | (refine hN _ ?_; clear hN N) | (clear hN N; first | (refine hN _ ?_; clear hN N) | (clear hN N; first | (refine hN _ ?_; clear hN N) | (refine hN _ ?_; clear hN N))))))
      | (refine bif2.mk (fun hb => ?_) (fun hb => ?_) <;> (try simp only [hb, GA, ↓GB, List.filterMap_cons, eq_self, BEq.rfl, simprocAttr, hnt, hT, he]) <;> ((first | cases hb | (simp only [decide_eq_true_eq, decide_eq_false_iff_not, beq_iff_eq, beq_eq_false_iff_ne, bne_iff_ne, Bool.and_eq_true, Bool.or_eq_true, Bool.not_eq_true', Bool.not_eq_false', Bool.and_eq_false_iff, Bool.or_eq_false_iff, Int.not_lt, Int.not_le] at hb) | skip) <;> (first | (exfalso; omega) | skip)))
      | ((first | (refine Ctr.use (hc) hP ?_ [0] ?_ rfl rfl ?_; (focus (intro p hp; cases hp)); (focus (refine LeR.of rfl trivial ?_ ?_ ?_ ?_ ?_ <;> first | decide | (simp only [GA, ↓GB, List.filterMap_cons, eq_self, BEq.rfl, simprocAttr, List.getD_cons_zero, List.getD_cons_succ, or_false, false_or, or_self, or_true, true_or, decide_true]; done))); intro os' s hR; obtain ⟨rfl, rfl⟩ := hR) | (refine Ctr.use (indexFuncO (cutL x ms) hcl x) hP ?_ [2,1] ?_ rfl rfl ?_; (focus (intro p hp; cases hp)); (focus (refine LeR.of rfl trivial ?_ ?_ ?_ ?_ ?_ <;> first | decide | (simp only [GA, ↓GB, List.filterMap_cons, eq_self, BEq.rfl, simprocAttr, List.getD_cons_zero, List.getD_cons_succ, or_false, false_or, or_self, or_true, true_or, decide_true]; done))); intro os' s hR; obtain ⟨rfl, rfl⟩ := hR) | (refine Ctr.use (insert_mid (cutL x ms) hcl x k hk) hP ?_ [2,3] ?_ rfl rfl ?_; (focus (intro p hp; cases hp)); (focus (refine LeR.of rfl trivial ?_ ?_ ?_ ?_ ?_ <;> first | decide | (simp only [GA, ↓GB, List.filterMap_cons, eq_self, BEq.rfl, simprocAttr, List.getD_cons_zero, List.getD_cons_succ, or_false, false_or, or_self, or_true, true_or, decide_true]; done))); intro os' s hR; obtain ⟨rfl, rfl⟩ := hR)); simp only [GA, ↓GB, List.filterMap_cons, eq_self, BEq.rfl, simprocAttr, hnt, hT, he])
      | (refine SX.block ?_)
      | (refine and_mk ?_ ?_; (focus first | decide | omega | rfl | assumption | (simp only [List.length_append, List.length_cons, List.length_nil, B_size]; omega) | (simp; done)))
      | (refine And.intro ?_ ?_))
    all_goals (try refine Done.mk ?_)
    all_goals ((refine hN0 _ _ ⟨[0, 4], _, _, ?_, ?_, ?_, ⟨rfl, rfl⟩⟩; (focus exact LeR.of rfl trivial (by simp only [GA, ↓GB, List.filterMap_cons, eq_self, BEq.rfl, simprocAttr, List.getD_cons_zero, List.getD_cons_succ, or_false, false_or, or_self, or_true, true_or, decide_true]) (by decide) rfl rfl rfl); rotate_left; (focus rfl)); rfl)
end Go.Proofs.YtbdacbcpniegiaaDoor.Q
namespace Go.Sx
open Go Go.RowKit
set_option linter.unusedVariables false
set_option linter.unusedSimpArgs false
def PA (X : Ctx) (o1 o2 : Oper) (c : Cfg) (N : Cfg → Prop) : Prop :=
  ∀ (ops : Array Oper) (rest : List Oper) (M : Cfg → Prop), (∀ c', N c' → OX X ops rest c' M) → OX X ops (o1 :: o2 :: rest) c M
def vcPre (X : Ctx) : List Oper → Cfg → (Cfg → Prop) → Prop
  | [], c, N => N c
  | o :: rest, c, N => o.guard = none ∧ vcOp X o c (fun c' => vcPre X rest c' N)
theorem vcPre_n {X : Ctx} {c : Cfg} {N : Cfg → Prop} : vcPre X [] c N = N c := rfl
theorem vcPre_s {X : Ctx} {d : Option Tmp} {op : Op} {ty : TypeId} {pos : String} {af : Array Edge} {rest : List Oper} {c : Cfg} {N : Cfg → Prop} :
    vcPre X (⟨d, op, ty, pos, af, none⟩ :: rest) c N = vcOp X ⟨d, op, ty, pos, af, none⟩ c (fun c' => vcPre X rest c' N) := propext ⟨fun h => h.2, fun h => ⟨rfl, h⟩⟩
theorem vcPre_sound {X : Ctx} : ∀ {pre : List Oper} {c : Cfg} {N : Cfg → Prop}, vcPre X pre c N → ∀ (ops : Array Oper) (rest : List Oper) (M : Cfg → Prop), (∀ c', N c' → OX X ops rest c' M) → OX X ops (pre ++ rest) c M
  | [], c, N, h, ops, rest, M, hM => hM c h
  | o :: pre, c, N, h, ops, rest, M, hM => .cons h.1 (vcOp_sound h.2) (fun c' hc => vcPre_sound hc ops rest M hM)
theorem SX.partApp {X : Ctx} {c : Cfg} {K : Exit → Cfg → Prop} {id : Nat} {l pre post : List Oper} {o1 o2 : Oper} (hl : l = pre ++ o1 :: o2 :: post)
    (h : vcPre X pre c (fun c1 => PA X o1 o2 c1 (fun c2 => vc X l.toArray post c2 (K .normal)))) : SX X (.region id l.toArray false) c K := by
  have h1 : OX X l.toArray (pre ++ o1 :: o2 :: post) c (K .normal) := vcPre_sound h l.toArray (o1 :: o2 :: post) (K .normal) (fun c1 h1 => h1 _ _ _ (fun c2 h2 => vc_sound h2))
  rw [← hl] at h1
  exact .region (by simpa using h1)
section
variable {X : Ctx} {c : Cfg} {N : Cfg → Prop} {d : Option Tmp} {ty ty1 : TypeId} {pos pos1 : String} {af af1 : Array Edge} {g : Option (Nat × Bool)}
theorem PA.nil {o1 o2 : Oper} {t : Tmp} (e sz : Nat) (hx : c.ev (.tmp t) = vv (.slice none 0 0)) (hl : ∃ s, c.env.lookup t = some s)
    (h : PA X o1 o2 { env := (t, .one (.c (.row c.loc.length))) :: c.env, loc := c.loc ++ [.row e sz 0 []] } N) : PA X o1 o2 c N := fun ops rest M hM Q hQ ρ σ a w hr => by
  refine h ops rest M hM Q hQ (ρ ++ [[]]) (σ ++ [Value.slice none 0 0]) a w ?_
  have h1 := hr.nilRow e sz
  refine ⟨fun t' s' he => ?_, h1.len, h1.lenS, h1.loc, h1.inj, h1.lt, h1.fresh, h1.low, h1.defers, h1.size, h1.one, h1.pin⟩
  simp only [List.lookup_cons] at he
  by_cases e : t' = t
  · subst e
    simp at he; subst he
    obtain ⟨s, hs⟩ := hl
    obtain ⟨v, hv, hd⟩ := hr.env t' s hs
    simp only [Cfg.ev, Cfg.get, hs, Option.getD_some] at hx
    subst hx
    obtain rfl : v = .slice none 0 0 := hd
    refine ⟨_, hv, ?_⟩
    show (σ ++ [_])[c.loc.length]? = _
    rw [← hr.lenS]; simp
  · have hb : (t' == t) = false := by simpa using e
    rw [hb] at he
    exact h1.env t' s' he
theorem SX.asRow {code : Code} {K : Exit → Cfg → Prop} {t : Tmp} (e sz : Nat) (hx : c.ev (.tmp t) = vv (.slice none 0 0)) (hl : ∃ s, c.env.lookup t = some s)
    (h : SX X code { env := (t, .one (.c (.row c.loc.length))) :: c.env, loc := c.loc ++ [.row e sz 0 []] } K) : SX X code c K := fun ρ σ a w hr => by
  refine h (ρ ++ [[]]) (σ ++ [Value.slice none 0 0]) a w ?_
  have h1 := hr.nilRow e sz
  refine ⟨fun t' s' he => ?_, h1.len, h1.lenS, h1.loc, h1.inj, h1.lt, h1.fresh, h1.low, h1.defers, h1.size, h1.one, h1.pin⟩
  simp only [List.lookup_cons] at he
  by_cases e : t' = t
  · subst e
    simp at he; subst he
    obtain ⟨s, hs⟩ := hl
    obtain ⟨v, hv, hd⟩ := hr.env t' s hs
    simp only [Cfg.ev, Cfg.get, hs, Option.getD_some] at hx
    subst hx
    obtain rfl : v = .slice none 0 0 := hd
    refine ⟨_, hv, ?_⟩
    show (σ ++ [_])[c.loc.length]? = _
    rw [← hr.lenS]; simp
  · have hb : (t' == t) = false := by simpa using e
    rw [hb] at he
    exact h1.env t' s' he
theorem PA.part {x0 x : Operand} {lo hi : Option Operand} {t e e' i j m sz n k by_ : Nat} {t1 : Tmp} {xs ys : List Value} {z : Value} {l h : Option Int} (news : List Value)
    (hx : c.ev x = .one (.c (.row j))) (hlo : optI c lo = some l) (hhi : optI c hi = some h) (hx0 : (c.put (some t1) (.one (.c .dead))).ev x0 = .one (.c (.row i)))
    (hi0 : c.loc[i]? = some (.row e sz n xs)) (hj0 : c.loc[j]? = some (.row e' sz m ys)) (ht : elemInf X.P t = some (e, sz, by_, z)) (hes : elemSz X.P t = some (e, sz))
    (h0 : 0 ≤ l.getD 0) (h1 : l.getD 0 ≤ h.getD m) (h2 : h.getD m ≤ m) (hk : k = (h.getD m).toNat - (l.getD 0).toNat) (hnw : news = (ys.drop ((l.getD 0).toNat * sz)).take (k * sz))
    (hone : ∀ u ∈ news, u.oneCell' = true) (h63 : n + k ≤ maxLen) (hby : (n + k) * by_ ≤ 140737488355328) (hd1 : dOk (some t1) X.nt = true)
    (hN : nxt X d N { (c.put (some t1) (.one (.c .dead))) with loc := c.loc.set i .gone ++ [.row e sz (n + k) (xs ++ news)] } (.one (.c (.row c.loc.length)))) :
    PA X ⟨some t1, .slice t x lo hi none, ty1, pos1, af1, none⟩ ⟨d, .call { callee := .builtin .append, args := #[x0, .tmp t1], argTypes := #[t, t] }, ty, pos, af, none⟩ c N := fun ops rest M hM Q hQ ρ σ a w hr => by
  have e1 := hr.ev x
  rw [hx] at e1
  have e1 : σ[j]? = some (a.eval x) := e1
  obtain ⟨hu, ti, hti, hz, hsz, hby', hzs, hs0⟩ := elemInf_spec ht
  obtain ⟨fq, hfq⟩ := hr.locAt hj0
  have hdj := hr.loc j _ fq _ hj0 hfq e1
  have hlb : BoundIs (lo.map a.eval) 0 (l.getD 0).toNat := optI_bound (n := 0) hr hlo (by simpa using h0)
  have hhb := optI_bound (n := m) hr hhi (by omega)
  have hsz' : ∀ w, (Go.sizeOf e).run X.P w = .ok sz w := by
    unfold elemSz at hes
    rw [hu] at hes
    cases hz2 : szOf X.P e with
    | none => simp [hz2] at hes
    | some r => simp [hz2] at hes; subst hes; exact sizeOf_run hz2
  have hyl : ys.length = m * sz := hdj.1.1
  obtain ⟨L, hL⟩ : ∃ L, L = (l.getD 0).toNat := ⟨_, rfl⟩
  obtain ⟨H, hH⟩ : ∃ H, H = (h.getD m).toNat := ⟨_, rfl⟩
  rw [← hL] at hlb hk hnw
  rw [← hH] at hhb hk
  have hLH : L ≤ H := by omega
  have hHm : H ≤ m := by omega
  have hnl : news.length = k * sz := by
    rw [hnw, List.length_take, List.length_drop, hyl, ← Nat.sub_mul]
    exact Nat.min_eq_left (Nat.mul_le_mul_right _ (by omega))
  have hget : ∀ q u, news[q]? = some u → ys[L * sz + q]? = some u := by
    intro q u hq
    rw [hnw, List.getElem?_take] at hq
    split at hq
    · rwa [List.getElem?_drop] at hq
    · cases hq
  obtain ⟨v1, hrun1, hv1⟩ : ∃ v1, (execOp a.eval ⟨some t1, .slice t x lo hi none, ty1, pos1, af1, none⟩).run X.P w = .ok (.value v1) w ∧
      ((v1 = .slice none 0 0 ∧ k = 0) ∨ ∃ ad cap, v1 = .slice (some ad) k cap ∧ ∀ q u, news[q]? = some u → w.cell? (ad.add q) = some u) := by
    rcases hdj.1.2 with ⟨e3, hm0⟩ | ⟨gg, cap, cur, e3, _, _, hnc, _⟩
    · subst hm0
      obtain rfl : L = 0 := by omega
      obtain rfl : H = 0 := by omega
      have hrun := run_sliceSl (P := X.P) w hu hsz' none 0 0 _ _ _ _ hlb hhb (Nat.le_refl _) (Nat.le_refl _)
      exact ⟨_, by simp only [execOp, e3, Option.map_none, Sem.run_bind]; rw [hrun]; rfl, .inl ⟨by simp, by omega⟩⟩
    · have hrun := run_sliceSl (P := X.P) w hu hsz' (some ⟨gg, 0, none⟩) m cap _ _ _ _ hlb hhb hLH (by omega)
      refine ⟨_, by simp only [execOp, e3, Option.map_none, Sem.run_bind]; rw [hrun]; rfl, .inr ?_⟩
      by_cases hc : cap = L
      · rw [if_pos hc]
        refine ⟨_, _, by rw [show H - L = k by omega], fun q u hq => ?_⟩
        have : q < news.length := (List.getElem?_eq_some_iff.1 hq).1
        rw [hnl, show k = 0 by omega] at this
        simp at this
      · rw [if_neg hc]
        refine ⟨_, _, by rw [show H - L = k by omega]; rfl, fun q u hq => ?_⟩
        have := hr.rowCell hj0 (by rw [e1, e3]) _ _ (hget q u hq)
        simp only [add_add] at this ⊢
        rw [← this]
        congr 2
        omega
  have hr1 := hr.put (d := some t1) (s := .one (.c .dead)) (v := v1) hd1 trivial
  have hr2 := hr.put (d := some t1) (s := vv v1) (v := v1) hd1 rfl
  have ey : (a.put (some t1) v1).eval (.tmp t1) = v1 := by
    have := hr2.ev (.tmp t1)
    rw [show (c.put (some t1) (vv v1)).ev (.tmp t1) = vv v1 by simp [Cfg.put, Cfg.ev, Cfg.get]] at this
    exact this
  have ex := hr1.ev x0
  rw [hx0] at ex
  have ex : σ[i]? = some ((a.put (some t1) v1).eval x0) := ex
  have hi1 : (c.put (some t1) (.one (.c .dead))).loc[i]? = some (.row e sz n xs) := hi0
  obtain ⟨fp, hfp⟩ := hr1.locAt hi1
  have hd := hr1.loc i _ fp _ hi1 hfp ex
  unfold wpList
  rw [if_pos (by simp [Region.wanted])]
  left
  unfold Oper.wp
  rw [hrun1]
  show wpList X.P ops Q (_ :: rest) (a.put (some t1) v1) w
  generalize a.put (some t1) v1 = a1 at hr1 ey ex hd
  have key : ∃ v' w', (Builtin.append_ #[t, t] ty #[a1.eval x0, v1]).run X.P w = .ok v' w' ∧ w'.ownsRow 0 e sz v' (n + k) (xs ++ news) ∧ w.grownBy w' (a1.eval x0).ownBlock ∧ (∀ k, v'.ownBlock = some k → (a1.eval x0).ownBlock = some k ∨ w.heap.size ≤ k) := by
    rcases hv1 with ⟨rfl, hk0⟩ | ⟨ad, cap, rfl, hc⟩
    · subst hk0
      obtain rfl : news = [] := by simpa using hnl
      have := append_cases (P := X.P) w 0 t ty e ti z sz by_ hu hti hz hsz hby' hzs hs0 (a1.eval x0) n xs hd.1 ⟨0, 0, none⟩ 0 0 [] (by simp) (by simp) (by simp) h63 hby (Nat.zero_le _)
      have hrun : (Builtin.append_ #[t, t] ty #[a1.eval x0, .slice (some ⟨0, 0, none⟩) 0 0]).run X.P w = (Builtin.append_ #[t, t] ty #[a1.eval x0, .slice none 0 0]).run X.P w := by
        have hl : ∀ (ad : Addr), (loadCells ad 0).run X.P w = .ok #[] w := fun ad => by simpa using run_loadCells_list (P := X.P) w ad [] (by simp)
        rcases hd.1.2 with ⟨e4, hn0⟩ | ⟨g4, c4, u4, e4, _, _, hn4, _⟩
        · rw [e4]; simp [Builtin.append_, run_underlying hu, Builtin.lenOf, Builtin.firstCells, sizeOf, typeInfo, hti, hl, storeCells]
        · rw [e4]; simp [Builtin.append_, run_underlying hu, Builtin.lenOf, Builtin.firstCells, sizeOf, typeInfo, hti, hn4, hl, storeCells]
      rw [hrun] at this
      exact this
    · exact append_cases (P := X.P) w 0 t ty e ti z sz by_ hu hti hz hsz hby' hzs hs0 (a1.eval x0) n xs hd.1 ad k cap news hnl hc hone h63 hby (Nat.zero_le _)
  obtain ⟨v', w', hrun, hown, hgr, hkk⟩ := key
  obtain ⟨ρ', hR⟩ := hr1.reRow hi1 ex hgr hown hkk
  unfold wpList
  rw [if_pos (by simp [Region.wanted])]
  left
  unfold Oper.wp
  have hrun2 : (execOp a1.eval ⟨d, .call { callee := .builtin .append, args := #[x0, .tmp t1], argTypes := #[t, t] }, ty, pos, af, none⟩).run X.P w = .ok (.value v') w' := by
    simp only [execOp, resolve, invoke, builtin, Sem.run_bind, Sem.run_pure, Result.andThen_ok, List.map_toArray, List.map_cons, List.map_nil, ey]
    rw [hrun]; rfl
  rw [hrun2]
  have hs2 : DV (σ ++ [v']) (.one (.c (.row c.loc.length))) v' := by
    show (σ ++ [v'])[c.loc.length]? = some v'
    have := hr1.lenS
    rw [show c.loc.length = σ.length from this.symm]; simp
  exact hM _ hN.2 Q hQ _ _ _ _ (hR.put hN.1 hs2)
end
end Go.Sx
namespace Go.Proofs.YtbdacbcpniegiaaDoor.Q
open Go Go.RowKit Go.Proofs Go.Sx
set_option maxHeartbeats 4000000
set_option maxRecDepth 100000
set_option linter.unusedSimpArgs false
set_option linter.unusedVariables false
def stepL (out : List Rs) (r : Rs) : List Rs := match out.find? (isK r.t r.s) with
  | some o => if o.q < r.q then setL out r else out
  | none => setL out r
def sortL (ms : List Rs) : List Rs := ms.foldl stepL []
theorem setL_len (ms : List Rs) (x : Rs) : (setL ms x).length ≤ ms.length + 1 := by
  have h : (cutL x ms).length ≤ ms.length := List.length_filter_le _ _
  unfold setL
  split
  · simp; omega
  · simp; exact h
theorem newer_any (a b : Rs) (w : World) : Calls Tryd.prog 62 #[.agg #[.int .i64 a.t, .string (B a.s), .int .u64 a.q, .bool a.g, .string (B a.b)], .agg #[.int .i64 b.t, .string (B b.s), .int .u64 b.q, .bool b.g, .string (B b.b)]] w
    fun x w' => x = .returned (.bool (decide ((b.q : Int) < (a.q : Int)))) ∧ Below w.heap.size w w' := by
  refine calls_pureK (args := [.agg #[.int .i64 a.t, .string (B a.s), .int .u64 a.q, .bool a.g, .string (B a.b)], .agg #[.int .i64 b.t, .string (B b.s), .int .u64 b.q, .bool b.g, .string (B b.b)]]) w Tryd.func62 rfl Tryd.ntmps62 (by simp) ?_
  intro X K hX hK
  have hnt : X.nt = 10 := by rw [hX]
  have hwi : X.wi = w := by rw [hX]
  have hP : X.P = Tryd.prog := by rw [hX]
  have hown : X.own = [] := by rw [hX]
  have hbl : X.base.length = 0 := by rw [hX]; rfl
  clear hX
  have hT : fieldOff X.P 89 1 = some 2 ∧ aggOf X.P 22 = some false ∧ szOf X.P 22 = some 1 := by rw [hP]; exact ⟨Ty.fo89_1, Ty.ag22, Ty.sz22⟩
  repeat' (first
    | (refine SX.seqK ?_; intro N hN)
    | ((first | (refine SX.ops ?_)); simp only [GA, ↓GB, List.filterMap_cons, eq_self, BEq.rfl, simprocAttr, hnt, hT])
    | ((first | refine SX.skip ?_ | refine SX.exit ?_ | refine SX.label ?_); try simp only [GA, ↓GB, List.filterMap_cons, eq_self, BEq.rfl, simprocAttr])
    | (refine SX.cond rfl (fun hb => ?_) (fun hb => ?_) <;> ((first | cases hb | (simp only [decide_eq_true_eq, decide_eq_false_iff_not, beq_iff_eq, beq_eq_false_iff_ne, bne_iff_ne, Bool.and_eq_true, Bool.or_eq_true, Bool.not_eq_true', Bool.not_eq_false', Bool.and_eq_false_iff, Bool.or_eq_false_iff, Int.not_lt, Int.not_le] at hb) | skip) <;> (first | (exfalso; omega) | skip)))
    | (refine SX.ret ?_; try simp only [GA, ↓GB, List.filterMap_cons, eq_self, BEq.rfl, simprocAttr])
    | (refine hN _ ?_; clear hN N)
    | (refine hK _ _ (Fin.res rfl hown ?_); simp only [GA, ↓GB, List.filterMap_cons, eq_self, BEq.rfl, simprocAttr, f_a, f_b, f_n, f_c, f_B, f_v, f_g, f_0, f_1, f_2, hT, hwi]; intro w' hbel; refine Done.out ?_)
    | (clear hN N; first | (refine hN _ ?_; clear hN N) | (clear hN N; first | (refine hN _ ?_; clear hN N) | (clear hN N; first | (refine hN _ ?_; clear hN N) | (clear hN N; first | (refine hN _ ?_; clear hN N) | (clear hN N; first | (refine hN _ ?_; clear hN N) | (refine hN _ ?_; clear hN N))))))
    | (refine bif2.mk (fun hb => ?_) (fun hb => ?_) <;> (try simp only [hb, GA, ↓GB, List.filterMap_cons, eq_self, BEq.rfl, simprocAttr, hnt, hT]) <;> ((first | cases hb | (simp only [decide_eq_true_eq, decide_eq_false_iff_not, beq_iff_eq, beq_eq_false_iff_ne, bne_iff_ne, Bool.and_eq_true, Bool.or_eq_true, Bool.not_eq_true', Bool.not_eq_false', Bool.and_eq_false_iff, Bool.or_eq_false_iff, Int.not_lt, Int.not_le] at hb) | skip) <;> (first | (exfalso; omega) | skip)))
    | (refine SX.block ?_)
    | (refine and_mk ?_ ?_; (focus first | decide | omega | rfl | assumption | (simp only [List.length_append, List.length_cons, List.length_nil, B_size]; omega) | (simp; done)))
    | (refine And.intro ?_ ?_))
  all_goals (try refine Done.mk ?_)
  all_goals first | exact hbel | exact ⟨rfl, hbel⟩
theorem sort_go {ms out : List Rs} {i : Nat} (h : sortL ms = (ms.drop i).foldl stepL out) (hi : i < ms.length) {out' : List Rs} (hs : stepL out (ms.getD i default) = out') : sortL ms = (ms.drop (i + 1)).foldl stepL out' := by
  rw [h, List.drop_eq_getElem_cons hi, List.foldl_cons, ← hs, List.getD_eq_getElem?_getD, List.getElem?_eq_getElem hi]; rfl
theorem sort_end {ms out : List Rs} {i : Nat} (h : sortL ms = (ms.drop i).foldl stepL out) (hi : ms.length ≤ i) : sortL ms = out := by
  rw [h, List.drop_of_length_le hi]; rfl
theorem sort_ctr (ms : List Rs) (hms : ms.length ≤ 1000000) : Ctr Tryd.prog [] 58 [mrow ms] [.one (.c (.row 0))] (fun os v => os = [mrow ms, mrow (sortL ms)] ∧ v = .one (.c (.row 1))) := by
  refine Ctr.less ?_
  intro X0 hP0 hG0 N0 hN0
  refine CallVC.inline (f := 58) (by rw [hP0]; exact Tryd.func58) rfl Tryd.ntmps58 rfl (by simp) ?_
  intro X K hU hnt hbl hK
  have hP : X.P = Tryd.prog := by rw [hU.P, hP0]
  have hG := hG0.under hU
  have hT : X.P.underlying 79 = some (TypeDesc.slice 89) ∧ elemSz X.P 79 = some (89, 5) ∧ aggOf X.P 89 = some true ∧ szOf X.P 89 = some 5 ∧ zeroCells X.P 89 = some [(Value.int IntKind.i64 0), (Value.string { data := #[] }), (Value.int IntKind.u64 0), (Value.bool false), (Value.string { data := #[] })] ∧ fieldOff X.P 89 0 = some 0 ∧ aggOf X.P 26 = some true ∧ szOf X.P 26 = some 2 ∧ calleeOk X.P 54 = true ∧ calleeOk X.P 62 = true ∧ calleeOk X.P 53 = true := by rw [hP]; exact ⟨Tryd.underlying79, Ty.el79, Ty.ag89, Ty.sz89, Ty.ze89, Ty.fo89_0, Ty.ag26, Ty.sz26, Ty.co54, Ty.co62, Ty.co53⟩
  simp only [GA, ↓GB, List.filterMap_cons, eq_self, BEq.rfl, simprocAttr] at hbl ⊢
  have hf := True.intro
  repeat' (first
    | (refine SX.asRow (t := 3) 89 5 rfl ⟨_, rfl⟩ ?_)
    | (refine SX.seqK ?_; intro N hN)
    | ((first | (refine SX.ops ?_)); simp only [GA, ↓GB, List.filterMap_cons, eq_self, BEq.rfl, simprocAttr, hnt, hT, hf, findV])
    | ((first | refine SX.skip ?_ | refine SX.exit ?_ | refine SX.label ?_); try simp only [GA, ↓GB, List.filterMap_cons, eq_self, BEq.rfl, simprocAttr])
    | (refine SX.cond rfl (fun hb => ?_) (fun hb => ?_) <;> ((first | cases hb | (simp only [decide_eq_true_eq, decide_eq_false_iff_not, beq_iff_eq, beq_eq_false_iff_ne, bne_iff_ne, Bool.and_eq_true, Bool.or_eq_true, Bool.not_eq_true', Bool.not_eq_false', Bool.and_eq_false_iff, Bool.or_eq_false_iff, Int.not_lt, Int.not_le] at hb) | skip) <;> (first | (exfalso; omega) | skip)))
    | (refine SX.ret ?_; try simp only [GA, ↓GB, List.filterMap_cons, eq_self, BEq.rfl, simprocAttr])
    | (refine hN _ ?_; clear hN N)
    | ((first | refine hK _ _ (FinI.ret3 ?_) | refine hK _ _ (FinI.nrm3 ?_)); simp only [GA, ↓GB, List.filterMap_cons, eq_self, BEq.rfl, simprocAttr, finP_s, hnt, hT, hf, findV]; refine Done.out ?_)
    | (clear hN N; first | (refine hN _ ?_; clear hN N) | (clear hN N; first | (refine hN _ ?_; clear hN N) | (clear hN N; first | (refine hN _ ?_; clear hN N) | (clear hN N; first | (refine hN _ ?_; clear hN N) | (clear hN N; first | (refine hN _ ?_; clear hN N) | (refine hN _ ?_; clear hN N))))))
    | (refine bif2.mk (fun hb => ?_) (fun hb => ?_) <;> (try simp only [hb, GA, ↓GB, List.filterMap_cons, eq_self, BEq.rfl, simprocAttr, hnt, hT, hf, findV]) <;> ((first | cases hb | (simp only [decide_eq_true_eq, decide_eq_false_iff_not, beq_iff_eq, beq_eq_false_iff_ne, bne_iff_ne, Bool.and_eq_true, Bool.or_eq_true, Bool.not_eq_true', Bool.not_eq_false', Bool.and_eq_false_iff, Bool.or_eq_false_iff, Int.not_lt, Int.not_le] at hb) | skip) <;> (first | (exfalso; omega) | skip)))
    | ((first | (refine Ctr.use (find_ctr out (by omega) (ms.getD i default).t (ms.getD i default).s) hP ?_ [1] ?_ rfl rfl ?_; (focus (intro p hp; cases hp)); (focus (refine LeR.of rfl trivial ?_ ?_ ?_ ?_ ?_ <;> first | decide | (simp only [GA, ↓GB, List.filterMap_cons, eq_self, BEq.rfl, simprocAttr, List.getD_cons_zero, List.getD_cons_succ, or_false, false_or, or_self, or_true, true_or, decide_true]; done))); intro os' s hR; obtain ⟨rfl, rfl⟩ := hR) | (refine CallVC.pv hP (newer_any (ms.getD i default) o) rfl ?_) | (refine CallQ.pv hP (newer_any (ms.getD i default) o) rfl ?_) | (refine Ctr.use (set_ctr out (by omega) (ms.getD i default)) hP ?_ [1] ?_ rfl rfl ?_; (focus (intro p hp; cases hp)); (focus (refine LeR.of rfl trivial ?_ ?_ ?_ ?_ ?_ <;> first | decide | (simp only [GA, ↓GB, List.filterMap_cons, eq_self, BEq.rfl, simprocAttr, List.getD_cons_zero, List.getD_cons_succ, or_false, false_or, or_self, or_true, true_or, decide_true]; done))); intro os' s hR; obtain ⟨rfl, rfl⟩ := hR)); simp only [GA, ↓GB, List.filterMap_cons, eq_self, BEq.rfl, simprocAttr, hnt, hT, hf, findV])
    | (refine ⟨(ms.getD i default).cells, rfl, mks_at _ _ (by omega), ?_⟩ <;> simp only [Rs.cells, GA, ↓GB, List.filterMap_cons, eq_self, BEq.rfl, simprocAttr, hnt, hT])
    | (refine SX.loop (ι := { p : Nat × List Rs // p.1 ≤ ms.length ∧ p.2.length ≤ p.1 ∧ sortL ms = (ms.drop p.1).foldl stepL p.2 }) (fun p => ⟨[(3, .one (.c (.row 1))), (8, .one (.c (.row 0))), (9, vv (.int .i64 ms.length)), (10, vv (.int .i64 p.1.1))], [mrow ms, mrow p.1.2]⟩) (fun p => ms.length - p.1.1) ⟨(0, []), Nat.zero_le _, Nat.le_refl _, rfl⟩ ⟨[0, 1], by (refine LeR.of ?_ ?_ ?_ ?_ ?_ ?_ ?_ <;> first | (rw [hbl]; decide) | decide | (simp only [GA, ↓GB, List.filterMap_cons, eq_self, BEq.rfl, simprocAttr, List.getD_cons_zero, List.getD_cons_succ, or_false, false_or, or_self, or_true, true_or, decide_true]; done) | (simp only [GA, ↓GB, List.filterMap_cons, eq_self, BEq.rfl, simprocAttr, List.getD_cons_zero, List.getD_cons_succ, or_false, false_or, or_self, or_true, true_or, decide_true]; rfl; done))⟩ ?_ <;> rintro ⟨⟨i, out⟩, hi, hl, hm⟩ <;> simp only [] at hi hl hm ⊢ <;> cases hf : out.find? (isK (ms.getD i default).t (ms.getD i default).s) with | none => ?_ | some o => ?_)
    | (refine SX.block ?_)
    | (refine and_mk ?_ ?_; (focus first | decide | omega | rfl | assumption | (simp only [List.length_append, List.length_cons, List.length_nil, B_size]; omega) | (simp; done)))
    | (refine And.intro ?_ ?_))
  all_goals (try refine Done.mk ?_)
  · exact ⟨⟨(i + 1, setL out (ms.getD i default)), by show i + 1 ≤ ms.length; omega, by show (setL _ _).length ≤ i + 1; have := setL_len out (ms.getD i default); omega, sort_go hm (by omega) (by simp only [stepL, hf])⟩, [0, 4], by (refine LeR.of ?_ ?_ ?_ ?_ ?_ ?_ ?_ <;> first | (rw [hbl]; decide) | decide | (simp only [GA, ↓GB, List.filterMap_cons, eq_self, BEq.rfl, simprocAttr, List.getD_cons_zero, List.getD_cons_succ, or_false, false_or, or_self, or_true, true_or, decide_true]; done) | (simp only [GA, ↓GB, List.filterMap_cons, eq_self, BEq.rfl, simprocAttr, List.getD_cons_zero, List.getD_cons_succ, or_false, false_or, or_self, or_true, true_or, decide_true]; first | (rw [wI64 (by omega) (by omega)]; rfl) | rfl; done)), by show ms.length - (i + 1) < ms.length - i; omega⟩
  · have hs := sort_end hm (by omega)
    subst hs
    (refine hN0 _ _ ⟨[0, 1], _, _, ?_, ?_, ?_, ⟨rfl, rfl⟩⟩; (focus exact LeR.of rfl trivial (by simp only [GA, ↓GB, List.filterMap_cons, eq_self, BEq.rfl, simprocAttr, List.getD_cons_zero, List.getD_cons_succ, or_false, false_or, or_self, or_true, true_or, decide_true]) (by decide) rfl rfl rfl); rotate_left; (focus rfl))
    rfl
  · exact ⟨⟨(i + 1, setL out (ms.getD i default)), by show i + 1 ≤ ms.length; omega, by show (setL _ _).length ≤ i + 1; have := setL_len out (ms.getD i default); omega, sort_go hm (by omega) (by simp only [stepL, hf]; rw [if_pos (by first | omega | (simp_all; done))])⟩, [0, 4], by (refine LeR.of ?_ ?_ ?_ ?_ ?_ ?_ ?_ <;> first | (rw [hbl]; decide) | decide | (simp only [GA, ↓GB, List.filterMap_cons, eq_self, BEq.rfl, simprocAttr, List.getD_cons_zero, List.getD_cons_succ, or_false, false_or, or_self, or_true, true_or, decide_true]; done) | (simp only [GA, ↓GB, List.filterMap_cons, eq_self, BEq.rfl, simprocAttr, List.getD_cons_zero, List.getD_cons_succ, or_false, false_or, or_self, or_true, true_or, decide_true]; first | (rw [wI64 (by omega) (by omega)]; rfl) | rfl; done)), by show ms.length - (i + 1) < ms.length - i; omega⟩
  · exact ⟨⟨(i + 1, out), by show i + 1 ≤ ms.length; omega, by show out.length ≤ i + 1; omega, sort_go hm (by omega) (by simp only [stepL, hf]; rw [if_neg (by first | omega | (simp_all; done))])⟩, [0, 1], by (refine LeR.of ?_ ?_ ?_ ?_ ?_ ?_ ?_ <;> first | (rw [hbl]; decide) | decide | (simp only [GA, ↓GB, List.filterMap_cons, eq_self, BEq.rfl, simprocAttr, List.getD_cons_zero, List.getD_cons_succ, or_false, false_or, or_self, or_true, true_or, decide_true]; done) | (simp only [GA, ↓GB, List.filterMap_cons, eq_self, BEq.rfl, simprocAttr, List.getD_cons_zero, List.getD_cons_succ, or_false, false_or, or_self, or_true, true_or, decide_true]; first | (rw [wI64 (by omega) (by omega)]; rfl) | rfl; done)), by show ms.length - (i + 1) < ms.length - i; omega⟩
  · have hs := sort_end hm (by omega)
    subst hs
    (refine hN0 _ _ ⟨[0, 1], _, _, ?_, ?_, ?_, ⟨rfl, rfl⟩⟩; (focus exact LeR.of rfl trivial (by simp only [GA, ↓GB, List.filterMap_cons, eq_self, BEq.rfl, simprocAttr, List.getD_cons_zero, List.getD_cons_succ, or_false, false_or, or_self, or_true, true_or, decide_true]) (by decide) rfl rfl rfl); rotate_left; (focus rfl))
    rfl
end Go.Proofs.YtbdacbcpniegiaaDoor.Q
namespace Go.Proofs.YtbdacbcpniegiaaDoor
open Go Go.RowKit Go.Proofs Go.Sx
set_option maxHeartbeats 4000000
set_option maxRecDepth 100000
set_option linter.unusedSimpArgs false
set_option linter.unusedVariables false
def sE (k : Nat) (f : NW.Fld) : S1 := .agg [.v (.int .i64 k), .v (.int .i64 f.kind), .v (.int .u64 f.n), .v (.string (B f.s))]
def mE (l : List (Nat × NW.Fld)) : List (Value × S1) := l.map fun p => (.int .i64 p.1, sE p.1 p.2)
def putN (k : Nat) (f : NW.Fld) : List (Nat × NW.Fld) → List (Nat × NW.Fld)
  | [] => [(k, f)]
  | p :: l => if k = p.1 then (k, f) :: l else p :: putN k f l
def findN (k : Nat) : List (Nat × NW.Fld) → Option NW.Fld
  | [] => none
  | p :: l => if k = p.1 then some p.2 else findN k l
theorem findN_put (k j : Nat) (f : NW.Fld) : ∀ l, findN j (putN k f l) = if j = k then some f else findN j l
  | [] => by simp only [putN, findN]
  | p :: l => by
    simp only [putN]
    by_cases h : k = p.1
    · rw [if_pos h]; simp only [findN]
      by_cases hj : j = k
      · simp [hj]
      · rw [if_neg hj, if_neg hj, if_neg (by omega)]
    · rw [if_neg h]; simp only [findN, findN_put k j f l]
      by_cases hj : j = p.1
      · rw [if_pos hj, if_neg (by omega), if_pos hj]
      · rw [if_neg hj]; by_cases hjk : j = k <;> simp [hjk]; intro h2; omega
theorem mE_all (l : List (Nat × NW.Fld)) : ((mE l).all fun p => KeyOf (.int .i64) p.1) = true := by
  induction l with
  | nil => rfl
  | cons p l ih => simp only [mE, List.map_cons, List.all_cons] at *; rw [ih]; rfl
theorem mE_okB (n : Nat) (l : List (Nat × NW.Fld)) : ((mE l).all fun p => S1.okB n p.2) = true := by
  induction l with
  | nil => rfl
  | cons p l ih => simp only [mE, List.map_cons, List.all_cons] at *; rw [ih]; rfl
theorem mE_ren (sel : List Nat) (l : List (Nat × NW.Fld)) : ((mE l).map fun p => (p.1, p.2.ren sel)) = mE l := by
  induction l with
  | nil => rfl
  | cons p l ih => simp only [mE, List.map_cons] at *; rw [ih]; rfl
theorem mE_put (k : Nat) (f : NW.Fld) : ∀ l, Put (.int .i64 k) (sE k f) (mE l) (mE (putN k f l))
  | [] => .nil
  | p :: l => by
    simp only [putN]
    by_cases h : k = p.1
    · rw [if_pos h]; exact .hit (by rw [h])
    · rw [if_neg h]; exact .miss (fun e => h (by injection e with _ e; exact Int.ofNat.inj e)) (mE_put k f l)
theorem lkS_mE (k : Nat) (N : Option S1 → Prop) : ∀ l, lkS (.int .i64 k) N (mE l) = N ((findN k l).map (sE k))
  | [] => rfl
  | p :: l => by
    show bif2 (keyEq (.int .i64 k) (.int .i64 p.1)) (N (some (sE p.1 p.2))) (lkS (.int .i64 k) N (mE l)) = _
    by_cases h : k = p.1
    · have : keyEq (.int .i64 (k : Int)) (.int .i64 (p.1 : Int)) = true := by rw [h]; simp [keyEq]
      rw [this]; simp only [findN, if_pos h, bif2]; subst h; simp
    · have : keyEq (.int .i64 (k : Int)) (.int .i64 (p.1 : Int)) = false := by simp [keyEq]; omega
      rw [this, lkS_mE k N l]; simp only [findN, if_neg h, bif2]; simp
end Go.Proofs.YtbdacbcpniegiaaDoor
namespace Go.Proofs.YtbdacbcpniegiaaDoor
open Go Go.RowKit Go.Proofs Go.Sx
set_option maxHeartbeats 4000000
set_option maxRecDepth 100000
set_option linter.unusedSimpArgs false
set_option linter.unusedVariables false
end Go.Proofs.YtbdacbcpniegiaaDoor
namespace Go.Proofs.YtbdacbcpniegiaaDoor
open Go Go.RowKit Go.Proofs Go.Sx
set_option maxHeartbeats 8000000
set_option maxRecDepth 100000
set_option linter.unusedSimpArgs false
set_option linter.unusedVariables false
def takeG {S : Type} (step : NW.Fld → S → Option S) : List NW.Fld → S → S × Bool
  | [], s => (s, true)
  | f :: fs, s => match step f s with | some s' => takeG step fs s' | none => (s, false)
theorem takeG_go {S : Type} {step : NW.Fld → S → Option S} {l : List NW.Fld} {s0 m m' : S} {i : Nat} (h : takeG step l s0 = takeG step (l.drop i) m) (hi : i < l.length) (hs : step (l.getD i default) m = some m') : takeG step l s0 = takeG step (l.drop (i + 1)) m' := by
  rw [h, drop_getD hi, takeG, hs]
theorem takeG_end {S : Type} {step : NW.Fld → S → Option S} {l : List NW.Fld} {s0 m : S} {i : Nat} (h : takeG step l s0 = takeG step (l.drop i) m) (hi : l.length ≤ i) : takeG step l s0 = (m, true) := by
  rw [h, List.drop_of_length_le hi, takeG]
theorem numBlk5 {X : Ctx} {code : Code} {c : Cfg} {K : Exit → Cfg → Prop} {id : Nat} (x : Nat) (h1 : (x : Int) = 1 → SX X code c (bx id K)) (h2 : (x : Int) = 2 → SX X code c (bx id K)) (h3 : (x : Int) = 3 → SX X code c (bx id K)) (h4 : (x : Int) = 4 → SX X code c (bx id K)) (h5 : (x : Int) = 5 → SX X code c (bx id K))
    (h0 : ((x : Int) == 1) = false ∧ ((x : Int) == 2) = false ∧ ((x : Int) == 3) = false ∧ ((x : Int) == 4) = false ∧ ((x : Int) == 5) = false → SX X code c (bx id K)) : SX X (.block id code) c K := by
  refine SX.block ?_
  by_cases e1 : (x : Int) = 1
  · exact h1 e1
  by_cases e2 : (x : Int) = 2
  · exact h2 e2
  by_cases e3 : (x : Int) = 3
  · exact h3 e3
  by_cases e4 : (x : Int) = 4
  · exact h4 e4
  by_cases e5 : (x : Int) = 5
  · exact h5 e5
  exact h0 ⟨by simpa using e1, by simpa using e2, by simpa using e3, by simpa using e4, by simpa using e5⟩
structure StS where
  kind : Nat
  name : List UInt8
  seq : Nat
  fine : Nat
  det : List UInt8
def StS.zero : StS := ⟨0, [], 0, 0, []⟩
end Go.Proofs.YtbdacbcpniegiaaDoor
namespace Go.Proofs.YtbdacbcpniegiaaDoor
open Go Go.RowKit Go.Proofs Go.Sx
set_option maxHeartbeats 8000000
set_option maxRecDepth 100000
set_option linter.unusedSimpArgs false
set_option linter.unusedVariables false
abbrev LSt := Bool × List (Nat × NW.Fld)
def stepR (f : NW.Fld) (m : LSt) : Option LSt :=
  if f.num = 1 then some (m.1 && ((0 : Int) == (f.kind : Int)), putN 1 f m.2)
  else if f.num = 2 then some (m.1 && ((2 : Int) == (f.kind : Int)), putN 2 f m.2)
  else if f.num = 3 then some (m.1 && ((0 : Int) == (f.kind : Int)), putN 3 f m.2)
  else if f.num = 4 then some (m.1 && ((0 : Int) == (f.kind : Int)), putN 4 f m.2)
  else if f.num = 5 then some (m.1 && ((2 : Int) == (f.kind : Int)), putN 5 f m.2)
  else some m
@[reducible] def kindMap : LO := .map [(.int .i64 1, .c (.v (.int .i64 0))), (.int .i64 2, .c (.v (.int .i64 2))), (.int .i64 3, .c (.v (.int .i64 0))), (.int .i64 4, .c (.v (.int .i64 0))), (.int .i64 5, .c (.v (.int .i64 2)))]
@[reducible] def rs0 : LO := .cells [.v (.int .i64 0), .v (.string (B [])), .v (.int .u64 0), .v (.bool false), .v (.string (B []))] 89
theorem get_l2 {X : Ctx} (hP : X.P = Tryd.prog) (hnt : X.nt = 86) (hbl : X.base.length = 0) (l : List NW.Fld) (hll : l.length ≤ 1099511627776) (K : Exit → Cfg → Prop) :
    SX X (sub [true, true, true, true, false] (Tryd.f49.body.getD .skip)) ⟨[(2, .one (.c (.loc 0 0))), (3, vv (.bool false)), (4, .one (.c (.row 1))), (5, vv (.bool true)), (6, .one (.c (.row 2))), (7, .one (.c (.row 3)))], [rs0, frow l, kindMap, .map []]⟩
      (nx (fun c' => ∃ (j : Unit) (sel : List Nat), LeR X.base.length sel ⟨[(2, .one (.c (.loc 0 0))), (3, vv (.bool false)), (5, vv (.bool (takeG stepR l (true, [])).1.1)), (7, .one (.c (.row 1)))], [rs0, .map (mE (takeG stepR l (true, [])).1.2)]⟩ c') K) := by
  have hT : zeroCells X.P 89 = some [(Value.int IntKind.i64 0), (Value.string { data := #[] }), (Value.int IntKind.u64 0), (Value.bool false), (Value.string { data := #[] })] ∧ calleeOk X.P 109 = true ∧ mapInf X.P 174 = some ((TypeDesc.int IntKind.i64), (Value.int IntKind.i64 0)) ∧ X.P.underlying 171 = some (TypeDesc.slice 143) ∧ elemSz X.P 171 = some (143, 4) ∧ aggOf X.P 143 = some true ∧ szOf X.P 143 = some 4 ∧ zeroCells X.P 143 = some [(Value.int IntKind.i64 0), (Value.int IntKind.i64 0), (Value.int IntKind.u64 0), (Value.string { data := #[] })] ∧ fieldOff X.P 143 0 = some 0 ∧ aggOf X.P 3 = some false ∧ szOf X.P 3 = some 1 ∧ fieldOff X.P 143 1 = some 1 ∧ mapInf X.P 175 = some ((TypeDesc.int IntKind.i64), (Value.agg #[(Value.int IntKind.i64 0), (Value.int IntKind.i64 0), (Value.int IntKind.u64 0), (Value.string { data := #[] })])) ∧ fldInf X.P 143 2 = some (2, false, 1) ∧ fieldsOf X.P 89 = some [(0, 2), (2, 1), (3, 1), (4, 1)] ∧ szOf X.P 89 = some 5 ∧ X.P.underlying 22 = some (TypeDesc.int IntKind.u64) ∧ X.P.underlying 3 = some (TypeDesc.int IntKind.i64) ∧ isBytesT X.P 22 = false ∧ isStrT X.P 3 = false ∧ fldInf X.P 143 3 = some (3, false, 1) ∧ fieldsOf X.P 26 = some [(0, 1), (1, 1)] ∧ zeroCells X.P 26 = some [(Value.int IntKind.i64 0), (Value.string { data := #[] })] ∧ aggOf X.P 89 = some true ∧ calleeOk X.P 51 = true := by rw [hP]; exact ⟨Ty.ze89, Ty.co109, Ty.mi174, Tryd.underlying171, Ty.el171, Ty.ag143, Ty.sz143, Ty.ze143, Ty.fo143_0, Ty.ag3, Ty.sz3, Ty.fo143_1, Ty.mi175, Ty.fl143_2, Ty.fs89, Ty.sz89, Tryd.underlying22, Tryd.underlying3, Ty.ib22, Ty.is3, Ty.fl143_3, Ty.fs26, Ty.ze26, Ty.ag89, Ty.co51⟩
  simp only [sub, Tryd.f49, Option.getD_some]
  have hk1 := True.intro
  repeat' (first
    | (refine numBlk5 (id := 1) (l.getD i default).num (fun hk1 => ?_) (fun hk1 => ?_) (fun hk1 => ?_) (fun hk1 => ?_) (fun hk1 => ?_) (fun hk1 => ?_))
    | (refine SX.seqK ?_; intro N hN)
    | ((first | (refine SX.ops ?_) | (refine SX.planT (id := 12) [.q [(0, [7]), (1, [49]), (2, [50]), (3, [7]), (4, [52]), (5, [53]), (6, [51]), (7, [54])] none] ?_ ?_ ?_; (focus first | (rw [hP]; kernel_rfl) | (rw [hU1P, hP]; kernel_rfl)); (focus kernel_rfl))); simp only [GA, ↓GB, List.filterMap_cons, eq_self, BEq.rfl, simprocAttr, hnt, hT, hk1])
    | ((first | refine SX.skip ?_ | refine SX.exit ?_ | refine SX.label ?_); try simp only [GA, ↓GB, List.filterMap_cons, eq_self, BEq.rfl, simprocAttr])
    | (refine SX.cond rfl (fun hb => ?_) (fun hb => ?_) <;> ((first | cases hb | (simp only [decide_eq_true_eq, decide_eq_false_iff_not, beq_iff_eq, beq_eq_false_iff_ne, bne_iff_ne, Bool.and_eq_true, Bool.or_eq_true, Bool.not_eq_true', Bool.not_eq_false', Bool.and_eq_false_iff, Bool.or_eq_false_iff, Int.not_lt, Int.not_le] at hb) | skip) <;> (first | (exfalso; omega) | skip)))
    | (refine SX.ret ?_; try simp only [GA, ↓GB, List.filterMap_cons, eq_self, BEq.rfl, simprocAttr])
    | (refine hN _ ?_; clear hN N)
    | (clear hN N; first | (refine hN _ ?_; clear hN N) | (clear hN N; first | (refine hN _ ?_; clear hN N) | (clear hN N; first | (refine hN _ ?_; clear hN N) | (clear hN N; first | (refine hN _ ?_; clear hN N) | (clear hN N; first | (refine hN _ ?_; clear hN N) | (refine hN _ ?_; clear hN N))))))
    | (refine bif2.mk (fun hb => ?_) (fun hb => ?_) <;> (try simp only [hb, GA, ↓GB, List.filterMap_cons, eq_self, BEq.rfl, simprocAttr, hnt, hT, hk1]) <;> ((first | cases hb | (simp only [decide_eq_true_eq, decide_eq_false_iff_not, beq_iff_eq, beq_eq_false_iff_ne, bne_iff_ne, Bool.and_eq_true, Bool.or_eq_true, Bool.not_eq_true', Bool.not_eq_false', Bool.and_eq_false_iff, Bool.or_eq_false_iff, Int.not_lt, Int.not_le] at hb) | skip) <;> (first | (exfalso; omega) | skip)))
    | (show VO X _ _ _; refine VO.mapSet (kt := 3) (et := 143) (kd := .int .i64) (kv := .int .i64 1) (s := sE 1 (l.getD i default)) (es := mE es) (es' := mE (putN 1 (l.getD i default) es)) rfl rfl rfl rfl (by rw [hP]; kernel_rfl) (by rw [hP]; kernel_rfl) rfl (mE_all _) (mE_put 1 _ _) ?_; simp only [GA, ↓GB, List.filterMap_cons, eq_self, BEq.rfl, simprocAttr, hnt, hT])
    | (show VO X _ _ _; refine VO.mapSet (kt := 3) (et := 143) (kd := .int .i64) (kv := .int .i64 2) (s := sE 2 (l.getD i default)) (es := mE es) (es' := mE (putN 2 (l.getD i default) es)) rfl rfl rfl rfl (by rw [hP]; kernel_rfl) (by rw [hP]; kernel_rfl) rfl (mE_all _) (mE_put 2 _ _) ?_; simp only [GA, ↓GB, List.filterMap_cons, eq_self, BEq.rfl, simprocAttr, hnt, hT])
    | (show VO X _ _ _; refine VO.mapSet (kt := 3) (et := 143) (kd := .int .i64) (kv := .int .i64 3) (s := sE 3 (l.getD i default)) (es := mE es) (es' := mE (putN 3 (l.getD i default) es)) rfl rfl rfl rfl (by rw [hP]; kernel_rfl) (by rw [hP]; kernel_rfl) rfl (mE_all _) (mE_put 3 _ _) ?_; simp only [GA, ↓GB, List.filterMap_cons, eq_self, BEq.rfl, simprocAttr, hnt, hT])
    | (show VO X _ _ _; refine VO.mapSet (kt := 3) (et := 143) (kd := .int .i64) (kv := .int .i64 4) (s := sE 4 (l.getD i default)) (es := mE es) (es' := mE (putN 4 (l.getD i default) es)) rfl rfl rfl rfl (by rw [hP]; kernel_rfl) (by rw [hP]; kernel_rfl) rfl (mE_all _) (mE_put 4 _ _) ?_; simp only [GA, ↓GB, List.filterMap_cons, eq_self, BEq.rfl, simprocAttr, hnt, hT])
    | (show VO X _ _ _; refine VO.mapSet (kt := 3) (et := 143) (kd := .int .i64) (kv := .int .i64 5) (s := sE 5 (l.getD i default)) (es := mE es) (es' := mE (putN 5 (l.getD i default) es)) rfl rfl rfl rfl (by rw [hP]; kernel_rfl) (by rw [hP]; kernel_rfl) rfl (mE_all _) (mE_put 5 _ _) ?_; simp only [GA, ↓GB, List.filterMap_cons, eq_self, BEq.rfl, simprocAttr, hnt, hT])
    | (refine ⟨fcells (l.getD i default), rfl, flds_cell _ _ (by omega), ?_⟩ <;> simp only [fcells, GA, ↓GB, List.filterMap_cons, eq_self, BEq.rfl, simprocAttr, hnt, hT, hk1])
    | (refine SX.loop (ι := { p : Nat × LSt // p.1 ≤ l.length ∧ takeG stepR l (true, []) = takeG stepR (l.drop p.1) p.2 }) (fun p => ⟨[(2, .one (.c (.loc 0 0))), (3, vv (.bool false)), (5, vv (.bool p.1.2.1)), (6, .one (.c (.row 2))), (7, .one (.c (.row 3))), (23, .one (.c (.row 1))), (24, vv (.int .i64 l.length)), (25, vv (.int .i64 p.1.1))], [rs0, frow l, kindMap, .map (mE p.1.2.2)]⟩) (fun p => l.length - p.1.1) ⟨(0, (true, [])), Nat.zero_le _, rfl⟩ ⟨[0, 1, 2, 3], by (refine LeR.of ?_ ?_ ?_ ?_ ?_ ?_ ?_ <;> first | (rw [hbl]; decide) | decide | (simp only [GA, ↓GB, List.filterMap_cons, eq_self, BEq.rfl, simprocAttr, List.getD_cons_zero, List.getD_cons_succ, or_false, false_or, or_self, or_true, true_or, decide_true]; done) | (simp only [GA, ↓GB, List.filterMap_cons, eq_self, BEq.rfl, simprocAttr, List.getD_cons_zero, List.getD_cons_succ, or_false, false_or, or_self, or_true, true_or, decide_true]; first | exact mE_okB _ _ | (simp only [mE_ren]; done) | (refine ⟨rfl, ?_⟩; rw [wI64 (by omega) (by omega)]; rfl) | (rw [wI64 (by omega) (by omega)]; rfl) | rfl; done))⟩ ?_ <;> rintro ⟨⟨i, ⟨ok, es⟩⟩, hi, hm⟩ <;> simp only [] at hi hm ⊢)
    | (refine SX.block ?_)
    | (refine and_mk ?_ ?_; (focus first | decide | omega | rfl | assumption | (simp only [List.length_append, List.length_cons, List.length_nil, B_size]; omega) | (simp; done)))
    | (refine And.intro ?_ ?_))
  all_goals (try refine Done.mk ?_)
  · have hj : (l.getD i default).num = 1 := by omega
    exact ⟨⟨(i + 1, (true && ((0 : Int) == ((l.getD i default).kind : Int)), putN 1 (l.getD i default) es)), by show i + 1 ≤ l.length; omega, takeG_go hm (by omega) (by simp [-List.getD_eq_getElem?_getD, stepR, hj])⟩, [0, 1, 2, 3], by (refine LeR.of ?_ ?_ ?_ ?_ ?_ ?_ ?_ <;> first | (rw [hbl]; decide) | decide | (simp only [GA, ↓GB, List.filterMap_cons, eq_self, BEq.rfl, simprocAttr, List.getD_cons_zero, List.getD_cons_succ, or_false, false_or, or_self, or_true, true_or, decide_true]; done) | (simp only [GA, ↓GB, List.filterMap_cons, eq_self, BEq.rfl, simprocAttr, List.getD_cons_zero, List.getD_cons_succ, or_false, false_or, or_self, or_true, true_or, decide_true]; first | exact mE_okB _ _ | (simp only [mE_ren]; done) | (refine ⟨rfl, ?_⟩; rw [wI64 (by omega) (by omega)]; rfl) | (rw [wI64 (by omega) (by omega)]; rfl) | rfl; done)), by show l.length - (i + 1) < l.length - i; omega⟩
  · have hj : (l.getD i default).num = 1 := by omega
    exact ⟨⟨(i + 1, (false && ((0 : Int) == ((l.getD i default).kind : Int)), putN 1 (l.getD i default) es)), by show i + 1 ≤ l.length; omega, takeG_go hm (by omega) (by simp [-List.getD_eq_getElem?_getD, stepR, hj])⟩, [0, 1, 2, 3], by (refine LeR.of ?_ ?_ ?_ ?_ ?_ ?_ ?_ <;> first | (rw [hbl]; decide) | decide | (simp only [GA, ↓GB, List.filterMap_cons, eq_self, BEq.rfl, simprocAttr, List.getD_cons_zero, List.getD_cons_succ, or_false, false_or, or_self, or_true, true_or, decide_true]; done) | (simp only [GA, ↓GB, List.filterMap_cons, eq_self, BEq.rfl, simprocAttr, List.getD_cons_zero, List.getD_cons_succ, or_false, false_or, or_self, or_true, true_or, decide_true]; first | exact mE_okB _ _ | (simp only [mE_ren]; done) | (refine ⟨rfl, ?_⟩; rw [wI64 (by omega) (by omega)]; rfl) | (rw [wI64 (by omega) (by omega)]; rfl) | rfl; done)), by show l.length - (i + 1) < l.length - i; omega⟩
  · have hj : (l.getD i default).num = 2 := by omega
    exact ⟨⟨(i + 1, (true && ((2 : Int) == ((l.getD i default).kind : Int)), putN 2 (l.getD i default) es)), by show i + 1 ≤ l.length; omega, takeG_go hm (by omega) (by simp [-List.getD_eq_getElem?_getD, stepR, hj])⟩, [0, 1, 2, 3], by (refine LeR.of ?_ ?_ ?_ ?_ ?_ ?_ ?_ <;> first | (rw [hbl]; decide) | decide | (simp only [GA, ↓GB, List.filterMap_cons, eq_self, BEq.rfl, simprocAttr, List.getD_cons_zero, List.getD_cons_succ, or_false, false_or, or_self, or_true, true_or, decide_true]; done) | (simp only [GA, ↓GB, List.filterMap_cons, eq_self, BEq.rfl, simprocAttr, List.getD_cons_zero, List.getD_cons_succ, or_false, false_or, or_self, or_true, true_or, decide_true]; first | exact mE_okB _ _ | (simp only [mE_ren]; done) | (refine ⟨rfl, ?_⟩; rw [wI64 (by omega) (by omega)]; rfl) | (rw [wI64 (by omega) (by omega)]; rfl) | rfl; done)), by show l.length - (i + 1) < l.length - i; omega⟩
  · have hj : (l.getD i default).num = 2 := by omega
    exact ⟨⟨(i + 1, (false && ((2 : Int) == ((l.getD i default).kind : Int)), putN 2 (l.getD i default) es)), by show i + 1 ≤ l.length; omega, takeG_go hm (by omega) (by simp [-List.getD_eq_getElem?_getD, stepR, hj])⟩, [0, 1, 2, 3], by (refine LeR.of ?_ ?_ ?_ ?_ ?_ ?_ ?_ <;> first | (rw [hbl]; decide) | decide | (simp only [GA, ↓GB, List.filterMap_cons, eq_self, BEq.rfl, simprocAttr, List.getD_cons_zero, List.getD_cons_succ, or_false, false_or, or_self, or_true, true_or, decide_true]; done) | (simp only [GA, ↓GB, List.filterMap_cons, eq_self, BEq.rfl, simprocAttr, List.getD_cons_zero, List.getD_cons_succ, or_false, false_or, or_self, or_true, true_or, decide_true]; first | exact mE_okB _ _ | (simp only [mE_ren]; done) | (refine ⟨rfl, ?_⟩; rw [wI64 (by omega) (by omega)]; rfl) | (rw [wI64 (by omega) (by omega)]; rfl) | rfl; done)), by show l.length - (i + 1) < l.length - i; omega⟩
  · have hj : (l.getD i default).num = 3 := by omega
    exact ⟨⟨(i + 1, (true && ((0 : Int) == ((l.getD i default).kind : Int)), putN 3 (l.getD i default) es)), by show i + 1 ≤ l.length; omega, takeG_go hm (by omega) (by simp [-List.getD_eq_getElem?_getD, stepR, hj])⟩, [0, 1, 2, 3], by (refine LeR.of ?_ ?_ ?_ ?_ ?_ ?_ ?_ <;> first | (rw [hbl]; decide) | decide | (simp only [GA, ↓GB, List.filterMap_cons, eq_self, BEq.rfl, simprocAttr, List.getD_cons_zero, List.getD_cons_succ, or_false, false_or, or_self, or_true, true_or, decide_true]; done) | (simp only [GA, ↓GB, List.filterMap_cons, eq_self, BEq.rfl, simprocAttr, List.getD_cons_zero, List.getD_cons_succ, or_false, false_or, or_self, or_true, true_or, decide_true]; first | exact mE_okB _ _ | (simp only [mE_ren]; done) | (refine ⟨rfl, ?_⟩; rw [wI64 (by omega) (by omega)]; rfl) | (rw [wI64 (by omega) (by omega)]; rfl) | rfl; done)), by show l.length - (i + 1) < l.length - i; omega⟩
  · have hj : (l.getD i default).num = 3 := by omega
    exact ⟨⟨(i + 1, (false && ((0 : Int) == ((l.getD i default).kind : Int)), putN 3 (l.getD i default) es)), by show i + 1 ≤ l.length; omega, takeG_go hm (by omega) (by simp [-List.getD_eq_getElem?_getD, stepR, hj])⟩, [0, 1, 2, 3], by (refine LeR.of ?_ ?_ ?_ ?_ ?_ ?_ ?_ <;> first | (rw [hbl]; decide) | decide | (simp only [GA, ↓GB, List.filterMap_cons, eq_self, BEq.rfl, simprocAttr, List.getD_cons_zero, List.getD_cons_succ, or_false, false_or, or_self, or_true, true_or, decide_true]; done) | (simp only [GA, ↓GB, List.filterMap_cons, eq_self, BEq.rfl, simprocAttr, List.getD_cons_zero, List.getD_cons_succ, or_false, false_or, or_self, or_true, true_or, decide_true]; first | exact mE_okB _ _ | (simp only [mE_ren]; done) | (refine ⟨rfl, ?_⟩; rw [wI64 (by omega) (by omega)]; rfl) | (rw [wI64 (by omega) (by omega)]; rfl) | rfl; done)), by show l.length - (i + 1) < l.length - i; omega⟩
  · have hj : (l.getD i default).num = 4 := by omega
    exact ⟨⟨(i + 1, (true && ((0 : Int) == ((l.getD i default).kind : Int)), putN 4 (l.getD i default) es)), by show i + 1 ≤ l.length; omega, takeG_go hm (by omega) (by simp [-List.getD_eq_getElem?_getD, stepR, hj])⟩, [0, 1, 2, 3], by (refine LeR.of ?_ ?_ ?_ ?_ ?_ ?_ ?_ <;> first | (rw [hbl]; decide) | decide | (simp only [GA, ↓GB, List.filterMap_cons, eq_self, BEq.rfl, simprocAttr, List.getD_cons_zero, List.getD_cons_succ, or_false, false_or, or_self, or_true, true_or, decide_true]; done) | (simp only [GA, ↓GB, List.filterMap_cons, eq_self, BEq.rfl, simprocAttr, List.getD_cons_zero, List.getD_cons_succ, or_false, false_or, or_self, or_true, true_or, decide_true]; first | exact mE_okB _ _ | (simp only [mE_ren]; done) | (refine ⟨rfl, ?_⟩; rw [wI64 (by omega) (by omega)]; rfl) | (rw [wI64 (by omega) (by omega)]; rfl) | rfl; done)), by show l.length - (i + 1) < l.length - i; omega⟩
  · have hj : (l.getD i default).num = 4 := by omega
    exact ⟨⟨(i + 1, (false && ((0 : Int) == ((l.getD i default).kind : Int)), putN 4 (l.getD i default) es)), by show i + 1 ≤ l.length; omega, takeG_go hm (by omega) (by simp [-List.getD_eq_getElem?_getD, stepR, hj])⟩, [0, 1, 2, 3], by (refine LeR.of ?_ ?_ ?_ ?_ ?_ ?_ ?_ <;> first | (rw [hbl]; decide) | decide | (simp only [GA, ↓GB, List.filterMap_cons, eq_self, BEq.rfl, simprocAttr, List.getD_cons_zero, List.getD_cons_succ, or_false, false_or, or_self, or_true, true_or, decide_true]; done) | (simp only [GA, ↓GB, List.filterMap_cons, eq_self, BEq.rfl, simprocAttr, List.getD_cons_zero, List.getD_cons_succ, or_false, false_or, or_self, or_true, true_or, decide_true]; first | exact mE_okB _ _ | (simp only [mE_ren]; done) | (refine ⟨rfl, ?_⟩; rw [wI64 (by omega) (by omega)]; rfl) | (rw [wI64 (by omega) (by omega)]; rfl) | rfl; done)), by show l.length - (i + 1) < l.length - i; omega⟩
  · have hj : (l.getD i default).num = 5 := by omega
    exact ⟨⟨(i + 1, (true && ((2 : Int) == ((l.getD i default).kind : Int)), putN 5 (l.getD i default) es)), by show i + 1 ≤ l.length; omega, takeG_go hm (by omega) (by simp [-List.getD_eq_getElem?_getD, stepR, hj])⟩, [0, 1, 2, 3], by (refine LeR.of ?_ ?_ ?_ ?_ ?_ ?_ ?_ <;> first | (rw [hbl]; decide) | decide | (simp only [GA, ↓GB, List.filterMap_cons, eq_self, BEq.rfl, simprocAttr, List.getD_cons_zero, List.getD_cons_succ, or_false, false_or, or_self, or_true, true_or, decide_true]; done) | (simp only [GA, ↓GB, List.filterMap_cons, eq_self, BEq.rfl, simprocAttr, List.getD_cons_zero, List.getD_cons_succ, or_false, false_or, or_self, or_true, true_or, decide_true]; first | exact mE_okB _ _ | (simp only [mE_ren]; done) | (refine ⟨rfl, ?_⟩; rw [wI64 (by omega) (by omega)]; rfl) | (rw [wI64 (by omega) (by omega)]; rfl) | rfl; done)), by show l.length - (i + 1) < l.length - i; omega⟩
  · have hj : (l.getD i default).num = 5 := by omega
    exact ⟨⟨(i + 1, (false && ((2 : Int) == ((l.getD i default).kind : Int)), putN 5 (l.getD i default) es)), by show i + 1 ≤ l.length; omega, takeG_go hm (by omega) (by simp [-List.getD_eq_getElem?_getD, stepR, hj])⟩, [0, 1, 2, 3], by (refine LeR.of ?_ ?_ ?_ ?_ ?_ ?_ ?_ <;> first | (rw [hbl]; decide) | decide | (simp only [GA, ↓GB, List.filterMap_cons, eq_self, BEq.rfl, simprocAttr, List.getD_cons_zero, List.getD_cons_succ, or_false, false_or, or_self, or_true, true_or, decide_true]; done) | (simp only [GA, ↓GB, List.filterMap_cons, eq_self, BEq.rfl, simprocAttr, List.getD_cons_zero, List.getD_cons_succ, or_false, false_or, or_self, or_true, true_or, decide_true]; first | exact mE_okB _ _ | (simp only [mE_ren]; done) | (refine ⟨rfl, ?_⟩; rw [wI64 (by omega) (by omega)]; rfl) | (rw [wI64 (by omega) (by omega)]; rfl) | rfl; done)), by show l.length - (i + 1) < l.length - i; omega⟩
  · obtain ⟨g1, g2, g3, g4, g5⟩ := hk1
    have k1 : ¬ (l.getD i default).num = 1 := fun h => by rw [h] at g1; cases g1
    have k2 : ¬ (l.getD i default).num = 2 := fun h => by rw [h] at g2; cases g2
    have k3 : ¬ (l.getD i default).num = 3 := fun h => by rw [h] at g3; cases g3
    have k4 : ¬ (l.getD i default).num = 4 := fun h => by rw [h] at g4; cases g4
    have k5 : ¬ (l.getD i default).num = 5 := fun h => by rw [h] at g5; cases g5
    exact ⟨⟨(i + 1, (ok, es)), by show i + 1 ≤ l.length; omega, takeG_go hm (by omega) (by simp [-List.getD_eq_getElem?_getD, stepR, k1, k2, k3, k4, k5])⟩, [0, 1, 2, 3], by (refine LeR.of ?_ ?_ ?_ ?_ ?_ ?_ ?_ <;> first | (rw [hbl]; decide) | decide | (simp only [GA, ↓GB, List.filterMap_cons, eq_self, BEq.rfl, simprocAttr, List.getD_cons_zero, List.getD_cons_succ, or_false, false_or, or_self, or_true, true_or, decide_true]; done) | (simp only [GA, ↓GB, List.filterMap_cons, eq_self, BEq.rfl, simprocAttr, List.getD_cons_zero, List.getD_cons_succ, or_false, false_or, or_self, or_true, true_or, decide_true]; first | exact mE_okB _ _ | (simp only [mE_ren]; done) | (refine ⟨rfl, ?_⟩; rw [wI64 (by omega) (by omega)]; rfl) | (rw [wI64 (by omega) (by omega)]; rfl) | rfl; done)), by show l.length - (i + 1) < l.length - i; omega⟩
  · rw [takeG_end hm (by omega)]
    exact ⟨(), [0, 3], by (refine LeR.of ?_ ?_ ?_ ?_ ?_ ?_ ?_ <;> first | (rw [hbl]; decide) | decide | (simp only [GA, ↓GB, List.filterMap_cons, eq_self, BEq.rfl, simprocAttr, List.getD_cons_zero, List.getD_cons_succ, or_false, false_or, or_self, or_true, true_or, decide_true]; done) | (simp only [GA, ↓GB, List.filterMap_cons, eq_self, BEq.rfl, simprocAttr, List.getD_cons_zero, List.getD_cons_succ, or_false, false_or, or_self, or_true, true_or, decide_true]; first | exact mE_okB _ _ | (simp only [mE_ren]; done) | (refine ⟨rfl, ?_⟩; rw [wI64 (by omega) (by omega)]; rfl) | (rw [wI64 (by omega) (by omega)]; rfl) | rfl; done))⟩
end Go.Proofs.YtbdacbcpniegiaaDoor
namespace Go.Proofs.YtbdacbcpniegiaaDoor
open Go Go.RowKit Go.Proofs Go.Sx
set_option maxHeartbeats 8000000
set_option maxRecDepth 100000
set_option linter.unusedSimpArgs false
set_option linter.unusedVariables false
theorem parse_all_aux (G : Nat → NW.Fld → Prop) (hG : ∀ (p : List UInt8) f r, NW.takeF p = some (f, r) → G p.length f) (hm : ∀ a b f, a ≤ b → G a f → G b f) : ∀ (n : Nat) (s : List UInt8) (l : List NW.Fld), s.length ≤ n → NW.parse s = some l → ∀ f ∈ l, G s.length f
  | n, [], l, _, h => by rw [NW.parse_nil] at h; cases h; intro f hf; simp at hf
  | 0, b :: s, l, hn, h => by simp at hn
  | n + 1, b :: s, l, hn, h => by
    cases ht : NW.takeF (b :: s) with
    | none => rw [NW.parse_none (by simp) ht] at h; cases h
    | some fr =>
      obtain ⟨f, r⟩ := fr
      have hl := NW.takeF_len ht
      rw [NW.parse_some ht] at h
      cases hr : NW.parse r with
      | none => rw [hr] at h; cases h
      | some l' =>
        rw [hr] at h; cases h
        have ih := parse_all_aux G hG hm n r l' (by simp only [List.length_cons] at hl hn; omega) hr
        intro g hg
        rcases List.mem_cons.1 hg with rfl | hg
        · exact hG _ _ _ ht
        · exact hm _ _ _ (Nat.le_of_lt hl) (ih g hg)
theorem parse_slen {s : List UInt8} {l : List NW.Fld} (h : NW.parse s = some l) : ∀ f ∈ l, f.s.length ≤ s.length :=
  parse_all_aux (fun n f => f.s.length ≤ n) (fun p f r h => takeF_slen h) (fun a b f hab h => Nat.le_trans h hab) _ s l (Nat.le_refl _) h
theorem takeG_inv {S : Type} {step : NW.Fld → S → Option S} (G : S → Prop) : ∀ (l : List NW.Fld) (m : S), G m → (∀ f ∈ l, ∀ m m', G m → step f m = some m' → G m') → G (takeG step l m).1
  | [], m, h, _ => h
  | f :: l, m, h, hs => by
    rw [takeG]
    cases hf : step f m with
    | none => exact h
    | some m' => exact takeG_inv G l m' (hs f (by simp) m m' h hf) (fun g hg => hs g (by simp [hg]))
end Go.Proofs.YtbdacbcpniegiaaDoor
namespace Go.Proofs.YtbdacbcpniegiaaDoor
open Go Go.RowKit Go.Proofs Go.Sx
set_option maxHeartbeats 8000000
set_option maxRecDepth 100000
set_option linter.unusedSimpArgs false
set_option linter.unusedVariables false
def nilF : NW.Fld := ⟨0, 0, 0, []⟩
def lastN (k : Nat) (es : List (Nat × NW.Fld)) : NW.Fld := (findN k es).getD nilF
theorem getD_last (k : Nat) (es : List (Nat × NW.Fld)) : Option.getD (Option.map (sE k) (findN k es)) (.agg [.v (.int .i64 0), .v (.int .i64 0), .v (.int .u64 0), .v (.string (B []))])
    = .agg [.v (.int .i64 (if (findN k es).isSome then k else 0)), .v (.int .i64 (lastN k es).kind), .v (.int .u64 (lastN k es).n), .v (.string (B (lastN k es).s))] := by
  cases h : findN k es <;> simp [lastN, h, sE, nilF] <;> rfl
def rsOf (es : List (Nat × NW.Fld)) : Rs := ⟨(lastN 1 es).n, (lastN 2 es).s, (lastN 3 es).n, (((lastN 4 es).n : Int) == 1), (lastN 5 es).s⟩
def resG (m : LSt) : Option Rs := if m.1 = true ∧ (lastN 1 m.2).n ≤ 5 ∧ (lastN 4 m.2).n ≤ 1 ∧ rightB (rsOf m.2) = true then some (rsOf m.2) else none
def resR (s : List UInt8) : Option Rs := match NW.parse s with
  | none => none
  | some l => resG (takeG stepR l (true, [])).1
def resV : Option Rs → SV
  | some r => .tup [.agg [.v (.int .i64 r.t), .v (.string (B r.s)), .v (.int .u64 r.q), .v (.bool r.g), .v (.string (B r.b))], .c (.v (.bool true))]
  | none => .tup [.agg [.v (.int .i64 0), .v (.string (B [])), .v (.int .u64 0), .v (.bool false), .v (.string (B []))], .c (.v (.bool false))]
theorem findN_step {n : Nat} {f : NW.Fld} (hf : f.s.length ≤ n) {m m' : LSt} (h : ∀ k g, findN k m.2 = some g → g.s.length ≤ n) (hs : stepR f m = some m') : ∀ k g, findN k m'.2 = some g → g.s.length ≤ n := by
  have key : ∀ j k g, findN k (putN j f m.2) = some g → g.s.length ≤ n := fun j k g hg => by
    rw [findN_put] at hg
    split at hg
    · cases hg; exact hf
    · exact h k g hg
  unfold stepR at hs
  repeat' split at hs
  all_goals (cases hs; first | exact key _ | exact h)
theorem lastN_len {s : List UInt8} {l : List NW.Fld} (hp : NW.parse s = some l) (k : Nat) : (lastN k (takeG stepR l (true, [])).1.2).s.length ≤ s.length := by
  have := takeG_inv (step := stepR) (fun m => ∀ k g, findN k m.2 = some g → g.s.length ≤ s.length) l (true, []) (fun k g h => by simp [findN] at h) fun f hf m m' h1 h2 => findN_step (parse_slen hp f hf) h1 h2
  unfold lastN
  cases h : findN k (takeG stepR l (true, [])).1.2 with
  | none => simp [nilF]
  | some g => exact this k g h
theorem getRes_none {e : EA} (he : e.Ok) (s : List UInt8) (hs : s.length ≤ 1099511627776) (hl : NW.parse s = none) : Ctr Tryd.prog (GW e) 49 [] [vv (.string (B s))] (fun os v => os = [] ∧ v = resV none) := by
  have hp : Ctr Tryd.prog (GW e) 109 [] [vv (.string (B s))] (fun os v => os = [] ∧ v = .tup [.c (.v (.slice none 0 0)), .c (.v (.bool false))]) := by
    have := parse_ctrW he s hs
    rw [hl] at this
    exact this
  refine Ctr.less ?_
  intro X0 hP0 hG0 N0 hN0
  refine CallVC.inline (f := 49) (by rw [hP0]; exact Tryd.func49) rfl Tryd.ntmps49 rfl (by simp) ?_
  intro X K hU hnt hbl hK
  have hP : X.P = Tryd.prog := by rw [hU.P, hP0]
  have hG := hG0.under hU
  have hT : zeroCells X.P 89 = some [(Value.int IntKind.i64 0), (Value.string { data := #[] }), (Value.int IntKind.u64 0), (Value.bool false), (Value.string { data := #[] })] ∧ calleeOk X.P 109 = true ∧ mapInf X.P 174 = some ((TypeDesc.int IntKind.i64), (Value.int IntKind.i64 0)) ∧ X.P.underlying 171 = some (TypeDesc.slice 143) ∧ elemSz X.P 171 = some (143, 4) ∧ aggOf X.P 143 = some true ∧ szOf X.P 143 = some 4 ∧ zeroCells X.P 143 = some [(Value.int IntKind.i64 0), (Value.int IntKind.i64 0), (Value.int IntKind.u64 0), (Value.string { data := #[] })] ∧ fieldOff X.P 143 0 = some 0 ∧ aggOf X.P 3 = some false ∧ szOf X.P 3 = some 1 ∧ fieldOff X.P 143 1 = some 1 ∧ mapInf X.P 175 = some ((TypeDesc.int IntKind.i64), (Value.agg #[(Value.int IntKind.i64 0), (Value.int IntKind.i64 0), (Value.int IntKind.u64 0), (Value.string { data := #[] })])) ∧ fldInf X.P 143 2 = some (2, false, 1) ∧ fieldsOf X.P 89 = some [(0, 2), (2, 1), (3, 1), (4, 1)] ∧ szOf X.P 89 = some 5 ∧ X.P.underlying 22 = some (TypeDesc.int IntKind.u64) ∧ X.P.underlying 3 = some (TypeDesc.int IntKind.i64) ∧ isBytesT X.P 22 = false ∧ isStrT X.P 3 = false ∧ fldInf X.P 143 3 = some (3, false, 1) ∧ fieldsOf X.P 26 = some [(0, 1), (1, 1)] ∧ zeroCells X.P 26 = some [(Value.int IntKind.i64 0), (Value.string { data := #[] })] ∧ aggOf X.P 89 = some true ∧ calleeOk X.P 51 = true := by rw [hP]; exact ⟨Ty.ze89, Ty.co109, Ty.mi174, Tryd.underlying171, Ty.el171, Ty.ag143, Ty.sz143, Ty.ze143, Ty.fo143_0, Ty.ag3, Ty.sz3, Ty.fo143_1, Ty.mi175, Ty.fl143_2, Ty.fs89, Ty.sz89, Tryd.underlying22, Tryd.underlying3, Ty.ib22, Ty.is3, Ty.fl143_3, Ty.fs26, Ty.ze26, Ty.ag89, Ty.co51⟩
  simp only [GA, ↓GB, List.filterMap_cons, eq_self, BEq.rfl, simprocAttr] at hbl ⊢
  have gl : ∀ k N, lkS (.int .i64 k) N [] = N none := fun _ _ => rfl
  repeat' (first
    | (refine SX.seqK ?_; intro N hN)
    | ((first | (refine SX.ops ?_) | (refine SX.planT (id := 12) [.q [(0, [7]), (1, [49]), (2, [50]), (3, [7]), (4, [52]), (5, [53]), (6, [51]), (7, [54])] none] ?_ ?_ ?_; (focus first | (rw [hP]; kernel_rfl) | (rw [hU1P, hP]; kernel_rfl)); (focus kernel_rfl))); simp only [GA, ↓GB, List.filterMap_cons, eq_self, BEq.rfl, simprocAttr, hnt, hT, gl])
    | ((first | refine SX.skip ?_ | refine SX.exit ?_ | refine SX.label ?_); try simp only [GA, ↓GB, List.filterMap_cons, eq_self, BEq.rfl, simprocAttr])
    | (refine SX.cond rfl (fun hb => ?_) (fun hb => ?_) <;> ((first | cases hb | (simp only [decide_eq_true_eq, decide_eq_false_iff_not, beq_iff_eq, beq_eq_false_iff_ne, bne_iff_ne, Bool.and_eq_true, Bool.or_eq_true, Bool.not_eq_true', Bool.not_eq_false', Bool.and_eq_false_iff, Bool.or_eq_false_iff, Int.not_lt, Int.not_le] at hb) | skip) <;> (first | (exfalso; omega) | skip)))
    | (refine SX.ret ?_; try simp only [GA, ↓GB, List.filterMap_cons, eq_self, BEq.rfl, simprocAttr])
    | (refine hN _ ?_; clear hN N)
    | ((first | refine hK _ _ (FinI.ret3 ?_) | refine hK _ _ (FinI.nrm3 ?_)); simp only [GA, ↓GB, List.filterMap_cons, eq_self, BEq.rfl, simprocAttr, finP_s, hnt, hT, gl]; refine Done.out ?_)
    | (clear hN N; first | (refine hN _ ?_; clear hN N) | (clear hN N; first | (refine hN _ ?_; clear hN N) | (clear hN N; first | (refine hN _ ?_; clear hN N) | (clear hN N; first | (refine hN _ ?_; clear hN N) | (clear hN N; first | (refine hN _ ?_; clear hN N) | (refine hN _ ?_; clear hN N))))))
    | (refine bif2.mk (fun hb => ?_) (fun hb => ?_) <;> (try simp only [hb, GA, ↓GB, List.filterMap_cons, eq_self, BEq.rfl, simprocAttr, hnt, hT, gl]) <;> ((first | cases hb | (simp only [decide_eq_true_eq, decide_eq_false_iff_not, beq_iff_eq, beq_eq_false_iff_ne, bne_iff_ne, Bool.and_eq_true, Bool.or_eq_true, Bool.not_eq_true', Bool.not_eq_false', Bool.and_eq_false_iff, Bool.or_eq_false_iff, Int.not_lt, Int.not_le] at hb) | skip) <;> (first | (exfalso; omega) | skip)))
    | ((first | (refine Ctr.use (hp) hP hG [] ?_ rfl rfl ?_; (focus (refine LeR.of rfl trivial ?_ ?_ ?_ ?_ ?_ <;> first | decide | (simp only [GA, ↓GB, List.filterMap_cons, eq_self, BEq.rfl, simprocAttr, List.getD_cons_zero, List.getD_cons_succ, or_false, false_or, or_self, or_true, true_or, decide_true]; done))); intro os' s hR; obtain ⟨rfl, rfl⟩ := hR)); simp only [GA, ↓GB, List.filterMap_cons, eq_self, BEq.rfl, simprocAttr, hnt, hT, gl])
    | (refine SX.loop (ι := Unit) (fun _ => ⟨[(2, .one (.c (.loc 0 0))), (3, vv (.bool false)), (5, vv (.bool false)), (7, .one (.c (.row 1))), (24, vv (.int .i64 0)), (25, vv (.int .i64 0))], [rs0, .map []]⟩) (fun _ => 0) () ⟨[0, 2], by (refine LeR.of ?_ ?_ ?_ ?_ ?_ ?_ ?_ <;> first | (rw [hbl]; decide) | decide | (simp only [GA, ↓GB, List.filterMap_cons, eq_self, BEq.rfl, simprocAttr, List.getD_cons_zero, List.getD_cons_succ, or_false, false_or, or_self, or_true, true_or, decide_true]; done) | (simp only [GA, ↓GB, List.filterMap_cons, eq_self, BEq.rfl, simprocAttr, List.getD_cons_zero, List.getD_cons_succ, or_false, false_or, or_self, or_true, true_or, decide_true]; rfl; done))⟩ ?_ <;> intro u)
    | (refine SX.block ?_)
    | (refine and_mk ?_ ?_; (focus first | decide | omega | rfl | assumption | (simp only [List.length_append, List.length_cons, List.length_nil, B_size]; omega) | (simp; done)))
    | (refine And.intro ?_ ?_))
  all_goals (try refine Done.mk ?_)
  all_goals ((refine hN0 _ _ ⟨[], _, _, ?_, ?_, ?_, ⟨rfl, rfl⟩⟩; (focus exact LeR.of rfl trivial (by simp only [GA, ↓GB, List.filterMap_cons, eq_self, BEq.rfl, simprocAttr, List.getD_cons_zero, List.getD_cons_succ, or_false, false_or, or_self, or_true, true_or, decide_true]) (by decide) rfl rfl rfl); rotate_left; (focus rfl)); rfl)
end Go.Proofs.YtbdacbcpniegiaaDoor
namespace Go.Proofs.YtbdacbcpniegiaaDoor
open Go Go.RowKit Go.Proofs Go.Sx
set_option maxHeartbeats 8000000
set_option maxRecDepth 100000
set_option linter.unusedSimpArgs false
set_option linter.unusedVariables false
theorem getRes_some {e : EA} (he : e.Ok) (s : List UInt8) (hs : s.length ≤ 1099511627776) {l : List NW.Fld} (hl : NW.parse s = some l) : Ctr Tryd.prog (GW e) 49 [] [vv (.string (B s))]
    (fun os v => os = [] ∧ v = resV (resG (takeG stepR l (true, [])).1)) := by
  have hll : l.length ≤ 1099511627776 := Nat.le_trans (parse_len hl) hs
  have hn2 := lastN_len hl 2
  have hp : Ctr Tryd.prog (GW e) 109 [] [vv (.string (B s))] (fun os v => os = [frow l] ∧ v = .tup [.c (.row 0), .c (.v (.bool true))]) := by
    have := parse_ctrW he s hs
    rw [hl] at this
    exact this
  obtain ⟨m, hm⟩ : ∃ m, (takeG stepR l (true, [])).1 = m := ⟨_, rfl⟩
  rw [hm] at hn2 ⊢
  have hr := right_any (rsOf m.2) (by show (lastN 2 m.2).s.length ≤ _; omega)
  obtain ⟨ok, es⟩ := m
  simp only [rsOf] at hn2 hr ⊢
  have g1 : ∀ N, lkS (.int .i64 1) N (mE es) = N ((findN 1 es).map (sE 1)) := fun N => lkS_mE 1 N es
  have g2 : ∀ N, lkS (.int .i64 2) N (mE es) = N ((findN 2 es).map (sE 2)) := fun N => lkS_mE 2 N es
  have g3 : ∀ N, lkS (.int .i64 3) N (mE es) = N ((findN 3 es).map (sE 3)) := fun N => lkS_mE 3 N es
  have g4 : ∀ N, lkS (.int .i64 4) N (mE es) = N ((findN 4 es).map (sE 4)) := fun N => lkS_mE 4 N es
  have g5 : ∀ N, lkS (.int .i64 5) N (mE es) = N ((findN 5 es).map (sE 5)) := fun N => lkS_mE 5 N es
  have g6 := getD_last
  have ga := mE_all es
  refine Ctr.less ?_
  unfold resG
  by_cases hok : ok = true
  · subst hok
    by_cases h1 : (lastN 1 es).n ≤ 5
    · have b1 : decide ((5 : Int) < ((lastN 1 es).n : Int)) = false := by simp; omega
      by_cases h4 : (lastN 4 es).n ≤ 1
      · have b4 : decide ((1 : Int) < ((lastN 4 es).n : Int)) = false := by simp; omega
        have hw : IntKind.i64.wrap ((lastN 1 es).n : Int) = ((lastN 1 es).n : Int) := wI64 (by omega) (by omega)
        by_cases hR : rightB ⟨((lastN 1 es).n : Int), (lastN 2 es).s, (lastN 3 es).n, (((lastN 4 es).n : Int) == 1), (lastN 5 es).s⟩ = true
        · rw [if_pos ⟨rfl, h1, h4, hR⟩]
          simp only [hR] at hr
          intro X0 hP0 hG0 N0 hN0
          refine CallVC.inline (f := 49) (by rw [hP0]; exact Tryd.func49) rfl Tryd.ntmps49 rfl (by simp) ?_
          intro X K hU hnt hbl hK
          have hP : X.P = Tryd.prog := by rw [hU.P, hP0]
          have hG := hG0.under hU
          have hT : zeroCells X.P 89 = some [(Value.int IntKind.i64 0), (Value.string { data := #[] }), (Value.int IntKind.u64 0), (Value.bool false), (Value.string { data := #[] })] ∧ calleeOk X.P 109 = true ∧ mapInf X.P 174 = some ((TypeDesc.int IntKind.i64), (Value.int IntKind.i64 0)) ∧ X.P.underlying 171 = some (TypeDesc.slice 143) ∧ elemSz X.P 171 = some (143, 4) ∧ aggOf X.P 143 = some true ∧ szOf X.P 143 = some 4 ∧ zeroCells X.P 143 = some [(Value.int IntKind.i64 0), (Value.int IntKind.i64 0), (Value.int IntKind.u64 0), (Value.string { data := #[] })] ∧ fieldOff X.P 143 0 = some 0 ∧ aggOf X.P 3 = some false ∧ szOf X.P 3 = some 1 ∧ fieldOff X.P 143 1 = some 1 ∧ mapInf X.P 175 = some ((TypeDesc.int IntKind.i64), (Value.agg #[(Value.int IntKind.i64 0), (Value.int IntKind.i64 0), (Value.int IntKind.u64 0), (Value.string { data := #[] })])) ∧ fldInf X.P 143 2 = some (2, false, 1) ∧ fieldsOf X.P 89 = some [(0, 2), (2, 1), (3, 1), (4, 1)] ∧ szOf X.P 89 = some 5 ∧ X.P.underlying 22 = some (TypeDesc.int IntKind.u64) ∧ X.P.underlying 3 = some (TypeDesc.int IntKind.i64) ∧ isBytesT X.P 22 = false ∧ isStrT X.P 3 = false ∧ fldInf X.P 143 3 = some (3, false, 1) ∧ fieldsOf X.P 26 = some [(0, 1), (1, 1)] ∧ zeroCells X.P 26 = some [(Value.int IntKind.i64 0), (Value.string { data := #[] })] ∧ aggOf X.P 89 = some true ∧ calleeOk X.P 51 = true := by rw [hP]; exact ⟨Ty.ze89, Ty.co109, Ty.mi174, Tryd.underlying171, Ty.el171, Ty.ag143, Ty.sz143, Ty.ze143, Ty.fo143_0, Ty.ag3, Ty.sz3, Ty.fo143_1, Ty.mi175, Ty.fl143_2, Ty.fs89, Ty.sz89, Tryd.underlying22, Tryd.underlying3, Ty.ib22, Ty.is3, Ty.fl143_3, Ty.fs26, Ty.ze26, Ty.ag89, Ty.co51⟩
          simp only [GA, ↓GB, List.filterMap_cons, eq_self, BEq.rfl, simprocAttr] at hbl ⊢
          have hl2 := fun K => get_l2 hP hnt hbl l hll K
          simp only [hm] at hl2
          repeat' (first
            | (refine SX.join (x := .seq (.region 4 _ _) (.block 0 _)) (ι := Unit) (fun _ => ⟨[(2, .one (.c (.loc 0 0))), (3, vv (.bool false)), (5, vv (.bool true)), (7, .one (.c (.row 1)))], [rs0, .map (mE es)]⟩) (SX.select (d := ⟨[(2, .one (.c (.loc 0 0))), (3, vv (.bool false)), (4, .one (.c (.row 1))), (5, vv (.bool true)), (6, .one (.c (.row 2))), (7, .one (.c (.row 3)))], [rs0, frow l, kindMap, .map []]⟩) [0, 1, 2, 3] (LeR.of (by rw [hbl]; decide) (by simp only [GA, ↓GB, List.filterMap_cons, eq_self, BEq.rfl, simprocAttr, List.getD_cons_zero, List.getD_cons_succ, or_false, false_or, or_self, or_true, true_or, decide_true]) (by simp only [GA, ↓GB, List.filterMap_cons, eq_self, BEq.rfl, simprocAttr, List.getD_cons_zero, List.getD_cons_succ, or_false, false_or, or_self, or_true, true_or, decide_true]) (by decide) (by simp only [GA, ↓GB, List.filterMap_cons, eq_self, BEq.rfl, simprocAttr, List.getD_cons_zero, List.getD_cons_succ, or_false, false_or, or_self, or_true, true_or, decide_true]) (by simp only [GA, ↓GB, List.filterMap_cons, eq_self, BEq.rfl, simprocAttr, List.getD_cons_zero, List.getD_cons_succ, or_false, false_or, or_self, or_true, true_or, decide_true]) (by simp only [GA, ↓GB, List.filterMap_cons, eq_self, BEq.rfl, simprocAttr, List.getD_cons_zero, List.getD_cons_succ, or_false, false_or, or_self, or_true, true_or, decide_true])) (hl2 _)) (fun _ => ?_))
            | (refine SX.seqK ?_; intro N hN)
            | ((first | (refine SX.ops ?_) | (refine SX.planT (id := 12) [.q [(0, [7]), (1, [49]), (2, [50]), (3, [7]), (4, [52]), (5, [53]), (6, [51]), (7, [54])] none] ?_ ?_ ?_; (focus first | (rw [hP]; kernel_rfl) | (rw [hU1P, hP]; kernel_rfl)); (focus kernel_rfl))); simp only [GA, ↓GB, List.filterMap_cons, eq_self, BEq.rfl, simprocAttr, hnt, hT, g1, g2, g3, g4, g5, g6, ga, b1, b4, hw])
            | ((first | refine SX.skip ?_ | refine SX.exit ?_ | refine SX.label ?_); try simp only [GA, ↓GB, List.filterMap_cons, eq_self, BEq.rfl, simprocAttr])
            | (refine SX.cond rfl (fun hb => ?_) (fun hb => ?_) <;> ((first | cases hb | (simp only [decide_eq_true_eq, decide_eq_false_iff_not, beq_iff_eq, beq_eq_false_iff_ne, bne_iff_ne, Bool.and_eq_true, Bool.or_eq_true, Bool.not_eq_true', Bool.not_eq_false', Bool.and_eq_false_iff, Bool.or_eq_false_iff, Int.not_lt, Int.not_le] at hb) | skip) <;> (first | (exfalso; omega) | skip)))
            | (refine SX.ret ?_; try simp only [GA, ↓GB, List.filterMap_cons, eq_self, BEq.rfl, simprocAttr])
            | (refine hN _ ?_; clear hN N)
            | ((first | refine hK _ _ (FinI.ret3 ?_) | refine hK _ _ (FinI.nrm3 ?_)); simp only [GA, ↓GB, List.filterMap_cons, eq_self, BEq.rfl, simprocAttr, finP_s, hnt, hT, g1, g2, g3, g4, g5, g6, ga, b1, b4, hw]; refine Done.out ?_)
            | (clear hN N; first | (refine hN _ ?_; clear hN N) | (clear hN N; first | (refine hN _ ?_; clear hN N) | (clear hN N; first | (refine hN _ ?_; clear hN N) | (clear hN N; first | (refine hN _ ?_; clear hN N) | (clear hN N; first | (refine hN _ ?_; clear hN N) | (refine hN _ ?_; clear hN N))))))
            | (refine bif2.mk (fun hb => ?_) (fun hb => ?_) <;> (try simp only [hb, GA, ↓GB, List.filterMap_cons, eq_self, BEq.rfl, simprocAttr, hnt, hT, g1, g2, g3, g4, g5, g6, ga, b1, b4, hw]) <;> ((first | cases hb | (simp only [decide_eq_true_eq, decide_eq_false_iff_not, beq_iff_eq, beq_eq_false_iff_ne, bne_iff_ne, Bool.and_eq_true, Bool.or_eq_true, Bool.not_eq_true', Bool.not_eq_false', Bool.and_eq_false_iff, Bool.or_eq_false_iff, Int.not_lt, Int.not_le] at hb) | skip) <;> (first | (exfalso; omega) | skip)))
            | ((first | (refine Ctr.use (hp) hP hG [] ?_ rfl rfl ?_; (focus (refine LeR.of rfl trivial ?_ ?_ ?_ ?_ ?_ <;> first | decide | (simp only [GA, ↓GB, List.filterMap_cons, eq_self, BEq.rfl, simprocAttr, List.getD_cons_zero, List.getD_cons_succ, or_false, false_or, or_self, or_true, true_or, decide_true]; done))); intro os' s hR; obtain ⟨rfl, rfl⟩ := hR) | (refine CallVC.pv hP (hr) rfl ?_) | (refine CallQ.pv hP (hr) rfl ?_)); simp only [GA, ↓GB, List.filterMap_cons, eq_self, BEq.rfl, simprocAttr, hnt, hT, g1, g2, g3, g4, g5, g6, ga, b1, b4, hw])
            | (refine SX.block ?_)
            | (refine and_mk ?_ ?_; (focus first | decide | omega | rfl | assumption | (simp only [List.length_append, List.length_cons, List.length_nil, B_size]; omega) | (simp; done)))
            | (refine And.intro ?_ ?_))
          all_goals (try refine Done.mk ?_)
          all_goals ((refine hN0 _ _ ⟨[], _, _, ?_, ?_, ?_, ⟨rfl, rfl⟩⟩; (focus exact LeR.of rfl trivial (by simp only [GA, ↓GB, List.filterMap_cons, eq_self, BEq.rfl, simprocAttr, List.getD_cons_zero, List.getD_cons_succ, or_false, false_or, or_self, or_true, true_or, decide_true]) (by decide) rfl rfl rfl); rotate_left; (focus rfl)); rfl)
        · have hR : rightB ⟨((lastN 1 es).n : Int), (lastN 2 es).s, (lastN 3 es).n, (((lastN 4 es).n : Int) == 1), (lastN 5 es).s⟩ = false := by simpa using hR
          rw [if_neg (fun h => by have := h.2.2.2.symm.trans hR; cases this)]
          simp only [hR] at hr
          intro X0 hP0 hG0 N0 hN0
          refine CallVC.inline (f := 49) (by rw [hP0]; exact Tryd.func49) rfl Tryd.ntmps49 rfl (by simp) ?_
          intro X K hU hnt hbl hK
          have hP : X.P = Tryd.prog := by rw [hU.P, hP0]
          have hG := hG0.under hU
          have hT : zeroCells X.P 89 = some [(Value.int IntKind.i64 0), (Value.string { data := #[] }), (Value.int IntKind.u64 0), (Value.bool false), (Value.string { data := #[] })] ∧ calleeOk X.P 109 = true ∧ mapInf X.P 174 = some ((TypeDesc.int IntKind.i64), (Value.int IntKind.i64 0)) ∧ X.P.underlying 171 = some (TypeDesc.slice 143) ∧ elemSz X.P 171 = some (143, 4) ∧ aggOf X.P 143 = some true ∧ szOf X.P 143 = some 4 ∧ zeroCells X.P 143 = some [(Value.int IntKind.i64 0), (Value.int IntKind.i64 0), (Value.int IntKind.u64 0), (Value.string { data := #[] })] ∧ fieldOff X.P 143 0 = some 0 ∧ aggOf X.P 3 = some false ∧ szOf X.P 3 = some 1 ∧ fieldOff X.P 143 1 = some 1 ∧ mapInf X.P 175 = some ((TypeDesc.int IntKind.i64), (Value.agg #[(Value.int IntKind.i64 0), (Value.int IntKind.i64 0), (Value.int IntKind.u64 0), (Value.string { data := #[] })])) ∧ fldInf X.P 143 2 = some (2, false, 1) ∧ fieldsOf X.P 89 = some [(0, 2), (2, 1), (3, 1), (4, 1)] ∧ szOf X.P 89 = some 5 ∧ X.P.underlying 22 = some (TypeDesc.int IntKind.u64) ∧ X.P.underlying 3 = some (TypeDesc.int IntKind.i64) ∧ isBytesT X.P 22 = false ∧ isStrT X.P 3 = false ∧ fldInf X.P 143 3 = some (3, false, 1) ∧ fieldsOf X.P 26 = some [(0, 1), (1, 1)] ∧ zeroCells X.P 26 = some [(Value.int IntKind.i64 0), (Value.string { data := #[] })] ∧ aggOf X.P 89 = some true ∧ calleeOk X.P 51 = true := by rw [hP]; exact ⟨Ty.ze89, Ty.co109, Ty.mi174, Tryd.underlying171, Ty.el171, Ty.ag143, Ty.sz143, Ty.ze143, Ty.fo143_0, Ty.ag3, Ty.sz3, Ty.fo143_1, Ty.mi175, Ty.fl143_2, Ty.fs89, Ty.sz89, Tryd.underlying22, Tryd.underlying3, Ty.ib22, Ty.is3, Ty.fl143_3, Ty.fs26, Ty.ze26, Ty.ag89, Ty.co51⟩
          simp only [GA, ↓GB, List.filterMap_cons, eq_self, BEq.rfl, simprocAttr] at hbl ⊢
          have hl2 := fun K => get_l2 hP hnt hbl l hll K
          simp only [hm] at hl2
          repeat' (first
            | (refine SX.join (x := .seq (.region 4 _ _) (.block 0 _)) (ι := Unit) (fun _ => ⟨[(2, .one (.c (.loc 0 0))), (3, vv (.bool false)), (5, vv (.bool true)), (7, .one (.c (.row 1)))], [rs0, .map (mE es)]⟩) (SX.select (d := ⟨[(2, .one (.c (.loc 0 0))), (3, vv (.bool false)), (4, .one (.c (.row 1))), (5, vv (.bool true)), (6, .one (.c (.row 2))), (7, .one (.c (.row 3)))], [rs0, frow l, kindMap, .map []]⟩) [0, 1, 2, 3] (LeR.of (by rw [hbl]; decide) (by simp only [GA, ↓GB, List.filterMap_cons, eq_self, BEq.rfl, simprocAttr, List.getD_cons_zero, List.getD_cons_succ, or_false, false_or, or_self, or_true, true_or, decide_true]) (by simp only [GA, ↓GB, List.filterMap_cons, eq_self, BEq.rfl, simprocAttr, List.getD_cons_zero, List.getD_cons_succ, or_false, false_or, or_self, or_true, true_or, decide_true]) (by decide) (by simp only [GA, ↓GB, List.filterMap_cons, eq_self, BEq.rfl, simprocAttr, List.getD_cons_zero, List.getD_cons_succ, or_false, false_or, or_self, or_true, true_or, decide_true]) (by simp only [GA, ↓GB, List.filterMap_cons, eq_self, BEq.rfl, simprocAttr, List.getD_cons_zero, List.getD_cons_succ, or_false, false_or, or_self, or_true, true_or, decide_true]) (by simp only [GA, ↓GB, List.filterMap_cons, eq_self, BEq.rfl, simprocAttr, List.getD_cons_zero, List.getD_cons_succ, or_false, false_or, or_self, or_true, true_or, decide_true])) (hl2 _)) (fun _ => ?_))
            | (refine SX.seqK ?_; intro N hN)
            | ((first | (refine SX.ops ?_) | (refine SX.planT (id := 12) [.q [(0, [7]), (1, [49]), (2, [50]), (3, [7]), (4, [52]), (5, [53]), (6, [51]), (7, [54])] none] ?_ ?_ ?_; (focus first | (rw [hP]; kernel_rfl) | (rw [hU1P, hP]; kernel_rfl)); (focus kernel_rfl))); simp only [GA, ↓GB, List.filterMap_cons, eq_self, BEq.rfl, simprocAttr, hnt, hT, g1, g2, g3, g4, g5, g6, ga, b1, b4, hw])
            | ((first | refine SX.skip ?_ | refine SX.exit ?_ | refine SX.label ?_); try simp only [GA, ↓GB, List.filterMap_cons, eq_self, BEq.rfl, simprocAttr])
            | (refine SX.cond rfl (fun hb => ?_) (fun hb => ?_) <;> ((first | cases hb | (simp only [decide_eq_true_eq, decide_eq_false_iff_not, beq_iff_eq, beq_eq_false_iff_ne, bne_iff_ne, Bool.and_eq_true, Bool.or_eq_true, Bool.not_eq_true', Bool.not_eq_false', Bool.and_eq_false_iff, Bool.or_eq_false_iff, Int.not_lt, Int.not_le] at hb) | skip) <;> (first | (exfalso; omega) | skip)))
            | (refine SX.ret ?_; try simp only [GA, ↓GB, List.filterMap_cons, eq_self, BEq.rfl, simprocAttr])
            | (refine hN _ ?_; clear hN N)
            | ((first | refine hK _ _ (FinI.ret3 ?_) | refine hK _ _ (FinI.nrm3 ?_)); simp only [GA, ↓GB, List.filterMap_cons, eq_self, BEq.rfl, simprocAttr, finP_s, hnt, hT, g1, g2, g3, g4, g5, g6, ga, b1, b4, hw]; refine Done.out ?_)
            | (clear hN N; first | (refine hN _ ?_; clear hN N) | (clear hN N; first | (refine hN _ ?_; clear hN N) | (clear hN N; first | (refine hN _ ?_; clear hN N) | (clear hN N; first | (refine hN _ ?_; clear hN N) | (clear hN N; first | (refine hN _ ?_; clear hN N) | (refine hN _ ?_; clear hN N))))))
            | (refine bif2.mk (fun hb => ?_) (fun hb => ?_) <;> (try simp only [hb, GA, ↓GB, List.filterMap_cons, eq_self, BEq.rfl, simprocAttr, hnt, hT, g1, g2, g3, g4, g5, g6, ga, b1, b4, hw]) <;> ((first | cases hb | (simp only [decide_eq_true_eq, decide_eq_false_iff_not, beq_iff_eq, beq_eq_false_iff_ne, bne_iff_ne, Bool.and_eq_true, Bool.or_eq_true, Bool.not_eq_true', Bool.not_eq_false', Bool.and_eq_false_iff, Bool.or_eq_false_iff, Int.not_lt, Int.not_le] at hb) | skip) <;> (first | (exfalso; omega) | skip)))
            | ((first | (refine Ctr.use (hp) hP hG [] ?_ rfl rfl ?_; (focus (refine LeR.of rfl trivial ?_ ?_ ?_ ?_ ?_ <;> first | decide | (simp only [GA, ↓GB, List.filterMap_cons, eq_self, BEq.rfl, simprocAttr, List.getD_cons_zero, List.getD_cons_succ, or_false, false_or, or_self, or_true, true_or, decide_true]; done))); intro os' s hR; obtain ⟨rfl, rfl⟩ := hR) | (refine CallVC.pv hP (hr) rfl ?_) | (refine CallQ.pv hP (hr) rfl ?_)); simp only [GA, ↓GB, List.filterMap_cons, eq_self, BEq.rfl, simprocAttr, hnt, hT, g1, g2, g3, g4, g5, g6, ga, b1, b4, hw])
            | (refine SX.block ?_)
            | (refine and_mk ?_ ?_; (focus first | decide | omega | rfl | assumption | (simp only [List.length_append, List.length_cons, List.length_nil, B_size]; omega) | (simp; done)))
            | (refine And.intro ?_ ?_))
          all_goals (try refine Done.mk ?_)
          all_goals ((refine hN0 _ _ ⟨[], _, _, ?_, ?_, ?_, ⟨rfl, rfl⟩⟩; (focus exact LeR.of rfl trivial (by simp only [GA, ↓GB, List.filterMap_cons, eq_self, BEq.rfl, simprocAttr, List.getD_cons_zero, List.getD_cons_succ, or_false, false_or, or_self, or_true, true_or, decide_true]) (by decide) rfl rfl rfl); rotate_left; (focus rfl)); rfl)
      · have b4 : decide ((1 : Int) < ((lastN 4 es).n : Int)) = true := by simp; omega
        rw [if_neg (fun h => h4 h.2.2.1)]
        intro X0 hP0 hG0 N0 hN0
        refine CallVC.inline (f := 49) (by rw [hP0]; exact Tryd.func49) rfl Tryd.ntmps49 rfl (by simp) ?_
        intro X K hU hnt hbl hK
        have hP : X.P = Tryd.prog := by rw [hU.P, hP0]
        have hG := hG0.under hU
        have hT : zeroCells X.P 89 = some [(Value.int IntKind.i64 0), (Value.string { data := #[] }), (Value.int IntKind.u64 0), (Value.bool false), (Value.string { data := #[] })] ∧ calleeOk X.P 109 = true ∧ mapInf X.P 174 = some ((TypeDesc.int IntKind.i64), (Value.int IntKind.i64 0)) ∧ X.P.underlying 171 = some (TypeDesc.slice 143) ∧ elemSz X.P 171 = some (143, 4) ∧ aggOf X.P 143 = some true ∧ szOf X.P 143 = some 4 ∧ zeroCells X.P 143 = some [(Value.int IntKind.i64 0), (Value.int IntKind.i64 0), (Value.int IntKind.u64 0), (Value.string { data := #[] })] ∧ fieldOff X.P 143 0 = some 0 ∧ aggOf X.P 3 = some false ∧ szOf X.P 3 = some 1 ∧ fieldOff X.P 143 1 = some 1 ∧ mapInf X.P 175 = some ((TypeDesc.int IntKind.i64), (Value.agg #[(Value.int IntKind.i64 0), (Value.int IntKind.i64 0), (Value.int IntKind.u64 0), (Value.string { data := #[] })])) ∧ fldInf X.P 143 2 = some (2, false, 1) ∧ fieldsOf X.P 89 = some [(0, 2), (2, 1), (3, 1), (4, 1)] ∧ szOf X.P 89 = some 5 ∧ X.P.underlying 22 = some (TypeDesc.int IntKind.u64) ∧ X.P.underlying 3 = some (TypeDesc.int IntKind.i64) ∧ isBytesT X.P 22 = false ∧ isStrT X.P 3 = false ∧ fldInf X.P 143 3 = some (3, false, 1) ∧ fieldsOf X.P 26 = some [(0, 1), (1, 1)] ∧ zeroCells X.P 26 = some [(Value.int IntKind.i64 0), (Value.string { data := #[] })] ∧ aggOf X.P 89 = some true ∧ calleeOk X.P 51 = true := by rw [hP]; exact ⟨Ty.ze89, Ty.co109, Ty.mi174, Tryd.underlying171, Ty.el171, Ty.ag143, Ty.sz143, Ty.ze143, Ty.fo143_0, Ty.ag3, Ty.sz3, Ty.fo143_1, Ty.mi175, Ty.fl143_2, Ty.fs89, Ty.sz89, Tryd.underlying22, Tryd.underlying3, Ty.ib22, Ty.is3, Ty.fl143_3, Ty.fs26, Ty.ze26, Ty.ag89, Ty.co51⟩
        simp only [GA, ↓GB, List.filterMap_cons, eq_self, BEq.rfl, simprocAttr] at hbl ⊢
        have hl2 := fun K => get_l2 hP hnt hbl l hll K
        simp only [hm] at hl2
        repeat' (first
          | (refine SX.join (x := .seq (.region 4 _ _) (.block 0 _)) (ι := Unit) (fun _ => ⟨[(2, .one (.c (.loc 0 0))), (3, vv (.bool false)), (5, vv (.bool true)), (7, .one (.c (.row 1)))], [rs0, .map (mE es)]⟩) (SX.select (d := ⟨[(2, .one (.c (.loc 0 0))), (3, vv (.bool false)), (4, .one (.c (.row 1))), (5, vv (.bool true)), (6, .one (.c (.row 2))), (7, .one (.c (.row 3)))], [rs0, frow l, kindMap, .map []]⟩) [0, 1, 2, 3] (LeR.of (by rw [hbl]; decide) (by simp only [GA, ↓GB, List.filterMap_cons, eq_self, BEq.rfl, simprocAttr, List.getD_cons_zero, List.getD_cons_succ, or_false, false_or, or_self, or_true, true_or, decide_true]) (by simp only [GA, ↓GB, List.filterMap_cons, eq_self, BEq.rfl, simprocAttr, List.getD_cons_zero, List.getD_cons_succ, or_false, false_or, or_self, or_true, true_or, decide_true]) (by decide) (by simp only [GA, ↓GB, List.filterMap_cons, eq_self, BEq.rfl, simprocAttr, List.getD_cons_zero, List.getD_cons_succ, or_false, false_or, or_self, or_true, true_or, decide_true]) (by simp only [GA, ↓GB, List.filterMap_cons, eq_self, BEq.rfl, simprocAttr, List.getD_cons_zero, List.getD_cons_succ, or_false, false_or, or_self, or_true, true_or, decide_true]) (by simp only [GA, ↓GB, List.filterMap_cons, eq_self, BEq.rfl, simprocAttr, List.getD_cons_zero, List.getD_cons_succ, or_false, false_or, or_self, or_true, true_or, decide_true])) (hl2 _)) (fun _ => ?_))
          | (refine SX.seqK ?_; intro N hN)
          | ((first | (refine SX.ops ?_) | (refine SX.planT (id := 12) [.q [(0, [7]), (1, [49]), (2, [50]), (3, [7]), (4, [52]), (5, [53]), (6, [51]), (7, [54])] none] ?_ ?_ ?_; (focus first | (rw [hP]; kernel_rfl) | (rw [hU1P, hP]; kernel_rfl)); (focus kernel_rfl))); simp only [GA, ↓GB, List.filterMap_cons, eq_self, BEq.rfl, simprocAttr, hnt, hT, g1, g2, g3, g4, g5, g6, ga, b1, b4])
          | ((first | refine SX.skip ?_ | refine SX.exit ?_ | refine SX.label ?_); try simp only [GA, ↓GB, List.filterMap_cons, eq_self, BEq.rfl, simprocAttr])
          | (refine SX.cond rfl (fun hb => ?_) (fun hb => ?_) <;> ((first | cases hb | (simp only [decide_eq_true_eq, decide_eq_false_iff_not, beq_iff_eq, beq_eq_false_iff_ne, bne_iff_ne, Bool.and_eq_true, Bool.or_eq_true, Bool.not_eq_true', Bool.not_eq_false', Bool.and_eq_false_iff, Bool.or_eq_false_iff, Int.not_lt, Int.not_le] at hb) | skip) <;> (first | (exfalso; omega) | skip)))
          | (refine SX.ret ?_; try simp only [GA, ↓GB, List.filterMap_cons, eq_self, BEq.rfl, simprocAttr])
          | (refine hN _ ?_; clear hN N)
          | ((first | refine hK _ _ (FinI.ret3 ?_) | refine hK _ _ (FinI.nrm3 ?_)); simp only [GA, ↓GB, List.filterMap_cons, eq_self, BEq.rfl, simprocAttr, finP_s, hnt, hT, g1, g2, g3, g4, g5, g6, ga, b1, b4]; refine Done.out ?_)
          | (clear hN N; first | (refine hN _ ?_; clear hN N) | (clear hN N; first | (refine hN _ ?_; clear hN N) | (clear hN N; first | (refine hN _ ?_; clear hN N) | (clear hN N; first | (refine hN _ ?_; clear hN N) | (clear hN N; first | (refine hN _ ?_; clear hN N) | (refine hN _ ?_; clear hN N))))))
          | (refine bif2.mk (fun hb => ?_) (fun hb => ?_) <;> (try simp only [hb, GA, ↓GB, List.filterMap_cons, eq_self, BEq.rfl, simprocAttr, hnt, hT, g1, g2, g3, g4, g5, g6, ga, b1, b4]) <;> ((first | cases hb | (simp only [decide_eq_true_eq, decide_eq_false_iff_not, beq_iff_eq, beq_eq_false_iff_ne, bne_iff_ne, Bool.and_eq_true, Bool.or_eq_true, Bool.not_eq_true', Bool.not_eq_false', Bool.and_eq_false_iff, Bool.or_eq_false_iff, Int.not_lt, Int.not_le] at hb) | skip) <;> (first | (exfalso; omega) | skip)))
          | ((first | (refine Ctr.use (hp) hP hG [] ?_ rfl rfl ?_; (focus (refine LeR.of rfl trivial ?_ ?_ ?_ ?_ ?_ <;> first | decide | (simp only [GA, ↓GB, List.filterMap_cons, eq_self, BEq.rfl, simprocAttr, List.getD_cons_zero, List.getD_cons_succ, or_false, false_or, or_self, or_true, true_or, decide_true]; done))); intro os' s hR; obtain ⟨rfl, rfl⟩ := hR)); simp only [GA, ↓GB, List.filterMap_cons, eq_self, BEq.rfl, simprocAttr, hnt, hT, g1, g2, g3, g4, g5, g6, ga, b1, b4])
          | (refine SX.block ?_)
          | (refine and_mk ?_ ?_; (focus first | decide | omega | rfl | assumption | (simp only [List.length_append, List.length_cons, List.length_nil, B_size]; omega) | (simp; done)))
          | (refine And.intro ?_ ?_))
        all_goals (try refine Done.mk ?_)
        all_goals ((refine hN0 _ _ ⟨[], _, _, ?_, ?_, ?_, ⟨rfl, rfl⟩⟩; (focus exact LeR.of rfl trivial (by simp only [GA, ↓GB, List.filterMap_cons, eq_self, BEq.rfl, simprocAttr, List.getD_cons_zero, List.getD_cons_succ, or_false, false_or, or_self, or_true, true_or, decide_true]) (by decide) rfl rfl rfl); rotate_left; (focus rfl)); rfl)
    · have b1 : decide ((5 : Int) < ((lastN 1 es).n : Int)) = true := by simp; omega
      rw [if_neg (fun h => h1 h.2.1)]
      intro X0 hP0 hG0 N0 hN0
      refine CallVC.inline (f := 49) (by rw [hP0]; exact Tryd.func49) rfl Tryd.ntmps49 rfl (by simp) ?_
      intro X K hU hnt hbl hK
      have hP : X.P = Tryd.prog := by rw [hU.P, hP0]
      have hG := hG0.under hU
      have hT : zeroCells X.P 89 = some [(Value.int IntKind.i64 0), (Value.string { data := #[] }), (Value.int IntKind.u64 0), (Value.bool false), (Value.string { data := #[] })] ∧ calleeOk X.P 109 = true ∧ mapInf X.P 174 = some ((TypeDesc.int IntKind.i64), (Value.int IntKind.i64 0)) ∧ X.P.underlying 171 = some (TypeDesc.slice 143) ∧ elemSz X.P 171 = some (143, 4) ∧ aggOf X.P 143 = some true ∧ szOf X.P 143 = some 4 ∧ zeroCells X.P 143 = some [(Value.int IntKind.i64 0), (Value.int IntKind.i64 0), (Value.int IntKind.u64 0), (Value.string { data := #[] })] ∧ fieldOff X.P 143 0 = some 0 ∧ aggOf X.P 3 = some false ∧ szOf X.P 3 = some 1 ∧ fieldOff X.P 143 1 = some 1 ∧ mapInf X.P 175 = some ((TypeDesc.int IntKind.i64), (Value.agg #[(Value.int IntKind.i64 0), (Value.int IntKind.i64 0), (Value.int IntKind.u64 0), (Value.string { data := #[] })])) ∧ fldInf X.P 143 2 = some (2, false, 1) ∧ fieldsOf X.P 89 = some [(0, 2), (2, 1), (3, 1), (4, 1)] ∧ szOf X.P 89 = some 5 ∧ X.P.underlying 22 = some (TypeDesc.int IntKind.u64) ∧ X.P.underlying 3 = some (TypeDesc.int IntKind.i64) ∧ isBytesT X.P 22 = false ∧ isStrT X.P 3 = false ∧ fldInf X.P 143 3 = some (3, false, 1) ∧ fieldsOf X.P 26 = some [(0, 1), (1, 1)] ∧ zeroCells X.P 26 = some [(Value.int IntKind.i64 0), (Value.string { data := #[] })] ∧ aggOf X.P 89 = some true ∧ calleeOk X.P 51 = true := by rw [hP]; exact ⟨Ty.ze89, Ty.co109, Ty.mi174, Tryd.underlying171, Ty.el171, Ty.ag143, Ty.sz143, Ty.ze143, Ty.fo143_0, Ty.ag3, Ty.sz3, Ty.fo143_1, Ty.mi175, Ty.fl143_2, Ty.fs89, Ty.sz89, Tryd.underlying22, Tryd.underlying3, Ty.ib22, Ty.is3, Ty.fl143_3, Ty.fs26, Ty.ze26, Ty.ag89, Ty.co51⟩
      simp only [GA, ↓GB, List.filterMap_cons, eq_self, BEq.rfl, simprocAttr] at hbl ⊢
      have hl2 := fun K => get_l2 hP hnt hbl l hll K
      simp only [hm] at hl2
      repeat' (first
        | (refine SX.join (x := .seq (.region 4 _ _) (.block 0 _)) (ι := Unit) (fun _ => ⟨[(2, .one (.c (.loc 0 0))), (3, vv (.bool false)), (5, vv (.bool true)), (7, .one (.c (.row 1)))], [rs0, .map (mE es)]⟩) (SX.select (d := ⟨[(2, .one (.c (.loc 0 0))), (3, vv (.bool false)), (4, .one (.c (.row 1))), (5, vv (.bool true)), (6, .one (.c (.row 2))), (7, .one (.c (.row 3)))], [rs0, frow l, kindMap, .map []]⟩) [0, 1, 2, 3] (LeR.of (by rw [hbl]; decide) (by simp only [GA, ↓GB, List.filterMap_cons, eq_self, BEq.rfl, simprocAttr, List.getD_cons_zero, List.getD_cons_succ, or_false, false_or, or_self, or_true, true_or, decide_true]) (by simp only [GA, ↓GB, List.filterMap_cons, eq_self, BEq.rfl, simprocAttr, List.getD_cons_zero, List.getD_cons_succ, or_false, false_or, or_self, or_true, true_or, decide_true]) (by decide) (by simp only [GA, ↓GB, List.filterMap_cons, eq_self, BEq.rfl, simprocAttr, List.getD_cons_zero, List.getD_cons_succ, or_false, false_or, or_self, or_true, true_or, decide_true]) (by simp only [GA, ↓GB, List.filterMap_cons, eq_self, BEq.rfl, simprocAttr, List.getD_cons_zero, List.getD_cons_succ, or_false, false_or, or_self, or_true, true_or, decide_true]) (by simp only [GA, ↓GB, List.filterMap_cons, eq_self, BEq.rfl, simprocAttr, List.getD_cons_zero, List.getD_cons_succ, or_false, false_or, or_self, or_true, true_or, decide_true])) (hl2 _)) (fun _ => ?_))
        | (refine SX.seqK ?_; intro N hN)
        | ((first | (refine SX.ops ?_) | (refine SX.planT (id := 12) [.q [(0, [7]), (1, [49]), (2, [50]), (3, [7]), (4, [52]), (5, [53]), (6, [51]), (7, [54])] none] ?_ ?_ ?_; (focus first | (rw [hP]; kernel_rfl) | (rw [hU1P, hP]; kernel_rfl)); (focus kernel_rfl))); simp only [GA, ↓GB, List.filterMap_cons, eq_self, BEq.rfl, simprocAttr, hnt, hT, g1, g2, g3, g4, g5, g6, ga, b1])
        | ((first | refine SX.skip ?_ | refine SX.exit ?_ | refine SX.label ?_); try simp only [GA, ↓GB, List.filterMap_cons, eq_self, BEq.rfl, simprocAttr])
        | (refine SX.cond rfl (fun hb => ?_) (fun hb => ?_) <;> ((first | cases hb | (simp only [decide_eq_true_eq, decide_eq_false_iff_not, beq_iff_eq, beq_eq_false_iff_ne, bne_iff_ne, Bool.and_eq_true, Bool.or_eq_true, Bool.not_eq_true', Bool.not_eq_false', Bool.and_eq_false_iff, Bool.or_eq_false_iff, Int.not_lt, Int.not_le] at hb) | skip) <;> (first | (exfalso; omega) | skip)))
        | (refine SX.ret ?_; try simp only [GA, ↓GB, List.filterMap_cons, eq_self, BEq.rfl, simprocAttr])
        | (refine hN _ ?_; clear hN N)
        | ((first | refine hK _ _ (FinI.ret3 ?_) | refine hK _ _ (FinI.nrm3 ?_)); simp only [GA, ↓GB, List.filterMap_cons, eq_self, BEq.rfl, simprocAttr, finP_s, hnt, hT, g1, g2, g3, g4, g5, g6, ga, b1]; refine Done.out ?_)
        | (clear hN N; first | (refine hN _ ?_; clear hN N) | (clear hN N; first | (refine hN _ ?_; clear hN N) | (clear hN N; first | (refine hN _ ?_; clear hN N) | (clear hN N; first | (refine hN _ ?_; clear hN N) | (clear hN N; first | (refine hN _ ?_; clear hN N) | (refine hN _ ?_; clear hN N))))))
        | (refine bif2.mk (fun hb => ?_) (fun hb => ?_) <;> (try simp only [hb, GA, ↓GB, List.filterMap_cons, eq_self, BEq.rfl, simprocAttr, hnt, hT, g1, g2, g3, g4, g5, g6, ga, b1]) <;> ((first | cases hb | (simp only [decide_eq_true_eq, decide_eq_false_iff_not, beq_iff_eq, beq_eq_false_iff_ne, bne_iff_ne, Bool.and_eq_true, Bool.or_eq_true, Bool.not_eq_true', Bool.not_eq_false', Bool.and_eq_false_iff, Bool.or_eq_false_iff, Int.not_lt, Int.not_le] at hb) | skip) <;> (first | (exfalso; omega) | skip)))
        | ((first | (refine Ctr.use (hp) hP hG [] ?_ rfl rfl ?_; (focus (refine LeR.of rfl trivial ?_ ?_ ?_ ?_ ?_ <;> first | decide | (simp only [GA, ↓GB, List.filterMap_cons, eq_self, BEq.rfl, simprocAttr, List.getD_cons_zero, List.getD_cons_succ, or_false, false_or, or_self, or_true, true_or, decide_true]; done))); intro os' s hR; obtain ⟨rfl, rfl⟩ := hR)); simp only [GA, ↓GB, List.filterMap_cons, eq_self, BEq.rfl, simprocAttr, hnt, hT, g1, g2, g3, g4, g5, g6, ga, b1])
        | (refine SX.block ?_)
        | (refine and_mk ?_ ?_; (focus first | decide | omega | rfl | assumption | (simp only [List.length_append, List.length_cons, List.length_nil, B_size]; omega) | (simp; done)))
        | (refine And.intro ?_ ?_))
      all_goals (try refine Done.mk ?_)
      all_goals ((refine hN0 _ _ ⟨[], _, _, ?_, ?_, ?_, ⟨rfl, rfl⟩⟩; (focus exact LeR.of rfl trivial (by simp only [GA, ↓GB, List.filterMap_cons, eq_self, BEq.rfl, simprocAttr, List.getD_cons_zero, List.getD_cons_succ, or_false, false_or, or_self, or_true, true_or, decide_true]) (by decide) rfl rfl rfl); rotate_left; (focus rfl)); rfl)
  · have hok : ok = false := by simpa using hok
    subst hok
    rw [if_neg (fun h => by cases h.1)]
    intro X0 hP0 hG0 N0 hN0
    refine CallVC.inline (f := 49) (by rw [hP0]; exact Tryd.func49) rfl Tryd.ntmps49 rfl (by simp) ?_
    intro X K hU hnt hbl hK
    have hP : X.P = Tryd.prog := by rw [hU.P, hP0]
    have hG := hG0.under hU
    have hT : zeroCells X.P 89 = some [(Value.int IntKind.i64 0), (Value.string { data := #[] }), (Value.int IntKind.u64 0), (Value.bool false), (Value.string { data := #[] })] ∧ calleeOk X.P 109 = true ∧ mapInf X.P 174 = some ((TypeDesc.int IntKind.i64), (Value.int IntKind.i64 0)) ∧ X.P.underlying 171 = some (TypeDesc.slice 143) ∧ elemSz X.P 171 = some (143, 4) ∧ aggOf X.P 143 = some true ∧ szOf X.P 143 = some 4 ∧ zeroCells X.P 143 = some [(Value.int IntKind.i64 0), (Value.int IntKind.i64 0), (Value.int IntKind.u64 0), (Value.string { data := #[] })] ∧ fieldOff X.P 143 0 = some 0 ∧ aggOf X.P 3 = some false ∧ szOf X.P 3 = some 1 ∧ fieldOff X.P 143 1 = some 1 ∧ mapInf X.P 175 = some ((TypeDesc.int IntKind.i64), (Value.agg #[(Value.int IntKind.i64 0), (Value.int IntKind.i64 0), (Value.int IntKind.u64 0), (Value.string { data := #[] })])) ∧ fldInf X.P 143 2 = some (2, false, 1) ∧ fieldsOf X.P 89 = some [(0, 2), (2, 1), (3, 1), (4, 1)] ∧ szOf X.P 89 = some 5 ∧ X.P.underlying 22 = some (TypeDesc.int IntKind.u64) ∧ X.P.underlying 3 = some (TypeDesc.int IntKind.i64) ∧ isBytesT X.P 22 = false ∧ isStrT X.P 3 = false ∧ fldInf X.P 143 3 = some (3, false, 1) ∧ fieldsOf X.P 26 = some [(0, 1), (1, 1)] ∧ zeroCells X.P 26 = some [(Value.int IntKind.i64 0), (Value.string { data := #[] })] ∧ aggOf X.P 89 = some true ∧ calleeOk X.P 51 = true := by rw [hP]; exact ⟨Ty.ze89, Ty.co109, Ty.mi174, Tryd.underlying171, Ty.el171, Ty.ag143, Ty.sz143, Ty.ze143, Ty.fo143_0, Ty.ag3, Ty.sz3, Ty.fo143_1, Ty.mi175, Ty.fl143_2, Ty.fs89, Ty.sz89, Tryd.underlying22, Tryd.underlying3, Ty.ib22, Ty.is3, Ty.fl143_3, Ty.fs26, Ty.ze26, Ty.ag89, Ty.co51⟩
    simp only [GA, ↓GB, List.filterMap_cons, eq_self, BEq.rfl, simprocAttr] at hbl ⊢
    have hl2 := fun K => get_l2 hP hnt hbl l hll K
    simp only [hm] at hl2
    repeat' (first
      | (refine SX.join (x := .seq (.region 4 _ _) (.block 0 _)) (ι := Unit) (fun _ => ⟨[(2, .one (.c (.loc 0 0))), (3, vv (.bool false)), (5, vv (.bool false)), (7, .one (.c (.row 1)))], [rs0, .map (mE es)]⟩) (SX.select (d := ⟨[(2, .one (.c (.loc 0 0))), (3, vv (.bool false)), (4, .one (.c (.row 1))), (5, vv (.bool true)), (6, .one (.c (.row 2))), (7, .one (.c (.row 3)))], [rs0, frow l, kindMap, .map []]⟩) [0, 1, 2, 3] (LeR.of (by rw [hbl]; decide) (by simp only [GA, ↓GB, List.filterMap_cons, eq_self, BEq.rfl, simprocAttr, List.getD_cons_zero, List.getD_cons_succ, or_false, false_or, or_self, or_true, true_or, decide_true]) (by simp only [GA, ↓GB, List.filterMap_cons, eq_self, BEq.rfl, simprocAttr, List.getD_cons_zero, List.getD_cons_succ, or_false, false_or, or_self, or_true, true_or, decide_true]) (by decide) (by simp only [GA, ↓GB, List.filterMap_cons, eq_self, BEq.rfl, simprocAttr, List.getD_cons_zero, List.getD_cons_succ, or_false, false_or, or_self, or_true, true_or, decide_true]) (by simp only [GA, ↓GB, List.filterMap_cons, eq_self, BEq.rfl, simprocAttr, List.getD_cons_zero, List.getD_cons_succ, or_false, false_or, or_self, or_true, true_or, decide_true]) (by simp only [GA, ↓GB, List.filterMap_cons, eq_self, BEq.rfl, simprocAttr, List.getD_cons_zero, List.getD_cons_succ, or_false, false_or, or_self, or_true, true_or, decide_true])) (hl2 _)) (fun _ => ?_))
      | (refine SX.seqK ?_; intro N hN)
      | ((first | (refine SX.ops ?_) | (refine SX.planT (id := 12) [.q [(0, [7]), (1, [49]), (2, [50]), (3, [7]), (4, [52]), (5, [53]), (6, [51]), (7, [54])] none] ?_ ?_ ?_; (focus first | (rw [hP]; kernel_rfl) | (rw [hU1P, hP]; kernel_rfl)); (focus kernel_rfl))); simp only [GA, ↓GB, List.filterMap_cons, eq_self, BEq.rfl, simprocAttr, hnt, hT, g1, g2, g3, g4, g5, g6, ga])
      | ((first | refine SX.skip ?_ | refine SX.exit ?_ | refine SX.label ?_); try simp only [GA, ↓GB, List.filterMap_cons, eq_self, BEq.rfl, simprocAttr])
      | (refine SX.cond rfl (fun hb => ?_) (fun hb => ?_) <;> ((first | cases hb | (simp only [decide_eq_true_eq, decide_eq_false_iff_not, beq_iff_eq, beq_eq_false_iff_ne, bne_iff_ne, Bool.and_eq_true, Bool.or_eq_true, Bool.not_eq_true', Bool.not_eq_false', Bool.and_eq_false_iff, Bool.or_eq_false_iff, Int.not_lt, Int.not_le] at hb) | skip) <;> (first | (exfalso; omega) | skip)))
      | (refine SX.ret ?_; try simp only [GA, ↓GB, List.filterMap_cons, eq_self, BEq.rfl, simprocAttr])
      | (refine hN _ ?_; clear hN N)
      | ((first | refine hK _ _ (FinI.ret3 ?_) | refine hK _ _ (FinI.nrm3 ?_)); simp only [GA, ↓GB, List.filterMap_cons, eq_self, BEq.rfl, simprocAttr, finP_s, hnt, hT, g1, g2, g3, g4, g5, g6, ga]; refine Done.out ?_)
      | (clear hN N; first | (refine hN _ ?_; clear hN N) | (clear hN N; first | (refine hN _ ?_; clear hN N) | (clear hN N; first | (refine hN _ ?_; clear hN N) | (clear hN N; first | (refine hN _ ?_; clear hN N) | (clear hN N; first | (refine hN _ ?_; clear hN N) | (refine hN _ ?_; clear hN N))))))
      | (refine bif2.mk (fun hb => ?_) (fun hb => ?_) <;> (try simp only [hb, GA, ↓GB, List.filterMap_cons, eq_self, BEq.rfl, simprocAttr, hnt, hT, g1, g2, g3, g4, g5, g6, ga]) <;> ((first | cases hb | (simp only [decide_eq_true_eq, decide_eq_false_iff_not, beq_iff_eq, beq_eq_false_iff_ne, bne_iff_ne, Bool.and_eq_true, Bool.or_eq_true, Bool.not_eq_true', Bool.not_eq_false', Bool.and_eq_false_iff, Bool.or_eq_false_iff, Int.not_lt, Int.not_le] at hb) | skip) <;> (first | (exfalso; omega) | skip)))
      | ((first | (refine Ctr.use (hp) hP hG [] ?_ rfl rfl ?_; (focus (refine LeR.of rfl trivial ?_ ?_ ?_ ?_ ?_ <;> first | decide | (simp only [GA, ↓GB, List.filterMap_cons, eq_self, BEq.rfl, simprocAttr, List.getD_cons_zero, List.getD_cons_succ, or_false, false_or, or_self, or_true, true_or, decide_true]; done))); intro os' s hR; obtain ⟨rfl, rfl⟩ := hR)); simp only [GA, ↓GB, List.filterMap_cons, eq_self, BEq.rfl, simprocAttr, hnt, hT, g1, g2, g3, g4, g5, g6, ga])
      | (refine SX.block ?_)
      | (refine and_mk ?_ ?_; (focus first | decide | omega | rfl | assumption | (simp only [List.length_append, List.length_cons, List.length_nil, B_size]; omega) | (simp; done)))
      | (refine And.intro ?_ ?_))
    all_goals (try refine Done.mk ?_)
    all_goals ((refine hN0 _ _ ⟨[], _, _, ?_, ?_, ?_, ⟨rfl, rfl⟩⟩; (focus exact LeR.of rfl trivial (by simp only [GA, ↓GB, List.filterMap_cons, eq_self, BEq.rfl, simprocAttr, List.getD_cons_zero, List.getD_cons_succ, or_false, false_or, or_self, or_true, true_or, decide_true]) (by decide) rfl rfl rfl); rotate_left; (focus rfl)); rfl)
theorem getRes_ctr {e : EA} (he : e.Ok) (s : List UInt8) (hs : s.length ≤ 1099511627776) : Ctr Tryd.prog (GW e) 49 [] [vv (.string (B s))] (fun os v => os = [] ∧ v = resV (resR s)) := by
  unfold resR
  cases hl : NW.parse s with
  | none => exact getRes_none he s hs hl
  | some l => exact getRes_some he s hs hl
end Go.Proofs.YtbdacbcpniegiaaDoor
namespace Go.Proofs.YtbdacbcpniegiaaDoor.Q
open Go Go.RowKit Go.Proofs Go.Sx
set_option maxHeartbeats 4000000
set_option maxRecDepth 100000
set_option linter.unusedSimpArgs false
set_option linter.unusedVariables false
theorem set_nil (x : Rs) : Ctr Tryd.prog [] 53 [] [vv (.slice none 0 0), .one (.agg [.v (.int .i64 x.t), .v (.string (B x.s)), .v (.int .u64 x.q), .v (.bool x.g), .v (.string (B x.b))])] (fun os v => os = [mrow [x]] ∧ v = .one (.c (.row 0))) := by
  obtain ⟨ms, hm⟩ : ∃ ms : List Rs, ms = [] := ⟨_, rfl⟩
  have hms : ms.length ≤ 1000000 := by rw [hm]; decide
  have hcl : (cutL x ms).length ≤ 1000000 := Nat.le_trans (List.length_filter_le _ _) hms
  have hc := cut_ctr ms hms x.t x.s
  rw [show (ms.filter fun m => !isK x.t x.s m) = cutL x ms from rfl] at hc
  have he : idxI (isO x) (cutL x ms) = -1 := by rw [hm]; rfl
  have hr : [x] = cutL x ms ++ [x] := by rw [hm]; rfl
  have hrow : LO.row 89 5 0 [] = mrow ms := by rw [hm]; rfl
  rw [hr]
  refine Ctr.less ?_
  intro X0 hP0 hG0 N0 hN0
  refine CallVC.inline (f := 53) (by rw [hP0]; exact Tryd.func53) rfl Tryd.ntmps53 rfl (by simp) ?_
  intro X K hU hnt hbl hK
  have hP : X.P = Tryd.prog := by rw [hU.P, hP0]
  have hG := hG0.under hU
  have hT : fieldOff X.P 89 0 = some 0 ∧ aggOf X.P 26 = some true ∧ szOf X.P 26 = some 2 ∧ calleeOk X.P 55 = true ∧ calleeOk X.P 113 = true ∧ calleeOk X.P 112 = true ∧ X.P.underlying 79 = some (TypeDesc.slice 89) ∧ aggOf X.P 89 = some true ∧ szOf X.P 89 = some 5 ∧ elemSz X.P 79 = some (89, 5) ∧ zeroCells X.P 89 = some [(Value.int IntKind.i64 0), (Value.string { data := #[] }), (Value.int IntKind.u64 0), (Value.bool false), (Value.string { data := #[] })] ∧ calleeOk X.P 114 = true := by rw [hP]; exact ⟨Ty.fo89_0, Ty.ag26, Ty.sz26, Ty.co55, Ty.co113, Ty.co112, Tryd.underlying79, Ty.ag89, Ty.sz89, Ty.el79, Ty.ze89, Ty.co114⟩
  simp only [GA, ↓GB, List.filterMap_cons, eq_self, BEq.rfl, simprocAttr] at hbl ⊢
  refine SX.asRow (t := 0) 89 5 rfl ⟨_, rfl⟩ ?_
  rw [hrow]
  simp only [GA, ↓GB, List.filterMap_cons, eq_self, BEq.rfl, simprocAttr]
  repeat' (first
    | (refine SX.seqK ?_; intro N hN)
    | ((first | (refine SX.ops ?_)); simp only [GA, ↓GB, List.filterMap_cons, eq_self, BEq.rfl, simprocAttr, hnt, hT, he])
    | ((first | refine SX.skip ?_ | refine SX.exit ?_ | refine SX.label ?_); try simp only [GA, ↓GB, List.filterMap_cons, eq_self, BEq.rfl, simprocAttr])
    | (refine SX.cond rfl (fun hb => ?_) (fun hb => ?_) <;> ((first | cases hb | (simp only [decide_eq_true_eq, decide_eq_false_iff_not, beq_iff_eq, beq_eq_false_iff_ne, bne_iff_ne, Bool.and_eq_true, Bool.or_eq_true, Bool.not_eq_true', Bool.not_eq_false', Bool.and_eq_false_iff, Bool.or_eq_false_iff, Int.not_lt, Int.not_le] at hb) | skip) <;> (first | (exfalso; omega) | skip)))
    | (refine SX.ret ?_; try simp only [GA, ↓GB, List.filterMap_cons, eq_self, BEq.rfl, simprocAttr])
    | (refine hN _ ?_; clear hN N)
    | ((first | refine hK _ _ (FinI.ret3 ?_) | refine hK _ _ (FinI.nrm3 ?_)); simp only [GA, ↓GB, List.filterMap_cons, eq_self, BEq.rfl, simprocAttr, finP_s, hnt, hT, he]; refine Done.out ?_)
    | (clear hN N; first | (refine hN _ ?_; clear hN N) | (clear hN N; first | (refine hN _ ?_; clear hN N) | (clear hN N; first | (refine hN _ ?_; clear hN N) | (clear hN N; first | (refine hN _ ?_; clear hN N) | (clear hN N; first | (refine hN _ ?_; clear hN N) | (refine hN _ ?_; clear hN N))))))
    | (refine bif2.mk (fun hb => ?_) (fun hb => ?_) <;> (try simp only [hb, GA, ↓GB, List.filterMap_cons, eq_self, BEq.rfl, simprocAttr, hnt, hT, he]) <;> ((first | cases hb | (simp only [decide_eq_true_eq, decide_eq_false_iff_not, beq_iff_eq, beq_eq_false_iff_ne, bne_iff_ne, Bool.and_eq_true, Bool.or_eq_true, Bool.not_eq_true', Bool.not_eq_false', Bool.and_eq_false_iff, Bool.or_eq_false_iff, Int.not_lt, Int.not_le] at hb) | skip) <;> (first | (exfalso; omega) | skip)))
    | ((first | (refine Ctr.use (hc) hP ?_ [0] ?_ rfl rfl ?_; (focus (intro p hp; cases hp)); (focus (refine LeR.of rfl trivial ?_ ?_ ?_ ?_ ?_ <;> first | decide | (simp only [GA, ↓GB, List.filterMap_cons, eq_self, BEq.rfl, simprocAttr, List.getD_cons_zero, List.getD_cons_succ, or_false, false_or, or_self, or_true, true_or, decide_true]; done))); intro os' s hR; obtain ⟨rfl, rfl⟩ := hR) | (refine Ctr.use (indexFuncO (cutL x ms) hcl x) hP ?_ [2,1] ?_ rfl rfl ?_; (focus (intro p hp; cases hp)); (focus (refine LeR.of rfl trivial ?_ ?_ ?_ ?_ ?_ <;> first | decide | (simp only [GA, ↓GB, List.filterMap_cons, eq_self, BEq.rfl, simprocAttr, List.getD_cons_zero, List.getD_cons_succ, or_false, false_or, or_self, or_true, true_or, decide_true]; done))); intro os' s hR; obtain ⟨rfl, rfl⟩ := hR) | (refine Ctr.use (insert_end (cutL x ms) hcl x) hP ?_ [2,3] ?_ rfl rfl ?_; (focus (intro p hp; cases hp)); (focus (refine LeR.of rfl trivial ?_ ?_ ?_ ?_ ?_ <;> first | decide | (simp only [GA, ↓GB, List.filterMap_cons, eq_self, BEq.rfl, simprocAttr, List.getD_cons_zero, List.getD_cons_succ, or_false, false_or, or_self, or_true, true_or, decide_true]; done))); intro os' s hR; obtain ⟨rfl, rfl⟩ := hR)); simp only [GA, ↓GB, List.filterMap_cons, eq_self, BEq.rfl, simprocAttr, hnt, hT, he])
    | (refine SX.block ?_)
    | (refine and_mk ?_ ?_; (focus first | decide | omega | rfl | assumption | (simp only [List.length_append, List.length_cons, List.length_nil, B_size]; omega) | (simp; done)))
    | (refine And.intro ?_ ?_))
  all_goals (try refine Done.mk ?_)
  all_goals ((refine hN0 _ _ ⟨[4], _, _, ?_, ?_, ?_, ⟨rfl, rfl⟩⟩; (focus exact LeR.of rfl trivial (by simp only [GA, ↓GB, List.filterMap_cons, eq_self, BEq.rfl, simprocAttr, List.getD_cons_zero, List.getD_cons_succ, or_false, false_or, or_self, or_true, true_or, decide_true]) (by decide) rfl rfl rfl); rotate_left; (focus rfl)); rfl)
end Go.Proofs.YtbdacbcpniegiaaDoor.Q
namespace Go.Proofs.YtbdacbcpniegiaaDoor.Q
open Go Go.RowKit Go.Proofs Go.Sx
set_option maxHeartbeats 4000000
set_option maxRecDepth 100000
set_option linter.unusedSimpArgs false
set_option linter.unusedVariables false
def fsOf (r : Rs) (t : Nat) : List NW.Fld := ⟨1, 0, t, []⟩ :: ⟨2, 2, 0, r.s⟩ :: ⟨3, 0, r.q, []⟩ :: ((if r.g = true then [⟨4, 0, 1, []⟩] else []) ++ (if r.b = [] then [] else [⟨5, 2, 0, r.b⟩]))
theorem resB_encs (r : Rs) (t : Nat) : resB r t = NW.encs (fsOf r t) := by
  unfold resB fsOf
  cases r.g <;> by_cases hb : r.b = [] <;> simp [NW.encs, NW.Fld.enc, numB, textB, hb]
theorem fsOf_ok {r : Rs} (h : rightB r = true) : ∀ f ∈ fsOf r r.t.toNat, f.Ok := by
  obtain ⟨h1, h2, h3, h4, h5, h6⟩ := right_type h
  intro f hf
  have h29 : (2 : Nat) ^ 29 = 536870912 := rfl
  have h64 : (2 : Nat) ^ 64 = 18446744073709551616 := rfl
  unfold fsOf at hf
  simp only [List.mem_cons, List.mem_append] at hf
  rcases hf with rfl | rfl | rfl | hf | hf
  · exact ⟨by simp, by simp, .inl ⟨rfl, rfl, by simp only; omega⟩⟩
  · exact ⟨by simp, by simp, .inr (.inr (.inl ⟨rfl, by simp only; omega, rfl⟩))⟩
  · exact ⟨by simp, by simp, .inl ⟨rfl, rfl, by simp only; omega⟩⟩
  · split at hf
    · simp at hf; subst hf; exact ⟨by simp, by simp, .inl ⟨rfl, rfl, by simp⟩⟩
    · simp at hf
  · split at hf
    · simp at hf
    · simp at hf; subst hf; exact ⟨by simp, by simp, .inr (.inr (.inl ⟨rfl, by simp only; omega, rfl⟩))⟩
def stepT (m : LSt) (f : NW.Fld) : LSt := (stepR f m).getD m
theorem stepR_some (f : NW.Fld) (m : LSt) : stepR f m = some (stepT m f) := by
  unfold stepT
  unfold stepR
  repeat' split
  all_goals rfl
theorem takeG_fold (l : List NW.Fld) : ∀ m : LSt, (takeG stepR l m).1 = l.foldl stepT m := by
  induction l with
  | nil => intro m; rfl
  | cons f l ih => intro m; rw [takeG, stepR_some]; exact ih _
theorem resG_put {r : Rs} (h : rightB r = true) : resG ((fsOf r r.t.toNat).foldl stepT (true, [])) = some r := by
  obtain ⟨h1, h2, h3, h4, h5, h6⟩ := right_type h
  obtain ⟨t, s, q, g, b⟩ := r
  simp only at h1 h2 h3 h4 h5 h6
  obtain ⟨t, rfl⟩ : ∃ n : Nat, t = n := ⟨t.toNat, by omega⟩
  have key : ∀ m : LSt, m.1 = true → (lastN 1 m.2).n = t → (lastN 2 m.2).s = s → (lastN 3 m.2).n = q → (((lastN 4 m.2).n : Int) == 1) = g → (lastN 4 m.2).n ≤ 1 → (lastN 5 m.2).s = b → resG m = some ⟨t, s, q, g, b⟩ := by
    intro m e0 e1 e2 e3 e4 e5 e6
    have e : rsOf m.2 = ⟨t, s, q, g, b⟩ := by simp only [rsOf, e1, e2, e3, e4, e6]
    rw [resG, e, if_pos ⟨e0, by omega, e5, h⟩]
  unfold fsOf
  cases g <;> by_cases hb : b = [] <;> (apply key <;> simp [stepT, stepR, putN, findN, lastN, nilF, hb])
theorem resR_put {r : Rs} (h : rightB r = true) : resR (resB r r.t.toNat) = some r := by
  unfold resR
  rw [resB_encs, NW.parse_encs' _ (fsOf_ok h)]
  show resG (takeG stepR (fsOf r r.t.toNat) (true, [])).1 = some r
  rw [takeG_fold]
  exact resG_put h
theorem no_get : resR [] = none := by
  unfold resR; rw [NW.parse_nil]; decide
end Go.Proofs.YtbdacbcpniegiaaDoor.Q
namespace Go.Proofs.YtbdacbcpniegiaaDoor.Q
open Go Go.RowKit Go.Proofs Go.Sx
set_option maxHeartbeats 4000000
set_option maxRecDepth 100000
set_option linter.unusedSimpArgs false
set_option linter.unusedVariables false
@[reducible] def r0 : Rs := ⟨2, [97], 3, false, [120]⟩
theorem r0_right : rightB r0 = true := by decide
theorem r0_bytes : resB r0 2 = [8, 2, 18, 1, 97, 24, 3, 42, 1, 120] := by
  simp [resB, numB, textB, NW.varint_lt]
theorem b0_get : resR [8, 2, 18, 1, 97, 24, 3, 42, 1, 120] = some r0 := by
  have := resR_put r0_right
  rw [show (r0.t).toNat = 2 from rfl, r0_bytes] at this
  exact this
theorem ex04_ctr {e : EA} (he : e.Ok) : Ctr Tryd.prog (GW e) 44 [] [] (fun os v => os = [] ∧ v = vv (.bool true)) := by
  have hput : ∀ w, Calls Tryd.prog 45 #[.agg #[.int .i64 2, .string (B [97]), .int .u64 3, .bool false, .string (B [120])]] w fun e w' => e = .returned (.tuple #[.string (B [8, 2, 18, 1, 97, 24, 3, 42, 1, 120]), .bool true]) ∧ Below w.heap.size w w' := fun w => by
    have := put_yes r0 r0_right w
    rw [show (r0.t).toNat = 2 from rfl, r0_bytes] at this
    exact this
  have hg : Ctr Tryd.prog (GW e) 49 [] [vv (.string (B [8, 2, 18, 1, 97, 24, 3, 42, 1, 120]))] (fun os v => os = [] ∧ v = .tup [.agg [.v (.int .i64 2), .v (.string (B [97])), .v (.int .u64 3), .v (.bool false), .v (.string (B [120]))], .c (.v (.bool true))]) := by
    have := getRes_ctr he [8, 2, 18, 1, 97, 24, 3, 42, 1, 120] (by decide)
    rw [b0_get] at this
    exact this
  have hn : Ctr Tryd.prog (GW e) 49 [] [vv (.string (B []))] (fun os v => os = [] ∧ v = .tup [.agg [.v (.int .i64 0), .v (.string (B [])), .v (.int .u64 0), .v (.bool false), .v (.string (B []))], .c (.v (.bool false))]) := by
    have := getRes_ctr he [] (by decide)
    rw [no_get] at this
    exact this
  have hs : Ctr Tryd.prog [] 53 [] [vv (.slice none 0 0), .one (.agg [.v (.int .i64 2), .v (.string (B [97])), .v (.int .u64 3), .v (.bool false), .v (.string (B [120]))])] (fun os v => os = [mrow [r0]] ∧ v = .one (.c (.row 0))) := set_nil r0
  have hf : Ctr Tryd.prog [] 54 [mrow [r0]] [.one (.c (.row 0)), .one (.agg [.v (.int .i64 2), .v (.string (B [97]))])] (fun os v => os = [mrow [r0]] ∧ v = .tup [.agg [.v (.int .i64 2), .v (.string (B [97])), .v (.int .u64 3), .v (.bool false), .v (.string (B [120]))], .c (.v (.bool true))]) := by
    have := find_ctr [r0] (by decide) 2 [97]
    rw [show List.find? (isK 2 [97]) [r0] = some r0 by decide] at this
    exact this
  refine Ctr.less ?_
  intro X0 hP0 hG0 N0 hN0
  refine CallVC.inline (f := 44) (by rw [hP0]; exact Tryd.func44) rfl Tryd.ntmps44 rfl (by simp) ?_
  intro X K hU hnt hbl hK
  have hP : X.P = Tryd.prog := by rw [hU.P, hP0]
  have hG := hG0.under hU
  have hT : fieldsOf X.P 26 = some [(0, 1), (1, 1)] ∧ zeroCells X.P 26 = some [(Value.int IntKind.i64 0), (Value.string { data := #[] })] ∧ fieldsOf X.P 89 = some [(0, 2), (2, 1), (3, 1), (4, 1)] ∧ zeroCells X.P 89 = some [(Value.int IntKind.i64 0), (Value.string { data := #[] }), (Value.int IntKind.u64 0), (Value.bool false), (Value.string { data := #[] })] ∧ szOf X.P 89 = some 5 ∧ aggOf X.P 89 = some true ∧ calleeOk X.P 45 = true ∧ calleeOk X.P 49 = true ∧ calleeOk X.P 53 = true ∧ fieldOff X.P 89 0 = some 0 ∧ aggOf X.P 26 = some true ∧ szOf X.P 26 = some 2 ∧ calleeOk X.P 54 = true ∧ X.P.underlying 79 = some (TypeDesc.slice 89) := by rw [hP]; exact ⟨Ty.fs26, Ty.ze26, Ty.fs89, Ty.ze89, Ty.sz89, Ty.ag89, Ty.co45, Ty.co49, Ty.co53, Ty.fo89_0, Ty.ag26, Ty.sz26, Ty.co54, Tryd.underlying79⟩
  simp only [GA, ↓GB, List.filterMap_cons, eq_self, BEq.rfl, simprocAttr] at hbl ⊢
  repeat' (first
    | (refine SX.seqK ?_; intro N hN)
    | ((first | (refine SX.ops ?_)); simp only [GA, ↓GB, List.filterMap_cons, eq_self, BEq.rfl, simprocAttr, hnt, hT])
    | ((first | refine SX.skip ?_ | refine SX.exit ?_ | refine SX.label ?_); try simp only [GA, ↓GB, List.filterMap_cons, eq_self, BEq.rfl, simprocAttr])
    | (refine SX.cond rfl (fun hb => ?_) (fun hb => ?_) <;> ((first | cases hb | (simp only [decide_eq_true_eq, decide_eq_false_iff_not, beq_iff_eq, beq_eq_false_iff_ne, bne_iff_ne, Bool.and_eq_true, Bool.or_eq_true, Bool.not_eq_true', Bool.not_eq_false', Bool.and_eq_false_iff, Bool.or_eq_false_iff, Int.not_lt, Int.not_le] at hb) | skip) <;> (first | (exfalso; omega) | skip)))
    | (refine SX.ret ?_; try simp only [GA, ↓GB, List.filterMap_cons, eq_self, BEq.rfl, simprocAttr])
    | (refine hN _ ?_; clear hN N)
    | ((first | refine hK _ _ (FinI.ret3 ?_) | refine hK _ _ (FinI.nrm3 ?_)); simp only [GA, ↓GB, List.filterMap_cons, eq_self, BEq.rfl, simprocAttr, finP_s, hnt, hT]; refine Done.out ?_)
    | (clear hN N; first | (refine hN _ ?_; clear hN N) | (clear hN N; first | (refine hN _ ?_; clear hN N) | (clear hN N; first | (refine hN _ ?_; clear hN N) | (clear hN N; first | (refine hN _ ?_; clear hN N) | (clear hN N; first | (refine hN _ ?_; clear hN N) | (refine hN _ ?_; clear hN N))))))
    | (refine bif2.mk (fun hb => ?_) (fun hb => ?_) <;> (try simp only [hb, GA, ↓GB, List.filterMap_cons, eq_self, BEq.rfl, simprocAttr, hnt, hT]) <;> ((first | cases hb | (simp only [decide_eq_true_eq, decide_eq_false_iff_not, beq_iff_eq, beq_eq_false_iff_ne, bne_iff_ne, Bool.and_eq_true, Bool.or_eq_true, Bool.not_eq_true', Bool.not_eq_false', Bool.and_eq_false_iff, Bool.or_eq_false_iff, Int.not_lt, Int.not_le] at hb) | skip) <;> (first | (exfalso; omega) | skip)))
    | ((first | (refine CallVC.pt (l := [_, _]) hP (hput) rfl ?_) | (refine CallQ.pt (l := [_, _]) hP (hput) rfl ?_) | (refine Ctr.use (hg) hP hG [] ?_ rfl rfl ?_; (focus (refine LeR.of rfl trivial ?_ ?_ ?_ ?_ ?_ <;> first | decide | (simp only [GA, ↓GB, List.filterMap_cons, eq_self, BEq.rfl, simprocAttr, List.getD_cons_zero, List.getD_cons_succ, or_false, false_or, or_self, or_true, true_or, decide_true]; done))); intro os' s hR; obtain ⟨rfl, rfl⟩ := hR) | (refine Ctr.use (hn) hP hG [] ?_ rfl rfl ?_; (focus (refine LeR.of rfl trivial ?_ ?_ ?_ ?_ ?_ <;> first | decide | (simp only [GA, ↓GB, List.filterMap_cons, eq_self, BEq.rfl, simprocAttr, List.getD_cons_zero, List.getD_cons_succ, or_false, false_or, or_self, or_true, true_or, decide_true]; done))); intro os' s hR; obtain ⟨rfl, rfl⟩ := hR) | (refine Ctr.use (hs) hP ?_ [] ?_ rfl rfl ?_; (focus (intro p hp; cases hp)); (focus (refine LeR.of rfl trivial ?_ ?_ ?_ ?_ ?_ <;> first | decide | (simp only [GA, ↓GB, List.filterMap_cons, eq_self, BEq.rfl, simprocAttr, List.getD_cons_zero, List.getD_cons_succ, or_false, false_or, or_self, or_true, true_or, decide_true]; done))); intro os' s hR; obtain ⟨rfl, rfl⟩ := hR) | (refine Ctr.use (hf) hP ?_ [3] ?_ rfl rfl ?_; (focus (intro p hp; cases hp)); (focus (refine LeR.of rfl trivial ?_ ?_ ?_ ?_ ?_ <;> first | decide | (simp only [GA, ↓GB, List.filterMap_cons, eq_self, BEq.rfl, simprocAttr, List.getD_cons_zero, List.getD_cons_succ, or_false, false_or, or_self, or_true, true_or, decide_true]; done))); intro os' s hR; obtain ⟨rfl, rfl⟩ := hR)); simp only [GA, ↓GB, List.filterMap_cons, eq_self, BEq.rfl, simprocAttr, hnt, hT])
    | (refine ⟨_, strEq_to hP (Ty.eqS89 _ _ _ _ _ _ _ _ _ _), ?_⟩)
    | (refine SX.block ?_)
    | (refine and_mk ?_ ?_; (focus first | decide | omega | rfl | assumption | (simp only [List.length_append, List.length_cons, List.length_nil, B_size]; omega) | (simp; done)))
    | (refine And.intro ?_ ?_))
  all_goals (try refine Done.mk ?_)
  all_goals ((refine hN0 _ _ ⟨[], _, _, ?_, ?_, ?_, ⟨rfl, rfl⟩⟩; (focus exact LeR.of rfl trivial (by simp only [GA, ↓GB, List.filterMap_cons, eq_self, BEq.rfl, simprocAttr, List.getD_cons_zero, List.getD_cons_succ, or_false, false_or, or_self, or_true, true_or, decide_true]) (by decide) rfl rfl rfl); rotate_left; (focus rfl)); rfl)
end Go.Proofs.YtbdacbcpniegiaaDoor.Q
namespace Go.Proofs.YtbdacbcpniegiaaDoor.Q
open Go Go.RowKit Go.Proofs Go.Sx
set_option maxHeartbeats 4000000
set_option maxRecDepth 100000
set_option linter.unusedSimpArgs false
set_option linter.unusedVariables false
def wordL (n : Nat) : List UInt8 := [[97], [98], [99, 47, 100], [101, 46, 102], [103, 45, 49], [122, 122]].getD (n % 6) []
theorem word_any (n : Nat) (w : World) : Calls Tryd.prog 105 #[.int .u8 n] w fun x w' => x = .returned (.string (B (wordL n))) ∧ Below w.heap.size w w' := by
  have hm : (n : Int).tmod 6 = ((n % 6 : Nat) : Int) := by rw [Int.tmod_eq_emod_of_nonneg (by omega)]; rfl
  have h6 : n % 6 < 6 := Nat.mod_lt _ (by decide)
  unfold wordL
  generalize n % 6 = k at hm h6 ⊢
  have hc : k = 0 ∨ k = 1 ∨ k = 2 ∨ k = 3 ∨ k = 4 ∨ k = 5 := by omega
  rcases hc with rfl | rfl | rfl | rfl | rfl | rfl
  · refine calls_pureK (args := [.int .u8 n]) w Tryd.func105 rfl Tryd.ntmps105 (by simp) ?_
    intro X K hX hK
    have hnt : X.nt = 8 := by rw [hX]
    have hwi : X.wi = w := by rw [hX]
    have hP : X.P = Tryd.prog := by rw [hX]
    have hown : X.own = [] := by rw [hX]
    have hbl : X.base.length = 0 := by rw [hX]; rfl
    clear hX
    have hT : elemSz X.P 38 = some (9, 1) ∧ zeroCells X.P 9 = some [(Value.string { data := #[] })] ∧ aggOf X.P 9 = some false ∧ szOf X.P 9 = some 1 := by rw [hP]; exact ⟨Ty.el38, Ty.ze9, Ty.ag9, Ty.sz9⟩
    repeat' (first
      | (refine SX.seqK ?_; intro N hN)
      | ((first | (refine SX.ops ?_)); simp only [GA, ↓GB, List.filterMap_cons, eq_self, BEq.rfl, simprocAttr, hnt, hT, hm])
      | ((first | refine SX.skip ?_ | refine SX.exit ?_ | refine SX.label ?_); try simp only [GA, ↓GB, List.filterMap_cons, eq_self, BEq.rfl, simprocAttr])
      | (refine SX.cond rfl (fun hb => ?_) (fun hb => ?_) <;> ((first | cases hb | (simp only [decide_eq_true_eq, decide_eq_false_iff_not, beq_iff_eq, beq_eq_false_iff_ne, bne_iff_ne, Bool.and_eq_true, Bool.or_eq_true, Bool.not_eq_true', Bool.not_eq_false', Bool.and_eq_false_iff, Bool.or_eq_false_iff, Int.not_lt, Int.not_le] at hb) | skip) <;> (first | (exfalso; omega) | skip)))
      | (refine SX.ret ?_; try simp only [GA, ↓GB, List.filterMap_cons, eq_self, BEq.rfl, simprocAttr])
      | (refine hN _ ?_; clear hN N)
      | (refine hK _ _ (Fin.res rfl hown ?_); simp only [GA, ↓GB, List.filterMap_cons, eq_self, BEq.rfl, simprocAttr, f_a, f_b, f_n, f_c, f_B, f_v, f_g, f_0, f_1, f_2, hT, hwi, hm]; intro w' hbel; refine Done.out ?_)
      | (clear hN N; first | (refine hN _ ?_; clear hN N) | (clear hN N; first | (refine hN _ ?_; clear hN N) | (clear hN N; first | (refine hN _ ?_; clear hN N) | (clear hN N; first | (refine hN _ ?_; clear hN N) | (clear hN N; first | (refine hN _ ?_; clear hN N) | (refine hN _ ?_; clear hN N))))))
      | (refine bif2.mk (fun hb => ?_) (fun hb => ?_) <;> (try simp only [hb, GA, ↓GB, List.filterMap_cons, eq_self, BEq.rfl, simprocAttr, hnt, hT, hm]) <;> ((first | cases hb | (simp only [decide_eq_true_eq, decide_eq_false_iff_not, beq_iff_eq, beq_eq_false_iff_ne, bne_iff_ne, Bool.and_eq_true, Bool.or_eq_true, Bool.not_eq_true', Bool.not_eq_false', Bool.and_eq_false_iff, Bool.or_eq_false_iff, Int.not_lt, Int.not_le] at hb) | skip) <;> (first | (exfalso; omega) | skip)))
      | (refine SX.block ?_)
      | (refine and_mk ?_ ?_; (focus first | decide | omega | rfl | assumption | (simp only [List.length_append, List.length_cons, List.length_nil, B_size]; omega) | (simp; done)))
      | (refine And.intro ?_ ?_))
    all_goals (try refine Done.mk ?_)
    all_goals first | exact hbel | exact ⟨rfl, hbel⟩
  · refine calls_pureK (args := [.int .u8 n]) w Tryd.func105 rfl Tryd.ntmps105 (by simp) ?_
    intro X K hX hK
    have hnt : X.nt = 8 := by rw [hX]
    have hwi : X.wi = w := by rw [hX]
    have hP : X.P = Tryd.prog := by rw [hX]
    have hown : X.own = [] := by rw [hX]
    have hbl : X.base.length = 0 := by rw [hX]; rfl
    clear hX
    have hT : elemSz X.P 38 = some (9, 1) ∧ zeroCells X.P 9 = some [(Value.string { data := #[] })] ∧ aggOf X.P 9 = some false ∧ szOf X.P 9 = some 1 := by rw [hP]; exact ⟨Ty.el38, Ty.ze9, Ty.ag9, Ty.sz9⟩
    repeat' (first
      | (refine SX.seqK ?_; intro N hN)
      | ((first | (refine SX.ops ?_)); simp only [GA, ↓GB, List.filterMap_cons, eq_self, BEq.rfl, simprocAttr, hnt, hT, hm])
      | ((first | refine SX.skip ?_ | refine SX.exit ?_ | refine SX.label ?_); try simp only [GA, ↓GB, List.filterMap_cons, eq_self, BEq.rfl, simprocAttr])
      | (refine SX.cond rfl (fun hb => ?_) (fun hb => ?_) <;> ((first | cases hb | (simp only [decide_eq_true_eq, decide_eq_false_iff_not, beq_iff_eq, beq_eq_false_iff_ne, bne_iff_ne, Bool.and_eq_true, Bool.or_eq_true, Bool.not_eq_true', Bool.not_eq_false', Bool.and_eq_false_iff, Bool.or_eq_false_iff, Int.not_lt, Int.not_le] at hb) | skip) <;> (first | (exfalso; omega) | skip)))
      | (refine SX.ret ?_; try simp only [GA, ↓GB, List.filterMap_cons, eq_self, BEq.rfl, simprocAttr])
      | (refine hN _ ?_; clear hN N)
      | (refine hK _ _ (Fin.res rfl hown ?_); simp only [GA, ↓GB, List.filterMap_cons, eq_self, BEq.rfl, simprocAttr, f_a, f_b, f_n, f_c, f_B, f_v, f_g, f_0, f_1, f_2, hT, hwi, hm]; intro w' hbel; refine Done.out ?_)
      | (clear hN N; first | (refine hN _ ?_; clear hN N) | (clear hN N; first | (refine hN _ ?_; clear hN N) | (clear hN N; first | (refine hN _ ?_; clear hN N) | (clear hN N; first | (refine hN _ ?_; clear hN N) | (clear hN N; first | (refine hN _ ?_; clear hN N) | (refine hN _ ?_; clear hN N))))))
      | (refine bif2.mk (fun hb => ?_) (fun hb => ?_) <;> (try simp only [hb, GA, ↓GB, List.filterMap_cons, eq_self, BEq.rfl, simprocAttr, hnt, hT, hm]) <;> ((first | cases hb | (simp only [decide_eq_true_eq, decide_eq_false_iff_not, beq_iff_eq, beq_eq_false_iff_ne, bne_iff_ne, Bool.and_eq_true, Bool.or_eq_true, Bool.not_eq_true', Bool.not_eq_false', Bool.and_eq_false_iff, Bool.or_eq_false_iff, Int.not_lt, Int.not_le] at hb) | skip) <;> (first | (exfalso; omega) | skip)))
      | (refine SX.block ?_)
      | (refine and_mk ?_ ?_; (focus first | decide | omega | rfl | assumption | (simp only [List.length_append, List.length_cons, List.length_nil, B_size]; omega) | (simp; done)))
      | (refine And.intro ?_ ?_))
    all_goals (try refine Done.mk ?_)
    all_goals first | exact hbel | exact ⟨rfl, hbel⟩
  · refine calls_pureK (args := [.int .u8 n]) w Tryd.func105 rfl Tryd.ntmps105 (by simp) ?_
    intro X K hX hK
    have hnt : X.nt = 8 := by rw [hX]
    have hwi : X.wi = w := by rw [hX]
    have hP : X.P = Tryd.prog := by rw [hX]
    have hown : X.own = [] := by rw [hX]
    have hbl : X.base.length = 0 := by rw [hX]; rfl
    clear hX
    have hT : elemSz X.P 38 = some (9, 1) ∧ zeroCells X.P 9 = some [(Value.string { data := #[] })] ∧ aggOf X.P 9 = some false ∧ szOf X.P 9 = some 1 := by rw [hP]; exact ⟨Ty.el38, Ty.ze9, Ty.ag9, Ty.sz9⟩
    repeat' (first
      | (refine SX.seqK ?_; intro N hN)
      | ((first | (refine SX.ops ?_)); simp only [GA, ↓GB, List.filterMap_cons, eq_self, BEq.rfl, simprocAttr, hnt, hT, hm])
      | ((first | refine SX.skip ?_ | refine SX.exit ?_ | refine SX.label ?_); try simp only [GA, ↓GB, List.filterMap_cons, eq_self, BEq.rfl, simprocAttr])
      | (refine SX.cond rfl (fun hb => ?_) (fun hb => ?_) <;> ((first | cases hb | (simp only [decide_eq_true_eq, decide_eq_false_iff_not, beq_iff_eq, beq_eq_false_iff_ne, bne_iff_ne, Bool.and_eq_true, Bool.or_eq_true, Bool.not_eq_true', Bool.not_eq_false', Bool.and_eq_false_iff, Bool.or_eq_false_iff, Int.not_lt, Int.not_le] at hb) | skip) <;> (first | (exfalso; omega) | skip)))
      | (refine SX.ret ?_; try simp only [GA, ↓GB, List.filterMap_cons, eq_self, BEq.rfl, simprocAttr])
      | (refine hN _ ?_; clear hN N)
      | (refine hK _ _ (Fin.res rfl hown ?_); simp only [GA, ↓GB, List.filterMap_cons, eq_self, BEq.rfl, simprocAttr, f_a, f_b, f_n, f_c, f_B, f_v, f_g, f_0, f_1, f_2, hT, hwi, hm]; intro w' hbel; refine Done.out ?_)
      | (clear hN N; first | (refine hN _ ?_; clear hN N) | (clear hN N; first | (refine hN _ ?_; clear hN N) | (clear hN N; first | (refine hN _ ?_; clear hN N) | (clear hN N; first | (refine hN _ ?_; clear hN N) | (clear hN N; first | (refine hN _ ?_; clear hN N) | (refine hN _ ?_; clear hN N))))))
      | (refine bif2.mk (fun hb => ?_) (fun hb => ?_) <;> (try simp only [hb, GA, ↓GB, List.filterMap_cons, eq_self, BEq.rfl, simprocAttr, hnt, hT, hm]) <;> ((first | cases hb | (simp only [decide_eq_true_eq, decide_eq_false_iff_not, beq_iff_eq, beq_eq_false_iff_ne, bne_iff_ne, Bool.and_eq_true, Bool.or_eq_true, Bool.not_eq_true', Bool.not_eq_false', Bool.and_eq_false_iff, Bool.or_eq_false_iff, Int.not_lt, Int.not_le] at hb) | skip) <;> (first | (exfalso; omega) | skip)))
      | (refine SX.block ?_)
      | (refine and_mk ?_ ?_; (focus first | decide | omega | rfl | assumption | (simp only [List.length_append, List.length_cons, List.length_nil, B_size]; omega) | (simp; done)))
      | (refine And.intro ?_ ?_))
    all_goals (try refine Done.mk ?_)
    all_goals first | exact hbel | exact ⟨rfl, hbel⟩
  · refine calls_pureK (args := [.int .u8 n]) w Tryd.func105 rfl Tryd.ntmps105 (by simp) ?_
    intro X K hX hK
    have hnt : X.nt = 8 := by rw [hX]
    have hwi : X.wi = w := by rw [hX]
    have hP : X.P = Tryd.prog := by rw [hX]
    have hown : X.own = [] := by rw [hX]
    have hbl : X.base.length = 0 := by rw [hX]; rfl
    clear hX
    have hT : elemSz X.P 38 = some (9, 1) ∧ zeroCells X.P 9 = some [(Value.string { data := #[] })] ∧ aggOf X.P 9 = some false ∧ szOf X.P 9 = some 1 := by rw [hP]; exact ⟨Ty.el38, Ty.ze9, Ty.ag9, Ty.sz9⟩
    repeat' (first
      | (refine SX.seqK ?_; intro N hN)
      | ((first | (refine SX.ops ?_)); simp only [GA, ↓GB, List.filterMap_cons, eq_self, BEq.rfl, simprocAttr, hnt, hT, hm])
      | ((first | refine SX.skip ?_ | refine SX.exit ?_ | refine SX.label ?_); try simp only [GA, ↓GB, List.filterMap_cons, eq_self, BEq.rfl, simprocAttr])
      | (refine SX.cond rfl (fun hb => ?_) (fun hb => ?_) <;> ((first | cases hb | (simp only [decide_eq_true_eq, decide_eq_false_iff_not, beq_iff_eq, beq_eq_false_iff_ne, bne_iff_ne, Bool.and_eq_true, Bool.or_eq_true, Bool.not_eq_true', Bool.not_eq_false', Bool.and_eq_false_iff, Bool.or_eq_false_iff, Int.not_lt, Int.not_le] at hb) | skip) <;> (first | (exfalso; omega) | skip)))
      | (refine SX.ret ?_; try simp only [GA, ↓GB, List.filterMap_cons, eq_self, BEq.rfl, simprocAttr])
      | (refine hN _ ?_; clear hN N)
      | (refine hK _ _ (Fin.res rfl hown ?_); simp only [GA, ↓GB, List.filterMap_cons, eq_self, BEq.rfl, simprocAttr, f_a, f_b, f_n, f_c, f_B, f_v, f_g, f_0, f_1, f_2, hT, hwi, hm]; intro w' hbel; refine Done.out ?_)
      | (clear hN N; first | (refine hN _ ?_; clear hN N) | (clear hN N; first | (refine hN _ ?_; clear hN N) | (clear hN N; first | (refine hN _ ?_; clear hN N) | (clear hN N; first | (refine hN _ ?_; clear hN N) | (clear hN N; first | (refine hN _ ?_; clear hN N) | (refine hN _ ?_; clear hN N))))))
      | (refine bif2.mk (fun hb => ?_) (fun hb => ?_) <;> (try simp only [hb, GA, ↓GB, List.filterMap_cons, eq_self, BEq.rfl, simprocAttr, hnt, hT, hm]) <;> ((first | cases hb | (simp only [decide_eq_true_eq, decide_eq_false_iff_not, beq_iff_eq, beq_eq_false_iff_ne, bne_iff_ne, Bool.and_eq_true, Bool.or_eq_true, Bool.not_eq_true', Bool.not_eq_false', Bool.and_eq_false_iff, Bool.or_eq_false_iff, Int.not_lt, Int.not_le] at hb) | skip) <;> (first | (exfalso; omega) | skip)))
      | (refine SX.block ?_)
      | (refine and_mk ?_ ?_; (focus first | decide | omega | rfl | assumption | (simp only [List.length_append, List.length_cons, List.length_nil, B_size]; omega) | (simp; done)))
      | (refine And.intro ?_ ?_))
    all_goals (try refine Done.mk ?_)
    all_goals first | exact hbel | exact ⟨rfl, hbel⟩
  · refine calls_pureK (args := [.int .u8 n]) w Tryd.func105 rfl Tryd.ntmps105 (by simp) ?_
    intro X K hX hK
    have hnt : X.nt = 8 := by rw [hX]
    have hwi : X.wi = w := by rw [hX]
    have hP : X.P = Tryd.prog := by rw [hX]
    have hown : X.own = [] := by rw [hX]
    have hbl : X.base.length = 0 := by rw [hX]; rfl
    clear hX
    have hT : elemSz X.P 38 = some (9, 1) ∧ zeroCells X.P 9 = some [(Value.string { data := #[] })] ∧ aggOf X.P 9 = some false ∧ szOf X.P 9 = some 1 := by rw [hP]; exact ⟨Ty.el38, Ty.ze9, Ty.ag9, Ty.sz9⟩
    repeat' (first
      | (refine SX.seqK ?_; intro N hN)
      | ((first | (refine SX.ops ?_)); simp only [GA, ↓GB, List.filterMap_cons, eq_self, BEq.rfl, simprocAttr, hnt, hT, hm])
      | ((first | refine SX.skip ?_ | refine SX.exit ?_ | refine SX.label ?_); try simp only [GA, ↓GB, List.filterMap_cons, eq_self, BEq.rfl, simprocAttr])
      | (refine SX.cond rfl (fun hb => ?_) (fun hb => ?_) <;> ((first | cases hb | (simp only [decide_eq_true_eq, decide_eq_false_iff_not, beq_iff_eq, beq_eq_false_iff_ne, bne_iff_ne, Bool.and_eq_true, Bool.or_eq_true, Bool.not_eq_true', Bool.not_eq_false', Bool.and_eq_false_iff, Bool.or_eq_false_iff, Int.not_lt, Int.not_le] at hb) | skip) <;> (first | (exfalso; omega) | skip)))
      | (refine SX.ret ?_; try simp only [GA, ↓GB, List.filterMap_cons, eq_self, BEq.rfl, simprocAttr])
      | (refine hN _ ?_; clear hN N)
      | (refine hK _ _ (Fin.res rfl hown ?_); simp only [GA, ↓GB, List.filterMap_cons, eq_self, BEq.rfl, simprocAttr, f_a, f_b, f_n, f_c, f_B, f_v, f_g, f_0, f_1, f_2, hT, hwi, hm]; intro w' hbel; refine Done.out ?_)
      | (clear hN N; first | (refine hN _ ?_; clear hN N) | (clear hN N; first | (refine hN _ ?_; clear hN N) | (clear hN N; first | (refine hN _ ?_; clear hN N) | (clear hN N; first | (refine hN _ ?_; clear hN N) | (clear hN N; first | (refine hN _ ?_; clear hN N) | (refine hN _ ?_; clear hN N))))))
      | (refine bif2.mk (fun hb => ?_) (fun hb => ?_) <;> (try simp only [hb, GA, ↓GB, List.filterMap_cons, eq_self, BEq.rfl, simprocAttr, hnt, hT, hm]) <;> ((first | cases hb | (simp only [decide_eq_true_eq, decide_eq_false_iff_not, beq_iff_eq, beq_eq_false_iff_ne, bne_iff_ne, Bool.and_eq_true, Bool.or_eq_true, Bool.not_eq_true', Bool.not_eq_false', Bool.and_eq_false_iff, Bool.or_eq_false_iff, Int.not_lt, Int.not_le] at hb) | skip) <;> (first | (exfalso; omega) | skip)))
      | (refine SX.block ?_)
      | (refine and_mk ?_ ?_; (focus first | decide | omega | rfl | assumption | (simp only [List.length_append, List.length_cons, List.length_nil, B_size]; omega) | (simp; done)))
      | (refine And.intro ?_ ?_))
    all_goals (try refine Done.mk ?_)
    all_goals first | exact hbel | exact ⟨rfl, hbel⟩
  · refine calls_pureK (args := [.int .u8 n]) w Tryd.func105 rfl Tryd.ntmps105 (by simp) ?_
    intro X K hX hK
    have hnt : X.nt = 8 := by rw [hX]
    have hwi : X.wi = w := by rw [hX]
    have hP : X.P = Tryd.prog := by rw [hX]
    have hown : X.own = [] := by rw [hX]
    have hbl : X.base.length = 0 := by rw [hX]; rfl
    clear hX
    have hT : elemSz X.P 38 = some (9, 1) ∧ zeroCells X.P 9 = some [(Value.string { data := #[] })] ∧ aggOf X.P 9 = some false ∧ szOf X.P 9 = some 1 := by rw [hP]; exact ⟨Ty.el38, Ty.ze9, Ty.ag9, Ty.sz9⟩
    repeat' (first
      | (refine SX.seqK ?_; intro N hN)
      | ((first | (refine SX.ops ?_)); simp only [GA, ↓GB, List.filterMap_cons, eq_self, BEq.rfl, simprocAttr, hnt, hT, hm])
      | ((first | refine SX.skip ?_ | refine SX.exit ?_ | refine SX.label ?_); try simp only [GA, ↓GB, List.filterMap_cons, eq_self, BEq.rfl, simprocAttr])
      | (refine SX.cond rfl (fun hb => ?_) (fun hb => ?_) <;> ((first | cases hb | (simp only [decide_eq_true_eq, decide_eq_false_iff_not, beq_iff_eq, beq_eq_false_iff_ne, bne_iff_ne, Bool.and_eq_true, Bool.or_eq_true, Bool.not_eq_true', Bool.not_eq_false', Bool.and_eq_false_iff, Bool.or_eq_false_iff, Int.not_lt, Int.not_le] at hb) | skip) <;> (first | (exfalso; omega) | skip)))
      | (refine SX.ret ?_; try simp only [GA, ↓GB, List.filterMap_cons, eq_self, BEq.rfl, simprocAttr])
      | (refine hN _ ?_; clear hN N)
      | (refine hK _ _ (Fin.res rfl hown ?_); simp only [GA, ↓GB, List.filterMap_cons, eq_self, BEq.rfl, simprocAttr, f_a, f_b, f_n, f_c, f_B, f_v, f_g, f_0, f_1, f_2, hT, hwi, hm]; intro w' hbel; refine Done.out ?_)
      | (clear hN N; first | (refine hN _ ?_; clear hN N) | (clear hN N; first | (refine hN _ ?_; clear hN N) | (clear hN N; first | (refine hN _ ?_; clear hN N) | (clear hN N; first | (refine hN _ ?_; clear hN N) | (clear hN N; first | (refine hN _ ?_; clear hN N) | (refine hN _ ?_; clear hN N))))))
      | (refine bif2.mk (fun hb => ?_) (fun hb => ?_) <;> (try simp only [hb, GA, ↓GB, List.filterMap_cons, eq_self, BEq.rfl, simprocAttr, hnt, hT, hm]) <;> ((first | cases hb | (simp only [decide_eq_true_eq, decide_eq_false_iff_not, beq_iff_eq, beq_eq_false_iff_ne, bne_iff_ne, Bool.and_eq_true, Bool.or_eq_true, Bool.not_eq_true', Bool.not_eq_false', Bool.and_eq_false_iff, Bool.or_eq_false_iff, Int.not_lt, Int.not_le] at hb) | skip) <;> (first | (exfalso; omega) | skip)))
      | (refine SX.block ?_)
      | (refine and_mk ?_ ?_; (focus first | decide | omega | rfl | assumption | (simp only [List.length_append, List.length_cons, List.length_nil, B_size]; omega) | (simp; done)))
      | (refine And.intro ?_ ?_))
    all_goals (try refine Done.mk ?_)
    all_goals first | exact hbel | exact ⟨rfl, hbel⟩
structure Th where
  r : Rs
  own : Bool
  nm : Nat
deriving Inhabited
theorem thing_no (t : Int) (s b : List UInt8) (q : Nat) (g : Bool) (nm : Nat) (w : World) : Calls Tryd.prog 46 #[.agg #[.int .i64 t, .string (B s), .int .u64 q, .bool g, .string (B b), .bool false, .int .u8 nm]] w
    fun x w' => x = .returned (.agg #[.int .i64 t, .string (B s), .int .u64 q, .bool g, .string (B b)]) ∧ Below w.heap.size w w' := by
  refine calls_pureK (args := [.agg #[.int .i64 t, .string (B s), .int .u64 q, .bool g, .string (B b), .bool false, .int .u8 nm]]) w Tryd.func46 rfl Tryd.ntmps46 (by simp) ?_
  intro X K hX hK
  have hnt : X.nt = 49 := by rw [hX]
  have hwi : X.wi = w := by rw [hX]
  have hP : X.P = Tryd.prog := by rw [hX]
  have hown : X.own = [] := by rw [hX]
  have hbl : X.base.length = 0 := by rw [hX]; rfl
  clear hX
  have hT : zeroCells X.P 89 = some [(Value.int IntKind.i64 0), (Value.string { data := #[] }), (Value.int IntKind.u64 0), (Value.bool false), (Value.string { data := #[] })] ∧ fieldOff X.P 96 1 = some 5 ∧ aggOf X.P 4 = some false ∧ szOf X.P 4 = some 1 ∧ fieldOff X.P 96 0 = some 0 ∧ aggOf X.P 89 = some true ∧ szOf X.P 89 = some 5 ∧ fieldOff X.P 89 0 = some 0 ∧ fieldOff X.P 26 0 = some 0 ∧ aggOf X.P 3 = some false ∧ szOf X.P 3 = some 1 ∧ X.P.underlying 3 = some (TypeDesc.int IntKind.i64) ∧ X.P.underlying 164 = some (TypeDesc.int IntKind.u64) ∧ isBytesT X.P 3 = false ∧ isStrT X.P 164 = false ∧ isBytesT X.P 164 = false ∧ isStrT X.P 3 = false ∧ fieldOff X.P 96 2 = some 6 ∧ aggOf X.P 5 = some false ∧ szOf X.P 5 = some 1 ∧ calleeOk X.P 105 = true ∧ fieldsOf X.P 26 = some [(0, 1), (1, 1)] ∧ zeroCells X.P 26 = some [(Value.int IntKind.i64 0), (Value.string { data := #[] })] ∧ fieldOff X.P 89 1 = some 2 ∧ aggOf X.P 22 = some false ∧ szOf X.P 22 = some 1 ∧ fieldOff X.P 89 2 = some 3 ∧ fieldOff X.P 89 3 = some 4 ∧ aggOf X.P 9 = some false ∧ szOf X.P 9 = some 1 ∧ X.P.underlying 9 = some TypeDesc.string ∧ isStrT X.P 9 = true ∧ fieldsOf X.P 89 = some [(0, 2), (2, 1), (3, 1), (4, 1)] := by rw [hP]; exact ⟨Ty.ze89, Ty.fo96_1, Ty.ag4, Ty.sz4, Ty.fo96_0, Ty.ag89, Ty.sz89, Ty.fo89_0, Ty.fo26_0, Ty.ag3, Ty.sz3, Tryd.underlying3, Tryd.underlying164, Ty.ib3, Ty.is164, Ty.ib164, Ty.is3, Ty.fo96_2, Ty.ag5, Ty.sz5, Ty.co105, Ty.fs26, Ty.ze26, Ty.fo89_1, Ty.ag22, Ty.sz22, Ty.fo89_2, Ty.fo89_3, Ty.ag9, Ty.sz9, Tryd.underlying9, Ty.is9, Ty.fs89⟩
  repeat' (first
    | (refine SX.seqK ?_; intro N hN)
    | ((first | (refine SX.ops ?_)); simp only [GA, ↓GB, List.filterMap_cons, eq_self, BEq.rfl, simprocAttr, hnt, hT])
    | ((first | refine SX.skip ?_ | refine SX.exit ?_ | refine SX.label ?_); try simp only [GA, ↓GB, List.filterMap_cons, eq_self, BEq.rfl, simprocAttr])
    | (refine SX.cond rfl (fun hb => ?_) (fun hb => ?_) <;> ((first | cases hb | (simp only [decide_eq_true_eq, decide_eq_false_iff_not, beq_iff_eq, beq_eq_false_iff_ne, bne_iff_ne, Bool.and_eq_true, Bool.or_eq_true, Bool.not_eq_true', Bool.not_eq_false', Bool.and_eq_false_iff, Bool.or_eq_false_iff, Int.not_lt, Int.not_le] at hb) | skip) <;> (first | (exfalso; omega) | skip)))
    | (refine SX.ret ?_; try simp only [GA, ↓GB, List.filterMap_cons, eq_self, BEq.rfl, simprocAttr])
    | (refine hN _ ?_; clear hN N)
    | (refine hK _ _ (Fin.res rfl hown ?_); simp only [GA, ↓GB, List.filterMap_cons, eq_self, BEq.rfl, simprocAttr, f_a, f_b, f_n, f_c, f_B, f_v, f_g, f_0, f_1, f_2, hT, hwi]; intro w' hbel; refine Done.out ?_)
    | (clear hN N; first | (refine hN _ ?_; clear hN N) | (clear hN N; first | (refine hN _ ?_; clear hN N) | (clear hN N; first | (refine hN _ ?_; clear hN N) | (clear hN N; first | (refine hN _ ?_; clear hN N) | (clear hN N; first | (refine hN _ ?_; clear hN N) | (refine hN _ ?_; clear hN N))))))
    | (refine bif2.mk (fun hb => ?_) (fun hb => ?_) <;> (try simp only [hb, GA, ↓GB, List.filterMap_cons, eq_self, BEq.rfl, simprocAttr, hnt, hT]) <;> ((first | cases hb | (simp only [decide_eq_true_eq, decide_eq_false_iff_not, beq_iff_eq, beq_eq_false_iff_ne, bne_iff_ne, Bool.and_eq_true, Bool.or_eq_true, Bool.not_eq_true', Bool.not_eq_false', Bool.and_eq_false_iff, Bool.or_eq_false_iff, Int.not_lt, Int.not_le] at hb) | skip) <;> (first | (exfalso; omega) | skip)))
    | (refine SX.block ?_)
    | (refine and_mk ?_ ?_; (focus first | decide | omega | rfl | assumption | (simp only [List.length_append, List.length_cons, List.length_nil, B_size]; omega) | (simp; done)))
    | (refine And.intro ?_ ?_))
  all_goals (try refine Done.mk ?_)
  all_goals first | exact hbel | exact ⟨rfl, hbel⟩
def tN (t : Int) : Nat := 1 + ((t % 18446744073709551616) % 5).toNat
def thG (g : Bool) (nm : Nat) : Bool := g && decide (nm % 4 = 0)
def thB (b : List UInt8) (g : Bool) (nm : Nat) : List UInt8 := if thG g nm = true then [] else b.take 200
theorem thing_yes (t : Int) (s b : List UInt8) (q : Nat) (g : Bool) (nm : Nat) (w : World) : Calls Tryd.prog 46 #[.agg #[.int .i64 t, .string (B s), .int .u64 q, .bool g, .string (B b), .bool true, .int .u8 nm]] w
    fun x w' => x = .returned (.agg #[.int .i64 (tN t), .string (B (wordL nm)), .int .u64 ((1 + q % 20 : Nat)), .bool (thG g nm), .string (B (thB b g nm))]) ∧ Below w.heap.size w w' := by
  have m0 : 0 ≤ t % 18446744073709551616 := Int.emod_nonneg _ (by decide)
  have h1 : IntKind.i64.wrap (1 + IntKind.i64.wrap ((IntKind.u64.wrap t).tmod 5)) = (tN t : Int) := by
    rw [IntKind.wrap_u64, Int.tmod_eq_emod_of_nonneg m0, wI64 (x := t % 18446744073709551616 % 5) (by omega) (by omega), wI64 (by omega) (by omega), tN]; omega
  have h2 : IntKind.u64.wrap (1 + (q : Int).tmod 20) = ((1 + q % 20 : Nat) : Int) := by
    rw [Int.tmod_eq_emod_of_nonneg (by omega), wU64 (by omega) (by omega)]; omega
  have h3 : ((nm : Int).tmod 4 == 0) = decide (nm % 4 = 0) := by
    rw [Int.tmod_eq_emod_of_nonneg (by omega)]
    by_cases h : nm % 4 = 0
    · rw [decide_eq_true h]; simp; omega
    · rw [decide_eq_false h]; simp; omega
  have h4 : (if 200 < (b.length : Int) then (200 : Int) else (b.length : Int)).toNat = min b.length 200 := by split <;> omega
  have h5 : b.take (min b.length 200) = b.take 200 := by rw [Nat.min_comm, ← List.take_take, List.take_length]
  refine calls_pureK (args := [.agg #[.int .i64 t, .string (B s), .int .u64 q, .bool g, .string (B b), .bool true, .int .u8 nm]]) w Tryd.func46 rfl Tryd.ntmps46 (by simp) ?_
  intro X K hX hK
  have hnt : X.nt = 49 := by rw [hX]
  have hwi : X.wi = w := by rw [hX]
  have hP : X.P = Tryd.prog := by rw [hX]
  have hown : X.own = [] := by rw [hX]
  have hbl : X.base.length = 0 := by rw [hX]; rfl
  clear hX
  have hT : zeroCells X.P 89 = some [(Value.int IntKind.i64 0), (Value.string { data := #[] }), (Value.int IntKind.u64 0), (Value.bool false), (Value.string { data := #[] })] ∧ fieldOff X.P 96 1 = some 5 ∧ aggOf X.P 4 = some false ∧ szOf X.P 4 = some 1 ∧ fieldOff X.P 96 0 = some 0 ∧ aggOf X.P 89 = some true ∧ szOf X.P 89 = some 5 ∧ fieldOff X.P 89 0 = some 0 ∧ fieldOff X.P 26 0 = some 0 ∧ aggOf X.P 3 = some false ∧ szOf X.P 3 = some 1 ∧ X.P.underlying 3 = some (TypeDesc.int IntKind.i64) ∧ X.P.underlying 164 = some (TypeDesc.int IntKind.u64) ∧ isBytesT X.P 3 = false ∧ isStrT X.P 164 = false ∧ isBytesT X.P 164 = false ∧ isStrT X.P 3 = false ∧ fieldOff X.P 96 2 = some 6 ∧ aggOf X.P 5 = some false ∧ szOf X.P 5 = some 1 ∧ calleeOk X.P 105 = true ∧ fieldsOf X.P 26 = some [(0, 1), (1, 1)] ∧ zeroCells X.P 26 = some [(Value.int IntKind.i64 0), (Value.string { data := #[] })] ∧ fieldOff X.P 89 1 = some 2 ∧ aggOf X.P 22 = some false ∧ szOf X.P 22 = some 1 ∧ fieldOff X.P 89 2 = some 3 ∧ fieldOff X.P 89 3 = some 4 ∧ aggOf X.P 9 = some false ∧ szOf X.P 9 = some 1 ∧ X.P.underlying 9 = some TypeDesc.string ∧ isStrT X.P 9 = true ∧ fieldsOf X.P 89 = some [(0, 2), (2, 1), (3, 1), (4, 1)] := by rw [hP]; exact ⟨Ty.ze89, Ty.fo96_1, Ty.ag4, Ty.sz4, Ty.fo96_0, Ty.ag89, Ty.sz89, Ty.fo89_0, Ty.fo26_0, Ty.ag3, Ty.sz3, Tryd.underlying3, Tryd.underlying164, Ty.ib3, Ty.is164, Ty.ib164, Ty.is3, Ty.fo96_2, Ty.ag5, Ty.sz5, Ty.co105, Ty.fs26, Ty.ze26, Ty.fo89_1, Ty.ag22, Ty.sz22, Ty.fo89_2, Ty.fo89_3, Ty.ag9, Ty.sz9, Tryd.underlying9, Ty.is9, Ty.fs89⟩
  repeat' (first
    | (refine SX.seqK ?_; intro N hN)
    | ((first | (refine SX.ops ?_) | (refine SX.planT (id := 3) [.q [(0, [1]), (1, [9]), (2, [10]), (3, [11]), (4, [12]), (5, [13]), (6, [14]), (7, [15]), (8, [1]), (9, [17]), (10, [18]), (11, [16, 19]), (12, [1]), (13, [21]), (14, [22]), (15, [23]), (16, [24]), (17, [1]), (18, [26]), (19, [27]), (20, [28]), (21, [1, 29]), (22, [30, 29]), (23, [31, 29]), (24, [32, 29]), (25, [29, 33]), (26, [1]), (27, [35]), (28, [36]), (29, [1]), (30, [38]), (31, [39]), (32, [40]), (33, [41]), (34, [37, 42]), (35, [20, 25, 34, 43])] (some (36, [])), .s 37] ?_ ?_ ?_; (focus first | (rw [hP]; kernel_rfl) | (rw [hU1P, hP]; kernel_rfl)); (focus kernel_rfl))); simp only [GA, ↓GB, List.filterMap_cons, eq_self, BEq.rfl, simprocAttr, hnt, hT, h1, h2, h3, h4, h5, Nat.sub_zero])
    | ((first | refine SX.skip ?_ | refine SX.exit ?_ | refine SX.label ?_); try simp only [GA, ↓GB, List.filterMap_cons, eq_self, BEq.rfl, simprocAttr])
    | (refine SX.cond rfl (fun hb => ?_) (fun hb => ?_) <;> ((first | cases hb | (simp only [decide_eq_true_eq, decide_eq_false_iff_not, beq_iff_eq, beq_eq_false_iff_ne, bne_iff_ne, Bool.and_eq_true, Bool.or_eq_true, Bool.not_eq_true', Bool.not_eq_false', Bool.and_eq_false_iff, Bool.or_eq_false_iff, Int.not_lt, Int.not_le] at hb) | skip) <;> (first | (exfalso; omega) | skip)))
    | (refine SX.ret ?_; try simp only [GA, ↓GB, List.filterMap_cons, eq_self, BEq.rfl, simprocAttr])
    | (refine hN _ ?_; clear hN N)
    | (refine hK _ _ (Fin.res rfl hown ?_); simp only [GA, ↓GB, List.filterMap_cons, eq_self, BEq.rfl, simprocAttr, f_a, f_b, f_n, f_c, f_B, f_v, f_g, f_0, f_1, f_2, hT, hwi, h1, h2, h3, h4, h5, Nat.sub_zero]; intro w' hbel; refine Done.out ?_)
    | (clear hN N; first | (refine hN _ ?_; clear hN N) | (clear hN N; first | (refine hN _ ?_; clear hN N) | (clear hN N; first | (refine hN _ ?_; clear hN N) | (clear hN N; first | (refine hN _ ?_; clear hN N) | (clear hN N; first | (refine hN _ ?_; clear hN N) | (refine hN _ ?_; clear hN N))))))
    | (refine bif2.mk (fun hb => ?_) (fun hb => ?_) <;> (try simp only [hb, GA, ↓GB, List.filterMap_cons, eq_self, BEq.rfl, simprocAttr, hnt, hT, h1, h2, h3, h4, h5, Nat.sub_zero]) <;> ((first | cases hb | (simp only [decide_eq_true_eq, decide_eq_false_iff_not, beq_iff_eq, beq_eq_false_iff_ne, bne_iff_ne, Bool.and_eq_true, Bool.or_eq_true, Bool.not_eq_true', Bool.not_eq_false', Bool.and_eq_false_iff, Bool.or_eq_false_iff, Int.not_lt, Int.not_le] at hb) | skip) <;> (first | (exfalso; omega) | skip)))
    | ((first | (refine CallVC.pv hP (word_any nm) rfl ?_) | (refine CallQ.pv hP (word_any nm) rfl ?_)); simp only [GA, ↓GB, List.filterMap_cons, eq_self, BEq.rfl, simprocAttr, hnt, hT, h1, h2, h3, h4, h5, Nat.sub_zero])
    | (refine SX.block ?_)
    | (refine and_mk ?_ ?_; (focus first | decide | omega | rfl | assumption | (simp only [List.length_append, List.length_cons, List.length_nil, B_size]; omega) | (simp; done)))
    | (refine And.intro ?_ ?_))
  all_goals (try refine Done.mk ?_)
  all_goals first
    | exact hbel
    | (refine ⟨?_, hbel⟩; clear hK hT hP hnt hwi hown hbl; simp_all [thG, thB])
end Go.Proofs.YtbdacbcpniegiaaDoor.Q
namespace Go.Proofs.YtbdacbcpniegiaaDoor.Q
open Go Go.RowKit Go.Proofs Go.Sx
set_option maxHeartbeats 4000000
set_option maxRecDepth 100000
set_option linter.unusedSimpArgs false
set_option linter.unusedVariables false
def thL (r : Rs) (nm : Nat) : Rs := ⟨tN r.t, wordL nm, 1 + r.q % 20, thG r.g nm, thB r.b r.g nm⟩
end Go.Proofs.YtbdacbcpniegiaaDoor.Q
namespace Go.Proofs.YtbdacbcpniegiaaDoor.Q
open Go Go.RowKit Go.Proofs Go.Sx
set_option maxHeartbeats 4000000
set_option maxRecDepth 100000
set_option linter.unusedSimpArgs false
set_option linter.unusedVariables false
end Go.Proofs.YtbdacbcpniegiaaDoor.Q
namespace Go.Proofs.YtbdacbcpniegiaaDoor.Q
open Go Go.RowKit Go.Proofs Go.Sx Go.ChangeShapes
set_option maxRecDepth 100000
set_option linter.unusedSimpArgs false
set_option linter.unusedVariables false
theorem star : "*" ++ "errors.errorString" = "*errors.errorString" := by decide
theorem row253 (u : TypeId) (h : Tryd.prog.typeName? 3 u = some "*errors.errorString") : u = 253 :=
  typeName_ptr_named (nm := "errors.errorString") (by rw [star]; kernel_rfl) (by kernel_rfl) (by decide) u (by rw [star]; exact h)
theorem nShort : Tryd.prog.globalNamed "noria/wire.errShort" = some 2 := by kernel_rfl
theorem nWrong : Tryd.prog.globalNamed "noria/wire.errWrong" = some 3 := by kernel_rfl
theorem tShort : (Tryd.prog.globals[2]?).map (·.type) = some 125 := by kernel_rfl
theorem tWrong : (Tryd.prog.globals[3]?).map (·.type) = some 125 := by kernel_rfl
theorem c277 : Tryd.prog.cellsOf 277 = 1 := by kernel_rfl
theorem c9 : Tryd.prog.cellsOf 9 = 1 := by kernel_rfl
theorem gw_of_laid {W : World} {n0 n3 : String} {d0 d3 : DataW Unit} (h : laidMet Tryd.prog [(n0, d0), ("noria/wire.errShort", Rows.laid_noria_wire_errShort), ("noria/wire.errWrong", Rows.laid_noria_wire_errWrong), (n3, d3)] W) :
    ∃ e : EA, e.Ok ∧ ∀ p ∈ GW e, W.cell? p.1 = some p.2 ∧ loneStr W p := by
  obtain ⟨ps, ⟨gx, tx, csx, fx, px, qx, hgx, htx, hvx, hdx, ⟨g0, t0, cs0, f0, p0, q0, hg0, ht0, hv0, hd0, ⟨g1, t1, cs1, f1, p1, q1, hg1, ht1, hv1, hd1, hq1, e1⟩, e0⟩, ex⟩, hnd, hrows⟩ := h
  obtain rfl := Option.some.inj (nShort.symm.trans hg0)
  obtain rfl := Option.some.inj (nWrong.symm.trans hg1)
  obtain rfl := Option.some.inj (tShort.symm.trans ht0)
  obtain rfl := Option.some.inj (tWrong.symm.trans ht1)
  subst e1
  subst e0
  subst ex
  obtain ⟨l0⟩ := cs0
  obtain ⟨l1⟩ := cs1
  have ok0 : ∀ u v, l0 = [.iface u v] → Value.okWide Tryd.prog W .any 0 u v := fun u v e => by
    subst e
    exact (hrows 2 0 (by simp [MemPlace.row])).2 u v (by simpa using World.var?_cell hg0 hv0 0)
  have ok1 : ∀ u v, l1 = [.iface u v] → Value.okWide Tryd.prog W .any 0 u v := fun u v e => by
    subst e
    exact (hrows 3 0 (by simp [MemPlace.row])).2 u v (by simpa using World.var?_cell hg1 hv1 0)
  obtain ⟨a0, s0, rfl, hc0, hs0, hz0, rfl⟩ := errorString_of_trod Tryd.underlying125 row253 Tryd.underlying253 Tryd.underlying277 rfl rfl Tryd.underlying9 c277 c9 hd0 ok0
  obtain ⟨a1, s1, rfl, hc1, hs1, hz1, rfl⟩ := errorString_of_trod Tryd.underlying125 row253 Tryd.underlying253 Tryd.underlying277 rfl rfl Tryd.underlying9 c277 c9 hd1 ok1
  obtain ⟨b0, u0, hb0⟩ := (hrows a0.block a0.off (by simp [MemPlace.row])).1
  obtain ⟨b1, u1, hb1⟩ := (hrows a1.block a1.off (by simp [MemPlace.row])).1
  have hx0 : W.cell? ⟨2, 0, none⟩ = some (errV a0) := by simpa using World.var?_cell hg0 hv0 0
  have hx1 : W.cell? ⟨3, 0, none⟩ = some (errV a1) := by simpa using World.var?_cell hg1 hv1 0
  have key : ∀ (s : ByteArray) (l : List UInt8), s.data.toList = l → s = B l := fun s l h => by
    obtain ⟨⟨x⟩⟩ := s
    have h : x = l := h
    rw [h]; rfl
  have es0 : s0 = B tS := key _ _ hs0
  have es1 : s1 = B tW := key _ _ hs1
  rw [es0] at hc0
  rw [es1] at hc1
  refine ⟨⟨⟨0, 0, none⟩, ⟨1, 0, none⟩, a0, a1⟩, ⟨by simp, ?_⟩, ?_⟩
  · show a0 ≠ a1
    rintro rfl
    have h2 := (List.nodup_append.1 hnd).2.1
    simp [MemPlace.row] at h2
  · intro p hp
    simp only [GW, List.mem_cons, List.not_mem_nil, or_false] at hp
    rcases hp with rfl | rfl | rfl | rfl
    · exact ⟨hx0, trivial⟩
    · exact ⟨hx1, trivial⟩
    · exact ⟨hc0, _, _, hb0⟩
    · exact ⟨hc1, _, _, hb1⟩
end Go.Proofs.YtbdacbcpniegiaaDoor.Q
namespace Go.Proofs.YtbdacbcpniegiaaDoor.Q
open Go Go.RowKit Go.Proofs Go.Sx
set_option maxRecDepth 100000
set_option linter.unusedSimpArgs false
set_option linter.unusedVariables false
end Go.Proofs.YtbdacbcpniegiaaDoor.Q
namespace Go.Proofs.YtbdacbcpniegiaaDoor.Q
open Go Go.RowKit Go.ChangeShapes Go.WideShapes Go.ChangeAt Go.Sx Go.Proofs.YtbdacbcpniegiaaDoor
set_option linter.unusedSimpArgs false
set_option linter.unusedVariables false
set_option maxRecDepth 100000
structure RsOk (r : Rs) : Prop where
  t0 : -9223372036854775808 ≤ r.t
  t1 : r.t < 9223372036854775808
  s : r.s.length ≤ 9223372036854775807
  q : r.q < 18446744073709551616
  b : r.b.length ≤ 9223372036854775807
def Th.cells (x : Th) : List Value := x.r.cells ++ [.bool x.own, .int .u8 (x.nm : Int)]
structure Th.Ok (x : Th) : Prop where
  r : RsOk x.r
  nm : x.nm < 256
theorem key_cells {H : Type} {enc : TypeId × Value → H} {W : World} {sp : Nat → Bool} {held : Bool} {n base : Nat} {cs : List Value} {x : DataW H × List MemPlace}
    (h : DataW.trod enc Tryd.prog W base sp held n 26 cs = some x) : ∃ (t : Int) (s : List UInt8), -9223372036854775808 ≤ t ∧ t < 9223372036854775808 ∧ s.length ≤ 9223372036854775807 ∧ cs = [.int .i64 t, .string (B s)] := by
  obtain ⟨zs, m2, rfl, _, hl2, hzs, hf2⟩ := DataW.trod_struct Tryd.underlying26 h
  have c26 : Tryd.prog.cellsOf 26 = 2 := by kernel_rfl
  have c3 : Tryd.prog.cellsOf 3 = 1 := by kernel_rfl
  have c9 : Tryd.prog.cellsOf 9 = 1 := by kernel_rfl
  rw [c26] at hl2
  have k0 : DataW.trod enc Tryd.prog W base sp held m2 3 ((cs.drop 0).take (Tryd.prog.cellsOf 3)) = zs[0]? := hf2 0 _ rfl
  have k1 : DataW.trod enc Tryd.prog W base sp held m2 9 ((cs.drop 1).take (Tryd.prog.cellsOf 9)) = zs[1]? := hf2 1 _ rfl
  have hz2 : zs.length = 2 := hzs
  rw [c3, List.getElem?_eq_getElem (by omega)] at k0
  rw [c9, List.getElem?_eq_getElem (by omega)] at k1
  obtain ⟨a2, e2, _, w2⟩ := DataW.trod_int Tryd.underlying3 k0
  obtain ⟨a3, e3, _, w3⟩ := DataW.trod_string Tryd.underlying9 k1
  have f2 := at1 e2
  have f3 := at1 e3
  have b2 := i64_of w2
  refine ⟨a2, a3.data.toList, b2.1, b2.2, by simpa [maxLen] using w3, ?_⟩
  match cs, hl2 with
  | [x0, x1], _ =>
    simp only [List.getElem?_cons_zero, List.getElem?_cons_succ, Option.some.injEq] at f2 f3
    subst f2 f3
    simp only [B_data]
theorem res_cells {H : Type} {enc : TypeId × Value → H} {W : World} {sp : Nat → Bool} {held : Bool} {n base : Nat} {cs : List Value} {x : DataW H × List MemPlace}
    (h : DataW.trod enc Tryd.prog W base sp held n 89 cs = some x) : ∃ r : Rs, RsOk r ∧ cs = r.cells := by
  obtain ⟨ys, m, rfl, _, hl, hys, hf⟩ := DataW.trod_struct Tryd.underlying89 h
  have c89 : Tryd.prog.cellsOf 89 = 5 := by kernel_rfl
  have c26 : Tryd.prog.cellsOf 26 = 2 := by kernel_rfl
  have c9 : Tryd.prog.cellsOf 9 = 1 := by kernel_rfl
  have c22 : Tryd.prog.cellsOf 22 = 1 := by kernel_rfl
  have c4 : Tryd.prog.cellsOf 4 = 1 := by kernel_rfl
  rw [c89] at hl
  have g2 : DataW.trod enc Tryd.prog W base sp held m 26 ((cs.drop 0).take (Tryd.prog.cellsOf 26)) = ys[0]? := hf 0 _ rfl
  have g3 : DataW.trod enc Tryd.prog W base sp held m 22 ((cs.drop 2).take (Tryd.prog.cellsOf 22)) = ys[1]? := hf 1 _ rfl
  have g4 : DataW.trod enc Tryd.prog W base sp held m 4 ((cs.drop 3).take (Tryd.prog.cellsOf 4)) = ys[2]? := hf 2 _ rfl
  have g5 : DataW.trod enc Tryd.prog W base sp held m 9 ((cs.drop 4).take (Tryd.prog.cellsOf 9)) = ys[3]? := hf 3 _ rfl
  have hy4 : ys.length = 4 := hys
  rw [c26, List.getElem?_eq_getElem (by omega)] at g2
  rw [c22, List.getElem?_eq_getElem (by omega)] at g3
  rw [c4, List.getElem?_eq_getElem (by omega)] at g4
  rw [c9, List.getElem?_eq_getElem (by omega)] at g5
  obtain ⟨a2, a3, t0, t1, w3, ek⟩ := key_cells g2
  obtain ⟨a4, e4, _, w4⟩ := DataW.trod_int Tryd.underlying22 g3
  obtain ⟨a5, e5, _⟩ := DataW.trod_bool Tryd.underlying4 g4
  obtain ⟨a6, e6, _, w6⟩ := DataW.trod_string Tryd.underlying9 g5
  have f4 := at1 e4
  have f5 := at1 e5
  have f6 := at1 e6
  have b4 := u64_of w4
  have r4 : ((a4.toNat : Nat) : Int) = a4 := by omega
  refine ⟨⟨a2, a3, a4.toNat, a5, a6.data.toList⟩, ⟨t0, t1, w3, by show a4.toNat < 18446744073709551616; omega, by simpa [maxLen] using w6⟩, ?_⟩
  match cs, hl with
  | [x0, x1, x2, x3, x4], _ =>
    simp only [List.getElem?_cons_zero, List.getElem?_cons_succ, Option.some.injEq] at f4 f5 f6
    have ek : [x0, x1] = [.int .i64 a2, .string (B a3)] := ek
    injection ek with e0 ek
    injection ek with e1 _
    subst f4 f5 f6 e0 e1
    simp only [Rs.cells, B_data, r4]
theorem thing_cells {H : Type} {enc : TypeId × Value → H} {W : World} {sp : Nat → Bool} {held : Bool} {n base : Nat} {cs : List Value} {x : DataW H × List MemPlace}
    (h : DataW.trod enc Tryd.prog W base sp held n 96 cs = some x) : ∃ y : Th, y.Ok ∧ cs = y.cells := by
  obtain ⟨ys, m, rfl, _, hl, hys, hf⟩ := DataW.trod_struct Tryd.underlying96 h
  have c96 : Tryd.prog.cellsOf 96 = 7 := by kernel_rfl
  have c89 : Tryd.prog.cellsOf 89 = 5 := by kernel_rfl
  have c5 : Tryd.prog.cellsOf 5 = 1 := by kernel_rfl
  have c4 : Tryd.prog.cellsOf 4 = 1 := by kernel_rfl
  rw [c96] at hl
  have g0 : DataW.trod enc Tryd.prog W base sp held m 89 ((cs.drop 0).take (Tryd.prog.cellsOf 89)) = ys[0]? := hf 0 _ rfl
  have g1 : DataW.trod enc Tryd.prog W base sp held m 4 ((cs.drop 5).take (Tryd.prog.cellsOf 4)) = ys[1]? := hf 1 _ rfl
  have g2 : DataW.trod enc Tryd.prog W base sp held m 5 ((cs.drop 6).take (Tryd.prog.cellsOf 5)) = ys[2]? := hf 2 _ rfl
  have hy3 : ys.length = 3 := hys
  rw [c89, List.getElem?_eq_getElem (by omega)] at g0
  rw [c4, List.getElem?_eq_getElem (by omega)] at g1
  rw [c5, List.getElem?_eq_getElem (by omega)] at g2
  obtain ⟨r, hok, hr⟩ := res_cells g0
  obtain ⟨a5, e5, _⟩ := DataW.trod_bool Tryd.underlying4 g1
  obtain ⟨a6, e6, _, w6⟩ := DataW.trod_int Tryd.underlying5 g2
  have f5 := at1 e5
  have f6 := at1 e6
  have b6 := u8_of w6
  have r6 : ((a6.toNat : Nat) : Int) = a6 := by omega
  refine ⟨⟨r, a5, a6.toNat⟩, ⟨hok, by show a6.toNat < 256; omega⟩, ?_⟩
  match cs, hl with
  | [x0, x1, x2, x3, x4, x5, x6], _ =>
    simp only [List.getElem?_cons_zero, List.getElem?_cons_succ, Option.some.injEq] at f5 f6
    subst f5 f6
    simp only [Th.cells, r6, ← hr]
    rfl
theorem thing_in {H : Type} {enc : TypeId × Value → H} {W : World} {cs : Array Value} {d : DataW H} {p : List MemPlace} (h : DataW.Trod enc Tryd.prog W 0 (fun _ => true) true 96 (.agg cs) d p) : ∃ y : Th, y.Ok ∧ cs = y.cells.toArray := by
  obtain ⟨m, hm⟩ := h
  obtain ⟨y, hy, e⟩ := thing_cells hm
  have e : cs.toList = y.cells := e
  exact ⟨y, hy, by rw [← e]⟩
theorem key_in {H : Type} {enc : TypeId × Value → H} {W : World} {cs : Array Value} {d : DataW H} {p : List MemPlace} (h : DataW.Trod enc Tryd.prog W 0 (fun _ => true) true 26 (.agg cs) d p) : ∃ (t : Int) (s : List UInt8), -9223372036854775808 ≤ t ∧ t < 9223372036854775808 ∧ s.length ≤ 9223372036854775807 ∧ cs = #[.int .i64 t, .string (B s)] := by
  obtain ⟨m, hm⟩ := h
  obtain ⟨t, s, h1, h2, h3, e⟩ := key_cells hm
  have e : cs.toList = [.int .i64 t, .string (B s)] := e
  exact ⟨t, s, h1, h2, h3, by rw [← Array.toArray_toList (xs := cs), e]⟩
theorem thingRow {H : Type} {enc : TypeId × Value → H} {W : World} {a : Option Addr} {len cap : Nat} {d : DataW H} {p : List MemPlace} (h : DataW.Trod enc Tryd.prog W 0 (fun _ => true) true 106 (.slice a len cap) d p) :
    ∃ xs : List Th, len = xs.length ∧ (∀ x ∈ xs, x.Ok) ∧ ∀ i, i < xs.length → ∃ ad, a = some ad ∧ ∀ j v, (xs.getD i default).cells[j]? = some v → W.cell? (ad.add (i * 7 + j)) = some v := by
  obtain ⟨fuel, hf⟩ := h
  have c96 : Tryd.prog.cellsOf 96 = 7 := by kernel_rfl
  rcases Go.Deep.open_slice Tryd.underlying106 hf with ⟨hcs, _⟩ | ⟨x, l, c, m, n, D, Pl, hcs, _, hl, hm, em, _, hel⟩
  · simp [Value.cells] at hcs
    obtain ⟨rfl, rfl, rfl⟩ := hcs
    exact ⟨[], rfl, fun x hx => (by cases hx), fun i hi => by simp at hi⟩
  · simp [Value.cells] at hcs
    obtain ⟨rfl, rfl, rfl⟩ := hcs
    have em' : m = cap := by simpa using em
    subst em'
    have hel2 : ∀ i, i < len → ∃ dd : Th, dd.Ok ∧ ∀ j v, dd.cells[j]? = some v → W.cell? (x.add (i * 7 + j)) = some v := fun i hi => by
      obtain ⟨cs', h1, h2⟩ := hel i (by omega)
      obtain ⟨dd, hd, rfl⟩ := thing_cells h2
      refine ⟨dd, hd, fun j v hj => ?_⟩
      rw [c96] at h1
      unfold World.cells? at h1
      rw [if_pos (Nat.zero_le _)] at h1
      have hlt : j < 7 := by
        have := (List.getElem?_eq_some_iff.1 hj).1
        simpa [Th.cells, Rs.cells] using this
      have := mapM_some_get h1 j j (List.getElem?_range hlt)
      rw [hj, Deep.add_add] at this
      exact this
    obtain ⟨f, hf⟩ := Classical.axiomOfChoice (fun i : { i : Nat // i < len } => hel2 i.1 i.2)
    refine ⟨(List.range len).map fun i => if h : i < len then f ⟨i, h⟩ else default, by simp, fun y hy => ?_, fun i hi => ⟨x, rfl, fun j v hj => ?_⟩⟩
    · obtain ⟨i, hi, rfl⟩ := List.mem_map.1 hy
      have hi' : i < len := List.mem_range.1 hi
      rw [dif_pos hi']
      exact (hf ⟨i, hi'⟩).1
    · have hi' : i < len := by simpa using hi
      have e : ((List.range len).map fun i => if h : i < len then f ⟨i, h⟩ else default).getD i default = f ⟨i, hi'⟩ := by
        rw [List.getD_eq_getElem?_getD, List.getElem?_map, List.getElem?_range hi']
        simp [hi']
      rw [e] at hj
      exact (hf ⟨i, hi'⟩).2 j v hj
end Go.Proofs.YtbdacbcpniegiaaDoor.Q
