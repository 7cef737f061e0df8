/- Own work: a part of the symbolic executor and of the walks of the functions that the claim reaches. -/
import Derived.Test.YtbdacbcpniegiaaDoorBase3
namespace Go.Proofs.YtbdacbcpniegiaaDoor
open Go Go.RowKit Go.Proofs Go.Sx
set_option maxHeartbeats 4000000
set_option maxRecDepth 100000
set_option linter.unusedSimpArgs false
set_option linter.unusedVariables false
def numB (num n : Nat) : List UInt8 := NW.varint (num * 8) ++ NW.varint n
def textB (num : Nat) (s : List UInt8) : List UInt8 := NW.varint (num * 8 + 2) ++ NW.varint s.length ++ s
theorem put_num (num n : Nat) (h1 : 1 ≤ num) (h2 : num < 536870912) (hn : n < 18446744073709551616) (w : World) :
    Calls Tryd.prog 74 #[.agg #[.int .i64 num, .int .i64 0, .int .u64 n, .string (B [])]] w fun e w' => e = .returned (.tuple #[.string (B (numB num n)), .bool true]) ∧ Below w.heap.size w w' := by
  have g1 : decide ((num : Int) < 1) = false := by simp; omega
  have g2 : decide ((536870912 : Int) ≤ num) = false := by simp; omega
  have hl1 := NW.varint_len10 (n := num * 8) (by omega)
  have hl2 := NW.varint_len10 (n := n) (by omega)
  have e1 : IntKind.u64.wrap (IntKind.i64.wrap (IntKind.i64.wrap ((num : Int) * 8) + 0)) = ((num * 8 : Nat) : Int) := by
    rw [wI64 (x := (num : Int) * 8) (by omega) (by omega), wI64 (by omega) (by omega), wU64 (by omega) (by omega)]; omega
  refine calls_pureK (args := [.agg #[.int .i64 num, .int .i64 0, .int .u64 n, .string (B [])]]) w Tryd.func74 rfl Tryd.ntmps74 (by simp) ?_
  intro X K hX hK
  have hnt : X.nt = 81 := by rw [hX]
  have hwi : X.wi = w := by rw [hX]
  have hP : X.P = Tryd.prog := by rw [hX]
  have hown : X.own = [] := by rw [hX]
  have hbl : X.base.length = 0 := by rw [hX]; rfl
  clear hX
  have hT : fieldOff X.P 143 0 = some 0 ∧ aggOf X.P 3 = some false ∧ szOf X.P 3 = some 1 ∧ fieldOff X.P 143 1 = some 1 ∧ fieldOff X.P 143 2 = some 2 ∧ aggOf X.P 22 = some false ∧ szOf X.P 22 = some 1 ∧ calleeOk X.P 127 = true ∧ mapInf X.P 174 = some ((TypeDesc.int IntKind.i64), (Value.int IntKind.i64 0)) ∧ fieldOff X.P 143 3 = some 3 ∧ aggOf X.P 9 = some false ∧ szOf X.P 9 = some 1 ∧ X.P.underlying 9 = some TypeDesc.string ∧ X.P.underlying 3 = some (TypeDesc.int IntKind.i64) ∧ X.P.underlying 22 = some (TypeDesc.int IntKind.u64) ∧ isBytesT X.P 3 = false ∧ isStrT X.P 22 = false ∧ calleeOk X.P 128 = true := by rw [hP]; exact ⟨Ty.fo143_0, Ty.ag3, Ty.sz3, Ty.fo143_1, Ty.fo143_2, Ty.ag22, Ty.sz22, Ty.co127, Ty.mi174, Ty.fo143_3, Ty.ag9, Ty.sz9, Tryd.underlying9, Tryd.underlying3, Tryd.underlying22, Ty.ib3, Ty.is22, Ty.co128⟩
  have hnt1 := True.intro; have hT1 := True.intro; have hU1P := True.intro
  repeat' (first
    | (refine SX.seqK ?_; intro N hN)
    | ((first | (refine SX.ops ?_)); simp only [GA, ↓GB, List.filterMap_cons, eq_self, BEq.rfl, simprocAttr, hnt, hT, hnt1, hT1, hU1P, g1, g2, e1])
    | ((first | refine SX.skip ?_ | refine SX.exit ?_ | refine SX.label ?_); try simp only [GA, ↓GB, List.filterMap_cons, eq_self, BEq.rfl, simprocAttr])
    | (refine SX.cond rfl (fun hb => ?_) (fun hb => ?_) <;> ((first | cases hb | (simp only [decide_eq_true_eq, decide_eq_false_iff_not, beq_iff_eq, beq_eq_false_iff_ne, bne_iff_ne, Bool.and_eq_true, Bool.or_eq_true, Bool.not_eq_true', Bool.not_eq_false', Bool.and_eq_false_iff, Bool.or_eq_false_iff, Int.not_lt, Int.not_le] at hb) | skip) <;> (first | (exfalso; omega) | skip)))
    | (refine SX.ret ?_; try simp only [GA, ↓GB, List.filterMap_cons, eq_self, BEq.rfl, simprocAttr])
    | (refine hN _ ?_; clear hN N)
    | ((first | refine hK1 _ _ (FinI.ret3 ?_) | refine hK1 _ _ (FinI.nrm3 ?_)); (repeat (clear hN N)); clear hK1 K1; simp only [GA, ↓GB, List.filterMap_cons, eq_self, BEq.rfl, simprocAttr, finP_s, hnt, hT, hnt1, hT1, hU1P, g1, g2, e1])
    | (refine hK _ _ (Fin.res rfl hown ?_); simp only [GA, ↓GB, List.filterMap_cons, eq_self, BEq.rfl, simprocAttr, f_a, f_b, f_n, f_c, f_B, f_v, f_g, f_0, f_1, f_2, hT, hwi, hnt1, hT1, hU1P, g1, g2, e1]; intro w' hbel; refine Done.out ?_)
    | (clear hN N; first | (refine hN _ ?_; clear hN N) | (clear hN N; first | (refine hN _ ?_; clear hN N) | (clear hN N; first | (refine hN _ ?_; clear hN N) | (clear hN N; first | (refine hN _ ?_; clear hN N) | (clear hN N; first | (refine hN _ ?_; clear hN N) | (refine hN _ ?_; clear hN N))))))
    | (refine bif2.mk (fun hb => ?_) (fun hb => ?_) <;> (try simp only [hb, GA, ↓GB, List.filterMap_cons, eq_self, BEq.rfl, simprocAttr, hnt, hT, hnt1, hT1, hU1P, g1, g2, e1]) <;> ((first | cases hb | (simp only [decide_eq_true_eq, decide_eq_false_iff_not, beq_iff_eq, beq_eq_false_iff_ne, bne_iff_ne, Bool.and_eq_true, Bool.or_eq_true, Bool.not_eq_true', Bool.not_eq_false', Bool.and_eq_false_iff, Bool.or_eq_false_iff, Int.not_lt, Int.not_le] at hb) | skip) <;> (first | (exfalso; omega) | skip)))
    | ((first | (refine CallVC.pv hP (varint_any (num * 8) (by omega)) rfl ?_) | (refine CallQ.pv hP (varint_any (num * 8) (by omega)) rfl ?_) | (refine CallVC.pv hP (varint_any n hn) rfl ?_) | (refine CallQ.pv hP (varint_any n hn) rfl ?_)); simp only [GA, ↓GB, List.filterMap_cons, eq_self, BEq.rfl, simprocAttr, hnt, hT, hnt1, hT1, hU1P, g1, g2, e1])
    | (refine CallVC.inline (f := 127) ?_ rfl Tryd.ntmps127 rfl ?_ ?_; (focus rw [hP]; exact Tryd.func127); (focus simp); have hT1 : mapInf X.P 174 = some ((TypeDesc.int IntKind.i64), (Value.int IntKind.i64 0)) := (by rw [hP]; exact Ty.mi174); intro X1 K1 hU1 hnt1 hbl1 hK1; have hU1P := hU1.P; simp only [GA, ↓GB, List.filterMap_cons, eq_self, BEq.rfl, simprocAttr] at hbl1 ⊢)
    | ((first | (refine CallVC.pv (hU1P.trans hP) (varint_any (num * 8) (by omega)) rfl ?_) | (refine CallQ.pv (hU1P.trans hP) (varint_any (num * 8) (by omega)) rfl ?_) | (refine CallVC.pv (hU1P.trans hP) (varint_any n hn) rfl ?_) | (refine CallQ.pv (hU1P.trans hP) (varint_any n hn) rfl ?_)); simp only [GA, ↓GB, List.filterMap_cons, eq_self, BEq.rfl, simprocAttr, hnt, hT, hnt1, hT1, hU1P, g1, g2, e1])
    | (refine SX.block ?_)
    | (refine and_mk ?_ ?_; (focus first | decide | omega | rfl | assumption | (simp only [List.length_append, List.length_cons, List.length_nil, B_size]; omega) | (simp; done)))
    | (refine And.intro ?_ ?_))
  all_goals (try refine Done.mk ?_)
  all_goals first | exact hbel | exact ⟨by simp [numB], hbel⟩
theorem put_text (num : Nat) (s : List UInt8) (h1 : 1 ≤ num) (h2 : num < 536870912) (hs : s.length < 1152921504606846976) (w : World) :
    Calls Tryd.prog 74 #[.agg #[.int .i64 num, .int .i64 2, .int .u64 0, .string (B s)]] w fun e w' => e = .returned (.tuple #[.string (B (textB num s)), .bool true]) ∧ Below w.heap.size w w' := by
  have g1 : decide ((num : Int) < 1) = false := by simp; omega
  have g2 : decide ((536870912 : Int) ≤ num) = false := by simp; omega
  have hl1 := NW.varint_len10 (n := num * 8 + 2) (by omega)
  have hl2 := NW.varint_len10 (n := s.length) (by omega)
  have e1 : IntKind.u64.wrap (IntKind.i64.wrap (IntKind.i64.wrap ((num : Int) * 8) + 2)) = ((num * 8 + 2 : Nat) : Int) := by
    rw [wI64 (x := (num : Int) * 8) (by omega) (by omega), wI64 (by omega) (by omega), wU64 (by omega) (by omega)]; omega
  have e2 : IntKind.u64.wrap (s.length : Int) = (s.length : Int) := wU64 (by omega) (by omega)
  refine calls_pureK (args := [.agg #[.int .i64 num, .int .i64 2, .int .u64 0, .string (B s)]]) w Tryd.func74 rfl Tryd.ntmps74 (by simp) ?_
  intro X K hX hK
  have hnt : X.nt = 81 := by rw [hX]
  have hwi : X.wi = w := by rw [hX]
  have hP : X.P = Tryd.prog := by rw [hX]
  have hown : X.own = [] := by rw [hX]
  have hbl : X.base.length = 0 := by rw [hX]; rfl
  clear hX
  have hT : fieldOff X.P 143 0 = some 0 ∧ aggOf X.P 3 = some false ∧ szOf X.P 3 = some 1 ∧ fieldOff X.P 143 1 = some 1 ∧ fieldOff X.P 143 2 = some 2 ∧ aggOf X.P 22 = some false ∧ szOf X.P 22 = some 1 ∧ calleeOk X.P 127 = true ∧ mapInf X.P 174 = some ((TypeDesc.int IntKind.i64), (Value.int IntKind.i64 0)) ∧ fieldOff X.P 143 3 = some 3 ∧ aggOf X.P 9 = some false ∧ szOf X.P 9 = some 1 ∧ X.P.underlying 9 = some TypeDesc.string ∧ X.P.underlying 3 = some (TypeDesc.int IntKind.i64) ∧ X.P.underlying 22 = some (TypeDesc.int IntKind.u64) ∧ isBytesT X.P 3 = false ∧ isStrT X.P 22 = false ∧ calleeOk X.P 128 = true := by rw [hP]; exact ⟨Ty.fo143_0, Ty.ag3, Ty.sz3, Ty.fo143_1, Ty.fo143_2, Ty.ag22, Ty.sz22, Ty.co127, Ty.mi174, Ty.fo143_3, Ty.ag9, Ty.sz9, Tryd.underlying9, Tryd.underlying3, Tryd.underlying22, Ty.ib3, Ty.is22, Ty.co128⟩
  have hnt1 := True.intro; have hT1 := True.intro; have hU1P := True.intro
  repeat' (first
    | (refine SX.seqK ?_; intro N hN)
    | ((first | (refine SX.ops ?_)); simp only [GA, ↓GB, List.filterMap_cons, eq_self, BEq.rfl, simprocAttr, hnt, hT, hnt1, hT1, hU1P, g1, g2, e1, e2])
    | ((first | refine SX.skip ?_ | refine SX.exit ?_ | refine SX.label ?_); try simp only [GA, ↓GB, List.filterMap_cons, eq_self, BEq.rfl, simprocAttr])
    | (refine SX.cond rfl (fun hb => ?_) (fun hb => ?_) <;> ((first | cases hb | (simp only [decide_eq_true_eq, decide_eq_false_iff_not, beq_iff_eq, beq_eq_false_iff_ne, bne_iff_ne, Bool.and_eq_true, Bool.or_eq_true, Bool.not_eq_true', Bool.not_eq_false', Bool.and_eq_false_iff, Bool.or_eq_false_iff, Int.not_lt, Int.not_le] at hb) | skip) <;> (first | (exfalso; omega) | skip)))
    | (refine SX.ret ?_; try simp only [GA, ↓GB, List.filterMap_cons, eq_self, BEq.rfl, simprocAttr])
    | (refine hN _ ?_; clear hN N)
    | ((first | refine hK1 _ _ (FinI.ret3 ?_) | refine hK1 _ _ (FinI.nrm3 ?_)); (repeat (clear hN N)); clear hK1 K1; simp only [GA, ↓GB, List.filterMap_cons, eq_self, BEq.rfl, simprocAttr, finP_s, hnt, hT, hnt1, hT1, hU1P, g1, g2, e1, e2])
    | (refine hK _ _ (Fin.res rfl hown ?_); simp only [GA, ↓GB, List.filterMap_cons, eq_self, BEq.rfl, simprocAttr, f_a, f_b, f_n, f_c, f_B, f_v, f_g, f_0, f_1, f_2, hT, hwi, hnt1, hT1, hU1P, g1, g2, e1, e2]; intro w' hbel; refine Done.out ?_)
    | (clear hN N; first | (refine hN _ ?_; clear hN N) | (clear hN N; first | (refine hN _ ?_; clear hN N) | (clear hN N; first | (refine hN _ ?_; clear hN N) | (clear hN N; first | (refine hN _ ?_; clear hN N) | (clear hN N; first | (refine hN _ ?_; clear hN N) | (refine hN _ ?_; clear hN N))))))
    | (refine bif2.mk (fun hb => ?_) (fun hb => ?_) <;> (try simp only [hb, GA, ↓GB, List.filterMap_cons, eq_self, BEq.rfl, simprocAttr, hnt, hT, hnt1, hT1, hU1P, g1, g2, e1, e2]) <;> ((first | cases hb | (simp only [decide_eq_true_eq, decide_eq_false_iff_not, beq_iff_eq, beq_eq_false_iff_ne, bne_iff_ne, Bool.and_eq_true, Bool.or_eq_true, Bool.not_eq_true', Bool.not_eq_false', Bool.and_eq_false_iff, Bool.or_eq_false_iff, Int.not_lt, Int.not_le] at hb) | skip) <;> (first | (exfalso; omega) | skip)))
    | ((first | (refine CallVC.pv hP (varint_any (num * 8 + 2) (by omega)) rfl ?_) | (refine CallQ.pv hP (varint_any (num * 8 + 2) (by omega)) rfl ?_) | (refine CallVC.pv hP (varint_any s.length (by omega)) rfl ?_) | (refine CallQ.pv hP (varint_any s.length (by omega)) rfl ?_)); simp only [GA, ↓GB, List.filterMap_cons, eq_self, BEq.rfl, simprocAttr, hnt, hT, hnt1, hT1, hU1P, g1, g2, e1, e2])
    | (refine CallVC.inline (f := 127) ?_ rfl Tryd.ntmps127 rfl ?_ ?_; (focus rw [hP]; exact Tryd.func127); (focus simp); have hT1 : mapInf X.P 174 = some ((TypeDesc.int IntKind.i64), (Value.int IntKind.i64 0)) := (by rw [hP]; exact Ty.mi174); intro X1 K1 hU1 hnt1 hbl1 hK1; have hU1P := hU1.P; simp only [GA, ↓GB, List.filterMap_cons, eq_self, BEq.rfl, simprocAttr] at hbl1 ⊢)
    | ((first | (refine CallVC.pv (hU1P.trans hP) (varint_any (num * 8 + 2) (by omega)) rfl ?_) | (refine CallQ.pv (hU1P.trans hP) (varint_any (num * 8 + 2) (by omega)) rfl ?_) | (refine CallVC.pv (hU1P.trans hP) (varint_any s.length (by omega)) rfl ?_) | (refine CallQ.pv (hU1P.trans hP) (varint_any s.length (by omega)) rfl ?_)); simp only [GA, ↓GB, List.filterMap_cons, eq_self, BEq.rfl, simprocAttr, hnt, hT, hnt1, hT1, hU1P, g1, g2, e1, e2])
    | (refine SX.block ?_)
    | (refine and_mk ?_ ?_; (focus first | decide | omega | rfl | assumption | (simp only [List.length_append, List.length_cons, List.length_nil, B_size]; omega) | (simp; done)))
    | (refine And.intro ?_ ?_))
  all_goals (try refine Done.mk ?_)
  all_goals first | exact hbel | exact ⟨by simp [textB], hbel⟩
theorem number_any (num n : Nat) (h1 : 1 ≤ num) (h2 : num < 536870912) (hn : n < 18446744073709551616) (w : World) :
    Calls Tryd.prog 23 #[.int .i64 num, .int .u64 n] w fun e w' => e = .returned (.string (B (numB num n))) ∧ Below w.heap.size w w' := by
  refine calls_pureK (args := [.int .i64 num, .int .u64 n]) w Tryd.func23 rfl Tryd.ntmps23 (by simp) ?_
  intro X K hX hK
  have hnt : X.nt = 15 := by rw [hX]
  have hwi : X.wi = w := by rw [hX]
  have hP : X.P = Tryd.prog := by rw [hX]
  have hown : X.own = [] := by rw [hX]
  have hbl : X.base.length = 0 := by rw [hX]; rfl
  clear hX
  have hT : fieldsOf X.P 143 = some [(0, 1), (1, 1), (2, 1), (3, 1)] ∧ zeroCells X.P 143 = some [(Value.int IntKind.i64 0), (Value.int IntKind.i64 0), (Value.int IntKind.u64 0), (Value.string { data := #[] })] ∧ calleeOk X.P 74 = true := by rw [hP]; exact ⟨Ty.fs143, Ty.ze143, Ty.co74⟩
  repeat' (first
    | (refine SX.seqK ?_; intro N hN)
    | ((first | (refine SX.ops ?_)); simp only [GA, ↓GB, List.filterMap_cons, eq_self, BEq.rfl, simprocAttr, hnt, hT])
    | ((first | refine SX.skip ?_ | refine SX.exit ?_ | refine SX.label ?_); try simp only [GA, ↓GB, List.filterMap_cons, eq_self, BEq.rfl, simprocAttr])
    | (refine SX.cond rfl (fun hb => ?_) (fun hb => ?_) <;> ((first | cases hb | (simp only [decide_eq_true_eq, decide_eq_false_iff_not, beq_iff_eq, beq_eq_false_iff_ne, bne_iff_ne, Bool.and_eq_true, Bool.or_eq_true, Bool.not_eq_true', Bool.not_eq_false', Bool.and_eq_false_iff, Bool.or_eq_false_iff, Int.not_lt, Int.not_le] at hb) | skip) <;> (first | (exfalso; omega) | skip)))
    | (refine SX.ret ?_; try simp only [GA, ↓GB, List.filterMap_cons, eq_self, BEq.rfl, simprocAttr])
    | (refine hN _ ?_; clear hN N)
    | (refine hK _ _ (Fin.res rfl hown ?_); simp only [GA, ↓GB, List.filterMap_cons, eq_self, BEq.rfl, simprocAttr, f_a, f_b, f_n, f_c, f_B, f_v, f_g, f_0, f_1, f_2, hT, hwi]; intro w' hbel; refine Done.out ?_)
    | (clear hN N; first | (refine hN _ ?_; clear hN N) | (clear hN N; first | (refine hN _ ?_; clear hN N) | (clear hN N; first | (refine hN _ ?_; clear hN N) | (clear hN N; first | (refine hN _ ?_; clear hN N) | (clear hN N; first | (refine hN _ ?_; clear hN N) | (refine hN _ ?_; clear hN N))))))
    | (refine bif2.mk (fun hb => ?_) (fun hb => ?_) <;> (try simp only [hb, GA, ↓GB, List.filterMap_cons, eq_self, BEq.rfl, simprocAttr, hnt, hT]) <;> ((first | cases hb | (simp only [decide_eq_true_eq, decide_eq_false_iff_not, beq_iff_eq, beq_eq_false_iff_ne, bne_iff_ne, Bool.and_eq_true, Bool.or_eq_true, Bool.not_eq_true', Bool.not_eq_false', Bool.and_eq_false_iff, Bool.or_eq_false_iff, Int.not_lt, Int.not_le] at hb) | skip) <;> (first | (exfalso; omega) | skip)))
    | ((first | (refine CallVC.pt (l := [_, _]) hP (put_num num n h1 h2 hn) rfl ?_) | (refine CallQ.pt (l := [_, _]) hP (put_num num n h1 h2 hn) rfl ?_)); simp only [GA, ↓GB, List.filterMap_cons, eq_self, BEq.rfl, simprocAttr, hnt, hT])
    | (refine SX.block ?_)
    | (refine and_mk ?_ ?_; (focus first | decide | omega | rfl | assumption | (simp only [List.length_append, List.length_cons, List.length_nil, B_size]; omega) | (simp; done)))
    | (refine And.intro ?_ ?_))
  all_goals (try refine Done.mk ?_)
  all_goals first | exact hbel | exact ⟨rfl, hbel⟩
theorem text_any (num : Nat) (s : List UInt8) (h1 : 1 ≤ num) (h2 : num < 536870912) (hs : s.length < 1152921504606846976) (w : World) :
    Calls Tryd.prog 104 #[.int .i64 num, .string (B s)] w fun e w' => e = .returned (.string (B (textB num s))) ∧ Below w.heap.size w w' := by
  refine calls_pureK (args := [.int .i64 num, .string (B s)]) w Tryd.func104 rfl Tryd.ntmps104 (by simp) ?_
  intro X K hX hK
  have hnt : X.nt = 13 := by rw [hX]
  have hwi : X.wi = w := by rw [hX]
  have hP : X.P = Tryd.prog := by rw [hX]
  have hown : X.own = [] := by rw [hX]
  have hbl : X.base.length = 0 := by rw [hX]; rfl
  clear hX
  have hT : fieldsOf X.P 143 = some [(0, 1), (1, 1), (2, 1), (3, 1)] ∧ zeroCells X.P 143 = some [(Value.int IntKind.i64 0), (Value.int IntKind.i64 0), (Value.int IntKind.u64 0), (Value.string { data := #[] })] ∧ calleeOk X.P 74 = true := by rw [hP]; exact ⟨Ty.fs143, Ty.ze143, Ty.co74⟩
  repeat' (first
    | (refine SX.seqK ?_; intro N hN)
    | ((first | (refine SX.ops ?_)); simp only [GA, ↓GB, List.filterMap_cons, eq_self, BEq.rfl, simprocAttr, hnt, hT])
    | ((first | refine SX.skip ?_ | refine SX.exit ?_ | refine SX.label ?_); try simp only [GA, ↓GB, List.filterMap_cons, eq_self, BEq.rfl, simprocAttr])
    | (refine SX.cond rfl (fun hb => ?_) (fun hb => ?_) <;> ((first | cases hb | (simp only [decide_eq_true_eq, decide_eq_false_iff_not, beq_iff_eq, beq_eq_false_iff_ne, bne_iff_ne, Bool.and_eq_true, Bool.or_eq_true, Bool.not_eq_true', Bool.not_eq_false', Bool.and_eq_false_iff, Bool.or_eq_false_iff, Int.not_lt, Int.not_le] at hb) | skip) <;> (first | (exfalso; omega) | skip)))
    | (refine SX.ret ?_; try simp only [GA, ↓GB, List.filterMap_cons, eq_self, BEq.rfl, simprocAttr])
    | (refine hN _ ?_; clear hN N)
    | (refine hK _ _ (Fin.res rfl hown ?_); simp only [GA, ↓GB, List.filterMap_cons, eq_self, BEq.rfl, simprocAttr, f_a, f_b, f_n, f_c, f_B, f_v, f_g, f_0, f_1, f_2, hT, hwi]; intro w' hbel; refine Done.out ?_)
    | (clear hN N; first | (refine hN _ ?_; clear hN N) | (clear hN N; first | (refine hN _ ?_; clear hN N) | (clear hN N; first | (refine hN _ ?_; clear hN N) | (clear hN N; first | (refine hN _ ?_; clear hN N) | (clear hN N; first | (refine hN _ ?_; clear hN N) | (refine hN _ ?_; clear hN N))))))
    | (refine bif2.mk (fun hb => ?_) (fun hb => ?_) <;> (try simp only [hb, GA, ↓GB, List.filterMap_cons, eq_self, BEq.rfl, simprocAttr, hnt, hT]) <;> ((first | cases hb | (simp only [decide_eq_true_eq, decide_eq_false_iff_not, beq_iff_eq, beq_eq_false_iff_ne, bne_iff_ne, Bool.and_eq_true, Bool.or_eq_true, Bool.not_eq_true', Bool.not_eq_false', Bool.and_eq_false_iff, Bool.or_eq_false_iff, Int.not_lt, Int.not_le] at hb) | skip) <;> (first | (exfalso; omega) | skip)))
    | ((first | (refine CallVC.pt (l := [_, _]) hP (put_text num s h1 h2 hs) rfl ?_) | (refine CallQ.pt (l := [_, _]) hP (put_text num s h1 h2 hs) rfl ?_)); simp only [GA, ↓GB, List.filterMap_cons, eq_self, BEq.rfl, simprocAttr, hnt, hT])
    | (refine SX.block ?_)
    | (refine and_mk ?_ ?_; (focus first | decide | omega | rfl | assumption | (simp only [List.length_append, List.length_cons, List.length_nil, B_size]; omega) | (simp; done)))
    | (refine And.intro ?_ ?_))
  all_goals (try refine Done.mk ?_)
  all_goals first | exact hbel | exact ⟨rfl, hbel⟩
end Go.Proofs.YtbdacbcpniegiaaDoor
namespace Go.Proofs.YtbdacbcpniegiaaDoor
open Go Go.RowKit Go.Proofs Go.Sx
set_option maxHeartbeats 4000000
set_option maxRecDepth 100000
set_option linter.unusedSimpArgs false
set_option linter.unusedVariables false
abbrev bldr (l : List UInt8) : List LO := [.cells [.loc 0 0, .row 1] 123, .row 5 1 l.length (bcells l)]
abbrev bldr' (l : List UInt8) : List LO := [.cells [.loc 0 0, .row 2] 123, .gone, .row 5 1 l.length (bcells l)]
theorem writeString_ctr (l s : List UInt8) (hn : l.length + s.length ≤ 1152921504606) : Ctr Tryd.prog [] 123 (bldr l) [.one (.c (.loc 0 0)), vv (.string (B s))]
    (fun os r => os = bldr' (l ++ s) ∧ r = .tup [.c (.v (.int .i64 s.length)), .c (.v .nilIface)]) :=
  (writeString_used l s l.length hn).mono (fun os r h => ⟨by rw [h.1]; simp, h.2⟩)
theorem string_ctr (l : List UInt8) (h0 : 0 < l.length) (hn : l.length ≤ 1152921504606) : Ctr Tryd.prog [] 69 (bldr l) [.one (.c (.loc 0 0))]
    (fun os r => os = [.cells [.loc 0 0, .row 1] 123, .gone] ∧ r = vv (.string (B l))) := by
  intro X0 hP0 hG0 N0 hN0
  refine CallVC.inline (f := 69) (by rw [hP0]; exact Tryd.func69) rfl Tryd.ntmps69 rfl (by simp) ?_
  intro X K hU hnt hbl hK
  have hP : X.P = Tryd.prog := by rw [hU.P, hP0]
  have hG := hG0.under hU
  have hT : fieldOff X.P 121 1 = some 1 ∧ aggOf X.P 58 = some false ∧ szOf X.P 58 = some 1 ∧ X.P.underlying 58 = some (TypeDesc.slice 5) := by rw [hP]; exact ⟨Ty.fo121_1, Ty.ag58, Ty.sz58, Tryd.underlying58⟩
  simp only [GA, ↓GB, List.filterMap_cons, eq_self, BEq.rfl, simprocAttr] at hbl ⊢
  repeat' (first
    | (refine SX.seqK ?_; intro N hN)
    | ((first | (refine SX.ops ?_) | (refine SX.planT (id := 1) [.q [(0, [0]), (1, [3]), (2, [4]), (3, [5]), (4, [6]), (5, [0]), (6, [8]), (7, [9]), (8, [10]), (9, [11])] none, .s 10, .s 11] ?_ ?_ ?_; (focus first | (rw [hP]; kernel_rfl) | (rw [hU1P, hP]; kernel_rfl)); (focus kernel_rfl))); simp only [GA, ↓GB, List.filterMap_cons, eq_self, BEq.rfl, simprocAttr, hnt, hT])
    | ((first | refine SX.skip ?_ | refine SX.exit ?_ | refine SX.label ?_); try simp only [GA, ↓GB, List.filterMap_cons, eq_self, BEq.rfl, simprocAttr])
    | (refine SX.cond rfl (fun hb => ?_) (fun hb => ?_) <;> ((first | cases hb | (simp only [decide_eq_true_eq, decide_eq_false_iff_not, beq_iff_eq, beq_eq_false_iff_ne, bne_iff_ne, Bool.and_eq_true, Bool.or_eq_true, Bool.not_eq_true', Bool.not_eq_false', Bool.and_eq_false_iff, Bool.or_eq_false_iff, Int.not_lt, Int.not_le] at hb) | skip) <;> (first | (exfalso; omega) | skip)))
    | (refine SX.ret ?_; try simp only [GA, ↓GB, List.filterMap_cons, eq_self, BEq.rfl, simprocAttr])
    | (refine hN _ ?_; clear hN N)
    | ((first | refine hK _ _ (FinI.ret3 ?_) | refine hK _ _ (FinI.nrm3 ?_)); simp only [GA, ↓GB, List.filterMap_cons, eq_self, BEq.rfl, simprocAttr, finP_s, hnt, hT]; refine Done.out ?_)
    | (clear hN N; first | (refine hN _ ?_; clear hN N) | (clear hN N; first | (refine hN _ ?_; clear hN N) | (clear hN N; first | (refine hN _ ?_; clear hN N) | (clear hN N; first | (refine hN _ ?_; clear hN N) | (clear hN N; first | (refine hN _ ?_; clear hN N) | (refine hN _ ?_; clear hN N))))))
    | (refine bif2.mk (fun hb => ?_) (fun hb => ?_) <;> (try simp only [hb, GA, ↓GB, List.filterMap_cons, eq_self, BEq.rfl, simprocAttr, hnt, hT]) <;> ((first | cases hb | (simp only [decide_eq_true_eq, decide_eq_false_iff_not, beq_iff_eq, beq_eq_false_iff_ne, bne_iff_ne, Bool.and_eq_true, Bool.or_eq_true, Bool.not_eq_true', Bool.not_eq_false', Bool.and_eq_false_iff, Bool.or_eq_false_iff, Int.not_lt, Int.not_le] at hb) | skip) <;> (first | (exfalso; omega) | skip)))
    | (show VO X _ _ _; refine VO.unsafeString (k := .i64) (l := l) (pt := 192) (e := 5) rfl rfl rfl (by rw [hP]; kernel_rfl) (by rw [hP]; kernel_rfl) (by intro e; subst e; simp at h0) (by omega) ?_; simp only [GA, ↓GB, List.filterMap_cons, eq_self, BEq.rfl, simprocAttr, hnt, hT])
    | (refine SX.block ?_)
    | (refine and_mk ?_ ?_; (focus first | decide | omega | rfl | assumption | (simp only [List.length_append, List.length_cons, List.length_nil, B_size]; omega) | (simp; done)))
    | (refine And.intro ?_ ?_))
  all_goals (try refine Done.mk ?_)
  exact hN0 _ _ ⟨rfl, rfl⟩
theorem wnumber_ctr (l : List UInt8) (num n : Nat) (h1 : 1 ≤ num) (h2 : num < 536870912) (h0 : 0 < n) (hn : n < 18446744073709551616) (hl : l.length ≤ 1152921504000) :
    Ctr Tryd.prog [] 66 (bldr l) [.one (.c (.loc 0 0)), vv (.int .i64 num), vv (.int .u64 n)]
    (fun os r => os = bldr' (l ++ numB num n) ∧ r = .tup []) := by
  have g0 : decide ((0 : Int) < n) = true := by simp; omega
  have hl1 := NW.varint_len10 (n := num * 8) (by omega)
  have hl2 := NW.varint_len10 (n := n) (by omega)
  have hlen : l.length + (numB num n).length ≤ 1152921504606 := by simp [numB]; omega
  intro X0 hP0 hG0 N0 hN0
  refine CallVC.inline (f := 66) (by rw [hP0]; exact Tryd.func66) rfl Tryd.ntmps66 rfl (by simp) ?_
  intro X K hU hnt hbl hK
  have hP : X.P = Tryd.prog := by rw [hU.P, hP0]
  have hG := hG0.under hU
  have hT : fieldOff X.P 123 0 = some 0 ∧ calleeOk X.P 23 = true ∧ calleeOk X.P 123 = true := by rw [hP]; exact ⟨Ty.fo123_0, Ty.co23, Ty.co123⟩
  simp only [GA, ↓GB, List.filterMap_cons, eq_self, BEq.rfl, simprocAttr] at hbl ⊢
  repeat' (first
    | (refine SX.seqK ?_; intro N hN)
    | ((first | (refine SX.ops ?_) | (refine SX.planT (id := 1) [.q [(0, [0]), (1, [8]), (2, [9]), (3, [1]), (4, [2]), (5, [11, 12])] none, .s 6] ?_ ?_ ?_; (focus first | (rw [hP]; kernel_rfl) | (rw [hU1P, hP]; kernel_rfl)); (focus kernel_rfl))); simp only [GA, ↓GB, List.filterMap_cons, eq_self, BEq.rfl, simprocAttr, hnt, hT, g0])
    | ((first | refine SX.skip ?_ | refine SX.exit ?_ | refine SX.label ?_); try simp only [GA, ↓GB, List.filterMap_cons, eq_self, BEq.rfl, simprocAttr])
    | (refine SX.cond rfl (fun hb => ?_) (fun hb => ?_) <;> ((first | cases hb | (simp only [decide_eq_true_eq, decide_eq_false_iff_not, beq_iff_eq, beq_eq_false_iff_ne, bne_iff_ne, Bool.and_eq_true, Bool.or_eq_true, Bool.not_eq_true', Bool.not_eq_false', Bool.and_eq_false_iff, Bool.or_eq_false_iff, Int.not_lt, Int.not_le] at hb) | skip) <;> (first | (exfalso; omega) | skip)))
    | (refine SX.ret ?_; try simp only [GA, ↓GB, List.filterMap_cons, eq_self, BEq.rfl, simprocAttr])
    | (refine hN _ ?_; clear hN N)
    | ((first | refine hK _ _ (FinI.ret3 ?_) | refine hK _ _ (FinI.nrm3 ?_)); simp only [GA, ↓GB, List.filterMap_cons, eq_self, BEq.rfl, simprocAttr, finP_s, hnt, hT, g0]; refine Done.out ?_)
    | (clear hN N; first | (refine hN _ ?_; clear hN N) | (clear hN N; first | (refine hN _ ?_; clear hN N) | (clear hN N; first | (refine hN _ ?_; clear hN N) | (clear hN N; first | (refine hN _ ?_; clear hN N) | (clear hN N; first | (refine hN _ ?_; clear hN N) | (refine hN _ ?_; clear hN N))))))
    | (refine bif2.mk (fun hb => ?_) (fun hb => ?_) <;> (try simp only [hb, GA, ↓GB, List.filterMap_cons, eq_self, BEq.rfl, simprocAttr, hnt, hT, g0]) <;> ((first | cases hb | (simp only [decide_eq_true_eq, decide_eq_false_iff_not, beq_iff_eq, beq_eq_false_iff_ne, bne_iff_ne, Bool.and_eq_true, Bool.or_eq_true, Bool.not_eq_true', Bool.not_eq_false', Bool.and_eq_false_iff, Bool.or_eq_false_iff, Int.not_lt, Int.not_le] at hb) | skip) <;> (first | (exfalso; omega) | skip)))
    | ((first | (refine CallVC.pv hP (number_any num n h1 h2 hn) rfl ?_) | (refine CallQ.pv hP (number_any num n h1 h2 hn) rfl ?_) | (refine Ctr.use (writeString_ctr l (numB num n) hlen) hP ?_ [0,1] ?_ rfl rfl ?_; (focus (intro p hp; cases hp)); (focus (refine LeR.of rfl trivial ?_ ?_ ?_ ?_ ?_ <;> first | decide | (simp only [GA, ↓GB, List.filterMap_cons, eq_self, BEq.rfl, simprocAttr, List.getD_cons_zero, List.getD_cons_succ, or_false, false_or, or_self, or_true, true_or, decide_true]; done))); intro os' s hR; obtain ⟨rfl, rfl⟩ := hR)); simp only [GA, ↓GB, List.filterMap_cons, eq_self, BEq.rfl, simprocAttr, hnt, hT, g0])
    | (refine SX.block ?_)
    | (refine and_mk ?_ ?_; (focus first | decide | omega | rfl | assumption | (simp only [List.length_append, List.length_cons, List.length_nil, B_size]; omega) | (simp; done)))
    | (refine And.intro ?_ ?_))
  all_goals (try refine Done.mk ?_)
  all_goals exact hN0 _ _ ⟨rfl, rfl⟩
end Go.Proofs.YtbdacbcpniegiaaDoor
namespace Go.Proofs.YtbdacbcpniegiaaDoor
open Go Go.RowKit Go.Proofs Go.Sx
set_option maxHeartbeats 4000000
set_option maxRecDepth 100000
set_option linter.unusedSimpArgs false
set_option linter.unusedVariables false
theorem writeByte_ctr (b : UInt8) : Ctr Tryd.prog [] 65 [.cells [.v (.pointer none), .v (.slice none 0 0)] 123] [.one (.c (.loc 0 0)), vv (.int .u8 b.toNat)]
    (fun os s => os = [.cells [.loc 0 0, .row 3] 123, .cells [.v (.int .u8 b.toNat)] 5, .gone, .row 5 1 [b].length (bcells [b])] ∧ s = vv .nilIface) :=
  (writeByte_fresh b.toNat).mono (fun os r h => ⟨by rw [h.1]; rfl, h.2⟩)
theorem wlist1_ctr (l s : List UInt8) (num : Nat) (h1 : 1 ≤ num) (h2 : num < 536870912) (hs : s.length < 4294967296) (hl : l.length ≤ 1148000000000) :
    Ctr Tryd.prog [] 67 (bldr l ++ [.cells [.v (.string (B s))] 9]) [.one (.c (.loc 0 0)), vv (.int .i64 num), .one (.c (.sl 2 0 1 1))]
    (fun os r => os = [.cells [.loc 0 0, .row 3] 123, .gone, .cells [.v (.string (B s))] 9, .row 5 1 (l ++ textB num s).length (bcells (l ++ textB num s))] ∧ r = .tup []) := by
  have hl1 := NW.varint_len10 (n := num * 8 + 2) (by omega)
  have hl2 := NW.varint_len10 (n := s.length) (by omega)
  have hlen : l.length + (textB num s).length ≤ 1152921504606 := by simp [textB]; omega
  intro X0 hP0 hG0 N0 hN0
  refine CallVC.inline (f := 67) (by rw [hP0]; exact Tryd.func67) rfl Tryd.ntmps67 rfl (by simp) ?_
  intro X K hU hnt hbl hK
  have hP : X.P = Tryd.prog := by rw [hU.P, hP0]
  have hG := hG0.under hU
  have hT : X.P.underlying 38 = some (TypeDesc.slice 9) ∧ elemSz X.P 38 = some (9, 1) ∧ aggOf X.P 9 = some false ∧ szOf X.P 9 = some 1 ∧ fieldOff X.P 123 0 = some 0 ∧ calleeOk X.P 104 = true ∧ calleeOk X.P 123 = true := by rw [hP]; exact ⟨Tryd.underlying38, Ty.el38, Ty.ag9, Ty.sz9, Ty.fo123_0, Ty.co104, Ty.co123⟩
  simp only [GA, ↓GB, List.filterMap_cons, eq_self, BEq.rfl, simprocAttr] at hbl ⊢
  repeat' (first
    | (refine SX.seqK ?_; intro N hN)
    | ((first | (refine SX.ops ?_) | (refine SX.planT (id := 3) [.q [(0, [0]), (1, [14]), (2, [15]), (3, [1]), (4, [7]), (5, [17, 18])] none, .s 6] ?_ ?_ ?_; (focus first | (rw [hP]; kernel_rfl) | (rw [hU1P, hP]; kernel_rfl)); (focus kernel_rfl))); simp only [GA, ↓GB, List.filterMap_cons, eq_self, BEq.rfl, simprocAttr, hnt, hT])
    | ((first | refine SX.skip ?_ | refine SX.exit ?_ | refine SX.label ?_); try simp only [GA, ↓GB, List.filterMap_cons, eq_self, BEq.rfl, simprocAttr])
    | (refine SX.cond rfl (fun hb => ?_) (fun hb => ?_) <;> ((first | cases hb | (simp only [decide_eq_true_eq, decide_eq_false_iff_not, beq_iff_eq, beq_eq_false_iff_ne, bne_iff_ne, Bool.and_eq_true, Bool.or_eq_true, Bool.not_eq_true', Bool.not_eq_false', Bool.and_eq_false_iff, Bool.or_eq_false_iff, Int.not_lt, Int.not_le] at hb) | skip) <;> (first | (exfalso; omega) | skip)))
    | (refine SX.ret ?_; try simp only [GA, ↓GB, List.filterMap_cons, eq_self, BEq.rfl, simprocAttr])
    | (refine hN _ ?_; clear hN N)
    | ((first | refine hK _ _ (FinI.ret3 ?_) | refine hK _ _ (FinI.nrm3 ?_)); simp only [GA, ↓GB, List.filterMap_cons, eq_self, BEq.rfl, simprocAttr, finP_s, hnt, hT]; refine Done.out ?_)
    | (clear hN N; first | (refine hN _ ?_; clear hN N) | (clear hN N; first | (refine hN _ ?_; clear hN N) | (clear hN N; first | (refine hN _ ?_; clear hN N) | (clear hN N; first | (refine hN _ ?_; clear hN N) | (clear hN N; first | (refine hN _ ?_; clear hN N) | (refine hN _ ?_; clear hN N))))))
    | (refine bif2.mk (fun hb => ?_) (fun hb => ?_) <;> (try simp only [hb, GA, ↓GB, List.filterMap_cons, eq_self, BEq.rfl, simprocAttr, hnt, hT]) <;> ((first | cases hb | (simp only [decide_eq_true_eq, decide_eq_false_iff_not, beq_iff_eq, beq_eq_false_iff_ne, bne_iff_ne, Bool.and_eq_true, Bool.or_eq_true, Bool.not_eq_true', Bool.not_eq_false', Bool.and_eq_false_iff, Bool.or_eq_false_iff, Int.not_lt, Int.not_le] at hb) | skip) <;> (first | (exfalso; omega) | skip)))
    | ((first | (refine CallVC.pv hP (text_any num s h1 h2 (by omega)) rfl ?_) | (refine CallQ.pv hP (text_any num s h1 h2 (by omega)) rfl ?_) | (refine Ctr.use (writeString_ctr l (textB num s) hlen) hP ?_ [0,1] ?_ rfl rfl ?_; (focus (intro p hp; cases hp)); (focus (refine LeR.of rfl trivial ?_ ?_ ?_ ?_ ?_ <;> first | decide | (simp only [GA, ↓GB, List.filterMap_cons, eq_self, BEq.rfl, simprocAttr, List.getD_cons_zero, List.getD_cons_succ, or_false, false_or, or_self, or_true, true_or, decide_true]; done))); intro os' s hR; obtain ⟨rfl, rfl⟩ := hR)); simp only [GA, ↓GB, List.filterMap_cons, eq_self, BEq.rfl, simprocAttr, hnt, hT])
    | (refine SX.loopN 2 ?_)
    | (refine SXr.stepK ?_; intro N hN)
    | (refine SX.block ?_)
    | (refine and_mk ?_ ?_; (focus first | decide | omega | rfl | assumption | (simp only [List.length_append, List.length_cons, List.length_nil, B_size]; omega) | (simp; done)))
    | (refine And.intro ?_ ?_))
  all_goals (try refine Done.mk ?_)
  all_goals exact hN0 _ _ ⟨rfl, rfl⟩
theorem wflag_yes (l : List UInt8) (num : Nat) (h1 : 1 ≤ num) (h2 : num < 536870912) (hl : l.length ≤ 1152921504000) :
    Ctr Tryd.prog [] 68 (bldr l) [.one (.c (.loc 0 0)), vv (.int .i64 num), vv (.bool true)] (fun os r => os = bldr' (l ++ numB num 1) ∧ r = .tup []) := by
  intro X0 hP0 hG0 N0 hN0
  refine CallVC.inline (f := 68) (by rw [hP0]; exact Tryd.func68) rfl Tryd.ntmps68 rfl (by simp) ?_
  intro X K hU hnt hbl hK
  have hP : X.P = Tryd.prog := by rw [hU.P, hP0]
  have hG := hG0.under hU
  have hT : calleeOk X.P 66 = true := by rw [hP]; exact Ty.co66
  simp only [GA, ↓GB, List.filterMap_cons, eq_self, BEq.rfl, simprocAttr] at hbl ⊢
  repeat' (first
    | (refine SX.seqK ?_; intro N hN)
    | ((first | (refine SX.ops ?_)); simp only [GA, ↓GB, List.filterMap_cons, eq_self, BEq.rfl, simprocAttr, hnt, hT])
    | ((first | refine SX.skip ?_ | refine SX.exit ?_ | refine SX.label ?_); try simp only [GA, ↓GB, List.filterMap_cons, eq_self, BEq.rfl, simprocAttr])
    | (refine SX.cond rfl (fun hb => ?_) (fun hb => ?_) <;> ((first | cases hb | (simp only [decide_eq_true_eq, decide_eq_false_iff_not, beq_iff_eq, beq_eq_false_iff_ne, bne_iff_ne, Bool.and_eq_true, Bool.or_eq_true, Bool.not_eq_true', Bool.not_eq_false', Bool.and_eq_false_iff, Bool.or_eq_false_iff, Int.not_lt, Int.not_le] at hb) | skip) <;> (first | (exfalso; omega) | skip)))
    | (refine SX.ret ?_; try simp only [GA, ↓GB, List.filterMap_cons, eq_self, BEq.rfl, simprocAttr])
    | (refine hN _ ?_; clear hN N)
    | ((first | refine hK _ _ (FinI.ret3 ?_) | refine hK _ _ (FinI.nrm3 ?_)); simp only [GA, ↓GB, List.filterMap_cons, eq_self, BEq.rfl, simprocAttr, finP_s, hnt, hT]; refine Done.out ?_)
    | (clear hN N; first | (refine hN _ ?_; clear hN N) | (clear hN N; first | (refine hN _ ?_; clear hN N) | (clear hN N; first | (refine hN _ ?_; clear hN N) | (clear hN N; first | (refine hN _ ?_; clear hN N) | (clear hN N; first | (refine hN _ ?_; clear hN N) | (refine hN _ ?_; clear hN N))))))
    | (refine bif2.mk (fun hb => ?_) (fun hb => ?_) <;> (try simp only [hb, GA, ↓GB, List.filterMap_cons, eq_self, BEq.rfl, simprocAttr, hnt, hT]) <;> ((first | cases hb | (simp only [decide_eq_true_eq, decide_eq_false_iff_not, beq_iff_eq, beq_eq_false_iff_ne, bne_iff_ne, Bool.and_eq_true, Bool.or_eq_true, Bool.not_eq_true', Bool.not_eq_false', Bool.and_eq_false_iff, Bool.or_eq_false_iff, Int.not_lt, Int.not_le] at hb) | skip) <;> (first | (exfalso; omega) | skip)))
    | ((first | (refine Ctr.use (wnumber_ctr l num 1 h1 h2 (by decide) (by decide) hl) hP ?_ [0,1] ?_ rfl rfl ?_; (focus (intro p hp; cases hp)); (focus (refine LeR.of rfl trivial ?_ ?_ ?_ ?_ ?_ <;> first | decide | (simp only [GA, ↓GB, List.filterMap_cons, eq_self, BEq.rfl, simprocAttr, List.getD_cons_zero, List.getD_cons_succ, or_false, false_or, or_self, or_true, true_or, decide_true]; done))); intro os' s hR; obtain ⟨rfl, rfl⟩ := hR)); simp only [GA, ↓GB, List.filterMap_cons, eq_self, BEq.rfl, simprocAttr, hnt, hT])
    | (refine SX.block ?_)
    | (refine and_mk ?_ ?_; (focus first | decide | omega | rfl | assumption | (simp only [List.length_append, List.length_cons, List.length_nil, B_size]; omega) | (simp; done)))
    | (refine And.intro ?_ ?_))
  all_goals (try refine Done.mk ?_)
  all_goals exact hN0 _ _ ⟨rfl, rfl⟩
theorem wflag_no (l : List UInt8) (num : Nat) : Ctr Tryd.prog [] 68 (bldr l) [.one (.c (.loc 0 0)), vv (.int .i64 num), vv (.bool false)] (fun os r => os = bldr l ∧ r = .tup []) := by
  intro X0 hP0 hG0 N0 hN0
  refine CallVC.inline (f := 68) (by rw [hP0]; exact Tryd.func68) rfl Tryd.ntmps68 rfl (by simp) ?_
  intro X K hU hnt hbl hK
  have hP : X.P = Tryd.prog := by rw [hU.P, hP0]
  have hG := hG0.under hU
  have hT : calleeOk X.P 66 = true := by rw [hP]; exact Ty.co66
  simp only [GA, ↓GB, List.filterMap_cons, eq_self, BEq.rfl, simprocAttr] at hbl ⊢
  repeat' (first
    | (refine SX.seqK ?_; intro N hN)
    | ((first | (refine SX.ops ?_)); simp only [GA, ↓GB, List.filterMap_cons, eq_self, BEq.rfl, simprocAttr, hnt, hT])
    | ((first | refine SX.skip ?_ | refine SX.exit ?_ | refine SX.label ?_); try simp only [GA, ↓GB, List.filterMap_cons, eq_self, BEq.rfl, simprocAttr])
    | (refine SX.cond rfl (fun hb => ?_) (fun hb => ?_) <;> ((first | cases hb | (simp only [decide_eq_true_eq, decide_eq_false_iff_not, beq_iff_eq, beq_eq_false_iff_ne, bne_iff_ne, Bool.and_eq_true, Bool.or_eq_true, Bool.not_eq_true', Bool.not_eq_false', Bool.and_eq_false_iff, Bool.or_eq_false_iff, Int.not_lt, Int.not_le] at hb) | skip) <;> (first | (exfalso; omega) | skip)))
    | (refine SX.ret ?_; try simp only [GA, ↓GB, List.filterMap_cons, eq_self, BEq.rfl, simprocAttr])
    | (refine hN _ ?_; clear hN N)
    | ((first | refine hK _ _ (FinI.ret3 ?_) | refine hK _ _ (FinI.nrm3 ?_)); simp only [GA, ↓GB, List.filterMap_cons, eq_self, BEq.rfl, simprocAttr, finP_s, hnt, hT]; refine Done.out ?_)
    | (clear hN N; first | (refine hN _ ?_; clear hN N) | (clear hN N; first | (refine hN _ ?_; clear hN N) | (clear hN N; first | (refine hN _ ?_; clear hN N) | (clear hN N; first | (refine hN _ ?_; clear hN N) | (clear hN N; first | (refine hN _ ?_; clear hN N) | (refine hN _ ?_; clear hN N))))))
    | (refine bif2.mk (fun hb => ?_) (fun hb => ?_) <;> (try simp only [hb, GA, ↓GB, List.filterMap_cons, eq_self, BEq.rfl, simprocAttr, hnt, hT]) <;> ((first | cases hb | (simp only [decide_eq_true_eq, decide_eq_false_iff_not, beq_iff_eq, beq_eq_false_iff_ne, bne_iff_ne, Bool.and_eq_true, Bool.or_eq_true, Bool.not_eq_true', Bool.not_eq_false', Bool.and_eq_false_iff, Bool.or_eq_false_iff, Int.not_lt, Int.not_le] at hb) | skip) <;> (first | (exfalso; omega) | skip)))
    | (refine SX.block ?_)
    | (refine and_mk ?_ ?_; (focus first | decide | omega | rfl | assumption | (simp only [List.length_append, List.length_cons, List.length_nil, B_size]; omega) | (simp; done)))
    | (refine And.intro ?_ ?_))
  all_goals (try refine Done.mk ?_)
  all_goals exact hN0 _ _ ⟨rfl, rfl⟩
end Go.Proofs.YtbdacbcpniegiaaDoor
namespace Go.Proofs.YtbdacbcpniegiaaDoor
open Go Go.RowKit Go.Proofs Go.Sx
set_option maxHeartbeats 4000000
set_option maxRecDepth 100000
set_option linter.unusedSimpArgs false
set_option linter.unusedVariables false
def statusBytes (t : Nat) (s : List UInt8) (q : Nat) (ok : Bool) (d : List UInt8) : List UInt8 :=
  [4] ++ numB 1 t ++ textB 2 s ++ numB 3 q ++ (if ok then numB 4 1 else []) ++ (if d = [] then [] else textB 5 d)
theorem putStatus_no (t : Int) (s : List UInt8) (q : Int) (ok : Bool) (d : List UInt8) (hs : s.length ≤ 9223372036854775807) (h : statusB t s q ok d = false) (w : World) :
    Calls Tryd.prog 19 #[.agg #[.int .i64 t, .string (B s), .int .u64 q, .bool ok, .string (B d)]] w fun e w' => e = .returned (.tuple #[.string (B []), .bool false]) ∧ Below w.heap.size w w' := by
  refine calls_pureK (args := [.agg #[.int .i64 t, .string (B s), .int .u64 q, .bool ok, .string (B d)]]) w Tryd.func19 rfl Tryd.ntmps19 (by simp) ?_
  intro X K hX hK
  have hnt : X.nt = 35 := by rw [hX]
  have hwi : X.wi = w := by rw [hX]
  have hP : X.P = Tryd.prog := by rw [hX]
  have hown : X.own = [] := by rw [hX]
  have hbl : X.base.length = 0 := by rw [hX]; rfl
  clear hX
  have hT : aggOf X.P 30 = some true ∧ szOf X.P 30 = some 5 ∧ calleeOk X.P 64 = true ∧ zeroCells X.P 123 = some [(Value.pointer none), (Value.slice none 0 0)] ∧ fieldOff X.P 123 0 = some 0 ∧ calleeOk X.P 65 = true ∧ fieldOff X.P 30 0 = some 0 ∧ fieldOff X.P 26 0 = some 0 ∧ aggOf X.P 3 = some false ∧ szOf X.P 3 = some 1 ∧ X.P.underlying 3 = some (TypeDesc.int IntKind.i64) ∧ X.P.underlying 22 = some (TypeDesc.int IntKind.u64) ∧ isBytesT X.P 3 = false ∧ isStrT X.P 22 = false ∧ calleeOk X.P 66 = true ∧ fieldOff X.P 26 1 = some 1 ∧ aggOf X.P 9 = some false ∧ szOf X.P 9 = some 1 ∧ elemSz X.P 38 = some (9, 1) ∧ zeroCells X.P 9 = some [(Value.string { data := #[] })] ∧ calleeOk X.P 67 = true ∧ fieldOff X.P 30 1 = some 2 ∧ aggOf X.P 22 = some false ∧ szOf X.P 22 = some 1 ∧ fieldOff X.P 30 2 = some 3 ∧ aggOf X.P 4 = some false ∧ szOf X.P 4 = some 1 ∧ calleeOk X.P 68 = true ∧ fieldOff X.P 30 3 = some 4 ∧ calleeOk X.P 69 = true := by rw [hP]; exact ⟨Ty.ag30, Ty.sz30, Ty.co64, Ty.ze123, Ty.fo123_0, Ty.co65, Ty.fo30_0, Ty.fo26_0, Ty.ag3, Ty.sz3, Tryd.underlying3, Tryd.underlying22, Ty.ib3, Ty.is22, Ty.co66, Ty.fo26_1, Ty.ag9, Ty.sz9, Ty.el38, Ty.ze9, Ty.co67, Ty.fo30_1, Ty.ag22, Ty.sz22, Ty.fo30_2, Ty.ag4, Ty.sz4, Ty.co68, Ty.fo30_3, Ty.co69⟩
  repeat' (first
    | (refine SX.seqK ?_; intro N hN)
    | ((first | (refine SX.ops ?_)); simp only [GA, ↓GB, List.filterMap_cons, eq_self, BEq.rfl, simprocAttr, hnt, hT, h])
    | ((first | refine SX.skip ?_ | refine SX.exit ?_ | refine SX.label ?_); try simp only [GA, ↓GB, List.filterMap_cons, eq_self, BEq.rfl, simprocAttr])
    | (refine SX.cond rfl (fun hb => ?_) (fun hb => ?_) <;> ((first | cases hb | (simp only [decide_eq_true_eq, decide_eq_false_iff_not, beq_iff_eq, beq_eq_false_iff_ne, bne_iff_ne, Bool.and_eq_true, Bool.or_eq_true, Bool.not_eq_true', Bool.not_eq_false', Bool.and_eq_false_iff, Bool.or_eq_false_iff, Int.not_lt, Int.not_le] at hb) | skip) <;> (first | (exfalso; omega) | skip)))
    | (refine SX.ret ?_; try simp only [GA, ↓GB, List.filterMap_cons, eq_self, BEq.rfl, simprocAttr])
    | (refine hN _ ?_; clear hN N)
    | (refine hK _ _ (Fin.res rfl hown ?_); simp only [GA, ↓GB, List.filterMap_cons, eq_self, BEq.rfl, simprocAttr, f_a, f_b, f_n, f_c, f_B, f_v, f_g, f_0, f_1, f_2, hT, hwi, h]; intro w' hbel; refine Done.out ?_)
    | (clear hN N; first | (refine hN _ ?_; clear hN N) | (clear hN N; first | (refine hN _ ?_; clear hN N) | (clear hN N; first | (refine hN _ ?_; clear hN N) | (clear hN N; first | (refine hN _ ?_; clear hN N) | (clear hN N; first | (refine hN _ ?_; clear hN N) | (refine hN _ ?_; clear hN N))))))
    | (refine bif2.mk (fun hb => ?_) (fun hb => ?_) <;> (try simp only [hb, GA, ↓GB, List.filterMap_cons, eq_self, BEq.rfl, simprocAttr, hnt, hT, h]) <;> ((first | cases hb | (simp only [decide_eq_true_eq, decide_eq_false_iff_not, beq_iff_eq, beq_eq_false_iff_ne, bne_iff_ne, Bool.and_eq_true, Bool.or_eq_true, Bool.not_eq_true', Bool.not_eq_false', Bool.and_eq_false_iff, Bool.or_eq_false_iff, Int.not_lt, Int.not_le] at hb) | skip) <;> (first | (exfalso; omega) | skip)))
    | ((first | (refine CallVC.pv hP (statusRight_any _ _ _ _ _ hs) rfl ?_) | (refine CallQ.pv hP (statusRight_any _ _ _ _ _ hs) rfl ?_)); simp only [GA, ↓GB, List.filterMap_cons, eq_self, BEq.rfl, simprocAttr, hnt, hT, h])
    | (refine SX.block ?_)
    | (refine and_mk ?_ ?_; (focus first | decide | omega | rfl | assumption | (simp only [List.length_append, List.length_cons, List.length_nil, B_size]; omega) | (simp; done)))
    | (refine And.intro ?_ ?_))
  all_goals (try refine Done.mk ?_)
  all_goals exact hbel
theorem numB_len (num n : Nat) (h1 : num < 536870912) (hn : n < 18446744073709551616) : (numB num n).length ≤ 20 := by
  have hl1 := NW.varint_len10 (n := num * 8) (by omega)
  have hl2 := NW.varint_len10 (n := n) (by omega)
  simp [numB]; omega
theorem textB_len (num : Nat) (s : List UInt8) (h1 : num < 536870912) (hs : s.length < 4294967296) : (textB num s).length ≤ 20 + s.length := by
  have hl1 := NW.varint_len10 (n := num * 8 + 2) (by omega)
  have hl2 := NW.varint_len10 (n := s.length) (by omega)
  simp [textB]; omega
theorem putStatus_ok (t : Nat) (s : List UInt8) (q : Nat) (hs : s.length < 4294967296) (hq : q < 18446744073709551616) (ht : t ≤ 5) (ht1 : 1 ≤ t) (hq1 : 0 < q) (h : statusB t s q true [] = true) (w : World) :
    Calls Tryd.prog 19 #[.agg #[.int .i64 t, .string (B s), .int .u64 q, .bool true, .string (B [])]] w fun e w' => e = .returned (.tuple #[.string (B (statusBytes t s q true [])), .bool true]) ∧ Below w.heap.size w w' := by
  have e1 : IntKind.u64.wrap (t : Int) = (t : Int) := wU64 (by omega) (by omega)
  have n1 := numB_len 1 t (by decide) (by omega)
  have n2 := textB_len 2 s (by decide) hs
  have n3 := numB_len 3 q (by decide) hq
  have n4 := numB_len 4 1 (by decide) (by decide)
  refine calls_pureK (args := [.agg #[.int .i64 t, .string (B s), .int .u64 q, .bool true, .string (B [])]]) w Tryd.func19 rfl Tryd.ntmps19 (by simp) ?_
  intro X K hX hK
  have hnt : X.nt = 35 := by rw [hX]
  have hwi : X.wi = w := by rw [hX]
  have hP : X.P = Tryd.prog := by rw [hX]
  have hown : X.own = [] := by rw [hX]
  have hbl : X.base.length = 0 := by rw [hX]; rfl
  clear hX
  have hT : aggOf X.P 30 = some true ∧ szOf X.P 30 = some 5 ∧ calleeOk X.P 64 = true ∧ zeroCells X.P 123 = some [(Value.pointer none), (Value.slice none 0 0)] ∧ fieldOff X.P 123 0 = some 0 ∧ calleeOk X.P 65 = true ∧ fieldOff X.P 30 0 = some 0 ∧ fieldOff X.P 26 0 = some 0 ∧ aggOf X.P 3 = some false ∧ szOf X.P 3 = some 1 ∧ X.P.underlying 3 = some (TypeDesc.int IntKind.i64) ∧ X.P.underlying 22 = some (TypeDesc.int IntKind.u64) ∧ isBytesT X.P 3 = false ∧ isStrT X.P 22 = false ∧ calleeOk X.P 66 = true ∧ fieldOff X.P 26 1 = some 1 ∧ aggOf X.P 9 = some false ∧ szOf X.P 9 = some 1 ∧ elemSz X.P 38 = some (9, 1) ∧ zeroCells X.P 9 = some [(Value.string { data := #[] })] ∧ calleeOk X.P 67 = true ∧ fieldOff X.P 30 1 = some 2 ∧ aggOf X.P 22 = some false ∧ szOf X.P 22 = some 1 ∧ fieldOff X.P 30 2 = some 3 ∧ aggOf X.P 4 = some false ∧ szOf X.P 4 = some 1 ∧ calleeOk X.P 68 = true ∧ fieldOff X.P 30 3 = some 4 ∧ calleeOk X.P 69 = true := by rw [hP]; exact ⟨Ty.ag30, Ty.sz30, Ty.co64, Ty.ze123, Ty.fo123_0, Ty.co65, Ty.fo30_0, Ty.fo26_0, Ty.ag3, Ty.sz3, Tryd.underlying3, Tryd.underlying22, Ty.ib3, Ty.is22, Ty.co66, Ty.fo26_1, Ty.ag9, Ty.sz9, Ty.el38, Ty.ze9, Ty.co67, Ty.fo30_1, Ty.ag22, Ty.sz22, Ty.fo30_2, Ty.ag4, Ty.sz4, Ty.co68, Ty.fo30_3, Ty.co69⟩
  repeat' (first
    | (refine SX.seqK ?_; intro N hN)
    | ((first | (refine SX.ops ?_)); simp only [GA, ↓GB, List.filterMap_cons, eq_self, BEq.rfl, simprocAttr, hnt, hT, h, e1])
    | ((first | refine SX.skip ?_ | refine SX.exit ?_ | refine SX.label ?_); try simp only [GA, ↓GB, List.filterMap_cons, eq_self, BEq.rfl, simprocAttr])
    | (refine SX.cond rfl (fun hb => ?_) (fun hb => ?_) <;> ((first | cases hb | (simp only [decide_eq_true_eq, decide_eq_false_iff_not, beq_iff_eq, beq_eq_false_iff_ne, bne_iff_ne, Bool.and_eq_true, Bool.or_eq_true, Bool.not_eq_true', Bool.not_eq_false', Bool.and_eq_false_iff, Bool.or_eq_false_iff, Int.not_lt, Int.not_le] at hb) | skip) <;> (first | (exfalso; omega) | skip)))
    | (refine SX.ret ?_; try simp only [GA, ↓GB, List.filterMap_cons, eq_self, BEq.rfl, simprocAttr])
    | (refine hN _ ?_; clear hN N)
    | (refine hK _ _ (Fin.res rfl hown ?_); simp only [GA, ↓GB, List.filterMap_cons, eq_self, BEq.rfl, simprocAttr, f_a, f_b, f_n, f_c, f_B, f_v, f_g, f_0, f_1, f_2, hT, hwi, h, e1]; intro w' hbel; refine Done.out ?_)
    | (clear hN N; first | (refine hN _ ?_; clear hN N) | (clear hN N; first | (refine hN _ ?_; clear hN N) | (clear hN N; first | (refine hN _ ?_; clear hN N) | (clear hN N; first | (refine hN _ ?_; clear hN N) | (clear hN N; first | (refine hN _ ?_; clear hN N) | (refine hN _ ?_; clear hN N))))))
    | (refine bif2.mk (fun hb => ?_) (fun hb => ?_) <;> (try simp only [hb, GA, ↓GB, List.filterMap_cons, eq_self, BEq.rfl, simprocAttr, hnt, hT, h, e1]) <;> ((first | cases hb | (simp only [decide_eq_true_eq, decide_eq_false_iff_not, beq_iff_eq, beq_eq_false_iff_ne, bne_iff_ne, Bool.and_eq_true, Bool.or_eq_true, Bool.not_eq_true', Bool.not_eq_false', Bool.and_eq_false_iff, Bool.or_eq_false_iff, Int.not_lt, Int.not_le] at hb) | skip) <;> (first | (exfalso; omega) | skip)))
    | ((first | (refine CallVC.pv hP (statusRight_any _ _ _ _ _ (by omega)) rfl ?_) | (refine CallQ.pv hP (statusRight_any _ _ _ _ _ (by omega)) rfl ?_) | (refine Ctr.use (writeByte_ctr 4) hP ?_ [1] ?_ rfl rfl ?_; (focus (intro p hp; cases hp)); (focus (refine LeR.of rfl trivial ?_ ?_ ?_ ?_ ?_ <;> first | decide | (simp only [GA, ↓GB, List.filterMap_cons, eq_self, BEq.rfl, simprocAttr, List.getD_cons_zero, List.getD_cons_succ, or_false, false_or, or_self, or_true, true_or, decide_true]; done))); intro os' s hR; obtain ⟨rfl, rfl⟩ := hR) | (refine Ctr.use (wnumber_ctr [4] 1 t (by decide) (by decide) (by omega) (by omega) (by simp)) hP ?_ [1,4] ?_ rfl rfl ?_; (focus (intro p hp; cases hp)); (focus (refine LeR.of rfl trivial ?_ ?_ ?_ ?_ ?_ <;> first | decide | (simp only [GA, ↓GB, List.filterMap_cons, eq_self, BEq.rfl, simprocAttr, List.getD_cons_zero, List.getD_cons_succ, or_false, false_or, or_self, or_true, true_or, decide_true]; done))); intro os' s hR; obtain ⟨rfl, rfl⟩ := hR) | (refine Ctr.use (wlist1_ctr (4 :: numB 1 t) s 2 (by decide) (by decide) hs (by simp; omega)) hP ?_ [1,5,6] ?_ rfl rfl ?_; (focus (intro p hp; cases hp)); (focus (refine LeR.of rfl trivial ?_ ?_ ?_ ?_ ?_ <;> first | decide | (simp only [GA, ↓GB, List.filterMap_cons, eq_self, BEq.rfl, simprocAttr, List.getD_cons_zero, List.getD_cons_succ, or_false, false_or, or_self, or_true, true_or, decide_true]; done))); intro os' s hR; obtain ⟨rfl, rfl⟩ := hR) | (refine Ctr.use (wnumber_ctr (4 :: (numB 1 t ++ textB 2 s)) 3 q (by decide) (by decide) hq1 hq (by simp; omega)) hP ?_ [1,7] ?_ rfl rfl ?_; (focus (intro p hp; cases hp)); (focus (refine LeR.of rfl trivial ?_ ?_ ?_ ?_ ?_ <;> first | decide | (simp only [GA, ↓GB, List.filterMap_cons, eq_self, BEq.rfl, simprocAttr, List.getD_cons_zero, List.getD_cons_succ, or_false, false_or, or_self, or_true, true_or, decide_true]; done))); intro os' s hR; obtain ⟨rfl, rfl⟩ := hR) | (refine Ctr.use (wflag_yes (4 :: (numB 1 t ++ textB 2 s ++ numB 3 q)) 4 (by decide) (by decide) (by simp; omega)) hP ?_ [1,8] ?_ rfl rfl ?_; (focus (intro p hp; cases hp)); (focus (refine LeR.of rfl trivial ?_ ?_ ?_ ?_ ?_ <;> first | decide | (simp only [GA, ↓GB, List.filterMap_cons, eq_self, BEq.rfl, simprocAttr, List.getD_cons_zero, List.getD_cons_succ, or_false, false_or, or_self, or_true, true_or, decide_true]; done))); intro os' s hR; obtain ⟨rfl, rfl⟩ := hR) | (refine Ctr.use (string_ctr (4 :: (numB 1 t ++ textB 2 s ++ numB 3 q ++ numB 4 1)) (by simp) (by simp; omega)) hP ?_ [1,9] ?_ rfl rfl ?_; (focus (intro p hp; cases hp)); (focus (refine LeR.of rfl trivial ?_ ?_ ?_ ?_ ?_ <;> first | decide | (simp only [GA, ↓GB, List.filterMap_cons, eq_self, BEq.rfl, simprocAttr, List.getD_cons_zero, List.getD_cons_succ, or_false, false_or, or_self, or_true, true_or, decide_true]; done))); intro os' s hR; obtain ⟨rfl, rfl⟩ := hR)); simp only [GA, ↓GB, List.filterMap_cons, eq_self, BEq.rfl, simprocAttr, hnt, hT, h, e1])
    | (refine SX.block ?_)
    | (refine and_mk ?_ ?_; (focus first | decide | omega | rfl | assumption | (simp only [List.length_append, List.length_cons, List.length_nil, B_size]; omega) | (simp; done)))
    | (refine And.intro ?_ ?_))
  all_goals (try refine Done.mk ?_)
  all_goals first | exact hbel | exact ⟨by simp [statusBytes], hbel⟩
theorem putStatus_plain (t : Nat) (s : List UInt8) (q : Nat) (hs : s.length < 4294967296) (hq : q < 18446744073709551616) (ht : t ≤ 5) (ht1 : 1 ≤ t) (hq1 : 0 < q) (h : statusB t s q false [] = true) (w : World) :
    Calls Tryd.prog 19 #[.agg #[.int .i64 t, .string (B s), .int .u64 q, .bool false, .string (B [])]] w fun e w' => e = .returned (.tuple #[.string (B (statusBytes t s q false [])), .bool true]) ∧ Below w.heap.size w w' := by
  have e1 : IntKind.u64.wrap (t : Int) = (t : Int) := wU64 (by omega) (by omega)
  have n1 := numB_len 1 t (by decide) (by omega)
  have n2 := textB_len 2 s (by decide) hs
  have n3 := numB_len 3 q (by decide) hq
  have n4 := numB_len 4 1 (by decide) (by decide)
  refine calls_pureK (args := [.agg #[.int .i64 t, .string (B s), .int .u64 q, .bool false, .string (B [])]]) w Tryd.func19 rfl Tryd.ntmps19 (by simp) ?_
  intro X K hX hK
  have hnt : X.nt = 35 := by rw [hX]
  have hwi : X.wi = w := by rw [hX]
  have hP : X.P = Tryd.prog := by rw [hX]
  have hown : X.own = [] := by rw [hX]
  have hbl : X.base.length = 0 := by rw [hX]; rfl
  clear hX
  have hT : aggOf X.P 30 = some true ∧ szOf X.P 30 = some 5 ∧ calleeOk X.P 64 = true ∧ zeroCells X.P 123 = some [(Value.pointer none), (Value.slice none 0 0)] ∧ fieldOff X.P 123 0 = some 0 ∧ calleeOk X.P 65 = true ∧ fieldOff X.P 30 0 = some 0 ∧ fieldOff X.P 26 0 = some 0 ∧ aggOf X.P 3 = some false ∧ szOf X.P 3 = some 1 ∧ X.P.underlying 3 = some (TypeDesc.int IntKind.i64) ∧ X.P.underlying 22 = some (TypeDesc.int IntKind.u64) ∧ isBytesT X.P 3 = false ∧ isStrT X.P 22 = false ∧ calleeOk X.P 66 = true ∧ fieldOff X.P 26 1 = some 1 ∧ aggOf X.P 9 = some false ∧ szOf X.P 9 = some 1 ∧ elemSz X.P 38 = some (9, 1) ∧ zeroCells X.P 9 = some [(Value.string { data := #[] })] ∧ calleeOk X.P 67 = true ∧ fieldOff X.P 30 1 = some 2 ∧ aggOf X.P 22 = some false ∧ szOf X.P 22 = some 1 ∧ fieldOff X.P 30 2 = some 3 ∧ aggOf X.P 4 = some false ∧ szOf X.P 4 = some 1 ∧ calleeOk X.P 68 = true ∧ fieldOff X.P 30 3 = some 4 ∧ calleeOk X.P 69 = true := by rw [hP]; exact ⟨Ty.ag30, Ty.sz30, Ty.co64, Ty.ze123, Ty.fo123_0, Ty.co65, Ty.fo30_0, Ty.fo26_0, Ty.ag3, Ty.sz3, Tryd.underlying3, Tryd.underlying22, Ty.ib3, Ty.is22, Ty.co66, Ty.fo26_1, Ty.ag9, Ty.sz9, Ty.el38, Ty.ze9, Ty.co67, Ty.fo30_1, Ty.ag22, Ty.sz22, Ty.fo30_2, Ty.ag4, Ty.sz4, Ty.co68, Ty.fo30_3, Ty.co69⟩
  repeat' (first
    | (refine SX.seqK ?_; intro N hN)
    | ((first | (refine SX.ops ?_)); simp only [GA, ↓GB, List.filterMap_cons, eq_self, BEq.rfl, simprocAttr, hnt, hT, h, e1])
    | ((first | refine SX.skip ?_ | refine SX.exit ?_ | refine SX.label ?_); try simp only [GA, ↓GB, List.filterMap_cons, eq_self, BEq.rfl, simprocAttr])
    | (refine SX.cond rfl (fun hb => ?_) (fun hb => ?_) <;> ((first | cases hb | (simp only [decide_eq_true_eq, decide_eq_false_iff_not, beq_iff_eq, beq_eq_false_iff_ne, bne_iff_ne, Bool.and_eq_true, Bool.or_eq_true, Bool.not_eq_true', Bool.not_eq_false', Bool.and_eq_false_iff, Bool.or_eq_false_iff, Int.not_lt, Int.not_le] at hb) | skip) <;> (first | (exfalso; omega) | skip)))
    | (refine SX.ret ?_; try simp only [GA, ↓GB, List.filterMap_cons, eq_self, BEq.rfl, simprocAttr])
    | (refine hN _ ?_; clear hN N)
    | (refine hK _ _ (Fin.res rfl hown ?_); simp only [GA, ↓GB, List.filterMap_cons, eq_self, BEq.rfl, simprocAttr, f_a, f_b, f_n, f_c, f_B, f_v, f_g, f_0, f_1, f_2, hT, hwi, h, e1]; intro w' hbel; refine Done.out ?_)
    | (clear hN N; first | (refine hN _ ?_; clear hN N) | (clear hN N; first | (refine hN _ ?_; clear hN N) | (clear hN N; first | (refine hN _ ?_; clear hN N) | (clear hN N; first | (refine hN _ ?_; clear hN N) | (clear hN N; first | (refine hN _ ?_; clear hN N) | (refine hN _ ?_; clear hN N))))))
    | (refine bif2.mk (fun hb => ?_) (fun hb => ?_) <;> (try simp only [hb, GA, ↓GB, List.filterMap_cons, eq_self, BEq.rfl, simprocAttr, hnt, hT, h, e1]) <;> ((first | cases hb | (simp only [decide_eq_true_eq, decide_eq_false_iff_not, beq_iff_eq, beq_eq_false_iff_ne, bne_iff_ne, Bool.and_eq_true, Bool.or_eq_true, Bool.not_eq_true', Bool.not_eq_false', Bool.and_eq_false_iff, Bool.or_eq_false_iff, Int.not_lt, Int.not_le] at hb) | skip) <;> (first | (exfalso; omega) | skip)))
    | ((first | (refine CallVC.pv hP (statusRight_any _ _ _ _ _ (by omega)) rfl ?_) | (refine CallQ.pv hP (statusRight_any _ _ _ _ _ (by omega)) rfl ?_) | (refine Ctr.use (writeByte_ctr 4) hP ?_ [1] ?_ rfl rfl ?_; (focus (intro p hp; cases hp)); (focus (refine LeR.of rfl trivial ?_ ?_ ?_ ?_ ?_ <;> first | decide | (simp only [GA, ↓GB, List.filterMap_cons, eq_self, BEq.rfl, simprocAttr, List.getD_cons_zero, List.getD_cons_succ, or_false, false_or, or_self, or_true, true_or, decide_true]; done))); intro os' s hR; obtain ⟨rfl, rfl⟩ := hR) | (refine Ctr.use (wnumber_ctr [4] 1 t (by decide) (by decide) (by omega) (by omega) (by simp)) hP ?_ [1,4] ?_ rfl rfl ?_; (focus (intro p hp; cases hp)); (focus (refine LeR.of rfl trivial ?_ ?_ ?_ ?_ ?_ <;> first | decide | (simp only [GA, ↓GB, List.filterMap_cons, eq_self, BEq.rfl, simprocAttr, List.getD_cons_zero, List.getD_cons_succ, or_false, false_or, or_self, or_true, true_or, decide_true]; done))); intro os' s hR; obtain ⟨rfl, rfl⟩ := hR) | (refine Ctr.use (wlist1_ctr (4 :: numB 1 t) s 2 (by decide) (by decide) hs (by simp; omega)) hP ?_ [1,5,6] ?_ rfl rfl ?_; (focus (intro p hp; cases hp)); (focus (refine LeR.of rfl trivial ?_ ?_ ?_ ?_ ?_ <;> first | decide | (simp only [GA, ↓GB, List.filterMap_cons, eq_self, BEq.rfl, simprocAttr, List.getD_cons_zero, List.getD_cons_succ, or_false, false_or, or_self, or_true, true_or, decide_true]; done))); intro os' s hR; obtain ⟨rfl, rfl⟩ := hR) | (refine Ctr.use (wnumber_ctr (4 :: (numB 1 t ++ textB 2 s)) 3 q (by decide) (by decide) hq1 hq (by simp; omega)) hP ?_ [1,7] ?_ rfl rfl ?_; (focus (intro p hp; cases hp)); (focus (refine LeR.of rfl trivial ?_ ?_ ?_ ?_ ?_ <;> first | decide | (simp only [GA, ↓GB, List.filterMap_cons, eq_self, BEq.rfl, simprocAttr, List.getD_cons_zero, List.getD_cons_succ, or_false, false_or, or_self, or_true, true_or, decide_true]; done))); intro os' s hR; obtain ⟨rfl, rfl⟩ := hR) | (refine Ctr.use (wflag_no (4 :: (numB 1 t ++ textB 2 s ++ numB 3 q)) 4) hP ?_ [1,8] ?_ rfl rfl ?_; (focus (intro p hp; cases hp)); (focus (refine LeR.of rfl trivial ?_ ?_ ?_ ?_ ?_ <;> first | decide | (simp only [GA, ↓GB, List.filterMap_cons, eq_self, BEq.rfl, simprocAttr, List.getD_cons_zero, List.getD_cons_succ, or_false, false_or, or_self, or_true, true_or, decide_true]; done))); intro os' s hR; obtain ⟨rfl, rfl⟩ := hR) | (refine Ctr.use (string_ctr (4 :: (numB 1 t ++ textB 2 s ++ numB 3 q)) (by simp) (by simp; omega)) hP ?_ [1,8] ?_ rfl rfl ?_; (focus (intro p hp; cases hp)); (focus (refine LeR.of rfl trivial ?_ ?_ ?_ ?_ ?_ <;> first | decide | (simp only [GA, ↓GB, List.filterMap_cons, eq_self, BEq.rfl, simprocAttr, List.getD_cons_zero, List.getD_cons_succ, or_false, false_or, or_self, or_true, true_or, decide_true]; done))); intro os' s hR; obtain ⟨rfl, rfl⟩ := hR)); simp only [GA, ↓GB, List.filterMap_cons, eq_self, BEq.rfl, simprocAttr, hnt, hT, h, e1])
    | (refine SX.block ?_)
    | (refine and_mk ?_ ?_; (focus first | decide | omega | rfl | assumption | (simp only [List.length_append, List.length_cons, List.length_nil, B_size]; omega) | (simp; done)))
    | (refine And.intro ?_ ?_))
  all_goals (try refine Done.mk ?_)
  all_goals first | exact hbel | exact ⟨by simp [statusBytes], hbel⟩
theorem putStatus_detail (t : Nat) (s : List UInt8) (q : Nat) (hs : s.length < 4294967296) (hq : q < 18446744073709551616) (ht : t ≤ 5) (ht1 : 1 ≤ t) (hq1 : 0 < q) (d : List UInt8) (hd : d.length < 4294967296) (hd0 : d ≠ []) (h : statusB t s q false d = true) (w : World) :
    Calls Tryd.prog 19 #[.agg #[.int .i64 t, .string (B s), .int .u64 q, .bool false, .string (B d)]] w fun e w' => e = .returned (.tuple #[.string (B (statusBytes t s q false d)), .bool true]) ∧ Below w.heap.size w w' := by
  have e1 : IntKind.u64.wrap (t : Int) = (t : Int) := wU64 (by omega) (by omega)
  have n1 := numB_len 1 t (by decide) (by omega)
  have n2 := textB_len 2 s (by decide) hs
  have n3 := numB_len 3 q (by decide) hq
  have n4 := numB_len 4 1 (by decide) (by decide)
  have n5 := textB_len 5 d (by decide) hd
  have gd : (d == []) = false := by cases d <;> simp_all
  refine calls_pureK (args := [.agg #[.int .i64 t, .string (B s), .int .u64 q, .bool false, .string (B d)]]) w Tryd.func19 rfl Tryd.ntmps19 (by simp) ?_
  intro X K hX hK
  have hnt : X.nt = 35 := by rw [hX]
  have hwi : X.wi = w := by rw [hX]
  have hP : X.P = Tryd.prog := by rw [hX]
  have hown : X.own = [] := by rw [hX]
  have hbl : X.base.length = 0 := by rw [hX]; rfl
  clear hX
  have hT : aggOf X.P 30 = some true ∧ szOf X.P 30 = some 5 ∧ calleeOk X.P 64 = true ∧ zeroCells X.P 123 = some [(Value.pointer none), (Value.slice none 0 0)] ∧ fieldOff X.P 123 0 = some 0 ∧ calleeOk X.P 65 = true ∧ fieldOff X.P 30 0 = some 0 ∧ fieldOff X.P 26 0 = some 0 ∧ aggOf X.P 3 = some false ∧ szOf X.P 3 = some 1 ∧ X.P.underlying 3 = some (TypeDesc.int IntKind.i64) ∧ X.P.underlying 22 = some (TypeDesc.int IntKind.u64) ∧ isBytesT X.P 3 = false ∧ isStrT X.P 22 = false ∧ calleeOk X.P 66 = true ∧ fieldOff X.P 26 1 = some 1 ∧ aggOf X.P 9 = some false ∧ szOf X.P 9 = some 1 ∧ elemSz X.P 38 = some (9, 1) ∧ zeroCells X.P 9 = some [(Value.string { data := #[] })] ∧ calleeOk X.P 67 = true ∧ fieldOff X.P 30 1 = some 2 ∧ aggOf X.P 22 = some false ∧ szOf X.P 22 = some 1 ∧ fieldOff X.P 30 2 = some 3 ∧ aggOf X.P 4 = some false ∧ szOf X.P 4 = some 1 ∧ calleeOk X.P 68 = true ∧ fieldOff X.P 30 3 = some 4 ∧ calleeOk X.P 69 = true := by rw [hP]; exact ⟨Ty.ag30, Ty.sz30, Ty.co64, Ty.ze123, Ty.fo123_0, Ty.co65, Ty.fo30_0, Ty.fo26_0, Ty.ag3, Ty.sz3, Tryd.underlying3, Tryd.underlying22, Ty.ib3, Ty.is22, Ty.co66, Ty.fo26_1, Ty.ag9, Ty.sz9, Ty.el38, Ty.ze9, Ty.co67, Ty.fo30_1, Ty.ag22, Ty.sz22, Ty.fo30_2, Ty.ag4, Ty.sz4, Ty.co68, Ty.fo30_3, Ty.co69⟩
  repeat' (first
    | (refine SX.seqK ?_; intro N hN)
    | ((first | (refine SX.ops ?_)); simp only [GA, ↓GB, List.filterMap_cons, eq_self, BEq.rfl, simprocAttr, hnt, hT, h, e1, gd])
    | ((first | refine SX.skip ?_ | refine SX.exit ?_ | refine SX.label ?_); try simp only [GA, ↓GB, List.filterMap_cons, eq_self, BEq.rfl, simprocAttr])
    | (refine SX.cond rfl (fun hb => ?_) (fun hb => ?_) <;> ((first | cases hb | (simp only [decide_eq_true_eq, decide_eq_false_iff_not, beq_iff_eq, beq_eq_false_iff_ne, bne_iff_ne, Bool.and_eq_true, Bool.or_eq_true, Bool.not_eq_true', Bool.not_eq_false', Bool.and_eq_false_iff, Bool.or_eq_false_iff, Int.not_lt, Int.not_le] at hb) | skip) <;> (first | (exfalso; omega) | skip)))
    | (refine SX.ret ?_; try simp only [GA, ↓GB, List.filterMap_cons, eq_self, BEq.rfl, simprocAttr])
    | (refine hN _ ?_; clear hN N)
    | (refine hK _ _ (Fin.res rfl hown ?_); simp only [GA, ↓GB, List.filterMap_cons, eq_self, BEq.rfl, simprocAttr, f_a, f_b, f_n, f_c, f_B, f_v, f_g, f_0, f_1, f_2, hT, hwi, h, e1, gd]; intro w' hbel; refine Done.out ?_)
    | (clear hN N; first | (refine hN _ ?_; clear hN N) | (clear hN N; first | (refine hN _ ?_; clear hN N) | (clear hN N; first | (refine hN _ ?_; clear hN N) | (clear hN N; first | (refine hN _ ?_; clear hN N) | (clear hN N; first | (refine hN _ ?_; clear hN N) | (refine hN _ ?_; clear hN N))))))
    | (refine bif2.mk (fun hb => ?_) (fun hb => ?_) <;> (try simp only [hb, GA, ↓GB, List.filterMap_cons, eq_self, BEq.rfl, simprocAttr, hnt, hT, h, e1, gd]) <;> ((first | cases hb | (simp only [decide_eq_true_eq, decide_eq_false_iff_not, beq_iff_eq, beq_eq_false_iff_ne, bne_iff_ne, Bool.and_eq_true, Bool.or_eq_true, Bool.not_eq_true', Bool.not_eq_false', Bool.and_eq_false_iff, Bool.or_eq_false_iff, Int.not_lt, Int.not_le] at hb) | skip) <;> (first | (exfalso; omega) | skip)))
    | ((first | (refine CallVC.pv hP (statusRight_any _ _ _ _ _ (by omega)) rfl ?_) | (refine CallQ.pv hP (statusRight_any _ _ _ _ _ (by omega)) rfl ?_) | (refine Ctr.use (writeByte_ctr 4) hP ?_ [1] ?_ rfl rfl ?_; (focus (intro p hp; cases hp)); (focus (refine LeR.of rfl trivial ?_ ?_ ?_ ?_ ?_ <;> first | decide | (simp only [GA, ↓GB, List.filterMap_cons, eq_self, BEq.rfl, simprocAttr, List.getD_cons_zero, List.getD_cons_succ, or_false, false_or, or_self, or_true, true_or, decide_true]; done))); intro os' s hR; obtain ⟨rfl, rfl⟩ := hR) | (refine Ctr.use (wnumber_ctr [4] 1 t (by decide) (by decide) (by omega) (by omega) (by simp)) hP ?_ [1,4] ?_ rfl rfl ?_; (focus (intro p hp; cases hp)); (focus (refine LeR.of rfl trivial ?_ ?_ ?_ ?_ ?_ <;> first | decide | (simp only [GA, ↓GB, List.filterMap_cons, eq_self, BEq.rfl, simprocAttr, List.getD_cons_zero, List.getD_cons_succ, or_false, false_or, or_self, or_true, true_or, decide_true]; done))); intro os' s hR; obtain ⟨rfl, rfl⟩ := hR) | (refine Ctr.use (wlist1_ctr (4 :: numB 1 t) s 2 (by decide) (by decide) hs (by simp; omega)) hP ?_ [1,5,6] ?_ rfl rfl ?_; (focus (intro p hp; cases hp)); (focus (refine LeR.of rfl trivial ?_ ?_ ?_ ?_ ?_ <;> first | decide | (simp only [GA, ↓GB, List.filterMap_cons, eq_self, BEq.rfl, simprocAttr, List.getD_cons_zero, List.getD_cons_succ, or_false, false_or, or_self, or_true, true_or, decide_true]; done))); intro os' s hR; obtain ⟨rfl, rfl⟩ := hR) | (refine Ctr.use (wnumber_ctr (4 :: (numB 1 t ++ textB 2 s)) 3 q (by decide) (by decide) hq1 hq (by simp; omega)) hP ?_ [1,7] ?_ rfl rfl ?_; (focus (intro p hp; cases hp)); (focus (refine LeR.of rfl trivial ?_ ?_ ?_ ?_ ?_ <;> first | decide | (simp only [GA, ↓GB, List.filterMap_cons, eq_self, BEq.rfl, simprocAttr, List.getD_cons_zero, List.getD_cons_succ, or_false, false_or, or_self, or_true, true_or, decide_true]; done))); intro os' s hR; obtain ⟨rfl, rfl⟩ := hR) | (refine Ctr.use (wflag_no (4 :: (numB 1 t ++ textB 2 s ++ numB 3 q)) 4) hP ?_ [1,8] ?_ rfl rfl ?_; (focus (intro p hp; cases hp)); (focus (refine LeR.of rfl trivial ?_ ?_ ?_ ?_ ?_ <;> first | decide | (simp only [GA, ↓GB, List.filterMap_cons, eq_self, BEq.rfl, simprocAttr, List.getD_cons_zero, List.getD_cons_succ, or_false, false_or, or_self, or_true, true_or, decide_true]; done))); intro os' s hR; obtain ⟨rfl, rfl⟩ := hR) | (refine Ctr.use (wlist1_ctr (4 :: (numB 1 t ++ textB 2 s ++ numB 3 q)) d 5 (by decide) (by decide) hd (by simp; omega)) hP ?_ [1,8,9] ?_ rfl rfl ?_; (focus (intro p hp; cases hp)); (focus (refine LeR.of rfl trivial ?_ ?_ ?_ ?_ ?_ <;> first | decide | (simp only [GA, ↓GB, List.filterMap_cons, eq_self, BEq.rfl, simprocAttr, List.getD_cons_zero, List.getD_cons_succ, or_false, false_or, or_self, or_true, true_or, decide_true]; done))); intro os' s hR; obtain ⟨rfl, rfl⟩ := hR) | (refine Ctr.use (string_ctr (4 :: (numB 1 t ++ textB 2 s ++ numB 3 q ++ textB 5 d)) (by simp) (by simp; omega)) hP ?_ [1,10] ?_ rfl rfl ?_; (focus (intro p hp; cases hp)); (focus (refine LeR.of rfl trivial ?_ ?_ ?_ ?_ ?_ <;> first | decide | (simp only [GA, ↓GB, List.filterMap_cons, eq_self, BEq.rfl, simprocAttr, List.getD_cons_zero, List.getD_cons_succ, or_false, false_or, or_self, or_true, true_or, decide_true]; done))); intro os' s hR; obtain ⟨rfl, rfl⟩ := hR)); simp only [GA, ↓GB, List.filterMap_cons, eq_self, BEq.rfl, simprocAttr, hnt, hT, h, e1, gd])
    | (refine SX.block ?_)
    | (refine and_mk ?_ ?_; (focus first | decide | omega | rfl | assumption | (simp only [List.length_append, List.length_cons, List.length_nil, B_size]; omega) | (simp; done)))
    | (refine And.intro ?_ ?_))
  all_goals (try refine Done.mk ?_)
  all_goals first | exact hbel | exact ⟨by simp [statusBytes, hd0], hbel⟩
end Go.Proofs.YtbdacbcpniegiaaDoor
namespace Go.Proofs.YtbdacbcpniegiaaDoor
open Go Go.RowKit Go.Proofs Go.Sx
set_option maxHeartbeats 4000000
set_option maxRecDepth 100000
set_option linter.unusedSimpArgs false
set_option linter.unusedVariables false
theorem nameB_len {s : List UInt8} (h : nameB s = true) : s.length ≤ 64 := by
  simp only [nameB, Bool.and_eq_true, decide_eq_true_eq] at h
  omega
theorem keyB_spec {t : Int} {s : List UInt8} (h : keyB t s = true) : 1 ≤ t ∧ t ≤ 5 ∧ s.length ≤ 64 := by
  simp only [keyB, Bool.and_eq_true, decide_eq_true_eq, Bool.or_eq_true, beq_iff_eq] at h
  refine ⟨h.1.1, h.1.2, ?_⟩
  rcases h.2 with h | h
  · subst h; decide
  · exact nameB_len h
theorem statusB_spec {t : Int} {s : List UInt8} {q : Int} {ok : Bool} {d : List UInt8} (h : statusB t s q ok d = true) : 1 ≤ t ∧ t ≤ 5 ∧ s.length ≤ 64 ∧ 0 < q ∧ d.length ≤ 256 ∧ (ok = true → d = []) := by
  simp only [statusB, Bool.and_eq_true, decide_eq_true_eq, Bool.or_eq_true, Bool.not_eq_true', beq_iff_eq] at h
  obtain ⟨⟨⟨⟨h1, _⟩, h3⟩, h4⟩, h5⟩ := h
  obtain ⟨a, b, c⟩ := keyB_spec h1
  refine ⟨a, b, c, h3, by omega, fun e => ?_⟩
  rcases h5 with h5 | h5
  · rw [e] at h5; cases h5
  · exact h5
theorem putStatus_any (t : Int) (s : List UInt8) (q : Nat) (ok : Bool) (d : List UInt8) (hs : s.length ≤ 9223372036854775807) (hq : q < 18446744073709551616) (w : World) :
    Calls Tryd.prog 19 #[.agg #[.int .i64 t, .string (B s), .int .u64 q, .bool ok, .string (B d)]] w fun e w' => e = .returned (.tuple #[.string (B (if statusB t s q ok d then statusBytes t.toNat s q ok d else [])), .bool (statusB t s q ok d)]) ∧ Below w.heap.size w w' := by
  cases h : statusB t s q ok d with
  | false => simpa using putStatus_no t s q ok d hs h w
  | true =>
    obtain ⟨h1, h2, h3, h4, h5, h6⟩ := statusB_spec h
    obtain ⟨n, rfl⟩ : ∃ n : Nat, t = n := ⟨t.toNat, by omega⟩
    simp only [if_true, Int.toNat_natCast]
    cases ok with
    | true =>
      have := h6 rfl; subst this
      exact putStatus_ok n s q (by omega) hq (by omega) (by omega) (by omega) h w
    | false =>
      by_cases hd : d = []
      · subst hd; exact putStatus_plain n s q (by omega) hq (by omega) (by omega) (by omega) h w
      · exact putStatus_detail n s q (by omega) hq (by omega) (by omega) (by omega) d (by omega) hd h w
end Go.Proofs.YtbdacbcpniegiaaDoor
namespace Go.Sx
open Go Go.RowKit Go.MapKept
set_option linter.unusedVariables false
set_option linter.unusedSimpArgs false
inductive Put (k : Value) (s : S1) : List (Value × S1) → List (Value × S1) → Prop
  | nil : Put k s [] [(k, s)]
  | hit {p es} : k = p.1 → Put k s (p :: es) ((k, s) :: es)
  | miss {p es es'} : k ≠ p.1 → Put k s es es' → Put k s (p :: es) (p :: es')
theorem sameBits_key {d : TypeDesc} {k : Value} (hk : KeyOf d k = true) : Instr.sameBits 10000 k k = true := by
  unfold KeyOf at hk
  split at hk
  · simp [Instr.sameBits]
  · unfold Instr.sameBits; exact (bytes_beq _ _).2 rfl
  · cases hk
abbrev MR (σ : List Value) (p : Value × S1) (m : MapEntry) : Prop := m.key = p.1 ∧ D1 σ p.2 m.val
theorem findNow_put {σ : List Value} {d : TypeDesc} {k v : Value} {s : S1} (hk : KeyOf d k = true) (hd : D1 σ s v) : ∀ {es es' : List (Value × S1)} {ms : List MapEntry} (i : Nat),
    All2 (MR σ) es ms → (es.all fun p => KeyOf d p.1) = true → Put k s es es' →
    (Instr.findNow d k ms i = some none ∧ ∀ clock, All2 (MR σ) es' (ms ++ [⟨k, v, clock⟩])) ∨
    (∃ j v0 e0, Instr.findNow d k ms i = some (some (i + j, v0)) ∧ ms[j]? = some e0 ∧ e0.key = k ∧ All2 (MR σ) es' (ms.modify j fun e => { e with key := k, val := v }))
  | [], es', [], i, _, _, h => by cases h; exact .inl ⟨rfl, fun c => ⟨⟨rfl, hd⟩, trivial⟩⟩
  | p :: es, es', m :: ms, i, ha, hks, h => by
    simp only [List.all_cons, Bool.and_eq_true] at hks
    cases h with
    | hit e =>
      have : Instr.sameNow d k m.key = some true := sameNow_beq hk (by rw [ha.1.1]; exact hks.1) (by rw [ha.1.1]; simp [e])
      refine .inr ⟨0, m.val, m, by simp [Instr.findNow, this], rfl, ha.1.1.trans e.symm, ?_⟩
      exact ⟨⟨rfl, hd⟩, ha.2⟩
    | miss e h =>
      have : Instr.sameNow d k m.key = some false := sameNow_beq hk (by rw [ha.1.1]; exact hks.1) (by rw [ha.1.1]; simp [e])
      rcases findNow_put hk hd (i + 1) ha.2 hks.2 h with ⟨h1, h2⟩ | ⟨j, v0, e0, h1, h2, h3, h4⟩
      · exact .inl ⟨by simp [Instr.findNow, this, h1], fun c => ⟨ha.1, h2 c⟩⟩
      · refine .inr ⟨j + 1, v0, e0, by simp [Instr.findNow, this, h1]; omega, by simpa using h2, h3, ?_⟩
        rw [List.modify_succ_cons]
        exact ⟨ha.1, h4⟩
  | [], _, _ :: _, _, h, _, _ => h.elim
  | _ :: _, _, [], _, h, _, _ => h.elim
section
variable {X : Ctx} {c : Cfg} {N : Cfg → Prop} {ty : TypeId} {pos : String} {af : Array Edge} {g : Option (Nat × Bool)}
theorem VO.mapSet {t kt et i : Nat} {m k x : Operand} {kv : Value} {s : S1} {es es' : List (Value × S1)} {kd : TypeDesc} (hm : c.ev m = .one (.c (.row i))) (hi : c.loc[i]? = some (.map es)) (hk : c.ev k = vv kv) (hx : c.ev x = .one s)
    (ht : X.P.underlying t = some (.map kt et)) (hkt : X.P.underlying kt = some kd) (hkv : KeyOf kd kv = true) (hks : (es.all fun p => KeyOf kd p.1) = true) (hp : Put kv s es es')
    (h : N { c with loc := c.loc.set i (.map es') }) : VO X ⟨none, .mapUpdate t m k x, ty, pos, af, g⟩ c N :=
  .of_skip rfl fun ρ σ a w hr => by
    have e1 := hr.ev m
    rw [hm] at e1
    have e1 : σ[i]? = some (a.eval m) := e1
    have e2 := hr.ev k
    rw [hk] at e2
    have e2 : a.eval k = kv := e2
    have e3 := hr.ev x
    rw [hx] at e3
    obtain ⟨b, ms, clock, fp, hb, hm0, e0, hw, ha⟩ := hr.getMap hi e1
    rcases findNow_put hkv e3 0 ha hks hp with ⟨hf, hA⟩ | ⟨j, v0, en, hf, h2, h3, hA⟩
    · refine ⟨{ w with heap := w.heap.setIfInBounds b (.map (ms.push ⟨kv, a.eval x, clock⟩) (clock + 1)) }, _, ρ, σ, ?_, hr.setObj _ (List.getElem?_eq_some_iff.1 hi).1 hb hm0 e1 (o := .map es') ?_, h⟩
      · simp [execOp, e0, e2, Instr.mapUpdate, run_underlying ht, MapKept.run_getObj_map hw, run_checkKey hkt (isKey_of hkv), run_findKey hkt hf, MapKept.run_setObj_map _ hw, Result.andThen]
      · refine ⟨b, _, _, e0, hm0, Array.getElem?_setIfInBounds_self_of_lt (Array.getElem?_eq_some_iff.1 hw).1, ?_⟩
        rw [Array.toList_push]
        exact hA clock
    · rw [Nat.zero_add] at hf
      have h2' : ms[j]? = some en := by rw [← Array.getElem?_toList]; exact h2
      refine ⟨{ w with heap := w.heap.setIfInBounds b (.map (ms.modify j fun e => { e with key := kv, val := a.eval x }) clock) }, _, ρ, σ, ?_, hr.setObj _ (List.getElem?_eq_some_iff.1 hi).1 hb hm0 e1 (o := .map es') ?_, h⟩
      · simp [execOp, e0, e2, Instr.mapUpdate, run_underlying ht, MapKept.run_getObj_map hw, run_checkKey hkt (isKey_of hkv), run_findKey hkt hf, MapKept.run_setObj_map _ hw, Result.andThen, h2', h3, Instr.keyThatStays, sameBits_key hkv]
      · refine ⟨b, _, _, e0, hm0, Array.getElem?_setIfInBounds_self_of_lt (Array.getElem?_eq_some_iff.1 hw).1, ?_⟩
        rw [Array.toList_modify]
        exact hA
end
end Go.Sx
namespace Go.Proofs.YtbdacbcpniegiaaDoor
open Go Go.RowKit Go.Proofs Go.Sx
set_option maxHeartbeats 4000000
set_option maxRecDepth 100000
set_option linter.unusedSimpArgs false
set_option linter.unusedVariables false
structure Rs where
  t : Int
  s : List UInt8
  q : Nat
  g : Bool
  b : List UInt8
deriving Inhabited, DecidableEq
def rightB (r : Rs) : Bool := keyB r.t r.s && !(r.s == [42]) && decide ((r.b.length : Int) ≤ 1024) && !(r.g && !(r.b == [])) && decide (0 < (r.q : Int)) && decide ((r.q : Int) ≤ 4611686018427387904)
def Rs.cells (r : Rs) : List Value := [.int .i64 r.t, .string (B r.s), .int .u64 r.q, .bool r.g, .string (B r.b)]
theorem right_any (r : Rs) (hs : r.s.length ≤ 9223372036854775807) (w : World) :
    Calls Tryd.prog 51 #[.agg #[.int .i64 r.t, .string (B r.s), .int .u64 r.q, .bool r.g, .string (B r.b)]] w fun e w' => e = .returned (.bool (rightB r)) ∧ Below w.heap.size w w' := by
  refine calls_pureK (args := [.agg #[.int .i64 r.t, .string (B r.s), .int .u64 r.q, .bool r.g, .string (B r.b)]]) w Tryd.func51 rfl Tryd.ntmps51 (by simp) ?_
  intro X K hX hK
  have hnt : X.nt = 38 := by rw [hX]
  have hwi : X.wi = w := by rw [hX]
  have hP : X.P = Tryd.prog := by rw [hX]
  have hown : X.own = [] := by rw [hX]
  have hbl : X.base.length = 0 := by rw [hX]; rfl
  clear hX
  have hT : fieldOff X.P 89 0 = some 0 ∧ aggOf X.P 26 = some true ∧ szOf X.P 26 = some 2 ∧ calleeOk X.P 78 = true ∧ fieldOff X.P 26 1 = some 1 ∧ aggOf X.P 9 = some false ∧ szOf X.P 9 = some 1 ∧ fieldOff X.P 89 3 = some 4 ∧ X.P.underlying 9 = some TypeDesc.string ∧ fieldOff X.P 89 2 = some 3 ∧ aggOf X.P 4 = some false ∧ szOf X.P 4 = some 1 ∧ fieldOff X.P 89 1 = some 2 ∧ aggOf X.P 22 = some false ∧ szOf X.P 22 = some 1 := by rw [hP]; exact ⟨Ty.fo89_0, Ty.ag26, Ty.sz26, Ty.co78, Ty.fo26_1, Ty.ag9, Ty.sz9, Ty.fo89_3, Tryd.underlying9, Ty.fo89_2, Ty.ag4, Ty.sz4, Ty.fo89_1, Ty.ag22, Ty.sz22⟩
  repeat' (first
    | (refine SX.seqK ?_; intro N hN)
    | ((first | (refine SX.ops ?_)); simp only [GA, ↓GB, List.filterMap_cons, eq_self, BEq.rfl, simprocAttr, hnt, hT])
    | ((first | refine SX.skip ?_ | refine SX.exit ?_ | refine SX.label ?_); try simp only [GA, ↓GB, List.filterMap_cons, eq_self, BEq.rfl, simprocAttr])
    | (refine SX.cond rfl (fun hb => ?_) (fun hb => ?_) <;> ((first | cases hb | (simp only [decide_eq_true_eq, decide_eq_false_iff_not, beq_iff_eq, beq_eq_false_iff_ne, bne_iff_ne, Bool.and_eq_true, Bool.or_eq_true, Bool.not_eq_true', Bool.not_eq_false', Bool.and_eq_false_iff, Bool.or_eq_false_iff, Int.not_lt, Int.not_le] at hb) | skip) <;> (first | (exfalso; omega) | skip)))
    | (refine SX.ret ?_; try simp only [GA, ↓GB, List.filterMap_cons, eq_self, BEq.rfl, simprocAttr])
    | (refine hN _ ?_; clear hN N)
    | (refine hK _ _ (Fin.res rfl hown ?_); simp only [GA, ↓GB, List.filterMap_cons, eq_self, BEq.rfl, simprocAttr, f_a, f_b, f_n, f_c, f_B, f_v, f_g, f_0, f_1, f_2, hT, hwi]; intro w' hbel; refine Done.out ?_)
    | (clear hN N; first | (refine hN _ ?_; clear hN N) | (clear hN N; first | (refine hN _ ?_; clear hN N) | (clear hN N; first | (refine hN _ ?_; clear hN N) | (clear hN N; first | (refine hN _ ?_; clear hN N) | (clear hN N; first | (refine hN _ ?_; clear hN N) | (refine hN _ ?_; clear hN N))))))
    | (refine bif2.mk (fun hb => ?_) (fun hb => ?_) <;> (try simp only [hb, GA, ↓GB, List.filterMap_cons, eq_self, BEq.rfl, simprocAttr, hnt, hT]) <;> ((first | cases hb | (simp only [decide_eq_true_eq, decide_eq_false_iff_not, beq_iff_eq, beq_eq_false_iff_ne, bne_iff_ne, Bool.and_eq_true, Bool.or_eq_true, Bool.not_eq_true', Bool.not_eq_false', Bool.and_eq_false_iff, Bool.or_eq_false_iff, Int.not_lt, Int.not_le] at hb) | skip) <;> (first | (exfalso; omega) | skip)))
    | ((first | (refine CallVC.pv hP (key_any _ _ hs) rfl ?_) | (refine CallQ.pv hP (key_any _ _ hs) rfl ?_)); simp only [GA, ↓GB, List.filterMap_cons, eq_self, BEq.rfl, simprocAttr, hnt, hT])
    | (refine SX.block ?_)
    | (refine and_mk ?_ ?_; (focus first | decide | omega | rfl | assumption | (simp only [List.length_append, List.length_cons, List.length_nil, B_size]; omega) | (simp; done)))
    | (refine And.intro ?_ ?_))
  all_goals (try refine Done.mk ?_)
  all_goals (refine ⟨?_, hbel⟩; clear hK hT hP hnt hwi hown hbl; simp_all [rightB] <;> (intros; omega))
def resB (r : Rs) (t : Nat) : List UInt8 := numB 1 t ++ textB 2 r.s ++ numB 3 r.q ++ (if r.g then numB 4 1 else []) ++ (if r.b = [] then [] else textB 5 r.b)
theorem right_type {r : Rs} (h : rightB r = true) : 1 ≤ r.t ∧ r.t ≤ 5 ∧ r.s.length ≤ 64 ∧ r.b.length ≤ 1024 ∧ 0 < r.q ∧ r.q ≤ 4611686018427387904 := by
  simp only [rightB, keyB, nameB, Bool.and_eq_true, Bool.or_eq_true, decide_eq_true_eq, beq_iff_eq] at h
  obtain ⟨⟨⟨⟨⟨⟨⟨h1, h2⟩, h3⟩, _⟩, h4⟩, _⟩, h5⟩, h6⟩ := h
  refine ⟨h1, h2, ?_, by omega, by omega, by omega⟩
  rcases h3 with h3 | h3
  · rw [h3]; decide
  · omega
theorem put_no (r : Rs) (hs : r.s.length ≤ 9223372036854775807) (h : rightB r = false) (w : World) :
    Calls Tryd.prog 45 #[.agg #[.int .i64 r.t, .string (B r.s), .int .u64 r.q, .bool r.g, .string (B r.b)]] w fun e w' => e = .returned (.tuple #[.string (B []), .bool false]) ∧ Below w.heap.size w w' := by
  refine calls_pureK (args := [.agg #[.int .i64 r.t, .string (B r.s), .int .u64 r.q, .bool r.g, .string (B r.b)]]) w Tryd.func45 rfl Tryd.ntmps45 (by simp) ?_
  intro X K hX hK
  have hnt : X.nt = 36 := by rw [hX]
  have hwi : X.wi = w := by rw [hX]
  have hP : X.P = Tryd.prog := by rw [hX]
  have hown : X.own = [] := by rw [hX]
  have hbl : X.base.length = 0 := by rw [hX]; rfl
  clear hX
  have hT : aggOf X.P 89 = some true ∧ szOf X.P 89 = some 5 ∧ calleeOk X.P 51 = true ∧ fieldOff X.P 89 0 = some 0 ∧ fieldOff X.P 26 0 = some 0 ∧ aggOf X.P 3 = some false ∧ szOf X.P 3 = some 1 ∧ X.P.underlying 3 = some (TypeDesc.int IntKind.i64) ∧ X.P.underlying 22 = some (TypeDesc.int IntKind.u64) ∧ isBytesT X.P 3 = false ∧ isStrT X.P 22 = false ∧ calleeOk X.P 23 = true ∧ fieldOff X.P 26 1 = some 1 ∧ aggOf X.P 9 = some false ∧ szOf X.P 9 = some 1 ∧ calleeOk X.P 104 = true ∧ fieldOff X.P 89 1 = some 2 ∧ aggOf X.P 22 = some false ∧ szOf X.P 22 = some 1 ∧ fieldOff X.P 89 2 = some 3 ∧ aggOf X.P 4 = some false ∧ szOf X.P 4 = some 1 ∧ fieldOff X.P 89 3 = some 4 := by rw [hP]; exact ⟨Ty.ag89, Ty.sz89, Ty.co51, Ty.fo89_0, Ty.fo26_0, Ty.ag3, Ty.sz3, Tryd.underlying3, Tryd.underlying22, Ty.ib3, Ty.is22, Ty.co23, Ty.fo26_1, Ty.ag9, Ty.sz9, Ty.co104, Ty.fo89_1, Ty.ag22, Ty.sz22, Ty.fo89_2, Ty.ag4, Ty.sz4, Ty.fo89_3⟩
  repeat' (first
    | (refine SX.seqK ?_; intro N hN)
    | ((first | (refine SX.ops ?_)); simp only [GA, ↓GB, List.filterMap_cons, eq_self, BEq.rfl, simprocAttr, hnt, hT, h])
    | ((first | refine SX.skip ?_ | refine SX.exit ?_ | refine SX.label ?_); try simp only [GA, ↓GB, List.filterMap_cons, eq_self, BEq.rfl, simprocAttr])
    | (refine SX.cond rfl (fun hb => ?_) (fun hb => ?_) <;> ((first | cases hb | (simp only [decide_eq_true_eq, decide_eq_false_iff_not, beq_iff_eq, beq_eq_false_iff_ne, bne_iff_ne, Bool.and_eq_true, Bool.or_eq_true, Bool.not_eq_true', Bool.not_eq_false', Bool.and_eq_false_iff, Bool.or_eq_false_iff, Int.not_lt, Int.not_le] at hb) | skip) <;> (first | (exfalso; omega) | skip)))
    | (refine SX.ret ?_; try simp only [GA, ↓GB, List.filterMap_cons, eq_self, BEq.rfl, simprocAttr])
    | (refine hN _ ?_; clear hN N)
    | (refine hK _ _ (Fin.res rfl hown ?_); simp only [GA, ↓GB, List.filterMap_cons, eq_self, BEq.rfl, simprocAttr, f_a, f_b, f_n, f_c, f_B, f_v, f_g, f_0, f_1, f_2, hT, hwi, h]; intro w' hbel; refine Done.out ?_)
    | (clear hN N; first | (refine hN _ ?_; clear hN N) | (clear hN N; first | (refine hN _ ?_; clear hN N) | (clear hN N; first | (refine hN _ ?_; clear hN N) | (clear hN N; first | (refine hN _ ?_; clear hN N) | (clear hN N; first | (refine hN _ ?_; clear hN N) | (refine hN _ ?_; clear hN N))))))
    | (refine bif2.mk (fun hb => ?_) (fun hb => ?_) <;> (try simp only [hb, GA, ↓GB, List.filterMap_cons, eq_self, BEq.rfl, simprocAttr, hnt, hT, h]) <;> ((first | cases hb | (simp only [decide_eq_true_eq, decide_eq_false_iff_not, beq_iff_eq, beq_eq_false_iff_ne, bne_iff_ne, Bool.and_eq_true, Bool.or_eq_true, Bool.not_eq_true', Bool.not_eq_false', Bool.and_eq_false_iff, Bool.or_eq_false_iff, Int.not_lt, Int.not_le] at hb) | skip) <;> (first | (exfalso; omega) | skip)))
    | ((first | (refine CallVC.pv hP (right_any r hs) rfl ?_) | (refine CallQ.pv hP (right_any r hs) rfl ?_)); simp only [GA, ↓GB, List.filterMap_cons, eq_self, BEq.rfl, simprocAttr, hnt, hT, h])
    | (refine SX.block ?_)
    | (refine and_mk ?_ ?_; (focus first | decide | omega | rfl | assumption | (simp only [List.length_append, List.length_cons, List.length_nil, B_size]; omega) | (simp; done)))
    | (refine And.intro ?_ ?_))
  all_goals (try refine Done.mk ?_)
  all_goals exact hbel
theorem put_yes (r : Rs) (h : rightB r = true) (w : World) :
    Calls Tryd.prog 45 #[.agg #[.int .i64 r.t, .string (B r.s), .int .u64 r.q, .bool r.g, .string (B r.b)]] w fun e w' => e = .returned (.tuple #[.string (B (resB r r.t.toNat)), .bool true]) ∧ Below w.heap.size w w' := by
  obtain ⟨h1, h2, h3, h4, h5, h6⟩ := right_type h
  have hr := right_any r (by omega)
  obtain ⟨t, s, q, g, b⟩ := r
  simp only [] at h1 h2 h3 h4 h5 h6 hr
  obtain ⟨t, rfl⟩ : ∃ n : Nat, t = n := ⟨t.toNat, by omega⟩
  have e1 : IntKind.u64.wrap (t : Int) = (t : Int) := wU64 (by omega) (by omega)
  rw [Int.toNat_natCast]
  have n1 := numB_len 1 t (by decide) (by omega)
  have n2 := textB_len 2 s (by decide) (by omega)
  have n3 := numB_len 3 q (by decide) (by omega)
  have n4 := numB_len 4 1 (by decide) (by decide)
  have n5 := textB_len 5 b (by decide) (by omega)
  cases g with
  | true =>
    by_cases hb : b = []
    · subst hb
      refine calls_pureK (args := [.agg #[.int .i64 t, .string (B s), .int .u64 q, .bool true, .string (B [])]]) w Tryd.func45 rfl Tryd.ntmps45 (by simp) ?_
      intro X K hX hK
      have hnt : X.nt = 36 := by rw [hX]
      have hwi : X.wi = w := by rw [hX]
      have hP : X.P = Tryd.prog := by rw [hX]
      have hown : X.own = [] := by rw [hX]
      have hbl : X.base.length = 0 := by rw [hX]; rfl
      clear hX
      have hT : aggOf X.P 89 = some true ∧ szOf X.P 89 = some 5 ∧ calleeOk X.P 51 = true ∧ fieldOff X.P 89 0 = some 0 ∧ fieldOff X.P 26 0 = some 0 ∧ aggOf X.P 3 = some false ∧ szOf X.P 3 = some 1 ∧ X.P.underlying 3 = some (TypeDesc.int IntKind.i64) ∧ X.P.underlying 22 = some (TypeDesc.int IntKind.u64) ∧ isBytesT X.P 3 = false ∧ isStrT X.P 22 = false ∧ calleeOk X.P 23 = true ∧ fieldOff X.P 26 1 = some 1 ∧ aggOf X.P 9 = some false ∧ szOf X.P 9 = some 1 ∧ calleeOk X.P 104 = true ∧ fieldOff X.P 89 1 = some 2 ∧ aggOf X.P 22 = some false ∧ szOf X.P 22 = some 1 ∧ fieldOff X.P 89 2 = some 3 ∧ aggOf X.P 4 = some false ∧ szOf X.P 4 = some 1 ∧ fieldOff X.P 89 3 = some 4 := by rw [hP]; exact ⟨Ty.ag89, Ty.sz89, Ty.co51, Ty.fo89_0, Ty.fo26_0, Ty.ag3, Ty.sz3, Tryd.underlying3, Tryd.underlying22, Ty.ib3, Ty.is22, Ty.co23, Ty.fo26_1, Ty.ag9, Ty.sz9, Ty.co104, Ty.fo89_1, Ty.ag22, Ty.sz22, Ty.fo89_2, Ty.ag4, Ty.sz4, Ty.fo89_3⟩
      repeat' (first
        | (refine SX.seqK ?_; intro N hN)
        | ((first | (refine SX.ops ?_) | (refine SX.planT (id := 3) [.q [(0, [1]), (1, [8]), (2, [9]), (3, [10]), (4, [11]), (5, [1]), (6, [13]), (7, [14]), (8, [15]), (9, [12, 16]), (10, [1]), (11, [18]), (12, [19]), (13, [17, 20]), (14, [21])] none] ?_ ?_ ?_; (focus first | (rw [hP]; kernel_rfl) | (rw [hU1P, hP]; kernel_rfl)); (focus kernel_rfl))); simp only [GA, ↓GB, List.filterMap_cons, eq_self, BEq.rfl, simprocAttr, hnt, hT, h, e1])
        | ((first | refine SX.skip ?_ | refine SX.exit ?_ | refine SX.label ?_); try simp only [GA, ↓GB, List.filterMap_cons, eq_self, BEq.rfl, simprocAttr])
        | (refine SX.cond rfl (fun hb => ?_) (fun hb => ?_) <;> ((first | cases hb | (simp only [decide_eq_true_eq, decide_eq_false_iff_not, beq_iff_eq, beq_eq_false_iff_ne, bne_iff_ne, Bool.and_eq_true, Bool.or_eq_true, Bool.not_eq_true', Bool.not_eq_false', Bool.and_eq_false_iff, Bool.or_eq_false_iff, Int.not_lt, Int.not_le] at hb) | skip) <;> (first | (exfalso; omega) | skip)))
        | (refine SX.ret ?_; try simp only [GA, ↓GB, List.filterMap_cons, eq_self, BEq.rfl, simprocAttr])
        | (refine hN _ ?_; clear hN N)
        | (refine hK _ _ (Fin.res rfl hown ?_); simp only [GA, ↓GB, List.filterMap_cons, eq_self, BEq.rfl, simprocAttr, f_a, f_b, f_n, f_c, f_B, f_v, f_g, f_0, f_1, f_2, hT, hwi, h, e1]; intro w' hbel; refine Done.out ?_)
        | (clear hN N; first | (refine hN _ ?_; clear hN N) | (clear hN N; first | (refine hN _ ?_; clear hN N) | (clear hN N; first | (refine hN _ ?_; clear hN N) | (clear hN N; first | (refine hN _ ?_; clear hN N) | (clear hN N; first | (refine hN _ ?_; clear hN N) | (refine hN _ ?_; clear hN N))))))
        | (refine bif2.mk (fun hb => ?_) (fun hb => ?_) <;> (try simp only [hb, GA, ↓GB, List.filterMap_cons, eq_self, BEq.rfl, simprocAttr, hnt, hT, h, e1]) <;> ((first | cases hb | (simp only [decide_eq_true_eq, decide_eq_false_iff_not, beq_iff_eq, beq_eq_false_iff_ne, bne_iff_ne, Bool.and_eq_true, Bool.or_eq_true, Bool.not_eq_true', Bool.not_eq_false', Bool.and_eq_false_iff, Bool.or_eq_false_iff, Int.not_lt, Int.not_le] at hb) | skip) <;> (first | (exfalso; omega) | skip)))
        | ((first | (refine CallVC.pv hP (hr) rfl ?_) | (refine CallQ.pv hP (hr) rfl ?_) | (refine CallVC.pv hP (number_any 1 t (by decide) (by decide) (by omega)) rfl ?_) | (refine CallQ.pv hP (number_any 1 t (by decide) (by decide) (by omega)) rfl ?_) | (refine CallVC.pv hP (number_any 3 q (by decide) (by decide) (by omega)) rfl ?_) | (refine CallQ.pv hP (number_any 3 q (by decide) (by decide) (by omega)) rfl ?_) | (refine CallVC.pv hP (number_any 4 1 (by decide) (by decide) (by decide)) rfl ?_) | (refine CallQ.pv hP (number_any 4 1 (by decide) (by decide) (by decide)) rfl ?_) | (refine CallVC.pv hP (text_any 2 s (by decide) (by decide) (by omega)) rfl ?_) | (refine CallQ.pv hP (text_any 2 s (by decide) (by decide) (by omega)) rfl ?_)); simp only [GA, ↓GB, List.filterMap_cons, eq_self, BEq.rfl, simprocAttr, hnt, hT, h, e1])
        | (refine SX.block ?_)
        | (refine and_mk ?_ ?_; (focus first | decide | omega | rfl | assumption | (simp only [List.length_append, List.length_cons, List.length_nil, B_size]; omega) | (simp; done)))
        | (refine And.intro ?_ ?_))
      all_goals (try refine Done.mk ?_)
      all_goals first
        | ((try simp only [List.length_append]); omega)
        | (refine ⟨?_, hbel⟩; simp_all [resB])
    · exfalso
      simp [rightB, hb] at h
  | false =>
    by_cases hb : b = []
    · subst hb
      refine calls_pureK (args := [.agg #[.int .i64 t, .string (B s), .int .u64 q, .bool false, .string (B [])]]) w Tryd.func45 rfl Tryd.ntmps45 (by simp) ?_
      intro X K hX hK
      have hnt : X.nt = 36 := by rw [hX]
      have hwi : X.wi = w := by rw [hX]
      have hP : X.P = Tryd.prog := by rw [hX]
      have hown : X.own = [] := by rw [hX]
      have hbl : X.base.length = 0 := by rw [hX]; rfl
      clear hX
      have hT : aggOf X.P 89 = some true ∧ szOf X.P 89 = some 5 ∧ calleeOk X.P 51 = true ∧ fieldOff X.P 89 0 = some 0 ∧ fieldOff X.P 26 0 = some 0 ∧ aggOf X.P 3 = some false ∧ szOf X.P 3 = some 1 ∧ X.P.underlying 3 = some (TypeDesc.int IntKind.i64) ∧ X.P.underlying 22 = some (TypeDesc.int IntKind.u64) ∧ isBytesT X.P 3 = false ∧ isStrT X.P 22 = false ∧ calleeOk X.P 23 = true ∧ fieldOff X.P 26 1 = some 1 ∧ aggOf X.P 9 = some false ∧ szOf X.P 9 = some 1 ∧ calleeOk X.P 104 = true ∧ fieldOff X.P 89 1 = some 2 ∧ aggOf X.P 22 = some false ∧ szOf X.P 22 = some 1 ∧ fieldOff X.P 89 2 = some 3 ∧ aggOf X.P 4 = some false ∧ szOf X.P 4 = some 1 ∧ fieldOff X.P 89 3 = some 4 := by rw [hP]; exact ⟨Ty.ag89, Ty.sz89, Ty.co51, Ty.fo89_0, Ty.fo26_0, Ty.ag3, Ty.sz3, Tryd.underlying3, Tryd.underlying22, Ty.ib3, Ty.is22, Ty.co23, Ty.fo26_1, Ty.ag9, Ty.sz9, Ty.co104, Ty.fo89_1, Ty.ag22, Ty.sz22, Ty.fo89_2, Ty.ag4, Ty.sz4, Ty.fo89_3⟩
      repeat' (first
        | (refine SX.seqK ?_; intro N hN)
        | ((first | (refine SX.ops ?_) | (refine SX.planT (id := 3) [.q [(0, [1]), (1, [8]), (2, [9]), (3, [10]), (4, [11]), (5, [1]), (6, [13]), (7, [14]), (8, [15]), (9, [12, 16]), (10, [1]), (11, [18]), (12, [19]), (13, [17, 20]), (14, [21])] none] ?_ ?_ ?_; (focus first | (rw [hP]; kernel_rfl) | (rw [hU1P, hP]; kernel_rfl)); (focus kernel_rfl))); simp only [GA, ↓GB, List.filterMap_cons, eq_self, BEq.rfl, simprocAttr, hnt, hT, h, e1])
        | ((first | refine SX.skip ?_ | refine SX.exit ?_ | refine SX.label ?_); try simp only [GA, ↓GB, List.filterMap_cons, eq_self, BEq.rfl, simprocAttr])
        | (refine SX.cond rfl (fun hb => ?_) (fun hb => ?_) <;> ((first | cases hb | (simp only [decide_eq_true_eq, decide_eq_false_iff_not, beq_iff_eq, beq_eq_false_iff_ne, bne_iff_ne, Bool.and_eq_true, Bool.or_eq_true, Bool.not_eq_true', Bool.not_eq_false', Bool.and_eq_false_iff, Bool.or_eq_false_iff, Int.not_lt, Int.not_le] at hb) | skip) <;> (first | (exfalso; omega) | skip)))
        | (refine SX.ret ?_; try simp only [GA, ↓GB, List.filterMap_cons, eq_self, BEq.rfl, simprocAttr])
        | (refine hN _ ?_; clear hN N)
        | (refine hK _ _ (Fin.res rfl hown ?_); simp only [GA, ↓GB, List.filterMap_cons, eq_self, BEq.rfl, simprocAttr, f_a, f_b, f_n, f_c, f_B, f_v, f_g, f_0, f_1, f_2, hT, hwi, h, e1]; intro w' hbel; refine Done.out ?_)
        | (clear hN N; first | (refine hN _ ?_; clear hN N) | (clear hN N; first | (refine hN _ ?_; clear hN N) | (clear hN N; first | (refine hN _ ?_; clear hN N) | (clear hN N; first | (refine hN _ ?_; clear hN N) | (clear hN N; first | (refine hN _ ?_; clear hN N) | (refine hN _ ?_; clear hN N))))))
        | (refine bif2.mk (fun hb => ?_) (fun hb => ?_) <;> (try simp only [hb, GA, ↓GB, List.filterMap_cons, eq_self, BEq.rfl, simprocAttr, hnt, hT, h, e1]) <;> ((first | cases hb | (simp only [decide_eq_true_eq, decide_eq_false_iff_not, beq_iff_eq, beq_eq_false_iff_ne, bne_iff_ne, Bool.and_eq_true, Bool.or_eq_true, Bool.not_eq_true', Bool.not_eq_false', Bool.and_eq_false_iff, Bool.or_eq_false_iff, Int.not_lt, Int.not_le] at hb) | skip) <;> (first | (exfalso; omega) | skip)))
        | ((first | (refine CallVC.pv hP (hr) rfl ?_) | (refine CallQ.pv hP (hr) rfl ?_) | (refine CallVC.pv hP (number_any 1 t (by decide) (by decide) (by omega)) rfl ?_) | (refine CallQ.pv hP (number_any 1 t (by decide) (by decide) (by omega)) rfl ?_) | (refine CallVC.pv hP (number_any 3 q (by decide) (by decide) (by omega)) rfl ?_) | (refine CallQ.pv hP (number_any 3 q (by decide) (by decide) (by omega)) rfl ?_) | (refine CallVC.pv hP (text_any 2 s (by decide) (by decide) (by omega)) rfl ?_) | (refine CallQ.pv hP (text_any 2 s (by decide) (by decide) (by omega)) rfl ?_)); simp only [GA, ↓GB, List.filterMap_cons, eq_self, BEq.rfl, simprocAttr, hnt, hT, h, e1])
        | (refine SX.block ?_)
        | (refine and_mk ?_ ?_; (focus first | decide | omega | rfl | assumption | (simp only [List.length_append, List.length_cons, List.length_nil, B_size]; omega) | (simp; done)))
        | (refine And.intro ?_ ?_))
      all_goals (try refine Done.mk ?_)
      all_goals first
        | ((try simp only [List.length_append]); omega)
        | (refine ⟨?_, hbel⟩; simp_all [resB])
    · have gb : (b == []) = false := by cases b <;> simp_all
      refine calls_pureK (args := [.agg #[.int .i64 t, .string (B s), .int .u64 q, .bool false, .string (B b)]]) w Tryd.func45 rfl Tryd.ntmps45 (by simp) ?_
      intro X K hX hK
      have hnt : X.nt = 36 := by rw [hX]
      have hwi : X.wi = w := by rw [hX]
      have hP : X.P = Tryd.prog := by rw [hX]
      have hown : X.own = [] := by rw [hX]
      have hbl : X.base.length = 0 := by rw [hX]; rfl
      clear hX
      have hT : aggOf X.P 89 = some true ∧ szOf X.P 89 = some 5 ∧ calleeOk X.P 51 = true ∧ fieldOff X.P 89 0 = some 0 ∧ fieldOff X.P 26 0 = some 0 ∧ aggOf X.P 3 = some false ∧ szOf X.P 3 = some 1 ∧ X.P.underlying 3 = some (TypeDesc.int IntKind.i64) ∧ X.P.underlying 22 = some (TypeDesc.int IntKind.u64) ∧ isBytesT X.P 3 = false ∧ isStrT X.P 22 = false ∧ calleeOk X.P 23 = true ∧ fieldOff X.P 26 1 = some 1 ∧ aggOf X.P 9 = some false ∧ szOf X.P 9 = some 1 ∧ calleeOk X.P 104 = true ∧ fieldOff X.P 89 1 = some 2 ∧ aggOf X.P 22 = some false ∧ szOf X.P 22 = some 1 ∧ fieldOff X.P 89 2 = some 3 ∧ aggOf X.P 4 = some false ∧ szOf X.P 4 = some 1 ∧ fieldOff X.P 89 3 = some 4 := by rw [hP]; exact ⟨Ty.ag89, Ty.sz89, Ty.co51, Ty.fo89_0, Ty.fo26_0, Ty.ag3, Ty.sz3, Tryd.underlying3, Tryd.underlying22, Ty.ib3, Ty.is22, Ty.co23, Ty.fo26_1, Ty.ag9, Ty.sz9, Ty.co104, Ty.fo89_1, Ty.ag22, Ty.sz22, Ty.fo89_2, Ty.ag4, Ty.sz4, Ty.fo89_3⟩
      repeat' (first
        | (refine SX.seqK ?_; intro N hN)
        | ((first | (refine SX.ops ?_) | (refine SX.planT (id := 3) [.q [(0, [1]), (1, [8]), (2, [9]), (3, [10]), (4, [11]), (5, [1]), (6, [13]), (7, [14]), (8, [15]), (9, [12, 16]), (10, [1]), (11, [18]), (12, [19]), (13, [17, 20]), (14, [21])] none] ?_ ?_ ?_; (focus first | (rw [hP]; kernel_rfl) | (rw [hU1P, hP]; kernel_rfl)); (focus kernel_rfl))); simp only [GA, ↓GB, List.filterMap_cons, eq_self, BEq.rfl, simprocAttr, hnt, hT, h, e1, gb])
        | ((first | refine SX.skip ?_ | refine SX.exit ?_ | refine SX.label ?_); try simp only [GA, ↓GB, List.filterMap_cons, eq_self, BEq.rfl, simprocAttr])
        | (refine SX.cond rfl (fun hb => ?_) (fun hb => ?_) <;> ((first | cases hb | (simp only [decide_eq_true_eq, decide_eq_false_iff_not, beq_iff_eq, beq_eq_false_iff_ne, bne_iff_ne, Bool.and_eq_true, Bool.or_eq_true, Bool.not_eq_true', Bool.not_eq_false', Bool.and_eq_false_iff, Bool.or_eq_false_iff, Int.not_lt, Int.not_le] at hb) | skip) <;> (first | (exfalso; omega) | skip)))
        | (refine SX.ret ?_; try simp only [GA, ↓GB, List.filterMap_cons, eq_self, BEq.rfl, simprocAttr])
        | (refine hN _ ?_; clear hN N)
        | (refine hK _ _ (Fin.res rfl hown ?_); simp only [GA, ↓GB, List.filterMap_cons, eq_self, BEq.rfl, simprocAttr, f_a, f_b, f_n, f_c, f_B, f_v, f_g, f_0, f_1, f_2, hT, hwi, h, e1, gb]; intro w' hbel; refine Done.out ?_)
        | (clear hN N; first | (refine hN _ ?_; clear hN N) | (clear hN N; first | (refine hN _ ?_; clear hN N) | (clear hN N; first | (refine hN _ ?_; clear hN N) | (clear hN N; first | (refine hN _ ?_; clear hN N) | (clear hN N; first | (refine hN _ ?_; clear hN N) | (refine hN _ ?_; clear hN N))))))
        | (refine bif2.mk (fun hb => ?_) (fun hb => ?_) <;> (try simp only [hb, GA, ↓GB, List.filterMap_cons, eq_self, BEq.rfl, simprocAttr, hnt, hT, h, e1, gb]) <;> ((first | cases hb | (simp only [decide_eq_true_eq, decide_eq_false_iff_not, beq_iff_eq, beq_eq_false_iff_ne, bne_iff_ne, Bool.and_eq_true, Bool.or_eq_true, Bool.not_eq_true', Bool.not_eq_false', Bool.and_eq_false_iff, Bool.or_eq_false_iff, Int.not_lt, Int.not_le] at hb) | skip) <;> (first | (exfalso; omega) | skip)))
        | ((first | (refine CallVC.pv hP (hr) rfl ?_) | (refine CallQ.pv hP (hr) rfl ?_) | (refine CallVC.pv hP (number_any 1 t (by decide) (by decide) (by omega)) rfl ?_) | (refine CallQ.pv hP (number_any 1 t (by decide) (by decide) (by omega)) rfl ?_) | (refine CallVC.pv hP (number_any 3 q (by decide) (by decide) (by omega)) rfl ?_) | (refine CallQ.pv hP (number_any 3 q (by decide) (by decide) (by omega)) rfl ?_) | (refine CallVC.pv hP (text_any 2 s (by decide) (by decide) (by omega)) rfl ?_) | (refine CallQ.pv hP (text_any 2 s (by decide) (by decide) (by omega)) rfl ?_) | (refine CallVC.pv hP (text_any 5 b (by decide) (by decide) (by omega)) rfl ?_) | (refine CallQ.pv hP (text_any 5 b (by decide) (by decide) (by omega)) rfl ?_)); simp only [GA, ↓GB, List.filterMap_cons, eq_self, BEq.rfl, simprocAttr, hnt, hT, h, e1, gb])
        | (refine SX.block ?_)
        | (refine and_mk ?_ ?_; (focus first | decide | omega | rfl | assumption | (simp only [List.length_append, List.length_cons, List.length_nil, B_size]; omega) | (simp; done)))
        | (refine And.intro ?_ ?_))
      all_goals (try refine Done.mk ?_)
      all_goals first
        | ((try simp only [List.length_append]); omega)
        | (refine ⟨?_, hbel⟩; simp_all [resB])
end Go.Proofs.YtbdacbcpniegiaaDoor
namespace Go.Proofs.YtbdacbcpniegiaaDoor
open Go Go.RowKit Go.Proofs Go.Sx
set_option maxHeartbeats 4000000
set_option maxRecDepth 100000
set_option linter.unusedSimpArgs false
set_option linter.unusedVariables false
theorem strEq_to {P P' : Program} {t : TypeId} {x y : Array Value} {r : Bool} (h : P' = P) (k : StrEq P t x y r) : StrEq P' t x y r := h ▸ k
def cmpMark (a : Int) (s : List UInt8) (q : Int) (b : Int) (t : List UInt8) (r : Int) : Int := if cmpKey a s b t ≠ 0 then cmpKey a s b t else cmpI q r
theorem markOrder_any (a b q r st sr : Int) (s t d e : List UInt8) (w : World) :
    Calls Tryd.prog 82 #[.agg #[.int .i64 a, .string (B s), .int .u64 q, .int .i64 st, .string (B d)], .agg #[.int .i64 b, .string (B t), .int .u64 r, .int .i64 sr, .string (B e)]] w fun x w' => x = .returned (.int .i64 (cmpMark a s q b t r)) ∧ Below w.heap.size w w' := by
  refine calls_pureK (args := [.agg #[.int .i64 a, .string (B s), .int .u64 q, .int .i64 st, .string (B d)], .agg #[.int .i64 b, .string (B t), .int .u64 r, .int .i64 sr, .string (B e)]]) w Tryd.func82 rfl Tryd.ntmps82 (by simp) ?_
  intro X K hX hK
  have hnt : X.nt = 17 := by rw [hX]
  have hwi : X.wi = w := by rw [hX]
  have hP : X.P = Tryd.prog := by rw [hX]
  have hown : X.own = [] := by rw [hX]
  have hbl : X.base.length = 0 := by rw [hX]; rfl
  clear hX
  have hT : fieldOff X.P 62 0 = some 0 ∧ aggOf X.P 26 = some true ∧ szOf X.P 26 = some 2 ∧ calleeOk X.P 63 = true ∧ fieldOff X.P 62 1 = some 2 ∧ aggOf X.P 22 = some false ∧ szOf X.P 22 = some 1 ∧ calleeOk X.P 86 = true ∧ elemSz X.P 51 = some (3, 1) ∧ zeroCells X.P 3 = some [(Value.int IntKind.i64 0)] ∧ calleeOk X.P 119 = true := by rw [hP]; exact ⟨Ty.fo62_0, Ty.ag26, Ty.sz26, Ty.co63, Ty.fo62_1, Ty.ag22, Ty.sz22, Ty.co86, Ty.el51, Ty.ze3, Ty.co119⟩
  have hnt1 := True.intro; have hT1 := True.intro; have hU1P := True.intro
  repeat' (first
    | (refine SX.seqK ?_; intro N hN)
    | ((first | (refine SX.ops ?_) | (refine SX.planT (id := 1) [.q [(0, [2]), (1, [5]), (2, [3]), (3, [7]), (4, [6, 8]), (5, [2]), (6, [10]), (7, [3]), (8, [12]), (9, [11, 13])] none, .s 10, .s 11, .s 12] ?_ ?_ ?_; (focus first | (rw [hP]; kernel_rfl) | (rw [hU1P, hP]; kernel_rfl)); (focus kernel_rfl))); simp only [GA, ↓GB, List.filterMap_cons, eq_self, BEq.rfl, simprocAttr, hnt, hT, hnt1, hT1, hU1P])
    | ((first | refine SX.skip ?_ | refine SX.exit ?_ | refine SX.label ?_); try simp only [GA, ↓GB, List.filterMap_cons, eq_self, BEq.rfl, simprocAttr])
    | (refine SX.cond rfl (fun hb => ?_) (fun hb => ?_) <;> ((first | cases hb | (simp only [decide_eq_true_eq, decide_eq_false_iff_not, beq_iff_eq, beq_eq_false_iff_ne, bne_iff_ne, Bool.and_eq_true, Bool.or_eq_true, Bool.not_eq_true', Bool.not_eq_false', Bool.and_eq_false_iff, Bool.or_eq_false_iff, Int.not_lt, Int.not_le] at hb) | skip) <;> (first | (exfalso; omega) | skip)))
    | (refine SX.ret ?_; try simp only [GA, ↓GB, List.filterMap_cons, eq_self, BEq.rfl, simprocAttr])
    | (refine hN _ ?_; clear hN N)
    | ((first | refine hK1 _ _ (FinI.ret3 ?_) | refine hK1 _ _ (FinI.nrm3 ?_)); (repeat (clear hN N)); clear hK1 K1; simp only [GA, ↓GB, List.filterMap_cons, eq_self, BEq.rfl, simprocAttr, finP_s, hnt, hT, hnt1, hT1, hU1P])
    | (refine hK _ _ (Fin.res rfl hown ?_); simp only [GA, ↓GB, List.filterMap_cons, eq_self, BEq.rfl, simprocAttr, f_a, f_b, f_n, f_c, f_B, f_v, f_g, f_0, f_1, f_2, hT, hwi, hnt1, hT1, hU1P]; intro w' hbel; refine Done.out ?_)
    | (clear hN N; first | (refine hN _ ?_; clear hN N) | (clear hN N; first | (refine hN _ ?_; clear hN N) | (clear hN N; first | (refine hN _ ?_; clear hN N) | (clear hN N; first | (refine hN _ ?_; clear hN N) | (clear hN N; first | (refine hN _ ?_; clear hN N) | (refine hN _ ?_; clear hN N))))))
    | (refine bif2.mk (fun hb => ?_) (fun hb => ?_) <;> (try simp only [hb, GA, ↓GB, List.filterMap_cons, eq_self, BEq.rfl, simprocAttr, hnt, hT, hnt1, hT1, hU1P]) <;> ((first | cases hb | (simp only [decide_eq_true_eq, decide_eq_false_iff_not, beq_iff_eq, beq_eq_false_iff_ne, bne_iff_ne, Bool.and_eq_true, Bool.or_eq_true, Bool.not_eq_true', Bool.not_eq_false', Bool.and_eq_false_iff, Bool.or_eq_false_iff, Int.not_lt, Int.not_le] at hb) | skip) <;> (first | (exfalso; omega) | skip)))
    | ((first | (refine CallVC.pv hP (order_any a b s t) rfl ?_) | (refine CallQ.pv hP (order_any a b s t) rfl ?_) | (refine CallVC.pv hP (compare_u64 q r) rfl ?_) | (refine CallQ.pv hP (compare_u64 q r) rfl ?_)); simp only [GA, ↓GB, List.filterMap_cons, eq_self, BEq.rfl, simprocAttr, hnt, hT, hnt1, hT1, hU1P])
    | (refine CallVC.inline (f := 119) ?_ rfl Tryd.ntmps119 rfl ?_ ?_; (focus rw [hP]; exact Tryd.func119); (focus simp); have hT1 : X.P.underlying 51 = some (TypeDesc.slice 3) ∧ elemSz X.P 51 = some (3, 1) ∧ aggOf X.P 3 = some false ∧ szOf X.P 3 = some 1 := (by rw [hP]; exact ⟨Tryd.underlying51, Ty.el51, Ty.ag3, Ty.sz3⟩); intro X1 K1 hU1 hnt1 hbl1 hK1; have hU1P := hU1.P; simp only [GA, ↓GB, List.filterMap_cons, eq_self, BEq.rfl, simprocAttr] at hbl1 ⊢)
    | (refine SX.loopN 3 ?_)
    | (refine SXr.stepK ?_; intro N hN)
    | ((first | (refine CallVC.pv (hU1P.trans hP) (order_any a b s t) rfl ?_) | (refine CallQ.pv (hU1P.trans hP) (order_any a b s t) rfl ?_) | (refine CallVC.pv (hU1P.trans hP) (compare_u64 q r) rfl ?_) | (refine CallQ.pv (hU1P.trans hP) (compare_u64 q r) rfl ?_)); simp only [GA, ↓GB, List.filterMap_cons, eq_self, BEq.rfl, simprocAttr, hnt, hT, hnt1, hT1, hU1P])
    | (refine SX.block ?_)
    | (refine and_mk ?_ ?_; (focus first | decide | omega | rfl | assumption | (simp only [List.length_append, List.length_cons, List.length_nil, B_size]; omega) | (simp; done)))
    | (refine And.intro ?_ ?_))
  all_goals (try refine Done.mk ?_)
  all_goals (refine ⟨?_, hbel⟩; simp_all [cmpMark])
theorem begin2_any (a b q r st sr : Int) (s t d e : List UInt8) (w : World) :
    Calls Tryd.prog 85 #[.agg #[.int .i64 a, .string (B s), .int .u64 q, .int .i64 st, .string (B d)], .agg #[.int .i64 b, .string (B t), .int .u64 r, .int .i64 sr, .string (B e)]] w fun x w' => x = .returned (.int .i64 (cmpI q r)) ∧ Below w.heap.size w w' := by
  refine calls_pureK (args := [.agg #[.int .i64 a, .string (B s), .int .u64 q, .int .i64 st, .string (B d)], .agg #[.int .i64 b, .string (B t), .int .u64 r, .int .i64 sr, .string (B e)]]) w Tryd.func85 rfl Tryd.ntmps85 (by simp) ?_
  intro X K hX hK
  have hnt : X.nt = 10 := by rw [hX]
  have hwi : X.wi = w := by rw [hX]
  have hP : X.P = Tryd.prog := by rw [hX]
  have hown : X.own = [] := by rw [hX]
  have hbl : X.base.length = 0 := by rw [hX]; rfl
  clear hX
  have hT : fieldOff X.P 62 1 = some 2 ∧ aggOf X.P 22 = some false ∧ szOf X.P 22 = some 1 ∧ calleeOk X.P 86 = true := by rw [hP]; exact ⟨Ty.fo62_1, Ty.ag22, Ty.sz22, Ty.co86⟩
  repeat' (first
    | (refine SX.seqK ?_; intro N hN)
    | ((first | (refine SX.ops ?_)); simp only [GA, ↓GB, List.filterMap_cons, eq_self, BEq.rfl, simprocAttr, hnt, hT])
    | ((first | refine SX.skip ?_ | refine SX.exit ?_ | refine SX.label ?_); try simp only [GA, ↓GB, List.filterMap_cons, eq_self, BEq.rfl, simprocAttr])
    | (refine SX.cond rfl (fun hb => ?_) (fun hb => ?_) <;> ((first | cases hb | (simp only [decide_eq_true_eq, decide_eq_false_iff_not, beq_iff_eq, beq_eq_false_iff_ne, bne_iff_ne, Bool.and_eq_true, Bool.or_eq_true, Bool.not_eq_true', Bool.not_eq_false', Bool.and_eq_false_iff, Bool.or_eq_false_iff, Int.not_lt, Int.not_le] at hb) | skip) <;> (first | (exfalso; omega) | skip)))
    | (refine SX.ret ?_; try simp only [GA, ↓GB, List.filterMap_cons, eq_self, BEq.rfl, simprocAttr])
    | (refine hN _ ?_; clear hN N)
    | (refine hK _ _ (Fin.res rfl hown ?_); simp only [GA, ↓GB, List.filterMap_cons, eq_self, BEq.rfl, simprocAttr, f_a, f_b, f_n, f_c, f_B, f_v, f_g, f_0, f_1, f_2, hT, hwi]; intro w' hbel; refine Done.out ?_)
    | (clear hN N; first | (refine hN _ ?_; clear hN N) | (clear hN N; first | (refine hN _ ?_; clear hN N) | (clear hN N; first | (refine hN _ ?_; clear hN N) | (clear hN N; first | (refine hN _ ?_; clear hN N) | (clear hN N; first | (refine hN _ ?_; clear hN N) | (refine hN _ ?_; clear hN N))))))
    | (refine bif2.mk (fun hb => ?_) (fun hb => ?_) <;> (try simp only [hb, GA, ↓GB, List.filterMap_cons, eq_self, BEq.rfl, simprocAttr, hnt, hT]) <;> ((first | cases hb | (simp only [decide_eq_true_eq, decide_eq_false_iff_not, beq_iff_eq, beq_eq_false_iff_ne, bne_iff_ne, Bool.and_eq_true, Bool.or_eq_true, Bool.not_eq_true', Bool.not_eq_false', Bool.and_eq_false_iff, Bool.or_eq_false_iff, Int.not_lt, Int.not_le] at hb) | skip) <;> (first | (exfalso; omega) | skip)))
    | ((first | (refine CallVC.pv hP (compare_u64 q r) rfl ?_) | (refine CallQ.pv hP (compare_u64 q r) rfl ?_)); simp only [GA, ↓GB, List.filterMap_cons, eq_self, BEq.rfl, simprocAttr, hnt, hT])
    | (refine SX.block ?_)
    | (refine and_mk ?_ ?_; (focus first | decide | omega | rfl | assumption | (simp only [List.length_append, List.length_cons, List.length_nil, B_size]; omega) | (simp; done)))
    | (refine And.intro ?_ ?_))
  all_goals (try refine Done.mk ?_)
  all_goals first | exact hbel | exact ⟨rfl, hbel⟩
theorem erase1_any (a q st : Int) (s d : List UInt8) (w : World) :
    Calls Tryd.prog 93 #[.agg #[.int .i64 a, .string (B s), .int .u64 q, .int .i64 st, .string (B d)]] w fun x w' => x = .returned (.bool (decide (st = 1))) ∧ Below w.heap.size w w' := by
  refine calls_pureK (args := [.agg #[.int .i64 a, .string (B s), .int .u64 q, .int .i64 st, .string (B d)]]) w Tryd.func93 rfl Tryd.ntmps93 (by simp) ?_
  intro X K hX hK
  have hnt : X.nt = 6 := by rw [hX]
  have hwi : X.wi = w := by rw [hX]
  have hP : X.P = Tryd.prog := by rw [hX]
  have hown : X.own = [] := by rw [hX]
  have hbl : X.base.length = 0 := by rw [hX]; rfl
  clear hX
  have hT : fieldOff X.P 62 2 = some 3 ∧ aggOf X.P 3 = some false ∧ szOf X.P 3 = some 1 := by rw [hP]; exact ⟨Ty.fo62_2, Ty.ag3, Ty.sz3⟩
  repeat' (first
    | (refine SX.seqK ?_; intro N hN)
    | ((first | (refine SX.ops ?_)); simp only [GA, ↓GB, List.filterMap_cons, eq_self, BEq.rfl, simprocAttr, hnt, hT])
    | ((first | refine SX.skip ?_ | refine SX.exit ?_ | refine SX.label ?_); try simp only [GA, ↓GB, List.filterMap_cons, eq_self, BEq.rfl, simprocAttr])
    | (refine SX.cond rfl (fun hb => ?_) (fun hb => ?_) <;> ((first | cases hb | (simp only [decide_eq_true_eq, decide_eq_false_iff_not, beq_iff_eq, beq_eq_false_iff_ne, bne_iff_ne, Bool.and_eq_true, Bool.or_eq_true, Bool.not_eq_true', Bool.not_eq_false', Bool.and_eq_false_iff, Bool.or_eq_false_iff, Int.not_lt, Int.not_le] at hb) | skip) <;> (first | (exfalso; omega) | skip)))
    | (refine SX.ret ?_; try simp only [GA, ↓GB, List.filterMap_cons, eq_self, BEq.rfl, simprocAttr])
    | (refine hN _ ?_; clear hN N)
    | (refine hK _ _ (Fin.res rfl hown ?_); simp only [GA, ↓GB, List.filterMap_cons, eq_self, BEq.rfl, simprocAttr, f_a, f_b, f_n, f_c, f_B, f_v, f_g, f_0, f_1, f_2, hT, hwi]; intro w' hbel; refine Done.out ?_)
    | (clear hN N; first | (refine hN _ ?_; clear hN N) | (clear hN N; first | (refine hN _ ?_; clear hN N) | (clear hN N; first | (refine hN _ ?_; clear hN N) | (clear hN N; first | (refine hN _ ?_; clear hN N) | (clear hN N; first | (refine hN _ ?_; clear hN N) | (refine hN _ ?_; clear hN N))))))
    | (refine bif2.mk (fun hb => ?_) (fun hb => ?_) <;> (try simp only [hb, GA, ↓GB, List.filterMap_cons, eq_self, BEq.rfl, simprocAttr, hnt, hT]) <;> ((first | cases hb | (simp only [decide_eq_true_eq, decide_eq_false_iff_not, beq_iff_eq, beq_eq_false_iff_ne, bne_iff_ne, Bool.and_eq_true, Bool.or_eq_true, Bool.not_eq_true', Bool.not_eq_false', Bool.and_eq_false_iff, Bool.or_eq_false_iff, Int.not_lt, Int.not_le] at hb) | skip) <;> (first | (exfalso; omega) | skip)))
    | (refine SX.block ?_)
    | (refine and_mk ?_ ?_; (focus first | decide | omega | rfl | assumption | (simp only [List.length_append, List.length_cons, List.length_nil, B_size]; omega) | (simp; done)))
    | (refine And.intro ?_ ?_))
  all_goals (try refine Done.mk ?_)
  all_goals first | exact hbel | exact ⟨rfl, hbel⟩
theorem begin1_ctr (a q st b r : Int) (s d t : List UInt8) : Ctr Tryd.prog [] 80 [.cells [.v (.int .i64 b), .v (.string (B t))] 26, .cells [.v (.int .u64 r)] 22]
    [.one (.agg [.v (.int .i64 a), .v (.string (B s)), .v (.int .u64 q), .v (.int .i64 st), .v (.string (B d))]), .one (.c (.loc 0 0)), .one (.c (.loc 1 0))]
    (fun os v => os = [.cells [.v (.int .i64 b), .v (.string (B t))] 26, .cells [.v (.int .u64 r)] 22] ∧ v = vv (.bool ((a == b && s == t) && decide (r ≤ q)))) := by
  refine Ctr.less ?_
  intro X0 hP0 hG0 N0 hN0
  refine CallVC.inline (f := 80) (by rw [hP0]; exact Tryd.func80) rfl Tryd.ntmps80 rfl (by simp) ?_
  intro X K hU hnt hbl hK
  have hP : X.P = Tryd.prog := by rw [hU.P, hP0]
  have hG := hG0.under hU
  have hT : fieldOff X.P 62 0 = some 0 ∧ aggOf X.P 26 = some true ∧ szOf X.P 26 = some 2 ∧ fieldOff X.P 62 1 = some 2 ∧ aggOf X.P 22 = some false ∧ szOf X.P 22 = some 1 := by rw [hP]; exact ⟨Ty.fo62_0, Ty.ag26, Ty.sz26, Ty.fo62_1, Ty.ag22, Ty.sz22⟩
  simp only [GA, ↓GB, List.filterMap_cons, eq_self, BEq.rfl, simprocAttr] at hbl ⊢
  repeat' (first
    | (refine SX.seqK ?_; intro N hN)
    | ((first | (refine SX.ops ?_)); simp only [GA, ↓GB, List.filterMap_cons, eq_self, BEq.rfl, simprocAttr, hnt, hT])
    | ((first | refine SX.skip ?_ | refine SX.exit ?_ | refine SX.label ?_); try simp only [GA, ↓GB, List.filterMap_cons, eq_self, BEq.rfl, simprocAttr])
    | (refine SX.cond rfl (fun hb => ?_) (fun hb => ?_) <;> ((first | cases hb | (simp only [decide_eq_true_eq, decide_eq_false_iff_not, beq_iff_eq, beq_eq_false_iff_ne, bne_iff_ne, Bool.and_eq_true, Bool.or_eq_true, Bool.not_eq_true', Bool.not_eq_false', Bool.and_eq_false_iff, Bool.or_eq_false_iff, Int.not_lt, Int.not_le] at hb) | skip) <;> (first | (exfalso; omega) | skip)))
    | (refine SX.ret ?_; try simp only [GA, ↓GB, List.filterMap_cons, eq_self, BEq.rfl, simprocAttr])
    | (refine hN _ ?_; clear hN N)
    | ((first | refine hK _ _ (FinI.ret3 ?_) | refine hK _ _ (FinI.nrm3 ?_)); simp only [GA, ↓GB, List.filterMap_cons, eq_self, BEq.rfl, simprocAttr, finP_s, hnt, hT]; refine Done.out ?_)
    | (clear hN N; first | (refine hN _ ?_; clear hN N) | (clear hN N; first | (refine hN _ ?_; clear hN N) | (clear hN N; first | (refine hN _ ?_; clear hN N) | (clear hN N; first | (refine hN _ ?_; clear hN N) | (clear hN N; first | (refine hN _ ?_; clear hN N) | (refine hN _ ?_; clear hN N))))))
    | (refine bif2.mk (fun hb => ?_) (fun hb => ?_) <;> (try simp only [hb, GA, ↓GB, List.filterMap_cons, eq_self, BEq.rfl, simprocAttr, hnt, hT]) <;> ((first | cases hb | (simp only [decide_eq_true_eq, decide_eq_false_iff_not, beq_iff_eq, beq_eq_false_iff_ne, bne_iff_ne, Bool.and_eq_true, Bool.or_eq_true, Bool.not_eq_true', Bool.not_eq_false', Bool.and_eq_false_iff, Bool.or_eq_false_iff, Int.not_lt, Int.not_le] at hb) | skip) <;> (first | (exfalso; omega) | skip)))
    | (refine ⟨_, strEq_to hP (Ty.eqS26 _ _ _ _), ?_⟩)
    | (refine SX.block ?_)
    | (refine and_mk ?_ ?_; (focus first | decide | omega | rfl | assumption | (simp only [List.length_append, List.length_cons, List.length_nil, B_size]; omega) | (simp; done)))
    | (refine And.intro ?_ ?_))
  all_goals (try refine Done.mk ?_)
  all_goals ((refine hN0 _ _ ⟨[0, 1], _, _, ?_, ?_, ?_, ⟨rfl, rfl⟩⟩; (focus exact LeR.of rfl trivial (by simp only [GA, ↓GB, List.filterMap_cons, eq_self, BEq.rfl, simprocAttr, List.getD_cons_zero, List.getD_cons_succ, or_false, false_or, or_self, or_true, true_or, decide_true]) (by decide) rfl rfl rfl); rotate_left; (focus rfl)); refine congrArg (fun b => vv (Value.bool b)) ?_; clear hK hN0 hG0; simp_all [Bool.and_assoc] <;> (intro e1 e2; rcases hb with hb | hb <;> contradiction))
theorem begin3_ctr (a q st b r su : Int) (s d t e : List UInt8) : Ctr Tryd.prog [] 88 [.cells [.v (.int .i64 b), .v (.string (B t)), .v (.int .u64 r), .v (.int .i64 su), .v (.string (B e))] 62]
    [.one (.agg [.v (.int .i64 a), .v (.string (B s)), .v (.int .u64 q), .v (.int .i64 st), .v (.string (B d))]), .one (.c (.loc 0 0))]
    (fun os v => os = [.cells [.v (.int .i64 b), .v (.string (B t)), .v (.int .u64 r), .v (.int .i64 su), .v (.string (B e))] 62] ∧ v = vv (.bool (a == b && s == t && q == r && st == su && d == e))) := by
  refine Ctr.less ?_
  intro X0 hP0 hG0 N0 hN0
  refine CallVC.inline (f := 88) (by rw [hP0]; exact Tryd.func88) rfl Tryd.ntmps88 rfl (by simp) ?_
  intro X K hU hnt hbl hK
  have hP : X.P = Tryd.prog := by rw [hU.P, hP0]
  have hG := hG0.under hU
  have hT : aggOf X.P 62 = some true ∧ szOf X.P 62 = some 5 := by rw [hP]; exact ⟨Ty.ag62, Ty.sz62⟩
  simp only [GA, ↓GB, List.filterMap_cons, eq_self, BEq.rfl, simprocAttr] at hbl ⊢
  repeat' (first
    | (refine SX.seqK ?_; intro N hN)
    | ((first | (refine SX.ops ?_)); simp only [GA, ↓GB, List.filterMap_cons, eq_self, BEq.rfl, simprocAttr, hnt, hT])
    | ((first | refine SX.skip ?_ | refine SX.exit ?_ | refine SX.label ?_); try simp only [GA, ↓GB, List.filterMap_cons, eq_self, BEq.rfl, simprocAttr])
    | (refine SX.cond rfl (fun hb => ?_) (fun hb => ?_) <;> ((first | cases hb | (simp only [decide_eq_true_eq, decide_eq_false_iff_not, beq_iff_eq, beq_eq_false_iff_ne, bne_iff_ne, Bool.and_eq_true, Bool.or_eq_true, Bool.not_eq_true', Bool.not_eq_false', Bool.and_eq_false_iff, Bool.or_eq_false_iff, Int.not_lt, Int.not_le] at hb) | skip) <;> (first | (exfalso; omega) | skip)))
    | (refine SX.ret ?_; try simp only [GA, ↓GB, List.filterMap_cons, eq_self, BEq.rfl, simprocAttr])
    | (refine hN _ ?_; clear hN N)
    | ((first | refine hK _ _ (FinI.ret3 ?_) | refine hK _ _ (FinI.nrm3 ?_)); simp only [GA, ↓GB, List.filterMap_cons, eq_self, BEq.rfl, simprocAttr, finP_s, hnt, hT]; refine Done.out ?_)
    | (clear hN N; first | (refine hN _ ?_; clear hN N) | (clear hN N; first | (refine hN _ ?_; clear hN N) | (clear hN N; first | (refine hN _ ?_; clear hN N) | (clear hN N; first | (refine hN _ ?_; clear hN N) | (clear hN N; first | (refine hN _ ?_; clear hN N) | (refine hN _ ?_; clear hN N))))))
    | (refine bif2.mk (fun hb => ?_) (fun hb => ?_) <;> (try simp only [hb, GA, ↓GB, List.filterMap_cons, eq_self, BEq.rfl, simprocAttr, hnt, hT]) <;> ((first | cases hb | (simp only [decide_eq_true_eq, decide_eq_false_iff_not, beq_iff_eq, beq_eq_false_iff_ne, bne_iff_ne, Bool.and_eq_true, Bool.or_eq_true, Bool.not_eq_true', Bool.not_eq_false', Bool.and_eq_false_iff, Bool.or_eq_false_iff, Int.not_lt, Int.not_le] at hb) | skip) <;> (first | (exfalso; omega) | skip)))
    | (refine ⟨_, strEq_to hP (Ty.eqS62 _ _ _ _ _ _ _ _ _ _), ?_⟩)
    | (refine SX.block ?_)
    | (refine and_mk ?_ ?_; (focus first | decide | omega | rfl | assumption | (simp only [List.length_append, List.length_cons, List.length_nil, B_size]; omega) | (simp; done)))
    | (refine And.intro ?_ ?_))
  all_goals (try refine Done.mk ?_)
  all_goals ((refine hN0 _ _ ⟨[0], _, _, ?_, ?_, ?_, ⟨rfl, rfl⟩⟩; (focus exact LeR.of rfl trivial (by simp only [GA, ↓GB, List.filterMap_cons, eq_self, BEq.rfl, simprocAttr, List.getD_cons_zero, List.getD_cons_succ, or_false, false_or, or_self, or_true, true_or, decide_true]) (by decide) rfl rfl rfl); rotate_left; (focus rfl)); refine congrArg (fun b => vv (Value.bool b)) ?_; clear hK hN0 hG0; simp_all [Bool.and_assoc] <;> (intro e1 e2; rcases hb with hb | hb <;> contradiction))
end Go.Proofs.YtbdacbcpniegiaaDoor
namespace Go.Proofs.YtbdacbcpniegiaaDoor
open Go Go.RowKit Go.Proofs Go.Sx
set_option maxHeartbeats 4000000
set_option maxRecDepth 100000
set_option linter.unusedSimpArgs false
set_option linter.unusedVariables false
structure Mk where
  t : Int
  s : List UInt8
  q : Int
  st : Int
  d : List UInt8
deriving DecidableEq, Inhabited
def Mk.cells (m : Mk) : List Value := [.int .i64 m.t, .string (B m.s), .int .u64 m.q, .int .i64 m.st, .string (B m.d)]
def mks (ms : List Mk) : List Value := ms.flatMap Mk.cells
theorem mks_cons (m : Mk) (ms : List Mk) : mks (m :: ms) = m.cells ++ mks ms := rfl
theorem mks_append (a b : List Mk) : mks (a ++ b) = mks a ++ mks b := by simp [mks]
theorem mks_length : ∀ ms : List Mk, (mks ms).length = ms.length * 5
  | [] => rfl
  | m :: ms => by rw [mks_cons, List.length_append, mks_length ms]; simp [Mk.cells]; omega
theorem mks_drop : ∀ (i : Nat) (ms : List Mk), (mks ms).drop (i * 5) = mks (ms.drop i)
  | 0, ms => by simp
  | i + 1, [] => by simp [mks]
  | i + 1, m :: ms => by
    rw [mks_cons, show (i + 1) * 5 = m.cells.length + i * 5 by simp [Mk.cells]; omega, List.drop_append, Nat.add_sub_cancel_left, mks_drop i ms, List.drop_of_length_le (by omega)]
    rfl
theorem mks_take : ∀ (i : Nat) (ms : List Mk), (mks ms).take (i * 5) = mks (ms.take i)
  | 0, ms => by simp [mks]
  | i + 1, [] => by simp [mks]
  | i + 1, m :: ms => by
    rw [mks_cons, show (i + 1) * 5 = m.cells.length + i * 5 by simp [Mk.cells]; omega, List.take_append, List.take_succ_cons, mks_cons, Nat.add_sub_cancel_left, mks_take i ms, List.take_of_length_le (by omega)]
theorem mks_at (ms : List Mk) (i : Nat) (h : i < ms.length) : ((mks ms).drop (i * 5)).take 5 = (ms.getD i default).cells := by
  rw [mks_drop, List.drop_eq_getElem_cons h, mks_cons, List.getD_eq_getElem?_getD, List.getElem?_eq_getElem h]
  simp [Mk.cells]
@[reducible] def mrow (ms : List Mk) : LO := .row 62 5 ms.length (mks ms)
def idxI (p : Mk → Bool) (ms : List Mk) : Int := match ms.findIdx? p with | some i => i | none => -1
theorem idxN (p : Mk → Bool) (ms : List Mk) (i : Nat) (hi : i < ms.length) (hp : p (ms.getD i default) = true) (hn : ∀ j, j < i → p (ms.getD j default) = false) : idxI p ms = i := by
  have : ms.findIdx? p = some i := by
    rw [List.findIdx?_eq_some_iff_getElem]
    refine ⟨hi, by simpa [List.getD_eq_getElem?_getD, List.getElem?_eq_getElem hi] using hp, fun j hj => ?_⟩
    have := hn j hj
    rw [List.getD_eq_getElem?_getD, List.getElem?_eq_getElem (by omega)] at this
    simpa using this
  simp [idxI, this]
theorem idxNone (p : Mk → Bool) (ms : List Mk) (hn : ∀ j, j < ms.length → p (ms.getD j default) = false) : idxI p ms = -1 := by
  have : ms.findIdx? p = none := by
    rw [List.findIdx?_eq_none_iff]
    intro x hx
    obtain ⟨j, hj, rfl⟩ := List.mem_iff_getElem.1 hx
    have := hn j hj
    rw [List.getD_eq_getElem?_getD, List.getElem?_eq_getElem hj] at this
    simpa using this
  simp [idxI, this]
def isAt (b : Int) (t : List UInt8) (r : Int) (m : Mk) : Bool := (m.t == b && m.s == t) && decide (r ≤ m.q)
def isMk (b : Int) (t : List UInt8) (r su : Int) (e : List UInt8) (m : Mk) : Bool := m.t == b && m.s == t && m.q == r && m.st == su && m.d == e
def isPend (m : Mk) : Bool := decide (m.st = 1)
theorem indexFunc1 (ms : List Mk) (hms : ms.length ≤ 1000000) (b r : Int) (t : List UInt8) : Ctr Tryd.prog [] 130 [mrow ms, .cells [.v (.int .i64 b), .v (.string (B t))] 26, .cells [.v (.int .u64 r)] 22] [.one (.c (.row 0)), .one (.c (.clo 80 [] [.loc 1 0, .loc 2 0]))]
    (fun os v => os = [mrow ms, .cells [.v (.int .i64 b), .v (.string (B t))] 26, .cells [.v (.int .u64 r)] 22] ∧ v = vv (.int .i64 (idxI (isAt b t r) ms))) := by
  have hrun : ∀ m : Mk, Ctr Tryd.prog [] 80 [.cells [.v (.int .i64 b), .v (.string (B t))] 26, .cells [.v (.int .u64 r)] 22] [.one (.agg [.v (.int .i64 m.t), .v (.string (B m.s)), .v (.int .u64 m.q), .v (.int .i64 m.st), .v (.string (B m.d))]), .one (.c (.loc 0 0)), .one (.c (.loc 1 0))]
    (fun os v => os = [.cells [.v (.int .i64 b), .v (.string (B t))] 26, .cells [.v (.int .u64 r)] 22] ∧ v = vv (.bool ((isAt b t r) m))) := fun m => begin1_ctr _ _ _ _ _ _ _ _
  intro X0 hP0 hG0 N0 hN0
  refine CallVC.inline (f := 130) (by rw [hP0]; exact Tryd.func130) rfl Tryd.ntmps130 rfl (by simp) ?_
  intro X K hU hnt hbl hK
  have hP : X.P = Tryd.prog := by rw [hU.P, hP0]
  have hG := hG0.under hU
  have hT : X.P.underlying 59 = some (TypeDesc.slice 62) ∧ elemSz X.P 59 = some (62, 5) ∧ aggOf X.P 62 = some true ∧ szOf X.P 62 = some 5 := by rw [hP]; exact ⟨Tryd.underlying59, Ty.el59, Ty.ag62, Ty.sz62⟩
  simp only [GA, ↓GB, List.filterMap_cons, eq_self, BEq.rfl, simprocAttr] at hbl ⊢
  have hc : calleeOk X.P 80 = true := by rw [hP]; kernel_rfl
  repeat' (first
    | (refine SX.seqK ?_; intro N hN)
    | ((first | (refine SX.ops ?_)); simp only [GA, ↓GB, List.filterMap_cons, eq_self, BEq.rfl, simprocAttr, hnt, hT, hc])
    | ((first | refine SX.skip ?_ | refine SX.exit ?_ | refine SX.label ?_); try simp only [GA, ↓GB, List.filterMap_cons, eq_self, BEq.rfl, simprocAttr])
    | (refine SX.cond rfl (fun hb => ?_) (fun hb => ?_) <;> ((first | cases hb | (simp only [decide_eq_true_eq, decide_eq_false_iff_not, beq_iff_eq, beq_eq_false_iff_ne, bne_iff_ne, Bool.and_eq_true, Bool.or_eq_true, Bool.not_eq_true', Bool.not_eq_false', Bool.and_eq_false_iff, Bool.or_eq_false_iff, Int.not_lt, Int.not_le] at hb) | skip) <;> (first | (exfalso; omega) | skip)))
    | (refine SX.ret ?_; try simp only [GA, ↓GB, List.filterMap_cons, eq_self, BEq.rfl, simprocAttr])
    | (refine hN _ ?_; clear hN N)
    | ((first | refine hK _ _ (FinI.ret3 ?_) | refine hK _ _ (FinI.nrm3 ?_)); simp only [GA, ↓GB, List.filterMap_cons, eq_self, BEq.rfl, simprocAttr, finP_s, hnt, hT, hc]; refine Done.out ?_)
    | (clear hN N; first | (refine hN _ ?_; clear hN N) | (clear hN N; first | (refine hN _ ?_; clear hN N) | (clear hN N; first | (refine hN _ ?_; clear hN N) | (clear hN N; first | (refine hN _ ?_; clear hN N) | (clear hN N; first | (refine hN _ ?_; clear hN N) | (refine hN _ ?_; clear hN N))))))
    | (refine bif2.mk (fun hb => ?_) (fun hb => ?_) <;> (try simp only [hb, GA, ↓GB, List.filterMap_cons, eq_self, BEq.rfl, simprocAttr, hnt, hT, hc]) <;> ((first | cases hb | (simp only [decide_eq_true_eq, decide_eq_false_iff_not, beq_iff_eq, beq_eq_false_iff_ne, bne_iff_ne, Bool.and_eq_true, Bool.or_eq_true, Bool.not_eq_true', Bool.not_eq_false', Bool.and_eq_false_iff, Bool.or_eq_false_iff, Int.not_lt, Int.not_le] at hb) | skip) <;> (first | (exfalso; omega) | skip)))
    | ((first | (refine Ctr.use (hrun (ms.getD i default)) hP ?_ [1,2] ?_ rfl rfl ?_; (focus (intro p hp; cases hp)); (focus (refine LeR.of rfl trivial ?_ ?_ ?_ ?_ ?_ <;> first | decide | (simp only [GA, ↓GB, List.filterMap_cons, eq_self, BEq.rfl, simprocAttr, List.getD_cons_zero, List.getD_cons_succ, or_false, false_or, or_self, or_true, true_or, decide_true]; done))); intro os' s hR; obtain ⟨rfl, rfl⟩ := hR)); simp only [GA, ↓GB, List.filterMap_cons, eq_self, BEq.rfl, simprocAttr, hnt, hT, hc])
    | (refine SX.loop (ι := { i : Nat // i ≤ ms.length ∧ ∀ j, j < i → (isAt b t r) (ms.getD j default) = false }) (fun i => ⟨[(0, .one (.c (.row 0))), (1, .one (.c (.clo 80 [] [.loc 1 0, .loc 2 0]))), (7, vv (.int .i64 ms.length)), (8, vv (.int .i64 i.1))], [mrow ms, .cells [.v (.int .i64 b), .v (.string (B t))] 26, .cells [.v (.int .u64 r)] 22]⟩) (fun i => ms.length - i.1) ⟨0, by omega, fun j hj => absurd hj (Nat.not_lt_zero j)⟩ ⟨[0, 1, 2], (LeR.of (by rw [hbl]; decide) (by simp only [GA, ↓GB, List.filterMap_cons, eq_self, BEq.rfl, simprocAttr, List.getD_cons_zero, List.getD_cons_succ, or_false, false_or, or_self, or_true, true_or, decide_true]) (by simp only [GA, ↓GB, List.filterMap_cons, eq_self, BEq.rfl, simprocAttr, List.getD_cons_zero, List.getD_cons_succ, or_false, false_or, or_self, or_true, true_or, decide_true]) (by decide) (by simp only [GA, ↓GB, List.filterMap_cons, eq_self, BEq.rfl, simprocAttr, List.getD_cons_zero, List.getD_cons_succ, or_false, false_or, or_self, or_true, true_or, decide_true]) (by simp only [GA, ↓GB, List.filterMap_cons, eq_self, BEq.rfl, simprocAttr, List.getD_cons_zero, List.getD_cons_succ, or_false, false_or, or_self, or_true, true_or, decide_true]) (by simp only [GA, ↓GB, List.filterMap_cons, eq_self, BEq.rfl, simprocAttr, List.getD_cons_zero, List.getD_cons_succ, or_false, false_or, or_self, or_true, true_or, decide_true]))⟩ ?_ <;> rintro ⟨i, hi, hno⟩ <;> simp only [] at hi hno ⊢)
    | (refine ⟨(ms.getD i default).cells, rfl, mks_at _ _ (by omega), ?_⟩ <;> simp only [Mk.cells, GA, ↓GB, List.filterMap_cons, eq_self, BEq.rfl, simprocAttr, hnt, hT])
    | (refine SX.block ?_)
    | (refine and_mk ?_ ?_; (focus first | decide | omega | rfl | assumption | (simp only [List.length_append, List.length_cons, List.length_nil, B_size]; omega) | (simp; done)))
    | (refine And.intro ?_ ?_))
  all_goals (try refine Done.mk ?_)
  · exact hN0 _ _ ⟨rfl, by rw [idxN _ _ i (by omega) hb hno]; rfl⟩
  · refine ⟨⟨i + 1, by omega, fun j hj => ?_⟩, [0, 1, 2], (LeR.of (by rw [hbl]; decide) (by simp only [GA, ↓GB, List.filterMap_cons, eq_self, BEq.rfl, simprocAttr, List.getD_cons_zero, List.getD_cons_succ, or_false, false_or, or_self, or_true, true_or, decide_true]; try (rw [wI64 (by omega) (by omega)]; simp)) (by simp only [GA, ↓GB, List.filterMap_cons, eq_self, BEq.rfl, simprocAttr, List.getD_cons_zero, List.getD_cons_succ, or_false, false_or, or_self, or_true, true_or, decide_true]; try (rw [wI64 (by omega) (by omega)]; simp)) (by decide) (by simp only [GA, ↓GB, List.filterMap_cons, eq_self, BEq.rfl, simprocAttr, List.getD_cons_zero, List.getD_cons_succ, or_false, false_or, or_self, or_true, true_or, decide_true]) (by simp only [GA, ↓GB, List.filterMap_cons, eq_self, BEq.rfl, simprocAttr, List.getD_cons_zero, List.getD_cons_succ, or_false, false_or, or_self, or_true, true_or, decide_true]) (by simp only [GA, ↓GB, List.filterMap_cons, eq_self, BEq.rfl, simprocAttr, List.getD_cons_zero, List.getD_cons_succ, or_false, false_or, or_self, or_true, true_or, decide_true])), by show ms.length - (i + 1) < ms.length - i; omega⟩
    rcases Nat.lt_or_eq_of_le (Nat.le_of_lt_succ hj) with h | h
    · exact hno j h
    · rw [h]; exact hb
  · exact hN0 _ _ ⟨rfl, by rw [idxNone _ _ (fun j hj => hno j (by omega))]; rfl⟩
theorem indexFunc3 (ms : List Mk) (hms : ms.length ≤ 1000000) (b r su : Int) (t e : List UInt8) : Ctr Tryd.prog [] 130 [mrow ms, .cells [.v (.int .i64 b), .v (.string (B t)), .v (.int .u64 r), .v (.int .i64 su), .v (.string (B e))] 62] [.one (.c (.row 0)), .one (.c (.clo 88 [] [.loc 1 0]))]
    (fun os v => os = [mrow ms, .cells [.v (.int .i64 b), .v (.string (B t)), .v (.int .u64 r), .v (.int .i64 su), .v (.string (B e))] 62] ∧ v = vv (.int .i64 (idxI (isMk b t r su e) ms))) := by
  have hrun : ∀ m : Mk, Ctr Tryd.prog [] 88 [.cells [.v (.int .i64 b), .v (.string (B t)), .v (.int .u64 r), .v (.int .i64 su), .v (.string (B e))] 62] [.one (.agg [.v (.int .i64 m.t), .v (.string (B m.s)), .v (.int .u64 m.q), .v (.int .i64 m.st), .v (.string (B m.d))]), .one (.c (.loc 0 0))]
    (fun os v => os = [.cells [.v (.int .i64 b), .v (.string (B t)), .v (.int .u64 r), .v (.int .i64 su), .v (.string (B e))] 62] ∧ v = vv (.bool ((isMk b t r su e) m))) := fun m => begin3_ctr _ _ _ _ _ _ _ _ _ _
  intro X0 hP0 hG0 N0 hN0
  refine CallVC.inline (f := 130) (by rw [hP0]; exact Tryd.func130) rfl Tryd.ntmps130 rfl (by simp) ?_
  intro X K hU hnt hbl hK
  have hP : X.P = Tryd.prog := by rw [hU.P, hP0]
  have hG := hG0.under hU
  have hT : X.P.underlying 59 = some (TypeDesc.slice 62) ∧ elemSz X.P 59 = some (62, 5) ∧ aggOf X.P 62 = some true ∧ szOf X.P 62 = some 5 := by rw [hP]; exact ⟨Tryd.underlying59, Ty.el59, Ty.ag62, Ty.sz62⟩
  simp only [GA, ↓GB, List.filterMap_cons, eq_self, BEq.rfl, simprocAttr] at hbl ⊢
  have hc : calleeOk X.P 88 = true := by rw [hP]; kernel_rfl
  repeat' (first
    | (refine SX.seqK ?_; intro N hN)
    | ((first | (refine SX.ops ?_)); simp only [GA, ↓GB, List.filterMap_cons, eq_self, BEq.rfl, simprocAttr, hnt, hT, hc])
    | ((first | refine SX.skip ?_ | refine SX.exit ?_ | refine SX.label ?_); try simp only [GA, ↓GB, List.filterMap_cons, eq_self, BEq.rfl, simprocAttr])
    | (refine SX.cond rfl (fun hb => ?_) (fun hb => ?_) <;> ((first | cases hb | (simp only [decide_eq_true_eq, decide_eq_false_iff_not, beq_iff_eq, beq_eq_false_iff_ne, bne_iff_ne, Bool.and_eq_true, Bool.or_eq_true, Bool.not_eq_true', Bool.not_eq_false', Bool.and_eq_false_iff, Bool.or_eq_false_iff, Int.not_lt, Int.not_le] at hb) | skip) <;> (first | (exfalso; omega) | skip)))
    | (refine SX.ret ?_; try simp only [GA, ↓GB, List.filterMap_cons, eq_self, BEq.rfl, simprocAttr])
    | (refine hN _ ?_; clear hN N)
    | ((first | refine hK _ _ (FinI.ret3 ?_) | refine hK _ _ (FinI.nrm3 ?_)); simp only [GA, ↓GB, List.filterMap_cons, eq_self, BEq.rfl, simprocAttr, finP_s, hnt, hT, hc]; refine Done.out ?_)
    | (clear hN N; first | (refine hN _ ?_; clear hN N) | (clear hN N; first | (refine hN _ ?_; clear hN N) | (clear hN N; first | (refine hN _ ?_; clear hN N) | (clear hN N; first | (refine hN _ ?_; clear hN N) | (clear hN N; first | (refine hN _ ?_; clear hN N) | (refine hN _ ?_; clear hN N))))))
    | (refine bif2.mk (fun hb => ?_) (fun hb => ?_) <;> (try simp only [hb, GA, ↓GB, List.filterMap_cons, eq_self, BEq.rfl, simprocAttr, hnt, hT, hc]) <;> ((first | cases hb | (simp only [decide_eq_true_eq, decide_eq_false_iff_not, beq_iff_eq, beq_eq_false_iff_ne, bne_iff_ne, Bool.and_eq_true, Bool.or_eq_true, Bool.not_eq_true', Bool.not_eq_false', Bool.and_eq_false_iff, Bool.or_eq_false_iff, Int.not_lt, Int.not_le] at hb) | skip) <;> (first | (exfalso; omega) | skip)))
    | ((first | (refine Ctr.use (hrun (ms.getD i default)) hP ?_ [1] ?_ rfl rfl ?_; (focus (intro p hp; cases hp)); (focus (refine LeR.of rfl trivial ?_ ?_ ?_ ?_ ?_ <;> first | decide | (simp only [GA, ↓GB, List.filterMap_cons, eq_self, BEq.rfl, simprocAttr, List.getD_cons_zero, List.getD_cons_succ, or_false, false_or, or_self, or_true, true_or, decide_true]; done))); intro os' s hR; obtain ⟨rfl, rfl⟩ := hR)); simp only [GA, ↓GB, List.filterMap_cons, eq_self, BEq.rfl, simprocAttr, hnt, hT, hc])
    | (refine SX.loop (ι := { i : Nat // i ≤ ms.length ∧ ∀ j, j < i → (isMk b t r su e) (ms.getD j default) = false }) (fun i => ⟨[(0, .one (.c (.row 0))), (1, .one (.c (.clo 88 [] [.loc 1 0]))), (7, vv (.int .i64 ms.length)), (8, vv (.int .i64 i.1))], [mrow ms, .cells [.v (.int .i64 b), .v (.string (B t)), .v (.int .u64 r), .v (.int .i64 su), .v (.string (B e))] 62]⟩) (fun i => ms.length - i.1) ⟨0, by omega, fun j hj => absurd hj (Nat.not_lt_zero j)⟩ ⟨[0, 1], (LeR.of (by rw [hbl]; decide) (by simp only [GA, ↓GB, List.filterMap_cons, eq_self, BEq.rfl, simprocAttr, List.getD_cons_zero, List.getD_cons_succ, or_false, false_or, or_self, or_true, true_or, decide_true]) (by simp only [GA, ↓GB, List.filterMap_cons, eq_self, BEq.rfl, simprocAttr, List.getD_cons_zero, List.getD_cons_succ, or_false, false_or, or_self, or_true, true_or, decide_true]) (by decide) (by simp only [GA, ↓GB, List.filterMap_cons, eq_self, BEq.rfl, simprocAttr, List.getD_cons_zero, List.getD_cons_succ, or_false, false_or, or_self, or_true, true_or, decide_true]) (by simp only [GA, ↓GB, List.filterMap_cons, eq_self, BEq.rfl, simprocAttr, List.getD_cons_zero, List.getD_cons_succ, or_false, false_or, or_self, or_true, true_or, decide_true]) (by simp only [GA, ↓GB, List.filterMap_cons, eq_self, BEq.rfl, simprocAttr, List.getD_cons_zero, List.getD_cons_succ, or_false, false_or, or_self, or_true, true_or, decide_true]))⟩ ?_ <;> rintro ⟨i, hi, hno⟩ <;> simp only [] at hi hno ⊢)
    | (refine ⟨(ms.getD i default).cells, rfl, mks_at _ _ (by omega), ?_⟩ <;> simp only [Mk.cells, GA, ↓GB, List.filterMap_cons, eq_self, BEq.rfl, simprocAttr, hnt, hT])
    | (refine SX.block ?_)
    | (refine and_mk ?_ ?_; (focus first | decide | omega | rfl | assumption | (simp only [List.length_append, List.length_cons, List.length_nil, B_size]; omega) | (simp; done)))
    | (refine And.intro ?_ ?_))
  all_goals (try refine Done.mk ?_)
  · exact hN0 _ _ ⟨rfl, by rw [idxN _ _ i (by omega) hb hno]; rfl⟩
  · refine ⟨⟨i + 1, by omega, fun j hj => ?_⟩, [0, 1], (LeR.of (by rw [hbl]; decide) (by simp only [GA, ↓GB, List.filterMap_cons, eq_self, BEq.rfl, simprocAttr, List.getD_cons_zero, List.getD_cons_succ, or_false, false_or, or_self, or_true, true_or, decide_true]; try (rw [wI64 (by omega) (by omega)]; simp)) (by simp only [GA, ↓GB, List.filterMap_cons, eq_self, BEq.rfl, simprocAttr, List.getD_cons_zero, List.getD_cons_succ, or_false, false_or, or_self, or_true, true_or, decide_true]; try (rw [wI64 (by omega) (by omega)]; simp)) (by decide) (by simp only [GA, ↓GB, List.filterMap_cons, eq_self, BEq.rfl, simprocAttr, List.getD_cons_zero, List.getD_cons_succ, or_false, false_or, or_self, or_true, true_or, decide_true]) (by simp only [GA, ↓GB, List.filterMap_cons, eq_self, BEq.rfl, simprocAttr, List.getD_cons_zero, List.getD_cons_succ, or_false, false_or, or_self, or_true, true_or, decide_true]) (by simp only [GA, ↓GB, List.filterMap_cons, eq_self, BEq.rfl, simprocAttr, List.getD_cons_zero, List.getD_cons_succ, or_false, false_or, or_self, or_true, true_or, decide_true])), by show ms.length - (i + 1) < ms.length - i; omega⟩
    rcases Nat.lt_or_eq_of_le (Nat.le_of_lt_succ hj) with h | h
    · exact hno j h
    · rw [h]; exact hb
  · exact hN0 _ _ ⟨rfl, by rw [idxNone _ _ (fun j hj => hno j (by omega))]; rfl⟩
theorem indexFuncE (ms : List Mk) (hms : ms.length ≤ 1000000)  : Ctr Tryd.prog [] 130 [mrow ms] [.one (.c (.row 0)), .one (.c (.clo 93 [] []))]
    (fun os v => os = [mrow ms] ∧ v = vv (.int .i64 (idxI isPend ms))) := by
  have hrun : ∀ (m : Mk) (w : World), Calls Tryd.prog 93 #[.agg #[.int .i64 m.t, .string (B m.s), .int .u64 m.q, .int .i64 m.st, .string (B m.d)]] w fun x w' => x = .returned (.bool (isPend m)) ∧ Below w.heap.size w w' := fun m => erase1_any _ _ _ _ _
  intro X0 hP0 hG0 N0 hN0
  refine CallVC.inline (f := 130) (by rw [hP0]; exact Tryd.func130) rfl Tryd.ntmps130 rfl (by simp) ?_
  intro X K hU hnt hbl hK
  have hP : X.P = Tryd.prog := by rw [hU.P, hP0]
  have hG := hG0.under hU
  have hT : X.P.underlying 59 = some (TypeDesc.slice 62) ∧ elemSz X.P 59 = some (62, 5) ∧ aggOf X.P 62 = some true ∧ szOf X.P 62 = some 5 := by rw [hP]; exact ⟨Tryd.underlying59, Ty.el59, Ty.ag62, Ty.sz62⟩
  simp only [GA, ↓GB, List.filterMap_cons, eq_self, BEq.rfl, simprocAttr] at hbl ⊢
  have hc : calleeOk X.P 93 = true := by rw [hP]; kernel_rfl
  repeat' (first
    | (refine SX.seqK ?_; intro N hN)
    | ((first | (refine SX.ops ?_)); simp only [GA, ↓GB, List.filterMap_cons, eq_self, BEq.rfl, simprocAttr, hnt, hT, hc])
    | ((first | refine SX.skip ?_ | refine SX.exit ?_ | refine SX.label ?_); try simp only [GA, ↓GB, List.filterMap_cons, eq_self, BEq.rfl, simprocAttr])
    | (refine SX.cond rfl (fun hb => ?_) (fun hb => ?_) <;> ((first | cases hb | (simp only [decide_eq_true_eq, decide_eq_false_iff_not, beq_iff_eq, beq_eq_false_iff_ne, bne_iff_ne, Bool.and_eq_true, Bool.or_eq_true, Bool.not_eq_true', Bool.not_eq_false', Bool.and_eq_false_iff, Bool.or_eq_false_iff, Int.not_lt, Int.not_le] at hb) | skip) <;> (first | (exfalso; omega) | skip)))
    | (refine SX.ret ?_; try simp only [GA, ↓GB, List.filterMap_cons, eq_self, BEq.rfl, simprocAttr])
    | (refine hN _ ?_; clear hN N)
    | ((first | refine hK _ _ (FinI.ret3 ?_) | refine hK _ _ (FinI.nrm3 ?_)); simp only [GA, ↓GB, List.filterMap_cons, eq_self, BEq.rfl, simprocAttr, finP_s, hnt, hT, hc]; refine Done.out ?_)
    | (clear hN N; first | (refine hN _ ?_; clear hN N) | (clear hN N; first | (refine hN _ ?_; clear hN N) | (clear hN N; first | (refine hN _ ?_; clear hN N) | (clear hN N; first | (refine hN _ ?_; clear hN N) | (clear hN N; first | (refine hN _ ?_; clear hN N) | (refine hN _ ?_; clear hN N))))))
    | (refine bif2.mk (fun hb => ?_) (fun hb => ?_) <;> (try simp only [hb, GA, ↓GB, List.filterMap_cons, eq_self, BEq.rfl, simprocAttr, hnt, hT, hc]) <;> ((first | cases hb | (simp only [decide_eq_true_eq, decide_eq_false_iff_not, beq_iff_eq, beq_eq_false_iff_ne, bne_iff_ne, Bool.and_eq_true, Bool.or_eq_true, Bool.not_eq_true', Bool.not_eq_false', Bool.and_eq_false_iff, Bool.or_eq_false_iff, Int.not_lt, Int.not_le] at hb) | skip) <;> (first | (exfalso; omega) | skip)))
    | ((first | (refine CallVC.pv hP (hrun (ms.getD i default)) rfl ?_) | (refine CallQ.pv hP (hrun (ms.getD i default)) rfl ?_)); simp only [GA, ↓GB, List.filterMap_cons, eq_self, BEq.rfl, simprocAttr, hnt, hT, hc])
    | (refine SX.loop (ι := { i : Nat // i ≤ ms.length ∧ ∀ j, j < i → isPend (ms.getD j default) = false }) (fun i => ⟨[(0, .one (.c (.row 0))), (1, .one (.c (.clo 93 [] []))), (7, vv (.int .i64 ms.length)), (8, vv (.int .i64 i.1))], [mrow ms]⟩) (fun i => ms.length - i.1) ⟨0, by omega, fun j hj => absurd hj (Nat.not_lt_zero j)⟩ ⟨[0], (LeR.of (by rw [hbl]; decide) (by simp only [GA, ↓GB, List.filterMap_cons, eq_self, BEq.rfl, simprocAttr, List.getD_cons_zero, List.getD_cons_succ, or_false, false_or, or_self, or_true, true_or, decide_true]) (by simp only [GA, ↓GB, List.filterMap_cons, eq_self, BEq.rfl, simprocAttr, List.getD_cons_zero, List.getD_cons_succ, or_false, false_or, or_self, or_true, true_or, decide_true]) (by decide) (by simp only [GA, ↓GB, List.filterMap_cons, eq_self, BEq.rfl, simprocAttr, List.getD_cons_zero, List.getD_cons_succ, or_false, false_or, or_self, or_true, true_or, decide_true]) (by simp only [GA, ↓GB, List.filterMap_cons, eq_self, BEq.rfl, simprocAttr, List.getD_cons_zero, List.getD_cons_succ, or_false, false_or, or_self, or_true, true_or, decide_true]) (by simp only [GA, ↓GB, List.filterMap_cons, eq_self, BEq.rfl, simprocAttr, List.getD_cons_zero, List.getD_cons_succ, or_false, false_or, or_self, or_true, true_or, decide_true]))⟩ ?_ <;> rintro ⟨i, hi, hno⟩ <;> simp only [] at hi hno ⊢)
    | (refine ⟨(ms.getD i default).cells, rfl, mks_at _ _ (by omega), ?_⟩ <;> simp only [Mk.cells, GA, ↓GB, List.filterMap_cons, eq_self, BEq.rfl, simprocAttr, hnt, hT])
    | (refine SX.block ?_)
    | (refine and_mk ?_ ?_; (focus first | decide | omega | rfl | assumption | (simp only [List.length_append, List.length_cons, List.length_nil, B_size]; omega) | (simp; done)))
    | (refine And.intro ?_ ?_))
  all_goals (try refine Done.mk ?_)
  · exact hN0 _ _ ⟨rfl, by rw [idxN _ _ i (by omega) hb hno]; rfl⟩
  · refine ⟨⟨i + 1, by omega, fun j hj => ?_⟩, [0], (LeR.of (by rw [hbl]; decide) (by simp only [GA, ↓GB, List.filterMap_cons, eq_self, BEq.rfl, simprocAttr, List.getD_cons_zero, List.getD_cons_succ, or_false, false_or, or_self, or_true, true_or, decide_true]; try (rw [wI64 (by omega) (by omega)]; simp)) (by simp only [GA, ↓GB, List.filterMap_cons, eq_self, BEq.rfl, simprocAttr, List.getD_cons_zero, List.getD_cons_succ, or_false, false_or, or_self, or_true, true_or, decide_true]; try (rw [wI64 (by omega) (by omega)]; simp)) (by decide) (by simp only [GA, ↓GB, List.filterMap_cons, eq_self, BEq.rfl, simprocAttr, List.getD_cons_zero, List.getD_cons_succ, or_false, false_or, or_self, or_true, true_or, decide_true]) (by simp only [GA, ↓GB, List.filterMap_cons, eq_self, BEq.rfl, simprocAttr, List.getD_cons_zero, List.getD_cons_succ, or_false, false_or, or_self, or_true, true_or, decide_true]) (by simp only [GA, ↓GB, List.filterMap_cons, eq_self, BEq.rfl, simprocAttr, List.getD_cons_zero, List.getD_cons_succ, or_false, false_or, or_self, or_true, true_or, decide_true])), by show ms.length - (i + 1) < ms.length - i; omega⟩
    rcases Nat.lt_or_eq_of_le (Nat.le_of_lt_succ hj) with h | h
    · exact hno j h
    · rw [h]; exact hb
  · exact hN0 _ _ ⟨rfl, by rw [idxNone _ _ (fun j hj => hno j (by omega))]; rfl⟩
theorem containsFunc1 (ms : List Mk) (hms : ms.length ≤ 1000000) (b r : Int) (t : List UInt8) : Ctr Tryd.prog [] 79 [mrow ms, .cells [.v (.int .i64 b), .v (.string (B t))] 26, .cells [.v (.int .u64 r)] 22] [.one (.c (.row 0)), .one (.c (.clo 80 [] [.loc 1 0, .loc 2 0]))]
    (fun os v => os = [mrow ms, .cells [.v (.int .i64 b), .v (.string (B t))] 26, .cells [.v (.int .u64 r)] 22] ∧ v = vv (.bool (decide (0 ≤ idxI (isAt b t r) ms)))) := by
  intro X0 hP0 hG0 N0 hN0
  refine CallVC.inline (f := 79) (by rw [hP0]; exact Tryd.func79) rfl Tryd.ntmps79 rfl (by simp) ?_
  intro X K hU hnt hbl hK
  have hP : X.P = Tryd.prog := by rw [hU.P, hP0]
  have hG := hG0.under hU
  have hT : calleeOk X.P 130 = true := by rw [hP]; exact Ty.co130
  simp only [GA, ↓GB, List.filterMap_cons, eq_self, BEq.rfl, simprocAttr] at hbl ⊢
  repeat' (first
    | (refine SX.seqK ?_; intro N hN)
    | ((first | (refine SX.ops ?_)); simp only [GA, ↓GB, List.filterMap_cons, eq_self, BEq.rfl, simprocAttr, hnt, hT])
    | ((first | refine SX.skip ?_ | refine SX.exit ?_ | refine SX.label ?_); try simp only [GA, ↓GB, List.filterMap_cons, eq_self, BEq.rfl, simprocAttr])
    | (refine SX.cond rfl (fun hb => ?_) (fun hb => ?_) <;> ((first | cases hb | (simp only [decide_eq_true_eq, decide_eq_false_iff_not, beq_iff_eq, beq_eq_false_iff_ne, bne_iff_ne, Bool.and_eq_true, Bool.or_eq_true, Bool.not_eq_true', Bool.not_eq_false', Bool.and_eq_false_iff, Bool.or_eq_false_iff, Int.not_lt, Int.not_le] at hb) | skip) <;> (first | (exfalso; omega) | skip)))
    | (refine SX.ret ?_; try simp only [GA, ↓GB, List.filterMap_cons, eq_self, BEq.rfl, simprocAttr])
    | (refine hN _ ?_; clear hN N)
    | ((first | refine hK _ _ (FinI.ret3 ?_) | refine hK _ _ (FinI.nrm3 ?_)); simp only [GA, ↓GB, List.filterMap_cons, eq_self, BEq.rfl, simprocAttr, finP_s, hnt, hT]; refine Done.out ?_)
    | (clear hN N; first | (refine hN _ ?_; clear hN N) | (clear hN N; first | (refine hN _ ?_; clear hN N) | (clear hN N; first | (refine hN _ ?_; clear hN N) | (clear hN N; first | (refine hN _ ?_; clear hN N) | (clear hN N; first | (refine hN _ ?_; clear hN N) | (refine hN _ ?_; clear hN N))))))
    | (refine bif2.mk (fun hb => ?_) (fun hb => ?_) <;> (try simp only [hb, GA, ↓GB, List.filterMap_cons, eq_self, BEq.rfl, simprocAttr, hnt, hT]) <;> ((first | cases hb | (simp only [decide_eq_true_eq, decide_eq_false_iff_not, beq_iff_eq, beq_eq_false_iff_ne, bne_iff_ne, Bool.and_eq_true, Bool.or_eq_true, Bool.not_eq_true', Bool.not_eq_false', Bool.and_eq_false_iff, Bool.or_eq_false_iff, Int.not_lt, Int.not_le] at hb) | skip) <;> (first | (exfalso; omega) | skip)))
    | ((first | (refine Ctr.use (indexFunc1 ms hms b r t) hP ?_ [0,1,2] ?_ rfl rfl ?_; (focus (intro p hp; cases hp)); (focus (refine LeR.of rfl trivial ?_ ?_ ?_ ?_ ?_ <;> first | decide | (simp only [GA, ↓GB, List.filterMap_cons, eq_self, BEq.rfl, simprocAttr, List.getD_cons_zero, List.getD_cons_succ, or_false, false_or, or_self, or_true, true_or, decide_true]; done))); intro os' s hR; obtain ⟨rfl, rfl⟩ := hR)); simp only [GA, ↓GB, List.filterMap_cons, eq_self, BEq.rfl, simprocAttr, hnt, hT])
    | (refine SX.block ?_)
    | (refine and_mk ?_ ?_; (focus first | decide | omega | rfl | assumption | (simp only [List.length_append, List.length_cons, List.length_nil, B_size]; omega) | (simp; done)))
    | (refine And.intro ?_ ?_))
  all_goals (try refine Done.mk ?_)
  all_goals exact hN0 _ _ ⟨rfl, rfl⟩
end Go.Proofs.YtbdacbcpniegiaaDoor
namespace Go.Proofs.YtbdacbcpniegiaaDoor
open Go Go.RowKit Go.Proofs Go.Sx
set_option maxHeartbeats 4000000
set_option maxRecDepth 100000
set_option linter.unusedSimpArgs false
set_option linter.unusedVariables false
def cmpM (a b : Mk) : Int := cmpMark a.t a.s a.q b.t b.s b.q
theorem order_mk (a b : Mk) (w : World) : Calls Tryd.prog 82 #[.agg #[.int .i64 a.t, .string (B a.s), .int .u64 a.q, .int .i64 a.st, .string (B a.d)], .agg #[.int .i64 b.t, .string (B b.s), .int .u64 b.q, .int .i64 b.st, .string (B b.d)]] w fun x w' => x = .returned (.int .i64 (cmpM a b)) ∧ Below w.heap.size w w' := markOrder_any _ _ _ _ _ _ _ _ _ _ w
def bsN (ms : List Mk) (m : Mk) : Nat := (ms.takeWhile fun x => decide (cmpM x m < 0)).length
theorem bsN_eq (ms : List Mk) (m : Mk) (i : Nat) (hi : i ≤ ms.length) (h1 : ∀ k, k < i → cmpM (ms.getD k default) m < 0) (h2 : i < ms.length → ¬ cmpM (ms.getD i default) m < 0) : bsN ms m = i := by
  induction ms generalizing i with
  | nil => simp at hi; subst hi; rfl
  | cons x ms ih =>
    cases i with
    | zero =>
      have := h2 (by simp)
      simp only [List.getD_cons_zero] at this
      simp [bsN, List.takeWhile_cons, this]
    | succ i =>
      have h0 := h1 0 (by omega)
      simp only [List.getD_cons_zero] at h0
      have := ih i (by simpa using hi) (fun k hk => by simpa using h1 (k + 1) (by omega)) (fun hk => by simpa using h2 (by simpa using hk))
      simp only [bsN, List.takeWhile_cons, h0, decide_true, if_true, List.length_cons] at this ⊢
      omega
theorem halfU (i j : Nat) (hi : i ≤ 1000000) (hj : j ≤ 1000000) : IntKind.i64.wrap ((IntKind.u64.wrap (IntKind.i64.wrap ((i : Int) + (j : Int)))).fdiv (2 ^ min 1 IntKind.u64.bits)) = (((i + j) / 2 : Nat) : Int) := by
  rw [wI64 (x := (i : Int) + j) (by omega) (by omega), wU64 (x := (i : Int) + j) (by omega) (by omega), show (2 : Int) ^ (min 1 IntKind.u64.bits) = 2 from rfl, Int.fdiv_eq_ediv_of_nonneg _ (by decide), wI64 (by omega) (by omega)]
  omega
def Sorted2 (ms : List Mk) (m : Mk) : Prop := ∀ a b, a ≤ b → b < ms.length → cmpM (ms.getD b default) m < 0 → cmpM (ms.getD a default) m < 0
theorem search_ctr (ms : List Mk) (hms : ms.length ≤ 1000000) (m : Mk) (hs : Sorted2 ms m) : Ctr Tryd.prog [] 81 [mrow ms] [.one (.c (.row 0)), .one (.agg [.v (.int .i64 m.t), .v (.string (B m.s)), .v (.int .u64 m.q), .v (.int .i64 m.st), .v (.string (B m.d))]), .one (.c (.clo 82 [] []))]
    (fun os v => os = [mrow ms] ∧ v = .tup [.c (.v (.int .i64 (bsN ms m))), .c (.v (.bool (decide (bsN ms m < ms.length) && decide (cmpM (ms.getD (bsN ms m) default) m = 0))))]) := by
  refine Ctr.less ?_
  intro X0 hP0 hG0 N0 hN0
  refine CallVC.inline (f := 81) (by rw [hP0]; exact Tryd.func81) rfl Tryd.ntmps81 rfl (by simp) ?_
  intro X K hU hnt hbl hK
  have hP : X.P = Tryd.prog := by rw [hU.P, hP0]
  have hG := hG0.under hU
  have hT : X.P.underlying 59 = some (TypeDesc.slice 62) ∧ X.P.underlying 3 = some (TypeDesc.int IntKind.i64) ∧ X.P.underlying 164 = some (TypeDesc.int IntKind.u64) ∧ isBytesT X.P 3 = false ∧ isStrT X.P 164 = false ∧ isBytesT X.P 164 = false ∧ isStrT X.P 3 = false ∧ elemSz X.P 59 = some (62, 5) ∧ aggOf X.P 62 = some true ∧ szOf X.P 62 = some 5 := by rw [hP]; exact ⟨Tryd.underlying59, Tryd.underlying3, Tryd.underlying164, Ty.ib3, Ty.is164, Ty.ib164, Ty.is3, Ty.el59, Ty.ag62, Ty.sz62⟩
  simp only [GA, ↓GB, List.filterMap_cons, eq_self, BEq.rfl, simprocAttr] at hbl ⊢
  have hc : calleeOk X.P 82 = true := by rw [hP]; kernel_rfl
  repeat' (first
    | (refine SX.seqK ?_; intro N hN)
    | ((first | (refine SX.ops ?_) | (refine SX.planT (id := 5) [.q [(0, [2]), (1, [0]), (2, [11]), (3, [25, 26]), (4, [27]), (5, [4])] none, .s 6, .s 7] ?_ ?_ ?_; (focus first | (rw [hP]; kernel_rfl) | (rw [hU1P, hP]; kernel_rfl)); (focus kernel_rfl)) | (refine SX.planT (id := 8) [.f 0, .q [(1, [9]), (2, [8]), (3, [36, 37]), (4, [38]), (5, [2, 39]), (6, [0, 39]), (7, [9, 39]), (8, [41, 42, 39]), (9, [43, 39]), (10, [4, 39])] none, .s 11, .q [(12, [46, 39]), (13, [39, 47]), (14, [35]), (15, [48])] none] ?_ ?_ ?_; (focus first | (rw [hP]; kernel_rfl) | (rw [hU1P, hP]; kernel_rfl)); (focus kernel_rfl))); simp only [GA, ↓GB, List.filterMap_cons, eq_self, BEq.rfl, simprocAttr, hnt, hT, hc])
    | ((first | refine SX.skip ?_ | refine SX.exit ?_ | refine SX.label ?_); try simp only [GA, ↓GB, List.filterMap_cons, eq_self, BEq.rfl, simprocAttr])
    | (refine SX.cond rfl (fun hb => ?_) (fun hb => ?_) <;> ((first | cases hb | (simp only [decide_eq_true_eq, decide_eq_false_iff_not, beq_iff_eq, beq_eq_false_iff_ne, bne_iff_ne, Bool.and_eq_true, Bool.or_eq_true, Bool.not_eq_true', Bool.not_eq_false', Bool.and_eq_false_iff, Bool.or_eq_false_iff, Int.not_lt, Int.not_le] at hb) | skip) <;> (first | (exfalso; omega) | skip)))
    | (refine SX.ret ?_; try simp only [GA, ↓GB, List.filterMap_cons, eq_self, BEq.rfl, simprocAttr])
    | (refine hN _ ?_; clear hN N)
    | ((first | refine hK _ _ (FinI.ret3 ?_) | refine hK _ _ (FinI.nrm3 ?_)); simp only [GA, ↓GB, List.filterMap_cons, eq_self, BEq.rfl, simprocAttr, finP_s, hnt, hT, hc]; refine Done.out ?_)
    | (clear hN N; first | (refine hN _ ?_; clear hN N) | (clear hN N; first | (refine hN _ ?_; clear hN N) | (clear hN N; first | (refine hN _ ?_; clear hN N) | (clear hN N; first | (refine hN _ ?_; clear hN N) | (clear hN N; first | (refine hN _ ?_; clear hN N) | (refine hN _ ?_; clear hN N))))))
    | (refine bif2.mk (fun hb => ?_) (fun hb => ?_) <;> (try simp only [hb, GA, ↓GB, List.filterMap_cons, eq_self, BEq.rfl, simprocAttr, hnt, hT, hc]) <;> ((first | cases hb | (simp only [decide_eq_true_eq, decide_eq_false_iff_not, beq_iff_eq, beq_eq_false_iff_ne, bne_iff_ne, Bool.and_eq_true, Bool.or_eq_true, Bool.not_eq_true', Bool.not_eq_false', Bool.and_eq_false_iff, Bool.or_eq_false_iff, Int.not_lt, Int.not_le] at hb) | skip) <;> (first | (exfalso; omega) | skip)))
    | ((first | (refine CallVC.pv hP (order_mk (ms.getD ((i + j) / 2) default) m) rfl ?_) | (refine CallQ.pv hP (order_mk (ms.getD ((i + j) / 2) default) m) rfl ?_) | (refine CallVC.pv hP (order_mk (ms.getD i default) m) rfl ?_) | (refine CallQ.pv hP (order_mk (ms.getD i default) m) rfl ?_)); simp only [GA, ↓GB, List.filterMap_cons, eq_self, BEq.rfl, simprocAttr, hnt, hT, hc])
    | (refine SX.loop (ι := { p : Nat × Nat // p.1 ≤ p.2 ∧ p.2 ≤ ms.length ∧ (∀ k, k < p.1 → cmpM (ms.getD k default) m < 0) ∧ (∀ k, p.2 ≤ k → k < ms.length → ¬ cmpM (ms.getD k default) m < 0) }) (fun i => ⟨[(0, .one (.c (.row 0))), (2, .one (.c (.clo 82 [] []))), (4, .one (.c (.loc 1 0))), (8, vv (.int .i64 ms.length)), (9, vv (.int .i64 i.1.1)), (10, vv (.int .i64 i.1.2))], [mrow ms, .cells [.v (.int .i64 m.t), .v (.string (B m.s)), .v (.int .u64 m.q), .v (.int .i64 m.st), .v (.string (B m.d))] 62]⟩) (fun i => i.1.2 - i.1.1) ⟨(0, ms.length), by simp, by simp, fun k hk => absurd hk (Nat.not_lt_zero k), fun k hk hk2 => by simp at hk; omega⟩ ⟨[0, 1], (LeR.of (by rw [hbl]; decide) (by simp only [GA, ↓GB, List.filterMap_cons, eq_self, BEq.rfl, simprocAttr, List.getD_cons_zero, List.getD_cons_succ, or_false, false_or, or_self, or_true, true_or, decide_true]) (by simp only [GA, ↓GB, List.filterMap_cons, eq_self, BEq.rfl, simprocAttr, List.getD_cons_zero, List.getD_cons_succ, or_false, false_or, or_self, or_true, true_or, decide_true]) (by decide) (by simp only [GA, ↓GB, List.filterMap_cons, eq_self, BEq.rfl, simprocAttr, List.getD_cons_zero, List.getD_cons_succ, or_false, false_or, or_self, or_true, true_or, decide_true]) (by simp only [GA, ↓GB, List.filterMap_cons, eq_self, BEq.rfl, simprocAttr, List.getD_cons_zero, List.getD_cons_succ, or_false, false_or, or_self, or_true, true_or, decide_true]) (by simp only [GA, ↓GB, List.filterMap_cons, eq_self, BEq.rfl, simprocAttr, List.getD_cons_zero, List.getD_cons_succ, or_false, false_or, or_self, or_true, true_or, decide_true]))⟩ ?_ <;> rintro ⟨⟨i, j⟩, hij, hj, hlo, hhi⟩ <;> simp only [] at hij hj hlo hhi ⊢)
    | (refine ⟨(ms.getD ((i + j) / 2) default).cells, rfl, mks_at _ _ (by omega), ?_⟩ <;> simp only [Mk.cells, GA, ↓GB, List.filterMap_cons, eq_self, BEq.rfl, simprocAttr, hnt, hT])
    | (refine ⟨(ms.getD i default).cells, rfl, mks_at _ _ (by omega), ?_⟩ <;> simp only [Mk.cells, GA, ↓GB, List.filterMap_cons, eq_self, BEq.rfl, simprocAttr, hnt, hT])
    | (rw [halfU i j (by omega) (by omega)] <;> simp only [Int.toNat_natCast, GA, ↓GB, List.filterMap_cons, eq_self, BEq.rfl, simprocAttr])
    | (refine SX.block ?_)
    | (refine and_mk ?_ ?_; (focus first | decide | omega | rfl | assumption | (simp only [List.length_append, List.length_cons, List.length_nil, B_size]; omega) | (simp; done)))
    | (refine And.intro ?_ ?_))
  all_goals (try refine Done.mk ?_)
  · refine ⟨⟨((i + j) / 2 + 1, j), by show (i + j) / 2 + 1 ≤ j; omega, hj, fun k hk => hs k ((i + j) / 2) (by simp at hk; omega) (by omega) hb, hhi⟩, [0, 1], (LeR.of (by rw [hbl]; decide) (by simp only [GA, ↓GB, List.filterMap_cons, eq_self, BEq.rfl, simprocAttr, List.getD_cons_zero, List.getD_cons_succ, or_false, false_or, or_self, or_true, true_or, decide_true]; try (rw [wI64 (by omega) (by omega)]; simp)) (by simp only [GA, ↓GB, List.filterMap_cons, eq_self, BEq.rfl, simprocAttr, List.getD_cons_zero, List.getD_cons_succ, or_false, false_or, or_self, or_true, true_or, decide_true]; try (rw [wI64 (by omega) (by omega)]; simp)) (by decide) (by simp only [GA, ↓GB, List.filterMap_cons, eq_self, BEq.rfl, simprocAttr, List.getD_cons_zero, List.getD_cons_succ, or_false, false_or, or_self, or_true, true_or, decide_true]) (by simp only [GA, ↓GB, List.filterMap_cons, eq_self, BEq.rfl, simprocAttr, List.getD_cons_zero, List.getD_cons_succ, or_false, false_or, or_self, or_true, true_or, decide_true]) (by simp only [GA, ↓GB, List.filterMap_cons, eq_self, BEq.rfl, simprocAttr, List.getD_cons_zero, List.getD_cons_succ, or_false, false_or, or_self, or_true, true_or, decide_true])), by show j - ((i + j) / 2 + 1) < j - i; omega⟩
  · refine ⟨⟨(i, (i + j) / 2), by show i ≤ (i + j) / 2; omega, by show (i + j) / 2 ≤ ms.length; omega, hlo, fun k hk hk2 h => by have := hs ((i + j) / 2) k hk hk2 h; omega⟩, [0, 1], (LeR.of (by rw [hbl]; decide) (by simp only [GA, ↓GB, List.filterMap_cons, eq_self, BEq.rfl, simprocAttr, List.getD_cons_zero, List.getD_cons_succ, or_false, false_or, or_self, or_true, true_or, decide_true]) (by simp only [GA, ↓GB, List.filterMap_cons, eq_self, BEq.rfl, simprocAttr, List.getD_cons_zero, List.getD_cons_succ, or_false, false_or, or_self, or_true, true_or, decide_true]) (by decide) (by simp only [GA, ↓GB, List.filterMap_cons, eq_self, BEq.rfl, simprocAttr, List.getD_cons_zero, List.getD_cons_succ, or_false, false_or, or_self, or_true, true_or, decide_true]) (by simp only [GA, ↓GB, List.filterMap_cons, eq_self, BEq.rfl, simprocAttr, List.getD_cons_zero, List.getD_cons_succ, or_false, false_or, or_self, or_true, true_or, decide_true]) (by simp only [GA, ↓GB, List.filterMap_cons, eq_self, BEq.rfl, simprocAttr, List.getD_cons_zero, List.getD_cons_succ, or_false, false_or, or_self, or_true, true_or, decide_true])), by show (i + j) / 2 - i < j - i; omega⟩
  · have hb' : i < ms.length := by omega
    have e : bsN ms m = i := bsN_eq ms m i (by omega) hlo (fun h => hhi i (by omega) h)
    simp only [e] at hN0
    (refine hN0 _ _ ⟨[0], _, _, ?_, ?_, ?_, ⟨rfl, rfl⟩⟩; (focus exact LeR.of rfl trivial (by simp only [GA, ↓GB, List.filterMap_cons, eq_self, BEq.rfl, simprocAttr, List.getD_cons_zero, List.getD_cons_succ, or_false, false_or, or_self, or_true, true_or, decide_true]) (by decide) rfl rfl rfl); rotate_left; (focus rfl))
    simp only [SV.ren, S1.ren, SC.ren, hb', decide_true, Bool.true_and, List.map_cons, List.map_nil]
    rw [Bool.beq_eq_decide_eq]
  · have hb' : ¬ i < ms.length := by omega
    have e : bsN ms m = i := bsN_eq ms m i (by omega) hlo (fun h => hhi i (by omega) h)
    simp only [e] at hN0
    (refine hN0 _ _ ⟨[0], _, _, ?_, ?_, ?_, ⟨rfl, rfl⟩⟩; (focus exact LeR.of rfl trivial (by simp only [GA, ↓GB, List.filterMap_cons, eq_self, BEq.rfl, simprocAttr, List.getD_cons_zero, List.getD_cons_succ, or_false, false_or, or_self, or_true, true_or, decide_true]) (by decide) rfl rfl rfl); rotate_left; (focus rfl))
    simp [SV.ren, S1.ren, SC.ren, hb']
def minQ (ms : List Mk) : Nat → Mk
  | 0 => ms.getD 0 default
  | n + 1 => if cmpI (ms.getD (n + 1) default).q (minQ ms n).q < 0 then ms.getD (n + 1) default else minQ ms n
theorem begin2_mk (a b : Mk) (w : World) : Calls Tryd.prog 85 #[.agg #[.int .i64 a.t, .string (B a.s), .int .u64 a.q, .int .i64 a.st, .string (B a.d)], .agg #[.int .i64 b.t, .string (B b.s), .int .u64 b.q, .int .i64 b.st, .string (B b.d)]] w fun x w' => x = .returned (.int .i64 (cmpI a.q b.q)) ∧ Below w.heap.size w w' := begin2_any _ _ _ _ _ _ _ _ _ _ w
theorem min_ctr (ms : List Mk) (hms : ms.length ≤ 1000000) (h0 : 0 < ms.length) : Ctr Tryd.prog [] 84 [mrow ms] [.one (.c (.row 0)), .one (.c (.clo 85 [] []))]
    (fun os v => os = [mrow ms] ∧ v = .one (.agg ((minQ ms (ms.length - 1)).cells.map .v))) := by
  refine Ctr.less ?_
  intro X0 hP0 hG0 N0 hN0
  refine CallVC.inline (f := 84) (by rw [hP0]; exact Tryd.func84) rfl Tryd.ntmps84 rfl (by simp) ?_
  intro X K hU hnt hbl hK
  have hP : X.P = Tryd.prog := by rw [hU.P, hP0]
  have hG := hG0.under hU
  have hT : zeroCells X.P 62 = some [(Value.int IntKind.i64 0), (Value.string { data := #[] }), (Value.int IntKind.u64 0), (Value.int IntKind.i64 0), (Value.string { data := #[] })] ∧ X.P.underlying 59 = some (TypeDesc.slice 62) ∧ X.P.underlying 9 = some TypeDesc.string ∧ elemSz X.P 59 = some (62, 5) ∧ aggOf X.P 62 = some true ∧ szOf X.P 62 = some 5 := by rw [hP]; exact ⟨Ty.ze62, Tryd.underlying59, Tryd.underlying9, Ty.el59, Ty.ag62, Ty.sz62⟩
  simp only [GA, ↓GB, List.filterMap_cons, eq_self, BEq.rfl, simprocAttr] at hbl ⊢
  have hc : calleeOk X.P 85 = true := by rw [hP]; kernel_rfl
  repeat' (first
    | (refine SX.seqK ?_; intro N hN)
    | ((first | (refine SX.ops ?_) | (refine SX.planT (id := 7) [.q [(0, [1]), (1, [0]), (2, [6]), (3, [21, 22]), (4, [23]), (5, [5])] none, .s 6, .s 7] ?_ ?_ ?_; (focus first | (rw [hP]; kernel_rfl) | (rw [hU1P, hP]; kernel_rfl)); (focus kernel_rfl))); simp only [GA, ↓GB, List.filterMap_cons, eq_self, BEq.rfl, simprocAttr, hnt, hT, hc])
    | ((first | refine SX.skip ?_ | refine SX.exit ?_ | refine SX.label ?_); try simp only [GA, ↓GB, List.filterMap_cons, eq_self, BEq.rfl, simprocAttr])
    | (refine SX.cond rfl (fun hb => ?_) (fun hb => ?_) <;> ((first | cases hb | (simp only [decide_eq_true_eq, decide_eq_false_iff_not, beq_iff_eq, beq_eq_false_iff_ne, bne_iff_ne, Bool.and_eq_true, Bool.or_eq_true, Bool.not_eq_true', Bool.not_eq_false', Bool.and_eq_false_iff, Bool.or_eq_false_iff, Int.not_lt, Int.not_le] at hb) | skip) <;> (first | (exfalso; omega) | skip)))
    | (refine SX.ret ?_; try simp only [GA, ↓GB, List.filterMap_cons, eq_self, BEq.rfl, simprocAttr])
    | (refine hN _ ?_; clear hN N)
    | ((first | refine hK _ _ (FinI.ret3 ?_) | refine hK _ _ (FinI.nrm3 ?_)); simp only [GA, ↓GB, List.filterMap_cons, eq_self, BEq.rfl, simprocAttr, finP_s, hnt, hT, hc]; refine Done.out ?_)
    | (clear hN N; first | (refine hN _ ?_; clear hN N) | (clear hN N; first | (refine hN _ ?_; clear hN N) | (clear hN N; first | (refine hN _ ?_; clear hN N) | (clear hN N; first | (refine hN _ ?_; clear hN N) | (clear hN N; first | (refine hN _ ?_; clear hN N) | (refine hN _ ?_; clear hN N))))))
    | (refine bif2.mk (fun hb => ?_) (fun hb => ?_) <;> (try simp only [hb, GA, ↓GB, List.filterMap_cons, eq_self, BEq.rfl, simprocAttr, hnt, hT, hc]) <;> ((first | cases hb | (simp only [decide_eq_true_eq, decide_eq_false_iff_not, beq_iff_eq, beq_eq_false_iff_ne, bne_iff_ne, Bool.and_eq_true, Bool.or_eq_true, Bool.not_eq_true', Bool.not_eq_false', Bool.and_eq_false_iff, Bool.or_eq_false_iff, Int.not_lt, Int.not_le] at hb) | skip) <;> (first | (exfalso; omega) | skip)))
    | ((first | (refine CallVC.pv hP (begin2_mk (ms.getD (i + 1) default) (minQ ms i)) rfl ?_) | (refine CallQ.pv hP (begin2_mk (ms.getD (i + 1) default) (minQ ms i)) rfl ?_)); simp only [GA, ↓GB, List.filterMap_cons, eq_self, BEq.rfl, simprocAttr, hnt, hT, hc])
    | (refine SX.loop (ι := { i : Nat // i < ms.length }) (fun i => ⟨[(0, .one (.c (.row 0))), (1, .one (.c (.clo 85 [] []))), (4, .one (.c (.loc 1 0))), (5, .one (.c (.loc 2 0))), (6, vv (.int .i64 ((i.1 + 1 : Nat) : Int)))], [mrow ms, .cells [.v (.int .i64 0), .v (.string (B [])), .v (.int .u64 0), .v (.int .i64 0), .v (.string (B []))] 62, .cells [.v (.int .i64 (minQ ms i.1).t), .v (.string (B (minQ ms i.1).s)), .v (.int .u64 (minQ ms i.1).q), .v (.int .i64 (minQ ms i.1).st), .v (.string (B (minQ ms i.1).d))] 62]⟩) (fun i => ms.length - i.1) ⟨0, h0⟩ ⟨[0, 1, 2], (LeR.of (by rw [hbl]; decide) (by simp only [GA, ↓GB, List.filterMap_cons, eq_self, BEq.rfl, simprocAttr, List.getD_cons_zero, List.getD_cons_succ, or_false, false_or, or_self, or_true, true_or, decide_true]; try (rfl)) (by simp only [GA, ↓GB, List.filterMap_cons, eq_self, BEq.rfl, simprocAttr, List.getD_cons_zero, List.getD_cons_succ, or_false, false_or, or_self, or_true, true_or, decide_true]; try (rfl)) (by decide) (by simp only [GA, ↓GB, List.filterMap_cons, eq_self, BEq.rfl, simprocAttr, List.getD_cons_zero, List.getD_cons_succ, or_false, false_or, or_self, or_true, true_or, decide_true]) (by simp only [GA, ↓GB, List.filterMap_cons, eq_self, BEq.rfl, simprocAttr, List.getD_cons_zero, List.getD_cons_succ, or_false, false_or, or_self, or_true, true_or, decide_true]) (by simp only [GA, ↓GB, List.filterMap_cons, eq_self, BEq.rfl, simprocAttr, List.getD_cons_zero, List.getD_cons_succ, or_false, false_or, or_self, or_true, true_or, decide_true]))⟩ ?_ <;> rintro ⟨i, hi⟩ <;> simp only [] at hi ⊢)
    | (refine ⟨(ms.getD (i + 1) default).cells, rfl, mks_at _ _ (by omega), ?_⟩ <;> simp only [Mk.cells, GA, ↓GB, List.filterMap_cons, eq_self, BEq.rfl, simprocAttr, hnt, hT])
    | (refine ⟨(ms.getD 0 default).cells, rfl, mks_at ms 0 h0, ?_⟩ <;> simp only [Mk.cells, GA, ↓GB, List.filterMap_cons, eq_self, BEq.rfl, simprocAttr, hnt, hT])
    | (refine SX.block ?_)
    | (refine and_mk ?_ ?_; (focus first | decide | omega | rfl | assumption | (simp only [List.length_append, List.length_cons, List.length_nil, B_size]; omega) | (simp; done)))
    | (refine And.intro ?_ ?_))
  all_goals (try refine Done.mk ?_)
  · have e : minQ ms (i + 1) = ms.getD (i + 1) default := by simp only [minQ, hb, if_true]
    refine ⟨⟨i + 1, by omega⟩, [0, 1, 2], (LeR.of (by rw [hbl]; decide) (by simp only [GA, ↓GB, List.filterMap_cons, eq_self, BEq.rfl, simprocAttr, List.getD_cons_zero, List.getD_cons_succ, or_false, false_or, or_self, or_true, true_or, decide_true]; try (first | (rw [wI64 (by omega) (by omega)]; simp; done) | rw [e])) (by simp only [GA, ↓GB, List.filterMap_cons, eq_self, BEq.rfl, simprocAttr, List.getD_cons_zero, List.getD_cons_succ, or_false, false_or, or_self, or_true, true_or, decide_true]; try (first | (rw [wI64 (by omega) (by omega)]; simp; done) | rw [e])) (by decide) (by simp only [GA, ↓GB, List.filterMap_cons, eq_self, BEq.rfl, simprocAttr, List.getD_cons_zero, List.getD_cons_succ, or_false, false_or, or_self, or_true, true_or, decide_true]) (by simp only [GA, ↓GB, List.filterMap_cons, eq_self, BEq.rfl, simprocAttr, List.getD_cons_zero, List.getD_cons_succ, or_false, false_or, or_self, or_true, true_or, decide_true]) (by simp only [GA, ↓GB, List.filterMap_cons, eq_self, BEq.rfl, simprocAttr, List.getD_cons_zero, List.getD_cons_succ, or_false, false_or, or_self, or_true, true_or, decide_true])), by show ms.length - (i + 1) < ms.length - i; omega⟩
  · have e : minQ ms (i + 1) = minQ ms i := by simp only [minQ, show ¬ cmpI (ms.getD (i + 1) default).q (minQ ms i).q < 0 by omega, if_false]
    refine ⟨⟨i + 1, by omega⟩, [0, 1, 2], (LeR.of (by rw [hbl]; decide) (by simp only [GA, ↓GB, List.filterMap_cons, eq_self, BEq.rfl, simprocAttr, List.getD_cons_zero, List.getD_cons_succ, or_false, false_or, or_self, or_true, true_or, decide_true]; try (first | (rw [wI64 (by omega) (by omega)]; simp; done) | rw [e])) (by simp only [GA, ↓GB, List.filterMap_cons, eq_self, BEq.rfl, simprocAttr, List.getD_cons_zero, List.getD_cons_succ, or_false, false_or, or_self, or_true, true_or, decide_true]; try (first | (rw [wI64 (by omega) (by omega)]; simp; done) | rw [e])) (by decide) (by simp only [GA, ↓GB, List.filterMap_cons, eq_self, BEq.rfl, simprocAttr, List.getD_cons_zero, List.getD_cons_succ, or_false, false_or, or_self, or_true, true_or, decide_true]) (by simp only [GA, ↓GB, List.filterMap_cons, eq_self, BEq.rfl, simprocAttr, List.getD_cons_zero, List.getD_cons_succ, or_false, false_or, or_self, or_true, true_or, decide_true]) (by simp only [GA, ↓GB, List.filterMap_cons, eq_self, BEq.rfl, simprocAttr, List.getD_cons_zero, List.getD_cons_succ, or_false, false_or, or_self, or_true, true_or, decide_true])), by show ms.length - (i + 1) < ms.length - i; omega⟩
  · obtain rfl : i = ms.length - 1 := by omega
    (refine hN0 _ _ ⟨[0], _, _, ?_, ?_, ?_, ⟨rfl, rfl⟩⟩; (focus exact LeR.of rfl trivial (by simp only [GA, ↓GB, List.filterMap_cons, eq_self, BEq.rfl, simprocAttr, List.getD_cons_zero, List.getD_cons_succ, or_false, false_or, or_self, or_true, true_or, decide_true]) (by decide) rfl rfl rfl); rotate_left; (focus rfl))
    rfl
end Go.Proofs.YtbdacbcpniegiaaDoor
namespace Go.Proofs.YtbdacbcpniegiaaDoor
open Go Go.RowKit Go.Proofs Go.Sx
set_option maxHeartbeats 4000000
set_option maxRecDepth 100000
set_option linter.unusedSimpArgs false
set_option linter.unusedVariables false
theorem mks_one (ms : List Mk) : ∀ u ∈ mks ms, u.oneCell' = true := by
  intro u hu
  simp only [mks, List.mem_flatMap] at hu
  obtain ⟨m, _, hu⟩ := hu
  simp only [Mk.cells, List.mem_cons, List.not_mem_nil, or_false] at hu
  rcases hu with rfl | rfl | rfl | rfl | rfl <;> rfl
theorem clone_ctr (ms : List Mk) (hms : ms.length ≤ 1000000) : Ctr Tryd.prog [] 90 [mrow ms] [.one (.c (.row 0))]
    (fun os v => os = [mrow ms, mrow ms] ∧ v = .one (.c (.row 1))) := by
  refine Ctr.nilRow 62 5 (Ctr.less ?_)
  intro X0 hP0 hG0 N0 hN0
  refine CallVC.inline (f := 90) (by rw [hP0]; exact Tryd.func90) rfl Tryd.ntmps90 rfl (by simp) ?_
  intro X K hU hnt hbl hK
  have hP : X.P = Tryd.prog := by rw [hU.P, hP0]
  have hG := hG0.under hU
  have hT : X.P.underlying 59 = some (TypeDesc.slice 62) ∧ elemSz X.P 59 = some (62, 5) ∧ zeroCells X.P 62 = some [(Value.int IntKind.i64 0), (Value.string { data := #[] }), (Value.int IntKind.u64 0), (Value.int IntKind.i64 0), (Value.string { data := #[] })] ∧ elemInf X.P 59 = some (62, 5, 56, (Value.agg #[(Value.int IntKind.i64 0), (Value.string { data := #[] }), (Value.int IntKind.u64 0), (Value.int IntKind.i64 0), (Value.string { data := #[] })])) ∧ isStrT X.P 59 = false := by rw [hP]; exact ⟨Tryd.underlying59, Ty.el59, Ty.ze62, Ty.ei59, Ty.is59⟩
  simp only [GA, ↓GB, List.filterMap_cons, eq_self, BEq.rfl, simprocAttr] at hbl ⊢
  repeat' (first
    | (refine SX.seqK ?_; intro N hN)
    | ((first | (refine SX.ops ?_)); simp only [GA, ↓GB, List.filterMap_cons, eq_self, BEq.rfl, simprocAttr, hnt, hT])
    | ((first | refine SX.skip ?_ | refine SX.exit ?_ | refine SX.label ?_); try simp only [GA, ↓GB, List.filterMap_cons, eq_self, BEq.rfl, simprocAttr])
    | (refine SX.cond rfl (fun hb => ?_) (fun hb => ?_) <;> ((first | cases hb | (simp only [decide_eq_true_eq, decide_eq_false_iff_not, beq_iff_eq, beq_eq_false_iff_ne, bne_iff_ne, Bool.and_eq_true, Bool.or_eq_true, Bool.not_eq_true', Bool.not_eq_false', Bool.and_eq_false_iff, Bool.or_eq_false_iff, Int.not_lt, Int.not_le] at hb) | skip) <;> (first | (exfalso; omega) | skip)))
    | (refine SX.ret ?_; try simp only [GA, ↓GB, List.filterMap_cons, eq_self, BEq.rfl, simprocAttr])
    | (refine hN _ ?_; clear hN N)
    | ((first | refine hK _ _ (FinI.ret3 ?_) | refine hK _ _ (FinI.nrm3 ?_)); simp only [GA, ↓GB, List.filterMap_cons, eq_self, BEq.rfl, simprocAttr, finP_s, hnt, hT]; refine Done.out ?_)
    | (clear hN N; first | (refine hN _ ?_; clear hN N) | (clear hN N; first | (refine hN _ ?_; clear hN N) | (clear hN N; first | (refine hN _ ?_; clear hN N) | (clear hN N; first | (refine hN _ ?_; clear hN N) | (clear hN N; first | (refine hN _ ?_; clear hN N) | (refine hN _ ?_; clear hN N))))))
    | (refine bif2.mk (fun hb => ?_) (fun hb => ?_) <;> (try simp only [hb, GA, ↓GB, List.filterMap_cons, eq_self, BEq.rfl, simprocAttr, hnt, hT]) <;> ((first | cases hb | (simp only [decide_eq_true_eq, decide_eq_false_iff_not, beq_iff_eq, beq_eq_false_iff_ne, bne_iff_ne, Bool.and_eq_true, Bool.or_eq_true, Bool.not_eq_true', Bool.not_eq_false', Bool.and_eq_false_iff, Bool.or_eq_false_iff, Int.not_lt, Int.not_le] at hb) | skip) <;> (first | (exfalso; omega) | skip)))
    | (refine VO.rowNil (e' := 62) rfl rfl rfl (by rw [hP]; kernel_rfl) (fun b hb0 => ?_) <;> simp only [GA, ↓GB, List.filterMap_cons, eq_self, BEq.rfl, simprocAttr, hnt, hT])
    | (refine VO.closeRow (t := 5) (j := 1) (us := []) (sz := 5) (e := 62) (n := 0) (cap := 0) rfl rfl rfl (Nat.le_refl _) (Nat.zero_le _) ?_ <;> refine VO.appendRow (i := 2) (j := 0) (e := 62) (e' := 62) (sz := 5) rfl rfl (by rw [hP]; exact Ty.ei59) rfl rfl (mks_one ms) (by simp only [maxLen]; omega) (by omega) ?_ <;> simp only [GA, ↓GB, List.filterMap_cons, eq_self, BEq.rfl, simprocAttr, hnt, hT, Nat.zero_add])
    | (refine SX.block ?_)
    | (refine and_mk ?_ ?_; (focus first | decide | omega | rfl | assumption | (simp only [List.length_append, List.length_cons, List.length_nil, B_size]; omega) | (simp; done)))
    | (refine And.intro ?_ ?_))
  all_goals (try refine Done.mk ?_)
  · have h0 := hb0 rfl
    obtain rfl : ms = [] := List.length_eq_zero_iff.1 h0
    refine hN0 _ _ ⟨[0], [mrow []], vv (.slice none 0 0), ?_, rfl, rfl, .inr ⟨rfl, rfl, rfl⟩⟩
    exact LeR.of rfl trivial ⟨.inr rfl, trivial⟩ (by decide) rfl rfl rfl
  · refine hN0 _ _ ⟨[0, 3], [mrow ms, mrow ms], .one (.c (.row 1)), ?_, rfl, rfl, .inl ⟨rfl, rfl⟩⟩
    exact LeR.of rfl trivial ⟨.inr rfl, .inr rfl, trivial⟩ (by decide) rfl rfl rfl
end Go.Proofs.YtbdacbcpniegiaaDoor
namespace Go.Proofs.YtbdacbcpniegiaaDoor
open Go Go.RowKit Go.Proofs Go.Sx
set_option maxHeartbeats 4000000
set_option maxRecDepth 100000
set_option linter.unusedSimpArgs false
set_option linter.unusedVariables false
theorem idxI_spec (p : Mk → Bool) (ms : List Mk) : (idxI p ms = -1 ∧ ∀ j, j < ms.length → p (ms.getD j default) = false) ∨ ∃ k, k < ms.length ∧ idxI p ms = (k : Int) ∧ p (ms.getD k default) = true ∧ ∀ j, j < k → p (ms.getD j default) = false := by
  unfold idxI
  cases h : ms.findIdx? p with
  | none =>
    refine .inl ⟨rfl, fun j hj => ?_⟩
    rw [List.findIdx?_eq_none_iff] at h
    rw [List.getD_eq_getElem?_getD, List.getElem?_eq_getElem hj]
    exact h _ (List.getElem_mem hj)
  | some k =>
    rw [List.findIdx?_eq_some_iff_getElem] at h
    obtain ⟨hk, hp, hn⟩ := h
    refine .inr ⟨k, hk, rfl, by simpa [List.getD_eq_getElem?_getD, List.getElem?_eq_getElem hk] using hp, fun j hj => ?_⟩
    have := hn j hj
    simpa [List.getD_eq_getElem?_getD, List.getElem?_eq_getElem (show j < ms.length by omega)] using this
theorem filter_none (p : Mk → Bool) (ms : List Mk) (h : ∀ j, j < ms.length → p (ms.getD j default) = false) : (ms.filter fun m => !p m) = ms := by
  rw [List.filter_eq_self]
  intro x hx
  obtain ⟨j, hj, rfl⟩ := List.mem_iff_getElem.1 hx
  have := h j hj
  rw [List.getD_eq_getElem?_getD, List.getElem?_eq_getElem hj] at this
  simpa using this
theorem take_filter (p : Mk → Bool) (ms : List Mk) (k : Nat) (hk : k < ms.length) (hp : p (ms.getD k default) = true) (hn : ∀ j, j < k → p (ms.getD j default) = false) : ms.take k = ((ms.take (k + 1)).filter fun m => !p m) := by
  rw [List.take_succ_eq_append_getElem hk, List.filter_append]
  rw [List.getD_eq_getElem?_getD, List.getElem?_eq_getElem hk] at hp
  have h1 : ([ms[k]].filter fun m => !p m) = [] := by simp at hp; simp [hp]
  rw [h1, List.append_nil]
  refine (filter_none p _ fun j hj => ?_).symm
  have := hn j (by simp at hj; omega)
  simp only [List.getD_eq_getElem?_getD] at this ⊢
  rw [List.getElem?_take_of_lt (by simp at hj; omega)]
  exact this
theorem getD_drop (l ms : List Mk) (j : Nat) (h : l.drop j = ms.drop j) (hj : j < ms.length) : l.getD j default = ms.getD j default := by
  have := congrArg (fun x : List Mk => x[0]?) h
  simp only [List.getElem?_drop, Nat.add_zero] at this
  rw [List.getD_eq_getElem?_getD, List.getD_eq_getElem?_getD, this]
theorem mks_set : ∀ (l : List Mk) (i : Nat) (m : Mk), i < l.length → (mks l).take (i * 5) ++ m.cells ++ (mks l).drop (i * 5 + 5) = mks (l.set i m)
  | [], i, m, h => by simp at h
  | x :: l, 0, m, h => by
    simp only [Nat.zero_mul, List.take_zero, List.nil_append, List.set_cons_zero, mks_cons, Nat.zero_add]
    rw [List.drop_append, List.drop_of_length_le (by simp [Mk.cells])]
    simp [Mk.cells]
  | x :: l, i + 1, m, h => by
    have := mks_set l i m (by simpa using h)
    rw [List.set_cons_succ, mks_cons, mks_cons, ← this, show (i + 1) * 5 = x.cells.length + i * 5 by simp [Mk.cells]; omega, List.take_append, List.take_of_length_le (by omega), Nat.add_assoc, List.drop_append, List.drop_of_length_le (by omega)]
    simp
theorem lp_keep (p : Mk → Bool) (ms l : List Mk) (i j : Nat) (hl : l.length = ms.length) (hij : i < j) (hj : j < ms.length) (hft : l.take i = ((ms.take j).filter fun m => !p m)) (hp : p (ms.getD j default) = false) :
    (l.set i (ms.getD j default)).take (i + 1) = ((ms.take (j + 1)).filter fun m => !p m) := by
  have e : ms.getD j default = ms[j] := by rw [List.getD_eq_getElem?_getD, List.getElem?_eq_getElem hj]; rfl
  generalize ms.getD j default = v at *
  rw [List.take_succ_eq_append_getElem (by simp; omega), List.take_succ_eq_append_getElem hj, List.filter_append, ← hft, List.take_set_of_le (Nat.le_refl _), ← e]
  simp [hp]
theorem lp_skip (p : Mk → Bool) (ms l : List Mk) (i j : Nat) (hj : j < ms.length) (hft : l.take i = ((ms.take j).filter fun m => !p m)) (hp : p (ms.getD j default) = true) :
    l.take i = ((ms.take (j + 1)).filter fun m => !p m) := by
  have e : ms.getD j default = ms[j] := by rw [List.getD_eq_getElem?_getD, List.getElem?_eq_getElem hj]; rfl
  rw [List.take_succ_eq_append_getElem hj, List.filter_append, ← hft]
  rw [e] at hp
  simp [hp]
theorem lp_drop (ms l : List Mk) (i j : Nat) (v : Mk) (hij : i < j) (hdr : l.drop j = ms.drop j) : (l.set i v).drop (j + 1) = ms.drop (j + 1) := by
  rw [List.drop_set_of_lt (by omega), ← List.drop_drop (i := 1) (j := j), ← List.drop_drop (i := 1) (j := j), hdr]
theorem lp_drop' (ms l : List Mk) (j : Nat) (hdr : l.drop j = ms.drop j) : l.drop (j + 1) = ms.drop (j + 1) := by
  rw [← List.drop_drop (i := 1) (j := j), ← List.drop_drop (i := 1) (j := j), hdr]
theorem lp_end (p : Mk → Bool) (ms l : List Mk) (i j : Nat) (ys vs ds : List Value) (hl : l.length = ms.length) (hij : i < j) (hj : j = ms.length) (hft : l.take i = ((ms.take j).filter fun m => !p m)) :
    LO.row 62 5 i (List.take (i * 5) (List.take (0 + i * 5) (mks l ++ ys) ++ vs ++ ds)) = mrow (ms.filter fun m => !p m) := by
  subst hj
  rw [List.take_length] at hft
  have hi : (ms.filter fun m => !p m).length = i := by rw [← hft]; simp; omega
  have hle : i * 5 ≤ (mks l).length := by rw [mks_length]; omega
  simp only [Nat.zero_add, mrow, hi]
  congr 1
  rw [List.append_assoc, List.take_append_of_le_length (by simp; omega), List.take_take, Nat.min_self, List.take_append_of_le_length hle, mks_take, hft]
theorem deleteFuncE (ms : List Mk) (hms : ms.length ≤ 1000000)  : Ctr Tryd.prog [] 87 [mrow ms] [.one (.c (.row 0)), .one (.c (.clo 93 [] []))]
    (fun os v => os = [.gone, mrow (ms.filter fun m => !isPend m)] ∧ v = .one (.c (.row 1))) := by
  refine Ctr.less ?_
  have hrun : ∀ (m : Mk) (w : World), Calls Tryd.prog 93 #[.agg #[.int .i64 m.t, .string (B m.s), .int .u64 m.q, .int .i64 m.st, .string (B m.d)]] w fun x w' => x = .returned (.bool (isPend m)) ∧ Below w.heap.size w w' := fun m => erase1_any _ _ _ _ _
  rcases idxI_spec isPend ms with ⟨he, hall⟩ | ⟨k0, hk0, he, hp0, hn0⟩
  · have hfil : (ms.filter fun m => !isPend m) = ms := filter_none _ ms hall
    rw [hfil]
    intro X0 hP0 hG0 N0 hN0
    refine CallVC.inline (f := 87) (by rw [hP0]; exact Tryd.func87) rfl Tryd.ntmps87 rfl (by simp) ?_
    intro X K hU hnt hbl hK
    have hP : X.P = Tryd.prog := by rw [hU.P, hP0]
    have hG := hG0.under hU
    have hT : calleeOk X.P 130 = true ∧ X.P.underlying 59 = some (TypeDesc.slice 62) ∧ elemSz X.P 59 = some (62, 5) ∧ aggOf X.P 62 = some true ∧ szOf X.P 62 = some 5 ∧ zeroCells X.P 62 = some [(Value.int IntKind.i64 0), (Value.string { data := #[] }), (Value.int IntKind.u64 0), (Value.int IntKind.i64 0), (Value.string { data := #[] })] ∧ isStrT X.P 59 = false ∧ elemInf X.P 59 = some (62, 5, 56, (Value.agg #[(Value.int IntKind.i64 0), (Value.string { data := #[] }), (Value.int IntKind.u64 0), (Value.int IntKind.i64 0), (Value.string { data := #[] })])) := by rw [hP]; exact ⟨Ty.co130, Tryd.underlying59, Ty.el59, Ty.ag62, Ty.sz62, Ty.ze62, Ty.is59, Ty.ei59⟩
    simp only [GA, ↓GB, List.filterMap_cons, eq_self, BEq.rfl, simprocAttr] at hbl ⊢
    have hc : calleeOk X.P 93 = true := by rw [hP]; kernel_rfl
    refine SX.moveRow (t := 0) (i := 0) rfl rfl ?_
    simp only [GA, ↓GB, List.filterMap_cons, eq_self, BEq.rfl, simprocAttr]
    repeat' (first
      | (refine SX.seqK ?_; intro N hN)
      | ((first | (refine SX.ops ?_)); simp only [GA, ↓GB, List.filterMap_cons, eq_self, BEq.rfl, simprocAttr, hnt, hT, hc, he])
      | ((first | refine SX.skip ?_ | refine SX.exit ?_ | refine SX.label ?_); try simp only [GA, ↓GB, List.filterMap_cons, eq_self, BEq.rfl, simprocAttr])
      | (refine SX.cond rfl (fun hb => ?_) (fun hb => ?_) <;> ((first | cases hb | (simp only [decide_eq_true_eq, decide_eq_false_iff_not, beq_iff_eq, beq_eq_false_iff_ne, bne_iff_ne, Bool.and_eq_true, Bool.or_eq_true, Bool.not_eq_true', Bool.not_eq_false', Bool.and_eq_false_iff, Bool.or_eq_false_iff, Int.not_lt, Int.not_le] at hb) | skip) <;> (first | (exfalso; omega) | skip)))
      | (refine SX.ret ?_; try simp only [GA, ↓GB, List.filterMap_cons, eq_self, BEq.rfl, simprocAttr])
      | (refine hN _ ?_; clear hN N)
      | ((first | refine hK _ _ (FinI.ret3 ?_) | refine hK _ _ (FinI.nrm3 ?_)); simp only [GA, ↓GB, List.filterMap_cons, eq_self, BEq.rfl, simprocAttr, finP_s, hnt, hT, hc, he]; refine Done.out ?_)
      | (clear hN N; first | (refine hN _ ?_; clear hN N) | (clear hN N; first | (refine hN _ ?_; clear hN N) | (clear hN N; first | (refine hN _ ?_; clear hN N) | (clear hN N; first | (refine hN _ ?_; clear hN N) | (clear hN N; first | (refine hN _ ?_; clear hN N) | (refine hN _ ?_; clear hN N))))))
      | (refine bif2.mk (fun hb => ?_) (fun hb => ?_) <;> (try simp only [hb, GA, ↓GB, List.filterMap_cons, eq_self, BEq.rfl, simprocAttr, hnt, hT, hc, he]) <;> ((first | cases hb | (simp only [decide_eq_true_eq, decide_eq_false_iff_not, beq_iff_eq, beq_eq_false_iff_ne, bne_iff_ne, Bool.and_eq_true, Bool.or_eq_true, Bool.not_eq_true', Bool.not_eq_false', Bool.and_eq_false_iff, Bool.or_eq_false_iff, Int.not_lt, Int.not_le] at hb) | skip) <;> (first | (exfalso; omega) | skip)))
      | ((first | (refine CallVC.pv hP (hrun (ms.getD j default)) rfl ?_) | (refine CallQ.pv hP (hrun (ms.getD j default)) rfl ?_) | (refine Ctr.use (indexFuncE ms hms) hP ?_ [1] ?_ rfl rfl ?_; (focus (intro p hp; cases hp)); (focus (refine LeR.of rfl trivial ?_ ?_ ?_ ?_ ?_ <;> first | decide | (simp only [GA, ↓GB, List.filterMap_cons, eq_self, BEq.rfl, simprocAttr, List.getD_cons_zero, List.getD_cons_succ, or_false, false_or, or_self, or_true, true_or, decide_true]; done))); intro os' s hR; obtain ⟨rfl, rfl⟩ := hR)); simp only [GA, ↓GB, List.filterMap_cons, eq_self, BEq.rfl, simprocAttr, hnt, hT, hc, he])
      | (refine SX.block ?_)
      | (refine and_mk ?_ ?_; (focus first | decide | omega | rfl | assumption | (simp only [List.length_append, List.length_cons, List.length_nil, B_size]; omega) | (simp; done)))
      | (refine And.intro ?_ ?_))
    all_goals (try refine Done.mk ?_)
    all_goals ((refine hN0 _ _ ⟨[0, 1], _, _, ?_, ?_, ?_, ⟨rfl, rfl⟩⟩; (focus exact LeR.of rfl trivial (by simp only [GA, ↓GB, List.filterMap_cons, eq_self, BEq.rfl, simprocAttr, List.getD_cons_zero, List.getD_cons_succ, or_false, false_or, or_self, or_true, true_or, decide_true]) (by decide) rfl rfl rfl); rotate_left; (focus rfl)))
    all_goals rfl
  · intro X0 hP0 hG0 N0 hN0
    refine CallVC.inline (f := 87) (by rw [hP0]; exact Tryd.func87) rfl Tryd.ntmps87 rfl (by simp) ?_
    intro X K hU hnt hbl hK
    have hP : X.P = Tryd.prog := by rw [hU.P, hP0]
    have hG := hG0.under hU
    have hT : calleeOk X.P 130 = true ∧ X.P.underlying 59 = some (TypeDesc.slice 62) ∧ elemSz X.P 59 = some (62, 5) ∧ aggOf X.P 62 = some true ∧ szOf X.P 62 = some 5 ∧ zeroCells X.P 62 = some [(Value.int IntKind.i64 0), (Value.string { data := #[] }), (Value.int IntKind.u64 0), (Value.int IntKind.i64 0), (Value.string { data := #[] })] ∧ isStrT X.P 59 = false ∧ elemInf X.P 59 = some (62, 5, 56, (Value.agg #[(Value.int IntKind.i64 0), (Value.string { data := #[] }), (Value.int IntKind.u64 0), (Value.int IntKind.i64 0), (Value.string { data := #[] })])) := by rw [hP]; exact ⟨Ty.co130, Tryd.underlying59, Ty.el59, Ty.ag62, Ty.sz62, Ty.ze62, Ty.is59, Ty.ei59⟩
    simp only [GA, ↓GB, List.filterMap_cons, eq_self, BEq.rfl, simprocAttr] at hbl ⊢
    have hc : calleeOk X.P 93 = true := by rw [hP]; kernel_rfl
    refine SX.moveRow (t := 0) (i := 0) rfl rfl ?_
    simp only [GA, ↓GB, List.filterMap_cons, eq_self, BEq.rfl, simprocAttr]
    repeat' (first
      | (refine SX.openRow (code := .seq (.region 11 _ _) _) (t := 0) (i := 1) rfl rfl (by omega) (fun cap ys hcap1 hcap2 hys => ?_) <;> simp only [GA, ↓GB, List.filterMap_cons, eq_self, BEq.rfl, simprocAttr])
      | (refine SX.closeRow (code := .ret) (t := 4) (j := 2) (sz := 5) (cap := cap) (n := i) rfl rfl (by simp only [List.length_append, List.length_take, List.length_drop, mks_length, hvs, hys]; omega) (by omega) hcap2 ?_ <;> simp only [GA, ↓GB, List.filterMap_cons, eq_self, BEq.rfl, simprocAttr])
      | (refine SX.seqK ?_; intro N hN)
      | ((first | (refine SX.ops ?_)); simp only [GA, ↓GB, List.filterMap_cons, eq_self, BEq.rfl, simprocAttr, hnt, hT, hc, he])
      | ((first | refine SX.skip ?_ | refine SX.exit ?_ | refine SX.label ?_); try simp only [GA, ↓GB, List.filterMap_cons, eq_self, BEq.rfl, simprocAttr])
      | (refine SX.cond rfl (fun hb => ?_) (fun hb => ?_) <;> ((first | cases hb | (simp only [decide_eq_true_eq, decide_eq_false_iff_not, beq_iff_eq, beq_eq_false_iff_ne, bne_iff_ne, Bool.and_eq_true, Bool.or_eq_true, Bool.not_eq_true', Bool.not_eq_false', Bool.and_eq_false_iff, Bool.or_eq_false_iff, Int.not_lt, Int.not_le] at hb) | skip) <;> (first | (exfalso; omega) | skip)))
      | (refine SX.ret ?_; try simp only [GA, ↓GB, List.filterMap_cons, eq_self, BEq.rfl, simprocAttr])
      | (refine hN _ ?_; clear hN N)
      | ((first | refine hK _ _ (FinI.ret3 ?_) | refine hK _ _ (FinI.nrm3 ?_)); simp only [GA, ↓GB, List.filterMap_cons, eq_self, BEq.rfl, simprocAttr, finP_s, hnt, hT, hc, he]; refine Done.out ?_)
      | (clear hN N; first | (refine hN _ ?_; clear hN N) | (clear hN N; first | (refine hN _ ?_; clear hN N) | (clear hN N; first | (refine hN _ ?_; clear hN N) | (clear hN N; first | (refine hN _ ?_; clear hN N) | (clear hN N; first | (refine hN _ ?_; clear hN N) | (refine hN _ ?_; clear hN N))))))
      | (refine bif2.mk (fun hb => ?_) (fun hb => ?_) <;> (try simp only [hb, GA, ↓GB, List.filterMap_cons, eq_self, BEq.rfl, simprocAttr, hnt, hT, hc, he]) <;> ((first | cases hb | (simp only [decide_eq_true_eq, decide_eq_false_iff_not, beq_iff_eq, beq_eq_false_iff_ne, bne_iff_ne, Bool.and_eq_true, Bool.or_eq_true, Bool.not_eq_true', Bool.not_eq_false', Bool.and_eq_false_iff, Bool.or_eq_false_iff, Int.not_lt, Int.not_le] at hb) | skip) <;> (first | (exfalso; omega) | skip)))
      | ((first | (refine CallVC.pv hP (hrun (ms.getD j default)) rfl ?_) | (refine CallQ.pv hP (hrun (ms.getD j default)) rfl ?_) | (refine Ctr.use (indexFuncE ms hms) hP ?_ [1] ?_ rfl rfl ?_; (focus (intro p hp; cases hp)); (focus (refine LeR.of rfl trivial ?_ ?_ ?_ ?_ ?_ <;> first | decide | (simp only [GA, ↓GB, List.filterMap_cons, eq_self, BEq.rfl, simprocAttr, List.getD_cons_zero, List.getD_cons_succ, or_false, false_or, or_self, or_true, true_or, decide_true]; done))); intro os' s hR; obtain ⟨rfl, rfl⟩ := hR)); simp only [GA, ↓GB, List.filterMap_cons, eq_self, BEq.rfl, simprocAttr, hnt, hT, hc, he])
      | (refine SX.loop (ι := { p : Nat × Nat × List Mk // p.1 < p.2.1 ∧ p.2.1 ≤ ms.length ∧ p.2.2.length = ms.length ∧ p.2.2.take p.1 = ((ms.take p.2.1).filter fun m => !isPend m) ∧ p.2.2.drop p.2.1 = ms.drop p.2.1 }) (fun i => ⟨[(0, .one (.c (.row 1))), (1, .one (.c (.clo 93 [] []))), (5, vv (.int .i64 i.1.1)), (6, vv (.int .i64 i.1.2.1))], [.gone, .row 62 5 ms.length (mks i.1.2.2)]⟩) (fun i => ms.length - i.1.2.1) ⟨(k0, k0 + 1, ms), by simp, by simp; omega, rfl, take_filter _ ms k0 hk0 hp0 hn0, rfl⟩ ⟨[0, 1], (LeR.of (by rw [hbl]; decide) (by simp only [GA, ↓GB, List.filterMap_cons, eq_self, BEq.rfl, simprocAttr, List.getD_cons_zero, List.getD_cons_succ, or_false, false_or, or_self, or_true, true_or, decide_true]; try (rw [wI64 (by omega) (by omega)]; rfl)) (by simp only [GA, ↓GB, List.filterMap_cons, eq_self, BEq.rfl, simprocAttr, List.getD_cons_zero, List.getD_cons_succ, or_false, false_or, or_self, or_true, true_or, decide_true]; try (rw [wI64 (by omega) (by omega)]; rfl)) (by decide) (by simp only [GA, ↓GB, List.filterMap_cons, eq_self, BEq.rfl, simprocAttr, List.getD_cons_zero, List.getD_cons_succ, or_false, false_or, or_self, or_true, true_or, decide_true]) (by simp only [GA, ↓GB, List.filterMap_cons, eq_self, BEq.rfl, simprocAttr, List.getD_cons_zero, List.getD_cons_succ, or_false, false_or, or_self, or_true, true_or, decide_true]) (by simp only [GA, ↓GB, List.filterMap_cons, eq_self, BEq.rfl, simprocAttr, List.getD_cons_zero, List.getD_cons_succ, or_false, false_or, or_self, or_true, true_or, decide_true]))⟩ ?_ <;> rintro ⟨⟨i, j, l⟩, hij, hjn, hl, hft, hdr⟩ <;> simp only [] at hij hjn hl hft hdr ⊢)
      | (refine ⟨(ms.getD j default).cells, rfl, (by rw [← getD_drop l ms j hdr (by omega)]; exact mks_at l j (by omega)), ?_⟩ <;> simp only [Mk.cells, GA, ↓GB, List.filterMap_cons, eq_self, BEq.rfl, simprocAttr, hnt, hT])
      | (refine ⟨by rw [mks_length]; omega, ?_⟩)
      | ((rw [if_neg (show ¬ cap = i by omega)] <;> show VO X _ _ _ <;> refine VO.clearSl (j := 2) (e1 := 62) (us := mks l ++ ys) rfl (by rw [hP]; exact Ty.ei59) rfl (by rw [List.length_append, mks_length, hys]; omega) (fun q hq => by have hq : q < 5 := hq; rcases q with _ | _ | _ | _ | _ | q <;> first | rfl | omega) (by omega) rfl (fun vs hvs => ?_) <;> simp only [GA, ↓GB, List.filterMap_cons, eq_self, BEq.rfl, simprocAttr, hnt, hT]))
      | (refine SX.block ?_)
      | (refine and_mk ?_ ?_; (focus first | decide | omega | rfl | assumption | (simp only [List.length_append, List.length_cons, List.length_nil, B_size]; omega) | (simp; done)))
      | (refine And.intro ?_ ?_))
    all_goals (try refine Done.mk ?_)
    · refine ⟨⟨(i + 1, j + 1, l.set i (ms.getD j default)), by show i + 1 < j + 1; omega, by show j + 1 ≤ ms.length; omega, by show (l.set i (ms.getD j default)).length = ms.length; rw [List.length_set]; exact hl, lp_keep _ ms l i j hl hij (by omega) hft (by assumption), lp_drop ms l i j _ hij hdr⟩, [0, 1], (LeR.of (by rw [hbl]; decide) (by simp only [GA, ↓GB, List.filterMap_cons, eq_self, BEq.rfl, simprocAttr, List.getD_cons_zero, List.getD_cons_succ, or_false, false_or, or_self, or_true, true_or, decide_true]; try (first | (refine ⟨?_, ?_⟩ <;> (rw [wI64 (by omega) (by omega)]; rfl)) | exact congrArg _ (mks_set l i (ms.getD j default) (by omega)))) (by simp only [GA, ↓GB, List.filterMap_cons, eq_self, BEq.rfl, simprocAttr, List.getD_cons_zero, List.getD_cons_succ, or_false, false_or, or_self, or_true, true_or, decide_true]; try (first | (refine ⟨?_, ?_⟩ <;> (rw [wI64 (by omega) (by omega)]; rfl)) | exact congrArg _ (mks_set l i (ms.getD j default) (by omega)))) (by decide) (by simp only [GA, ↓GB, List.filterMap_cons, eq_self, BEq.rfl, simprocAttr, List.getD_cons_zero, List.getD_cons_succ, or_false, false_or, or_self, or_true, true_or, decide_true]) (by simp only [GA, ↓GB, List.filterMap_cons, eq_self, BEq.rfl, simprocAttr, List.getD_cons_zero, List.getD_cons_succ, or_false, false_or, or_self, or_true, true_or, decide_true]) (by simp only [GA, ↓GB, List.filterMap_cons, eq_self, BEq.rfl, simprocAttr, List.getD_cons_zero, List.getD_cons_succ, or_false, false_or, or_self, or_true, true_or, decide_true])), by show ms.length - (j + 1) < ms.length - j; omega⟩
    · refine ⟨⟨(i, j + 1, l), by show i < j + 1; omega, by show j + 1 ≤ ms.length; omega, hl, lp_skip _ ms l i j (by omega) hft (by assumption), lp_drop' ms l j hdr⟩, [0, 1], (LeR.of (by rw [hbl]; decide) (by simp only [GA, ↓GB, List.filterMap_cons, eq_self, BEq.rfl, simprocAttr, List.getD_cons_zero, List.getD_cons_succ, or_false, false_or, or_self, or_true, true_or, decide_true]; try ((rw [wI64 (by omega) (by omega)]; rfl))) (by simp only [GA, ↓GB, List.filterMap_cons, eq_self, BEq.rfl, simprocAttr, List.getD_cons_zero, List.getD_cons_succ, or_false, false_or, or_self, or_true, true_or, decide_true]; try ((rw [wI64 (by omega) (by omega)]; rfl))) (by decide) (by simp only [GA, ↓GB, List.filterMap_cons, eq_self, BEq.rfl, simprocAttr, List.getD_cons_zero, List.getD_cons_succ, or_false, false_or, or_self, or_true, true_or, decide_true]) (by simp only [GA, ↓GB, List.filterMap_cons, eq_self, BEq.rfl, simprocAttr, List.getD_cons_zero, List.getD_cons_succ, or_false, false_or, or_self, or_true, true_or, decide_true]) (by simp only [GA, ↓GB, List.filterMap_cons, eq_self, BEq.rfl, simprocAttr, List.getD_cons_zero, List.getD_cons_succ, or_false, false_or, or_self, or_true, true_or, decide_true])), by show ms.length - (j + 1) < ms.length - j; omega⟩
    · rw [lp_end isPend ms l i j ys vs _ hl hij (by omega) hft]
      (refine hN0 _ _ ⟨[0, 3], _, _, ?_, ?_, ?_, ⟨rfl, rfl⟩⟩; (focus exact LeR.of rfl trivial (by simp only [GA, ↓GB, List.filterMap_cons, eq_self, BEq.rfl, simprocAttr, List.getD_cons_zero, List.getD_cons_succ, or_false, false_or, or_self, or_true, true_or, decide_true]) (by decide) rfl rfl rfl); rotate_left; (focus rfl))
      rfl
theorem deleteFunc3 (ms : List Mk) (hms : ms.length ≤ 1000000) (b r su : Int) (t e : List UInt8) : Ctr Tryd.prog [] 87 [mrow ms, .cells [.v (.int .i64 b), .v (.string (B t)), .v (.int .u64 r), .v (.int .i64 su), .v (.string (B e))] 62] [.one (.c (.row 0)), .one (.c (.clo 88 [] [.loc 1 0]))]
    (fun os v => os = [.gone, .cells [.v (.int .i64 b), .v (.string (B t)), .v (.int .u64 r), .v (.int .i64 su), .v (.string (B e))] 62, mrow (ms.filter fun m => !(isMk b t r su e) m)] ∧ v = .one (.c (.row 2))) := by
  refine Ctr.less ?_
  have hrun : ∀ m : Mk, Ctr Tryd.prog [] 88 [.cells [.v (.int .i64 b), .v (.string (B t)), .v (.int .u64 r), .v (.int .i64 su), .v (.string (B e))] 62] [.one (.agg [.v (.int .i64 m.t), .v (.string (B m.s)), .v (.int .u64 m.q), .v (.int .i64 m.st), .v (.string (B m.d))]), .one (.c (.loc 0 0))]
    (fun os v => os = [.cells [.v (.int .i64 b), .v (.string (B t)), .v (.int .u64 r), .v (.int .i64 su), .v (.string (B e))] 62] ∧ v = vv (.bool ((isMk b t r su e) m))) := fun m => begin3_ctr _ _ _ _ _ _ _ _ _ _
  rcases idxI_spec (isMk b t r su e) ms with ⟨he, hall⟩ | ⟨k0, hk0, he, hp0, hn0⟩
  · have hfil : (ms.filter fun m => !(isMk b t r su e) m) = ms := filter_none _ ms hall
    rw [hfil]
    intro X0 hP0 hG0 N0 hN0
    refine CallVC.inline (f := 87) (by rw [hP0]; exact Tryd.func87) rfl Tryd.ntmps87 rfl (by simp) ?_
    intro X K hU hnt hbl hK
    have hP : X.P = Tryd.prog := by rw [hU.P, hP0]
    have hG := hG0.under hU
    have hT : calleeOk X.P 130 = true ∧ X.P.underlying 59 = some (TypeDesc.slice 62) ∧ elemSz X.P 59 = some (62, 5) ∧ aggOf X.P 62 = some true ∧ szOf X.P 62 = some 5 ∧ zeroCells X.P 62 = some [(Value.int IntKind.i64 0), (Value.string { data := #[] }), (Value.int IntKind.u64 0), (Value.int IntKind.i64 0), (Value.string { data := #[] })] ∧ isStrT X.P 59 = false ∧ elemInf X.P 59 = some (62, 5, 56, (Value.agg #[(Value.int IntKind.i64 0), (Value.string { data := #[] }), (Value.int IntKind.u64 0), (Value.int IntKind.i64 0), (Value.string { data := #[] })])) := by rw [hP]; exact ⟨Ty.co130, Tryd.underlying59, Ty.el59, Ty.ag62, Ty.sz62, Ty.ze62, Ty.is59, Ty.ei59⟩
    simp only [GA, ↓GB, List.filterMap_cons, eq_self, BEq.rfl, simprocAttr] at hbl ⊢
    have hc : calleeOk X.P 88 = true := by rw [hP]; kernel_rfl
    refine SX.moveRow (t := 0) (i := 0) rfl rfl ?_
    simp only [GA, ↓GB, List.filterMap_cons, eq_self, BEq.rfl, simprocAttr]
    repeat' (first
      | (refine SX.seqK ?_; intro N hN)
      | ((first | (refine SX.ops ?_)); simp only [GA, ↓GB, List.filterMap_cons, eq_self, BEq.rfl, simprocAttr, hnt, hT, hc, he])
      | ((first | refine SX.skip ?_ | refine SX.exit ?_ | refine SX.label ?_); try simp only [GA, ↓GB, List.filterMap_cons, eq_self, BEq.rfl, simprocAttr])
      | (refine SX.cond rfl (fun hb => ?_) (fun hb => ?_) <;> ((first | cases hb | (simp only [decide_eq_true_eq, decide_eq_false_iff_not, beq_iff_eq, beq_eq_false_iff_ne, bne_iff_ne, Bool.and_eq_true, Bool.or_eq_true, Bool.not_eq_true', Bool.not_eq_false', Bool.and_eq_false_iff, Bool.or_eq_false_iff, Int.not_lt, Int.not_le] at hb) | skip) <;> (first | (exfalso; omega) | skip)))
      | (refine SX.ret ?_; try simp only [GA, ↓GB, List.filterMap_cons, eq_self, BEq.rfl, simprocAttr])
      | (refine hN _ ?_; clear hN N)
      | ((first | refine hK _ _ (FinI.ret3 ?_) | refine hK _ _ (FinI.nrm3 ?_)); simp only [GA, ↓GB, List.filterMap_cons, eq_self, BEq.rfl, simprocAttr, finP_s, hnt, hT, hc, he]; refine Done.out ?_)
      | (clear hN N; first | (refine hN _ ?_; clear hN N) | (clear hN N; first | (refine hN _ ?_; clear hN N) | (clear hN N; first | (refine hN _ ?_; clear hN N) | (clear hN N; first | (refine hN _ ?_; clear hN N) | (clear hN N; first | (refine hN _ ?_; clear hN N) | (refine hN _ ?_; clear hN N))))))
      | (refine bif2.mk (fun hb => ?_) (fun hb => ?_) <;> (try simp only [hb, GA, ↓GB, List.filterMap_cons, eq_self, BEq.rfl, simprocAttr, hnt, hT, hc, he]) <;> ((first | cases hb | (simp only [decide_eq_true_eq, decide_eq_false_iff_not, beq_iff_eq, beq_eq_false_iff_ne, bne_iff_ne, Bool.and_eq_true, Bool.or_eq_true, Bool.not_eq_true', Bool.not_eq_false', Bool.and_eq_false_iff, Bool.or_eq_false_iff, Int.not_lt, Int.not_le] at hb) | skip) <;> (first | (exfalso; omega) | skip)))
      | ((first | (refine Ctr.use (hrun (ms.getD j default)) hP ?_ [1] ?_ rfl rfl ?_; (focus (intro p hp; cases hp)); (focus (refine LeR.of rfl trivial ?_ ?_ ?_ ?_ ?_ <;> first | decide | (simp only [GA, ↓GB, List.filterMap_cons, eq_self, BEq.rfl, simprocAttr, List.getD_cons_zero, List.getD_cons_succ, or_false, false_or, or_self, or_true, true_or, decide_true]; done))); intro os' s hR; obtain ⟨rfl, rfl⟩ := hR) | (refine Ctr.use (indexFunc3 ms hms b r su t e) hP ?_ [2,1] ?_ rfl rfl ?_; (focus (intro p hp; cases hp)); (focus (refine LeR.of rfl trivial ?_ ?_ ?_ ?_ ?_ <;> first | decide | (simp only [GA, ↓GB, List.filterMap_cons, eq_self, BEq.rfl, simprocAttr, List.getD_cons_zero, List.getD_cons_succ, or_false, false_or, or_self, or_true, true_or, decide_true]; done))); intro os' s hR; obtain ⟨rfl, rfl⟩ := hR)); simp only [GA, ↓GB, List.filterMap_cons, eq_self, BEq.rfl, simprocAttr, hnt, hT, hc, he])
      | (refine SX.block ?_)
      | (refine and_mk ?_ ?_; (focus first | decide | omega | rfl | assumption | (simp only [List.length_append, List.length_cons, List.length_nil, B_size]; omega) | (simp; done)))
      | (refine And.intro ?_ ?_))
    all_goals (try refine Done.mk ?_)
    all_goals ((refine hN0 _ _ ⟨[0, 1, 2], _, _, ?_, ?_, ?_, ⟨rfl, rfl⟩⟩; (focus exact LeR.of rfl trivial (by simp only [GA, ↓GB, List.filterMap_cons, eq_self, BEq.rfl, simprocAttr, List.getD_cons_zero, List.getD_cons_succ, or_false, false_or, or_self, or_true, true_or, decide_true]) (by decide) rfl rfl rfl); rotate_left; (focus rfl)))
    all_goals rfl
  · intro X0 hP0 hG0 N0 hN0
    refine CallVC.inline (f := 87) (by rw [hP0]; exact Tryd.func87) rfl Tryd.ntmps87 rfl (by simp) ?_
    intro X K hU hnt hbl hK
    have hP : X.P = Tryd.prog := by rw [hU.P, hP0]
    have hG := hG0.under hU
    have hT : calleeOk X.P 130 = true ∧ X.P.underlying 59 = some (TypeDesc.slice 62) ∧ elemSz X.P 59 = some (62, 5) ∧ aggOf X.P 62 = some true ∧ szOf X.P 62 = some 5 ∧ zeroCells X.P 62 = some [(Value.int IntKind.i64 0), (Value.string { data := #[] }), (Value.int IntKind.u64 0), (Value.int IntKind.i64 0), (Value.string { data := #[] })] ∧ isStrT X.P 59 = false ∧ elemInf X.P 59 = some (62, 5, 56, (Value.agg #[(Value.int IntKind.i64 0), (Value.string { data := #[] }), (Value.int IntKind.u64 0), (Value.int IntKind.i64 0), (Value.string { data := #[] })])) := by rw [hP]; exact ⟨Ty.co130, Tryd.underlying59, Ty.el59, Ty.ag62, Ty.sz62, Ty.ze62, Ty.is59, Ty.ei59⟩
    simp only [GA, ↓GB, List.filterMap_cons, eq_self, BEq.rfl, simprocAttr] at hbl ⊢
    have hc : calleeOk X.P 88 = true := by rw [hP]; kernel_rfl
    refine SX.moveRow (t := 0) (i := 0) rfl rfl ?_
    simp only [GA, ↓GB, List.filterMap_cons, eq_self, BEq.rfl, simprocAttr]
    repeat' (first
      | (refine SX.openRow (code := .seq (.region 11 _ _) _) (t := 0) (i := 2) rfl rfl (by omega) (fun cap ys hcap1 hcap2 hys => ?_) <;> simp only [GA, ↓GB, List.filterMap_cons, eq_self, BEq.rfl, simprocAttr])
      | (refine SX.closeRow (code := .ret) (t := 4) (j := 3) (sz := 5) (cap := cap) (n := i) rfl rfl (by simp only [List.length_append, List.length_take, List.length_drop, mks_length, hvs, hys]; omega) (by omega) hcap2 ?_ <;> simp only [GA, ↓GB, List.filterMap_cons, eq_self, BEq.rfl, simprocAttr])
      | (refine SX.seqK ?_; intro N hN)
      | ((first | (refine SX.ops ?_)); simp only [GA, ↓GB, List.filterMap_cons, eq_self, BEq.rfl, simprocAttr, hnt, hT, hc, he])
      | ((first | refine SX.skip ?_ | refine SX.exit ?_ | refine SX.label ?_); try simp only [GA, ↓GB, List.filterMap_cons, eq_self, BEq.rfl, simprocAttr])
      | (refine SX.cond rfl (fun hb => ?_) (fun hb => ?_) <;> ((first | cases hb | (simp only [decide_eq_true_eq, decide_eq_false_iff_not, beq_iff_eq, beq_eq_false_iff_ne, bne_iff_ne, Bool.and_eq_true, Bool.or_eq_true, Bool.not_eq_true', Bool.not_eq_false', Bool.and_eq_false_iff, Bool.or_eq_false_iff, Int.not_lt, Int.not_le] at hb) | skip) <;> (first | (exfalso; omega) | skip)))
      | (refine SX.ret ?_; try simp only [GA, ↓GB, List.filterMap_cons, eq_self, BEq.rfl, simprocAttr])
      | (refine hN _ ?_; clear hN N)
      | ((first | refine hK _ _ (FinI.ret3 ?_) | refine hK _ _ (FinI.nrm3 ?_)); simp only [GA, ↓GB, List.filterMap_cons, eq_self, BEq.rfl, simprocAttr, finP_s, hnt, hT, hc, he]; refine Done.out ?_)
      | (clear hN N; first | (refine hN _ ?_; clear hN N) | (clear hN N; first | (refine hN _ ?_; clear hN N) | (clear hN N; first | (refine hN _ ?_; clear hN N) | (clear hN N; first | (refine hN _ ?_; clear hN N) | (clear hN N; first | (refine hN _ ?_; clear hN N) | (refine hN _ ?_; clear hN N))))))
      | (refine bif2.mk (fun hb => ?_) (fun hb => ?_) <;> (try simp only [hb, GA, ↓GB, List.filterMap_cons, eq_self, BEq.rfl, simprocAttr, hnt, hT, hc, he]) <;> ((first | cases hb | (simp only [decide_eq_true_eq, decide_eq_false_iff_not, beq_iff_eq, beq_eq_false_iff_ne, bne_iff_ne, Bool.and_eq_true, Bool.or_eq_true, Bool.not_eq_true', Bool.not_eq_false', Bool.and_eq_false_iff, Bool.or_eq_false_iff, Int.not_lt, Int.not_le] at hb) | skip) <;> (first | (exfalso; omega) | skip)))
      | ((first | (refine Ctr.use (hrun (ms.getD j default)) hP ?_ [1] ?_ rfl rfl ?_; (focus (intro p hp; cases hp)); (focus (refine LeR.of rfl trivial ?_ ?_ ?_ ?_ ?_ <;> first | decide | (simp only [GA, ↓GB, List.filterMap_cons, eq_self, BEq.rfl, simprocAttr, List.getD_cons_zero, List.getD_cons_succ, or_false, false_or, or_self, or_true, true_or, decide_true]; done))); intro os' s hR; obtain ⟨rfl, rfl⟩ := hR) | (refine Ctr.use (indexFunc3 ms hms b r su t e) hP ?_ [2,1] ?_ rfl rfl ?_; (focus (intro p hp; cases hp)); (focus (refine LeR.of rfl trivial ?_ ?_ ?_ ?_ ?_ <;> first | decide | (simp only [GA, ↓GB, List.filterMap_cons, eq_self, BEq.rfl, simprocAttr, List.getD_cons_zero, List.getD_cons_succ, or_false, false_or, or_self, or_true, true_or, decide_true]; done))); intro os' s hR; obtain ⟨rfl, rfl⟩ := hR)); simp only [GA, ↓GB, List.filterMap_cons, eq_self, BEq.rfl, simprocAttr, hnt, hT, hc, he])
      | (refine SX.loop (ι := { p : Nat × Nat × List Mk // p.1 < p.2.1 ∧ p.2.1 ≤ ms.length ∧ p.2.2.length = ms.length ∧ p.2.2.take p.1 = ((ms.take p.2.1).filter fun m => !(isMk b t r su e) m) ∧ p.2.2.drop p.2.1 = ms.drop p.2.1 }) (fun i => ⟨[(0, .one (.c (.row 2))), (1, .one (.c (.clo 88 [] [.loc 1 0]))), (5, vv (.int .i64 i.1.1)), (6, vv (.int .i64 i.1.2.1))], [.gone, .cells [.v (.int .i64 b), .v (.string (B t)), .v (.int .u64 r), .v (.int .i64 su), .v (.string (B e))] 62, .row 62 5 ms.length (mks i.1.2.2)]⟩) (fun i => ms.length - i.1.2.1) ⟨(k0, k0 + 1, ms), by simp, by simp; omega, rfl, take_filter _ ms k0 hk0 hp0 hn0, rfl⟩ ⟨[0, 1, 2], (LeR.of (by rw [hbl]; decide) (by simp only [GA, ↓GB, List.filterMap_cons, eq_self, BEq.rfl, simprocAttr, List.getD_cons_zero, List.getD_cons_succ, or_false, false_or, or_self, or_true, true_or, decide_true]; try (rw [wI64 (by omega) (by omega)]; rfl)) (by simp only [GA, ↓GB, List.filterMap_cons, eq_self, BEq.rfl, simprocAttr, List.getD_cons_zero, List.getD_cons_succ, or_false, false_or, or_self, or_true, true_or, decide_true]; try (rw [wI64 (by omega) (by omega)]; rfl)) (by decide) (by simp only [GA, ↓GB, List.filterMap_cons, eq_self, BEq.rfl, simprocAttr, List.getD_cons_zero, List.getD_cons_succ, or_false, false_or, or_self, or_true, true_or, decide_true]) (by simp only [GA, ↓GB, List.filterMap_cons, eq_self, BEq.rfl, simprocAttr, List.getD_cons_zero, List.getD_cons_succ, or_false, false_or, or_self, or_true, true_or, decide_true]) (by simp only [GA, ↓GB, List.filterMap_cons, eq_self, BEq.rfl, simprocAttr, List.getD_cons_zero, List.getD_cons_succ, or_false, false_or, or_self, or_true, true_or, decide_true]))⟩ ?_ <;> rintro ⟨⟨i, j, l⟩, hij, hjn, hl, hft, hdr⟩ <;> simp only [] at hij hjn hl hft hdr ⊢)
      | (refine ⟨(ms.getD j default).cells, rfl, (by rw [← getD_drop l ms j hdr (by omega)]; exact mks_at l j (by omega)), ?_⟩ <;> simp only [Mk.cells, GA, ↓GB, List.filterMap_cons, eq_self, BEq.rfl, simprocAttr, hnt, hT])
      | (refine ⟨by rw [mks_length]; omega, ?_⟩)
      | ((rw [if_neg (show ¬ cap = i by omega)] <;> show VO X _ _ _ <;> refine VO.clearSl (j := 3) (e1 := 62) (us := mks l ++ ys) rfl (by rw [hP]; exact Ty.ei59) rfl (by rw [List.length_append, mks_length, hys]; omega) (fun q hq => by have hq : q < 5 := hq; rcases q with _ | _ | _ | _ | _ | q <;> first | rfl | omega) (by omega) rfl (fun vs hvs => ?_) <;> simp only [GA, ↓GB, List.filterMap_cons, eq_self, BEq.rfl, simprocAttr, hnt, hT]))
      | (refine SX.block ?_)
      | (refine and_mk ?_ ?_; (focus first | decide | omega | rfl | assumption | (simp only [List.length_append, List.length_cons, List.length_nil, B_size]; omega) | (simp; done)))
      | (refine And.intro ?_ ?_))
    all_goals (try refine Done.mk ?_)
    · refine ⟨⟨(i + 1, j + 1, l.set i (ms.getD j default)), by show i + 1 < j + 1; omega, by show j + 1 ≤ ms.length; omega, by show (l.set i (ms.getD j default)).length = ms.length; rw [List.length_set]; exact hl, lp_keep _ ms l i j hl hij (by omega) hft (by assumption), lp_drop ms l i j _ hij hdr⟩, [0, 1, 2], (LeR.of (by rw [hbl]; decide) (by simp only [GA, ↓GB, List.filterMap_cons, eq_self, BEq.rfl, simprocAttr, List.getD_cons_zero, List.getD_cons_succ, or_false, false_or, or_self, or_true, true_or, decide_true]; try (first | (refine ⟨?_, ?_⟩ <;> (rw [wI64 (by omega) (by omega)]; rfl)) | exact congrArg _ (mks_set l i (ms.getD j default) (by omega)))) (by simp only [GA, ↓GB, List.filterMap_cons, eq_self, BEq.rfl, simprocAttr, List.getD_cons_zero, List.getD_cons_succ, or_false, false_or, or_self, or_true, true_or, decide_true]; try (first | (refine ⟨?_, ?_⟩ <;> (rw [wI64 (by omega) (by omega)]; rfl)) | exact congrArg _ (mks_set l i (ms.getD j default) (by omega)))) (by decide) (by simp only [GA, ↓GB, List.filterMap_cons, eq_self, BEq.rfl, simprocAttr, List.getD_cons_zero, List.getD_cons_succ, or_false, false_or, or_self, or_true, true_or, decide_true]) (by simp only [GA, ↓GB, List.filterMap_cons, eq_self, BEq.rfl, simprocAttr, List.getD_cons_zero, List.getD_cons_succ, or_false, false_or, or_self, or_true, true_or, decide_true]) (by simp only [GA, ↓GB, List.filterMap_cons, eq_self, BEq.rfl, simprocAttr, List.getD_cons_zero, List.getD_cons_succ, or_false, false_or, or_self, or_true, true_or, decide_true])), by show ms.length - (j + 1) < ms.length - j; omega⟩
    · refine ⟨⟨(i, j + 1, l), by show i < j + 1; omega, by show j + 1 ≤ ms.length; omega, hl, lp_skip _ ms l i j (by omega) hft (by assumption), lp_drop' ms l j hdr⟩, [0, 1, 2], (LeR.of (by rw [hbl]; decide) (by simp only [GA, ↓GB, List.filterMap_cons, eq_self, BEq.rfl, simprocAttr, List.getD_cons_zero, List.getD_cons_succ, or_false, false_or, or_self, or_true, true_or, decide_true]; try ((rw [wI64 (by omega) (by omega)]; rfl))) (by simp only [GA, ↓GB, List.filterMap_cons, eq_self, BEq.rfl, simprocAttr, List.getD_cons_zero, List.getD_cons_succ, or_false, false_or, or_self, or_true, true_or, decide_true]; try ((rw [wI64 (by omega) (by omega)]; rfl))) (by decide) (by simp only [GA, ↓GB, List.filterMap_cons, eq_self, BEq.rfl, simprocAttr, List.getD_cons_zero, List.getD_cons_succ, or_false, false_or, or_self, or_true, true_or, decide_true]) (by simp only [GA, ↓GB, List.filterMap_cons, eq_self, BEq.rfl, simprocAttr, List.getD_cons_zero, List.getD_cons_succ, or_false, false_or, or_self, or_true, true_or, decide_true]) (by simp only [GA, ↓GB, List.filterMap_cons, eq_self, BEq.rfl, simprocAttr, List.getD_cons_zero, List.getD_cons_succ, or_false, false_or, or_self, or_true, true_or, decide_true])), by show ms.length - (j + 1) < ms.length - j; omega⟩
    · rw [lp_end (isMk b t r su e) ms l i j ys vs _ hl hij (by omega) hft]
      (refine hN0 _ _ ⟨[0, 1, 4], _, _, ?_, ?_, ?_, ⟨rfl, rfl⟩⟩; (focus exact LeR.of rfl trivial (by simp only [GA, ↓GB, List.filterMap_cons, eq_self, BEq.rfl, simprocAttr, List.getD_cons_zero, List.getD_cons_succ, or_false, false_or, or_self, or_true, true_or, decide_true]) (by decide) rfl rfl rfl); rotate_left; (focus rfl))
      rfl
end Go.Proofs.YtbdacbcpniegiaaDoor
namespace Go.Proofs.YtbdacbcpniegiaaDoor
open Go Go.RowKit Go.Proofs Go.Sx
set_option maxHeartbeats 4000000
set_option maxRecDepth 100000
set_option linter.unusedSimpArgs false
set_option linter.unusedVariables false
theorem overlaps_run {P : Program} (hP : P = Tryd.prog) (w : World) (a b : Addr) (la ca lb cb : Nat) (cs cs2 : Array Value) (t t2 : TypeId) (h1 : w.heap[a.block]? = some (.cells cs t (0, 0))) (h2 : w.heap[b.block]? = some (.cells cs2 t2 (0, 0))) (hne : a.block ≠ b.block) (h0 : cs2.size ≠ 0) :
    (callFunc 131 #[.slice (some a) la ca, .slice (some b) lb cb]).run P w = .ok (.value (.bool false)) w := by
  subst hP
  rw [run_callFunc_extern Tryd.func131 (by kernel_rfl) (by kernel_rfl) (by kernel_rfl) (e := Extern.SlicesOverlaps.overlaps #[59, 59] #[4]) (by kernel_rfl),
    Lib.run_overlaps_apart w 59 4 62 (by kernel_rfl) 5 (sizeOf_run (by kernel_rfl)) a b la ca lb cb hne t t2 cs.size cs2.size (by simp [World.shape?, h1]) (by simp [World.shape?, h2]) h0 (by simp [World.frozen?, h1]) (by simp [World.frozen?, h1])]
  rfl
theorem insert_end (ms : List Mk) (hms : ms.length ≤ 1000000) (m : Mk) : Ctr Tryd.prog [] 83 [mrow ms, .cells [.v (.int .i64 m.t), .v (.string (B m.s)), .v (.int .u64 m.q), .v (.int .i64 m.st), .v (.string (B m.d))] 62] [.one (.c (.row 0)), vv (.int .i64 ms.length), .one (.c (.sl 1 0 1 1))]
    (fun os v => os = [.gone, .cells [.v (.int .i64 m.t), .v (.string (B m.s)), .v (.int .u64 m.q), .v (.int .i64 m.st), .v (.string (B m.d))] 62, mrow (ms ++ [m])] ∧ v = .one (.c (.row 2))) := by
  refine Ctr.less ?_
  intro X0 hP0 hG0 N0 hN0
  refine CallVC.inline (f := 83) (by rw [hP0]; exact Tryd.func83) rfl Tryd.ntmps83 rfl (by simp) ?_
  intro X K hU hnt hbl hK
  have hP : X.P = Tryd.prog := by rw [hU.P, hP0]
  have hG := hG0.under hU
  have hT : isStrT X.P 59 = false ∧ elemSz X.P 59 = some (62, 5) ∧ X.P.underlying 59 = some (TypeDesc.slice 62) ∧ elemInf X.P 59 = some (62, 5, 56, (Value.agg #[(Value.int IntKind.i64 0), (Value.string { data := #[] }), (Value.int IntKind.u64 0), (Value.int IntKind.i64 0), (Value.string { data := #[] })])) ∧ isStrT X.P 3 = false ∧ calleeOk X.P 131 = false ∧ calleeOk X.P 132 = true := by rw [hP]; exact ⟨Ty.is59, Ty.el59, Tryd.underlying59, Ty.ei59, Ty.is3, Ty.cx131, Ty.co132⟩
  simp only [GA, ↓GB, List.filterMap_cons, eq_self, BEq.rfl, simprocAttr] at hbl ⊢
  repeat' (first
    | (exact absurd hb (by simp))
    | (refine SX.seqK ?_; intro N hN)
    | ((first | (refine SX.ops ?_) | (refine SX.planT (id := 11) [.q [(0, [9]), (1, [1]), (2, [7]), (3, [47, 48]), (4, [46, 49]), (5, [0]), (6, [1]), (7, [51, 52])] none, .s 8] ?_ ?_ ?_; (focus first | (rw [hP]; kernel_rfl) | (rw [hU1P, hP]; kernel_rfl)); (focus kernel_rfl)) | (refine SX.planT (id := 15) [.q [(0, [0]), (1, [1]), (2, [7]), (3, [70, 71]), (4, [69, 72]), (5, [0]), (6, [1]), (7, [74, 75])] none, .s 8] ?_ ?_ ?_; (focus first | (rw [hP]; kernel_rfl) | (rw [hU1P, hP]; kernel_rfl)); (focus kernel_rfl))); simp only [GA, ↓GB, List.filterMap_cons, eq_self, BEq.rfl, simprocAttr, hnt, hT])
    | ((first | refine SX.skip ?_ | refine SX.exit ?_ | refine SX.label ?_); try simp only [GA, ↓GB, List.filterMap_cons, eq_self, BEq.rfl, simprocAttr])
    | (refine SX.cond rfl (fun hb => ?_) (fun hb => ?_) <;> ((first | cases hb | (simp only [decide_eq_true_eq, decide_eq_false_iff_not, beq_iff_eq, beq_eq_false_iff_ne, bne_iff_ne, Bool.and_eq_true, Bool.or_eq_true, Bool.not_eq_true', Bool.not_eq_false', Bool.and_eq_false_iff, Bool.or_eq_false_iff, Int.not_lt, Int.not_le] at hb) | skip) <;> (first | (exfalso; omega) | skip)))
    | (refine SX.ret ?_; try simp only [GA, ↓GB, List.filterMap_cons, eq_self, BEq.rfl, simprocAttr])
    | (refine hN _ ?_; clear hN N)
    | ((first | refine hK _ _ (FinI.ret3 ?_) | refine hK _ _ (FinI.nrm3 ?_)); simp only [GA, ↓GB, List.filterMap_cons, eq_self, BEq.rfl, simprocAttr, finP_s, hnt, hT]; refine Done.out ?_)
    | (clear hN N; first | (refine hN _ ?_; clear hN N) | (clear hN N; first | (refine hN _ ?_; clear hN N) | (clear hN N; first | (refine hN _ ?_; clear hN N) | (clear hN N; first | (refine hN _ ?_; clear hN N) | (clear hN N; first | (refine hN _ ?_; clear hN N) | (refine hN _ ?_; clear hN N))))))
    | (refine bif2.mk (fun hb => ?_) (fun hb => ?_) <;> (try simp only [hb, GA, ↓GB, List.filterMap_cons, eq_self, BEq.rfl, simprocAttr, hnt, hT]) <;> ((first | cases hb | (simp only [decide_eq_true_eq, decide_eq_false_iff_not, beq_iff_eq, beq_eq_false_iff_ne, bne_iff_ne, Bool.and_eq_true, Bool.or_eq_true, Bool.not_eq_true', Bool.not_eq_false', Bool.and_eq_false_iff, Bool.or_eq_false_iff, Int.not_lt, Int.not_le] at hb) | skip) <;> (first | (exfalso; omega) | skip)))
    | (refine SX.block ?_)
    | (refine and_mk ?_ ?_; (focus first | decide | omega | rfl | assumption | (simp only [List.length_append, List.length_cons, List.length_nil, B_size]; omega) | (simp; done)))
    | (refine And.intro ?_ ?_))
  all_goals (try refine Done.mk ?_)
  have e : LO.row 62 5 (ms.length + 1) (mks ms ++ [Value.int IntKind.i64 m.t, Value.string (B m.s), Value.int IntKind.u64 m.q, Value.int IntKind.i64 m.st, Value.string (B m.d)]) = mrow (ms ++ [m]) := by simp [mrow, mks_append, mks, Mk.cells]
  rw [e]
  (refine hN0 _ _ ⟨[0, 1, 2], _, _, ?_, ?_, ?_, ⟨rfl, rfl⟩⟩; (focus exact LeR.of rfl trivial (by simp only [GA, ↓GB, List.filterMap_cons, eq_self, BEq.rfl, simprocAttr, List.getD_cons_zero, List.getD_cons_succ, or_false, false_or, or_self, or_true, true_or, decide_true]) (by decide) rfl rfl rfl); rotate_left; (focus rfl))
  rfl
theorem cells_one (m : Mk) : ∀ u ∈ m.cells, u.oneCell' = true := by
  have := mks_one [m]
  simpa [mks] using this
theorem src_eq (ms : List Mk) (ys : List Value) (i : Nat) (hi : i < ms.length) : ((mks ms ++ ys).drop (0 + i * 5)).take ((ms.length - i) * 5) = mks (ms.drop i) := by
  rw [Nat.zero_add, List.drop_append_of_le_length (by rw [mks_length]; omega), mks_drop, List.take_append_of_le_length (by rw [mks_length]; simp), List.take_of_length_le (by rw [mks_length]; simp)]
theorem src_len (ms : List Mk) (i : Nat) : (mks (ms.drop i)).length = (ms.length - i) * 5 := by rw [mks_length]; simp
theorem ins_fin (ms : List Mk) (m : Mk) (i n : Nat) (hi : i < ms.length) (hn : n = ms.length + 1) (E : List Value) : LO.row 62 5 n (List.take (n * 5) (mks (ms.take i) ++ m.cells ++ mks (ms.drop i) ++ E)) = mrow (ms.take i ++ m :: ms.drop i) := by
  subst hn
  have l1 : (mks (ms.take i) ++ m.cells ++ mks (ms.drop i)).length = (ms.length + 1) * 5 := by simp [mks_length, Mk.cells]; omega
  rw [List.take_left' l1]
  have l2 : (ms.take i ++ m :: ms.drop i).length = ms.length + 1 := by simp; omega
  simp only [mrow, l2, mks_append, mks_cons, List.append_assoc]
theorem ins1 (ms : List Mk) (m : Mk) (i n : Nat) (hi : i < ms.length) (hn : n = ms.length + 1) (ys zs ys2 D E : List Value) :
    LO.row 62 5 n (List.take (n * 5) (List.take (0 + (i + 1) * 5) (List.take (0 + i * 5) (List.take (i * 5) (mks ms ++ ys) ++ zs ++ ys2) ++ m.cells ++ D) ++ mks (ms.drop i) ++ E)) = mrow (ms.take i ++ m :: ms.drop i) := by
  have e1 : List.take (i * 5) (mks ms ++ ys) = mks (ms.take i) := by rw [List.take_append_of_le_length (by rw [mks_length]; omega), mks_take]
  have l1 : (mks (ms.take i)).length = i * 5 := by rw [mks_length]; simp; omega
  rw [e1, Nat.zero_add, Nat.zero_add, List.append_assoc (mks (ms.take i)) zs ys2, List.take_left' l1]
  have e2 : List.take ((i + 1) * 5) (mks (ms.take i) ++ m.cells ++ D) = mks (ms.take i) ++ m.cells := List.take_left' (by rw [List.length_append, l1]; simp [Mk.cells]; omega)
  rw [e2]
  exact ins_fin ms m i n hi hn E
theorem ins2 (ms : List Mk) (m : Mk) (i n : Nat) (hi : i < ms.length) (hn : n = ms.length + 1) (ys D D' : List Value) :
    LO.row 62 5 n (List.take (n * 5) (List.take (0 + i * 5) (List.take (0 + (i + 1) * 5) (mks ms ++ ys) ++ mks (ms.drop i) ++ D) ++ m.cells ++ List.drop (0 + i * 5 + m.cells.length) (List.take (0 + (i + 1) * 5) (mks ms ++ ys) ++ mks (ms.drop i) ++ D'))) = mrow (ms.take i ++ m :: ms.drop i) := by
  have e1 : List.take ((i + 1) * 5) (mks ms ++ ys) = mks (ms.take (i + 1)) := by rw [List.take_append_of_le_length (by rw [mks_length]; omega), mks_take]
  have l1 : (mks (ms.take (i + 1))).length = (i + 1) * 5 := by rw [mks_length]; simp; omega
  have e2 : List.take (i * 5) (mks (ms.take (i + 1)) ++ mks (ms.drop i) ++ D) = mks (ms.take i) := by
    rw [List.append_assoc, List.take_append_of_le_length (by rw [l1]; omega), mks_take, List.take_take, Nat.min_eq_left (by omega)]
  have e3 : List.drop (i * 5 + m.cells.length) (mks (ms.take (i + 1)) ++ mks (ms.drop i) ++ D') = mks (ms.drop i) ++ D' := by
    rw [List.append_assoc, List.drop_left' (by rw [l1]; simp [Mk.cells]; omega)]
  rw [Nat.zero_add, Nat.zero_add, e1, e2, e3, ← List.append_assoc]
  exact ins_fin ms m i n hi hn D'
theorem insert_mid (ms : List Mk) (hms : ms.length ≤ 1000000) (m : Mk) (i : Nat) (hi : i < ms.length) : Ctr Tryd.prog [] 83 [mrow ms, .cells [.v (.int .i64 m.t), .v (.string (B m.s)), .v (.int .u64 m.q), .v (.int .i64 m.st), .v (.string (B m.d))] 62] [.one (.c (.row 0)), vv (.int .i64 i), .one (.c (.sl 1 0 1 1))]
    (fun os v => os = [.gone, .cells [.v (.int .i64 m.t), .v (.string (B m.s)), .v (.int .u64 m.q), .v (.int .i64 m.st), .v (.string (B m.d))] 62, mrow (ms.take i ++ m :: ms.drop i)] ∧ v = .one (.c (.row 2))) := by
  refine Ctr.less ?_
  intro X0 hP0 hG0 N0 hN0
  refine CallVC.inline (f := 83) (by rw [hP0]; exact Tryd.func83) rfl Tryd.ntmps83 rfl (by simp) ?_
  intro X K hU hnt hbl hK
  have hP : X.P = Tryd.prog := by rw [hU.P, hP0]
  have hG := hG0.under hU
  have hT : isStrT X.P 59 = false ∧ elemSz X.P 59 = some (62, 5) ∧ X.P.underlying 59 = some (TypeDesc.slice 62) ∧ elemInf X.P 59 = some (62, 5, 56, (Value.agg #[(Value.int IntKind.i64 0), (Value.string { data := #[] }), (Value.int IntKind.u64 0), (Value.int IntKind.i64 0), (Value.string { data := #[] })])) ∧ isStrT X.P 3 = false ∧ calleeOk X.P 131 = false ∧ calleeOk X.P 132 = true := by rw [hP]; exact ⟨Ty.is59, Ty.el59, Tryd.underlying59, Ty.ei59, Ty.is3, Ty.cx131, Ty.co132⟩
  simp only [GA, ↓GB, List.filterMap_cons, eq_self, BEq.rfl, simprocAttr] at hbl ⊢
  refine SX.openRow (t := 0) (i := 0) rfl rfl (by omega) (fun cap ys hcap1 hcap2 hys => ?_)
  simp only [GA, ↓GB, List.filterMap_cons, eq_self, BEq.rfl, simprocAttr]
  have hw1 : IntKind.i64.wrap ((ms.length : Int) + 1) = ((ms.length + 1 : Nat) : Int) := by rw [wI64 (by omega) (by omega)]; rfl
  have hw2 : IntKind.i64.wrap ((i : Int) + 1) = ((i + 1 : Nat) : Int) := by rw [wI64 (by omega) (by omega)]; rfl
  have hw3 : IntKind.i64.wrap (((ms.length + 1 : Nat) : Int) - (i : Int)) = ((ms.length + 1 - i : Nat) : Int) := by rw [wI64 (by omega) (by omega)]; omega
  repeat' (first
    | (refine SX.closeRow (code := .ret) (t := 6) (j := 4) (sz := 5) (e := 62) (cap := cap2) rfl rfl (by simp only [List.length_append, List.length_take, List.length_drop, mks_length, hys, Mk.cells, List.length_cons, List.length_nil, hzs, hys2]; omega) (by omega) hcap4 ?_ <;> simp only [GA, ↓GB, List.filterMap_cons, eq_self, BEq.rfl, simprocAttr])
    | (refine SX.closeRow (code := .ret) (t := 6) (j := 2) (sz := 5) (e := 62) (cap := cap) rfl rfl (by simp only [List.length_append, List.length_take, List.length_drop, mks_length, hys, Mk.cells, List.length_cons, List.length_nil]; omega) (by omega) hcap2 ?_ <;> simp only [GA, ↓GB, List.filterMap_cons, eq_self, BEq.rfl, simprocAttr])
    | (rw [if_neg (show ¬ cap = i by omega)])
    | (rw [if_neg (show ¬ cap = i + 1 by omega)])
    | (rw [if_neg (show ¬ cap2 = i by omega)])
    | (rw [if_neg (show ¬ cap2 = i + 1 by omega)])
    | (refine SX.openRow (code := .seq (.region 10 _ _) _) (t := 9) (i := 3) rfl rfl (by omega) (fun cap2 ys2 hcap3 hcap4 hys2 => ?_) <;> simp only [GA, ↓GB, List.filterMap_cons, eq_self, BEq.rfl, simprocAttr])
    | (refine SX.seqK ?_; intro N hN)
    | ((first | (refine SX.ops ?_) | (refine SX.planT (id := 11) [.q [(0, [9]), (1, [1]), (2, [7]), (3, [47, 48]), (4, [46, 49]), (5, [0]), (6, [1]), (7, [51, 52])] none, .s 8] ?_ ?_ ?_; (focus first | (rw [hP]; kernel_rfl) | (rw [hU1P, hP]; kernel_rfl)); (focus kernel_rfl)) | (refine SX.planT (id := 15) [.q [(0, [0]), (1, [1]), (2, [7]), (3, [70, 71]), (4, [69, 72]), (5, [0]), (6, [1]), (7, [74, 75])] none, .s 8] ?_ ?_ ?_; (focus first | (rw [hP]; kernel_rfl) | (rw [hU1P, hP]; kernel_rfl)); (focus kernel_rfl))); simp only [GA, ↓GB, List.filterMap_cons, eq_self, BEq.rfl, simprocAttr, hnt, hT, hw1, hw2, hw3, Nat.sub_zero])
    | ((first | refine SX.skip ?_ | refine SX.exit ?_ | refine SX.label ?_); try simp only [GA, ↓GB, List.filterMap_cons, eq_self, BEq.rfl, simprocAttr])
    | (refine SX.cond rfl (fun hb => ?_) (fun hb => ?_) <;> ((first | cases hb | (simp only [decide_eq_true_eq, decide_eq_false_iff_not, beq_iff_eq, beq_eq_false_iff_ne, bne_iff_ne, Bool.and_eq_true, Bool.or_eq_true, Bool.not_eq_true', Bool.not_eq_false', Bool.and_eq_false_iff, Bool.or_eq_false_iff, Int.not_lt, Int.not_le] at hb) | skip) <;> (first | (exfalso; omega) | skip)))
    | (refine SX.ret ?_; try simp only [GA, ↓GB, List.filterMap_cons, eq_self, BEq.rfl, simprocAttr])
    | (refine hN _ ?_; clear hN N)
    | ((first | refine hK _ _ (FinI.ret3 ?_) | refine hK _ _ (FinI.nrm3 ?_)); simp only [GA, ↓GB, List.filterMap_cons, eq_self, BEq.rfl, simprocAttr, finP_s, hnt, hT, hw1, hw2, hw3, Nat.sub_zero]; refine Done.out ?_)
    | (clear hN N; first | (refine hN _ ?_; clear hN N) | (clear hN N; first | (refine hN _ ?_; clear hN N) | (clear hN N; first | (refine hN _ ?_; clear hN N) | (clear hN N; first | (refine hN _ ?_; clear hN N) | (clear hN N; first | (refine hN _ ?_; clear hN N) | (refine hN _ ?_; clear hN N))))))
    | (refine bif2.mk (fun hb => ?_) (fun hb => ?_) <;> (try simp only [hb, GA, ↓GB, List.filterMap_cons, eq_self, BEq.rfl, simprocAttr, hnt, hT, hw1, hw2, hw3, Nat.sub_zero]) <;> ((first | cases hb | (simp only [decide_eq_true_eq, decide_eq_false_iff_not, beq_iff_eq, beq_eq_false_iff_ne, bne_iff_ne, Bool.and_eq_true, Bool.or_eq_true, Bool.not_eq_true', Bool.not_eq_false', Bool.and_eq_false_iff, Bool.or_eq_false_iff, Int.not_lt, Int.not_le] at hb) | skip) <;> (first | (exfalso; omega) | skip)))
    | ((show VO X _ _ _ <;> refine VO.capSl (e := 62) rfl (by rw [hP]; kernel_rfl) ?_ <;> simp only [GA, ↓GB, List.filterMap_cons, eq_self, BEq.rfl, simprocAttr, hnt, hT]))
    | ((show VO X _ _ _ <;> refine VO.appendZeros (e := 62) (e1 := 62) (us := mks ms ++ ys) (k := ms.length + 1 - i) (kn := .i64) rfl rfl (by rw [hP]; exact Ty.ei59) (by rw [hP]; kernel_rfl) rfl (by rw [List.length_append, mks_length]; omega) (by omega) (by omega) (by omega) (by omega) (fun zs hzs => ?_) <;> simp only [GA, ↓GB, List.filterMap_cons, eq_self, BEq.rfl, simprocAttr, hnt, hT]))
    | ((show VO X _ _ _ <;> refine VO.copySl (e := 62) (ws := m.cells) (e2 := 62) (sz := 5) (vs := m.cells) (q := 1) rfl rfl (by rw [hP]; kernel_rfl) (by rw [hP]; kernel_rfl) rfl rfl (by show min _ _ = _; omega) rfl rfl (by simp only [List.length_append, List.length_take, List.length_drop, mks_length, hys, Mk.cells, List.length_cons, List.length_nil]; omega) (cells_one m) ?_ <;> simp only [GA, ↓GB, List.filterMap_cons, eq_self, BEq.rfl, simprocAttr, hnt, hT]))
    | ((show VO X _ _ _ <;> refine VO.copySl (e := 62) (ws := m.cells) (e2 := 62) (sz := 5) (vs := m.cells) (q := 1) rfl rfl (by rw [hP]; kernel_rfl) (by rw [hP]; kernel_rfl) rfl rfl (by show min _ _ = _; omega) rfl rfl (by simp only [List.length_append, List.length_take, List.length_drop, mks_length, hys, Mk.cells, List.length_cons, List.length_nil, hzs, hys2]; omega) (cells_one m) ?_ <;> simp only [GA, ↓GB, List.filterMap_cons, eq_self, BEq.rfl, simprocAttr, hnt, hT]))
    | ((show VO X _ _ _ <;> refine VO.copySl (e := 62) (ws := mks ms ++ ys) (e2 := 62) (sz := 5) (vs := mks (ms.drop i)) (q := ms.length - i) rfl rfl (by rw [hP]; kernel_rfl) (by rw [hP]; kernel_rfl) rfl rfl (by show min _ _ = _; omega) (src_eq ms ys i hi) (src_len ms i) (by simp only [List.length_append, List.length_take, List.length_drop, mks_length, hys, Mk.cells, List.length_cons, List.length_nil]; omega) (mks_one _) ?_ <;> simp only [GA, ↓GB, List.filterMap_cons, eq_self, BEq.rfl, simprocAttr, hnt, hT]))
    | ((show VO X _ _ _ <;> refine VO.copySl (e := 62) (ws := mks ms ++ ys) (e2 := 62) (sz := 5) (vs := mks (ms.drop i)) (q := ms.length - i) rfl rfl (by rw [hP]; kernel_rfl) (by rw [hP]; kernel_rfl) rfl rfl (by show min _ _ = _; omega) (src_eq ms ys i hi) (src_len ms i) (by simp only [List.length_append, List.length_take, List.length_drop, mks_length, hys, Mk.cells, List.length_cons, List.length_nil, hzs, hys2]; omega) (mks_one _) ?_ <;> simp only [GA, ↓GB, List.filterMap_cons, eq_self, BEq.rfl, simprocAttr, hnt, hT]))
    | ((show VO X _ _ _ <;> refine VO.overlaps (us := m.cells) (ws := mks ms ++ ys) (e1 := 62) (e2 := 62) rfl rfl rfl rfl (by decide) (by rw [List.length_append, mks_length]; omega) (overlaps_run hP) ?_ <;> simp only [GA, ↓GB, List.filterMap_cons, eq_self, BEq.rfl, simprocAttr, hnt, hT]))
    | (refine SX.block ?_)
    | (refine and_mk ?_ ?_; (focus first | decide | omega | rfl | assumption | (simp only [List.length_append, List.length_cons, List.length_nil, B_size]; omega) | (simp; done)))
    | (refine And.intro ?_ ?_))
  all_goals (try refine Done.mk ?_)
  · rw [ins1 ms m i _ hi (by omega)]
    (refine hN0 _ _ ⟨[0, 1, 5], _, _, ?_, ?_, ?_, ⟨rfl, rfl⟩⟩; (focus exact LeR.of rfl trivial (by simp only [GA, ↓GB, List.filterMap_cons, eq_self, BEq.rfl, simprocAttr, List.getD_cons_zero, List.getD_cons_succ, or_false, false_or, or_self, or_true, true_or, decide_true]) (by decide) rfl rfl rfl); rotate_left; (focus rfl))
    rfl
  · rw [ins2 ms m i _ hi (by omega)]
    (refine hN0 _ _ ⟨[0, 1, 3], _, _, ?_, ?_, ?_, ⟨rfl, rfl⟩⟩; (focus exact LeR.of rfl trivial (by simp only [GA, ↓GB, List.filterMap_cons, eq_self, BEq.rfl, simprocAttr, List.getD_cons_zero, List.getD_cons_succ, or_false, false_or, or_self, or_true, true_or, decide_true]) (by decide) rfl rfl rfl); rotate_left; (focus rfl))
    rfl
end Go.Proofs.YtbdacbcpniegiaaDoor
namespace Go.Proofs.YtbdacbcpniegiaaDoor.Q
open Go Go.RowKit Go.Proofs Go.Sx
set_option maxHeartbeats 4000000
set_option maxRecDepth 100000
set_option linter.unusedSimpArgs false
set_option linter.unusedVariables false
def isK (b : Int) (t : List UInt8) (m : Rs) : Bool := m.t == b && m.s == t
def isO (x m : Rs) : Bool := decide (0 < cmpKey m.t m.s x.t x.s)
theorem of1_ctr (m : Rs) (b : Int) (t : List UInt8) : Ctr Tryd.prog [] 147 [.cells [.v (.int .i64 b), .v (.string (B t))] 26] [.one (.agg [.v (.int .i64 m.t), .v (.string (B m.s)), .v (.int .u64 m.q), .v (.bool m.g), .v (.string (B m.b))]), .one (.c (.loc 0 0))]
    (fun os v => os = [.cells [.v (.int .i64 b), .v (.string (B t))] 26] ∧ v = vv (.bool (isK b t m))) := by
  refine Ctr.less ?_
  intro X0 hP0 hG0 N0 hN0
  refine CallVC.inline (f := 147) (by rw [hP0]; exact Tryd.func147) rfl Tryd.ntmps147 rfl (by simp) ?_
  intro X K hU hnt hbl hK
  have hP : X.P = Tryd.prog := by rw [hU.P, hP0]
  have hG := hG0.under hU
  have hT : fieldOff X.P 89 0 = some 0 ∧ aggOf X.P 26 = some true ∧ szOf X.P 26 = some 2 := by rw [hP]; exact ⟨Ty.fo89_0, Ty.ag26, Ty.sz26⟩
  simp only [GA, ↓GB, List.filterMap_cons, eq_self, BEq.rfl, simprocAttr] at hbl ⊢
  repeat' (first
    | (refine SX.seqK ?_; intro N hN)
    | ((first | (refine SX.ops ?_)); simp only [GA, ↓GB, List.filterMap_cons, eq_self, BEq.rfl, simprocAttr, hnt, hT])
    | ((first | refine SX.skip ?_ | refine SX.exit ?_ | refine SX.label ?_); try simp only [GA, ↓GB, List.filterMap_cons, eq_self, BEq.rfl, simprocAttr])
    | (refine SX.cond rfl (fun hb => ?_) (fun hb => ?_) <;> ((first | cases hb | (simp only [decide_eq_true_eq, decide_eq_false_iff_not, beq_iff_eq, beq_eq_false_iff_ne, bne_iff_ne, Bool.and_eq_true, Bool.or_eq_true, Bool.not_eq_true', Bool.not_eq_false', Bool.and_eq_false_iff, Bool.or_eq_false_iff, Int.not_lt, Int.not_le] at hb) | skip) <;> (first | (exfalso; omega) | skip)))
    | (refine SX.ret ?_; try simp only [GA, ↓GB, List.filterMap_cons, eq_self, BEq.rfl, simprocAttr])
    | (refine hN _ ?_; clear hN N)
    | ((first | refine hK _ _ (FinI.ret3 ?_) | refine hK _ _ (FinI.nrm3 ?_)); simp only [GA, ↓GB, List.filterMap_cons, eq_self, BEq.rfl, simprocAttr, finP_s, hnt, hT]; refine Done.out ?_)
    | (clear hN N; first | (refine hN _ ?_; clear hN N) | (clear hN N; first | (refine hN _ ?_; clear hN N) | (clear hN N; first | (refine hN _ ?_; clear hN N) | (clear hN N; first | (refine hN _ ?_; clear hN N) | (clear hN N; first | (refine hN _ ?_; clear hN N) | (refine hN _ ?_; clear hN N))))))
    | (refine bif2.mk (fun hb => ?_) (fun hb => ?_) <;> (try simp only [hb, GA, ↓GB, List.filterMap_cons, eq_self, BEq.rfl, simprocAttr, hnt, hT]) <;> ((first | cases hb | (simp only [decide_eq_true_eq, decide_eq_false_iff_not, beq_iff_eq, beq_eq_false_iff_ne, bne_iff_ne, Bool.and_eq_true, Bool.or_eq_true, Bool.not_eq_true', Bool.not_eq_false', Bool.and_eq_false_iff, Bool.or_eq_false_iff, Int.not_lt, Int.not_le] at hb) | skip) <;> (first | (exfalso; omega) | skip)))
    | (refine ⟨_, strEq_to hP (Ty.eqS26 _ _ _ _), ?_⟩)
    | (refine SX.block ?_)
    | (refine and_mk ?_ ?_; (focus first | decide | omega | rfl | assumption | (simp only [List.length_append, List.length_cons, List.length_nil, B_size]; omega) | (simp; done)))
    | (refine And.intro ?_ ?_))
  all_goals (try refine Done.mk ?_)
  all_goals ((refine hN0 _ _ ⟨[0], _, _, ?_, ?_, ?_, ⟨rfl, rfl⟩⟩; (focus exact LeR.of rfl trivial (by simp only [GA, ↓GB, List.filterMap_cons, eq_self, BEq.rfl, simprocAttr, List.getD_cons_zero, List.getD_cons_succ, or_false, false_or, or_self, or_true, true_or, decide_true]) (by decide) rfl rfl rfl); rotate_left; (focus rfl)); rfl)
theorem set1_ctr (m x : Rs) : Ctr Tryd.prog [] 113 [.cells [.v (.int .i64 x.t), .v (.string (B x.s)), .v (.int .u64 x.q), .v (.bool x.g), .v (.string (B x.b))] 89] [.one (.agg [.v (.int .i64 m.t), .v (.string (B m.s)), .v (.int .u64 m.q), .v (.bool m.g), .v (.string (B m.b))]), .one (.c (.loc 0 0))]
    (fun os v => os = [.cells [.v (.int .i64 x.t), .v (.string (B x.s)), .v (.int .u64 x.q), .v (.bool x.g), .v (.string (B x.b))] 89] ∧ v = vv (.bool (isO x m))) := by
  refine Ctr.less ?_
  intro X0 hP0 hG0 N0 hN0
  refine CallVC.inline (f := 113) (by rw [hP0]; exact Tryd.func113) rfl Tryd.ntmps113 rfl (by simp) ?_
  intro X K hU hnt hbl hK
  have hP : X.P = Tryd.prog := by rw [hU.P, hP0]
  have hG := hG0.under hU
  have hT : fieldOff X.P 89 0 = some 0 ∧ aggOf X.P 26 = some true ∧ szOf X.P 26 = some 2 ∧ calleeOk X.P 63 = true := by rw [hP]; exact ⟨Ty.fo89_0, Ty.ag26, Ty.sz26, Ty.co63⟩
  simp only [GA, ↓GB, List.filterMap_cons, eq_self, BEq.rfl, simprocAttr] at hbl ⊢
  repeat' (first
    | (refine SX.seqK ?_; intro N hN)
    | ((first | (refine SX.ops ?_)); simp only [GA, ↓GB, List.filterMap_cons, eq_self, BEq.rfl, simprocAttr, hnt, hT])
    | ((first | refine SX.skip ?_ | refine SX.exit ?_ | refine SX.label ?_); try simp only [GA, ↓GB, List.filterMap_cons, eq_self, BEq.rfl, simprocAttr])
    | (refine SX.cond rfl (fun hb => ?_) (fun hb => ?_) <;> ((first | cases hb | (simp only [decide_eq_true_eq, decide_eq_false_iff_not, beq_iff_eq, beq_eq_false_iff_ne, bne_iff_ne, Bool.and_eq_true, Bool.or_eq_true, Bool.not_eq_true', Bool.not_eq_false', Bool.and_eq_false_iff, Bool.or_eq_false_iff, Int.not_lt, Int.not_le] at hb) | skip) <;> (first | (exfalso; omega) | skip)))
    | (refine SX.ret ?_; try simp only [GA, ↓GB, List.filterMap_cons, eq_self, BEq.rfl, simprocAttr])
    | (refine hN _ ?_; clear hN N)
    | ((first | refine hK _ _ (FinI.ret3 ?_) | refine hK _ _ (FinI.nrm3 ?_)); simp only [GA, ↓GB, List.filterMap_cons, eq_self, BEq.rfl, simprocAttr, finP_s, hnt, hT]; refine Done.out ?_)
    | (clear hN N; first | (refine hN _ ?_; clear hN N) | (clear hN N; first | (refine hN _ ?_; clear hN N) | (clear hN N; first | (refine hN _ ?_; clear hN N) | (clear hN N; first | (refine hN _ ?_; clear hN N) | (clear hN N; first | (refine hN _ ?_; clear hN N) | (refine hN _ ?_; clear hN N))))))
    | (refine bif2.mk (fun hb => ?_) (fun hb => ?_) <;> (try simp only [hb, GA, ↓GB, List.filterMap_cons, eq_self, BEq.rfl, simprocAttr, hnt, hT]) <;> ((first | cases hb | (simp only [decide_eq_true_eq, decide_eq_false_iff_not, beq_iff_eq, beq_eq_false_iff_ne, bne_iff_ne, Bool.and_eq_true, Bool.or_eq_true, Bool.not_eq_true', Bool.not_eq_false', Bool.and_eq_false_iff, Bool.or_eq_false_iff, Int.not_lt, Int.not_le] at hb) | skip) <;> (first | (exfalso; omega) | skip)))
    | ((first | (refine CallVC.pv hP (order_any m.t x.t m.s x.s) rfl ?_) | (refine CallQ.pv hP (order_any m.t x.t m.s x.s) rfl ?_)); simp only [GA, ↓GB, List.filterMap_cons, eq_self, BEq.rfl, simprocAttr, hnt, hT])
    | (refine SX.block ?_)
    | (refine and_mk ?_ ?_; (focus first | decide | omega | rfl | assumption | (simp only [List.length_append, List.length_cons, List.length_nil, B_size]; omega) | (simp; done)))
    | (refine And.intro ?_ ?_))
  all_goals (try refine Done.mk ?_)
  all_goals ((refine hN0 _ _ ⟨[0], _, _, ?_, ?_, ?_, ⟨rfl, rfl⟩⟩; (focus exact LeR.of rfl trivial (by simp only [GA, ↓GB, List.filterMap_cons, eq_self, BEq.rfl, simprocAttr, List.getD_cons_zero, List.getD_cons_succ, or_false, false_or, or_self, or_true, true_or, decide_true]) (by decide) rfl rfl rfl); rotate_left; (focus rfl)); rfl)
end Go.Proofs.YtbdacbcpniegiaaDoor.Q
namespace Go.Proofs.YtbdacbcpniegiaaDoor.Q
open Go Go.RowKit Go.Proofs Go.Sx
set_option maxHeartbeats 4000000
set_option maxRecDepth 100000
set_option linter.unusedSimpArgs false
set_option linter.unusedVariables false
def mks (ms : List Rs) : List Value := ms.flatMap Rs.cells
theorem mks_cons (m : Rs) (ms : List Rs) : mks (m :: ms) = m.cells ++ mks ms := rfl
theorem mks_append (a b : List Rs) : mks (a ++ b) = mks a ++ mks b := by simp [mks]
theorem mks_length : ∀ ms : List Rs, (mks ms).length = ms.length * 5
  | [] => rfl
  | m :: ms => by rw [mks_cons, List.length_append, mks_length ms]; simp [Rs.cells]; omega
theorem mks_drop : ∀ (i : Nat) (ms : List Rs), (mks ms).drop (i * 5) = mks (ms.drop i)
  | 0, ms => by simp
  | i + 1, [] => by simp [mks]
  | i + 1, m :: ms => by
    rw [mks_cons, show (i + 1) * 5 = m.cells.length + i * 5 by simp [Rs.cells]; omega, List.drop_append, Nat.add_sub_cancel_left, mks_drop i ms, List.drop_of_length_le (by omega)]
    rfl
theorem mks_take : ∀ (i : Nat) (ms : List Rs), (mks ms).take (i * 5) = mks (ms.take i)
  | 0, ms => by simp [mks]
  | i + 1, [] => by simp [mks]
  | i + 1, m :: ms => by
    rw [mks_cons, show (i + 1) * 5 = m.cells.length + i * 5 by simp [Rs.cells]; omega, List.take_append, List.take_succ_cons, mks_cons, Nat.add_sub_cancel_left, mks_take i ms, List.take_of_length_le (by omega)]
theorem mks_at (ms : List Rs) (i : Nat) (h : i < ms.length) : ((mks ms).drop (i * 5)).take 5 = (ms.getD i default).cells := by
  rw [mks_drop, List.drop_eq_getElem_cons h, mks_cons, List.getD_eq_getElem?_getD, List.getElem?_eq_getElem h]
  simp [Rs.cells]
@[reducible] def mrow (ms : List Rs) : LO := .row 89 5 ms.length (mks ms)
def idxI (p : Rs → Bool) (ms : List Rs) : Int := match ms.findIdx? p with | some i => i | none => -1
theorem idxN (p : Rs → Bool) (ms : List Rs) (i : Nat) (hi : i < ms.length) (hp : p (ms.getD i default) = true) (hn : ∀ j, j < i → p (ms.getD j default) = false) : idxI p ms = i := by
  have : ms.findIdx? p = some i := by
    rw [List.findIdx?_eq_some_iff_getElem]
    refine ⟨hi, by simpa [List.getD_eq_getElem?_getD, List.getElem?_eq_getElem hi] using hp, fun j hj => ?_⟩
    have := hn j hj
    rw [List.getD_eq_getElem?_getD, List.getElem?_eq_getElem (by omega)] at this
    simpa using this
  simp [idxI, this]
theorem idxNone (p : Rs → Bool) (ms : List Rs) (hn : ∀ j, j < ms.length → p (ms.getD j default) = false) : idxI p ms = -1 := by
  have : ms.findIdx? p = none := by
    rw [List.findIdx?_eq_none_iff]
    intro x hx
    obtain ⟨j, hj, rfl⟩ := List.mem_iff_getElem.1 hx
    have := hn j hj
    rw [List.getD_eq_getElem?_getD, List.getElem?_eq_getElem hj] at this
    simpa using this
  simp [idxI, this]
theorem indexFuncK (ms : List Rs) (hms : ms.length ≤ 1000000) (b : Int) (t : List UInt8) : Ctr Tryd.prog [] 112 [mrow ms, .cells [.v (.int .i64 b), .v (.string (B t))] 26] [.one (.c (.row 0)), .one (.c (.clo 147 [] [.loc 1 0]))]
    (fun os v => os = [mrow ms, .cells [.v (.int .i64 b), .v (.string (B t))] 26] ∧ v = vv (.int .i64 (idxI (isK b t) ms))) := by
  have hrun : ∀ m : Rs, Ctr Tryd.prog [] 147 [.cells [.v (.int .i64 b), .v (.string (B t))] 26] [.one (.agg [.v (.int .i64 m.t), .v (.string (B m.s)), .v (.int .u64 m.q), .v (.bool m.g), .v (.string (B m.b))]), .one (.c (.loc 0 0))]
    (fun os v => os = [.cells [.v (.int .i64 b), .v (.string (B t))] 26] ∧ v = vv (.bool ((isK b t) m))) := fun m => of1_ctr m b t
  intro X0 hP0 hG0 N0 hN0
  refine CallVC.inline (f := 112) (by rw [hP0]; exact Tryd.func112) rfl Tryd.ntmps112 rfl (by simp) ?_
  intro X K hU hnt hbl hK
  have hP : X.P = Tryd.prog := by rw [hU.P, hP0]
  have hG := hG0.under hU
  have hT : X.P.underlying 79 = some (TypeDesc.slice 89) ∧ elemSz X.P 79 = some (89, 5) ∧ aggOf X.P 89 = some true ∧ szOf X.P 89 = some 5 := by rw [hP]; exact ⟨Tryd.underlying79, Ty.el79, Ty.ag89, Ty.sz89⟩
  simp only [GA, ↓GB, List.filterMap_cons, eq_self, BEq.rfl, simprocAttr] at hbl ⊢
  have hc : calleeOk X.P 147 = true := by rw [hP]; kernel_rfl
  repeat' (first
    | (refine SX.seqK ?_; intro N hN)
    | ((first | (refine SX.ops ?_)); simp only [GA, ↓GB, List.filterMap_cons, eq_self, BEq.rfl, simprocAttr, hnt, hT, hc])
    | ((first | refine SX.skip ?_ | refine SX.exit ?_ | refine SX.label ?_); try simp only [GA, ↓GB, List.filterMap_cons, eq_self, BEq.rfl, simprocAttr])
    | (refine SX.cond rfl (fun hb => ?_) (fun hb => ?_) <;> ((first | cases hb | (simp only [decide_eq_true_eq, decide_eq_false_iff_not, beq_iff_eq, beq_eq_false_iff_ne, bne_iff_ne, Bool.and_eq_true, Bool.or_eq_true, Bool.not_eq_true', Bool.not_eq_false', Bool.and_eq_false_iff, Bool.or_eq_false_iff, Int.not_lt, Int.not_le] at hb) | skip) <;> (first | (exfalso; omega) | skip)))
    | (refine SX.ret ?_; try simp only [GA, ↓GB, List.filterMap_cons, eq_self, BEq.rfl, simprocAttr])
    | (refine hN _ ?_; clear hN N)
    | ((first | refine hK _ _ (FinI.ret3 ?_) | refine hK _ _ (FinI.nrm3 ?_)); simp only [GA, ↓GB, List.filterMap_cons, eq_self, BEq.rfl, simprocAttr, finP_s, hnt, hT, hc]; refine Done.out ?_)
    | (clear hN N; first | (refine hN _ ?_; clear hN N) | (clear hN N; first | (refine hN _ ?_; clear hN N) | (clear hN N; first | (refine hN _ ?_; clear hN N) | (clear hN N; first | (refine hN _ ?_; clear hN N) | (clear hN N; first | (refine hN _ ?_; clear hN N) | (refine hN _ ?_; clear hN N))))))
    | (refine bif2.mk (fun hb => ?_) (fun hb => ?_) <;> (try simp only [hb, GA, ↓GB, List.filterMap_cons, eq_self, BEq.rfl, simprocAttr, hnt, hT, hc]) <;> ((first | cases hb | (simp only [decide_eq_true_eq, decide_eq_false_iff_not, beq_iff_eq, beq_eq_false_iff_ne, bne_iff_ne, Bool.and_eq_true, Bool.or_eq_true, Bool.not_eq_true', Bool.not_eq_false', Bool.and_eq_false_iff, Bool.or_eq_false_iff, Int.not_lt, Int.not_le] at hb) | skip) <;> (first | (exfalso; omega) | skip)))
    | ((first | (refine Ctr.use (hrun (ms.getD i default)) hP ?_ [1] ?_ rfl rfl ?_; (focus (intro p hp; cases hp)); (focus (refine LeR.of rfl trivial ?_ ?_ ?_ ?_ ?_ <;> first | decide | (simp only [GA, ↓GB, List.filterMap_cons, eq_self, BEq.rfl, simprocAttr, List.getD_cons_zero, List.getD_cons_succ, or_false, false_or, or_self, or_true, true_or, decide_true]; done))); intro os' s hR; obtain ⟨rfl, rfl⟩ := hR)); simp only [GA, ↓GB, List.filterMap_cons, eq_self, BEq.rfl, simprocAttr, hnt, hT, hc])
    | (refine SX.loop (ι := { i : Nat // i ≤ ms.length ∧ ∀ j, j < i → (isK b t) (ms.getD j default) = false }) (fun i => ⟨[(0, .one (.c (.row 0))), (1, .one (.c (.clo 147 [] [.loc 1 0]))), (7, vv (.int .i64 ms.length)), (8, vv (.int .i64 i.1))], [mrow ms, .cells [.v (.int .i64 b), .v (.string (B t))] 26]⟩) (fun i => ms.length - i.1) ⟨0, by omega, fun j hj => absurd hj (Nat.not_lt_zero j)⟩ ⟨[0, 1], (LeR.of (by rw [hbl]; decide) (by simp only [GA, ↓GB, List.filterMap_cons, eq_self, BEq.rfl, simprocAttr, List.getD_cons_zero, List.getD_cons_succ, or_false, false_or, or_self, or_true, true_or, decide_true]) (by simp only [GA, ↓GB, List.filterMap_cons, eq_self, BEq.rfl, simprocAttr, List.getD_cons_zero, List.getD_cons_succ, or_false, false_or, or_self, or_true, true_or, decide_true]) (by decide) (by simp only [GA, ↓GB, List.filterMap_cons, eq_self, BEq.rfl, simprocAttr, List.getD_cons_zero, List.getD_cons_succ, or_false, false_or, or_self, or_true, true_or, decide_true]) (by simp only [GA, ↓GB, List.filterMap_cons, eq_self, BEq.rfl, simprocAttr, List.getD_cons_zero, List.getD_cons_succ, or_false, false_or, or_self, or_true, true_or, decide_true]) (by simp only [GA, ↓GB, List.filterMap_cons, eq_self, BEq.rfl, simprocAttr, List.getD_cons_zero, List.getD_cons_succ, or_false, false_or, or_self, or_true, true_or, decide_true]))⟩ ?_ <;> rintro ⟨i, hi, hno⟩ <;> simp only [] at hi hno ⊢)
    | (refine ⟨(ms.getD i default).cells, rfl, mks_at _ _ (by omega), ?_⟩ <;> simp only [Rs.cells, GA, ↓GB, List.filterMap_cons, eq_self, BEq.rfl, simprocAttr, hnt, hT])
    | (refine SX.block ?_)
    | (refine and_mk ?_ ?_; (focus first | decide | omega | rfl | assumption | (simp only [List.length_append, List.length_cons, List.length_nil, B_size]; omega) | (simp; done)))
    | (refine And.intro ?_ ?_))
  all_goals (try refine Done.mk ?_)
  · exact hN0 _ _ ⟨rfl, by rw [idxN _ _ i (by omega) hb hno]; rfl⟩
  · refine ⟨⟨i + 1, by omega, fun j hj => ?_⟩, [0, 1], (LeR.of (by rw [hbl]; decide) (by simp only [GA, ↓GB, List.filterMap_cons, eq_self, BEq.rfl, simprocAttr, List.getD_cons_zero, List.getD_cons_succ, or_false, false_or, or_self, or_true, true_or, decide_true]; try (rw [wI64 (by omega) (by omega)]; simp)) (by simp only [GA, ↓GB, List.filterMap_cons, eq_self, BEq.rfl, simprocAttr, List.getD_cons_zero, List.getD_cons_succ, or_false, false_or, or_self, or_true, true_or, decide_true]; try (rw [wI64 (by omega) (by omega)]; simp)) (by decide) (by simp only [GA, ↓GB, List.filterMap_cons, eq_self, BEq.rfl, simprocAttr, List.getD_cons_zero, List.getD_cons_succ, or_false, false_or, or_self, or_true, true_or, decide_true]) (by simp only [GA, ↓GB, List.filterMap_cons, eq_self, BEq.rfl, simprocAttr, List.getD_cons_zero, List.getD_cons_succ, or_false, false_or, or_self, or_true, true_or, decide_true]) (by simp only [GA, ↓GB, List.filterMap_cons, eq_self, BEq.rfl, simprocAttr, List.getD_cons_zero, List.getD_cons_succ, or_false, false_or, or_self, or_true, true_or, decide_true])), by show ms.length - (i + 1) < ms.length - i; omega⟩
    rcases Nat.lt_or_eq_of_le (Nat.le_of_lt_succ hj) with h | h
    · exact hno j h
    · rw [h]; exact hb
  · exact hN0 _ _ ⟨rfl, by rw [idxNone _ _ (fun j hj => hno j (by omega))]; rfl⟩
theorem indexFuncO (ms : List Rs) (hms : ms.length ≤ 1000000) (x : Rs) : Ctr Tryd.prog [] 112 [mrow ms, .cells [.v (.int .i64 x.t), .v (.string (B x.s)), .v (.int .u64 x.q), .v (.bool x.g), .v (.string (B x.b))] 89] [.one (.c (.row 0)), .one (.c (.clo 113 [] [.loc 1 0]))]
    (fun os v => os = [mrow ms, .cells [.v (.int .i64 x.t), .v (.string (B x.s)), .v (.int .u64 x.q), .v (.bool x.g), .v (.string (B x.b))] 89] ∧ v = vv (.int .i64 (idxI (isO x) ms))) := by
  have hrun : ∀ m : Rs, Ctr Tryd.prog [] 113 [.cells [.v (.int .i64 x.t), .v (.string (B x.s)), .v (.int .u64 x.q), .v (.bool x.g), .v (.string (B x.b))] 89] [.one (.agg [.v (.int .i64 m.t), .v (.string (B m.s)), .v (.int .u64 m.q), .v (.bool m.g), .v (.string (B m.b))]), .one (.c (.loc 0 0))]
    (fun os v => os = [.cells [.v (.int .i64 x.t), .v (.string (B x.s)), .v (.int .u64 x.q), .v (.bool x.g), .v (.string (B x.b))] 89] ∧ v = vv (.bool ((isO x) m))) := fun m => set1_ctr m x
  intro X0 hP0 hG0 N0 hN0
  refine CallVC.inline (f := 112) (by rw [hP0]; exact Tryd.func112) rfl Tryd.ntmps112 rfl (by simp) ?_
  intro X K hU hnt hbl hK
  have hP : X.P = Tryd.prog := by rw [hU.P, hP0]
  have hG := hG0.under hU
  have hT : X.P.underlying 79 = some (TypeDesc.slice 89) ∧ elemSz X.P 79 = some (89, 5) ∧ aggOf X.P 89 = some true ∧ szOf X.P 89 = some 5 := by rw [hP]; exact ⟨Tryd.underlying79, Ty.el79, Ty.ag89, Ty.sz89⟩
  simp only [GA, ↓GB, List.filterMap_cons, eq_self, BEq.rfl, simprocAttr] at hbl ⊢
  have hc : calleeOk X.P 113 = true := by rw [hP]; kernel_rfl
  repeat' (first
    | (refine SX.seqK ?_; intro N hN)
    | ((first | (refine SX.ops ?_)); simp only [GA, ↓GB, List.filterMap_cons, eq_self, BEq.rfl, simprocAttr, hnt, hT, hc])
    | ((first | refine SX.skip ?_ | refine SX.exit ?_ | refine SX.label ?_); try simp only [GA, ↓GB, List.filterMap_cons, eq_self, BEq.rfl, simprocAttr])
    | (refine SX.cond rfl (fun hb => ?_) (fun hb => ?_) <;> ((first | cases hb | (simp only [decide_eq_true_eq, decide_eq_false_iff_not, beq_iff_eq, beq_eq_false_iff_ne, bne_iff_ne, Bool.and_eq_true, Bool.or_eq_true, Bool.not_eq_true', Bool.not_eq_false', Bool.and_eq_false_iff, Bool.or_eq_false_iff, Int.not_lt, Int.not_le] at hb) | skip) <;> (first | (exfalso; omega) | skip)))
    | (refine SX.ret ?_; try simp only [GA, ↓GB, List.filterMap_cons, eq_self, BEq.rfl, simprocAttr])
    | (refine hN _ ?_; clear hN N)
    | ((first | refine hK _ _ (FinI.ret3 ?_) | refine hK _ _ (FinI.nrm3 ?_)); simp only [GA, ↓GB, List.filterMap_cons, eq_self, BEq.rfl, simprocAttr, finP_s, hnt, hT, hc]; refine Done.out ?_)
    | (clear hN N; first | (refine hN _ ?_; clear hN N) | (clear hN N; first | (refine hN _ ?_; clear hN N) | (clear hN N; first | (refine hN _ ?_; clear hN N) | (clear hN N; first | (refine hN _ ?_; clear hN N) | (clear hN N; first | (refine hN _ ?_; clear hN N) | (refine hN _ ?_; clear hN N))))))
    | (refine bif2.mk (fun hb => ?_) (fun hb => ?_) <;> (try simp only [hb, GA, ↓GB, List.filterMap_cons, eq_self, BEq.rfl, simprocAttr, hnt, hT, hc]) <;> ((first | cases hb | (simp only [decide_eq_true_eq, decide_eq_false_iff_not, beq_iff_eq, beq_eq_false_iff_ne, bne_iff_ne, Bool.and_eq_true, Bool.or_eq_true, Bool.not_eq_true', Bool.not_eq_false', Bool.and_eq_false_iff, Bool.or_eq_false_iff, Int.not_lt, Int.not_le] at hb) | skip) <;> (first | (exfalso; omega) | skip)))
    | ((first | (refine Ctr.use (hrun (ms.getD i default)) hP ?_ [1] ?_ rfl rfl ?_; (focus (intro p hp; cases hp)); (focus (refine LeR.of rfl trivial ?_ ?_ ?_ ?_ ?_ <;> first | decide | (simp only [GA, ↓GB, List.filterMap_cons, eq_self, BEq.rfl, simprocAttr, List.getD_cons_zero, List.getD_cons_succ, or_false, false_or, or_self, or_true, true_or, decide_true]; done))); intro os' s hR; obtain ⟨rfl, rfl⟩ := hR)); simp only [GA, ↓GB, List.filterMap_cons, eq_self, BEq.rfl, simprocAttr, hnt, hT, hc])
    | (refine SX.loop (ι := { i : Nat // i ≤ ms.length ∧ ∀ j, j < i → (isO x) (ms.getD j default) = false }) (fun i => ⟨[(0, .one (.c (.row 0))), (1, .one (.c (.clo 113 [] [.loc 1 0]))), (7, vv (.int .i64 ms.length)), (8, vv (.int .i64 i.1))], [mrow ms, .cells [.v (.int .i64 x.t), .v (.string (B x.s)), .v (.int .u64 x.q), .v (.bool x.g), .v (.string (B x.b))] 89]⟩) (fun i => ms.length - i.1) ⟨0, by omega, fun j hj => absurd hj (Nat.not_lt_zero j)⟩ ⟨[0, 1], (LeR.of (by rw [hbl]; decide) (by simp only [GA, ↓GB, List.filterMap_cons, eq_self, BEq.rfl, simprocAttr, List.getD_cons_zero, List.getD_cons_succ, or_false, false_or, or_self, or_true, true_or, decide_true]) (by simp only [GA, ↓GB, List.filterMap_cons, eq_self, BEq.rfl, simprocAttr, List.getD_cons_zero, List.getD_cons_succ, or_false, false_or, or_self, or_true, true_or, decide_true]) (by decide) (by simp only [GA, ↓GB, List.filterMap_cons, eq_self, BEq.rfl, simprocAttr, List.getD_cons_zero, List.getD_cons_succ, or_false, false_or, or_self, or_true, true_or, decide_true]) (by simp only [GA, ↓GB, List.filterMap_cons, eq_self, BEq.rfl, simprocAttr, List.getD_cons_zero, List.getD_cons_succ, or_false, false_or, or_self, or_true, true_or, decide_true]) (by simp only [GA, ↓GB, List.filterMap_cons, eq_self, BEq.rfl, simprocAttr, List.getD_cons_zero, List.getD_cons_succ, or_false, false_or, or_self, or_true, true_or, decide_true]))⟩ ?_ <;> rintro ⟨i, hi, hno⟩ <;> simp only [] at hi hno ⊢)
    | (refine ⟨(ms.getD i default).cells, rfl, mks_at _ _ (by omega), ?_⟩ <;> simp only [Rs.cells, GA, ↓GB, List.filterMap_cons, eq_self, BEq.rfl, simprocAttr, hnt, hT])
    | (refine SX.block ?_)
    | (refine and_mk ?_ ?_; (focus first | decide | omega | rfl | assumption | (simp only [List.length_append, List.length_cons, List.length_nil, B_size]; omega) | (simp; done)))
    | (refine And.intro ?_ ?_))
  all_goals (try refine Done.mk ?_)
  · exact hN0 _ _ ⟨rfl, by rw [idxN _ _ i (by omega) hb hno]; rfl⟩
  · refine ⟨⟨i + 1, by omega, fun j hj => ?_⟩, [0, 1], (LeR.of (by rw [hbl]; decide) (by simp only [GA, ↓GB, List.filterMap_cons, eq_self, BEq.rfl, simprocAttr, List.getD_cons_zero, List.getD_cons_succ, or_false, false_or, or_self, or_true, true_or, decide_true]; try (rw [wI64 (by omega) (by omega)]; simp)) (by simp only [GA, ↓GB, List.filterMap_cons, eq_self, BEq.rfl, simprocAttr, List.getD_cons_zero, List.getD_cons_succ, or_false, false_or, or_self, or_true, true_or, decide_true]; try (rw [wI64 (by omega) (by omega)]; simp)) (by decide) (by simp only [GA, ↓GB, List.filterMap_cons, eq_self, BEq.rfl, simprocAttr, List.getD_cons_zero, List.getD_cons_succ, or_false, false_or, or_self, or_true, true_or, decide_true]) (by simp only [GA, ↓GB, List.filterMap_cons, eq_self, BEq.rfl, simprocAttr, List.getD_cons_zero, List.getD_cons_succ, or_false, false_or, or_self, or_true, true_or, decide_true]) (by simp only [GA, ↓GB, List.filterMap_cons, eq_self, BEq.rfl, simprocAttr, List.getD_cons_zero, List.getD_cons_succ, or_false, false_or, or_self, or_true, true_or, decide_true])), by show ms.length - (i + 1) < ms.length - i; omega⟩
    rcases Nat.lt_or_eq_of_le (Nat.le_of_lt_succ hj) with h | h
    · exact hno j h
    · rw [h]; exact hb
  · exact hN0 _ _ ⟨rfl, by rw [idxNone _ _ (fun j hj => hno j (by omega))]; rfl⟩
end Go.Proofs.YtbdacbcpniegiaaDoor.Q
namespace Go.Proofs.YtbdacbcpniegiaaDoor.Q
open Go Go.RowKit Go.Proofs Go.Sx
set_option maxHeartbeats 4000000
set_option maxRecDepth 100000
set_option linter.unusedSimpArgs false
set_option linter.unusedVariables false
theorem mks_one (ms : List Rs) : ∀ u ∈ mks ms, u.oneCell' = true := by
  intro u hu
  simp only [mks, List.mem_flatMap] at hu
  obtain ⟨m, _, hu⟩ := hu
  simp only [Rs.cells, List.mem_cons, List.not_mem_nil, or_false] at hu
  rcases hu with rfl | rfl | rfl | rfl | rfl <;> rfl
theorem clone_ctr (ms : List Rs) (hms : ms.length ≤ 1000000) : Ctr Tryd.prog [] 117 [mrow ms] [.one (.c (.row 0))]
    (fun os v => os = [mrow ms, mrow ms] ∧ v = .one (.c (.row 1))) := by
  refine Ctr.nilRow 89 5 (Ctr.less ?_)
  intro X0 hP0 hG0 N0 hN0
  refine CallVC.inline (f := 117) (by rw [hP0]; exact Tryd.func117) rfl Tryd.ntmps117 rfl (by simp) ?_
  intro X K hU hnt hbl hK
  have hP : X.P = Tryd.prog := by rw [hU.P, hP0]
  have hG := hG0.under hU
  have hT : X.P.underlying 79 = some (TypeDesc.slice 89) ∧ elemSz X.P 79 = some (89, 5) ∧ zeroCells X.P 89 = some [(Value.int IntKind.i64 0), (Value.string { data := #[] }), (Value.int IntKind.u64 0), (Value.bool false), (Value.string { data := #[] })] ∧ elemInf X.P 79 = some (89, 5, 56, (Value.agg #[(Value.int IntKind.i64 0), (Value.string { data := #[] }), (Value.int IntKind.u64 0), (Value.bool false), (Value.string { data := #[] })])) ∧ isStrT X.P 79 = false := by rw [hP]; exact ⟨Tryd.underlying79, Ty.el79, Ty.ze89, Ty.ei79, Ty.is79⟩
  simp only [GA, ↓GB, List.filterMap_cons, eq_self, BEq.rfl, simprocAttr] at hbl ⊢
  repeat' (first
    | (refine SX.seqK ?_; intro N hN)
    | ((first | (refine SX.ops ?_)); simp only [GA, ↓GB, List.filterMap_cons, eq_self, BEq.rfl, simprocAttr, hnt, hT])
    | ((first | refine SX.skip ?_ | refine SX.exit ?_ | refine SX.label ?_); try simp only [GA, ↓GB, List.filterMap_cons, eq_self, BEq.rfl, simprocAttr])
    | (refine SX.cond rfl (fun hb => ?_) (fun hb => ?_) <;> ((first | cases hb | (simp only [decide_eq_true_eq, decide_eq_false_iff_not, beq_iff_eq, beq_eq_false_iff_ne, bne_iff_ne, Bool.and_eq_true, Bool.or_eq_true, Bool.not_eq_true', Bool.not_eq_false', Bool.and_eq_false_iff, Bool.or_eq_false_iff, Int.not_lt, Int.not_le] at hb) | skip) <;> (first | (exfalso; omega) | skip)))
    | (refine SX.ret ?_; try simp only [GA, ↓GB, List.filterMap_cons, eq_self, BEq.rfl, simprocAttr])
    | (refine hN _ ?_; clear hN N)
    | ((first | refine hK _ _ (FinI.ret3 ?_) | refine hK _ _ (FinI.nrm3 ?_)); simp only [GA, ↓GB, List.filterMap_cons, eq_self, BEq.rfl, simprocAttr, finP_s, hnt, hT]; refine Done.out ?_)
    | (clear hN N; first | (refine hN _ ?_; clear hN N) | (clear hN N; first | (refine hN _ ?_; clear hN N) | (clear hN N; first | (refine hN _ ?_; clear hN N) | (clear hN N; first | (refine hN _ ?_; clear hN N) | (clear hN N; first | (refine hN _ ?_; clear hN N) | (refine hN _ ?_; clear hN N))))))
    | (refine bif2.mk (fun hb => ?_) (fun hb => ?_) <;> (try simp only [hb, GA, ↓GB, List.filterMap_cons, eq_self, BEq.rfl, simprocAttr, hnt, hT]) <;> ((first | cases hb | (simp only [decide_eq_true_eq, decide_eq_false_iff_not, beq_iff_eq, beq_eq_false_iff_ne, bne_iff_ne, Bool.and_eq_true, Bool.or_eq_true, Bool.not_eq_true', Bool.not_eq_false', Bool.and_eq_false_iff, Bool.or_eq_false_iff, Int.not_lt, Int.not_le] at hb) | skip) <;> (first | (exfalso; omega) | skip)))
    | (refine VO.rowNil (e' := 89) rfl rfl rfl (by rw [hP]; kernel_rfl) (fun b hb0 => ?_) <;> simp only [GA, ↓GB, List.filterMap_cons, eq_self, BEq.rfl, simprocAttr, hnt, hT])
    | (refine VO.closeRow (t := 5) (j := 1) (us := []) (sz := 5) (e := 89) (n := 0) (cap := 0) rfl rfl rfl (Nat.le_refl _) (Nat.zero_le _) ?_ <;> refine VO.appendRow (i := 2) (j := 0) (e := 89) (e' := 89) (sz := 5) rfl rfl (by rw [hP]; exact Ty.ei79) rfl rfl (mks_one ms) (by simp only [maxLen]; omega) (by omega) ?_ <;> simp only [GA, ↓GB, List.filterMap_cons, eq_self, BEq.rfl, simprocAttr, hnt, hT, Nat.zero_add])
    | (refine SX.block ?_)
    | (refine and_mk ?_ ?_; (focus first | decide | omega | rfl | assumption | (simp only [List.length_append, List.length_cons, List.length_nil, B_size]; omega) | (simp; done)))
    | (refine And.intro ?_ ?_))
  all_goals (try refine Done.mk ?_)
  · have h0 := hb0 rfl
    obtain rfl : ms = [] := List.length_eq_zero_iff.1 h0
    refine hN0 _ _ ⟨[0], [mrow []], vv (.slice none 0 0), ?_, rfl, rfl, .inr ⟨rfl, rfl, rfl⟩⟩
    exact LeR.of rfl trivial ⟨.inr rfl, trivial⟩ (by decide) rfl rfl rfl
  · refine hN0 _ _ ⟨[0, 3], [mrow ms, mrow ms], .one (.c (.row 1)), ?_, rfl, rfl, .inl ⟨rfl, rfl⟩⟩
    exact LeR.of rfl trivial ⟨.inr rfl, .inr rfl, trivial⟩ (by decide) rfl rfl rfl
end Go.Proofs.YtbdacbcpniegiaaDoor.Q
namespace Go.Proofs.YtbdacbcpniegiaaDoor.Q
open Go Go.RowKit Go.Proofs Go.Sx
set_option maxHeartbeats 4000000
set_option maxRecDepth 100000
set_option linter.unusedSimpArgs false
set_option linter.unusedVariables false
theorem idxI_spec (p : Rs → Bool) (ms : List Rs) : (idxI p ms = -1 ∧ ∀ j, j < ms.length → p (ms.getD j default) = false) ∨ ∃ k, k < ms.length ∧ idxI p ms = (k : Int) ∧ p (ms.getD k default) = true ∧ ∀ j, j < k → p (ms.getD j default) = false := by
  unfold idxI
  cases h : ms.findIdx? p with
  | none =>
    refine .inl ⟨rfl, fun j hj => ?_⟩
    rw [List.findIdx?_eq_none_iff] at h
    rw [List.getD_eq_getElem?_getD, List.getElem?_eq_getElem hj]
    exact h _ (List.getElem_mem hj)
  | some k =>
    rw [List.findIdx?_eq_some_iff_getElem] at h
    obtain ⟨hk, hp, hn⟩ := h
    refine .inr ⟨k, hk, rfl, by simpa [List.getD_eq_getElem?_getD, List.getElem?_eq_getElem hk] using hp, fun j hj => ?_⟩
    have := hn j hj
    simpa [List.getD_eq_getElem?_getD, List.getElem?_eq_getElem (show j < ms.length by omega)] using this
theorem filter_none (p : Rs → Bool) (ms : List Rs) (h : ∀ j, j < ms.length → p (ms.getD j default) = false) : (ms.filter fun m => !p m) = ms := by
  rw [List.filter_eq_self]
  intro x hx
  obtain ⟨j, hj, rfl⟩ := List.mem_iff_getElem.1 hx
  have := h j hj
  rw [List.getD_eq_getElem?_getD, List.getElem?_eq_getElem hj] at this
  simpa using this
theorem take_filter (p : Rs → Bool) (ms : List Rs) (k : Nat) (hk : k < ms.length) (hp : p (ms.getD k default) = true) (hn : ∀ j, j < k → p (ms.getD j default) = false) : ms.take k = ((ms.take (k + 1)).filter fun m => !p m) := by
  rw [List.take_succ_eq_append_getElem hk, List.filter_append]
  rw [List.getD_eq_getElem?_getD, List.getElem?_eq_getElem hk] at hp
  have h1 : ([ms[k]].filter fun m => !p m) = [] := by simp at hp; simp [hp]
  rw [h1, List.append_nil]
  refine (filter_none p _ fun j hj => ?_).symm
  have := hn j (by simp at hj; omega)
  simp only [List.getD_eq_getElem?_getD] at this ⊢
  rw [List.getElem?_take_of_lt (by simp at hj; omega)]
  exact this
theorem getD_drop (l ms : List Rs) (j : Nat) (h : l.drop j = ms.drop j) (hj : j < ms.length) : l.getD j default = ms.getD j default := by
  have := congrArg (fun x : List Rs => x[0]?) h
  simp only [List.getElem?_drop, Nat.add_zero] at this
  rw [List.getD_eq_getElem?_getD, List.getD_eq_getElem?_getD, this]
theorem mks_set : ∀ (l : List Rs) (i : Nat) (m : Rs), i < l.length → (mks l).take (i * 5) ++ m.cells ++ (mks l).drop (i * 5 + 5) = mks (l.set i m)
  | [], i, m, h => by simp at h
  | x :: l, 0, m, h => by
    simp only [Nat.zero_mul, List.take_zero, List.nil_append, List.set_cons_zero, mks_cons, Nat.zero_add]
    rw [List.drop_append, List.drop_of_length_le (by simp [Rs.cells])]
    simp [Rs.cells]
  | x :: l, i + 1, m, h => by
    have := mks_set l i m (by simpa using h)
    rw [List.set_cons_succ, mks_cons, mks_cons, ← this, show (i + 1) * 5 = x.cells.length + i * 5 by simp [Rs.cells]; omega, List.take_append, List.take_of_length_le (by omega), Nat.add_assoc, List.drop_append, List.drop_of_length_le (by omega)]
    simp
theorem lp_keep (p : Rs → Bool) (ms l : List Rs) (i j : Nat) (hl : l.length = ms.length) (hij : i < j) (hj : j < ms.length) (hft : l.take i = ((ms.take j).filter fun m => !p m)) (hp : p (ms.getD j default) = false) :
    (l.set i (ms.getD j default)).take (i + 1) = ((ms.take (j + 1)).filter fun m => !p m) := by
  have e : ms.getD j default = ms[j] := by rw [List.getD_eq_getElem?_getD, List.getElem?_eq_getElem hj]; rfl
  generalize ms.getD j default = v at *
  rw [List.take_succ_eq_append_getElem (by simp; omega), List.take_succ_eq_append_getElem hj, List.filter_append, ← hft, List.take_set_of_le (Nat.le_refl _), ← e]
  simp [hp]
theorem lp_skip (p : Rs → Bool) (ms l : List Rs) (i j : Nat) (hj : j < ms.length) (hft : l.take i = ((ms.take j).filter fun m => !p m)) (hp : p (ms.getD j default) = true) :
    l.take i = ((ms.take (j + 1)).filter fun m => !p m) := by
  have e : ms.getD j default = ms[j] := by rw [List.getD_eq_getElem?_getD, List.getElem?_eq_getElem hj]; rfl
  rw [List.take_succ_eq_append_getElem hj, List.filter_append, ← hft]
  rw [e] at hp
  simp [hp]
theorem lp_drop (ms l : List Rs) (i j : Nat) (v : Rs) (hij : i < j) (hdr : l.drop j = ms.drop j) : (l.set i v).drop (j + 1) = ms.drop (j + 1) := by
  rw [List.drop_set_of_lt (by omega), ← List.drop_drop (i := 1) (j := j), ← List.drop_drop (i := 1) (j := j), hdr]
theorem lp_drop' (ms l : List Rs) (j : Nat) (hdr : l.drop j = ms.drop j) : l.drop (j + 1) = ms.drop (j + 1) := by
  rw [← List.drop_drop (i := 1) (j := j), ← List.drop_drop (i := 1) (j := j), hdr]
theorem lp_end (p : Rs → Bool) (ms l : List Rs) (i j : Nat) (ys vs ds : List Value) (hl : l.length = ms.length) (hij : i < j) (hj : j = ms.length) (hft : l.take i = ((ms.take j).filter fun m => !p m)) :
    LO.row 89 5 i (List.take (i * 5) (List.take (0 + i * 5) (mks l ++ ys) ++ vs ++ ds)) = mrow (ms.filter fun m => !p m) := by
  subst hj
  rw [List.take_length] at hft
  have hi : (ms.filter fun m => !p m).length = i := by rw [← hft]; simp; omega
  have hle : i * 5 ≤ (mks l).length := by rw [mks_length]; omega
  simp only [Nat.zero_add, mrow, hi]
  congr 1
  rw [List.append_assoc, List.take_append_of_le_length (by simp; omega), List.take_take, Nat.min_self, List.take_append_of_le_length hle, mks_take, hft]
theorem deleteFuncK (ms : List Rs) (hms : ms.length ≤ 1000000) (b : Int) (t : List UInt8) : Ctr Tryd.prog [] 116 [mrow ms, .cells [.v (.int .i64 b), .v (.string (B t))] 26] [.one (.c (.row 0)), .one (.c (.clo 147 [] [.loc 1 0]))]
    (fun os v => os = [.gone, .cells [.v (.int .i64 b), .v (.string (B t))] 26, mrow (ms.filter fun m => !(isK b t) m)] ∧ v = .one (.c (.row 2))) := by
  refine Ctr.less ?_
  have hrun : ∀ m : Rs, Ctr Tryd.prog [] 147 [.cells [.v (.int .i64 b), .v (.string (B t))] 26] [.one (.agg [.v (.int .i64 m.t), .v (.string (B m.s)), .v (.int .u64 m.q), .v (.bool m.g), .v (.string (B m.b))]), .one (.c (.loc 0 0))]
    (fun os v => os = [.cells [.v (.int .i64 b), .v (.string (B t))] 26] ∧ v = vv (.bool ((isK b t) m))) := fun m => of1_ctr m b t
  rcases idxI_spec (isK b t) ms with ⟨he, hall⟩ | ⟨k0, hk0, he, hp0, hn0⟩
  · have hfil : (ms.filter fun m => !(isK b t) m) = ms := filter_none _ ms hall
    rw [hfil]
    intro X0 hP0 hG0 N0 hN0
    refine CallVC.inline (f := 116) (by rw [hP0]; exact Tryd.func116) rfl Tryd.ntmps116 rfl (by simp) ?_
    intro X K hU hnt hbl hK
    have hP : X.P = Tryd.prog := by rw [hU.P, hP0]
    have hG := hG0.under hU
    have hT : calleeOk X.P 112 = true ∧ X.P.underlying 79 = some (TypeDesc.slice 89) ∧ elemSz X.P 79 = some (89, 5) ∧ aggOf X.P 89 = some true ∧ szOf X.P 89 = some 5 ∧ zeroCells X.P 89 = some [(Value.int IntKind.i64 0), (Value.string { data := #[] }), (Value.int IntKind.u64 0), (Value.bool false), (Value.string { data := #[] })] ∧ isStrT X.P 79 = false ∧ elemInf X.P 79 = some (89, 5, 56, (Value.agg #[(Value.int IntKind.i64 0), (Value.string { data := #[] }), (Value.int IntKind.u64 0), (Value.bool false), (Value.string { data := #[] })])) := by rw [hP]; exact ⟨Ty.co112, Tryd.underlying79, Ty.el79, Ty.ag89, Ty.sz89, Ty.ze89, Ty.is79, Ty.ei79⟩
    simp only [GA, ↓GB, List.filterMap_cons, eq_self, BEq.rfl, simprocAttr] at hbl ⊢
    have hc : calleeOk X.P 147 = true := by rw [hP]; kernel_rfl
    refine SX.moveRow (t := 0) (i := 0) rfl rfl ?_
    simp only [GA, ↓GB, List.filterMap_cons, eq_self, BEq.rfl, simprocAttr]
    repeat' (first
      | (refine SX.seqK ?_; intro N hN)
      | ((first | (refine SX.ops ?_)); simp only [GA, ↓GB, List.filterMap_cons, eq_self, BEq.rfl, simprocAttr, hnt, hT, hc, he])
      | ((first | refine SX.skip ?_ | refine SX.exit ?_ | refine SX.label ?_); try simp only [GA, ↓GB, List.filterMap_cons, eq_self, BEq.rfl, simprocAttr])
      | (refine SX.cond rfl (fun hb => ?_) (fun hb => ?_) <;> ((first | cases hb | (simp only [decide_eq_true_eq, decide_eq_false_iff_not, beq_iff_eq, beq_eq_false_iff_ne, bne_iff_ne, Bool.and_eq_true, Bool.or_eq_true, Bool.not_eq_true', Bool.not_eq_false', Bool.and_eq_false_iff, Bool.or_eq_false_iff, Int.not_lt, Int.not_le] at hb) | skip) <;> (first | (exfalso; omega) | skip)))
      | (refine SX.ret ?_; try simp only [GA, ↓GB, List.filterMap_cons, eq_self, BEq.rfl, simprocAttr])
      | (refine hN _ ?_; clear hN N)
      | ((first | refine hK _ _ (FinI.ret3 ?_) | refine hK _ _ (FinI.nrm3 ?_)); simp only [GA, ↓GB, List.filterMap_cons, eq_self, BEq.rfl, simprocAttr, finP_s, hnt, hT, hc, he]; refine Done.out ?_)
      | (clear hN N; first | (refine hN _ ?_; clear hN N) | (clear hN N; first | (refine hN _ ?_; clear hN N) | (clear hN N; first | (refine hN _ ?_; clear hN N) | (clear hN N; first | (refine hN _ ?_; clear hN N) | (clear hN N; first | (refine hN _ ?_; clear hN N) | (refine hN _ ?_; clear hN N))))))
      | (refine bif2.mk (fun hb => ?_) (fun hb => ?_) <;> (try simp only [hb, GA, ↓GB, List.filterMap_cons, eq_self, BEq.rfl, simprocAttr, hnt, hT, hc, he]) <;> ((first | cases hb | (simp only [decide_eq_true_eq, decide_eq_false_iff_not, beq_iff_eq, beq_eq_false_iff_ne, bne_iff_ne, Bool.and_eq_true, Bool.or_eq_true, Bool.not_eq_true', Bool.not_eq_false', Bool.and_eq_false_iff, Bool.or_eq_false_iff, Int.not_lt, Int.not_le] at hb) | skip) <;> (first | (exfalso; omega) | skip)))
      | ((first | (refine Ctr.use (hrun (ms.getD j default)) hP ?_ [1] ?_ rfl rfl ?_; (focus (intro p hp; cases hp)); (focus (refine LeR.of rfl trivial ?_ ?_ ?_ ?_ ?_ <;> first | decide | (simp only [GA, ↓GB, List.filterMap_cons, eq_self, BEq.rfl, simprocAttr, List.getD_cons_zero, List.getD_cons_succ, or_false, false_or, or_self, or_true, true_or, decide_true]; done))); intro os' s hR; obtain ⟨rfl, rfl⟩ := hR) | (refine Ctr.use (indexFuncK ms hms b t) hP ?_ [2,1] ?_ rfl rfl ?_; (focus (intro p hp; cases hp)); (focus (refine LeR.of rfl trivial ?_ ?_ ?_ ?_ ?_ <;> first | decide | (simp only [GA, ↓GB, List.filterMap_cons, eq_self, BEq.rfl, simprocAttr, List.getD_cons_zero, List.getD_cons_succ, or_false, false_or, or_self, or_true, true_or, decide_true]; done))); intro os' s hR; obtain ⟨rfl, rfl⟩ := hR)); simp only [GA, ↓GB, List.filterMap_cons, eq_self, BEq.rfl, simprocAttr, hnt, hT, hc, he])
      | (refine SX.block ?_)
      | (refine and_mk ?_ ?_; (focus first | decide | omega | rfl | assumption | (simp only [List.length_append, List.length_cons, List.length_nil, B_size]; omega) | (simp; done)))
      | (refine And.intro ?_ ?_))
    all_goals (try refine Done.mk ?_)
    all_goals ((refine hN0 _ _ ⟨[0, 1, 2], _, _, ?_, ?_, ?_, ⟨rfl, rfl⟩⟩; (focus exact LeR.of rfl trivial (by simp only [GA, ↓GB, List.filterMap_cons, eq_self, BEq.rfl, simprocAttr, List.getD_cons_zero, List.getD_cons_succ, or_false, false_or, or_self, or_true, true_or, decide_true]) (by decide) rfl rfl rfl); rotate_left; (focus rfl)))
    all_goals rfl
  · intro X0 hP0 hG0 N0 hN0
    refine CallVC.inline (f := 116) (by rw [hP0]; exact Tryd.func116) rfl Tryd.ntmps116 rfl (by simp) ?_
    intro X K hU hnt hbl hK
    have hP : X.P = Tryd.prog := by rw [hU.P, hP0]
    have hG := hG0.under hU
    have hT : calleeOk X.P 112 = true ∧ X.P.underlying 79 = some (TypeDesc.slice 89) ∧ elemSz X.P 79 = some (89, 5) ∧ aggOf X.P 89 = some true ∧ szOf X.P 89 = some 5 ∧ zeroCells X.P 89 = some [(Value.int IntKind.i64 0), (Value.string { data := #[] }), (Value.int IntKind.u64 0), (Value.bool false), (Value.string { data := #[] })] ∧ isStrT X.P 79 = false ∧ elemInf X.P 79 = some (89, 5, 56, (Value.agg #[(Value.int IntKind.i64 0), (Value.string { data := #[] }), (Value.int IntKind.u64 0), (Value.bool false), (Value.string { data := #[] })])) := by rw [hP]; exact ⟨Ty.co112, Tryd.underlying79, Ty.el79, Ty.ag89, Ty.sz89, Ty.ze89, Ty.is79, Ty.ei79⟩
    simp only [GA, ↓GB, List.filterMap_cons, eq_self, BEq.rfl, simprocAttr] at hbl ⊢
    have hc : calleeOk X.P 147 = true := by rw [hP]; kernel_rfl
    refine SX.moveRow (t := 0) (i := 0) rfl rfl ?_
    simp only [GA, ↓GB, List.filterMap_cons, eq_self, BEq.rfl, simprocAttr]
    repeat' (first
      | (refine SX.openRow (code := .seq (.region 11 _ _) _) (t := 0) (i := 2) rfl rfl (by omega) (fun cap ys hcap1 hcap2 hys => ?_) <;> simp only [GA, ↓GB, List.filterMap_cons, eq_self, BEq.rfl, simprocAttr])
      | (refine SX.closeRow (code := .ret) (t := 4) (j := 3) (sz := 5) (cap := cap) (n := i) rfl rfl (by simp only [List.length_append, List.length_take, List.length_drop, mks_length, hvs, hys]; omega) (by omega) hcap2 ?_ <;> simp only [GA, ↓GB, List.filterMap_cons, eq_self, BEq.rfl, simprocAttr])
      | (refine SX.seqK ?_; intro N hN)
      | ((first | (refine SX.ops ?_)); simp only [GA, ↓GB, List.filterMap_cons, eq_self, BEq.rfl, simprocAttr, hnt, hT, hc, he])
      | ((first | refine SX.skip ?_ | refine SX.exit ?_ | refine SX.label ?_); try simp only [GA, ↓GB, List.filterMap_cons, eq_self, BEq.rfl, simprocAttr])
      | (refine SX.cond rfl (fun hb => ?_) (fun hb => ?_) <;> ((first | cases hb | (simp only [decide_eq_true_eq, decide_eq_false_iff_not, beq_iff_eq, beq_eq_false_iff_ne, bne_iff_ne, Bool.and_eq_true, Bool.or_eq_true, Bool.not_eq_true', Bool.not_eq_false', Bool.and_eq_false_iff, Bool.or_eq_false_iff, Int.not_lt, Int.not_le] at hb) | skip) <;> (first | (exfalso; omega) | skip)))
      | (refine SX.ret ?_; try simp only [GA, ↓GB, List.filterMap_cons, eq_self, BEq.rfl, simprocAttr])
      | (refine hN _ ?_; clear hN N)
      | ((first | refine hK _ _ (FinI.ret3 ?_) | refine hK _ _ (FinI.nrm3 ?_)); simp only [GA, ↓GB, List.filterMap_cons, eq_self, BEq.rfl, simprocAttr, finP_s, hnt, hT, hc, he]; refine Done.out ?_)
      | (clear hN N; first | (refine hN _ ?_; clear hN N) | (clear hN N; first | (refine hN _ ?_; clear hN N) | (clear hN N; first | (refine hN _ ?_; clear hN N) | (clear hN N; first | (refine hN _ ?_; clear hN N) | (clear hN N; first | (refine hN _ ?_; clear hN N) | (refine hN _ ?_; clear hN N))))))
      | (refine bif2.mk (fun hb => ?_) (fun hb => ?_) <;> (try simp only [hb, GA, ↓GB, List.filterMap_cons, eq_self, BEq.rfl, simprocAttr, hnt, hT, hc, he]) <;> ((first | cases hb | (simp only [decide_eq_true_eq, decide_eq_false_iff_not, beq_iff_eq, beq_eq_false_iff_ne, bne_iff_ne, Bool.and_eq_true, Bool.or_eq_true, Bool.not_eq_true', Bool.not_eq_false', Bool.and_eq_false_iff, Bool.or_eq_false_iff, Int.not_lt, Int.not_le] at hb) | skip) <;> (first | (exfalso; omega) | skip)))
      | ((first | (refine Ctr.use (hrun (ms.getD j default)) hP ?_ [1] ?_ rfl rfl ?_; (focus (intro p hp; cases hp)); (focus (refine LeR.of rfl trivial ?_ ?_ ?_ ?_ ?_ <;> first | decide | (simp only [GA, ↓GB, List.filterMap_cons, eq_self, BEq.rfl, simprocAttr, List.getD_cons_zero, List.getD_cons_succ, or_false, false_or, or_self, or_true, true_or, decide_true]; done))); intro os' s hR; obtain ⟨rfl, rfl⟩ := hR) | (refine Ctr.use (indexFuncK ms hms b t) hP ?_ [2,1] ?_ rfl rfl ?_; (focus (intro p hp; cases hp)); (focus (refine LeR.of rfl trivial ?_ ?_ ?_ ?_ ?_ <;> first | decide | (simp only [GA, ↓GB, List.filterMap_cons, eq_self, BEq.rfl, simprocAttr, List.getD_cons_zero, List.getD_cons_succ, or_false, false_or, or_self, or_true, true_or, decide_true]; done))); intro os' s hR; obtain ⟨rfl, rfl⟩ := hR)); simp only [GA, ↓GB, List.filterMap_cons, eq_self, BEq.rfl, simprocAttr, hnt, hT, hc, he])
      | (refine SX.loop (ι := { p : Nat × Nat × List Rs // p.1 < p.2.1 ∧ p.2.1 ≤ ms.length ∧ p.2.2.length = ms.length ∧ p.2.2.take p.1 = ((ms.take p.2.1).filter fun m => !(isK b t) m) ∧ p.2.2.drop p.2.1 = ms.drop p.2.1 }) (fun i => ⟨[(0, .one (.c (.row 2))), (1, .one (.c (.clo 147 [] [.loc 1 0]))), (5, vv (.int .i64 i.1.1)), (6, vv (.int .i64 i.1.2.1))], [.gone, .cells [.v (.int .i64 b), .v (.string (B t))] 26, .row 89 5 ms.length (mks i.1.2.2)]⟩) (fun i => ms.length - i.1.2.1) ⟨(k0, k0 + 1, ms), by simp, by simp; omega, rfl, take_filter _ ms k0 hk0 hp0 hn0, rfl⟩ ⟨[0, 1, 2], (LeR.of (by rw [hbl]; decide) (by simp only [GA, ↓GB, List.filterMap_cons, eq_self, BEq.rfl, simprocAttr, List.getD_cons_zero, List.getD_cons_succ, or_false, false_or, or_self, or_true, true_or, decide_true]; try (rw [wI64 (by omega) (by omega)]; rfl)) (by simp only [GA, ↓GB, List.filterMap_cons, eq_self, BEq.rfl, simprocAttr, List.getD_cons_zero, List.getD_cons_succ, or_false, false_or, or_self, or_true, true_or, decide_true]; try (rw [wI64 (by omega) (by omega)]; rfl)) (by decide) (by simp only [GA, ↓GB, List.filterMap_cons, eq_self, BEq.rfl, simprocAttr, List.getD_cons_zero, List.getD_cons_succ, or_false, false_or, or_self, or_true, true_or, decide_true]) (by simp only [GA, ↓GB, List.filterMap_cons, eq_self, BEq.rfl, simprocAttr, List.getD_cons_zero, List.getD_cons_succ, or_false, false_or, or_self, or_true, true_or, decide_true]) (by simp only [GA, ↓GB, List.filterMap_cons, eq_self, BEq.rfl, simprocAttr, List.getD_cons_zero, List.getD_cons_succ, or_false, false_or, or_self, or_true, true_or, decide_true]))⟩ ?_ <;> rintro ⟨⟨i, j, l⟩, hij, hjn, hl, hft, hdr⟩ <;> simp only [] at hij hjn hl hft hdr ⊢)
      | (refine ⟨(ms.getD j default).cells, rfl, (by rw [← getD_drop l ms j hdr (by omega)]; exact mks_at l j (by omega)), ?_⟩ <;> simp only [Rs.cells, GA, ↓GB, List.filterMap_cons, eq_self, BEq.rfl, simprocAttr, hnt, hT])
      | (refine ⟨by rw [mks_length]; omega, ?_⟩)
      | ((rw [if_neg (show ¬ cap = i by omega)] <;> show VO X _ _ _ <;> refine VO.clearSl (j := 3) (e1 := 89) (us := mks l ++ ys) rfl (by rw [hP]; exact Ty.ei79) rfl (by rw [List.length_append, mks_length, hys]; omega) (fun q hq => by have hq : q < 5 := hq; rcases q with _ | _ | _ | _ | _ | q <;> first | rfl | omega) (by omega) rfl (fun vs hvs => ?_) <;> simp only [GA, ↓GB, List.filterMap_cons, eq_self, BEq.rfl, simprocAttr, hnt, hT]))
      | (refine SX.block ?_)
      | (refine and_mk ?_ ?_; (focus first | decide | omega | rfl | assumption | (simp only [List.length_append, List.length_cons, List.length_nil, B_size]; omega) | (simp; done)))
      | (refine And.intro ?_ ?_))
    all_goals (try refine Done.mk ?_)
    · refine ⟨⟨(i + 1, j + 1, l.set i (ms.getD j default)), by show i + 1 < j + 1; omega, by show j + 1 ≤ ms.length; omega, by show (l.set i (ms.getD j default)).length = ms.length; rw [List.length_set]; exact hl, lp_keep _ ms l i j hl hij (by omega) hft (by assumption), lp_drop ms l i j _ hij hdr⟩, [0, 1, 2], (LeR.of (by rw [hbl]; decide) (by simp only [GA, ↓GB, List.filterMap_cons, eq_self, BEq.rfl, simprocAttr, List.getD_cons_zero, List.getD_cons_succ, or_false, false_or, or_self, or_true, true_or, decide_true]; try (first | (refine ⟨?_, ?_⟩ <;> (rw [wI64 (by omega) (by omega)]; rfl)) | exact congrArg _ (mks_set l i (ms.getD j default) (by omega)))) (by simp only [GA, ↓GB, List.filterMap_cons, eq_self, BEq.rfl, simprocAttr, List.getD_cons_zero, List.getD_cons_succ, or_false, false_or, or_self, or_true, true_or, decide_true]; try (first | (refine ⟨?_, ?_⟩ <;> (rw [wI64 (by omega) (by omega)]; rfl)) | exact congrArg _ (mks_set l i (ms.getD j default) (by omega)))) (by decide) (by simp only [GA, ↓GB, List.filterMap_cons, eq_self, BEq.rfl, simprocAttr, List.getD_cons_zero, List.getD_cons_succ, or_false, false_or, or_self, or_true, true_or, decide_true]) (by simp only [GA, ↓GB, List.filterMap_cons, eq_self, BEq.rfl, simprocAttr, List.getD_cons_zero, List.getD_cons_succ, or_false, false_or, or_self, or_true, true_or, decide_true]) (by simp only [GA, ↓GB, List.filterMap_cons, eq_self, BEq.rfl, simprocAttr, List.getD_cons_zero, List.getD_cons_succ, or_false, false_or, or_self, or_true, true_or, decide_true])), by show ms.length - (j + 1) < ms.length - j; omega⟩
    · refine ⟨⟨(i, j + 1, l), by show i < j + 1; omega, by show j + 1 ≤ ms.length; omega, hl, lp_skip _ ms l i j (by omega) hft (by assumption), lp_drop' ms l j hdr⟩, [0, 1, 2], (LeR.of (by rw [hbl]; decide) (by simp only [GA, ↓GB, List.filterMap_cons, eq_self, BEq.rfl, simprocAttr, List.getD_cons_zero, List.getD_cons_succ, or_false, false_or, or_self, or_true, true_or, decide_true]; try ((rw [wI64 (by omega) (by omega)]; rfl))) (by simp only [GA, ↓GB, List.filterMap_cons, eq_self, BEq.rfl, simprocAttr, List.getD_cons_zero, List.getD_cons_succ, or_false, false_or, or_self, or_true, true_or, decide_true]; try ((rw [wI64 (by omega) (by omega)]; rfl))) (by decide) (by simp only [GA, ↓GB, List.filterMap_cons, eq_self, BEq.rfl, simprocAttr, List.getD_cons_zero, List.getD_cons_succ, or_false, false_or, or_self, or_true, true_or, decide_true]) (by simp only [GA, ↓GB, List.filterMap_cons, eq_self, BEq.rfl, simprocAttr, List.getD_cons_zero, List.getD_cons_succ, or_false, false_or, or_self, or_true, true_or, decide_true]) (by simp only [GA, ↓GB, List.filterMap_cons, eq_self, BEq.rfl, simprocAttr, List.getD_cons_zero, List.getD_cons_succ, or_false, false_or, or_self, or_true, true_or, decide_true])), by show ms.length - (j + 1) < ms.length - j; omega⟩
    · rw [lp_end (isK b t) ms l i j ys vs _ hl hij (by omega) hft]
      (refine hN0 _ _ ⟨[0, 1, 4], _, _, ?_, ?_, ?_, ⟨rfl, rfl⟩⟩; (focus exact LeR.of rfl trivial (by simp only [GA, ↓GB, List.filterMap_cons, eq_self, BEq.rfl, simprocAttr, List.getD_cons_zero, List.getD_cons_succ, or_false, false_or, or_self, or_true, true_or, decide_true]) (by decide) rfl rfl rfl); rotate_left; (focus rfl))
      rfl
end Go.Proofs.YtbdacbcpniegiaaDoor.Q
