/- Own work: a part of the symbolic executor and of the walks of the functions that the claim reaches. -/
import Derived.Test.YtbdacbcpniegiaaDoorBase5
import Derived.Test.YtbdacbcpniegiaaDoorRows
import Derived.LaidLaws
namespace Go.Proofs.YtbdacbcpniegiaaDoor.Q
open Go Go.RowKit Go.Proofs Go.Sx
set_option maxHeartbeats 4000000
set_option maxRecDepth 100000
set_option linter.unusedSimpArgs false
set_option linter.unusedVariables false
theorem resB_len {r : Rs} (h : rightB r = true) : (resB r r.t.toNat).length ≤ 1099511627776 := by
  obtain ⟨h1, h2, h3, h4, h5, h6⟩ := right_type h
  have n1 := numB_len 1 r.t.toNat (by decide) (by omega)
  have n2 := textB_len 2 r.s (by decide) (by omega)
  have n3 := numB_len 3 r.q (by decide) (by omega)
  have n4 := numB_len 4 1 (by decide) (by decide)
  have n5 := textB_len 5 r.b (by decide) (by omega)
  unfold resB
  split <;> split <;> simp only [List.length_append, List.length_nil] <;> omega
theorem putget {e : EA} (he : e.Ok) (x : Rs) (h : rightB x = true) : ∃ bx : List UInt8, (∀ r, rightB r = true → resB r r.t.toNat = bx → r = x) ∧ resB x x.t.toNat = bx ∧
    (∀ w, Calls Tryd.prog 45 #[.agg #[.int .i64 x.t, .string (B x.s), .int .u64 x.q, .bool x.g, .string (B x.b)]] w fun e w' => e = .returned (.tuple #[.string (B bx), .bool true]) ∧ Below w.heap.size w w') ∧
    Ctr Tryd.prog (GW e) 49 [] [vv (.string (B bx))] (fun os v => os = [] ∧ v = .tup [.agg [.v (.int .i64 x.t), .v (.string (B x.s)), .v (.int .u64 x.q), .v (.bool x.g), .v (.string (B x.b))], .c (.v (.bool true))]) := by
  refine ⟨resB x x.t.toNat, fun r hr hb => ?_, rfl, put_yes x h, ?_⟩
  · have h1 := resR_put hr
    rw [hb, resR_put h] at h1
    exact (Option.some.inj h1).symm
  · have := getRes_ctr he (resB x x.t.toNat) (resB_len h)
    rw [resR_put h] at this
    exact this
def thL (r : Rs) (nm : Nat) : Rs := ⟨tN r.t, wordL nm, 1 + r.q % 20, thG r.g nm, thB r.b r.g nm⟩
theorem eqB (x z : Rs) (bx bz : List UInt8) (h : bx = bz ↔ x = z) : (bx == bz) = (x.t == z.t && (x.s == z.s && ((x.q : Int) == (z.q : Int) && (x.g == z.g && x.b == z.b)))) := by
  by_cases hxz : x = z
  · subst hxz; simp [h.2 rfl]
  · have hb : bx ≠ bz := fun e => hxz (h.1 e)
    rw [show (bx == bz) = false by simpa using hb]
    symm
    rw [Bool.eq_false_iff]
    intro hh
    apply hxz
    obtain ⟨t, s, q, g, b⟩ := x
    obtain ⟨t', s', q', g', b'⟩ := z
    simp only [Bool.and_eq_true, beq_iff_eq] at hh
    obtain ⟨h1, h2, h3, h4, h5⟩ := hh
    have h3 : q = q' := by omega
    subst h1 h2 h3 h4 h5; rfl
theorem fields0 {e : EA} (he : e.Ok) (r : Rs) (own : Bool) (nm how sq : Nat) (hsq : sq < 256) (x : Rs) (hx : thL r nm = x) (hR : rightB x = true) (hX : rightB { x with t := 1 + x.t.tmod 5 } = true) (hm : (how : Int).tmod 5 = 0) :
    Ctr Tryd.prog (GW e) 14 [] [.one (.agg [.v (.int .i64 r.t), .v (.string (B r.s)), .v (.int .u64 r.q), .v (.bool r.g), .v (.string (B r.b)), .v (.bool own), .v (.int .u8 nm)]), vv (.int .u8 how), vv (.int .u8 sq)] (fun os v => os = [] ∧ v = vv (.bool true)) := by
  have hth : ∀ w, Calls Tryd.prog 46 #[.agg #[.int .i64 r.t, .string (B r.s), .int .u64 r.q, .bool r.g, .string (B r.b), .bool true, .int .u8 nm]] w fun y w' => y = .returned (.agg #[.int .i64 x.t, .string (B x.s), .int .u64 x.q, .bool x.g, .string (B x.b)]) ∧ Below w.heap.size w w' := fun w => by
    rw [← hx]; exact thing_yes r.t r.s r.b r.q r.g nm w
  obtain ⟨q1, q2, q3, q4, q5, q6⟩ := right_type hR
  obtain ⟨bx, hix, hbx, hpx, hgx⟩ := putget he x hR
  obtain ⟨bz, hiz, hbz, hpz, hgz⟩ := putget he _ hX
  have hiff : bx = bz ↔ x = { x with t := 1 + x.t.tmod 5 } := ⟨fun e => hiz x hR (hbx.trans e), fun e => hbx.symm.trans ((congrArg (fun r : Rs => resB r r.t.toNat) e).trans hbz)⟩
  have hq := eqB x _ bx bz hiff
  simp only [] at hpz hgz hq
  have hex := ex04_ctr he
  have hw : IntKind.i64.wrap (1 + x.t.tmod 5) = 1 + x.t.tmod 5 := by rw [Int.tmod_eq_emod_of_nonneg (by omega)]; exact wI64 (by omega) (by omega)
  refine Ctr.less ?_
  intro X0 hP0 hG0 N0 hN0
  refine CallVC.inline (f := 14) (by rw [hP0]; exact Tryd.func14) rfl Tryd.ntmps14 rfl (by simp) ?_
  intro X K hU hnt hbl hK
  have hP : X.P = Tryd.prog := by rw [hU.P, hP0]
  have hG := hG0.under hU
  have hT : calleeOk X.P 44 = true ∧ fieldOff X.P 96 1 = some 5 ∧ szOf X.P 4 = some 1 ∧ aggOf X.P 96 = some true ∧ szOf X.P 96 = some 7 ∧ calleeOk X.P 46 = true ∧ zeroCells X.P 89 = some [(Value.int IntKind.i64 0), (Value.string { data := #[] }), (Value.int IntKind.u64 0), (Value.bool false), (Value.string { data := #[] })] ∧ szOf X.P 89 = some 5 ∧ aggOf X.P 89 = some true ∧ fieldOff X.P 89 0 = some 0 ∧ fieldOff X.P 26 0 = some 0 ∧ aggOf X.P 3 = some false ∧ szOf X.P 3 = some 1 ∧ fieldOff X.P 26 1 = some 1 ∧ aggOf X.P 9 = some false ∧ szOf X.P 9 = some 1 ∧ X.P.underlying 5 = some (TypeDesc.int IntKind.u8) ∧ X.P.underlying 22 = some (TypeDesc.int IntKind.u64) ∧ isBytesT X.P 5 = false ∧ isStrT X.P 22 = false ∧ fieldOff X.P 89 1 = some 2 ∧ szOf X.P 22 = some 1 ∧ fieldOff X.P 89 3 = some 4 ∧ fieldOff X.P 89 2 = some 3 ∧ calleeOk X.P 45 = true ∧ calleeOk X.P 49 = true ∧ X.P.underlying 4 = some TypeDesc.bool := by rw [hP]; exact ⟨Ty.co44, Ty.fo96_1, Ty.sz4, Ty.ag96, Ty.sz96, Ty.co46, Ty.ze89, Ty.sz89, Ty.ag89, Ty.fo89_0, Ty.fo26_0, Ty.ag3, Ty.sz3, Ty.fo26_1, Ty.ag9, Ty.sz9, Tryd.underlying5, Tryd.underlying22, Ty.ib5, Ty.is22, Ty.fo89_1, Ty.sz22, Ty.fo89_3, Ty.fo89_2, Ty.co45, Ty.co49, Tryd.underlying4⟩
  simp only [GA, ↓GB, List.filterMap_cons, eq_self, BEq.rfl, simprocAttr] at hbl ⊢
  repeat' (first
    | (refine SX.seqK ?_; intro N hN)
    | ((first | (refine SX.ops ?_)); simp only [GA, ↓GB, List.filterMap_cons, eq_self, BEq.rfl, simprocAttr, hnt, hT, hm, hw])
    | ((first | refine SX.skip ?_ | refine SX.exit ?_ | refine SX.label ?_); try simp only [GA, ↓GB, List.filterMap_cons, eq_self, BEq.rfl, simprocAttr])
    | (refine SX.cond rfl (fun hb => ?_) (fun hb => ?_) <;> ((first | cases hb | (simp only [decide_eq_true_eq, decide_eq_false_iff_not, beq_iff_eq, beq_eq_false_iff_ne, bne_iff_ne, Bool.and_eq_true, Bool.or_eq_true, Bool.not_eq_true', Bool.not_eq_false', Bool.and_eq_false_iff, Bool.or_eq_false_iff, Int.not_lt, Int.not_le] at hb) | skip) <;> (first | (exfalso; omega) | skip)))
    | (refine SX.ret ?_; try simp only [GA, ↓GB, List.filterMap_cons, eq_self, BEq.rfl, simprocAttr])
    | (refine hN _ ?_; clear hN N)
    | ((first | refine hK _ _ (FinI.ret3 ?_) | refine hK _ _ (FinI.nrm3 ?_)); simp only [GA, ↓GB, List.filterMap_cons, eq_self, BEq.rfl, simprocAttr, finP_s, hnt, hT, hm, hw]; refine Done.out ?_)
    | (clear hN N; first | (refine hN _ ?_; clear hN N) | (clear hN N; first | (refine hN _ ?_; clear hN N) | (clear hN N; first | (refine hN _ ?_; clear hN N) | (clear hN N; first | (refine hN _ ?_; clear hN N) | (clear hN N; first | (refine hN _ ?_; clear hN N) | (refine hN _ ?_; clear hN N))))))
    | (refine bif2.mk (fun hb => ?_) (fun hb => ?_) <;> (try simp only [hb, GA, ↓GB, List.filterMap_cons, eq_self, BEq.rfl, simprocAttr, hnt, hT, hm, hw]) <;> ((first | cases hb | (simp only [decide_eq_true_eq, decide_eq_false_iff_not, beq_iff_eq, beq_eq_false_iff_ne, bne_iff_ne, Bool.and_eq_true, Bool.or_eq_true, Bool.not_eq_true', Bool.not_eq_false', Bool.and_eq_false_iff, Bool.or_eq_false_iff, Int.not_lt, Int.not_le] at hb) | skip) <;> (first | (exfalso; omega) | skip)))
    | ((first | (refine Ctr.use (hex) hP hG [] ?_ rfl rfl ?_; (focus (refine LeR.of rfl trivial ?_ ?_ ?_ ?_ ?_ <;> first | decide | (simp only [GA, ↓GB, List.filterMap_cons, eq_self, BEq.rfl, simprocAttr, List.getD_cons_zero, List.getD_cons_succ, or_false, false_or, or_self, or_true, true_or, decide_true]; done))); intro os' s hR; obtain ⟨rfl, rfl⟩ := hR) | (refine CallVC.pa hP (hth) rfl ?_) | (refine CallQ.pa hP (hth) rfl ?_) | (refine CallVC.pt (l := [_, _]) hP (hpx) rfl ?_) | (refine CallQ.pt (l := [_, _]) hP (hpx) rfl ?_) | (refine CallVC.pt (l := [_, _]) hP (hpz) rfl ?_) | (refine CallQ.pt (l := [_, _]) hP (hpz) rfl ?_) | (refine Ctr.use (hgz) hP hG [] ?_ rfl rfl ?_; (focus (refine LeR.of rfl trivial ?_ ?_ ?_ ?_ ?_ <;> first | decide | (simp only [GA, ↓GB, List.filterMap_cons, eq_self, BEq.rfl, simprocAttr, List.getD_cons_zero, List.getD_cons_succ, or_false, false_or, or_self, or_true, true_or, decide_true]; done))); intro os' s hR; obtain ⟨rfl, rfl⟩ := hR)); simp only [GA, ↓GB, List.filterMap_cons, eq_self, BEq.rfl, simprocAttr, hnt, hT, hm, hw])
    | (refine ⟨_, strEq_to hP (Ty.eqS89 _ _ _ _ _ _ _ _ _ _), ?_⟩)
    | (refine SX.block ?_)
    | (refine and_mk ?_ ?_; (focus first | decide | omega | rfl | assumption | (simp only [List.length_append, List.length_cons, List.length_nil, B_size]; omega) | (simp; done)))
    | (refine And.intro ?_ ?_))
  all_goals (try refine Done.mk ?_)
  all_goals first
    | omega
    | exact absurd hq hb
    | ((refine hN0 _ _ ⟨[], _, _, ?_, ?_, ?_, ⟨rfl, rfl⟩⟩; (focus exact LeR.of rfl trivial (by simp only [GA, ↓GB, List.filterMap_cons, eq_self, BEq.rfl, simprocAttr, List.getD_cons_zero, List.getD_cons_succ, or_false, false_or, or_self, or_true, true_or, decide_true]) (by decide) rfl rfl rfl); rotate_left; (focus rfl)); rfl)
theorem fields1 {e : EA} (he : e.Ok) (r : Rs) (own : Bool) (nm how sq : Nat) (hsq : sq < 256) (x : Rs) (hx : thL r nm = x) (hR : rightB x = true) (hX : rightB { x with s := x.s ++ [48] } = true) (hm : (how : Int).tmod 5 = 1) :
    Ctr Tryd.prog (GW e) 14 [] [.one (.agg [.v (.int .i64 r.t), .v (.string (B r.s)), .v (.int .u64 r.q), .v (.bool r.g), .v (.string (B r.b)), .v (.bool own), .v (.int .u8 nm)]), vv (.int .u8 how), vv (.int .u8 sq)] (fun os v => os = [] ∧ v = vv (.bool true)) := by
  have hth : ∀ w, Calls Tryd.prog 46 #[.agg #[.int .i64 r.t, .string (B r.s), .int .u64 r.q, .bool r.g, .string (B r.b), .bool true, .int .u8 nm]] w fun y w' => y = .returned (.agg #[.int .i64 x.t, .string (B x.s), .int .u64 x.q, .bool x.g, .string (B x.b)]) ∧ Below w.heap.size w w' := fun w => by
    rw [← hx]; exact thing_yes r.t r.s r.b r.q r.g nm w
  obtain ⟨q1, q2, q3, q4, q5, q6⟩ := right_type hR
  obtain ⟨bx, hix, hbx, hpx, hgx⟩ := putget he x hR
  obtain ⟨bz, hiz, hbz, hpz, hgz⟩ := putget he _ hX
  have hiff : bx = bz ↔ x = { x with s := x.s ++ [48] } := ⟨fun e => hiz x hR (hbx.trans e), fun e => hbx.symm.trans ((congrArg (fun r : Rs => resB r r.t.toNat) e).trans hbz)⟩
  have hq := eqB x _ bx bz hiff
  simp only [] at hpz hgz hq
  have hex := ex04_ctr he
  refine Ctr.less ?_
  intro X0 hP0 hG0 N0 hN0
  refine CallVC.inline (f := 14) (by rw [hP0]; exact Tryd.func14) rfl Tryd.ntmps14 rfl (by simp) ?_
  intro X K hU hnt hbl hK
  have hP : X.P = Tryd.prog := by rw [hU.P, hP0]
  have hG := hG0.under hU
  have hT : calleeOk X.P 44 = true ∧ fieldOff X.P 96 1 = some 5 ∧ szOf X.P 4 = some 1 ∧ aggOf X.P 96 = some true ∧ szOf X.P 96 = some 7 ∧ calleeOk X.P 46 = true ∧ zeroCells X.P 89 = some [(Value.int IntKind.i64 0), (Value.string { data := #[] }), (Value.int IntKind.u64 0), (Value.bool false), (Value.string { data := #[] })] ∧ szOf X.P 89 = some 5 ∧ aggOf X.P 89 = some true ∧ fieldOff X.P 89 0 = some 0 ∧ fieldOff X.P 26 0 = some 0 ∧ aggOf X.P 3 = some false ∧ szOf X.P 3 = some 1 ∧ fieldOff X.P 26 1 = some 1 ∧ aggOf X.P 9 = some false ∧ szOf X.P 9 = some 1 ∧ X.P.underlying 5 = some (TypeDesc.int IntKind.u8) ∧ X.P.underlying 22 = some (TypeDesc.int IntKind.u64) ∧ isBytesT X.P 5 = false ∧ isStrT X.P 22 = false ∧ fieldOff X.P 89 1 = some 2 ∧ szOf X.P 22 = some 1 ∧ fieldOff X.P 89 3 = some 4 ∧ fieldOff X.P 89 2 = some 3 ∧ calleeOk X.P 45 = true ∧ calleeOk X.P 49 = true ∧ X.P.underlying 4 = some TypeDesc.bool := by rw [hP]; exact ⟨Ty.co44, Ty.fo96_1, Ty.sz4, Ty.ag96, Ty.sz96, Ty.co46, Ty.ze89, Ty.sz89, Ty.ag89, Ty.fo89_0, Ty.fo26_0, Ty.ag3, Ty.sz3, Ty.fo26_1, Ty.ag9, Ty.sz9, Tryd.underlying5, Tryd.underlying22, Ty.ib5, Ty.is22, Ty.fo89_1, Ty.sz22, Ty.fo89_3, Ty.fo89_2, Ty.co45, Ty.co49, Tryd.underlying4⟩
  simp only [GA, ↓GB, List.filterMap_cons, eq_self, BEq.rfl, simprocAttr] at hbl ⊢
  repeat' (first
    | (refine SX.seqK ?_; intro N hN)
    | ((first | (refine SX.ops ?_)); simp only [GA, ↓GB, List.filterMap_cons, eq_self, BEq.rfl, simprocAttr, hnt, hT, hm])
    | ((first | refine SX.skip ?_ | refine SX.exit ?_ | refine SX.label ?_); try simp only [GA, ↓GB, List.filterMap_cons, eq_self, BEq.rfl, simprocAttr])
    | (refine SX.cond rfl (fun hb => ?_) (fun hb => ?_) <;> ((first | cases hb | (simp only [decide_eq_true_eq, decide_eq_false_iff_not, beq_iff_eq, beq_eq_false_iff_ne, bne_iff_ne, Bool.and_eq_true, Bool.or_eq_true, Bool.not_eq_true', Bool.not_eq_false', Bool.and_eq_false_iff, Bool.or_eq_false_iff, Int.not_lt, Int.not_le] at hb) | skip) <;> (first | (exfalso; omega) | skip)))
    | (refine SX.ret ?_; try simp only [GA, ↓GB, List.filterMap_cons, eq_self, BEq.rfl, simprocAttr])
    | (refine hN _ ?_; clear hN N)
    | ((first | refine hK _ _ (FinI.ret3 ?_) | refine hK _ _ (FinI.nrm3 ?_)); simp only [GA, ↓GB, List.filterMap_cons, eq_self, BEq.rfl, simprocAttr, finP_s, hnt, hT, hm]; refine Done.out ?_)
    | (clear hN N; first | (refine hN _ ?_; clear hN N) | (clear hN N; first | (refine hN _ ?_; clear hN N) | (clear hN N; first | (refine hN _ ?_; clear hN N) | (clear hN N; first | (refine hN _ ?_; clear hN N) | (clear hN N; first | (refine hN _ ?_; clear hN N) | (refine hN _ ?_; clear hN N))))))
    | (refine bif2.mk (fun hb => ?_) (fun hb => ?_) <;> (try simp only [hb, GA, ↓GB, List.filterMap_cons, eq_self, BEq.rfl, simprocAttr, hnt, hT, hm]) <;> ((first | cases hb | (simp only [decide_eq_true_eq, decide_eq_false_iff_not, beq_iff_eq, beq_eq_false_iff_ne, bne_iff_ne, Bool.and_eq_true, Bool.or_eq_true, Bool.not_eq_true', Bool.not_eq_false', Bool.and_eq_false_iff, Bool.or_eq_false_iff, Int.not_lt, Int.not_le] at hb) | skip) <;> (first | (exfalso; omega) | skip)))
    | ((first | (refine Ctr.use (hex) hP hG [] ?_ rfl rfl ?_; (focus (refine LeR.of rfl trivial ?_ ?_ ?_ ?_ ?_ <;> first | decide | (simp only [GA, ↓GB, List.filterMap_cons, eq_self, BEq.rfl, simprocAttr, List.getD_cons_zero, List.getD_cons_succ, or_false, false_or, or_self, or_true, true_or, decide_true]; done))); intro os' s hR; obtain ⟨rfl, rfl⟩ := hR) | (refine CallVC.pa hP (hth) rfl ?_) | (refine CallQ.pa hP (hth) rfl ?_) | (refine CallVC.pt (l := [_, _]) hP (hpx) rfl ?_) | (refine CallQ.pt (l := [_, _]) hP (hpx) rfl ?_) | (refine CallVC.pt (l := [_, _]) hP (hpz) rfl ?_) | (refine CallQ.pt (l := [_, _]) hP (hpz) rfl ?_) | (refine Ctr.use (hgz) hP hG [] ?_ rfl rfl ?_; (focus (refine LeR.of rfl trivial ?_ ?_ ?_ ?_ ?_ <;> first | decide | (simp only [GA, ↓GB, List.filterMap_cons, eq_self, BEq.rfl, simprocAttr, List.getD_cons_zero, List.getD_cons_succ, or_false, false_or, or_self, or_true, true_or, decide_true]; done))); intro os' s hR; obtain ⟨rfl, rfl⟩ := hR)); simp only [GA, ↓GB, List.filterMap_cons, eq_self, BEq.rfl, simprocAttr, hnt, hT, hm])
    | (refine ⟨_, strEq_to hP (Ty.eqS89 _ _ _ _ _ _ _ _ _ _), ?_⟩)
    | (refine SX.block ?_)
    | (refine and_mk ?_ ?_; (focus first | decide | omega | rfl | assumption | (simp only [List.length_append, List.length_cons, List.length_nil, B_size]; omega) | (simp; done)))
    | (refine And.intro ?_ ?_))
  all_goals (try refine Done.mk ?_)
  all_goals first
    | omega
    | exact absurd hq hb
    | ((refine hN0 _ _ ⟨[], _, _, ?_, ?_, ?_, ⟨rfl, rfl⟩⟩; (focus exact LeR.of rfl trivial (by simp only [GA, ↓GB, List.filterMap_cons, eq_self, BEq.rfl, simprocAttr, List.getD_cons_zero, List.getD_cons_succ, or_false, false_or, or_self, or_true, true_or, decide_true]) (by decide) rfl rfl rfl); rotate_left; (focus rfl)); rfl)
theorem fields2 {e : EA} (he : e.Ok) (r : Rs) (own : Bool) (nm how sq : Nat) (hsq : sq < 256) (x : Rs) (hx : thL r nm = x) (hR : rightB x = true) (hX : rightB { x with q := 1 + sq } = true) (hm : (how : Int).tmod 5 = 2) :
    Ctr Tryd.prog (GW e) 14 [] [.one (.agg [.v (.int .i64 r.t), .v (.string (B r.s)), .v (.int .u64 r.q), .v (.bool r.g), .v (.string (B r.b)), .v (.bool own), .v (.int .u8 nm)]), vv (.int .u8 how), vv (.int .u8 sq)] (fun os v => os = [] ∧ v = vv (.bool true)) := by
  have hth : ∀ w, Calls Tryd.prog 46 #[.agg #[.int .i64 r.t, .string (B r.s), .int .u64 r.q, .bool r.g, .string (B r.b), .bool true, .int .u8 nm]] w fun y w' => y = .returned (.agg #[.int .i64 x.t, .string (B x.s), .int .u64 x.q, .bool x.g, .string (B x.b)]) ∧ Below w.heap.size w w' := fun w => by
    rw [← hx]; exact thing_yes r.t r.s r.b r.q r.g nm w
  obtain ⟨q1, q2, q3, q4, q5, q6⟩ := right_type hR
  obtain ⟨bx, hix, hbx, hpx, hgx⟩ := putget he x hR
  obtain ⟨bz, hiz, hbz, hpz, hgz⟩ := putget he _ hX
  have hiff : bx = bz ↔ x = { x with q := 1 + sq } := ⟨fun e => hiz x hR (hbx.trans e), fun e => hbx.symm.trans ((congrArg (fun r : Rs => resB r r.t.toNat) e).trans hbz)⟩
  have hq := eqB x _ bx bz hiff
  simp only [] at hpz hgz hq
  have hex := ex04_ctr he
  have hw : IntKind.u64.wrap (sq : Int) = (sq : Int) := wU64 (by omega) (by omega)
  have hw2 : IntKind.u64.wrap (1 + (sq : Int)) = ((1 + sq : Nat) : Int) := by rw [wU64 (by omega) (by omega)]; omega
  refine Ctr.less ?_
  intro X0 hP0 hG0 N0 hN0
  refine CallVC.inline (f := 14) (by rw [hP0]; exact Tryd.func14) rfl Tryd.ntmps14 rfl (by simp) ?_
  intro X K hU hnt hbl hK
  have hP : X.P = Tryd.prog := by rw [hU.P, hP0]
  have hG := hG0.under hU
  have hT : calleeOk X.P 44 = true ∧ fieldOff X.P 96 1 = some 5 ∧ szOf X.P 4 = some 1 ∧ aggOf X.P 96 = some true ∧ szOf X.P 96 = some 7 ∧ calleeOk X.P 46 = true ∧ zeroCells X.P 89 = some [(Value.int IntKind.i64 0), (Value.string { data := #[] }), (Value.int IntKind.u64 0), (Value.bool false), (Value.string { data := #[] })] ∧ szOf X.P 89 = some 5 ∧ aggOf X.P 89 = some true ∧ fieldOff X.P 89 0 = some 0 ∧ fieldOff X.P 26 0 = some 0 ∧ aggOf X.P 3 = some false ∧ szOf X.P 3 = some 1 ∧ fieldOff X.P 26 1 = some 1 ∧ aggOf X.P 9 = some false ∧ szOf X.P 9 = some 1 ∧ X.P.underlying 5 = some (TypeDesc.int IntKind.u8) ∧ X.P.underlying 22 = some (TypeDesc.int IntKind.u64) ∧ isBytesT X.P 5 = false ∧ isStrT X.P 22 = false ∧ fieldOff X.P 89 1 = some 2 ∧ szOf X.P 22 = some 1 ∧ fieldOff X.P 89 3 = some 4 ∧ fieldOff X.P 89 2 = some 3 ∧ calleeOk X.P 45 = true ∧ calleeOk X.P 49 = true ∧ X.P.underlying 4 = some TypeDesc.bool := by rw [hP]; exact ⟨Ty.co44, Ty.fo96_1, Ty.sz4, Ty.ag96, Ty.sz96, Ty.co46, Ty.ze89, Ty.sz89, Ty.ag89, Ty.fo89_0, Ty.fo26_0, Ty.ag3, Ty.sz3, Ty.fo26_1, Ty.ag9, Ty.sz9, Tryd.underlying5, Tryd.underlying22, Ty.ib5, Ty.is22, Ty.fo89_1, Ty.sz22, Ty.fo89_3, Ty.fo89_2, Ty.co45, Ty.co49, Tryd.underlying4⟩
  simp only [GA, ↓GB, List.filterMap_cons, eq_self, BEq.rfl, simprocAttr] at hbl ⊢
  repeat' (first
    | (refine SX.seqK ?_; intro N hN)
    | ((first | (refine SX.ops ?_)); simp only [GA, ↓GB, List.filterMap_cons, eq_self, BEq.rfl, simprocAttr, hnt, hT, hm, hw, hw2])
    | ((first | refine SX.skip ?_ | refine SX.exit ?_ | refine SX.label ?_); try simp only [GA, ↓GB, List.filterMap_cons, eq_self, BEq.rfl, simprocAttr])
    | (refine SX.cond rfl (fun hb => ?_) (fun hb => ?_) <;> ((first | cases hb | (simp only [decide_eq_true_eq, decide_eq_false_iff_not, beq_iff_eq, beq_eq_false_iff_ne, bne_iff_ne, Bool.and_eq_true, Bool.or_eq_true, Bool.not_eq_true', Bool.not_eq_false', Bool.and_eq_false_iff, Bool.or_eq_false_iff, Int.not_lt, Int.not_le] at hb) | skip) <;> (first | (exfalso; omega) | skip)))
    | (refine SX.ret ?_; try simp only [GA, ↓GB, List.filterMap_cons, eq_self, BEq.rfl, simprocAttr])
    | (refine hN _ ?_; clear hN N)
    | ((first | refine hK _ _ (FinI.ret3 ?_) | refine hK _ _ (FinI.nrm3 ?_)); simp only [GA, ↓GB, List.filterMap_cons, eq_self, BEq.rfl, simprocAttr, finP_s, hnt, hT, hm, hw, hw2]; refine Done.out ?_)
    | (clear hN N; first | (refine hN _ ?_; clear hN N) | (clear hN N; first | (refine hN _ ?_; clear hN N) | (clear hN N; first | (refine hN _ ?_; clear hN N) | (clear hN N; first | (refine hN _ ?_; clear hN N) | (clear hN N; first | (refine hN _ ?_; clear hN N) | (refine hN _ ?_; clear hN N))))))
    | (refine bif2.mk (fun hb => ?_) (fun hb => ?_) <;> (try simp only [hb, GA, ↓GB, List.filterMap_cons, eq_self, BEq.rfl, simprocAttr, hnt, hT, hm, hw, hw2]) <;> ((first | cases hb | (simp only [decide_eq_true_eq, decide_eq_false_iff_not, beq_iff_eq, beq_eq_false_iff_ne, bne_iff_ne, Bool.and_eq_true, Bool.or_eq_true, Bool.not_eq_true', Bool.not_eq_false', Bool.and_eq_false_iff, Bool.or_eq_false_iff, Int.not_lt, Int.not_le] at hb) | skip) <;> (first | (exfalso; omega) | skip)))
    | ((first | (refine Ctr.use (hex) hP hG [] ?_ rfl rfl ?_; (focus (refine LeR.of rfl trivial ?_ ?_ ?_ ?_ ?_ <;> first | decide | (simp only [GA, ↓GB, List.filterMap_cons, eq_self, BEq.rfl, simprocAttr, List.getD_cons_zero, List.getD_cons_succ, or_false, false_or, or_self, or_true, true_or, decide_true]; done))); intro os' s hR; obtain ⟨rfl, rfl⟩ := hR) | (refine CallVC.pa hP (hth) rfl ?_) | (refine CallQ.pa hP (hth) rfl ?_) | (refine CallVC.pt (l := [_, _]) hP (hpx) rfl ?_) | (refine CallQ.pt (l := [_, _]) hP (hpx) rfl ?_) | (refine CallVC.pt (l := [_, _]) hP (hpz) rfl ?_) | (refine CallQ.pt (l := [_, _]) hP (hpz) rfl ?_) | (refine Ctr.use (hgz) hP hG [] ?_ rfl rfl ?_; (focus (refine LeR.of rfl trivial ?_ ?_ ?_ ?_ ?_ <;> first | decide | (simp only [GA, ↓GB, List.filterMap_cons, eq_self, BEq.rfl, simprocAttr, List.getD_cons_zero, List.getD_cons_succ, or_false, false_or, or_self, or_true, true_or, decide_true]; done))); intro os' s hR; obtain ⟨rfl, rfl⟩ := hR)); simp only [GA, ↓GB, List.filterMap_cons, eq_self, BEq.rfl, simprocAttr, hnt, hT, hm, hw, hw2])
    | (refine ⟨_, strEq_to hP (Ty.eqS89 _ _ _ _ _ _ _ _ _ _), ?_⟩)
    | (refine SX.block ?_)
    | (refine and_mk ?_ ?_; (focus first | decide | omega | rfl | assumption | (simp only [List.length_append, List.length_cons, List.length_nil, B_size]; omega) | (simp; done)))
    | (refine And.intro ?_ ?_))
  all_goals (try refine Done.mk ?_)
  all_goals first
    | omega
    | exact absurd hq hb
    | ((refine hN0 _ _ ⟨[], _, _, ?_, ?_, ?_, ⟨rfl, rfl⟩⟩; (focus exact LeR.of rfl trivial (by simp only [GA, ↓GB, List.filterMap_cons, eq_self, BEq.rfl, simprocAttr, List.getD_cons_zero, List.getD_cons_succ, or_false, false_or, or_self, or_true, true_or, decide_true]) (by decide) rfl rfl rfl); rotate_left; (focus rfl)); rfl)
theorem fields3 {e : EA} (he : e.Ok) (r : Rs) (own : Bool) (nm how sq : Nat) (hsq : sq < 256) (x : Rs) (hx : thL r nm = x) (hR : rightB x = true) (hX : rightB { x with g := false, b := x.b ++ [120] } = true) (hm : (how : Int).tmod 5 = 3) :
    Ctr Tryd.prog (GW e) 14 [] [.one (.agg [.v (.int .i64 r.t), .v (.string (B r.s)), .v (.int .u64 r.q), .v (.bool r.g), .v (.string (B r.b)), .v (.bool own), .v (.int .u8 nm)]), vv (.int .u8 how), vv (.int .u8 sq)] (fun os v => os = [] ∧ v = vv (.bool true)) := by
  have hth : ∀ w, Calls Tryd.prog 46 #[.agg #[.int .i64 r.t, .string (B r.s), .int .u64 r.q, .bool r.g, .string (B r.b), .bool true, .int .u8 nm]] w fun y w' => y = .returned (.agg #[.int .i64 x.t, .string (B x.s), .int .u64 x.q, .bool x.g, .string (B x.b)]) ∧ Below w.heap.size w w' := fun w => by
    rw [← hx]; exact thing_yes r.t r.s r.b r.q r.g nm w
  obtain ⟨q1, q2, q3, q4, q5, q6⟩ := right_type hR
  obtain ⟨bx, hix, hbx, hpx, hgx⟩ := putget he x hR
  obtain ⟨bz, hiz, hbz, hpz, hgz⟩ := putget he _ hX
  have hiff : bx = bz ↔ x = { x with g := false, b := x.b ++ [120] } := ⟨fun e => hiz x hR (hbx.trans e), fun e => hbx.symm.trans ((congrArg (fun r : Rs => resB r r.t.toNat) e).trans hbz)⟩
  have hq := eqB x _ bx bz hiff
  simp only [] at hpz hgz hq
  have hex := ex04_ctr he
  refine Ctr.less ?_
  intro X0 hP0 hG0 N0 hN0
  refine CallVC.inline (f := 14) (by rw [hP0]; exact Tryd.func14) rfl Tryd.ntmps14 rfl (by simp) ?_
  intro X K hU hnt hbl hK
  have hP : X.P = Tryd.prog := by rw [hU.P, hP0]
  have hG := hG0.under hU
  have hT : calleeOk X.P 44 = true ∧ fieldOff X.P 96 1 = some 5 ∧ szOf X.P 4 = some 1 ∧ aggOf X.P 96 = some true ∧ szOf X.P 96 = some 7 ∧ calleeOk X.P 46 = true ∧ zeroCells X.P 89 = some [(Value.int IntKind.i64 0), (Value.string { data := #[] }), (Value.int IntKind.u64 0), (Value.bool false), (Value.string { data := #[] })] ∧ szOf X.P 89 = some 5 ∧ aggOf X.P 89 = some true ∧ fieldOff X.P 89 0 = some 0 ∧ fieldOff X.P 26 0 = some 0 ∧ aggOf X.P 3 = some false ∧ szOf X.P 3 = some 1 ∧ fieldOff X.P 26 1 = some 1 ∧ aggOf X.P 9 = some false ∧ szOf X.P 9 = some 1 ∧ X.P.underlying 5 = some (TypeDesc.int IntKind.u8) ∧ X.P.underlying 22 = some (TypeDesc.int IntKind.u64) ∧ isBytesT X.P 5 = false ∧ isStrT X.P 22 = false ∧ fieldOff X.P 89 1 = some 2 ∧ szOf X.P 22 = some 1 ∧ fieldOff X.P 89 3 = some 4 ∧ fieldOff X.P 89 2 = some 3 ∧ calleeOk X.P 45 = true ∧ calleeOk X.P 49 = true ∧ X.P.underlying 4 = some TypeDesc.bool := by rw [hP]; exact ⟨Ty.co44, Ty.fo96_1, Ty.sz4, Ty.ag96, Ty.sz96, Ty.co46, Ty.ze89, Ty.sz89, Ty.ag89, Ty.fo89_0, Ty.fo26_0, Ty.ag3, Ty.sz3, Ty.fo26_1, Ty.ag9, Ty.sz9, Tryd.underlying5, Tryd.underlying22, Ty.ib5, Ty.is22, Ty.fo89_1, Ty.sz22, Ty.fo89_3, Ty.fo89_2, Ty.co45, Ty.co49, Tryd.underlying4⟩
  simp only [GA, ↓GB, List.filterMap_cons, eq_self, BEq.rfl, simprocAttr] at hbl ⊢
  repeat' (first
    | (refine SX.seqK ?_; intro N hN)
    | ((first | (refine SX.ops ?_)); simp only [GA, ↓GB, List.filterMap_cons, eq_self, BEq.rfl, simprocAttr, hnt, hT, hm])
    | ((first | refine SX.skip ?_ | refine SX.exit ?_ | refine SX.label ?_); try simp only [GA, ↓GB, List.filterMap_cons, eq_self, BEq.rfl, simprocAttr])
    | (refine SX.cond rfl (fun hb => ?_) (fun hb => ?_) <;> ((first | cases hb | (simp only [decide_eq_true_eq, decide_eq_false_iff_not, beq_iff_eq, beq_eq_false_iff_ne, bne_iff_ne, Bool.and_eq_true, Bool.or_eq_true, Bool.not_eq_true', Bool.not_eq_false', Bool.and_eq_false_iff, Bool.or_eq_false_iff, Int.not_lt, Int.not_le] at hb) | skip) <;> (first | (exfalso; omega) | skip)))
    | (refine SX.ret ?_; try simp only [GA, ↓GB, List.filterMap_cons, eq_self, BEq.rfl, simprocAttr])
    | (refine hN _ ?_; clear hN N)
    | ((first | refine hK _ _ (FinI.ret3 ?_) | refine hK _ _ (FinI.nrm3 ?_)); simp only [GA, ↓GB, List.filterMap_cons, eq_self, BEq.rfl, simprocAttr, finP_s, hnt, hT, hm]; refine Done.out ?_)
    | (clear hN N; first | (refine hN _ ?_; clear hN N) | (clear hN N; first | (refine hN _ ?_; clear hN N) | (clear hN N; first | (refine hN _ ?_; clear hN N) | (clear hN N; first | (refine hN _ ?_; clear hN N) | (clear hN N; first | (refine hN _ ?_; clear hN N) | (refine hN _ ?_; clear hN N))))))
    | (refine bif2.mk (fun hb => ?_) (fun hb => ?_) <;> (try simp only [hb, GA, ↓GB, List.filterMap_cons, eq_self, BEq.rfl, simprocAttr, hnt, hT, hm]) <;> ((first | cases hb | (simp only [decide_eq_true_eq, decide_eq_false_iff_not, beq_iff_eq, beq_eq_false_iff_ne, bne_iff_ne, Bool.and_eq_true, Bool.or_eq_true, Bool.not_eq_true', Bool.not_eq_false', Bool.and_eq_false_iff, Bool.or_eq_false_iff, Int.not_lt, Int.not_le] at hb) | skip) <;> (first | (exfalso; omega) | skip)))
    | ((first | (refine Ctr.use (hex) hP hG [] ?_ rfl rfl ?_; (focus (refine LeR.of rfl trivial ?_ ?_ ?_ ?_ ?_ <;> first | decide | (simp only [GA, ↓GB, List.filterMap_cons, eq_self, BEq.rfl, simprocAttr, List.getD_cons_zero, List.getD_cons_succ, or_false, false_or, or_self, or_true, true_or, decide_true]; done))); intro os' s hR; obtain ⟨rfl, rfl⟩ := hR) | (refine CallVC.pa hP (hth) rfl ?_) | (refine CallQ.pa hP (hth) rfl ?_) | (refine CallVC.pt (l := [_, _]) hP (hpx) rfl ?_) | (refine CallQ.pt (l := [_, _]) hP (hpx) rfl ?_) | (refine CallVC.pt (l := [_, _]) hP (hpz) rfl ?_) | (refine CallQ.pt (l := [_, _]) hP (hpz) rfl ?_) | (refine Ctr.use (hgz) hP hG [] ?_ rfl rfl ?_; (focus (refine LeR.of rfl trivial ?_ ?_ ?_ ?_ ?_ <;> first | decide | (simp only [GA, ↓GB, List.filterMap_cons, eq_self, BEq.rfl, simprocAttr, List.getD_cons_zero, List.getD_cons_succ, or_false, false_or, or_self, or_true, true_or, decide_true]; done))); intro os' s hR; obtain ⟨rfl, rfl⟩ := hR)); simp only [GA, ↓GB, List.filterMap_cons, eq_self, BEq.rfl, simprocAttr, hnt, hT, hm])
    | (refine ⟨_, strEq_to hP (Ty.eqS89 _ _ _ _ _ _ _ _ _ _), ?_⟩)
    | (refine SX.block ?_)
    | (refine and_mk ?_ ?_; (focus first | decide | omega | rfl | assumption | (simp only [List.length_append, List.length_cons, List.length_nil, B_size]; omega) | (simp; done)))
    | (refine And.intro ?_ ?_))
  all_goals (try refine Done.mk ?_)
  all_goals first
    | omega
    | exact absurd hq hb
    | ((refine hN0 _ _ ⟨[], _, _, ?_, ?_, ?_, ⟨rfl, rfl⟩⟩; (focus exact LeR.of rfl trivial (by simp only [GA, ↓GB, List.filterMap_cons, eq_self, BEq.rfl, simprocAttr, List.getD_cons_zero, List.getD_cons_succ, or_false, false_or, or_self, or_true, true_or, decide_true]) (by decide) rfl rfl rfl); rotate_left; (focus rfl)); rfl)
theorem fields4 {e : EA} (he : e.Ok) (r : Rs) (own : Bool) (nm how sq : Nat) (hsq : sq < 256) (x : Rs) (hx : thL r nm = x) (hR : rightB x = true) (hX : rightB { x with g := true, b := [] } = true) (hm : (how : Int).tmod 5 = 4) :
    Ctr Tryd.prog (GW e) 14 [] [.one (.agg [.v (.int .i64 r.t), .v (.string (B r.s)), .v (.int .u64 r.q), .v (.bool r.g), .v (.string (B r.b)), .v (.bool own), .v (.int .u8 nm)]), vv (.int .u8 how), vv (.int .u8 sq)] (fun os v => os = [] ∧ v = vv (.bool true)) := by
  have hth : ∀ w, Calls Tryd.prog 46 #[.agg #[.int .i64 r.t, .string (B r.s), .int .u64 r.q, .bool r.g, .string (B r.b), .bool true, .int .u8 nm]] w fun y w' => y = .returned (.agg #[.int .i64 x.t, .string (B x.s), .int .u64 x.q, .bool x.g, .string (B x.b)]) ∧ Below w.heap.size w w' := fun w => by
    rw [← hx]; exact thing_yes r.t r.s r.b r.q r.g nm w
  obtain ⟨q1, q2, q3, q4, q5, q6⟩ := right_type hR
  obtain ⟨bx, hix, hbx, hpx, hgx⟩ := putget he x hR
  obtain ⟨bz, hiz, hbz, hpz, hgz⟩ := putget he _ hX
  have hiff : bx = bz ↔ x = { x with g := true, b := [] } := ⟨fun e => hiz x hR (hbx.trans e), fun e => hbx.symm.trans ((congrArg (fun r : Rs => resB r r.t.toNat) e).trans hbz)⟩
  have hq := eqB x _ bx bz hiff
  simp only [] at hpz hgz hq
  have hex := ex04_ctr he
  refine Ctr.less ?_
  intro X0 hP0 hG0 N0 hN0
  refine CallVC.inline (f := 14) (by rw [hP0]; exact Tryd.func14) rfl Tryd.ntmps14 rfl (by simp) ?_
  intro X K hU hnt hbl hK
  have hP : X.P = Tryd.prog := by rw [hU.P, hP0]
  have hG := hG0.under hU
  have hT : calleeOk X.P 44 = true ∧ fieldOff X.P 96 1 = some 5 ∧ szOf X.P 4 = some 1 ∧ aggOf X.P 96 = some true ∧ szOf X.P 96 = some 7 ∧ calleeOk X.P 46 = true ∧ zeroCells X.P 89 = some [(Value.int IntKind.i64 0), (Value.string { data := #[] }), (Value.int IntKind.u64 0), (Value.bool false), (Value.string { data := #[] })] ∧ szOf X.P 89 = some 5 ∧ aggOf X.P 89 = some true ∧ fieldOff X.P 89 0 = some 0 ∧ fieldOff X.P 26 0 = some 0 ∧ aggOf X.P 3 = some false ∧ szOf X.P 3 = some 1 ∧ fieldOff X.P 26 1 = some 1 ∧ aggOf X.P 9 = some false ∧ szOf X.P 9 = some 1 ∧ X.P.underlying 5 = some (TypeDesc.int IntKind.u8) ∧ X.P.underlying 22 = some (TypeDesc.int IntKind.u64) ∧ isBytesT X.P 5 = false ∧ isStrT X.P 22 = false ∧ fieldOff X.P 89 1 = some 2 ∧ szOf X.P 22 = some 1 ∧ fieldOff X.P 89 3 = some 4 ∧ fieldOff X.P 89 2 = some 3 ∧ calleeOk X.P 45 = true ∧ calleeOk X.P 49 = true ∧ X.P.underlying 4 = some TypeDesc.bool := by rw [hP]; exact ⟨Ty.co44, Ty.fo96_1, Ty.sz4, Ty.ag96, Ty.sz96, Ty.co46, Ty.ze89, Ty.sz89, Ty.ag89, Ty.fo89_0, Ty.fo26_0, Ty.ag3, Ty.sz3, Ty.fo26_1, Ty.ag9, Ty.sz9, Tryd.underlying5, Tryd.underlying22, Ty.ib5, Ty.is22, Ty.fo89_1, Ty.sz22, Ty.fo89_3, Ty.fo89_2, Ty.co45, Ty.co49, Tryd.underlying4⟩
  simp only [GA, ↓GB, List.filterMap_cons, eq_self, BEq.rfl, simprocAttr] at hbl ⊢
  repeat' (first
    | (refine SX.seqK ?_; intro N hN)
    | ((first | (refine SX.ops ?_)); simp only [GA, ↓GB, List.filterMap_cons, eq_self, BEq.rfl, simprocAttr, hnt, hT, hm])
    | ((first | refine SX.skip ?_ | refine SX.exit ?_ | refine SX.label ?_); try simp only [GA, ↓GB, List.filterMap_cons, eq_self, BEq.rfl, simprocAttr])
    | (refine SX.cond rfl (fun hb => ?_) (fun hb => ?_) <;> ((first | cases hb | (simp only [decide_eq_true_eq, decide_eq_false_iff_not, beq_iff_eq, beq_eq_false_iff_ne, bne_iff_ne, Bool.and_eq_true, Bool.or_eq_true, Bool.not_eq_true', Bool.not_eq_false', Bool.and_eq_false_iff, Bool.or_eq_false_iff, Int.not_lt, Int.not_le] at hb) | skip) <;> (first | (exfalso; omega) | skip)))
    | (refine SX.ret ?_; try simp only [GA, ↓GB, List.filterMap_cons, eq_self, BEq.rfl, simprocAttr])
    | (refine hN _ ?_; clear hN N)
    | ((first | refine hK _ _ (FinI.ret3 ?_) | refine hK _ _ (FinI.nrm3 ?_)); simp only [GA, ↓GB, List.filterMap_cons, eq_self, BEq.rfl, simprocAttr, finP_s, hnt, hT, hm]; refine Done.out ?_)
    | (clear hN N; first | (refine hN _ ?_; clear hN N) | (clear hN N; first | (refine hN _ ?_; clear hN N) | (clear hN N; first | (refine hN _ ?_; clear hN N) | (clear hN N; first | (refine hN _ ?_; clear hN N) | (clear hN N; first | (refine hN _ ?_; clear hN N) | (refine hN _ ?_; clear hN N))))))
    | (refine bif2.mk (fun hb => ?_) (fun hb => ?_) <;> (try simp only [hb, GA, ↓GB, List.filterMap_cons, eq_self, BEq.rfl, simprocAttr, hnt, hT, hm]) <;> ((first | cases hb | (simp only [decide_eq_true_eq, decide_eq_false_iff_not, beq_iff_eq, beq_eq_false_iff_ne, bne_iff_ne, Bool.and_eq_true, Bool.or_eq_true, Bool.not_eq_true', Bool.not_eq_false', Bool.and_eq_false_iff, Bool.or_eq_false_iff, Int.not_lt, Int.not_le] at hb) | skip) <;> (first | (exfalso; omega) | skip)))
    | ((first | (refine Ctr.use (hex) hP hG [] ?_ rfl rfl ?_; (focus (refine LeR.of rfl trivial ?_ ?_ ?_ ?_ ?_ <;> first | decide | (simp only [GA, ↓GB, List.filterMap_cons, eq_self, BEq.rfl, simprocAttr, List.getD_cons_zero, List.getD_cons_succ, or_false, false_or, or_self, or_true, true_or, decide_true]; done))); intro os' s hR; obtain ⟨rfl, rfl⟩ := hR) | (refine CallVC.pa hP (hth) rfl ?_) | (refine CallQ.pa hP (hth) rfl ?_) | (refine CallVC.pt (l := [_, _]) hP (hpx) rfl ?_) | (refine CallQ.pt (l := [_, _]) hP (hpx) rfl ?_) | (refine CallVC.pt (l := [_, _]) hP (hpz) rfl ?_) | (refine CallQ.pt (l := [_, _]) hP (hpz) rfl ?_) | (refine Ctr.use (hgz) hP hG [] ?_ rfl rfl ?_; (focus (refine LeR.of rfl trivial ?_ ?_ ?_ ?_ ?_ <;> first | decide | (simp only [GA, ↓GB, List.filterMap_cons, eq_self, BEq.rfl, simprocAttr, List.getD_cons_zero, List.getD_cons_succ, or_false, false_or, or_self, or_true, true_or, decide_true]; done))); intro os' s hR; obtain ⟨rfl, rfl⟩ := hR)); simp only [GA, ↓GB, List.filterMap_cons, eq_self, BEq.rfl, simprocAttr, hnt, hT, hm])
    | (refine ⟨_, strEq_to hP (Ty.eqS89 _ _ _ _ _ _ _ _ _ _), ?_⟩)
    | (refine SX.block ?_)
    | (refine and_mk ?_ ?_; (focus first | decide | omega | rfl | assumption | (simp only [List.length_append, List.length_cons, List.length_nil, B_size]; omega) | (simp; done)))
    | (refine And.intro ?_ ?_))
  all_goals (try refine Done.mk ?_)
  all_goals first
    | omega
    | exact absurd hq hb
    | ((refine hN0 _ _ ⟨[], _, _, ?_, ?_, ?_, ⟨rfl, rfl⟩⟩; (focus exact LeR.of rfl trivial (by simp only [GA, ↓GB, List.filterMap_cons, eq_self, BEq.rfl, simprocAttr, List.getD_cons_zero, List.getD_cons_succ, or_false, false_or, or_self, or_true, true_or, decide_true]) (by decide) rfl rfl rfl); rotate_left; (focus rfl)); rfl)
end Go.Proofs.YtbdacbcpniegiaaDoor.Q
namespace Go.Proofs.YtbdacbcpniegiaaDoor.Q
open Go Go.RowKit Go.Proofs Go.Sx
set_option maxHeartbeats 4000000
set_option maxRecDepth 100000
set_option linter.unusedSimpArgs false
set_option linter.unusedVariables false
theorem word_ok (n : Nat) : nameB (wordL n) = true ∧ (wordL n == [42]) = false ∧ nameB (wordL n ++ [48]) = true ∧ (wordL n ++ [48] == [42]) = false := by
  have h6 : n % 6 < 6 := Nat.mod_lt _ (by decide)
  unfold wordL
  generalize n % 6 = k at h6 ⊢
  have hc : k = 0 ∨ k = 1 ∨ k = 2 ∨ k = 3 ∨ k = 4 ∨ k = 5 := by omega
  rcases hc with rfl | rfl | rfl | rfl | rfl | rfl <;> decide
theorem right_mk {x : Rs} (h1 : 1 ≤ x.t) (h2 : x.t ≤ 5) (h3 : nameB x.s = true) (h4 : (x.s == [42]) = false) (h5 : x.b.length ≤ 1024) (h6 : x.g = true → x.b = []) (h7 : 0 < x.q) (h8 : x.q ≤ 4611686018427387904) : rightB x = true := by
  simp only [rightB, keyB, h3, h4, Bool.or_true, Bool.and_true, Bool.not_false, Bool.and_eq_true, decide_eq_true_eq, Bool.not_eq_true', Bool.and_eq_false_iff, Bool.not_eq_false', beq_iff_eq]
  refine ⟨⟨⟨⟨⟨h1, h2⟩, by omega⟩, ?_⟩, by omega⟩, by omega⟩
  cases hg : x.g with
  | false => exact .inl rfl
  | true => exact .inr (h6 hg)
theorem tN_bd (t : Int) : 1 ≤ tN t ∧ tN t ≤ 5 := by unfold tN; omega
theorem thB_ok (b : List UInt8) (g : Bool) (nm : Nat) : (thB b g nm).length ≤ 200 ∧ (thG g nm = true → thB b g nm = []) := by
  unfold thB
  split
  · exact ⟨by simp, fun _ => rfl⟩
  · rename_i h; exact ⟨by simp; omega, fun h' => absurd h' h⟩
theorem thL_right (r : Rs) (nm : Nat) : rightB (thL r nm) = true := by
  obtain ⟨a1, a2⟩ := tN_bd r.t
  obtain ⟨b1, b2, b3, b4⟩ := word_ok nm
  obtain ⟨c1, c2⟩ := thB_ok r.b r.g nm
  refine right_mk ?_ ?_ b1 b2 ?_ c2 ?_ ?_ <;> simp only [thL] <;> omega
theorem fields_ctr {e : EA} (he : e.Ok) (r : Rs) (own : Bool) (nm how sq : Nat) (hsq : sq < 256) :
    Ctr Tryd.prog (GW e) 14 [] [.one (.agg [.v (.int .i64 r.t), .v (.string (B r.s)), .v (.int .u64 r.q), .v (.bool r.g), .v (.string (B r.b)), .v (.bool own), .v (.int .u8 nm)]), vv (.int .u8 how), vv (.int .u8 sq)] (fun os v => os = [] ∧ v = vv (.bool true)) := by
  have hm : (how : Int).tmod 5 = ((how % 5 : Nat) : Int) := by rw [Int.tmod_eq_emod_of_nonneg (by omega)]; rfl
  have h5 : how % 5 < 5 := Nat.mod_lt _ (by decide)
  have hR := thL_right r nm
  obtain ⟨a1, a2⟩ := tN_bd r.t
  obtain ⟨b1, b2, b3, b4⟩ := word_ok nm
  obtain ⟨c1, c2⟩ := thB_ok r.b r.g nm
  generalize how % 5 = k at hm h5
  have hc : k = 0 ∨ k = 1 ∨ k = 2 ∨ k = 3 ∨ k = 4 := by omega
  rcases hc with rfl | rfl | rfl | rfl | rfl
  · refine fields0 he r own nm how sq hsq _ rfl hR (right_mk ?_ ?_ b1 b2 ?_ c2 ?_ ?_) hm <;> simp only [thL, Int.tmod_eq_emod_of_nonneg (show (0 : Int) ≤ (tN r.t : Int) by omega)] <;> omega
  · refine fields1 he r own nm how sq hsq _ rfl hR (right_mk ?_ ?_ b3 b4 ?_ c2 ?_ ?_) hm <;> simp only [thL] <;> omega
  · refine fields2 he r own nm how sq hsq _ rfl hR (right_mk ?_ ?_ b1 b2 ?_ c2 ?_ ?_) hm <;> simp only [thL] <;> omega
  · refine fields3 he r own nm how sq hsq _ rfl hR (right_mk ?_ ?_ b1 b2 ?_ (fun h => by cases h) ?_ ?_) hm <;> simp only [thL, List.length_append, List.length_cons, List.length_nil] <;> omega
  · refine fields4 he r own nm how sq hsq _ rfl hR (right_mk ?_ ?_ b1 b2 ?_ (fun _ => rfl) ?_ ?_) hm <;> simp only [thL, List.length_nil] <;> omega
end Go.Proofs.YtbdacbcpniegiaaDoor.Q
namespace Go.Proofs.YtbdacbcpniegiaaDoor.Q
open Go Go.RowKit Go.Proofs Go.Sx Go.ChangeShapes
set_option maxRecDepth 100000
set_option linter.unusedSimpArgs false
set_option linter.unusedVariables false
theorem star : "*" ++ "errors.errorString" = "*errors.errorString" := by decide
theorem row253 (u : TypeId) (h : Tryd.prog.typeName? 3 u = some "*errors.errorString") : u = 253 :=
  typeName_ptr_named (nm := "errors.errorString") (by rw [star]; kernel_rfl) (by kernel_rfl) (by decide) u (by rw [star]; exact h)
theorem nShort : Tryd.prog.globalNamed "noria/wire.errShort" = some 2 := by kernel_rfl
theorem nWrong : Tryd.prog.globalNamed "noria/wire.errWrong" = some 3 := by kernel_rfl
theorem tShort : (Tryd.prog.globals[2]?).map (·.type) = some 125 := by kernel_rfl
theorem tWrong : (Tryd.prog.globals[3]?).map (·.type) = some 125 := by kernel_rfl
theorem c277 : Tryd.prog.cellsOf 277 = 1 := by kernel_rfl
theorem c9 : Tryd.prog.cellsOf 9 = 1 := by kernel_rfl
theorem gw_of_laid {W : World} {n0 n3 : String} {d0 d3 : DataW Unit} (h : laidMet Tryd.prog [(n0, d0), ("noria/wire.errShort", Rows.laid_noria_wire_errShort), ("noria/wire.errWrong", Rows.laid_noria_wire_errWrong), (n3, d3)] W) :
    ∃ e : EA, e.Ok ∧ ∀ p ∈ GW e, W.cell? p.1 = some p.2 ∧ loneStr W p := by
  obtain ⟨ps, ⟨gx, tx, csx, fx, px, qx, hgx, htx, hvx, hdx, ⟨g0, t0, cs0, f0, p0, q0, hg0, ht0, hv0, hd0, ⟨g1, t1, cs1, f1, p1, q1, hg1, ht1, hv1, hd1, hq1, e1⟩, e0⟩, ex⟩, hnd, hrows⟩ := h
  obtain rfl := Option.some.inj (nShort.symm.trans hg0)
  obtain rfl := Option.some.inj (nWrong.symm.trans hg1)
  obtain rfl := Option.some.inj (tShort.symm.trans ht0)
  obtain rfl := Option.some.inj (tWrong.symm.trans ht1)
  subst e1
  subst e0
  subst ex
  obtain ⟨l0⟩ := cs0
  obtain ⟨l1⟩ := cs1
  have ok0 : ∀ u v, l0 = [.iface u v] → Value.okWide Tryd.prog W .any 0 u v := fun u v e => by
    subst e
    exact (hrows 2 0 (by simp [MemPlace.row])).2 u v (by simpa using World.var?_cell hg0 hv0 0)
  have ok1 : ∀ u v, l1 = [.iface u v] → Value.okWide Tryd.prog W .any 0 u v := fun u v e => by
    subst e
    exact (hrows 3 0 (by simp [MemPlace.row])).2 u v (by simpa using World.var?_cell hg1 hv1 0)
  obtain ⟨a0, s0, rfl, hc0, hs0, hz0, rfl⟩ := errorString_of_trod Tryd.underlying125 row253 Tryd.underlying253 Tryd.underlying277 rfl rfl Tryd.underlying9 c277 c9 hd0 ok0
  obtain ⟨a1, s1, rfl, hc1, hs1, hz1, rfl⟩ := errorString_of_trod Tryd.underlying125 row253 Tryd.underlying253 Tryd.underlying277 rfl rfl Tryd.underlying9 c277 c9 hd1 ok1
  obtain ⟨b0, u0, hb0⟩ := (hrows a0.block a0.off (by simp [MemPlace.row])).1
  obtain ⟨b1, u1, hb1⟩ := (hrows a1.block a1.off (by simp [MemPlace.row])).1
  have hx0 : W.cell? ⟨2, 0, none⟩ = some (errV a0) := by simpa using World.var?_cell hg0 hv0 0
  have hx1 : W.cell? ⟨3, 0, none⟩ = some (errV a1) := by simpa using World.var?_cell hg1 hv1 0
  have key : ∀ (s : ByteArray) (l : List UInt8), s.data.toList = l → s = B l := fun s l h => by
    obtain ⟨⟨x⟩⟩ := s
    have h : x = l := h
    rw [h]; rfl
  have es0 : s0 = B tS := key _ _ hs0
  have es1 : s1 = B tW := key _ _ hs1
  rw [es0] at hc0
  rw [es1] at hc1
  refine ⟨⟨⟨0, 0, none⟩, ⟨1, 0, none⟩, a0, a1⟩, ⟨by simp, ?_⟩, ?_⟩
  · show a0 ≠ a1
    rintro rfl
    have h2 := (List.nodup_append.1 hnd).2.1
    simp [MemPlace.row] at h2
  · intro p hp
    simp only [GW, List.mem_cons, List.not_mem_nil, or_false] at hp
    rcases hp with rfl | rfl | rfl | rfl
    · exact ⟨hx0, trivial⟩
    · exact ⟨hx1, trivial⟩
    · exact ⟨hc0, _, _, hb0⟩
    · exact ⟨hc1, _, _, hb1⟩
end Go.Proofs.YtbdacbcpniegiaaDoor.Q
namespace Go.Proofs.YtbdacbcpniegiaaDoor.Q
open Go Go.RowKit Go.Proofs Go.Sx
set_option maxRecDepth 100000
set_option linter.unusedSimpArgs false
set_option linter.unusedVariables false
theorem ctr_calls {P : Program} {G : List (Addr × Value)} {f : FuncId} {args : List SV} {R : List LO → SV → Prop} (h : Ctr P G f [] args R) (w : World) (hG : ∀ p ∈ G, w.cell? p.1 = some p.2 ∧ loneStr w p) {vals : List Value} (ha : All2 (DV []) args vals) :
    Calls P f vals.toArray w fun e w' => ∃ v os' s σ', e = .returned v ∧ R os' s ∧ DV σ' s v ∧ Below w.heap.size w w' := by
  have hr : Rel ⟨P, w, [], 0, []⟩ ⟨[], []⟩ [] [] { tmps := #[], defers := [] } w :=
    ⟨fun t s h => by simp at h, rfl, rfl, fun i o fp v h => by simp at h, by simp, fun b h => by simp at h, fun b h => by simp at h, Fr.refl _ _, rfl, rfl, fun v h => by simp at h, fun i v h => by simp at h⟩
  refine (h ⟨P, w, [], 0, []⟩ rfl (fun p hp => ⟨(hG p hp).1, by simp, (hG p hp).2⟩) (fun c s => ∃ os', c = ⟨[], os'⟩ ∧ R os' s) (fun os' s hR => ⟨os', rfl, hR⟩) _ _ _ _ hr vals ha).mono ?_
  rintro e w' ⟨v, c', ρ', σ', s, rfl, hr', hd, os', rfl, hR⟩
  exact ⟨v, os', s, σ', rfl, hR, hd, hr'.low.below (by simp)⟩
end Go.Proofs.YtbdacbcpniegiaaDoor.Q
namespace Go.Proofs.YtbdacbcpniegiaaDoor.Q
open Go Go.RowKit Go.ChangeShapes Go.WideShapes Go.ChangeAt Go.Sx Go.Proofs.YtbdacbcpniegiaaDoor
set_option linter.unusedSimpArgs false
set_option linter.unusedVariables false
set_option maxRecDepth 100000
structure RsOk (r : Rs) : Prop where
  t0 : -9223372036854775808 ≤ r.t
  t1 : r.t < 9223372036854775808
  s : r.s.length ≤ 9223372036854775807
  q : r.q < 18446744073709551616
  b : r.b.length ≤ 9223372036854775807
def Th.cells (x : Th) : List Value := x.r.cells ++ [.bool x.own, .int .u8 (x.nm : Int)]
structure Th.Ok (x : Th) : Prop where
  r : RsOk x.r
  nm : x.nm < 256
theorem key_cells {H : Type} {enc : TypeId × Value → H} {W : World} {sp : Nat → Bool} {held : Bool} {n base : Nat} {cs : List Value} {x : DataW H × List MemPlace}
    (h : DataW.trod enc Tryd.prog W base sp held n 26 cs = some x) : ∃ (t : Int) (s : List UInt8), -9223372036854775808 ≤ t ∧ t < 9223372036854775808 ∧ s.length ≤ 9223372036854775807 ∧ cs = [.int .i64 t, .string (B s)] := by
  obtain ⟨zs, m2, rfl, _, hl2, hzs, hf2⟩ := DataW.trod_struct Tryd.underlying26 h
  have c26 : Tryd.prog.cellsOf 26 = 2 := by kernel_rfl
  have c3 : Tryd.prog.cellsOf 3 = 1 := by kernel_rfl
  have c9 : Tryd.prog.cellsOf 9 = 1 := by kernel_rfl
  rw [c26] at hl2
  have k0 : DataW.trod enc Tryd.prog W base sp held m2 3 ((cs.drop 0).take (Tryd.prog.cellsOf 3)) = zs[0]? := hf2 0 _ rfl
  have k1 : DataW.trod enc Tryd.prog W base sp held m2 9 ((cs.drop 1).take (Tryd.prog.cellsOf 9)) = zs[1]? := hf2 1 _ rfl
  have hz2 : zs.length = 2 := hzs
  rw [c3, List.getElem?_eq_getElem (by omega)] at k0
  rw [c9, List.getElem?_eq_getElem (by omega)] at k1
  obtain ⟨a2, e2, _, w2⟩ := DataW.trod_int Tryd.underlying3 k0
  obtain ⟨a3, e3, _, w3⟩ := DataW.trod_string Tryd.underlying9 k1
  have f2 := at1 e2
  have f3 := at1 e3
  have b2 := i64_of w2
  refine ⟨a2, a3.data.toList, b2.1, b2.2, by simpa [maxLen] using w3, ?_⟩
  match cs, hl2 with
  | [x0, x1], _ =>
    simp only [List.getElem?_cons_zero, List.getElem?_cons_succ, Option.some.injEq] at f2 f3
    subst f2 f3
    simp only [B_data]
theorem res_cells {H : Type} {enc : TypeId × Value → H} {W : World} {sp : Nat → Bool} {held : Bool} {n base : Nat} {cs : List Value} {x : DataW H × List MemPlace}
    (h : DataW.trod enc Tryd.prog W base sp held n 89 cs = some x) : ∃ r : Rs, RsOk r ∧ cs = r.cells := by
  obtain ⟨ys, m, rfl, _, hl, hys, hf⟩ := DataW.trod_struct Tryd.underlying89 h
  have c89 : Tryd.prog.cellsOf 89 = 5 := by kernel_rfl
  have c26 : Tryd.prog.cellsOf 26 = 2 := by kernel_rfl
  have c9 : Tryd.prog.cellsOf 9 = 1 := by kernel_rfl
  have c22 : Tryd.prog.cellsOf 22 = 1 := by kernel_rfl
  have c4 : Tryd.prog.cellsOf 4 = 1 := by kernel_rfl
  rw [c89] at hl
  have g2 : DataW.trod enc Tryd.prog W base sp held m 26 ((cs.drop 0).take (Tryd.prog.cellsOf 26)) = ys[0]? := hf 0 _ rfl
  have g3 : DataW.trod enc Tryd.prog W base sp held m 22 ((cs.drop 2).take (Tryd.prog.cellsOf 22)) = ys[1]? := hf 1 _ rfl
  have g4 : DataW.trod enc Tryd.prog W base sp held m 4 ((cs.drop 3).take (Tryd.prog.cellsOf 4)) = ys[2]? := hf 2 _ rfl
  have g5 : DataW.trod enc Tryd.prog W base sp held m 9 ((cs.drop 4).take (Tryd.prog.cellsOf 9)) = ys[3]? := hf 3 _ rfl
  have hy4 : ys.length = 4 := hys
  rw [c26, List.getElem?_eq_getElem (by omega)] at g2
  rw [c22, List.getElem?_eq_getElem (by omega)] at g3
  rw [c4, List.getElem?_eq_getElem (by omega)] at g4
  rw [c9, List.getElem?_eq_getElem (by omega)] at g5
  obtain ⟨a2, a3, t0, t1, w3, ek⟩ := key_cells g2
  obtain ⟨a4, e4, _, w4⟩ := DataW.trod_int Tryd.underlying22 g3
  obtain ⟨a5, e5, _⟩ := DataW.trod_bool Tryd.underlying4 g4
  obtain ⟨a6, e6, _, w6⟩ := DataW.trod_string Tryd.underlying9 g5
  have f4 := at1 e4
  have f5 := at1 e5
  have f6 := at1 e6
  have b4 := u64_of w4
  have r4 : ((a4.toNat : Nat) : Int) = a4 := by omega
  refine ⟨⟨a2, a3, a4.toNat, a5, a6.data.toList⟩, ⟨t0, t1, w3, by show a4.toNat < 18446744073709551616; omega, by simpa [maxLen] using w6⟩, ?_⟩
  match cs, hl with
  | [x0, x1, x2, x3, x4], _ =>
    simp only [List.getElem?_cons_zero, List.getElem?_cons_succ, Option.some.injEq] at f4 f5 f6
    have ek : [x0, x1] = [.int .i64 a2, .string (B a3)] := ek
    injection ek with e0 ek
    injection ek with e1 _
    subst f4 f5 f6 e0 e1
    simp only [Rs.cells, B_data, r4]
theorem thing_cells {H : Type} {enc : TypeId × Value → H} {W : World} {sp : Nat → Bool} {held : Bool} {n base : Nat} {cs : List Value} {x : DataW H × List MemPlace}
    (h : DataW.trod enc Tryd.prog W base sp held n 96 cs = some x) : ∃ y : Th, y.Ok ∧ cs = y.cells := by
  obtain ⟨ys, m, rfl, _, hl, hys, hf⟩ := DataW.trod_struct Tryd.underlying96 h
  have c96 : Tryd.prog.cellsOf 96 = 7 := by kernel_rfl
  have c89 : Tryd.prog.cellsOf 89 = 5 := by kernel_rfl
  have c5 : Tryd.prog.cellsOf 5 = 1 := by kernel_rfl
  have c4 : Tryd.prog.cellsOf 4 = 1 := by kernel_rfl
  rw [c96] at hl
  have g0 : DataW.trod enc Tryd.prog W base sp held m 89 ((cs.drop 0).take (Tryd.prog.cellsOf 89)) = ys[0]? := hf 0 _ rfl
  have g1 : DataW.trod enc Tryd.prog W base sp held m 4 ((cs.drop 5).take (Tryd.prog.cellsOf 4)) = ys[1]? := hf 1 _ rfl
  have g2 : DataW.trod enc Tryd.prog W base sp held m 5 ((cs.drop 6).take (Tryd.prog.cellsOf 5)) = ys[2]? := hf 2 _ rfl
  have hy3 : ys.length = 3 := hys
  rw [c89, List.getElem?_eq_getElem (by omega)] at g0
  rw [c4, List.getElem?_eq_getElem (by omega)] at g1
  rw [c5, List.getElem?_eq_getElem (by omega)] at g2
  obtain ⟨r, hok, hr⟩ := res_cells g0
  obtain ⟨a5, e5, _⟩ := DataW.trod_bool Tryd.underlying4 g1
  obtain ⟨a6, e6, _, w6⟩ := DataW.trod_int Tryd.underlying5 g2
  have f5 := at1 e5
  have f6 := at1 e6
  have b6 := u8_of w6
  have r6 : ((a6.toNat : Nat) : Int) = a6 := by omega
  refine ⟨⟨r, a5, a6.toNat⟩, ⟨hok, by show a6.toNat < 256; omega⟩, ?_⟩
  match cs, hl with
  | [x0, x1, x2, x3, x4, x5, x6], _ =>
    simp only [List.getElem?_cons_zero, List.getElem?_cons_succ, Option.some.injEq] at f5 f6
    subst f5 f6
    simp only [Th.cells, r6, ← hr]
    rfl
theorem thing_in {H : Type} {enc : TypeId × Value → H} {W : World} {cs : Array Value} {d : DataW H} {p : List MemPlace} (h : DataW.Trod enc Tryd.prog W 0 (fun _ => true) true 96 (.agg cs) d p) : ∃ y : Th, y.Ok ∧ cs = y.cells.toArray := by
  obtain ⟨m, hm⟩ := h
  obtain ⟨y, hy, e⟩ := thing_cells hm
  have e : cs.toList = y.cells := e
  exact ⟨y, hy, by rw [← e]⟩
theorem key_in {H : Type} {enc : TypeId × Value → H} {W : World} {cs : Array Value} {d : DataW H} {p : List MemPlace} (h : DataW.Trod enc Tryd.prog W 0 (fun _ => true) true 26 (.agg cs) d p) : ∃ (t : Int) (s : List UInt8), -9223372036854775808 ≤ t ∧ t < 9223372036854775808 ∧ s.length ≤ 9223372036854775807 ∧ cs = #[.int .i64 t, .string (B s)] := by
  obtain ⟨m, hm⟩ := h
  obtain ⟨t, s, h1, h2, h3, e⟩ := key_cells hm
  have e : cs.toList = [.int .i64 t, .string (B s)] := e
  exact ⟨t, s, h1, h2, h3, by rw [← Array.toArray_toList (xs := cs), e]⟩
theorem thingRow {H : Type} {enc : TypeId × Value → H} {W : World} {a : Option Addr} {len cap : Nat} {d : DataW H} {p : List MemPlace} (h : DataW.Trod enc Tryd.prog W 0 (fun _ => true) true 106 (.slice a len cap) d p) :
    ∃ xs : List Th, len = xs.length ∧ (∀ x ∈ xs, x.Ok) ∧ ∀ i, i < xs.length → ∃ ad, a = some ad ∧ ∀ j v, (xs.getD i default).cells[j]? = some v → W.cell? (ad.add (i * 7 + j)) = some v := by
  obtain ⟨fuel, hf⟩ := h
  have c96 : Tryd.prog.cellsOf 96 = 7 := by kernel_rfl
  rcases Go.Deep.open_slice Tryd.underlying106 hf with ⟨hcs, _⟩ | ⟨x, l, c, m, n, D, Pl, hcs, _, hl, hm, em, _, hel⟩
  · simp [Value.cells] at hcs
    obtain ⟨rfl, rfl, rfl⟩ := hcs
    exact ⟨[], rfl, fun x hx => (by cases hx), fun i hi => by simp at hi⟩
  · simp [Value.cells] at hcs
    obtain ⟨rfl, rfl, rfl⟩ := hcs
    have em' : m = cap := by simpa using em
    subst em'
    have hel2 : ∀ i, i < len → ∃ dd : Th, dd.Ok ∧ ∀ j v, dd.cells[j]? = some v → W.cell? (x.add (i * 7 + j)) = some v := fun i hi => by
      obtain ⟨cs', h1, h2⟩ := hel i (by omega)
      obtain ⟨dd, hd, rfl⟩ := thing_cells h2
      refine ⟨dd, hd, fun j v hj => ?_⟩
      rw [c96] at h1
      unfold World.cells? at h1
      rw [if_pos (Nat.zero_le _)] at h1
      have hlt : j < 7 := by
        have := (List.getElem?_eq_some_iff.1 hj).1
        simpa [Th.cells, Rs.cells] using this
      have := mapM_some_get h1 j j (List.getElem?_range hlt)
      rw [hj, Deep.add_add] at this
      exact this
    obtain ⟨f, hf⟩ := Classical.axiomOfChoice (fun i : { i : Nat // i < len } => hel2 i.1 i.2)
    refine ⟨(List.range len).map fun i => if h : i < len then f ⟨i, h⟩ else default, by simp, fun y hy => ?_, fun i hi => ⟨x, rfl, fun j v hj => ?_⟩⟩
    · obtain ⟨i, hi, rfl⟩ := List.mem_map.1 hy
      have hi' : i < len := List.mem_range.1 hi
      rw [dif_pos hi']
      exact (hf ⟨i, hi'⟩).1
    · have hi' : i < len := by simpa using hi
      have e : ((List.range len).map fun i => if h : i < len then f ⟨i, h⟩ else default).getD i default = f ⟨i, hi'⟩ := by
        rw [List.getD_eq_getElem?_getD, List.getElem?_map, List.getElem?_range hi']
        simp [hi']
      rw [e] at hj
      exact (hf ⟨i, hi'⟩).2 j v hj
end Go.Proofs.YtbdacbcpniegiaaDoor.Q
