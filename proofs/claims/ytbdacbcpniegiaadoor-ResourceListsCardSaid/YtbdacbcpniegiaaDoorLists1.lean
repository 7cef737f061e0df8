/- Own work: a part of the symbolic executor and of the walks of the functions that the claim reaches. -/
import Derived.Test.YtbdacbcpniegiaaDoorBase4
namespace Go.Sx
open Go Go.RowKit
def CtrF (P : Program) (F : Ctx → Prop) (f : FuncId) (os : List LO) (args : List SV) (R : List LO → SV → Prop) : Prop :=
  ∀ X : Ctx, X.P = P → F X → ∀ N : Cfg → SV → Prop, (∀ os' s, R os' s → N ⟨[], os'⟩ s) → CallVC X ⟨[], os⟩ f args N
theorem CtrF.use {X : Ctx} {c : Cfg} {P : Program} {F : Ctx → Prop} {f : FuncId} {os : List LO} {args args' : List SV} {R : List LO → SV → Prop} {N : Cfg → SV → Prop} (h : CtrF P F f os args R) (hP : X.P = P) (hF : ∀ X', Under X X' → F X') (sel : List Nat)
    (hle : LeR 0 sel ⟨[], os⟩ c) (ha' : args' = args.map (SV.ren sel)) (hok : (args.all fun s => s.okB sel.length) = true)
    (hN : ∀ os' s, R os' s → N { env := c.env, loc := patchL c.loc sel (selN c.loc.length sel os') os' } (s.ren (selN c.loc.length sel os'))) : CallVC X c f args' N := by
  refine CallVC.frame sel (Q := fun c' s => R c'.loc s) (fun X' hU => h X' (by rw [hU.P, hP]) (hF X' hU) _ (fun os s hr => hr)) hle ha' hok (fun c' s hq => ?_)
  have := hN c'.loc s hq
  rw [selN_eq] at this
  exact this
theorem CtrF.less {P : Program} {F : Ctx → Prop} {f : FuncId} {os : List LO} {args : List SV} {R : List LO → SV → Prop}
    (h : CtrF P F f os args (fun os' r => ∃ sel os2 s2, LeR os.length sel ⟨[], os2⟩ ⟨[], os'⟩ ∧ r = s2.ren sel ∧ s2.okB sel.length = true ∧ R os2 s2)) : CtrF P F f os args R := by
  intro X hP hF N hN ρ σ a w hr vals ha
  have hb : X.base.length ≤ os.length := by
    have hl : σ.length = os.length := hr.lenS
    rcases Nat.lt_or_ge os.length X.base.length with h0 | h0
    · have := hr.pin os.length X.base[os.length] (by simp [h0])
      rw [List.getElem?_eq_none (by omega)] at this; cases this
    · exact h0
  refine (h X hP hF (fun c s => ∃ sel os2 s2, LeR os.length sel ⟨[], os2⟩ c ∧ s = s2.ren sel ∧ s2.okB sel.length = true ∧ R os2 s2) (fun os' s hR => hR) ρ σ a w hr vals ha).mono ?_
  rintro e w' ⟨v, c', ρ', σ', s, rfl, hr', hd, sel, os2, s2, hl, rfl, hok, hR⟩
  exact ⟨v, ⟨[], os2⟩, _, _, s2, rfl, Rel.leR ⟨fun i hi => hl.pin i (by omega), hl.env, hl.len, hl.loc, hl.nd, hl.lt, hl.okE, hl.okL⟩ hr', DV.ren hok hd, hN _ _ hR⟩
end Go.Sx
namespace Go.Proofs.YtbdacbcpniegiaaDoor.Q
open Go Go.RowKit Go.Proofs Go.Sx
set_option maxHeartbeats 8000000
set_option maxRecDepth 100000
set_option linter.unusedSimpArgs false
set_option linter.unusedVariables false
theorem add_block (ad : Addr) (i : Nat) : (ad.add i).block = ad.block := by unfold Addr.add; split <;> rfl
def FarT (X : Ctx) (q : Option Addr) (xs : List Th) : Prop := ∀ i, i < xs.length → ∃ ad : Addr, q = some ad ∧ ad.block ∉ X.own ∧ ∀ j v, (xs.getD i default).cells[j]? = some v → X.wi.cell? ((ad.add (i * 7)).add j) = some v
theorem FarT.under {X X' : Ctx} {q : Option Addr} {xs : List Th} (h : FarT X q xs) (hU : Under X X') : FarT X' q xs := fun i hi => by
  obtain ⟨ad, e, ho, hc⟩ := h i hi
  have hb : ∀ j, ((ad.add (i * 7)).add j).block = ad.block := fun j => by rw [add_block, add_block]
  have h0 : ∃ v, (xs.getD i default).cells[0]? = some v := ⟨_, rfl⟩
  obtain ⟨v, hv⟩ := h0
  refine ⟨ad, e, ?_, fun j v hj => (hU.cell (hc j v hj) (by rw [hb]; exact ho)).1⟩
  have := (hU.cell (hc 0 v hv) (by rw [hb]; exact ho)).2
  rwa [hb] at this
def thV (x : Th) : Rs := if x.own = true then thL x.r x.nm else x.r
theorem thing_any (x : Th) (w : World) : Calls Tryd.prog 46 #[.agg #[.int .i64 x.r.t, .string (B x.r.s), .int .u64 x.r.q, .bool x.r.g, .string (B x.r.b), .bool x.own, .int .u8 x.nm]] w
    fun y w' => y = .returned (.agg #[.int .i64 (thV x).t, .string (B (thV x).s), .int .u64 (thV x).q, .bool (thV x).g, .string (B (thV x).b)]) ∧ Below w.heap.size w w' := by
  obtain ⟨r, own, nm⟩ := x
  cases own with
  | false => exact thing_no r.t r.s r.b r.q r.g nm w
  | true => exact thing_yes r.t r.s r.b r.q r.g nm w
structure ThIn (X : Ctx) (ad : Addr) (i : Nat) (x : Th) : Prop where
  own : ad.block ∉ X.own
  cell : ∀ j v, x.cells[j]? = some v → X.wi.cell? ((ad.add (i * 7)).add j) = some v
theorem thBlk {X : Ctx} {code : Code} {c : Cfg} {K : Exit → Cfg → Prop} {id i : Nat} {q : Option Addr} {xs : List Th} (h : FarT X q xs) (hi : i < xs.length)
    (h1 : ∀ ad, q = some ad → ThIn X ad i (xs.getD i default) → SX X code c (bx id K)) : SX X (.block id code) c K := by
  refine SX.block ?_
  obtain ⟨ad, e, ho, hv⟩ := h i hi
  exact h1 ad e ⟨ho, hv⟩
theorem th_take {xs : List Th} {i : Nat} (hi : i < xs.length) : (xs.take (i + 1)).map thV = (xs.take i).map thV ++ [thV (xs.getD i default)] := by
  rw [List.take_add_one, List.getElem?_eq_getElem hi, List.getD_eq_getElem?_getD, List.getElem?_eq_getElem hi, List.map_append]; rfl
theorem mrow_snoc (ms : List Rs) (r : Rs) : LO.row 89 5 (ms.length + 1) (mks ms ++ [.int .i64 r.t, .string (B r.s), .int .u64 r.q, .bool r.g, .string (B r.b)]) = mrow (ms ++ [r]) := by
  simp only [mrow, List.length_append, List.length_cons, List.length_nil, mks_append]; rfl
theorem things_ctr (xs : List Th) (q : Option Addr) (cap most : Nat) (hm : most ≤ 100) : CtrF Tryd.prog (fun X => FarT X q xs) 52 [] [vv (.slice q xs.length cap), vv (.int .i64 most)] (fun os v => os = [mrow ((xs.take most).map thV)] ∧ v = .one (.c (.row 0))) := by
  refine CtrF.less ?_
  intro X0 hP0 hG0 N0 hN0
  refine CallVC.inline (f := 52) (by rw [hP0]; exact Tryd.func52) rfl Tryd.ntmps52 rfl (by simp) ?_
  intro X K hU hnt hbl hK
  have hP : X.P = Tryd.prog := by rw [hU.P, hP0]
  have hG := hG0.under hU
  have hT : X.P.underlying 106 = some (TypeDesc.slice 96) ∧ elemSz X.P 106 = some (96, 7) ∧ aggOf X.P 96 = some true ∧ szOf X.P 96 = some 7 ∧ calleeOk X.P 46 = true ∧ elemSz X.P 79 = some (89, 5) ∧ zeroCells X.P 89 = some [(Value.int IntKind.i64 0), (Value.string { data := #[] }), (Value.int IntKind.u64 0), (Value.bool false), (Value.string { data := #[] })] ∧ elemInf X.P 79 = some (89, 5, 56, (Value.agg #[(Value.int IntKind.i64 0), (Value.string { data := #[] }), (Value.int IntKind.u64 0), (Value.bool false), (Value.string { data := #[] })])) ∧ isStrT X.P 79 = false := by rw [hP]; exact ⟨Tryd.underlying106, Ty.el106, Ty.ag96, Ty.sz96, Ty.co46, Ty.el79, Ty.ze89, Ty.ei79, Ty.is79⟩
  simp only [GA, ↓GB, List.filterMap_cons, eq_self, BEq.rfl, simprocAttr] at hbl ⊢
  repeat' (first
    | (refine SX.asRow (t := 5) 89 5 rfl ⟨_, rfl⟩ ?_)
    | (refine thBlk (id := 1) (i := i) hG (by omega) (fun ad hE D => ?_) <;> subst hE)
    | (refine SX.seqK ?_; intro N hN)
    | ((first | (refine SX.ops ?_)); simp only [GA, ↓GB, List.filterMap_cons, eq_self, BEq.rfl, simprocAttr, hnt, hT])
    | ((first | refine SX.skip ?_ | refine SX.exit ?_ | refine SX.label ?_); try simp only [GA, ↓GB, List.filterMap_cons, eq_self, BEq.rfl, simprocAttr])
    | (refine SX.cond rfl (fun hb => ?_) (fun hb => ?_) <;> ((first | cases hb | (simp only [decide_eq_true_eq, decide_eq_false_iff_not, beq_iff_eq, beq_eq_false_iff_ne, bne_iff_ne, Bool.and_eq_true, Bool.or_eq_true, Bool.not_eq_true', Bool.not_eq_false', Bool.and_eq_false_iff, Bool.or_eq_false_iff, Int.not_lt, Int.not_le] at hb) | skip) <;> (first | (exfalso; omega) | skip)))
    | (refine SX.ret ?_; try simp only [GA, ↓GB, List.filterMap_cons, eq_self, BEq.rfl, simprocAttr])
    | (refine hN _ ?_; clear hN N)
    | ((first | refine hK _ _ (FinI.ret3 ?_) | refine hK _ _ (FinI.nrm3 ?_)); simp only [GA, ↓GB, List.filterMap_cons, eq_self, BEq.rfl, simprocAttr, finP_s, hnt, hT]; refine Done.out ?_)
    | (clear hN N; first | (refine hN _ ?_; clear hN N) | (clear hN N; first | (refine hN _ ?_; clear hN N) | (clear hN N; first | (refine hN _ ?_; clear hN N) | (clear hN N; first | (refine hN _ ?_; clear hN N) | (clear hN N; first | (refine hN _ ?_; clear hN N) | (refine hN _ ?_; clear hN N))))))
    | (refine bif2.mk (fun hb => ?_) (fun hb => ?_) <;> (try simp only [hb, GA, ↓GB, List.filterMap_cons, eq_self, BEq.rfl, simprocAttr, hnt, hT]) <;> ((first | cases hb | (simp only [decide_eq_true_eq, decide_eq_false_iff_not, beq_iff_eq, beq_eq_false_iff_ne, bne_iff_ne, Bool.and_eq_true, Bool.or_eq_true, Bool.not_eq_true', Bool.not_eq_false', Bool.and_eq_false_iff, Bool.or_eq_false_iff, Int.not_lt, Int.not_le] at hb) | skip) <;> (first | (exfalso; omega) | skip)))
    | ((first | (refine CallVC.pa hP (thing_any (xs.getD i default)) rfl ?_) | (refine CallQ.pa hP (thing_any (xs.getD i default)) rfl ?_)); simp only [GA, ↓GB, List.filterMap_cons, eq_self, BEq.rfl, simprocAttr, hnt, hT])
    | (refine ⟨(xs.getD i default).cells, rfl, D.cell, ?_⟩ <;> simp only [Th.cells, Rs.cells, List.map_cons, List.map_nil, List.cons_append, List.nil_append, GA, ↓GB, List.filterMap_cons, eq_self, BEq.rfl, simprocAttr, hnt, hT])
    | (exact D.own)
    | (refine SX.loop (ι := { i : Nat // i ≤ xs.length ∧ i ≤ most }) (fun i => ⟨[(0, vv (.slice q xs.length cap)), (1, vv (.int .i64 most)), (4, vv (.slice none 0 0)), (5, .one (.c (.row 0))), (6, vv (.int .i64 i.1))], [mrow ((xs.take i.1).map thV)]⟩) (fun i => xs.length - i.1) ⟨0, Nat.zero_le _, Nat.zero_le _⟩ ⟨[0], by (refine LeR.of ?_ ?_ ?_ ?_ ?_ ?_ ?_ <;> first | (rw [hbl]; decide) | decide | (simp only [GA, ↓GB, List.filterMap_cons, eq_self, BEq.rfl, simprocAttr, List.getD_cons_zero, List.getD_cons_succ, or_false, false_or, or_self, or_true, true_or, decide_true]; done) | (simp only [GA, ↓GB, List.filterMap_cons, eq_self, BEq.rfl, simprocAttr, List.getD_cons_zero, List.getD_cons_succ, or_false, false_or, or_self, or_true, true_or, decide_true]; rfl; done))⟩ ?_ <;> rintro ⟨i, hi, hi2⟩ <;> simp only [] at hi hi2 ⊢)
    | (refine SX.block ?_)
    | (refine and_mk ?_ ?_; (focus first | decide | omega | rfl | assumption | (simp only [List.length_append, List.length_cons, List.length_nil, B_size]; omega) | (simp; done)))
    | (refine And.intro ?_ ?_))
  all_goals (try refine Done.mk ?_)
  · rw [add_block]; exact D.own
  · simp only [List.length_map, List.length_take]; omega
  · have e := mrow_snoc ((xs.take i).map thV) (thV (xs.getD i default))
    rw [← th_take (by omega)] at e
    rw [e]
    exact ⟨⟨i + 1, by omega, by omega⟩, [2], by (refine LeR.of ?_ ?_ ?_ ?_ ?_ ?_ ?_ <;> first | (rw [hbl]; decide) | decide | (simp only [GA, ↓GB, List.filterMap_cons, eq_self, BEq.rfl, simprocAttr, List.getD_cons_zero, List.getD_cons_succ, or_false, false_or, or_self, or_true, true_or, decide_true]; done) | (simp only [GA, ↓GB, List.filterMap_cons, eq_self, BEq.rfl, simprocAttr, List.getD_cons_zero, List.getD_cons_succ, or_false, false_or, or_self, or_true, true_or, decide_true]; first | (rw [wI64 (by omega) (by omega)]; rfl) | rfl; done)), by show xs.length - (i + 1) < xs.length - i; omega⟩
  · have e : xs.take most = xs.take i := by rw [show most = i by omega]
    rw [e] at hN0
    (refine hN0 _ _ ⟨[0], _, _, ?_, ?_, ?_, ⟨rfl, rfl⟩⟩; (focus exact LeR.of rfl trivial (by simp only [GA, ↓GB, List.filterMap_cons, eq_self, BEq.rfl, simprocAttr, List.getD_cons_zero, List.getD_cons_succ, or_false, false_or, or_self, or_true, true_or, decide_true]) (by decide) rfl rfl rfl); rotate_left; (focus rfl))
    rfl
  · have e : xs.take most = xs.take i := by rw [List.take_of_length_le (by omega), List.take_of_length_le (by omega)]
    rw [e] at hN0
    (refine hN0 _ _ ⟨[0], _, _, ?_, ?_, ?_, ⟨rfl, rfl⟩⟩; (focus exact LeR.of rfl trivial (by simp only [GA, ↓GB, List.filterMap_cons, eq_self, BEq.rfl, simprocAttr, List.getD_cons_zero, List.getD_cons_succ, or_false, false_or, or_self, or_true, true_or, decide_true]) (by decide) rfl rfl rfl); rotate_left; (focus rfl))
    rfl
end Go.Proofs.YtbdacbcpniegiaaDoor.Q
namespace Go.Proofs.YtbdacbcpniegiaaDoor.Q
open Go Go.RowKit Go.Proofs Go.Sx
set_option maxRecDepth 100000
set_option linter.unusedSimpArgs false
set_option linter.unusedVariables false
theorem isK_eq {b : Int} {t : List UInt8} {m : Rs} : isK b t m = true ↔ m.t = b ∧ m.s = t := by
  simp [isK]
end Go.Proofs.YtbdacbcpniegiaaDoor.Q
namespace Go.Proofs.YtbdacbcpniegiaaDoor.Q
open Go Go.RowKit Go.Proofs Go.Sx
set_option maxHeartbeats 8000000
set_option maxRecDepth 100000
set_option linter.unusedSimpArgs false
set_option linter.unusedVariables false
theorem alike_ctr (ms : List Rs) (hms : ms.length ≤ 1000000) : Ctr Tryd.prog [] 56 [mrow ms, mrow ms] [.one (.c (.row 0)), .one (.c (.row 1))] (fun os v => os = [mrow ms, mrow ms] ∧ v = vv (.bool true)) := by
  refine Ctr.less ?_
  intro X0 hP0 hG0 N0 hN0
  refine CallVC.inline (f := 56) (by rw [hP0]; exact Tryd.func56) rfl Tryd.ntmps56 rfl (by simp) ?_
  intro X K hU hnt hbl hK
  have hP : X.P = Tryd.prog := by rw [hU.P, hP0]
  have hG := hG0.under hU
  have hT : X.P.underlying 79 = some (TypeDesc.slice 89) ∧ elemSz X.P 79 = some (89, 5) ∧ aggOf X.P 89 = some true ∧ szOf X.P 89 = some 5 := by rw [hP]; exact ⟨Tryd.underlying79, Ty.el79, Ty.ag89, Ty.sz89⟩
  simp only [GA, ↓GB, List.filterMap_cons, eq_self, BEq.rfl, simprocAttr] at hbl ⊢
  repeat' (first
    | (refine SX.seqK ?_; intro N hN)
    | ((first | (refine SX.ops ?_) | (refine SX.planT (id := 6) [.q [(0, [0]), (1, [5]), (2, [17, 18]), (3, [19]), (4, [1]), (5, [5]), (6, [21, 22]), (7, [23]), (8, [20, 24])] none] ?_ ?_ ?_; (focus first | (rw [hP]; kernel_rfl) | (rw [hU1P, hP]; kernel_rfl)); (focus kernel_rfl))); simp only [GA, ↓GB, List.filterMap_cons, eq_self, BEq.rfl, simprocAttr, hnt, hT])
    | ((first | refine SX.skip ?_ | refine SX.exit ?_ | refine SX.label ?_); try simp only [GA, ↓GB, List.filterMap_cons, eq_self, BEq.rfl, simprocAttr])
    | (refine SX.cond rfl (fun hb => ?_) (fun hb => ?_) <;> ((first | cases hb | (simp only [decide_eq_true_eq, decide_eq_false_iff_not, beq_iff_eq, beq_eq_false_iff_ne, bne_iff_ne, Bool.and_eq_true, Bool.or_eq_true, Bool.not_eq_true', Bool.not_eq_false', Bool.and_eq_false_iff, Bool.or_eq_false_iff, Int.not_lt, Int.not_le] at hb) | skip) <;> (first | (exfalso; omega) | skip)))
    | (refine SX.ret ?_; try simp only [GA, ↓GB, List.filterMap_cons, eq_self, BEq.rfl, simprocAttr])
    | (refine hN _ ?_; clear hN N)
    | ((first | refine hK _ _ (FinI.ret3 ?_) | refine hK _ _ (FinI.nrm3 ?_)); simp only [GA, ↓GB, List.filterMap_cons, eq_self, BEq.rfl, simprocAttr, finP_s, hnt, hT]; refine Done.out ?_)
    | (clear hN N; first | (refine hN _ ?_; clear hN N) | (clear hN N; first | (refine hN _ ?_; clear hN N) | (clear hN N; first | (refine hN _ ?_; clear hN N) | (clear hN N; first | (refine hN _ ?_; clear hN N) | (clear hN N; first | (refine hN _ ?_; clear hN N) | (refine hN _ ?_; clear hN N))))))
    | (refine bif2.mk (fun hb => ?_) (fun hb => ?_) <;> (try simp only [hb, GA, ↓GB, List.filterMap_cons, eq_self, BEq.rfl, simprocAttr, hnt, hT]) <;> ((first | cases hb | (simp only [decide_eq_true_eq, decide_eq_false_iff_not, beq_iff_eq, beq_eq_false_iff_ne, bne_iff_ne, Bool.and_eq_true, Bool.or_eq_true, Bool.not_eq_true', Bool.not_eq_false', Bool.and_eq_false_iff, Bool.or_eq_false_iff, Int.not_lt, Int.not_le] at hb) | skip) <;> (first | (exfalso; omega) | skip)))
    | (refine SX.loop (ι := { i : Nat // i ≤ ms.length }) (fun i => ⟨[(0, .one (.c (.row 0))), (1, .one (.c (.row 1))), (4, vv (.bool false)), (5, vv (.int .i64 i.1))], [mrow ms, mrow ms]⟩) (fun i => ms.length - i.1) ⟨0, Nat.zero_le _⟩ ⟨[0, 1], by (refine LeR.of ?_ ?_ ?_ ?_ ?_ ?_ ?_ <;> first | (rw [hbl]; decide) | decide | (simp only [GA, ↓GB, List.filterMap_cons, eq_self, BEq.rfl, simprocAttr, List.getD_cons_zero, List.getD_cons_succ, or_false, false_or, or_self, or_true, true_or, decide_true]; done) | (simp only [GA, ↓GB, List.filterMap_cons, eq_self, BEq.rfl, simprocAttr, List.getD_cons_zero, List.getD_cons_succ, or_false, false_or, or_self, or_true, true_or, decide_true]; rfl; done))⟩ ?_ <;> rintro ⟨i, hi⟩ <;> simp only [] at hi ⊢)
    | (refine ⟨(ms.getD i default).cells, rfl, mks_at _ _ (by omega), ?_⟩ <;> simp only [Rs.cells, GA, ↓GB, List.filterMap_cons, eq_self, BEq.rfl, simprocAttr, hnt, hT])
    | (refine ⟨_, strEq_to hP (Ty.eqS89 _ _ _ _ _ _ _ _ _ _), ?_⟩)
    | (refine SX.block ?_)
    | (refine and_mk ?_ ?_; (focus first | decide | omega | rfl | assumption | (simp only [List.length_append, List.length_cons, List.length_nil, B_size]; omega) | (simp; done)))
    | (refine And.intro ?_ ?_))
  all_goals (try refine Done.mk ?_)
  · exfalso; simp at hb
  · exact ⟨⟨i + 1, by omega⟩, [0, 1], by (refine LeR.of ?_ ?_ ?_ ?_ ?_ ?_ ?_ <;> first | (rw [hbl]; decide) | decide | (simp only [GA, ↓GB, List.filterMap_cons, eq_self, BEq.rfl, simprocAttr, List.getD_cons_zero, List.getD_cons_succ, or_false, false_or, or_self, or_true, true_or, decide_true]; done) | (simp only [GA, ↓GB, List.filterMap_cons, eq_self, BEq.rfl, simprocAttr, List.getD_cons_zero, List.getD_cons_succ, or_false, false_or, or_self, or_true, true_or, decide_true]; first | (rw [wI64 (by omega) (by omega)]; rfl) | rfl; done)), by show ms.length - (i + 1) < ms.length - i; omega⟩
  · (refine hN0 _ _ ⟨[0, 1], _, _, ?_, ?_, ?_, ⟨rfl, rfl⟩⟩; (focus exact LeR.of rfl trivial (by simp only [GA, ↓GB, List.filterMap_cons, eq_self, BEq.rfl, simprocAttr, List.getD_cons_zero, List.getD_cons_succ, or_false, false_or, or_self, or_true, true_or, decide_true]) (by decide) rfl rfl rfl); rotate_left; (focus rfl))
    rfl
def z0 : Rs := ⟨0, [], 0, false, []⟩
theorem findV_eq (o : Option Rs) : findV o = .tup [.agg [.v (.int .i64 (o.getD z0).t), .v (.string (B (o.getD z0).s)), .v (.int .u64 (o.getD z0).q), .v (.bool (o.getD z0).g), .v (.string (B (o.getD z0).b))], .c (.v (.bool o.isSome))] := by
  cases o <;> rfl
theorem mks_key (ms : List Rs) (i : Nat) (h : i < ms.length) : ((mks ms).drop (i * 5)).take 2 = [.int .i64 (ms.getD i default).t, .string (B (ms.getD i default).s)] := by
  have := congrArg (List.take 2) (mks_at ms i h)
  rw [List.take_take] at this
  exact this
end Go.Proofs.YtbdacbcpniegiaaDoor.Q
namespace Go.Proofs.YtbdacbcpniegiaaDoor.Q
open Go Go.RowKit Go.Proofs Go.Sx
set_option maxHeartbeats 16000000
set_option maxRecDepth 100000
set_option linter.unusedSimpArgs false
set_option linter.unusedVariables false
structure KnF (X : Ctx) (e : EA) (q : Option Addr) (xs : List Th) : Prop where
  g : Known X (GW e)
  f : FarT X q xs
theorem KnF.under {X X' : Ctx} {e : EA} {q : Option Addr} {xs : List Th} (h : KnF X e q xs) (hU : Under X X') : KnF X' e q xs := ⟨h.g.under hU, h.f.under hU⟩
end Go.Proofs.YtbdacbcpniegiaaDoor.Q
namespace Go.Proofs.YtbdacbcpniegiaaDoor.Q
open Go Go.RowKit Go.Proofs Go.Sx
set_option maxHeartbeats 4000000
set_option maxRecDepth 100000
set_option linter.unusedSimpArgs false
set_option linter.unusedVariables false
theorem ctrF_calls {P : Program} {F : Ctx → Prop} {f : FuncId} {args : List SV} {R : List LO → SV → Prop} (h : CtrF P F f [] args R) (w : World) (hF : F ⟨P, w, [], 0, []⟩) {vals : List Value} (ha : All2 (DV []) args vals) :
    Calls P f vals.toArray w fun e w' => ∃ v os' s σ', e = .returned v ∧ R os' s ∧ DV σ' s v ∧ Below w.heap.size w w' := by
  have hr : Rel ⟨P, w, [], 0, []⟩ ⟨[], []⟩ [] [] { tmps := #[], defers := [] } w :=
    ⟨fun t s h => by simp at h, rfl, rfl, fun i o fp v h => by simp at h, by simp, fun b h => by simp at h, fun b h => by simp at h, Fr.refl _ _, rfl, rfl, fun v h => by simp at h, fun i v h => by simp at h⟩
  refine (h ⟨P, w, [], 0, []⟩ rfl hF (fun c s => ∃ os', c = ⟨[], os'⟩ ∧ R os' s) (fun os' s hR => ⟨os', rfl, hR⟩) _ _ _ _ hr vals ha).mono ?_
  rintro e w' ⟨v, c', ρ', σ', s, rfl, hr', hd, os', rfl, hR⟩
  exact ⟨v, os', s, σ', rfl, hR, hd, hr'.low.below (by simp)⟩
theorem farT_in {P : Program} {w : World} {q : Option Addr} {xs : List Th} (hc : ∀ i, i < xs.length → ∃ ad, q = some ad ∧ ∀ j v, (xs.getD i default).cells[j]? = some v → w.cell? (ad.add (i * 7 + j)) = some v) : FarT ⟨P, w, [], 0, []⟩ q xs := fun i hi => by
  obtain ⟨ad, e, h⟩ := hc i hi
  exact ⟨ad, e, by simp, fun j v hj => by rw [Deep.add_add]; exact h j v hj⟩
theorem knF_in {w : World} {e : EA} {q : Option Addr} {xs : List Th} (hG : ∀ p ∈ GW e, w.cell? p.1 = some p.2 ∧ loneStr w p) (hc : ∀ i, i < xs.length → ∃ ad, q = some ad ∧ ∀ j v, (xs.getD i default).cells[j]? = some v → w.cell? (ad.add (i * 7 + j)) = some v) : KnF ⟨Tryd.prog, w, [], 0, []⟩ e q xs :=
  ⟨fun p hp => ⟨(hG p hp).1, by simp, (hG p hp).2⟩, farT_in hc⟩
end Go.Proofs.YtbdacbcpniegiaaDoor.Q
namespace Go.Proofs.YtbdacbcpniegiaaDoor.Q
open Go Go.RowKit Go.Proofs Go.Sx
set_option maxRecDepth 100000
set_option linter.unusedSimpArgs false
set_option linter.unusedVariables false
theorem stepL_len (ms : List Rs) (x : Rs) : (stepL ms x).length ≤ ms.length + 1 := by
  unfold stepL
  split
  · split
    · exact setL_len ms x
    · omega
  · exact setL_len ms x
theorem foldL_len (l : List Rs) : ∀ ms : List Rs, (l.foldl stepL ms).length ≤ ms.length + l.length := by
  induction l with
  | nil => intro ms; exact Nat.le_refl _
  | cons x l ih => intro ms; have h1 := ih (stepL ms x); have h2 := stepL_len ms x; simp only [List.foldl_cons, List.length_cons]; omega
theorem sortL_len (l : List Rs) : (sortL l).length ≤ l.length := by have := foldL_len l []; simpa [sortL] using this
end Go.Proofs.YtbdacbcpniegiaaDoor.Q
namespace Go.Sx
open Go Go.RowKit
set_option linter.unusedVariables false
set_option linter.unusedSimpArgs false
section
variable {X : Ctx} {c : Cfg} {d : Option Tmp} {ty : TypeId} {pos : String} {af : Array Edge} {g : Option (Nat × Bool)} {N : Cfg → Prop}
theorem VO.appendNil {x y : Operand} {t e m sz by_ : Nat} {ys : List Value} {z : Value} (hx : c.ev x = vv (.slice none 0 0))
    (ht : elemInf X.P t = some (e, sz, by_, z)) (h1 : ∀ u ∈ ys, u.oneCell' = true) (h63 : m ≤ maxLen) (hby : m * by_ ≤ 140737488355328)
    (hy : ∀ ρ σ a w, Rel X c ρ σ a w → (∃ ad cap, a.eval y = .slice (some ad) m cap ∧ ys.length = m * sz ∧ ∀ (q : Nat) (u : Value), ys[q]? = some u → w.cell? (ad.add q) = some u) ∨ (a.eval y = .slice none 0 0 ∧ m = 0 ∧ ys = []))
    (h : nxt X d N { c with loc := c.loc ++ [.gone, .row e sz m ys] } (.one (.c (.row (c.loc.length + 1))))) :
    VO X ⟨d, .call { callee := .builtin .append, args := #[x, y], argTypes := #[t, t] }, ty, pos, af, g⟩ c N :=
  .of_value fun ρ σ a w hr => by
    have ex := hr.ev x
    rw [hx] at ex
    have ex : a.eval x = .slice none 0 0 := ex
    obtain ⟨hu, ti, hti, hz, hsz, hby', hzs, h0⟩ := elemInf_spec ht
    have hd1 : w.ownsRow 0 e sz (.slice none 0 0) 0 [] := World.ownsRow_nil w 0 e sz
    have key : ∃ v' w', (Builtin.append_ #[t, t] ty #[a.eval x, a.eval y]).run X.P w = .ok v' w' ∧ w'.ownsRow 0 e sz v' m ys ∧ w.grownBy w' (Value.slice none 0 0).ownBlock ∧ (∀ k, v'.ownBlock = some k → (Value.slice none 0 0).ownBlock = some k ∨ w.heap.size ≤ k) := by
      rw [ex]
      rcases hy ρ σ a w hr with ⟨ad, cap, e3, hl, hc⟩ | ⟨e3, rfl, rfl⟩
      · rw [e3]
        have := append_cases (P := X.P) w 0 t ty e ti z sz by_ hu hti hz hsz hby' hzs h0 (.slice none 0 0) 0 [] hd1 ad m cap ys hl hc h1 (by omega) (by rw [Nat.zero_add]; exact hby) (Nat.zero_le _)
        rwa [Nat.zero_add] at this
      · rw [e3]
        have := append_cases (P := X.P) w 0 t ty e ti z sz by_ hu hti hz hsz hby' hzs h0 (.slice none 0 0) 0 [] hd1 ⟨0, 0, none⟩ 0 0 [] (by simp) (by simp) (by simp) (by omega) (by rw [Nat.zero_add]; exact hby) (Nat.zero_le _)
        have hrun : (Builtin.append_ #[t, t] ty #[.slice none 0 0, .slice (some ⟨0, 0, none⟩) 0 0]).run X.P w = (Builtin.append_ #[t, t] ty #[.slice none 0 0, .slice none 0 0]).run X.P w := by
          have hl : ∀ (ad : Addr), (loadCells ad 0).run X.P w = .ok #[] w := fun ad => by simpa using run_loadCells_list (P := X.P) w ad [] (by simp)
          simp [Builtin.append_, run_underlying hu, Builtin.lenOf, Builtin.firstCells, sizeOf, typeInfo, hti, hl, storeCells]
        rw [hrun] at this
        exact this
    obtain ⟨v', w', hrun, hown, hgr, hk⟩ := key
    have hr2 := hr.nilRow e sz
    have hi2 : ({ c with loc := c.loc ++ [LO.row e sz 0 []] } : Cfg).loc[c.loc.length]? = some (.row e sz 0 []) := by simp
    have hv2 : (σ ++ [Value.slice none 0 0])[c.loc.length]? = some (.slice none 0 0) := by rw [← hr.lenS]; simp
    obtain ⟨ρ', hR⟩ := hr2.reRow hi2 hv2 hgr hown hk
    have hloc : (c.loc ++ [LO.row e sz 0 []]).set c.loc.length .gone ++ [LO.row e sz m ys] = c.loc ++ [.gone, .row e sz m ys] := by
      rw [List.set_append_right _ _ (Nat.le_refl _)]; simp
    have hR : Rel X { c with loc := (c.loc ++ [LO.row e sz 0 []]).set c.loc.length .gone ++ [LO.row e sz m ys] } ρ' (σ ++ [Value.slice none 0 0] ++ [v']) a w' := hR
    rw [hloc] at hR
    refine ⟨v', w', _, ρ', _, .one (.c (.row (c.loc.length + 1))), ?_, hR, ?_, h.1, h.2⟩
    · simp only [execOp, resolve, invoke, builtin, Sem.run_bind, Sem.run_pure, Result.andThen_ok, List.map_toArray, List.map_cons, List.map_nil]
      rw [hrun]; rfl
    · show (σ ++ [Value.slice none 0 0] ++ [v'])[c.loc.length + 1]? = some v'
      rw [← hr.lenS]; simp
theorem VO.appendNilRow {x y : Operand} {t e e' j m sz by_ : Nat} {ys : List Value} {z : Value} (hx : c.ev x = vv (.slice none 0 0)) (hy : c.ev y = .one (.c (.row j)))
    (ht : elemInf X.P t = some (e, sz, by_, z)) (hj : c.loc[j]? = some (.row e' sz m ys)) (h1 : ∀ u ∈ ys, u.oneCell' = true) (h63 : m ≤ maxLen) (hby : m * by_ ≤ 140737488355328)
    (h : nxt X d N { c with loc := c.loc ++ [.gone, .row e sz m ys] } (.one (.c (.row (c.loc.length + 1))))) :
    VO X ⟨d, .call { callee := .builtin .append, args := #[x, y], argTypes := #[t, t] }, ty, pos, af, g⟩ c N :=
  VO.appendNil hx ht h1 h63 hby (fun ρ σ a w hr => by
    have ey := hr.ev y
    rw [hy] at ey
    have ey : σ[j]? = some (a.eval y) := ey
    obtain ⟨fq, hfq⟩ := hr.locAt hj
    have hdj := hr.loc j _ fq _ hj hfq ey
    rcases hdj.1.2 with ⟨e3, hm0⟩ | ⟨gg, cap, cur, e3, _⟩
    · exact .inr ⟨e3, hm0, by have := hdj.1.1; rw [hm0] at this; simpa using this⟩
    · exact .inl ⟨⟨gg, 0, none⟩, cap, e3, hdj.1.1, fun q u hq => hr.rowCell hj (by rw [ey, e3]) q u hq⟩) h
end
end Go.Sx
namespace Go.Proofs.YtbdacbcpniegiaaDoor.Q
open Go Go.RowKit Go.Proofs Go.Sx
set_option maxHeartbeats 4000000
set_option maxRecDepth 100000
set_option linter.unusedSimpArgs false
set_option linter.unusedVariables false
end Go.Proofs.YtbdacbcpniegiaaDoor.Q
namespace Go.Proofs.YtbdacbcpniegiaaDoor
open Go Go.RowKit Go.Proofs Go.Sx
set_option maxHeartbeats 4000000
set_option maxRecDepth 100000
set_option linter.unusedSimpArgs false
set_option linter.unusedVariables false
end Go.Proofs.YtbdacbcpniegiaaDoor
namespace Go.Proofs.YtbdacbcpniegiaaDoor
open Go Go.RowKit Go.Proofs Go.Sx
set_option maxHeartbeats 4000000
set_option maxRecDepth 100000
set_option linter.unusedSimpArgs false
set_option linter.unusedVariables false
end Go.Proofs.YtbdacbcpniegiaaDoor
namespace Go.Proofs.YtbdacbcpniegiaaDoor
open Go Go.RowKit Go.Proofs Go.Sx
set_option maxHeartbeats 4000000
set_option maxRecDepth 100000
set_option linter.unusedSimpArgs false
set_option linter.unusedVariables false
end Go.Proofs.YtbdacbcpniegiaaDoor
namespace Go.Proofs.YtbdacbcpniegiaaDoor
open Go Go.RowKit Go.Proofs Go.Sx
set_option maxHeartbeats 4000000
set_option maxRecDepth 100000
set_option linter.unusedSimpArgs false
set_option linter.unusedVariables false
theorem mks_key (l : List Mk) (i : Nat) (h : i < l.length) : ((mks l).drop (i * 5)).take 2 = [.int .i64 (l.getD i default).t, .string (B (l.getD i default).s)] := by
  have := congrArg (List.take 2) (mks_at l i h)
  rw [List.take_take] at this
  exact this
end Go.Proofs.YtbdacbcpniegiaaDoor
namespace Go.Proofs.YtbdacbcpniegiaaDoor
open Go Go.RowKit Go.Proofs Go.Sx
set_option maxHeartbeats 4000000
set_option maxRecDepth 100000
set_option linter.unusedSimpArgs false
set_option linter.unusedVariables false
end Go.Proofs.YtbdacbcpniegiaaDoor
namespace Go.Proofs.YtbdacbcpniegiaaDoor
open Go Go.RowKit Go.Proofs Go.Sx
set_option maxHeartbeats 4000000
set_option maxRecDepth 100000
set_option linter.unusedSimpArgs false
set_option linter.unusedVariables false
end Go.Proofs.YtbdacbcpniegiaaDoor
namespace Go.Proofs.YtbdacbcpniegiaaDoor
open Go Go.RowKit Go.Proofs Go.Sx
set_option maxHeartbeats 4000000
set_option maxRecDepth 100000
set_option linter.unusedSimpArgs false
set_option linter.unusedVariables false
end Go.Proofs.YtbdacbcpniegiaaDoor
namespace Go.Proofs.YtbdacbcpniegiaaDoor
open Go Go.RowKit Go.Proofs Go.Sx
set_option linter.unusedSimpArgs false
set_option linter.unusedVariables false
theorem cmpM_congr {a b c e : Mk} (h1 : a.t = c.t ∧ a.s = c.s ∧ a.q = c.q) (h2 : b.t = e.t ∧ b.s = e.s ∧ b.q = e.q) : cmpM a b = cmpM c e := by
  simp only [cmpM, h1.1, h1.2.1, h1.2.2, h2.1, h2.2.1, h2.2.2]
def Srt (ms : List Mk) : Prop := ms.Pairwise fun a b => cmpM a b < 0
def kk (t : Int) (s : List UInt8) (q : Int) (x : Mk) : Bool := x.t == t && x.s == s && x.q == q
theorem Srt.map {ms : List Mk} (h : Srt ms) {f : Mk → Mk} (hf : ∀ x, (f x).t = x.t ∧ (f x).s = x.s ∧ (f x).q = x.q) : Srt (ms.map f) := by
  rw [Srt, List.pairwise_map]
  exact h.imp fun {a b} hab => by rw [cmpM_congr (hf a) (hf b)]; exact hab
theorem Srt.filter {ms : List Mk} (h : Srt ms) (p : Mk → Bool) : Srt (ms.filter p) := List.Pairwise.sublist List.filter_sublist h
structure Inv (ms : List Mk) : Prop where
  srt : Srt ms
  room : ms.length ≤ 1024
theorem Inv.nil : Inv [] := ⟨List.Pairwise.nil, by decide⟩
end Go.Proofs.YtbdacbcpniegiaaDoor
namespace Go.Proofs.YtbdacbcpniegiaaDoor
open Go Go.RowKit Go.Proofs Go.Sx
set_option maxHeartbeats 4000000
set_option maxRecDepth 100000
set_option linter.unusedSimpArgs false
set_option linter.unusedVariables false
theorem rOrder_any (a b : Int) (s t : List UInt8) (w : World) : Calls Tryd.prog 95 #[.agg #[.int .i64 a, .string (B s)], .agg #[.int .i64 b, .string (B t)]] w fun e w' => e = .returned (.int .i64 (cmpKey a s b t)) ∧ Below w.heap.size w w' := by
  refine calls_pureK (args := [.agg #[.int .i64 a, .string (B s)], .agg #[.int .i64 b, .string (B t)]]) w Tryd.func95 rfl Tryd.ntmps95 (by simp) ?_
  intro X K hX hK
  have hnt : X.nt = 29 := by rw [hX]
  have hwi : X.wi = w := by rw [hX]
  have hP : X.P = Tryd.prog := by rw [hX]
  have hown : X.own = [] := by rw [hX]
  have hbl : X.base.length = 0 := by rw [hX]; rfl
  clear hX
  have hT : aggOf X.P 26 = some true ∧ szOf X.P 26 = some 2 ∧ fieldOff X.P 26 0 = some 0 ∧ aggOf X.P 3 = some false ∧ szOf X.P 3 = some 1 ∧ fieldOff X.P 26 1 = some 1 ∧ aggOf X.P 9 = some false ∧ szOf X.P 9 = some 1 := by rw [hP]; exact ⟨Ty.ag26, Ty.sz26, Ty.fo26_0, Ty.ag3, Ty.sz3, Ty.fo26_1, Ty.ag9, Ty.sz9⟩
  repeat' (first
    | (refine SX.seqK ?_; intro N hN)
    | ((first | (refine SX.ops ?_)); simp only [GA, ↓GB, List.filterMap_cons, eq_self, BEq.rfl, simprocAttr, hnt, hT, hnt])
    | ((first | refine SX.skip ?_ | refine SX.exit ?_ | refine SX.label ?_); try simp only [GA, ↓GB, List.filterMap_cons, eq_self, BEq.rfl, simprocAttr])
    | (refine SX.cond rfl (fun hb => ?_) (fun hb => ?_) <;> ((first | cases hb | (simp only [decide_eq_true_eq, decide_eq_false_iff_not, beq_iff_eq, beq_eq_false_iff_ne, bne_iff_ne, Bool.and_eq_true, Bool.or_eq_true, Bool.not_eq_true', Bool.not_eq_false', Bool.and_eq_false_iff, Bool.or_eq_false_iff, Int.not_lt, Int.not_le] at hb) | skip) <;> (first | (exfalso; omega) | skip)))
    | (refine SX.ret ?_; try simp only [GA, ↓GB, List.filterMap_cons, eq_self, BEq.rfl, simprocAttr])
    | (refine hN _ ?_; clear hN N)
    | (refine hK _ _ (Fin.res rfl hown ?_); simp only [GA, ↓GB, List.filterMap_cons, eq_self, BEq.rfl, simprocAttr, f_a, f_b, f_n, f_c, f_B, f_v, f_g, f_0, f_1, f_2, hT, hwi, hnt]; intro w' hbel; refine Done.out ?_)
    | (clear hN N; first | (refine hN _ ?_; clear hN N) | (clear hN N; first | (refine hN _ ?_; clear hN N) | (clear hN N; first | (refine hN _ ?_; clear hN N) | (clear hN N; first | (refine hN _ ?_; clear hN N) | (clear hN N; first | (refine hN _ ?_; clear hN N) | (refine hN _ ?_; clear hN N))))))
    | (refine bif2.mk (fun hb => ?_) (fun hb => ?_) <;> (try simp only [hb, GA, ↓GB, List.filterMap_cons, eq_self, BEq.rfl, simprocAttr, hnt, hT, hnt]) <;> ((first | cases hb | (simp only [decide_eq_true_eq, decide_eq_false_iff_not, beq_iff_eq, beq_eq_false_iff_ne, bne_iff_ne, Bool.and_eq_true, Bool.or_eq_true, Bool.not_eq_true', Bool.not_eq_false', Bool.and_eq_false_iff, Bool.or_eq_false_iff, Int.not_lt, Int.not_le] at hb) | skip) <;> (first | (exfalso; omega) | skip)))
    | (refine ⟨_, strEq_to hP (Ty.eqS26 _ _ _ _), ?_⟩ <;> (try simp only [GA, ↓GB, List.filterMap_cons, eq_self, BEq.rfl, simprocAttr, hnt, hT]))
    | (refine SX.block ?_)
    | (refine and_mk ?_ ?_; (focus first | decide | omega | rfl | assumption | (simp only [List.length_append, List.length_cons, List.length_nil, B_size]; omega) | (simp; done)))
    | (refine And.intro ?_ ?_))
  all_goals (try refine Done.mk ?_)
  · obtain ⟨rfl, rfl⟩ := hb
    exact ⟨by simp [cmpKey, cmpI_eq.2 rfl, cmpS_eq.2 rfl], hbel⟩
  · rename_i h0
    exact ⟨by simp [cmpKey, cmpI, hb], hbel⟩
  · rename_i h0 h1 h2
    subst h2
    exact ⟨by simp [cmpKey, cmpI_eq.2 rfl, cmpS, hb], hbel⟩
  · rename_i h0 h1 h2
    subst h2
    have hn : ¬ cmpS s t = 0 := fun e => by
      have := cmpS_eq.1 e
      rcases h0 with h0 | h0 <;> contradiction
    have : cmpS s t = 1 := by
      unfold cmpS at hn ⊢
      rw [hb] at hn ⊢
      simp only [Bool.false_eq_true, if_false] at hn ⊢
      split
      · rfl
      · rename_i h3; rw [if_neg h3] at hn; exact absurd rfl hn
    exact ⟨by simp [cmpKey, cmpI_eq.2 rfl, this], hbel⟩
  · rename_i h0 h1
    have : cmpI a b = 1 := by unfold cmpI; rw [if_neg (by omega), if_pos (by omega)]
    exact ⟨by simp [cmpKey, this], hbel⟩
end Go.Proofs.YtbdacbcpniegiaaDoor
namespace Go.Proofs.YtbdacbcpniegiaaDoor.Q
open Go Go.RowKit Go.Proofs Go.Sx
set_option maxHeartbeats 16000000
set_option maxRecDepth 100000
set_option linter.unusedSimpArgs false
set_option linter.unusedVariables false
theorem rNewer_any (a b : Rs) (w : World) : Calls Tryd.prog 118 #[.agg #[.int .i64 a.t, .string (B a.s), .int .u64 a.q, .bool a.g, .string (B a.b)], .agg #[.int .i64 b.t, .string (B b.s), .int .u64 b.q, .bool b.g, .string (B b.b)]] w
    fun x w' => x = .returned (.bool (decide ((b.q : Int) < (a.q : Int)))) ∧ Below w.heap.size w w' := by
  refine calls_pureK (args := [.agg #[.int .i64 a.t, .string (B a.s), .int .u64 a.q, .bool a.g, .string (B a.b)], .agg #[.int .i64 b.t, .string (B b.s), .int .u64 b.q, .bool b.g, .string (B b.b)]]) w Tryd.func118 rfl Tryd.ntmps118 (by simp) ?_
  intro X K hX hK
  have hnt : X.nt = 10 := by rw [hX]
  have hwi : X.wi = w := by rw [hX]
  have hP : X.P = Tryd.prog := by rw [hX]
  have hown : X.own = [] := by rw [hX]
  have hbl : X.base.length = 0 := by rw [hX]; rfl
  clear hX
  have hT : fieldOff X.P 89 1 = some 2 ∧ aggOf X.P 22 = some false ∧ szOf X.P 22 = some 1 := by rw [hP]; exact ⟨Ty.fo89_1, Ty.ag22, Ty.sz22⟩
  repeat' (first
    | (refine SX.seqK ?_; intro N hN)
    | ((first | (refine SX.ops ?_)); simp only [GA, ↓GB, List.filterMap_cons, eq_self, BEq.rfl, simprocAttr, hnt, hT])
    | ((first | refine SX.skip ?_ | refine SX.exit ?_ | refine SX.label ?_); try simp only [GA, ↓GB, List.filterMap_cons, eq_self, BEq.rfl, simprocAttr])
    | (refine SX.cond rfl (fun hb => ?_) (fun hb => ?_) <;> ((first | cases hb | (simp only [decide_eq_true_eq, decide_eq_false_iff_not, beq_iff_eq, beq_eq_false_iff_ne, bne_iff_ne, Bool.and_eq_true, Bool.or_eq_true, Bool.not_eq_true', Bool.not_eq_false', Bool.and_eq_false_iff, Bool.or_eq_false_iff, Int.not_lt, Int.not_le] at hb) | skip) <;> (first | (exfalso; omega) | skip)))
    | (refine SX.ret ?_; try simp only [GA, ↓GB, List.filterMap_cons, eq_self, BEq.rfl, simprocAttr])
    | (refine hN _ ?_; clear hN N)
    | (refine hK _ _ (Fin.res rfl hown ?_); simp only [GA, ↓GB, List.filterMap_cons, eq_self, BEq.rfl, simprocAttr, f_a, f_b, f_n, f_c, f_B, f_v, f_g, f_0, f_1, f_2, hT, hwi]; intro w' hbel; refine Done.out ?_)
    | (clear hN N; first | (refine hN _ ?_; clear hN N) | (clear hN N; first | (refine hN _ ?_; clear hN N) | (clear hN N; first | (refine hN _ ?_; clear hN N) | (clear hN N; first | (refine hN _ ?_; clear hN N) | (clear hN N; first | (refine hN _ ?_; clear hN N) | (refine hN _ ?_; clear hN N))))))
    | (refine bif2.mk (fun hb => ?_) (fun hb => ?_) <;> (try simp only [hb, GA, ↓GB, List.filterMap_cons, eq_self, BEq.rfl, simprocAttr, hnt, hT]) <;> ((first | cases hb | (simp only [decide_eq_true_eq, decide_eq_false_iff_not, beq_iff_eq, beq_eq_false_iff_ne, bne_iff_ne, Bool.and_eq_true, Bool.or_eq_true, Bool.not_eq_true', Bool.not_eq_false', Bool.and_eq_false_iff, Bool.or_eq_false_iff, Int.not_lt, Int.not_le] at hb) | skip) <;> (first | (exfalso; omega) | skip)))
    | (refine SX.block ?_)
    | (refine and_mk ?_ ?_; (focus first | decide | omega | rfl | assumption | (simp only [List.length_append, List.length_cons, List.length_nil, B_size]; omega) | (simp; done)))
    | (refine And.intro ?_ ?_))
  all_goals (try refine Done.mk ?_)
  all_goals first | exact hbel | exact ⟨rfl, hbel⟩
theorem rFind_ctr (ms : List Rs) (hms : ms.length ≤ 1000000) (b : Int) (t : List UInt8) : Ctr Tryd.prog [] 57 [mrow ms] [.one (.c (.row 0)), .one (.agg [.v (.int .i64 b), .v (.string (B t))])] (fun os v => os = [mrow ms] ∧ v = findV (ms.find? (isK b t))) := by
  refine Ctr.less ?_
  intro X0 hP0 hG0 N0 hN0
  refine CallVC.inline (f := 57) (by rw [hP0]; exact Tryd.func57) rfl Tryd.ntmps57 rfl (by simp) ?_
  intro X K hU hnt hbl hK
  have hP : X.P = Tryd.prog := by rw [hU.P, hP0]
  have hG := hG0.under hU
  have hT : zeroCells X.P 89 = some [(Value.int IntKind.i64 0), (Value.string { data := #[] }), (Value.int IntKind.u64 0), (Value.bool false), (Value.string { data := #[] })] ∧ X.P.underlying 79 = some (TypeDesc.slice 89) ∧ elemSz X.P 79 = some (89, 5) ∧ fieldOff X.P 89 0 = some 0 ∧ aggOf X.P 26 = some true ∧ szOf X.P 26 = some 2 ∧ aggOf X.P 89 = some true ∧ szOf X.P 89 = some 5 ∧ fieldsOf X.P 89 = some [(0, 2), (2, 1), (3, 1), (4, 1)] := by rw [hP]; exact ⟨Ty.ze89, Tryd.underlying79, Ty.el79, Ty.fo89_0, Ty.ag26, Ty.sz26, Ty.ag89, Ty.sz89, Ty.fs89⟩
  simp only [GA, ↓GB, List.filterMap_cons, eq_self, BEq.rfl, simprocAttr] at hbl ⊢
  repeat' (first
    | (refine SX.seqK ?_; intro N hN)
    | ((first | (refine SX.ops ?_) | (refine SX.planT (id := 4) [.q [(0, [0]), (1, [6]), (2, [13, 14]), (3, [15]), (4, [16]), (5, [3]), (6, [17, 18])] none] ?_ ?_ ?_; (focus first | (rw [hP]; kernel_rfl) | (rw [hU1P, hP]; kernel_rfl)); (focus kernel_rfl))); simp only [GA, ↓GB, List.filterMap_cons, eq_self, BEq.rfl, simprocAttr, hnt, hT])
    | ((first | refine SX.skip ?_ | refine SX.exit ?_ | refine SX.label ?_); try simp only [GA, ↓GB, List.filterMap_cons, eq_self, BEq.rfl, simprocAttr])
    | (refine SX.cond rfl (fun hb => ?_) (fun hb => ?_) <;> ((first | cases hb | (simp only [decide_eq_true_eq, decide_eq_false_iff_not, beq_iff_eq, beq_eq_false_iff_ne, bne_iff_ne, Bool.and_eq_true, Bool.or_eq_true, Bool.not_eq_true', Bool.not_eq_false', Bool.and_eq_false_iff, Bool.or_eq_false_iff, Int.not_lt, Int.not_le] at hb) | skip) <;> (first | (exfalso; omega) | skip)))
    | (refine SX.ret ?_; try simp only [GA, ↓GB, List.filterMap_cons, eq_self, BEq.rfl, simprocAttr])
    | (refine hN _ ?_; clear hN N)
    | ((first | refine hK _ _ (FinI.ret3 ?_) | refine hK _ _ (FinI.nrm3 ?_)); simp only [GA, ↓GB, List.filterMap_cons, eq_self, BEq.rfl, simprocAttr, finP_s, hnt, hT]; refine Done.out ?_)
    | (clear hN N; first | (refine hN _ ?_; clear hN N) | (clear hN N; first | (refine hN _ ?_; clear hN N) | (clear hN N; first | (refine hN _ ?_; clear hN N) | (clear hN N; first | (refine hN _ ?_; clear hN N) | (clear hN N; first | (refine hN _ ?_; clear hN N) | (refine hN _ ?_; clear hN N))))))
    | (refine bif2.mk (fun hb => ?_) (fun hb => ?_) <;> (try simp only [hb, GA, ↓GB, List.filterMap_cons, eq_self, BEq.rfl, simprocAttr, hnt, hT]) <;> ((first | cases hb | (simp only [decide_eq_true_eq, decide_eq_false_iff_not, beq_iff_eq, beq_eq_false_iff_ne, bne_iff_ne, Bool.and_eq_true, Bool.or_eq_true, Bool.not_eq_true', Bool.not_eq_false', Bool.and_eq_false_iff, Bool.or_eq_false_iff, Int.not_lt, Int.not_le] at hb) | skip) <;> (first | (exfalso; omega) | skip)))
    | (refine SX.loop (ι := { i : Nat // i ≤ ms.length ∧ ∀ j, j < i → isK b t (ms.getD j default) = false }) (fun i => ⟨[(0, .one (.c (.row 0))), (3, .one (.c (.loc 1 0))), (4, .one (.c (.loc 2 0))), (5, vv (.bool false)), (6, vv (.int .i64 i.1))], [mrow ms, .cells [.v (.int .i64 b), .v (.string (B t))] 26, rs0]⟩) (fun i => ms.length - i.1) ⟨0, Nat.zero_le _, fun j hj => absurd hj (Nat.not_lt_zero j)⟩ ⟨[0, 1, 2], by (refine LeR.of ?_ ?_ ?_ ?_ ?_ ?_ ?_ <;> first | (rw [hbl]; decide) | decide | (simp only [GA, ↓GB, List.filterMap_cons, eq_self, BEq.rfl, simprocAttr, List.getD_cons_zero, List.getD_cons_succ, or_false, false_or, or_self, or_true, true_or, decide_true]; done) | (simp only [GA, ↓GB, List.filterMap_cons, eq_self, BEq.rfl, simprocAttr, List.getD_cons_zero, List.getD_cons_succ, or_false, false_or, or_self, or_true, true_or, decide_true]; rfl; done))⟩ ?_ <;> rintro ⟨i, hi, hno⟩ <;> simp only [] at hi hno ⊢)
    | (refine ⟨_, rfl, mks_key _ _ (by omega), ?_⟩ <;> (try simp only [GA, ↓GB, List.filterMap_cons, eq_self, BEq.rfl, simprocAttr, hnt, hT]))
    | (refine ⟨(ms.getD i default).cells, rfl, mks_at _ _ (by omega), ?_⟩ <;> simp only [Rs.cells, GA, ↓GB, List.filterMap_cons, eq_self, BEq.rfl, simprocAttr, hnt, hT])
    | (refine ⟨_, strEq_to hP (Ty.eqS26 _ _ _ _), ?_⟩)
    | (refine SX.block ?_)
    | (refine and_mk ?_ ?_; (focus first | decide | omega | rfl | assumption | (simp only [List.length_append, List.length_cons, List.length_nil, B_size]; omega) | (simp; done)))
    | (refine And.intro ?_ ?_))
  all_goals (try refine Done.mk ?_)
  · rw [find_some (by omega) (isK_eq.2 hb) hno] at hN0
    (refine hN0 _ _ ⟨[0], _, _, ?_, ?_, ?_, ⟨rfl, rfl⟩⟩; (focus exact LeR.of rfl trivial (by simp only [GA, ↓GB, List.filterMap_cons, eq_self, BEq.rfl, simprocAttr, List.getD_cons_zero, List.getD_cons_succ, or_false, false_or, or_self, or_true, true_or, decide_true]) (by decide) rfl rfl rfl); rotate_left; (focus rfl))
    rfl
  · exact ⟨⟨i + 1, by omega, fun j hj => by
      rcases Nat.lt_or_eq_of_le (Nat.le_of_lt_succ hj) with h | rfl
      · exact hno j h
      · rw [Bool.eq_false_iff]; intro h; obtain ⟨h1, h2⟩ := isK_eq.1 h; rcases hb with hb | hb; exact hb h1; exact hb h2⟩, [0, 1, 2], by (refine LeR.of ?_ ?_ ?_ ?_ ?_ ?_ ?_ <;> first | (rw [hbl]; decide) | decide | (simp only [GA, ↓GB, List.filterMap_cons, eq_self, BEq.rfl, simprocAttr, List.getD_cons_zero, List.getD_cons_succ, or_false, false_or, or_self, or_true, true_or, decide_true]; done) | (simp only [GA, ↓GB, List.filterMap_cons, eq_self, BEq.rfl, simprocAttr, List.getD_cons_zero, List.getD_cons_succ, or_false, false_or, or_self, or_true, true_or, decide_true]; first | (rw [wI64 (by omega) (by omega)]; rfl) | rfl; done)), by show ms.length - (i + 1) < ms.length - i; omega⟩
  · rw [find_none (fun j hj => hno j (by omega))] at hN0
    (refine hN0 _ _ ⟨[0], _, _, ?_, ?_, ?_, ⟨rfl, rfl⟩⟩; (focus exact LeR.of rfl trivial (by simp only [GA, ↓GB, List.filterMap_cons, eq_self, BEq.rfl, simprocAttr, List.getD_cons_zero, List.getD_cons_succ, or_false, false_or, or_self, or_true, true_or, decide_true]) (by decide) rfl rfl rfl); rotate_left; (focus rfl))
    rfl
theorem filt_step {b : Int} {t : List UInt8} {ms : List Rs} {i : Nat} (hi : i < ms.length) (h : isK b t (ms.getD i default) = false) : (ms.take (i + 1)).filter (fun m => !isK b t m) = (ms.take i).filter (fun m => !isK b t m) ++ [ms.getD i default] := by
  rw [List.getD_eq_getElem?_getD, List.getElem?_eq_getElem hi] at h ⊢
  have h : isK b t ms[i] = false := h
  rw [List.take_add_one, List.getElem?_eq_getElem hi, List.filter_append]
  simp [h]
theorem filt_skip {b : Int} {t : List UInt8} {ms : List Rs} {i : Nat} (hi : i < ms.length) (h : isK b t (ms.getD i default) = true) : (ms.take (i + 1)).filter (fun m => !isK b t m) = (ms.take i).filter (fun m => !isK b t m) := by
  rw [List.getD_eq_getElem?_getD, List.getElem?_eq_getElem hi] at h
  have h : isK b t ms[i] = true := h
  rw [List.take_add_one, List.getElem?_eq_getElem hi, List.filter_append]
  simp [h]
theorem notK {b : Int} {t : List UInt8} {m : Rs} (h : m.t ≠ b ∨ m.s ≠ t) : isK b t m = false := by
  rw [Bool.eq_false_iff]; intro h2; obtain ⟨h3, h4⟩ := isK_eq.1 h2; rcases h with h | h; exact h h3; exact h h4
theorem rCut_ctr (ms : List Rs) (hms : ms.length ≤ 1000000) (b : Int) (t : List UInt8) : Ctr Tryd.prog [] 61 [mrow ms] [.one (.c (.row 0)), .one (.agg [.v (.int .i64 b), .v (.string (B t))])] (fun os v => os = [mrow ms, mrow (ms.filter fun m => !isK b t m)] ∧ v = .one (.c (.row 1))) := by
  refine Ctr.less ?_
  intro X0 hP0 hG0 N0 hN0
  refine CallVC.inline (f := 61) (by rw [hP0]; exact Tryd.func61) rfl Tryd.ntmps61 rfl (by simp) ?_
  intro X K hU hnt hbl hK
  have hP : X.P = Tryd.prog := by rw [hU.P, hP0]
  have hG := hG0.under hU
  have hT : X.P.underlying 79 = some (TypeDesc.slice 89) ∧ elemSz X.P 79 = some (89, 5) ∧ fieldOff X.P 89 0 = some 0 ∧ aggOf X.P 26 = some true ∧ szOf X.P 26 = some 2 ∧ aggOf X.P 89 = some true ∧ szOf X.P 89 = some 5 ∧ zeroCells X.P 89 = some [(Value.int IntKind.i64 0), (Value.string { data := #[] }), (Value.int IntKind.u64 0), (Value.bool false), (Value.string { data := #[] })] ∧ elemInf X.P 79 = some (89, 5, 56, (Value.agg #[(Value.int IntKind.i64 0), (Value.string { data := #[] }), (Value.int IntKind.u64 0), (Value.bool false), (Value.string { data := #[] })])) ∧ isStrT X.P 79 = false := by rw [hP]; exact ⟨Tryd.underlying79, Ty.el79, Ty.fo89_0, Ty.ag26, Ty.sz26, Ty.ag89, Ty.sz89, Ty.ze89, Ty.ei79, Ty.is79⟩
  simp only [GA, ↓GB, List.filterMap_cons, eq_self, BEq.rfl, simprocAttr] at hbl ⊢
  repeat' (first
    | (refine SX.asRow (t := 5) 89 5 rfl ⟨_, rfl⟩ ?_)
    | (refine SX.seqK ?_; intro N hN)
    | ((first | (refine SX.ops ?_) | (refine SX.planT (id := 5) [.q [(0, [0]), (1, [6]), (2, [13, 14]), (3, [15]), (4, [16]), (5, [3]), (6, [17, 18])] none] ?_ ?_ ?_; (focus first | (rw [hP]; kernel_rfl) | (rw [hU1P, hP]; kernel_rfl)); (focus kernel_rfl))); simp only [GA, ↓GB, List.filterMap_cons, eq_self, BEq.rfl, simprocAttr, hnt, hT])
    | ((first | refine SX.skip ?_ | refine SX.exit ?_ | refine SX.label ?_); try simp only [GA, ↓GB, List.filterMap_cons, eq_self, BEq.rfl, simprocAttr])
    | (refine SX.cond rfl (fun hb => ?_) (fun hb => ?_) <;> ((first | cases hb | (simp only [decide_eq_true_eq, decide_eq_false_iff_not, beq_iff_eq, beq_eq_false_iff_ne, bne_iff_ne, Bool.and_eq_true, Bool.or_eq_true, Bool.not_eq_true', Bool.not_eq_false', Bool.and_eq_false_iff, Bool.or_eq_false_iff, Int.not_lt, Int.not_le] at hb) | skip) <;> (first | (exfalso; omega) | skip)))
    | (refine SX.ret ?_; try simp only [GA, ↓GB, List.filterMap_cons, eq_self, BEq.rfl, simprocAttr])
    | (refine hN _ ?_; clear hN N)
    | ((first | refine hK _ _ (FinI.ret3 ?_) | refine hK _ _ (FinI.nrm3 ?_)); simp only [GA, ↓GB, List.filterMap_cons, eq_self, BEq.rfl, simprocAttr, finP_s, hnt, hT]; refine Done.out ?_)
    | (clear hN N; first | (refine hN _ ?_; clear hN N) | (clear hN N; first | (refine hN _ ?_; clear hN N) | (clear hN N; first | (refine hN _ ?_; clear hN N) | (clear hN N; first | (refine hN _ ?_; clear hN N) | (clear hN N; first | (refine hN _ ?_; clear hN N) | (refine hN _ ?_; clear hN N))))))
    | (refine bif2.mk (fun hb => ?_) (fun hb => ?_) <;> (try simp only [hb, GA, ↓GB, List.filterMap_cons, eq_self, BEq.rfl, simprocAttr, hnt, hT]) <;> ((first | cases hb | (simp only [decide_eq_true_eq, decide_eq_false_iff_not, beq_iff_eq, beq_eq_false_iff_ne, bne_iff_ne, Bool.and_eq_true, Bool.or_eq_true, Bool.not_eq_true', Bool.not_eq_false', Bool.and_eq_false_iff, Bool.or_eq_false_iff, Int.not_lt, Int.not_le] at hb) | skip) <;> (first | (exfalso; omega) | skip)))
    | (refine SX.loop (ι := { i : Nat // i ≤ ms.length }) (fun i => ⟨[(0, .one (.c (.row 0))), (3, .one (.c (.loc 1 0))), (4, vv (.slice none 0 0)), (5, .one (.c (.row 2))), (6, vv (.int .i64 i.1))], [mrow ms, .cells [.v (.int .i64 b), .v (.string (B t))] 26, mrow ((ms.take i.1).filter fun m => !isK b t m)]⟩) (fun i => ms.length - i.1) ⟨0, Nat.zero_le _⟩ ⟨[0, 1, 2], by (refine LeR.of ?_ ?_ ?_ ?_ ?_ ?_ ?_ <;> first | (rw [hbl]; decide) | decide | (simp only [GA, ↓GB, List.filterMap_cons, eq_self, BEq.rfl, simprocAttr, List.getD_cons_zero, List.getD_cons_succ, or_false, false_or, or_self, or_true, true_or, decide_true]; done) | (simp only [GA, ↓GB, List.filterMap_cons, eq_self, BEq.rfl, simprocAttr, List.getD_cons_zero, List.getD_cons_succ, or_false, false_or, or_self, or_true, true_or, decide_true]; rfl; done))⟩ ?_ <;> rintro ⟨i, hi⟩ <;> simp only [] at hi ⊢)
    | (refine ⟨_, rfl, mks_key _ _ (by omega), ?_⟩ <;> (try simp only [GA, ↓GB, List.filterMap_cons, eq_self, BEq.rfl, simprocAttr, hnt, hT]))
    | (refine ⟨(ms.getD i default).cells, rfl, mks_at _ _ (by omega), ?_⟩ <;> simp only [Rs.cells, GA, ↓GB, List.filterMap_cons, eq_self, BEq.rfl, simprocAttr, hnt, hT])
    | (refine ⟨_, strEq_to hP (Ty.eqS26 _ _ _ _), ?_⟩)
    | (refine SX.block ?_)
    | (refine and_mk ?_ ?_; (focus first | decide | omega | rfl | assumption | (simp only [List.length_append, List.length_cons, List.length_nil, B_size]; omega) | (simp; done)))
    | (refine And.intro ?_ ?_))
  all_goals (try refine Done.mk ?_)
  · have := List.length_filter_le (fun m => !isK b t m) (ms.take i)
    rw [List.length_take] at this
    omega
  · have e := mrow_snoc ((ms.take i).filter fun m => !isK b t m) (ms.getD i default)
    rw [← filt_step (by omega) (notK hb)] at e
    rw [e]
    exact ⟨⟨i + 1, by omega⟩, [0, 1, 4], by (refine LeR.of ?_ ?_ ?_ ?_ ?_ ?_ ?_ <;> first | (rw [hbl]; decide) | decide | (simp only [GA, ↓GB, List.filterMap_cons, eq_self, BEq.rfl, simprocAttr, List.getD_cons_zero, List.getD_cons_succ, or_false, false_or, or_self, or_true, true_or, decide_true]; done) | (simp only [GA, ↓GB, List.filterMap_cons, eq_self, BEq.rfl, simprocAttr, List.getD_cons_zero, List.getD_cons_succ, or_false, false_or, or_self, or_true, true_or, decide_true]; first | (rw [wI64 (by omega) (by omega)]; rfl) | rfl; done)), by show ms.length - (i + 1) < ms.length - i; omega⟩
  · have e := filt_skip (ms := ms) (i := i) (by omega) (isK_eq.2 hb)
    refine ⟨⟨i + 1, by omega⟩, [0, 1, 2], ?_, by show ms.length - (i + 1) < ms.length - i; omega⟩
    show LeR _ _ ⟨_, [mrow ms, .cells [.v (.int .i64 b), .v (.string (B t))] 26, mrow ((ms.take (i + 1)).filter fun m => !isK b t m)]⟩ _
    rw [e]
    (refine LeR.of ?_ ?_ ?_ ?_ ?_ ?_ ?_ <;> first | (rw [hbl]; decide) | decide | (simp only [GA, ↓GB, List.filterMap_cons, eq_self, BEq.rfl, simprocAttr, List.getD_cons_zero, List.getD_cons_succ, or_false, false_or, or_self, or_true, true_or, decide_true]; done) | (simp only [GA, ↓GB, List.filterMap_cons, eq_self, BEq.rfl, simprocAttr, List.getD_cons_zero, List.getD_cons_succ, or_false, false_or, or_self, or_true, true_or, decide_true]; first | (rw [wI64 (by omega) (by omega)]; rfl) | rfl; done))
  · obtain rfl : i = ms.length := by omega
    rw [List.take_length]
    (refine hN0 _ _ ⟨[0, 2], _, _, ?_, ?_, ?_, ⟨rfl, rfl⟩⟩; (focus exact LeR.of rfl trivial (by simp only [GA, ↓GB, List.filterMap_cons, eq_self, BEq.rfl, simprocAttr, List.getD_cons_zero, List.getD_cons_succ, or_false, false_or, or_self, or_true, true_or, decide_true]) (by decide) rfl rfl rfl); rotate_left; (focus rfl))
    rfl
section
variable {X : Ctx} {c : Cfg} {N : Cfg → Prop} {d : Option Tmp} {ty ty1 : TypeId} {pos pos1 : String} {af af1 : Array Edge} {g : Option (Nat × Bool)}
theorem PA.rs {x0 x : Operand} {lo hi : Option Operand} {i j l h : Nat} {t1 : Tmp} {l' h' : Option Int} (L0 ms R : List Rs) (hR : R = L0 ++ (ms.drop l).take (h - l)) (hP : X.P = Tryd.prog)
    (hx : c.ev x = .one (.c (.row j))) (hlo : optI c lo = some l') (hl : l'.getD 0 = (l : Int)) (hhi : optI c hi = some h') (hh : h'.getD ms.length = (h : Int)) (hlh : l ≤ h) (hhm : h ≤ ms.length)
    (hx0 : (c.put (some t1) (.one (.c .dead))).ev x0 = .one (.c (.row i))) (hi0 : c.loc[i]? = some (mrow L0)) (hj0 : c.loc[j]? = some (mrow ms)) (hms : L0.length + ms.length ≤ 3000000) (hd1 : dOk (some t1) X.nt = true)
    (hN : nxt X d N { (c.put (some t1) (.one (.c .dead))) with loc := c.loc.set i .gone ++ [mrow R] } (.one (.c (.row c.loc.length)))) :
    PA X ⟨some t1, .slice 79 x lo hi none, ty1, pos1, af1, none⟩ ⟨d, .call { callee := .builtin .append, args := #[x0, .tmp t1], argTypes := #[79, 79] }, ty, pos, af, none⟩ c N := by
  subst hR
  have hlen : ((ms.drop l).take (h - l)).length = h - l := by rw [List.length_take, List.length_drop]; omega
  have e : mrow (L0 ++ (ms.drop l).take (h - l)) = LO.row 89 5 (L0.length + (h - l)) (mks L0 ++ mks ((ms.drop l).take (h - l))) := by
    show LO.row 89 5 _ _ = _
    rw [List.length_append, hlen, mks_append]
  rw [e] at hN
  refine PA.part (mks ((ms.drop l).take (h - l))) hx hlo hhi hx0 hi0 hj0 (by rw [hP]; exact Ty.ei79) (by rw [hP]; exact Ty.el79) (by omega) (by omega) (by omega) (by rw [hl, hh]; simp) (by rw [hl, Int.toNat_natCast, mks_drop, mks_take]) (mks_one _) ?_ ?_ hd1 hN
  · simp only [maxLen]; omega
  · omega
end
theorem rtail_part (ms L : List Rs) (k : Nat) : L ++ ms.drop k = L ++ (ms.drop k).take (ms.length - k) := by rw [List.take_of_length_le (l := ms.drop k) (Nat.le_of_eq List.length_drop)]
theorem setL_at {ms : List Rs} {x : Rs} {i : Nat} (hno : ∀ j, j < i → isO x ((cutL x ms).getD j default) = false) (h : i = (cutL x ms).length ∨ (i < (cutL x ms).length ∧ isO x ((cutL x ms).getD i default) = true)) : (cutL x ms).take i ++ [x] ++ (cutL x ms).drop i = setL ms x := by
  unfold setL
  rcases h with rfl | ⟨hi, ho⟩
  · have e : (cutL x ms).findIdx? (isO x) = none := by
      rw [List.findIdx?_eq_none_iff]
      intro m hm
      obtain ⟨j, hj, rfl⟩ := List.mem_iff_getElem.1 hm
      have := hno j hj
      rwa [List.getD_eq_getElem?_getD, List.getElem?_eq_getElem hj] at this
    rw [e]; simp
  · have e : (cutL x ms).findIdx? (isO x) = some i := by
      rw [List.findIdx?_eq_some_iff_getElem]
      refine ⟨hi, ?_, fun j hj => ?_⟩
      · rwa [List.getD_eq_getElem?_getD, List.getElem?_eq_getElem hi] at ho
      · have := hno j hj
        rw [List.getD_eq_getElem?_getD, List.getElem?_eq_getElem (by omega)] at this
        simpa using this
    rw [e]; simp
theorem rSet_ctr (ms : List Rs) (hms : ms.length ≤ 1000000) (x : Rs) : Ctr Tryd.prog [] 60 [mrow ms] [.one (.c (.row 0)), .one (.agg [.v (.int .i64 x.t), .v (.string (B x.s)), .v (.int .u64 x.q), .v (.bool x.g), .v (.string (B x.b))])] (fun os v => os = [mrow ms, mrow (setL ms x)] ∧ v = .one (.c (.row 1))) := by
  have hc := rCut_ctr ms hms x.t x.s
  rw [show (ms.filter fun m => !isK x.t x.s m) = cutL x ms from rfl] at hc
  have hcl : (cutL x ms).length ≤ 1000000 := Nat.le_trans (List.length_filter_le _ _) hms
  have hset := @setL_at ms x
  generalize cutL x ms = cs at hc hcl hset
  refine Ctr.less ?_
  intro X0 hP0 hG0 N0 hN0
  refine CallVC.inline (f := 60) (by rw [hP0]; exact Tryd.func60) rfl Tryd.ntmps60 rfl (by simp) ?_
  intro X K hU hnt hbl hK
  have hP : X.P = Tryd.prog := by rw [hU.P, hP0]
  have hG := hG0.under hU
  have hT : fieldOff X.P 89 0 = some 0 ∧ aggOf X.P 26 = some true ∧ szOf X.P 26 = some 2 ∧ calleeOk X.P 61 = true ∧ X.P.underlying 79 = some (TypeDesc.slice 89) ∧ elemSz X.P 79 = some (89, 5) ∧ calleeOk X.P 95 = true ∧ isStrT X.P 79 = false ∧ elemInf X.P 79 = some (89, 5, 56, (Value.agg #[(Value.int IntKind.i64 0), (Value.string { data := #[] }), (Value.int IntKind.u64 0), (Value.bool false), (Value.string { data := #[] })])) ∧ aggOf X.P 89 = some true ∧ szOf X.P 89 = some 5 ∧ zeroCells X.P 89 = some [(Value.int IntKind.i64 0), (Value.string { data := #[] }), (Value.int IntKind.u64 0), (Value.bool false), (Value.string { data := #[] })] := by rw [hP]; exact ⟨Ty.fo89_0, Ty.ag26, Ty.sz26, Ty.co61, Tryd.underlying79, Ty.el79, Ty.co95, Ty.is79, Ty.ei79, Ty.ag89, Ty.sz89, Ty.ze89⟩
  simp only [GA, ↓GB, List.filterMap_cons, eq_self, BEq.rfl, simprocAttr] at hbl ⊢
  repeat' (first
    | (refine SX.asRow (t := 7) 89 5 rfl ⟨_, rfl⟩ ?_)
    | (refine SX.partApp (id := 6) (pre := [_, _, _]) rfl ?_ <;> (simp only [GA, ↓GB, List.filterMap_cons, eq_self, BEq.rfl, simprocAttr, hnt, hT, vcPre_n, vcPre_s]))
    | (refine SX.partApp (id := 8) (pre := [_, _, _]) rfl ?_ <;> (simp only [GA, ↓GB, List.filterMap_cons, eq_self, BEq.rfl, simprocAttr, hnt, hT, vcPre_n, vcPre_s]))
    | (refine SX.seqK ?_; intro N hN)
    | ((first | (refine SX.ops ?_) | (refine SX.planT (id := 3) [.q [(0, [6]), (1, [5]), (2, [13]), (3, [12, 14]), (4, [15]), (5, [5, 16]), (6, [6, 16]), (7, [17, 18, 16]), (8, [19, 16]), (9, [20, 16]), (10, [3, 16]), (11, [22, 16]), (12, [21, 23, 16]), (13, [24, 16]), (14, [16, 25])] none] ?_ ?_ ?_; (focus first | (rw [hP]; kernel_rfl) | (rw [hU1P, hP]; kernel_rfl)); (focus kernel_rfl))); simp only [GA, ↓GB, List.filterMap_cons, eq_self, BEq.rfl, simprocAttr, hnt, hT, vcPre_n, vcPre_s])
    | ((first | refine SX.skip ?_ | refine SX.exit ?_ | refine SX.label ?_); try simp only [GA, ↓GB, List.filterMap_cons, eq_self, BEq.rfl, simprocAttr])
    | (refine SX.cond rfl (fun hb => ?_) (fun hb => ?_) <;> ((first | cases hb | (simp only [decide_eq_true_eq, decide_eq_false_iff_not, beq_iff_eq, beq_eq_false_iff_ne, bne_iff_ne, Bool.and_eq_true, Bool.or_eq_true, Bool.not_eq_true', Bool.not_eq_false', Bool.and_eq_false_iff, Bool.or_eq_false_iff, Int.not_lt, Int.not_le] at hb) | skip) <;> (first | (exfalso; omega) | skip)))
    | (refine SX.ret ?_; try simp only [GA, ↓GB, List.filterMap_cons, eq_self, BEq.rfl, simprocAttr])
    | (refine hN _ ?_; clear hN N)
    | ((first | refine hK _ _ (FinI.ret3 ?_) | refine hK _ _ (FinI.nrm3 ?_)); simp only [GA, ↓GB, List.filterMap_cons, eq_self, BEq.rfl, simprocAttr, finP_s, hnt, hT, vcPre_n, vcPre_s]; refine Done.out ?_)
    | (clear hN N; first | (refine hN _ ?_; clear hN N) | (clear hN N; first | (refine hN _ ?_; clear hN N) | (clear hN N; first | (refine hN _ ?_; clear hN N) | (clear hN N; first | (refine hN _ ?_; clear hN N) | (clear hN N; first | (refine hN _ ?_; clear hN N) | (refine hN _ ?_; clear hN N))))))
    | (refine bif2.mk (fun hb => ?_) (fun hb => ?_) <;> (try simp only [hb, GA, ↓GB, List.filterMap_cons, eq_self, BEq.rfl, simprocAttr, hnt, hT, vcPre_n, vcPre_s]) <;> ((first | cases hb | (simp only [decide_eq_true_eq, decide_eq_false_iff_not, beq_iff_eq, beq_eq_false_iff_ne, bne_iff_ne, Bool.and_eq_true, Bool.or_eq_true, Bool.not_eq_true', Bool.not_eq_false', Bool.and_eq_false_iff, Bool.or_eq_false_iff, Int.not_lt, Int.not_le] at hb) | skip) <;> (first | (exfalso; omega) | skip)))
    | ((first | (refine Ctr.use (hc) hP ?_ [0] ?_ rfl rfl ?_; (focus (intro p hp; cases hp)); (focus (refine LeR.of rfl trivial ?_ ?_ ?_ ?_ ?_ <;> first | decide | (simp only [GA, ↓GB, List.filterMap_cons, eq_self, BEq.rfl, simprocAttr, List.getD_cons_zero, List.getD_cons_succ, or_false, false_or, or_self, or_true, true_or, decide_true]; done))); intro os' s hR; obtain ⟨rfl, rfl⟩ := hR) | (refine CallVC.pv hP (rOrder_any _ _ _ _) rfl ?_) | (refine CallQ.pv hP (rOrder_any _ _ _ _) rfl ?_)); simp only [GA, ↓GB, List.filterMap_cons, eq_self, BEq.rfl, simprocAttr, hnt, hT, vcPre_n, vcPre_s])
    | (refine PA.rs [] cs (cs.take i) (l := 0) (h := i) (by simp) hP rfl rfl rfl rfl rfl (by omega) (by omega) rfl rfl rfl (by simp; omega) (by rw [hnt]; rfl) ?_ <;> (try simp only [GA, ↓GB, List.filterMap_cons, eq_self, BEq.rfl, simprocAttr, hnt, hT]))
    | (refine PA.rs (cs.take i ++ [x]) cs (cs.take i ++ [x] ++ cs.drop i) (l := i) (h := cs.length) (rtail_part cs _ _) hP rfl rfl rfl rfl rfl (by omega) (by omega) rfl (congrArg some (mrow_snoc _ x)) rfl (by simp only [List.length_append, List.length_take, List.length_cons, List.length_nil]; omega) (by rw [hnt]; rfl) ?_ <;> (try simp only [GA, ↓GB, List.filterMap_cons, eq_self, BEq.rfl, simprocAttr, hnt, hT]))
    | (refine SX.loop (ι := { i : Nat // i ≤ cs.length ∧ ∀ j, j < i → isO x (cs.getD j default) = false }) (fun i => ⟨[(3, .one (.c (.loc 1 0))), (4, vv (.slice none 0 0)), (5, .one (.c (.row 2))), (6, vv (.int .i64 i.1))], [mrow ms, .cells [.v (.int .i64 x.t), .v (.string (B x.s)), .v (.int .u64 x.q), .v (.bool x.g), .v (.string (B x.b))] 89, mrow cs]⟩) (fun i => cs.length - i.1) ⟨0, Nat.zero_le _, fun j hj => absurd hj (Nat.not_lt_zero j)⟩ ⟨[0, 1, 2], by (refine LeR.of ?_ ?_ ?_ ?_ ?_ ?_ ?_ <;> first | (rw [hbl]; decide) | decide | (simp only [GA, ↓GB, List.filterMap_cons, eq_self, BEq.rfl, simprocAttr, List.getD_cons_zero, List.getD_cons_succ, or_false, false_or, or_self, or_true, true_or, decide_true]; done) | (simp only [GA, ↓GB, List.filterMap_cons, eq_self, BEq.rfl, simprocAttr, List.getD_cons_zero, List.getD_cons_succ, or_false, false_or, or_self, or_true, true_or, decide_true]; rfl; done))⟩ ?_ <;> rintro ⟨i, hi, hno⟩ <;> simp only [] at hi hno ⊢)
    | (refine ⟨_, rfl, mks_key _ _ (by omega), ?_⟩ <;> (try simp only [GA, ↓GB, List.filterMap_cons, eq_self, BEq.rfl, simprocAttr, hnt, hT]))
    | (refine SX.block ?_)
    | (refine and_mk ?_ ?_; (focus first | decide | omega | rfl | assumption | (simp only [List.length_append, List.length_cons, List.length_nil, B_size]; omega) | (simp; done)))
    | (refine And.intro ?_ ?_))
  all_goals (try refine Done.mk ?_)
  · exact ⟨⟨i + 1, by omega, fun j hj => by
      rcases Nat.lt_or_eq_of_le (Nat.le_of_lt_succ hj) with h | rfl
      · exact hno j h
      · unfold isO; exact decide_eq_false (by omega)⟩, [0, 1, 2], by (refine LeR.of ?_ ?_ ?_ ?_ ?_ ?_ ?_ <;> first | (rw [hbl]; decide) | decide | (simp only [GA, ↓GB, List.filterMap_cons, eq_self, BEq.rfl, simprocAttr, List.getD_cons_zero, List.getD_cons_succ, or_false, false_or, or_self, or_true, true_or, decide_true]; done) | (simp only [GA, ↓GB, List.filterMap_cons, eq_self, BEq.rfl, simprocAttr, List.getD_cons_zero, List.getD_cons_succ, or_false, false_or, or_self, or_true, true_or, decide_true]; first | (rw [wI64 (by omega) (by omega)]; rfl) | rfl; done)), by show cs.length - (i + 1) < cs.length - i; omega⟩
  · rw [List.length_take]; omega
  · rw [hset hno (.inr ⟨by omega, by unfold isO; exact decide_eq_true hb⟩)]
    (refine hN0 _ _ ⟨[0, 7], _, _, ?_, ?_, ?_, ⟨rfl, rfl⟩⟩; (focus exact LeR.of rfl trivial (by simp only [GA, ↓GB, List.filterMap_cons, eq_self, BEq.rfl, simprocAttr, List.getD_cons_zero, List.getD_cons_succ, or_false, false_or, or_self, or_true, true_or, decide_true]) (by decide) rfl rfl rfl); rotate_left; (focus rfl))
    rfl
  · rw [List.length_take]; omega
  · rw [hset hno (.inl (by omega))]
    (refine hN0 _ _ ⟨[0, 7], _, _, ?_, ?_, ?_, ⟨rfl, rfl⟩⟩; (focus exact LeR.of rfl trivial (by simp only [GA, ↓GB, List.filterMap_cons, eq_self, BEq.rfl, simprocAttr, List.getD_cons_zero, List.getD_cons_succ, or_false, false_or, or_self, or_true, true_or, decide_true]) (by decide) rfl rfl rfl); rotate_left; (focus rfl))
    rfl
theorem rSort_ctr (ms : List Rs) (hms : ms.length ≤ 1000000) : Ctr Tryd.prog [] 59 [mrow ms] [.one (.c (.row 0))] (fun os v => os = [mrow ms, mrow (sortL ms)] ∧ v = .one (.c (.row 1))) := by
  refine Ctr.less ?_
  intro X0 hP0 hG0 N0 hN0
  refine CallVC.inline (f := 59) (by rw [hP0]; exact Tryd.func59) rfl Tryd.ntmps59 rfl (by simp) ?_
  intro X K hU hnt hbl hK
  have hP : X.P = Tryd.prog := by rw [hU.P, hP0]
  have hG := hG0.under hU
  have hT : X.P.underlying 79 = some (TypeDesc.slice 89) ∧ elemSz X.P 79 = some (89, 5) ∧ fieldOff X.P 89 0 = some 0 ∧ aggOf X.P 26 = some true ∧ szOf X.P 26 = some 2 ∧ calleeOk X.P 57 = true ∧ zeroCells X.P 89 = some [(Value.int IntKind.i64 0), (Value.string { data := #[] }), (Value.int IntKind.u64 0), (Value.bool false), (Value.string { data := #[] })] ∧ szOf X.P 89 = some 5 ∧ aggOf X.P 89 = some true ∧ calleeOk X.P 118 = true ∧ calleeOk X.P 60 = true := by rw [hP]; exact ⟨Tryd.underlying79, Ty.el79, Ty.fo89_0, Ty.ag26, Ty.sz26, Ty.co57, Ty.ze89, Ty.sz89, Ty.ag89, Ty.co118, Ty.co60⟩
  simp only [GA, ↓GB, List.filterMap_cons, eq_self, BEq.rfl, simprocAttr] at hbl ⊢
  have hf := True.intro
  repeat' (first
    | (refine SX.asRow (t := 3) 89 5 rfl ⟨_, rfl⟩ ?_)
    | (refine SX.seqK ?_; intro N hN)
    | ((first | (refine SX.ops ?_) | (refine SX.planT (id := 6) [.s 0, .s 1, .s 2, .q [(3, [0, 25]), (4, [4, 25]), (5, [26, 27, 25]), (6, [28, 25]), (7, [5, 25]), (8, [29, 30, 25]), (9, [25, 31])] none] ?_ ?_ ?_; (focus first | (rw [hP]; kernel_rfl) | (rw [hU1P, hP]; kernel_rfl)); (focus kernel_rfl))); simp only [GA, ↓GB, List.filterMap_cons, eq_self, BEq.rfl, simprocAttr, hnt, hT, hf, findV])
    | ((first | refine SX.skip ?_ | refine SX.exit ?_ | refine SX.label ?_); try simp only [GA, ↓GB, List.filterMap_cons, eq_self, BEq.rfl, simprocAttr])
    | (refine SX.cond rfl (fun hb => ?_) (fun hb => ?_) <;> ((first | cases hb | (simp only [decide_eq_true_eq, decide_eq_false_iff_not, beq_iff_eq, beq_eq_false_iff_ne, bne_iff_ne, Bool.and_eq_true, Bool.or_eq_true, Bool.not_eq_true', Bool.not_eq_false', Bool.and_eq_false_iff, Bool.or_eq_false_iff, Int.not_lt, Int.not_le] at hb) | skip) <;> (first | (exfalso; omega) | skip)))
    | (refine SX.ret ?_; try simp only [GA, ↓GB, List.filterMap_cons, eq_self, BEq.rfl, simprocAttr])
    | (refine hN _ ?_; clear hN N)
    | ((first | refine hK _ _ (FinI.ret3 ?_) | refine hK _ _ (FinI.nrm3 ?_)); simp only [GA, ↓GB, List.filterMap_cons, eq_self, BEq.rfl, simprocAttr, finP_s, hnt, hT, hf, findV]; refine Done.out ?_)
    | (clear hN N; first | (refine hN _ ?_; clear hN N) | (clear hN N; first | (refine hN _ ?_; clear hN N) | (clear hN N; first | (refine hN _ ?_; clear hN N) | (clear hN N; first | (refine hN _ ?_; clear hN N) | (clear hN N; first | (refine hN _ ?_; clear hN N) | (refine hN _ ?_; clear hN N))))))
    | (refine bif2.mk (fun hb => ?_) (fun hb => ?_) <;> (try simp only [hb, GA, ↓GB, List.filterMap_cons, eq_self, BEq.rfl, simprocAttr, hnt, hT, hf, findV]) <;> ((first | cases hb | (simp only [decide_eq_true_eq, decide_eq_false_iff_not, beq_iff_eq, beq_eq_false_iff_ne, bne_iff_ne, Bool.and_eq_true, Bool.or_eq_true, Bool.not_eq_true', Bool.not_eq_false', Bool.and_eq_false_iff, Bool.or_eq_false_iff, Int.not_lt, Int.not_le] at hb) | skip) <;> (first | (exfalso; omega) | skip)))
    | ((first | (refine Ctr.use (rFind_ctr out (by omega) (ms.getD i default).t (ms.getD i default).s) hP ?_ [1] ?_ rfl rfl ?_; (focus (intro p hp; cases hp)); (focus (refine LeR.of rfl trivial ?_ ?_ ?_ ?_ ?_ <;> first | decide | (simp only [GA, ↓GB, List.filterMap_cons, eq_self, BEq.rfl, simprocAttr, List.getD_cons_zero, List.getD_cons_succ, or_false, false_or, or_self, or_true, true_or, decide_true]; done))); intro os' s hR; obtain ⟨rfl, rfl⟩ := hR) | (refine CallVC.pv hP (rNewer_any (ms.getD i default) o) rfl ?_) | (refine CallQ.pv hP (rNewer_any (ms.getD i default) o) rfl ?_) | (refine Ctr.use (rSet_ctr out (by omega) (ms.getD i default)) hP ?_ [1] ?_ rfl rfl ?_; (focus (intro p hp; cases hp)); (focus (refine LeR.of rfl trivial ?_ ?_ ?_ ?_ ?_ <;> first | decide | (simp only [GA, ↓GB, List.filterMap_cons, eq_self, BEq.rfl, simprocAttr, List.getD_cons_zero, List.getD_cons_succ, or_false, false_or, or_self, or_true, true_or, decide_true]; done))); intro os' s hR; obtain ⟨rfl, rfl⟩ := hR)); simp only [GA, ↓GB, List.filterMap_cons, eq_self, BEq.rfl, simprocAttr, hnt, hT, hf, findV])
    | (refine ⟨_, rfl, mks_key _ _ (by omega), ?_⟩ <;> simp only [GA, ↓GB, List.filterMap_cons, eq_self, BEq.rfl, simprocAttr, hnt, hT])
    | (refine ⟨(ms.getD i default).cells, rfl, mks_at _ _ (by omega), ?_⟩ <;> simp only [Rs.cells, GA, ↓GB, List.filterMap_cons, eq_self, BEq.rfl, simprocAttr, hnt, hT])
    | (refine SX.loop (ι := { p : Nat × List Rs // p.1 ≤ ms.length ∧ p.2.length ≤ p.1 ∧ sortL ms = (ms.drop p.1).foldl stepL p.2 }) (fun p => ⟨[(0, .one (.c (.row 0))), (3, .one (.c (.row 1))), (4, vv (.int .i64 p.1.1))], [mrow ms, mrow p.1.2]⟩) (fun p => ms.length - p.1.1) ⟨(0, []), Nat.zero_le _, Nat.le_refl _, rfl⟩ ⟨[0, 1], by (refine LeR.of ?_ ?_ ?_ ?_ ?_ ?_ ?_ <;> first | (rw [hbl]; decide) | decide | (simp only [GA, ↓GB, List.filterMap_cons, eq_self, BEq.rfl, simprocAttr, List.getD_cons_zero, List.getD_cons_succ, or_false, false_or, or_self, or_true, true_or, decide_true]; done) | (simp only [GA, ↓GB, List.filterMap_cons, eq_self, BEq.rfl, simprocAttr, List.getD_cons_zero, List.getD_cons_succ, or_false, false_or, or_self, or_true, true_or, decide_true]; rfl; done))⟩ ?_ <;> rintro ⟨⟨i, out⟩, hi, hl, hm⟩ <;> simp only [] at hi hl hm ⊢ <;> cases hf : out.find? (isK (ms.getD i default).t (ms.getD i default).s) with | none => ?_ | some o => ?_)
    | (refine SX.block ?_)
    | (refine and_mk ?_ ?_; (focus first | decide | omega | rfl | assumption | (simp only [List.length_append, List.length_cons, List.length_nil, B_size]; omega) | (simp; done)))
    | (refine And.intro ?_ ?_))
  all_goals (try refine Done.mk ?_)
  · exact ⟨⟨(i + 1, setL out (ms.getD i default)), by show i + 1 ≤ ms.length; omega, by show (setL _ _).length ≤ i + 1; have := setL_len out (ms.getD i default); omega, sort_go hm (by omega) (by simp only [stepL, hf])⟩, [0, 3], by (refine LeR.of ?_ ?_ ?_ ?_ ?_ ?_ ?_ <;> first | (rw [hbl]; decide) | decide | (simp only [GA, ↓GB, List.filterMap_cons, eq_self, BEq.rfl, simprocAttr, List.getD_cons_zero, List.getD_cons_succ, or_false, false_or, or_self, or_true, true_or, decide_true]; done) | (simp only [GA, ↓GB, List.filterMap_cons, eq_self, BEq.rfl, simprocAttr, List.getD_cons_zero, List.getD_cons_succ, or_false, false_or, or_self, or_true, true_or, decide_true]; first | (rw [wI64 (by omega) (by omega)]; rfl) | rfl; done)), by show ms.length - (i + 1) < ms.length - i; omega⟩
  · have hs := sort_end hm (by omega)
    subst hs
    (refine hN0 _ _ ⟨[0, 1], _, _, ?_, ?_, ?_, ⟨rfl, rfl⟩⟩; (focus exact LeR.of rfl trivial (by simp only [GA, ↓GB, List.filterMap_cons, eq_self, BEq.rfl, simprocAttr, List.getD_cons_zero, List.getD_cons_succ, or_false, false_or, or_self, or_true, true_or, decide_true]) (by decide) rfl rfl rfl); rotate_left; (focus rfl))
    rfl
  · exact ⟨⟨(i + 1, setL out (ms.getD i default)), by show i + 1 ≤ ms.length; omega, by show (setL _ _).length ≤ i + 1; have := setL_len out (ms.getD i default); omega, sort_go hm (by omega) (by simp only [stepL, hf]; rw [if_pos (by first | omega | (simp_all; done))])⟩, [0, 3], by (refine LeR.of ?_ ?_ ?_ ?_ ?_ ?_ ?_ <;> first | (rw [hbl]; decide) | decide | (simp only [GA, ↓GB, List.filterMap_cons, eq_self, BEq.rfl, simprocAttr, List.getD_cons_zero, List.getD_cons_succ, or_false, false_or, or_self, or_true, true_or, decide_true]; done) | (simp only [GA, ↓GB, List.filterMap_cons, eq_self, BEq.rfl, simprocAttr, List.getD_cons_zero, List.getD_cons_succ, or_false, false_or, or_self, or_true, true_or, decide_true]; first | (rw [wI64 (by omega) (by omega)]; rfl) | rfl; done)), by show ms.length - (i + 1) < ms.length - i; omega⟩
  · exact ⟨⟨(i + 1, out), by show i + 1 ≤ ms.length; omega, by show out.length ≤ i + 1; omega, sort_go hm (by omega) (by simp only [stepL, hf]; rw [if_neg (by first | omega | (simp_all; done))])⟩, [0, 1], by (refine LeR.of ?_ ?_ ?_ ?_ ?_ ?_ ?_ <;> first | (rw [hbl]; decide) | decide | (simp only [GA, ↓GB, List.filterMap_cons, eq_self, BEq.rfl, simprocAttr, List.getD_cons_zero, List.getD_cons_succ, or_false, false_or, or_self, or_true, true_or, decide_true]; done) | (simp only [GA, ↓GB, List.filterMap_cons, eq_self, BEq.rfl, simprocAttr, List.getD_cons_zero, List.getD_cons_succ, or_false, false_or, or_self, or_true, true_or, decide_true]; first | (rw [wI64 (by omega) (by omega)]; rfl) | rfl; done)), by show ms.length - (i + 1) < ms.length - i; omega⟩
  · have hs := sort_end hm (by omega)
    subst hs
    (refine hN0 _ _ ⟨[0, 1], _, _, ?_, ?_, ?_, ⟨rfl, rfl⟩⟩; (focus exact LeR.of rfl trivial (by simp only [GA, ↓GB, List.filterMap_cons, eq_self, BEq.rfl, simprocAttr, List.getD_cons_zero, List.getD_cons_succ, or_false, false_or, or_self, or_true, true_or, decide_true]) (by decide) rfl rfl rfl); rotate_left; (focus rfl))
    rfl
end Go.Proofs.YtbdacbcpniegiaaDoor.Q
namespace Go.Proofs.YtbdacbcpniegiaaDoor.Q
open Go Go.RowKit Go.Proofs Go.Sx
set_option maxHeartbeats 16000000
set_option maxRecDepth 100000
set_option linter.unusedSimpArgs false
set_option linter.unusedVariables false
end Go.Proofs.YtbdacbcpniegiaaDoor.Q
namespace Go.Sx
open Go Go.RowKit
theorem SX.reg3 {X : Ctx} {c : Cfg} {K : Exit → Cfg → Prop} {id : Nat} {o0 o1 o2 : Oper} (g0 : o0.guard = none) (g1 : o1.guard = none) (g2 : o2.guard = none) (h : vcOp X o0 c (fun c' => VO X o1 c' (fun c'' => vcOp X o2 c'' (K .normal)))) : SX X (.region id #[o0, o1, o2] false) c K :=
  SX.region (OX.cons g0 (vcOp_sound h) (fun c' h' => OX.cons g1 h' (fun c'' h'' => OX.cons g2 (vcOp_sound h'') (fun _ h3 => OX.nil h3))))
end Go.Sx
namespace Go.Proofs.YtbdacbcpniegiaaDoor.Q
open Go Go.RowKit Go.Proofs Go.Sx
set_option maxHeartbeats 16000000
set_option maxRecDepth 100000
set_option linter.unusedSimpArgs false
set_option linter.unusedVariables false
end Go.Proofs.YtbdacbcpniegiaaDoor.Q
namespace Go.Sx
open Go Go.RowKit
set_option linter.unusedVariables false
set_option linter.unusedSimpArgs false
theorem Oper.wp_tmps {P : Program} {o : Oper} {a : Act} {w : World} {K : Act → World → Prop} {Q : Exit → Act → World → Prop} (h : o.wp P a w K Q) :
    o.wp P a w (fun a' w' => K a' w' ∧ ∀ t, o.dst ≠ some t → a'.tmps[t]? = a.tmps[t]?) Q := by
  unfold Oper.wp at *
  unfold Oper.upon at *
  split at h
  · exact ⟨h, fun t ht => put_other ht⟩
  · exact ⟨h, fun t ht => put_other ht⟩
  · exact ⟨h, fun t ht => put_other ht⟩
  · refine h.mono ?_
    intro e w' hr
    cases e with
    | returned v => exact ⟨hr, fun t ht => put_other ht⟩
    | panicked ch => exact hr
    | outgrown => exact hr
  · exact h.mono (fun v w' hr => ⟨hr, fun t ht => put_other ht⟩)
  · exact h
  · exact h.elim
theorem wpOp_list_keep {P : Program} {ops : Array Oper} {A : Act → World → Prop} {i : Nat} {o : Oper} (ho : ops[i]? = some o) {K : Act → World → Prop} {a : Act} {w : World}
    (h : wpList P ops (QN K) [o] a w) : wpOp P ops (QN A) i (fun a' w' => K a' w' ∧ ∀ t, o.dst ≠ some t → a'.tmps[t]? = a.tmps[t]?) a w := by
  unfold wpOp
  simp only [ho]
  unfold wpList at h
  split
  · rename_i hw
    rw [if_pos hw] at h
    rcases h with h1 | ⟨_, a0, w0, h1⟩
    · exact .inl (Oper.wp_mono3 (fun a w h => ⟨h.1.2, h.2⟩) (fun e a w he h => absurd h.1 he) (Oper.wp_tmps h1))
    · exact absurd h1.1 (by simp)
  · rename_i hw
    rw [if_neg hw] at h
    exact ⟨h.2, fun t ht => put_other ht⟩
theorem wpOp_next {P : Program} {ops : Array Oper} {Q : Exit → Act → World → Prop} {i : Nat} {K K' : Act → World → Prop} {a : Act} {w : World} (hK : ∀ a w, K a w → K' a w) (h : wpOp P ops Q i K a w) : wpOp P ops Q i K' a w := by
  unfold wpOp at *
  split
  · rename_i hn; simp only [hn] at h; exact hK _ _ h
  · rename_i o ho
    simp only [ho] at h
    split
    · rename_i hw
      rw [if_pos hw] at h
      rcases h with h | h
      · exact .inl (Oper.wp_mono3 hK (fun _ _ _ _ h => h) h)
      · exact .inr h
    · rename_i hw
      rw [if_neg hw] at h
      exact hK _ _ h
def killL : List Tmp → Cfg → Cfg
  | [], c => c
  | t :: ts, c => (killL ts c).put (some t) (.one (.c .dead))
theorem killL_loc : ∀ (ts : List Tmp) (c : Cfg), (killL ts c).loc = c.loc
  | [], c => rfl
  | t :: ts, c => by rw [killL, put_loc, killL_loc ts c]
theorem kill_lookup {c : Cfg} {t : Tmp} {u : SV} : ∀ {ts : List Tmp}, (killL ts c).env.lookup t = some u → (t ∈ ts ∧ u = .one (.c .dead)) ∨ (t ∉ ts ∧ c.env.lookup t = some u)
  | [], h => .inr ⟨by simp, h⟩
  | x :: ts, h => by
    rw [killL] at h
    rcases put_lookup h with ⟨e, h1⟩ | ⟨e, h1⟩
    · cases e; exact .inl ⟨by simp, h1⟩
    · rcases kill_lookup h1 with ⟨h2, h3⟩ | ⟨h2, h3⟩
      · exact .inl ⟨by simp [h2], h3⟩
      · exact .inr ⟨by simp only [List.mem_cons, not_or]; exact ⟨fun hx => e (by rw [hx]), h2⟩, h3⟩
def outH (ops : Array Oper) (L : Array Bool) (is : List Nat) (h : Nat) : Bool :=
  (List.range ops.size).all fun t => L.getD t true || (is ++ [h]).contains t || ((List.range ops.size).any fun u => !(L.getD u true) && !(is ++ [h]).contains u && Region.waitsFor .any ops t u) || Region.waitsFor .any ops t h
section
variable {X : Ctx} {ops : Array Oper}
theorem hold_pre {A : Act → World → Prop} {is : List Nat} {h : Nat} {oh : Oper} {L : Array Bool} {c c1 : Cfg} {ss : List SV} {ks : List Tmp} {ρ : List (List Nat)} {σ : List Value} {f : Nat} {M : Cfg → Prop}
    (hQF : QF X ops is c ss c1) (hoh : ops[h]? = some oh) (hvc : vc X ops [oh] (killL ks c1) M) (hksn : ∀ t ∈ ks, t < X.nt)
    (hks : ∀ i ∈ is, ∀ d, dstOf ops i = some d → d ∈ ks ∨ Region.waitsFor .any ops h i = true)
    (hL : L.size = ops.size) (hin : inOK ops L [] (is ++ [h]) = true) (hdata : dataOK ops (is ++ [h]) = true) (hout : outH ops L is h = true)
    (hpost : ∀ (listed : Array Bool) (a : Act) (w : World) (c2 : Cfg) (ρ2 : List (List Nat)) (σ2 : List Value), listed.getD h false = true → listed.size = ops.size → (∀ j, j ∉ is ++ [h] → ∀ d, listed.getD j d = L.getD j d) →
      (∀ j oj, ops[j]? = some oj → listed.getD j false = true → ∀ e ∈ oj.after, Region.binds .any e = true → listed.getD e.on false = true) → (∀ j, L.getD j false = true → listed.getD j false = true) →
      M c2 → Rel X c2 ρ2 σ2 a w → (∀ (k i : Nat) (u : SV), is[k]? = some i → ss[k]? = some u → listed.getD i false = true → ∀ t, dstOf ops i = some t → ∃ v, a.tmps[t]? = some v ∧ DV σ u v) →
      wpAny X.P .any ops (QN A) (cntU listed is + f) listed a w) :
    ∀ (n : Nat) (listed : Array Bool) (a : Act) (w : World), cntU listed is = n → listed.getD h false = false → listed.size = ops.size → (∀ j, j ∉ is ++ [h] → ∀ d, listed.getD j d = L.getD j d) →
      (∀ j oj, ops[j]? = some oj → listed.getD j false = true → ∀ e ∈ oj.after, Region.binds .any e = true → listed.getD e.on false = true) → (∀ j, L.getD j false = true → listed.getD j false = true) →
      Rel X ⟨[], c.loc⟩ ρ σ a w →
      (∀ (k i : Nat) (u : SV), is[k]? = some i → ss[k]? = some u → listed.getD i false = true → ∀ t, dstOf ops i = some t → ∃ v, a.tmps[t]? = some v ∧ DV σ u v) →
      (∀ t u, (∀ i ∈ is, dstOf ops i ≠ some t) → c.env.lookup t = some u → ∃ v, a.tmps[t]? = some v ∧ DV σ u v) →
      wpAny X.P .any ops (QN A) (n + 1 + f) listed a w := by
  have hnd := inOK_nodup hin
  have hdataS : ∀ i ∈ is ++ [h], ∀ j ∈ is ++ [h], ∀ d, dstOf ops j = some d → (i = j ∨ dstOf ops i ≠ some d) ∧ (d ∈ looksOf ops i → Region.waitsFor .any ops i j = true) := fun i hi j hj d hd => by
    have h1 := List.all_eq_true.1 (List.all_eq_true.1 hdata i hi) j hj
    rw [hd] at h1
    simp only [Bool.and_eq_true, Bool.or_eq_true, beq_iff_eq, bne_iff_ne, Bool.not_eq_true', List.contains_eq_mem, decide_eq_false_iff_not] at h1
    exact ⟨h1.1, fun hm => h1.2.resolve_left (fun h => h hm)⟩
  have hLun : ∀ i ∈ is ++ [h], L.getD i true = false := fun i hi => by
    obtain ⟨k, hk⟩ := List.mem_iff_getElem?.1 hi
    exact (inOK_spec hin hk).1
  have hop : ∀ i ∈ is ++ [h], ∃ o, ops[i]? = some o := fun i hi => by
    obtain ⟨k, hk⟩ := List.mem_iff_getElem?.1 hi
    obtain ⟨_, _, _, o, h1, _⟩ := inOK_spec hin hk
    exact ⟨o, h1⟩
  have hhm : h ∈ is ++ [h] := by simp
  have hkh : (is ++ [h])[is.length]? = some h := by rw [List.getElem?_append_right (Nat.le_refl _)]; simp
  have hhis : h ∉ is := fun hm => by
    obtain ⟨k, hk⟩ := List.mem_iff_getElem?.1 hm
    have hk' : (is ++ [h])[k]? = some h := by rw [List.getElem?_append_left (List.getElem?_eq_some_iff.1 hk).1]; exact hk
    exact (inOK_spec hin hkh).2.2.1 k (List.getElem?_eq_some_iff.1 hk).1 hk'
  have hndis : is.Nodup := (List.nodup_append.1 hnd).1
  intro n
  induction n using Nat.strongRecOn with
  | ind n ih =>
    intro listed a w hc hhun hsz hoth hcl hmono hR hv hb
    have hlt : ∀ i ∈ is ++ [h], i < listed.size := fun i hi => by
      obtain ⟨o, ho⟩ := hop i hi
      rw [hsz]; exact (Array.getElem?_eq_some_iff.1 ho).1
    have hcA : cntU listed (is ++ [h]) ≠ 0 := fun e => by
      have := cntU_zero e h hhm
      rw [hhun] at this; cases this
    rw [show n + 1 + f = (n + f) + 1 by omega]
    refine ⟨fun hnil => ?_, fun i hi => ?_⟩
    ·
      obtain ⟨k, i, h1, h2, h3⟩ := cntU_first (listed := listed) (is := is ++ [h]) hcA
      obtain ⟨g1, g2, g3, o, g4, g5⟩ := inOK_spec hin h1
      have hmem : i ∈ is ++ [h] := List.mem_of_getElem? h1
      have : i ∈ Region.ready .any ops listed := by
        refine mem_ready.2 ⟨getD_in (hlt i hmem) h2, o, g4, fun e he hbd => ?_⟩
        rcases g5 e he hbd with h5 | h5 | ⟨k', h6, h7⟩
        · exact hmono _ h5
        · simp at h5
        · exact h3 k' _ h6 h7
      rw [hnil] at this
      cases this
    · obtain ⟨hun, o, ho, hready⟩ := mem_ready.1 hi
      have hilt : i < ops.size := (Array.getElem?_eq_some_iff.1 ho).1
      have hmem : i ∈ is ++ [h] := by
        refine Classical.byContradiction (fun hnm => ?_)
        have h1 := List.all_eq_true.1 hout i (List.mem_range.2 hilt)
        have hLi : L.getD i true = false := by rw [← hoth i hnm]; exact hun
        simp only [hLi, Bool.false_or, Bool.or_eq_true] at h1
        rcases h1 with (h1 | h1) | h1
        · exact hnm (by simpa using h1)
        · obtain ⟨u, hu, hu2⟩ := List.any_eq_true.1 h1
          simp only [Bool.and_eq_true, Bool.not_eq_true', List.contains_eq_mem, decide_eq_false_iff_not] at hu2
          obtain ⟨ou, hou, e, he, hbd, hon⟩ := Region.waitsFor_spec hu2.2
          rw [ho] at hou; cases hou
          have h2 := hready e he hbd
          rw [hon, hoth u hu2.1.2, getD_both hu2.1.1] at h2
          cases h2
        · obtain ⟨ou, hou, e, he, hbd, hon⟩ := Region.waitsFor_spec h1
          rw [ho] at hou; cases hou
          have h7 := hready e he hbd
          rw [hon, hhun] at h7
          cases h7
      have hunf := getD_both hun
      have hset : ∀ j, j ≠ i → (listed.setIfInBounds i true).getD j false = listed.getD j false := fun j hj => getD_set_ne false (fun e => hj e.symm)
      have hseti : (listed.setIfInBounds i true).getD i false = true := by simp [hlt i hmem]
      have hoth' : ∀ j, j ∉ is ++ [h] → ∀ d, (listed.setIfInBounds i true).getD j d = L.getD j d := fun j hj d => by
        rw [getD_set_ne d (show i ≠ j from fun e => hj (by rw [← e]; exact hmem))]; exact hoth j hj d
      have hcl' : ∀ j oj, ops[j]? = some oj → (listed.setIfInBounds i true).getD j false = true → ∀ e ∈ oj.after, Region.binds .any e = true → (listed.setIfInBounds i true).getD e.on false = true := fun j oj hj hl e he hbd => by
        by_cases hji : j = i
        · subst hji
          rw [ho] at hj; cases hj
          exact getD_set_true (hready e he hbd)
        · rw [hset j hji] at hl
          exact getD_set_true (hcl j oj hj hl e he hbd)
      have hmono' : ∀ j, L.getD j false = true → (listed.setIfInBounds i true).getD j false = true := fun j hj => getD_set_true (hmono j hj)
      have hdo : dstOf ops i = o.dst := by simp [dstOf, ho]
      have hlk : looksOf ops i = o.looksAt ops := by simp [looksOf, ho]
      by_cases hih : i = h
      ·
        subst hih
        rw [hoh] at ho; cases ho
        have hRo : Rel X (killL ks c1) ρ σ a w := by
          refine Rel.act (c := killL ks c1) (by rw [killL_loc, hQF.loc]; exact hR) rfl rfl (fun t' u hu => ?_)
          rcases kill_lookup hu with ⟨h1, rfl⟩ | ⟨h1, h2⟩
          · have : t' < a.tmps.size := by rw [hR.size]; exact hksn t' h1
            exact ⟨a.tmps[t'], by simp [this], trivial⟩
          · rcases hQF.last h2 with ⟨k, j, q1, q2, q3⟩ | ⟨q1, q2⟩
            · have hjm := List.mem_of_getElem? q1
              have hw := (hks j hjm t' q3).resolve_left h1
              obtain ⟨ou, hou, e, he, hbd, hon⟩ := Region.waitsFor_spec hw
              rw [hoh] at hou; cases hou
              have hl := hready e he hbd
              rw [hon] at hl
              exact hv k j u q1 q2 hl t' q3
            · exact hb t' u q1 q2
        refine wpOp_next ?_ (wpOp_list_keep (A := A) hoh (vc_sound hvc (QN fun a' w' => ∃ c2 ρ2 σ2, Rel X c2 ρ2 σ2 a' w' ∧ M c2) (fun c3 ρ3 σ3 a3 w3 hr3 hk => ⟨rfl, c3, ρ3, σ3, hr3, hk⟩) ρ σ a w hRo))
        rintro a' w' ⟨⟨c2, ρ2, σ2, hr2, hM⟩, hkeep⟩
        have hcnt : cntU (listed.setIfInBounds i true) is = n := by
          rw [← hc]
          unfold cntU
          congr 1
          refine List.filter_congr (fun j hj => ?_)
          rw [hset j (fun e => hhis (by rw [← e]; exact hj))]
        rw [← hcnt]
        refine hpost _ a' w' c2 ρ2 σ2 hseti (by simp [hsz]) hoth' hcl' hmono' hM hr2 ?_
        intro k j u h1 h2 h3 t' h4
        have hjm := List.mem_of_getElem? h1
        have hji : j ≠ i := fun e => hhis (by rw [← e]; exact hjm)
        rw [hset j hji] at h3
        have hne : oh.dst ≠ some t' := by
          rcases (hdataS i hhm j (List.mem_append_left _ hjm) t' h4).1 with h | h
          · exact absurd h.symm hji
          · rw [← hdo]; exact h
        rw [hkeep t' hne]
        exact hv k j u h1 h2 h3 t' h4
      · have him : i ∈ is := by
          rcases List.mem_append.1 hmem with h | h
          · exact h
          · exact absurd (by simpa using h) hih
        have hcnt : cntU (listed.setIfInBounds i true) is + 1 = n := by
          have := cntU_set (hlt i hmem) hunf hndis him
          omega
        have hhi' : (listed.setIfInBounds i true).getD h false = false := by rw [hset h (fun e => hih e.symm)]; exact hhun
        have henv : ∀ (ck : Cfg), ck.loc = c.loc → (∀ {t : Tmp} {u : SV}, ck.env.lookup t = some u → (∃ (k2 j : Nat), is[k2]? = some j ∧ ss[k2]? = some u ∧ dstOf ops j = some t) ∨ ((∀ j ∈ is, Region.waitsFor .any ops i j = true → dstOf ops j ≠ some t) ∧ c.env.lookup t = some u)) →
            Rel X (ck.only (o.looksAt ops)) ρ σ a w := fun ck hloc hck => by
          refine Rel.act (c := ck.only (o.looksAt ops)) (by simp only [Cfg.only]; rw [hloc]; exact hR) rfl rfl (fun t' u hu => ?_)
          obtain ⟨h1, h2⟩ := only_lookup _ _ _ hu
          rcases hck h2 with ⟨k2, j, h5, h6, h7⟩ | ⟨h3, h4⟩
          · have hw := (hdataS i hmem j (List.mem_append_left _ (List.mem_of_getElem? h5)) t' h7).2 (by rw [hlk]; exact h1)
            obtain ⟨ou, hou, e, he, hbd, hon⟩ := Region.waitsFor_spec hw
            rw [ho] at hou; cases hou
            have hl := hready e he hbd
            rw [hon] at hl
            exact hv k2 j u h5 h6 hl t' h7
          · refine hb t' u (fun j hj e => ?_) h4
            exact h3 j hj ((hdataS i hmem j (List.mem_append_left _ hj) t' e).2 (by rw [hlk]; exact h1)) e
        obtain ⟨k, hk⟩ := List.mem_iff_getElem?.1 him
        obtain ⟨o', u, ck, g1, g2, g3, g4, g5, g6⟩ := hQF.at hk
        rw [ho] at g1; cases g1
        have hk' : (is ++ [h])[k]? = some i := by rw [List.getElem?_append_left (List.getElem?_eq_some_iff.1 hk).1]; exact hk
        have hwaitpos : ∀ j ∈ is ++ [h], Region.waitsFor .any ops i j = true → ∃ (k' : Nat), k' < k ∧ (is ++ [h])[k']? = some j := fun j hj hw => by
          obtain ⟨_, _, _, o', h4, h5⟩ := inOK_spec hin hk'
          rw [ho] at h4; cases h4
          obtain ⟨ou, hou, e, he, hbd, hon⟩ := Region.waitsFor_spec hw
          rw [ho] at hou; cases hou
          rcases h5 e he hbd with h6 | h6 | h6
          · rw [hon] at h6
            have := hLun j hj
            rw [getD_both this] at h6
            cases h6
          · simp at h6
          · rw [hon] at h6; exact h6
        have hRo := henv ck g5 (fun {t' u'} hu => by
          rcases g6 hu with ⟨k', j, q1, q2, q3, q4⟩ | ⟨q1, q2⟩
          · exact .inl ⟨k', j, q2, q3, q4⟩
          · refine .inr ⟨fun j hj hw e => ?_, q2⟩
            obtain ⟨k', h1, h2⟩ := hwaitpos j (List.mem_append_left _ hj) hw
            have hlt' : k' < is.length := Nat.lt_trans h1 (List.getElem?_eq_some_iff.1 hk).1
            rw [List.getElem?_append_left hlt'] at h2
            exact q1 k' j h1 h2 e)
        unfold wpOp
        simp only [ho]
        refine g4 ρ σ a w hRo _ _ (fun v w' hbl hdv => ?_)
        have hfin := ih (n - 1) (by omega) (listed.setIfInBounds i true) (a.put o.dst v) w' (by omega) hhi' (by simp [hsz]) hoth' hcl' hmono' ?_ ?_ ?_
        · rw [show n - 1 + 1 + f = n + f by omega] at hfin
          exact hfin
        · exact Rel.act (c := ⟨[], c.loc⟩) (hR.below hbl) (put_size _ _ _) (put_defers' _ _ _) (fun t' u' h => by simp at h)
        · intro k2 j u2 h1 h2 h3 t' h4
          by_cases hji : j = i
          · subst hji
            have hkk : k2 = k := by
              have a1 : (is ++ [h])[k2]? = some j := by rw [List.getElem?_append_left (List.getElem?_eq_some_iff.1 h1).1]; exact h1
              rcases Nat.lt_trichotomy k2 k with h | h | h
              · exact absurd a1 ((inOK_spec hin hk').2.2.1 k2 h)
              · exact h
              · exact absurd hk' ((inOK_spec hin a1).2.2.1 k h)
            subst hkk
            rw [g3] at h2; cases h2
            rw [hdo] at h4
            rw [h4]
            refine ⟨v, put_self ?_, hdv⟩
            rw [h4] at g2
            rw [hR.size]
            simpa [dOk] using g2
          · rw [hset j hji] at h3
            have hjm : j ∈ is ++ [h] := List.mem_append_left _ (List.mem_of_getElem? h1)
            have hne : o.dst ≠ some t' := by
              rcases (hdataS i hmem j hjm t' h4).1 with h | h
              · exact absurd h.symm hji
              · rw [← hdo]; exact h
            rw [put_other hne]
            exact hv k2 j u2 h1 h2 h3 t' h4
        · intro t' u' h1 h2
          rw [put_other (by rw [← hdo]; exact h1 i him)]
          exact hb t' u' h1 h2
def closedC : List SC → Bool
  | [] => true
  | .v _ :: l => closedC l
  | _ :: _ => false
def closedS : SV → Bool
  | .one (.c (.v _)) => true
  | .one (.agg l) => closedC l
  | _ => false
theorem closedC_n : closedC [] = true := rfl
theorem closedC_v {x : Value} {l : List SC} : closedC (.v x :: l) = closedC l := rfl
theorem closedC_mono {σ σ2 : List Value} : ∀ {l : List SC} {cs : List Value}, closedC l = true → All2 (DC σ) l cs → All2 (DC σ2) l cs
  | [], [], _, _ => trivial
  | .v _ :: l, _ :: cs, h, ha => ⟨ha.1, closedC_mono (l := l) h ha.2⟩
  | .v _ :: _, [], _, ha => ha.elim
  | [], _ :: _, _, ha => ha.elim
theorem closedS_mono {σ σ2 : List Value} {s : SV} {v : Value} (h : closedS s = true) (hd : DV σ s v) : DV σ2 s v := by
  unfold closedS at h
  split at h
  · exact hd
  · obtain ⟨cs, e, ha⟩ := hd
    exact ⟨cs, e, closedC_mono h ha⟩
  · cases h
def agT : Option SV → Option SV → Prop
  | some s, some s' => s = s' ∧ closedS s = true
  | _, _ => False
def agL : List Tmp → Cfg → Cfg → Prop
  | [], _, _ => True
  | t :: ts, c1, c2 => agT (c1.env.lookup t) (c2.env.lookup t) ∧ agL ts c1 c2
theorem agL_spec {c1 c2 : Cfg} {t : Tmp} : ∀ {ts : List Tmp}, agL ts c1 c2 → t ∈ ts → ∃ s, c1.env.lookup t = some s ∧ c2.env.lookup t = some s ∧ closedS s = true
  | x :: ts, h, hm => by
    rcases List.mem_cons.1 hm with rfl | hm
    · have h1 := h.1
      unfold agT at h1
      split at h1
      · rename_i s s' e1 e2
        exact ⟨s, e1, by rw [e2, h1.1], h1.2⟩
      · exact h1.elim
    · exact agL_spec h.2 hm
def vfs (X : Ctx) (ops : Array Oper) : List Nat → Cfg → (Cfg → Prop) → Prop
  | [], c, N => N c
  | i :: is, c, N => vf1 X (ops[i]?) c (fun c' => vfs X ops is c' N)
def vHold (X : Ctx) (ops : Array Oper) (fs : List Nat) (is : List (Nat × List Tmp)) (h : Nat) (ks ds : List Tmp) (is2 : List (Nat × List Tmp)) (pl : List PlT) (c : Cfg) (N : Cfg → Prop) : Prop :=
  vfs X ops fs c (fun c0 => vqL X ops is c0 (fun c1 => vs1 X ops (ops[h]?) (killL ks c1) (fun c2 => vqL X ops (is ++ is2) c2 (fun c2' => agL ds c1 c2' ∧ vplT X ops pl c2' N))))
def ksOK (ops : Array Oper) (nt : Nat) (is : List Nat) (h : Nat) (ks ds : List Tmp) : Bool :=
  (is.all fun i => match dstOf ops i with
    | none => true
    | some d => ds.contains d && (ks.contains d || Region.waitsFor .any ops h i)) && ks.all fun t => decide (t < nt)
def holdAll (ops : Array Oper) (nt : Nat) (is : List Nat) (h : Nat) (ks ds : List Tmp) (is2 : List Nat) (pl : List Pl) (L : Array Bool) : Bool :=
  (listedOK ops L && inOK ops L [] (is ++ [h]) && dataOK ops (is ++ [h]) && outH ops L is h) && (inOK ops (L.setIfInBounds h true) [] (is ++ is2) && dataOK ops (is ++ is2) && outOK ops (L.setIfInBounds h true) (is ++ is2)) && ksOK ops nt is h ks ds && planOK ops pl (setL (L.setIfInBounds h true) (is ++ is2))
def fsOK (ops : Array Oper) : List Nat → Array Bool → Bool
  | [], _ => true
  | i :: r, L => (Region.ready .any ops L).contains i && Region.free .any ops L i && fsOK ops r (L.setIfInBounds i true)
theorem fs_sound {A : Act → World → Prop} (hsel : Region.noSelect ops = true) {F : Nat} : ∀ (fs : List Nat) (c : Cfg) (N : Cfg → Prop) (L : Array Bool), vfs X ops fs c N → fsOK ops fs L = true → L.size = ops.size →
    (∀ c' ρ' σ' a' w', Rel X c' ρ' σ' a' w' → N c' → wpAny X.P .any ops (QN A) F (setL L fs) a' w') → ∀ ρ σ a w, Rel X c ρ σ a w → wpAny X.P .any ops (QN A) (fs.length + F) L a w
  | [], c, N, L, h, hp, hL, hA, ρ, σ, a, w, hr => by simpa [setL] using hA _ _ _ _ _ hr h
  | i :: r, c, N, L, h, hp, hL, hA, ρ, σ, a, w, hr => by
    simp only [fsOK, Bool.and_eq_true] at hp
    simp only [vfs] at h
    unfold vf1 at h
    split at h
    · rename_i o ho
      obtain ⟨hg, h⟩ := h
      obtain ⟨s, hv, hd, hN⟩ := vcV_sound h
      have hg : o.guard = none := by cases hq : o.guard <;> simp_all
      rw [show (i :: r).length + F = (r.length + F) + 1 by simp only [List.length_cons]; omega]
      obtain ⟨v, h1, h2⟩ := hv ρ σ a w hr
      exact wpAny_take ho hsel hp.1.2 hp.1.1 (fun _ _ _ h => absurd h.1 (by simp)) (.inl ⟨by simp [Region.wanted, hg], h1⟩)
        (fs_sound hsel r _ N _ hN hp.2 (by simp [hL]) hA ρ σ _ w (hr.put hd h2))
    · exact h.elim
theorem QF.of_agree {is : List Nat} {c c1 : Cfg} {ss : List SV} (h : QF X ops is c ss c1) (hnd : is.Nodup) (hdd : ∀ i ∈ is, ∀ j ∈ is, ∀ d, dstOf ops j = some d → i = j ∨ dstOf ops i ≠ some d) {k i : Nat} {t : Tmp} {s : SV} (hk : is[k]? = some i) (ht : dstOf ops i = some t) (hs : c1.env.lookup t = some s) : ss[k]? = some s := by
  rcases h.last hs with ⟨k', j, q1, q2, q3⟩ | ⟨q1, _⟩
  · have hij : i = j := by
      rcases hdd i (List.mem_of_getElem? hk) j (List.mem_of_getElem? q1) t q3 with e | e
      · exact e
      · exact absurd ht e
    subst hij
    have : k = k' := by
      exact (List.getElem?_inj (List.getElem?_eq_some_iff.1 hk).1 hnd).1 (by rw [hk, q1])
    rw [this]; exact q2
  · exact absurd ht (q1 i (List.mem_of_getElem? hk))
theorem hold_sound {A : Act → World → Prop} (hsel : Region.noSelect ops = true) {is is2 : List Nat} {h : Nat} {ks ds : List Tmp} {pl : List Pl} {c : Cfg} {N : Cfg → Prop} {L : Array Bool} {nt : Nat} (hnt : X.nt = nt)
    (hv : vq X ops is c (fun c1 => vs1 X ops (ops[h]?) (killL ks c1) (fun c2 => vq X ops (is ++ is2) c2 (fun c2' => agL ds c1 c2' ∧ vplan X ops pl c2' N)))) (hp : holdAll ops nt is h ks ds is2 pl L = true) (hL : L.size = ops.size)
    (hA : ∀ c' ρ' σ' a' w', Rel X c' ρ' σ' a' w' → N c' → A a' w') : ∀ ρ σ a w, Rel X c ρ σ a w → wpAny X.P .any ops (QN A) (is.length + 1 + (is2.length + (cntP pl + 0))) L a w := by
  intro ρ σ a w hr
  simp only [holdAll, Bool.and_eq_true] at hp
  obtain ⟨⟨⟨hq1, hq2⟩, hks⟩, hpl⟩ := hp
  obtain ⟨ss, c1, hQF, hv⟩ := vq_QF hv
  obtain ⟨oh, hoh, hv⟩ : ∃ oh, ops[h]? = some oh ∧ vc X ops [oh] (killL ks c1) (fun c2 => vq X ops (is ++ is2) c2 (fun c2' => agL ds c1 c2' ∧ vplan X ops pl c2' N)) := by
    unfold vs1 at hv
    split at hv
    · rename_i oh hoh; exact ⟨oh, hoh, hv⟩
    · exact hv.elim
  obtain ⟨⟨⟨hlo, hin⟩, hdata⟩, hout⟩ := hq1
  have hq2' := hq2
  obtain ⟨⟨hin2, hdata2⟩, _⟩ := hq2'
  have hnd2 := inOK_nodup hin2
  have hdd2 : ∀ i ∈ is ++ is2, ∀ j ∈ is ++ is2, ∀ d, dstOf ops j = some d → i = j ∨ dstOf ops i ≠ some d := fun i hi j hj d hd => by
    have h1 := List.all_eq_true.1 (List.all_eq_true.1 hdata2 i hi) j hj
    rw [hd] at h1
    simp only [Bool.and_eq_true, Bool.or_eq_true, beq_iff_eq, bne_iff_ne] at h1
    exact h1.1
  have hun2 : ∀ i ∈ is2, i ≠ h ∧ L.getD i true = false := fun i hi => by
    obtain ⟨k, hk⟩ := List.mem_iff_getElem?.1 (List.mem_append_right is hi)
    have h1 := (inOK_spec hin2 hk).1
    obtain ⟨o, ho⟩ : ∃ o, ops[i]? = some o := by obtain ⟨_, _, _, o, h1, _⟩ := inOK_spec hin2 hk; exact ⟨o, h1⟩
    have hlt : i < L.size := by rw [hL]; exact (Array.getElem?_eq_some_iff.1 ho).1
    have hne : i ≠ h := fun e => by
      subst e
      simp [Array.getD_eq_getD_getElem?, hlt] at h1
    rw [getD_set_ne true (fun e => hne e.symm)] at h1
    exact ⟨hne, h1⟩
  have hnd := inOK_nodup hin
  have hndis : is.Nodup := (List.nodup_append.1 hnd).1
  have hLun : ∀ i ∈ is ++ [h], L.getD i true = false := fun i hi => by
    obtain ⟨k, hk⟩ := List.mem_iff_getElem?.1 hi
    exact (inOK_spec hin hk).1
  have hdd : ∀ i ∈ is, ∀ j ∈ is, ∀ d, dstOf ops j = some d → i = j ∨ dstOf ops i ≠ some d := fun i hi j hj d hd => by
    have h1 := List.all_eq_true.1 (List.all_eq_true.1 hdata i (List.mem_append_left _ hi)) j (List.mem_append_left _ hj)
    rw [hd] at h1
    simp only [Bool.and_eq_true, Bool.or_eq_true, beq_iff_eq, bne_iff_ne] at h1
    exact h1.1
  have hcl : ∀ j oj, ops[j]? = some oj → L.getD j false = true → ∀ e ∈ oj.after, Region.binds .any e = true → L.getD e.on false = true := fun j oj hj hl e he hbd => by
    have h1 := List.all_eq_true.1 hlo j (List.mem_range.2 (Array.getElem?_eq_some_iff.1 hj).1)
    simp only [hl, Bool.not_true, Bool.false_or, hj] at h1
    have h2 := Array.all_eq_true_iff_forall_mem.1 h1 e he
    simpa [hbd] using h2
  simp only [ksOK, Bool.and_eq_true, List.all_eq_true, decide_eq_true_eq] at hks
  obtain ⟨hk1, hk2⟩ := hks
  have hkd : ∀ i ∈ is, ∀ d, dstOf ops i = some d → d ∈ ds ∧ (d ∈ ks ∨ Region.waitsFor .any ops h i = true) := fun i hi d hd => by
    have := hk1 i hi
    rw [hd] at this
    simpa using this
  have hhL : h < L.size := by
    rw [hL]; exact (Array.getElem?_eq_some_iff.1 hoh).1
  have hLh : (L.setIfInBounds h true).getD h false = true := by simp [hhL]
  have hR0 : Rel X ⟨[], c.loc⟩ ρ σ a w := ⟨fun t s he => by simp at he, hr.len, hr.lenS, hr.loc, hr.inj, hr.lt, hr.fresh, hr.low, hr.defers, hr.size, hr.one, hr.pin⟩
  refine hold_pre (f := is2.length + (cntP pl + 0)) hQF hoh hv (fun t ht => by rw [hnt]; exact hk2 t ht) (fun i hi d hd => (hkd i hi d hd).2) hL hin hdata hout ?_ is.length L a w ?_ (getD_both (hLun h (by simp))) hL (fun _ _ _ => rfl) hcl (fun _ h => h) hR0 ?_ ?_
  ·
    intro listed a2 w2 c2 ρ2 σ2 hlh hsz hoth hcl2 hmono hM hr2 hv2
    obtain ⟨ss2, c3, hQF2, hag, hpl2⟩ := vq_QF hM
    have hR2 : Rel X ⟨[], c2.loc⟩ ρ2 σ2 a2 w2 := ⟨fun t s he => by simp at he, hr2.len, hr2.lenS, hr2.loc, hr2.inj, hr2.lt, hr2.fresh, hr2.low, hr2.defers, hr2.size, hr2.one, hr2.pin⟩
    have hall : (is ++ is2) ++ alL none = is ++ is2 := by simp [alL]
    have hun2' : ∀ i ∈ is2, listed.getD i false = false := fun i hi => by
      by_cases him : i ∈ is
      · have := (List.nodup_append.1 hnd2).2.2 i him i hi
        exact absurd rfl this
      · rw [hoth i (by simp only [List.mem_append, List.mem_singleton, not_or]; exact ⟨him, (hun2 i hi).1⟩)]
        exact getD_both (hun2 i hi).2
    have hcnt2 : cntU listed (is ++ is2) = cntU listed is + is2.length := by
      have : cntU listed is2 = is2.length := cntU_all hun2'
      unfold cntU at this ⊢
      rw [List.filter_append, List.length_append, this]
    have := set_sound (A := A) (X := X) (al := none) (l := []) (t := 0) (s := vv undef) (f := cntP pl + 0) (L := L.setIfInBounds h true) hQF2 ⟨fun k hk => by cases hk⟩ (by simp [hL]) (by rw [hall]; simp only [Bool.and_eq_true]; exact hq2)
      (fun ρ' σ' a' w' hr' => by rw [hall]; exact plan_sound hsel pl c3 N _ 0 hpl2 hpl (by rw [setL_size]; simp [hL]) hA ρ' σ' a' w' hr')
      (cntU listed ((is ++ is2) ++ alL none)) listed a2 w2 rfl hsz (fun j hj d => by
        rw [hall] at hj
        by_cases hjh : j = h
        · subst hjh
          have hlt : j < listed.size := by rw [hsz]; exact (Array.getElem?_eq_some_iff.1 hoh).1
          simp only [Array.getD_eq_getD_getElem?, Array.getElem?_eq_getElem hlt, Option.getD_some] at hlh ⊢
          simp [hhL, hlh]
        · rw [getD_set_ne d (fun e => hjh e.symm)]
          exact hoth j (by simp only [List.mem_append, List.mem_singleton, not_or]; exact ⟨fun hm => hj (List.mem_append_left _ hm), hjh⟩) d) hcl2 (fun j hj => by
        by_cases hjh : j = h
        · subst hjh; exact hlh
        · rw [getD_set_ne false (fun e => hjh e.symm)] at hj; exact hmono j hj) hR2
      (fun k i u q1 q2 q3 t q4 => by
        have him : i ∈ is := by
          rcases List.mem_append.1 (List.mem_of_getElem? q1) with hm | hm
          · exact hm
          · rw [hun2' i hm] at q3; cases q3
        obtain ⟨k1, hk1'⟩ := List.mem_iff_getElem?.1 him
        obtain ⟨s, e1, e2, e3⟩ := agL_spec hag (hkd i him t q4).1
        have a1 := hQF.of_agree hndis hdd hk1' q4 e1
        have a2' := hQF2.of_agree hnd2 hdd2 q1 q4 e2
        rw [q2] at a2'; cases a2'
        obtain ⟨v, b1, b2⟩ := hv2 k1 i u hk1' a1 q3 t q4
        exact ⟨v, b1, closedS_mono e3 b2⟩)
      (fun t u _ hu => hr2.env t u hu) (fun k hk => by cases hk)
    rw [hall, hcnt2] at this
    rw [show cntU listed is + (is2.length + (cntP pl + 0)) = cntU listed is + is2.length + (cntP pl + 0) by omega]
    exact this
  · exact cntU_all (fun i hi => getD_both (hLun i (List.mem_append_left _ hi)))
  · intro k i u q1 _ q3
    rw [getD_both (hLun i (List.mem_append_left _ (List.mem_of_getElem? q1)))] at q3; cases q3
  · exact fun t u _ hu => hr.env t u hu
def holdB (l : List Oper) (nt : Nat) (fs : List Nat) (is : List (Nat × List Tmp)) (h : Nat) (ks ds : List Tmp) (is2 : List (Nat × List Tmp)) (pl : List PlT) : Bool :=
  Region.noSelect l.toArray && decide (fs.length + (is.length + 1 + (is2.length + cntP (pl.map PlT.pl))) = l.length) && fsOK l.toArray fs (Array.replicate l.length false) &&
    holdAll l.toArray nt (is.map (·.1)) h ks ds (is2.map (·.1)) (pl.map PlT.pl) (setL (Array.replicate l.length false) fs) && (is ++ is2).all (lkOK l.toArray) && pl.all (PlT.lk l.toArray)
theorem SX.hold {c : Cfg} {id : Nat} {l : List Oper} {K : Exit → Cfg → Prop} (nt : Nat) (fs : List Nat) (is : List (Nat × List Tmp)) (h : Nat) (ks ds : List Tmp) (is2 : List (Nat × List Tmp)) (pl : List PlT) (hm : X.P.follows .mixedOrders = true) (hnt : X.nt = nt)
    (hB : holdB l nt fs is h ks ds is2 pl = true) (hv : vHold X l.toArray fs is h ks ds is2 pl c (K .normal)) : SX X (.region id l.toArray true) c K := fun ρ σ a w hr => by
  simp only [holdB, Bool.and_eq_true, decide_eq_true_eq] at hB
  obtain ⟨⟨⟨⟨⟨b1, b2⟩, b3⟩, b4⟩, b5⟩, b6⟩ := hB
  have hr' : Rel X c ρ σ a { w with drawn := w.drawn + 1 } := hr.below ⟨rfl, rfl, rfl, Nat.le_refl _, fun _ _ => rfl⟩
  have h1 := fs_sound (A := fun a w => Post X K .normal a w) (F := (is.map (·.1)).length + 1 + ((is2.map (·.1)).length + (cntP (pl.map PlT.pl) + 0))) b1 fs c _ (Array.replicate l.length false) hv b3 (by simp) (fun c0 ρ0 σ0 a0 w0 hr0 hv0 => by
    have b5' : is.all (lkOK l.toArray) = true := by rw [List.all_append, Bool.and_eq_true] at b5; exact b5.1
    rw [vqL_eq b5'] at hv0
    have hv1 : vq X l.toArray (is.map (·.1)) c0 (fun c1 => vs1 X l.toArray (l.toArray[h]?) (killL ks c1) (fun c2 => vq X l.toArray (is.map (·.1) ++ is2.map (·.1)) c2 (fun c2' => agL ds c1 c2' ∧ vplan X l.toArray (pl.map PlT.pl) c2' (K .normal)))) := by
      have e : (fun c1 => vs1 X l.toArray (l.toArray[h]?) (killL ks c1) (fun c2 => vqL X l.toArray (is ++ is2) c2 (fun c2' => agL ds c1 c2' ∧ vplT X l.toArray pl c2' (K .normal)))) = (fun c1 => vs1 X l.toArray (l.toArray[h]?) (killL ks c1) (fun c2 => vq X l.toArray (is.map (·.1) ++ is2.map (·.1)) c2 (fun c2' => agL ds c1 c2' ∧ vplan X l.toArray (pl.map PlT.pl) c2' (K .normal)))) := by
        funext c1
        congr 1
        funext c2
        rw [vqL_eq b5, List.map_append]
        congr 1
        funext c3
        rw [vplT_eq b6]
      rw [← e]; exact hv0
    exact hold_sound (A := fun a w => Post X K .normal a w) b1 hnt hv1 b4 (by rw [setL_size]; simp) (fun c3 ρ3 σ3 a3 w3 hr3 hk => ⟨c3, ρ3, σ3, hr3, hk⟩) ρ0 σ0 a0 w0 hr0) ρ σ a _ hr'
  have hlen : fs.length + ((is.map (·.1)).length + 1 + ((is2.map (·.1)).length + (cntP (pl.map PlT.pl) + 0))) = l.length := by rw [List.length_map, List.length_map]; omega
  rw [hlen] at h1
  have h2 : (Code.region id l.toArray true).wp X.P (QN fun a w => Post X K .normal a w) a w := wp_region_any hm (by simpa using h1)
  exact Go.wp_mono h2 (fun e a w h => by obtain ⟨rfl, h⟩ := h; exact h)
end
end Go.Sx
namespace Go.Proofs.YtbdacbcpniegiaaDoor.Q
open Go Go.RowKit Go.Proofs Go.Sx
set_option maxHeartbeats 16000000
set_option maxRecDepth 100000
set_option linter.unusedSimpArgs false
set_option linter.unusedVariables false
theorem elemR : elemInf Tryd.prog 79 = some (89, 5, 56, .agg #[.int .i64 0, .string (B []), .int .u64 0, .bool false, .string (B [])]) := by kernel_rfl
theorem mks_at0 (ms : List Rs) (h : 0 < ms.length) : (mks ms).take 5 = (ms.getD 0 default).cells := by
  have := mks_at ms 0 h
  rwa [Nat.zero_mul, List.drop_zero] at this
theorem mks_q0 (ms : List Rs) (h : 0 < ms.length) : (mks ms)[2]? = some (.int .u64 (ms.getD 0 default).q) := by
  have := congrArg (·[2]?) (mks_at0 ms h)
  simpa [Rs.cells] using this
theorem lists_ctr {e : EA} (he : e.Ok) (xs : List Th) (q : Option Addr) (cap : Nat) (x : Th) (kt : Int) (ks : List UInt8) (own : Bool) (t : Int) (s : List UInt8) (hk : (if own = true then ((thV x).t, (thV x).s) else (kt, ks)) = (t, s)) :
    CtrF Tryd.prog (fun X => KnF X e q xs) 15 [] [vv (.slice q xs.length cap), .one (.agg [.v (.int .i64 x.r.t), .v (.string (B x.r.s)), .v (.int .u64 x.r.q), .v (.bool x.r.g), .v (.string (B x.r.b)), .v (.bool x.own), .v (.int .u8 x.nm)]), .one (.agg [.v (.int .i64 kt), .v (.string (B ks))]), vv (.bool own)] (fun os v => os = [] ∧ v = vv (.bool true)) := by
  have hex := ex04_ctr he
  obtain ⟨aa, has⟩ : ∃ aa, (xs.take 20).map thV = aa := ⟨_, rfl⟩
  have hal : aa.length ≤ 20 := by rw [← has]; simp; omega
  have ht := things_ctr xs q cap 20 (by decide)
  rw [has] at ht
  have hth := thing_any x
  generalize thV x = r at hk hth
  have hfi := find_ctr aa (by omega) t s
  rw [findV_eq] at hfi
  have hrf := rFind_ctr aa (by omega) t s
  rw [findV_eq] at hrf
  generalize (aa.find? (isK t s)).getD z0 = y at hfi hrf
  generalize (aa.find? (isK t s)).isSome = is at hfi hrf
  have hso := sort_ctr aa (by omega)
  have hrso := rSort_ctr aa (by omega)
  have hsl : (sortL aa).length ≤ 20 := Nat.le_trans (sortL_len aa) hal
  generalize sortL aa = bs at hso hrso hsl
  have hset := set_ctr aa (by omega) r
  have hrset := rSet_ctr aa (by omega) r
  have hcl : (setL aa r).length ≤ 21 := Nat.le_trans (setL_len aa r) (by omega)
  generalize setL aa r = cs at hset hrset hcl
  have hcut := cut_ctr aa (by omega) t s
  have hrcut := rCut_ctr aa (by omega) t s
  have hdl : (aa.filter fun m => !isK t s m).length ≤ 20 := Nat.le_trans (List.length_filter_le _ _) hal
  generalize (aa.filter fun m => !isK t s m) = ds at hcut hrcut hdl
  have hab := alike_ctr bs (by omega)
  have hac := alike_ctr cs (by omega)
  have had := alike_ctr ds (by omega)
  have haa := alike_ctr aa (by omega)
  cases own with
  | true =>
    simp only [if_true, Prod.mk.injEq] at hk
    obtain ⟨rfl, rfl⟩ := hk
    rcases Nat.eq_zero_or_pos aa.length with h0 | h0
    · have hl0 : ((aa.length : Int) == 0) = true := beq_iff_eq.2 (by omega)
      refine CtrF.less ?_
      intro X0 hP0 hG0 N0 hN0
      refine CallVC.inline (f := 15) (by rw [hP0]; exact Tryd.func15) rfl Tryd.ntmps15 rfl (by simp) ?_
      intro X K hU hnt hbl hK
      have hP : X.P = Tryd.prog := by rw [hU.P, hP0]
      have hG := hG0.under hU
      have hT : calleeOk X.P 44 = true ∧ calleeOk X.P 52 = true ∧ aggOf X.P 96 = some true ∧ szOf X.P 96 = some 7 ∧ calleeOk X.P 46 = true ∧ zeroCells X.P 89 = some [(Value.int IntKind.i64 0), (Value.string { data := #[] }), (Value.int IntKind.u64 0), (Value.bool false), (Value.string { data := #[] })] ∧ szOf X.P 89 = some 5 ∧ fieldOff X.P 89 0 = some 0 ∧ aggOf X.P 26 = some true ∧ szOf X.P 26 = some 2 ∧ elemInf X.P 79 = some (89, 5, 56, (Value.agg #[(Value.int IntKind.i64 0), (Value.string { data := #[] }), (Value.int IntKind.u64 0), (Value.bool false), (Value.string { data := #[] })])) ∧ isStrT X.P 79 = false ∧ calleeOk X.P 54 = true ∧ calleeOk X.P 57 = true ∧ calleeOk X.P 58 = true ∧ calleeOk X.P 59 = true ∧ calleeOk X.P 56 = true ∧ aggOf X.P 89 = some true ∧ calleeOk X.P 53 = true ∧ calleeOk X.P 60 = true ∧ calleeOk X.P 55 = true ∧ calleeOk X.P 61 = true ∧ X.P.underlying 4 = some TypeDesc.bool ∧ X.P.underlying 79 = some (TypeDesc.slice 89) ∧ elemSz X.P 79 = some (89, 5) ∧ calleeOk X.P 62 = true ∧ fieldOff X.P 89 1 = some 2 ∧ aggOf X.P 22 = some false ∧ szOf X.P 22 = some 1 := by rw [hP]; exact ⟨Ty.co44, Ty.co52, Ty.ag96, Ty.sz96, Ty.co46, Ty.ze89, Ty.sz89, Ty.fo89_0, Ty.ag26, Ty.sz26, Ty.ei79, Ty.is79, Ty.co54, Ty.co57, Ty.co58, Ty.co59, Ty.co56, Ty.ag89, Ty.co53, Ty.co60, Ty.co55, Ty.co61, Tryd.underlying4, Tryd.underlying79, Ty.el79, Ty.co62, Ty.fo89_1, Ty.ag22, Ty.sz22⟩
      simp only [GA, ↓GB, List.filterMap_cons, eq_self, BEq.rfl, simprocAttr] at hbl ⊢
      have hKF := hG
      clear hG
      have hG := hKF.g
      repeat' (first
        | (refine SX.reg3 (id := 8) rfl rfl rfl ?_; simp only [GA, ↓GB, List.filterMap_cons, eq_self, BEq.rfl, simprocAttr, hnt, hT])
        | (simp only [ne_eq, not_true_eq_false, or_self] at hb)
        | (refine SX.seqK ?_; intro N hN)
        | ((first | (refine SX.ops ?_) | (refine SX.planT (id := 15) [.s 0, .s 1, .q [(2, [13, 68]), (3, [15, 68]), (4, [69, 70, 68]), (5, [68, 71]), (6, [72]), (7, [14, 73]), (8, [16, 73]), (9, [74, 75, 73]), (10, [73, 76]), (11, [77]), (12, [17, 78]), (13, [78, 79]), (14, [80]), (15, [18, 81]), (16, [81, 82]), (17, [83]), (18, [19, 84]), (19, [84, 85]), (20, [86]), (21, [20, 87]), (22, [87, 88]), (23, [89]), (24, [10, 90]), (25, [91, 90]), (26, [92, 90]), (27, [93, 90]), (28, [11, 94]), (29, [10, 94]), (30, [96, 94]), (31, [97, 94]), (32, [95, 98, 94]), (33, [11, 94]), (34, [100, 94]), (35, [10, 94]), (36, [102, 94]), (37, [103, 94]), (38, [104, 94]), (39, [101, 105, 94]), (40, [99, 106, 94]), (41, [94, 107, 90]), (42, [90, 108]), (43, [109])] none] ?_ ?_ ?_; (focus first | (rw [hP]; kernel_rfl) | (rw [hU1P, hP]; kernel_rfl)); (focus kernel_rfl))); simp only [GA, ↓GB, List.filterMap_cons, eq_self, BEq.rfl, simprocAttr, hnt, hT, hl0])
        | (refine SX.hold (id := 12) 110 [0, 3] [(1, [11]), (4, [11])] 2 [54] [51, 54] [] [.s 5, .s 6, .s 7] ?_ hnt ?_ ?_; (focus rw [hP]; kernel_rfl); (focus kernel_rfl); simp only [GA, ↓GB, List.filterMap_cons, eq_self, BEq.rfl, simprocAttr, hnt, hT, vHold, vfs, killL, agL, agT, closedS, closedC_n, closedC_v, List.cons_append, List.nil_append, hl0])
        | (refine SX.hold (id := 13) 110 [0, 3] [(1, [6]), (4, [6])] 2 [61] [58, 61] [] [.s 5, .s 6, .s 7] ?_ hnt ?_ ?_; (focus rw [hP]; kernel_rfl); (focus kernel_rfl); simp only [GA, ↓GB, List.filterMap_cons, eq_self, BEq.rfl, simprocAttr, hnt, hT, vHold, vfs, killL, agL, agT, closedS, closedC_n, closedC_v, List.cons_append, List.nil_append, hl0])
        | ((first | refine SX.skip ?_ | refine SX.exit ?_ | refine SX.label ?_); try simp only [GA, ↓GB, List.filterMap_cons, eq_self, BEq.rfl, simprocAttr])
        | (refine SX.cond rfl (fun hb => ?_) (fun hb => ?_) <;> ((first | cases hb | (simp only [decide_eq_true_eq, decide_eq_false_iff_not, beq_iff_eq, beq_eq_false_iff_ne, bne_iff_ne, Bool.and_eq_true, Bool.or_eq_true, Bool.not_eq_true', Bool.not_eq_false', Bool.and_eq_false_iff, Bool.or_eq_false_iff, Int.not_lt, Int.not_le] at hb) | skip) <;> (first | (exfalso; omega) | skip)))
        | (refine SX.ret ?_; try simp only [GA, ↓GB, List.filterMap_cons, eq_self, BEq.rfl, simprocAttr])
        | (refine hN _ ?_; clear hN N)
        | ((first | refine hK _ _ (FinI.ret3 ?_) | refine hK _ _ (FinI.nrm3 ?_)); simp only [GA, ↓GB, List.filterMap_cons, eq_self, BEq.rfl, simprocAttr, finP_s, hnt, hT, hl0]; refine Done.out ?_)
        | (clear hN N; first | (refine hN _ ?_; clear hN N) | (clear hN N; first | (refine hN _ ?_; clear hN N) | (clear hN N; first | (refine hN _ ?_; clear hN N) | (clear hN N; first | (refine hN _ ?_; clear hN N) | (clear hN N; first | (refine hN _ ?_; clear hN N) | (refine hN _ ?_; clear hN N))))))
        | (refine bif2.mk (fun hb => ?_) (fun hb => ?_) <;> (try simp only [hb, GA, ↓GB, List.filterMap_cons, eq_self, BEq.rfl, simprocAttr, hnt, hT, hl0]) <;> ((first | cases hb | (simp only [decide_eq_true_eq, decide_eq_false_iff_not, beq_iff_eq, beq_eq_false_iff_ne, bne_iff_ne, Bool.and_eq_true, Bool.or_eq_true, Bool.not_eq_true', Bool.not_eq_false', Bool.and_eq_false_iff, Bool.or_eq_false_iff, Int.not_lt, Int.not_le] at hb) | skip) <;> (first | (exfalso; omega) | skip)))
        | ((first | (refine Ctr.use (hex) hP hG [] ?_ rfl rfl ?_; (focus (refine LeR.of rfl trivial ?_ ?_ ?_ ?_ ?_ <;> first | decide | (simp only [GA, ↓GB, List.filterMap_cons, eq_self, BEq.rfl, simprocAttr, List.getD_cons_zero, List.getD_cons_succ, or_false, false_or, or_self, or_true, true_or, decide_true]; done))); intro os' s hR; obtain ⟨rfl, rfl⟩ := hR) | (refine CtrF.use (ht) hP (fun X' hU => hKF.f.under hU) [] ?_ rfl rfl ?_; (focus (refine LeR.of rfl trivial ?_ ?_ ?_ ?_ ?_ <;> first | decide | (simp only [GA, ↓GB, List.filterMap_cons, eq_self, BEq.rfl, simprocAttr, List.getD_cons_zero, List.getD_cons_succ, or_false, false_or, or_self, or_true, true_or, decide_true]; done))); intro os' s hR; obtain ⟨rfl, rfl⟩ := hR) | (refine CallVC.pa hP (hth) rfl ?_) | (refine CallQ.pa hP (hth) rfl ?_) | (refine Ctr.use (hfi) hP ?_ [2] ?_ rfl rfl ?_; (focus (intro p hp; cases hp)); (focus (refine LeR.of rfl trivial ?_ ?_ ?_ ?_ ?_ <;> first | decide | (simp only [GA, ↓GB, List.filterMap_cons, eq_self, BEq.rfl, simprocAttr, List.getD_cons_zero, List.getD_cons_succ, or_false, false_or, or_self, or_true, true_or, decide_true]; done))); intro os' s hR; obtain ⟨rfl, rfl⟩ := hR) | (refine Ctr.use (hrf) hP ?_ [2] ?_ rfl rfl ?_; (focus (intro p hp; cases hp)); (focus (refine LeR.of rfl trivial ?_ ?_ ?_ ?_ ?_ <;> first | decide | (simp only [GA, ↓GB, List.filterMap_cons, eq_self, BEq.rfl, simprocAttr, List.getD_cons_zero, List.getD_cons_succ, or_false, false_or, or_self, or_true, true_or, decide_true]; done))); intro os' s hR; obtain ⟨rfl, rfl⟩ := hR) | (refine Ctr.use (hso) hP ?_ [2] ?_ rfl rfl ?_; (focus (intro p hp; cases hp)); (focus (refine LeR.of rfl trivial ?_ ?_ ?_ ?_ ?_ <;> first | decide | (simp only [GA, ↓GB, List.filterMap_cons, eq_self, BEq.rfl, simprocAttr, List.getD_cons_zero, List.getD_cons_succ, or_false, false_or, or_self, or_true, true_or, decide_true]; done))); intro os' s hR; obtain ⟨rfl, rfl⟩ := hR) | (refine Ctr.use (hrso) hP ?_ [2] ?_ rfl rfl ?_; (focus (intro p hp; cases hp)); (focus (refine LeR.of rfl trivial ?_ ?_ ?_ ?_ ?_ <;> first | decide | (simp only [GA, ↓GB, List.filterMap_cons, eq_self, BEq.rfl, simprocAttr, List.getD_cons_zero, List.getD_cons_succ, or_false, false_or, or_self, or_true, true_or, decide_true]; done))); intro os' s hR; obtain ⟨rfl, rfl⟩ := hR) | (refine Ctr.use (hset) hP ?_ [2] ?_ rfl rfl ?_; (focus (intro p hp; cases hp)); (focus (refine LeR.of rfl trivial ?_ ?_ ?_ ?_ ?_ <;> first | decide | (simp only [GA, ↓GB, List.filterMap_cons, eq_self, BEq.rfl, simprocAttr, List.getD_cons_zero, List.getD_cons_succ, or_false, false_or, or_self, or_true, true_or, decide_true]; done))); intro os' s hR; obtain ⟨rfl, rfl⟩ := hR) | (refine Ctr.use (hrset) hP ?_ [2] ?_ rfl rfl ?_; (focus (intro p hp; cases hp)); (focus (refine LeR.of rfl trivial ?_ ?_ ?_ ?_ ?_ <;> first | decide | (simp only [GA, ↓GB, List.filterMap_cons, eq_self, BEq.rfl, simprocAttr, List.getD_cons_zero, List.getD_cons_succ, or_false, false_or, or_self, or_true, true_or, decide_true]; done))); intro os' s hR; obtain ⟨rfl, rfl⟩ := hR) | (refine Ctr.use (hcut) hP ?_ [2] ?_ rfl rfl ?_; (focus (intro p hp; cases hp)); (focus (refine LeR.of rfl trivial ?_ ?_ ?_ ?_ ?_ <;> first | decide | (simp only [GA, ↓GB, List.filterMap_cons, eq_self, BEq.rfl, simprocAttr, List.getD_cons_zero, List.getD_cons_succ, or_false, false_or, or_self, or_true, true_or, decide_true]; done))); intro os' s hR; obtain ⟨rfl, rfl⟩ := hR) | (refine Ctr.use (hrcut) hP ?_ [2] ?_ rfl rfl ?_; (focus (intro p hp; cases hp)); (focus (refine LeR.of rfl trivial ?_ ?_ ?_ ?_ ?_ <;> first | decide | (simp only [GA, ↓GB, List.filterMap_cons, eq_self, BEq.rfl, simprocAttr, List.getD_cons_zero, List.getD_cons_succ, or_false, false_or, or_self, or_true, true_or, decide_true]; done))); intro os' s hR; obtain ⟨rfl, rfl⟩ := hR) | (refine Ctr.use (hab) hP ?_ [8,9] ?_ rfl rfl ?_; (focus (intro p hp; cases hp)); (focus (refine LeR.of rfl trivial ?_ ?_ ?_ ?_ ?_ <;> first | decide | (simp only [GA, ↓GB, List.filterMap_cons, eq_self, BEq.rfl, simprocAttr, List.getD_cons_zero, List.getD_cons_succ, or_false, false_or, or_self, or_true, true_or, decide_true]; done))); intro os' s hR; obtain ⟨rfl, rfl⟩ := hR) | (refine Ctr.use (hac) hP ?_ [10,11] ?_ rfl rfl ?_; (focus (intro p hp; cases hp)); (focus (refine LeR.of rfl trivial ?_ ?_ ?_ ?_ ?_ <;> first | decide | (simp only [GA, ↓GB, List.filterMap_cons, eq_self, BEq.rfl, simprocAttr, List.getD_cons_zero, List.getD_cons_succ, or_false, false_or, or_self, or_true, true_or, decide_true]; done))); intro os' s hR; obtain ⟨rfl, rfl⟩ := hR) | (refine Ctr.use (had) hP ?_ [12,13] ?_ rfl rfl ?_; (focus (intro p hp; cases hp)); (focus (refine LeR.of rfl trivial ?_ ?_ ?_ ?_ ?_ <;> first | decide | (simp only [GA, ↓GB, List.filterMap_cons, eq_self, BEq.rfl, simprocAttr, List.getD_cons_zero, List.getD_cons_succ, or_false, false_or, or_self, or_true, true_or, decide_true]; done))); intro os' s hR; obtain ⟨rfl, rfl⟩ := hR) | (refine Ctr.use (haa) hP ?_ [2,5] ?_ rfl rfl ?_; (focus (intro p hp; cases hp)); (focus (refine LeR.of rfl trivial ?_ ?_ ?_ ?_ ?_ <;> first | decide | (simp only [GA, ↓GB, List.filterMap_cons, eq_self, BEq.rfl, simprocAttr, List.getD_cons_zero, List.getD_cons_succ, or_false, false_or, or_self, or_true, true_or, decide_true]; done))); intro os' s hR; obtain ⟨rfl, rfl⟩ := hR) | (refine CallVC.pv hP (newer_any r (aa.getD 0 default)) rfl ?_) | (refine CallQ.pv hP (newer_any r (aa.getD 0 default)) rfl ?_)); simp only [GA, ↓GB, List.filterMap_cons, eq_self, BEq.rfl, simprocAttr, hnt, hT, hl0])
        | (show VO X _ _ _; refine VO.appendNilRow (j := 2) (e' := 89) (ys := mks aa) rfl rfl (by rw [hP]; exact elemR) rfl (mks_one _) (by simp only [maxLen]; omega) (by omega) ?_; simp only [GA, ↓GB, List.filterMap_cons, eq_self, BEq.rfl, simprocAttr, hnt, hT])
        | (refine ⟨_, strEq_to hP (Ty.eqS89 _ _ _ _ _ _ _ _ _ _), ?_⟩)
        | (show closedC _ = true; rfl)
        | (refine ⟨(aa.getD 0 default).cells, rfl, mks_at0 _ (by omega), ?_⟩ <;> simp only [Rs.cells, GA, ↓GB, List.filterMap_cons, eq_self, BEq.rfl, simprocAttr, hnt, hT])
        | (refine ⟨_, mks_q0 _ (by omega), ?_⟩ <;> simp only [GA, ↓GB, List.filterMap_cons, eq_self, BEq.rfl, simprocAttr, hnt, hT])
        | (refine SX.block ?_)
        | (refine and_mk ?_ ?_; (focus first | decide | omega | rfl | assumption | (simp only [List.length_append, List.length_cons, List.length_nil, B_size]; omega) | (simp; done)))
        | (refine And.intro ?_ ?_))
      all_goals (try refine Done.mk ?_)
      all_goals first | ((refine hN0 _ _ ⟨[], _, _, ?_, ?_, ?_, ⟨rfl, rfl⟩⟩; (focus exact LeR.of rfl trivial (by simp only [GA, ↓GB, List.filterMap_cons, eq_self, BEq.rfl, simprocAttr, List.getD_cons_zero, List.getD_cons_succ, or_false, false_or, or_self, or_true, true_or, decide_true]) (by decide) rfl rfl rfl); rotate_left; (focus rfl)); rfl) | ((refine hN0 _ _ ⟨[], _, _, ?_, ?_, ?_, ⟨rfl, rfl⟩⟩; (focus exact LeR.of rfl trivial (by simp only [GA, ↓GB, List.filterMap_cons, eq_self, BEq.rfl, simprocAttr, List.getD_cons_zero, List.getD_cons_succ, or_false, false_or, or_self, or_true, true_or, decide_true]) (by decide) rfl rfl rfl); rotate_left; (focus rfl)); simp; done)
    · have hl0 : ((aa.length : Int) == 0) = false := beq_eq_false_iff_ne.2 (by omega)
      refine CtrF.less ?_
      intro X0 hP0 hG0 N0 hN0
      refine CallVC.inline (f := 15) (by rw [hP0]; exact Tryd.func15) rfl Tryd.ntmps15 rfl (by simp) ?_
      intro X K hU hnt hbl hK
      have hP : X.P = Tryd.prog := by rw [hU.P, hP0]
      have hG := hG0.under hU
      have hT : calleeOk X.P 44 = true ∧ calleeOk X.P 52 = true ∧ aggOf X.P 96 = some true ∧ szOf X.P 96 = some 7 ∧ calleeOk X.P 46 = true ∧ zeroCells X.P 89 = some [(Value.int IntKind.i64 0), (Value.string { data := #[] }), (Value.int IntKind.u64 0), (Value.bool false), (Value.string { data := #[] })] ∧ szOf X.P 89 = some 5 ∧ fieldOff X.P 89 0 = some 0 ∧ aggOf X.P 26 = some true ∧ szOf X.P 26 = some 2 ∧ elemInf X.P 79 = some (89, 5, 56, (Value.agg #[(Value.int IntKind.i64 0), (Value.string { data := #[] }), (Value.int IntKind.u64 0), (Value.bool false), (Value.string { data := #[] })])) ∧ isStrT X.P 79 = false ∧ calleeOk X.P 54 = true ∧ calleeOk X.P 57 = true ∧ calleeOk X.P 58 = true ∧ calleeOk X.P 59 = true ∧ calleeOk X.P 56 = true ∧ aggOf X.P 89 = some true ∧ calleeOk X.P 53 = true ∧ calleeOk X.P 60 = true ∧ calleeOk X.P 55 = true ∧ calleeOk X.P 61 = true ∧ X.P.underlying 4 = some TypeDesc.bool ∧ X.P.underlying 79 = some (TypeDesc.slice 89) ∧ elemSz X.P 79 = some (89, 5) ∧ calleeOk X.P 62 = true ∧ fieldOff X.P 89 1 = some 2 ∧ aggOf X.P 22 = some false ∧ szOf X.P 22 = some 1 := by rw [hP]; exact ⟨Ty.co44, Ty.co52, Ty.ag96, Ty.sz96, Ty.co46, Ty.ze89, Ty.sz89, Ty.fo89_0, Ty.ag26, Ty.sz26, Ty.ei79, Ty.is79, Ty.co54, Ty.co57, Ty.co58, Ty.co59, Ty.co56, Ty.ag89, Ty.co53, Ty.co60, Ty.co55, Ty.co61, Tryd.underlying4, Tryd.underlying79, Ty.el79, Ty.co62, Ty.fo89_1, Ty.ag22, Ty.sz22⟩
      simp only [GA, ↓GB, List.filterMap_cons, eq_self, BEq.rfl, simprocAttr] at hbl ⊢
      have hKF := hG
      clear hG
      have hG := hKF.g
      repeat' (first
        | (refine SX.reg3 (id := 8) rfl rfl rfl ?_; simp only [GA, ↓GB, List.filterMap_cons, eq_self, BEq.rfl, simprocAttr, hnt, hT])
        | (simp only [ne_eq, not_true_eq_false, or_self] at hb)
        | (refine SX.seqK ?_; intro N hN)
        | ((first | (refine SX.ops ?_) | (refine SX.planT (id := 15) [.s 0, .s 1, .q [(2, [13, 68]), (3, [15, 68]), (4, [69, 70, 68]), (5, [68, 71]), (6, [72]), (7, [14, 73]), (8, [16, 73]), (9, [74, 75, 73]), (10, [73, 76]), (11, [77]), (12, [17, 78]), (13, [78, 79]), (14, [80]), (15, [18, 81]), (16, [81, 82]), (17, [83]), (18, [19, 84]), (19, [84, 85]), (20, [86]), (21, [20, 87]), (22, [87, 88]), (23, [89]), (24, [10, 90]), (25, [91, 90]), (26, [92, 90]), (27, [93, 90]), (28, [11, 94]), (29, [10, 94]), (30, [96, 94]), (31, [97, 94]), (32, [95, 98, 94]), (33, [11, 94]), (34, [100, 94]), (35, [10, 94]), (36, [102, 94]), (37, [103, 94]), (38, [104, 94]), (39, [101, 105, 94]), (40, [99, 106, 94]), (41, [94, 107, 90]), (42, [90, 108]), (43, [109])] none] ?_ ?_ ?_; (focus first | (rw [hP]; kernel_rfl) | (rw [hU1P, hP]; kernel_rfl)); (focus kernel_rfl))); simp only [GA, ↓GB, List.filterMap_cons, eq_self, BEq.rfl, simprocAttr, hnt, hT, hl0])
        | (refine SX.hold (id := 12) 110 [0, 3] [(1, [11]), (4, [11])] 2 [54] [51, 54] [] [.s 5, .s 6, .s 7] ?_ hnt ?_ ?_; (focus rw [hP]; kernel_rfl); (focus kernel_rfl); simp only [GA, ↓GB, List.filterMap_cons, eq_self, BEq.rfl, simprocAttr, hnt, hT, vHold, vfs, killL, agL, agT, closedS, closedC_n, closedC_v, List.cons_append, List.nil_append, hl0])
        | (refine SX.hold (id := 13) 110 [0, 3] [(1, [6]), (4, [6])] 2 [61] [58, 61] [] [.s 5, .s 6, .s 7] ?_ hnt ?_ ?_; (focus rw [hP]; kernel_rfl); (focus kernel_rfl); simp only [GA, ↓GB, List.filterMap_cons, eq_self, BEq.rfl, simprocAttr, hnt, hT, vHold, vfs, killL, agL, agT, closedS, closedC_n, closedC_v, List.cons_append, List.nil_append, hl0])
        | ((first | refine SX.skip ?_ | refine SX.exit ?_ | refine SX.label ?_); try simp only [GA, ↓GB, List.filterMap_cons, eq_self, BEq.rfl, simprocAttr])
        | (refine SX.cond rfl (fun hb => ?_) (fun hb => ?_) <;> ((first | cases hb | (simp only [decide_eq_true_eq, decide_eq_false_iff_not, beq_iff_eq, beq_eq_false_iff_ne, bne_iff_ne, Bool.and_eq_true, Bool.or_eq_true, Bool.not_eq_true', Bool.not_eq_false', Bool.and_eq_false_iff, Bool.or_eq_false_iff, Int.not_lt, Int.not_le] at hb) | skip) <;> (first | (exfalso; omega) | skip)))
        | (refine SX.ret ?_; try simp only [GA, ↓GB, List.filterMap_cons, eq_self, BEq.rfl, simprocAttr])
        | (refine hN _ ?_; clear hN N)
        | ((first | refine hK _ _ (FinI.ret3 ?_) | refine hK _ _ (FinI.nrm3 ?_)); simp only [GA, ↓GB, List.filterMap_cons, eq_self, BEq.rfl, simprocAttr, finP_s, hnt, hT, hl0]; refine Done.out ?_)
        | (clear hN N; first | (refine hN _ ?_; clear hN N) | (clear hN N; first | (refine hN _ ?_; clear hN N) | (clear hN N; first | (refine hN _ ?_; clear hN N) | (clear hN N; first | (refine hN _ ?_; clear hN N) | (clear hN N; first | (refine hN _ ?_; clear hN N) | (refine hN _ ?_; clear hN N))))))
        | (refine bif2.mk (fun hb => ?_) (fun hb => ?_) <;> (try simp only [hb, GA, ↓GB, List.filterMap_cons, eq_self, BEq.rfl, simprocAttr, hnt, hT, hl0]) <;> ((first | cases hb | (simp only [decide_eq_true_eq, decide_eq_false_iff_not, beq_iff_eq, beq_eq_false_iff_ne, bne_iff_ne, Bool.and_eq_true, Bool.or_eq_true, Bool.not_eq_true', Bool.not_eq_false', Bool.and_eq_false_iff, Bool.or_eq_false_iff, Int.not_lt, Int.not_le] at hb) | skip) <;> (first | (exfalso; omega) | skip)))
        | ((first | (refine Ctr.use (hex) hP hG [] ?_ rfl rfl ?_; (focus (refine LeR.of rfl trivial ?_ ?_ ?_ ?_ ?_ <;> first | decide | (simp only [GA, ↓GB, List.filterMap_cons, eq_self, BEq.rfl, simprocAttr, List.getD_cons_zero, List.getD_cons_succ, or_false, false_or, or_self, or_true, true_or, decide_true]; done))); intro os' s hR; obtain ⟨rfl, rfl⟩ := hR) | (refine CtrF.use (ht) hP (fun X' hU => hKF.f.under hU) [] ?_ rfl rfl ?_; (focus (refine LeR.of rfl trivial ?_ ?_ ?_ ?_ ?_ <;> first | decide | (simp only [GA, ↓GB, List.filterMap_cons, eq_self, BEq.rfl, simprocAttr, List.getD_cons_zero, List.getD_cons_succ, or_false, false_or, or_self, or_true, true_or, decide_true]; done))); intro os' s hR; obtain ⟨rfl, rfl⟩ := hR) | (refine CallVC.pa hP (hth) rfl ?_) | (refine CallQ.pa hP (hth) rfl ?_) | (refine Ctr.use (hfi) hP ?_ [2] ?_ rfl rfl ?_; (focus (intro p hp; cases hp)); (focus (refine LeR.of rfl trivial ?_ ?_ ?_ ?_ ?_ <;> first | decide | (simp only [GA, ↓GB, List.filterMap_cons, eq_self, BEq.rfl, simprocAttr, List.getD_cons_zero, List.getD_cons_succ, or_false, false_or, or_self, or_true, true_or, decide_true]; done))); intro os' s hR; obtain ⟨rfl, rfl⟩ := hR) | (refine Ctr.use (hrf) hP ?_ [2] ?_ rfl rfl ?_; (focus (intro p hp; cases hp)); (focus (refine LeR.of rfl trivial ?_ ?_ ?_ ?_ ?_ <;> first | decide | (simp only [GA, ↓GB, List.filterMap_cons, eq_self, BEq.rfl, simprocAttr, List.getD_cons_zero, List.getD_cons_succ, or_false, false_or, or_self, or_true, true_or, decide_true]; done))); intro os' s hR; obtain ⟨rfl, rfl⟩ := hR) | (refine Ctr.use (hso) hP ?_ [2] ?_ rfl rfl ?_; (focus (intro p hp; cases hp)); (focus (refine LeR.of rfl trivial ?_ ?_ ?_ ?_ ?_ <;> first | decide | (simp only [GA, ↓GB, List.filterMap_cons, eq_self, BEq.rfl, simprocAttr, List.getD_cons_zero, List.getD_cons_succ, or_false, false_or, or_self, or_true, true_or, decide_true]; done))); intro os' s hR; obtain ⟨rfl, rfl⟩ := hR) | (refine Ctr.use (hrso) hP ?_ [2] ?_ rfl rfl ?_; (focus (intro p hp; cases hp)); (focus (refine LeR.of rfl trivial ?_ ?_ ?_ ?_ ?_ <;> first | decide | (simp only [GA, ↓GB, List.filterMap_cons, eq_self, BEq.rfl, simprocAttr, List.getD_cons_zero, List.getD_cons_succ, or_false, false_or, or_self, or_true, true_or, decide_true]; done))); intro os' s hR; obtain ⟨rfl, rfl⟩ := hR) | (refine Ctr.use (hset) hP ?_ [2] ?_ rfl rfl ?_; (focus (intro p hp; cases hp)); (focus (refine LeR.of rfl trivial ?_ ?_ ?_ ?_ ?_ <;> first | decide | (simp only [GA, ↓GB, List.filterMap_cons, eq_self, BEq.rfl, simprocAttr, List.getD_cons_zero, List.getD_cons_succ, or_false, false_or, or_self, or_true, true_or, decide_true]; done))); intro os' s hR; obtain ⟨rfl, rfl⟩ := hR) | (refine Ctr.use (hrset) hP ?_ [2] ?_ rfl rfl ?_; (focus (intro p hp; cases hp)); (focus (refine LeR.of rfl trivial ?_ ?_ ?_ ?_ ?_ <;> first | decide | (simp only [GA, ↓GB, List.filterMap_cons, eq_self, BEq.rfl, simprocAttr, List.getD_cons_zero, List.getD_cons_succ, or_false, false_or, or_self, or_true, true_or, decide_true]; done))); intro os' s hR; obtain ⟨rfl, rfl⟩ := hR) | (refine Ctr.use (hcut) hP ?_ [2] ?_ rfl rfl ?_; (focus (intro p hp; cases hp)); (focus (refine LeR.of rfl trivial ?_ ?_ ?_ ?_ ?_ <;> first | decide | (simp only [GA, ↓GB, List.filterMap_cons, eq_self, BEq.rfl, simprocAttr, List.getD_cons_zero, List.getD_cons_succ, or_false, false_or, or_self, or_true, true_or, decide_true]; done))); intro os' s hR; obtain ⟨rfl, rfl⟩ := hR) | (refine Ctr.use (hrcut) hP ?_ [2] ?_ rfl rfl ?_; (focus (intro p hp; cases hp)); (focus (refine LeR.of rfl trivial ?_ ?_ ?_ ?_ ?_ <;> first | decide | (simp only [GA, ↓GB, List.filterMap_cons, eq_self, BEq.rfl, simprocAttr, List.getD_cons_zero, List.getD_cons_succ, or_false, false_or, or_self, or_true, true_or, decide_true]; done))); intro os' s hR; obtain ⟨rfl, rfl⟩ := hR) | (refine Ctr.use (hab) hP ?_ [8,9] ?_ rfl rfl ?_; (focus (intro p hp; cases hp)); (focus (refine LeR.of rfl trivial ?_ ?_ ?_ ?_ ?_ <;> first | decide | (simp only [GA, ↓GB, List.filterMap_cons, eq_self, BEq.rfl, simprocAttr, List.getD_cons_zero, List.getD_cons_succ, or_false, false_or, or_self, or_true, true_or, decide_true]; done))); intro os' s hR; obtain ⟨rfl, rfl⟩ := hR) | (refine Ctr.use (hac) hP ?_ [10,11] ?_ rfl rfl ?_; (focus (intro p hp; cases hp)); (focus (refine LeR.of rfl trivial ?_ ?_ ?_ ?_ ?_ <;> first | decide | (simp only [GA, ↓GB, List.filterMap_cons, eq_self, BEq.rfl, simprocAttr, List.getD_cons_zero, List.getD_cons_succ, or_false, false_or, or_self, or_true, true_or, decide_true]; done))); intro os' s hR; obtain ⟨rfl, rfl⟩ := hR) | (refine Ctr.use (had) hP ?_ [12,13] ?_ rfl rfl ?_; (focus (intro p hp; cases hp)); (focus (refine LeR.of rfl trivial ?_ ?_ ?_ ?_ ?_ <;> first | decide | (simp only [GA, ↓GB, List.filterMap_cons, eq_self, BEq.rfl, simprocAttr, List.getD_cons_zero, List.getD_cons_succ, or_false, false_or, or_self, or_true, true_or, decide_true]; done))); intro os' s hR; obtain ⟨rfl, rfl⟩ := hR) | (refine Ctr.use (haa) hP ?_ [2,5] ?_ rfl rfl ?_; (focus (intro p hp; cases hp)); (focus (refine LeR.of rfl trivial ?_ ?_ ?_ ?_ ?_ <;> first | decide | (simp only [GA, ↓GB, List.filterMap_cons, eq_self, BEq.rfl, simprocAttr, List.getD_cons_zero, List.getD_cons_succ, or_false, false_or, or_self, or_true, true_or, decide_true]; done))); intro os' s hR; obtain ⟨rfl, rfl⟩ := hR) | (refine CallVC.pv hP (newer_any r (aa.getD 0 default)) rfl ?_) | (refine CallQ.pv hP (newer_any r (aa.getD 0 default)) rfl ?_)); simp only [GA, ↓GB, List.filterMap_cons, eq_self, BEq.rfl, simprocAttr, hnt, hT, hl0])
        | (show VO X _ _ _; refine VO.appendNilRow (j := 2) (e' := 89) (ys := mks aa) rfl rfl (by rw [hP]; exact elemR) rfl (mks_one _) (by simp only [maxLen]; omega) (by omega) ?_; simp only [GA, ↓GB, List.filterMap_cons, eq_self, BEq.rfl, simprocAttr, hnt, hT])
        | (refine ⟨_, strEq_to hP (Ty.eqS89 _ _ _ _ _ _ _ _ _ _), ?_⟩)
        | (show closedC _ = true; rfl)
        | (refine ⟨(aa.getD 0 default).cells, rfl, mks_at0 _ (by omega), ?_⟩ <;> simp only [Rs.cells, GA, ↓GB, List.filterMap_cons, eq_self, BEq.rfl, simprocAttr, hnt, hT])
        | (refine ⟨_, mks_q0 _ (by omega), ?_⟩ <;> simp only [GA, ↓GB, List.filterMap_cons, eq_self, BEq.rfl, simprocAttr, hnt, hT])
        | (refine SX.block ?_)
        | (refine and_mk ?_ ?_; (focus first | decide | omega | rfl | assumption | (simp only [List.length_append, List.length_cons, List.length_nil, B_size]; omega) | (simp; done)))
        | (refine And.intro ?_ ?_))
      all_goals (try refine Done.mk ?_)
      all_goals first | ((refine hN0 _ _ ⟨[], _, _, ?_, ?_, ?_, ⟨rfl, rfl⟩⟩; (focus exact LeR.of rfl trivial (by simp only [GA, ↓GB, List.filterMap_cons, eq_self, BEq.rfl, simprocAttr, List.getD_cons_zero, List.getD_cons_succ, or_false, false_or, or_self, or_true, true_or, decide_true]) (by decide) rfl rfl rfl); rotate_left; (focus rfl)); rfl) | ((refine hN0 _ _ ⟨[], _, _, ?_, ?_, ?_, ⟨rfl, rfl⟩⟩; (focus exact LeR.of rfl trivial (by simp only [GA, ↓GB, List.filterMap_cons, eq_self, BEq.rfl, simprocAttr, List.getD_cons_zero, List.getD_cons_succ, or_false, false_or, or_self, or_true, true_or, decide_true]) (by decide) rfl rfl rfl); rotate_left; (focus rfl)); simp; done)
  | false =>
    simp only [Bool.false_eq_true, if_false, Prod.mk.injEq] at hk
    obtain ⟨rfl, rfl⟩ := hk
    rcases Nat.eq_zero_or_pos aa.length with h0 | h0
    · have hl0 : ((aa.length : Int) == 0) = true := beq_iff_eq.2 (by omega)
      refine CtrF.less ?_
      intro X0 hP0 hG0 N0 hN0
      refine CallVC.inline (f := 15) (by rw [hP0]; exact Tryd.func15) rfl Tryd.ntmps15 rfl (by simp) ?_
      intro X K hU hnt hbl hK
      have hP : X.P = Tryd.prog := by rw [hU.P, hP0]
      have hG := hG0.under hU
      have hT : calleeOk X.P 44 = true ∧ calleeOk X.P 52 = true ∧ aggOf X.P 96 = some true ∧ szOf X.P 96 = some 7 ∧ calleeOk X.P 46 = true ∧ zeroCells X.P 89 = some [(Value.int IntKind.i64 0), (Value.string { data := #[] }), (Value.int IntKind.u64 0), (Value.bool false), (Value.string { data := #[] })] ∧ szOf X.P 89 = some 5 ∧ fieldOff X.P 89 0 = some 0 ∧ aggOf X.P 26 = some true ∧ szOf X.P 26 = some 2 ∧ elemInf X.P 79 = some (89, 5, 56, (Value.agg #[(Value.int IntKind.i64 0), (Value.string { data := #[] }), (Value.int IntKind.u64 0), (Value.bool false), (Value.string { data := #[] })])) ∧ isStrT X.P 79 = false ∧ calleeOk X.P 54 = true ∧ calleeOk X.P 57 = true ∧ calleeOk X.P 58 = true ∧ calleeOk X.P 59 = true ∧ calleeOk X.P 56 = true ∧ aggOf X.P 89 = some true ∧ calleeOk X.P 53 = true ∧ calleeOk X.P 60 = true ∧ calleeOk X.P 55 = true ∧ calleeOk X.P 61 = true ∧ X.P.underlying 4 = some TypeDesc.bool ∧ X.P.underlying 79 = some (TypeDesc.slice 89) ∧ elemSz X.P 79 = some (89, 5) ∧ calleeOk X.P 62 = true ∧ fieldOff X.P 89 1 = some 2 ∧ aggOf X.P 22 = some false ∧ szOf X.P 22 = some 1 := by rw [hP]; exact ⟨Ty.co44, Ty.co52, Ty.ag96, Ty.sz96, Ty.co46, Ty.ze89, Ty.sz89, Ty.fo89_0, Ty.ag26, Ty.sz26, Ty.ei79, Ty.is79, Ty.co54, Ty.co57, Ty.co58, Ty.co59, Ty.co56, Ty.ag89, Ty.co53, Ty.co60, Ty.co55, Ty.co61, Tryd.underlying4, Tryd.underlying79, Ty.el79, Ty.co62, Ty.fo89_1, Ty.ag22, Ty.sz22⟩
      simp only [GA, ↓GB, List.filterMap_cons, eq_self, BEq.rfl, simprocAttr] at hbl ⊢
      have hKF := hG
      clear hG
      have hG := hKF.g
      repeat' (first
        | (refine SX.reg3 (id := 8) rfl rfl rfl ?_; simp only [GA, ↓GB, List.filterMap_cons, eq_self, BEq.rfl, simprocAttr, hnt, hT])
        | (simp only [ne_eq, not_true_eq_false, or_self] at hb)
        | (refine SX.seqK ?_; intro N hN)
        | ((first | (refine SX.ops ?_) | (refine SX.planT (id := 15) [.s 0, .s 1, .q [(2, [13, 68]), (3, [15, 68]), (4, [69, 70, 68]), (5, [68, 71]), (6, [72]), (7, [14, 73]), (8, [16, 73]), (9, [74, 75, 73]), (10, [73, 76]), (11, [77]), (12, [17, 78]), (13, [78, 79]), (14, [80]), (15, [18, 81]), (16, [81, 82]), (17, [83]), (18, [19, 84]), (19, [84, 85]), (20, [86]), (21, [20, 87]), (22, [87, 88]), (23, [89]), (24, [10, 90]), (25, [91, 90]), (26, [92, 90]), (27, [93, 90]), (28, [11, 94]), (29, [10, 94]), (30, [96, 94]), (31, [97, 94]), (32, [95, 98, 94]), (33, [11, 94]), (34, [100, 94]), (35, [10, 94]), (36, [102, 94]), (37, [103, 94]), (38, [104, 94]), (39, [101, 105, 94]), (40, [99, 106, 94]), (41, [94, 107, 90]), (42, [90, 108]), (43, [109])] none] ?_ ?_ ?_; (focus first | (rw [hP]; kernel_rfl) | (rw [hU1P, hP]; kernel_rfl)); (focus kernel_rfl))); simp only [GA, ↓GB, List.filterMap_cons, eq_self, BEq.rfl, simprocAttr, hnt, hT, hl0])
        | (refine SX.hold (id := 12) 110 [0, 3] [(1, [11]), (4, [11])] 2 [54] [51, 54] [] [.s 5, .s 6, .s 7] ?_ hnt ?_ ?_; (focus rw [hP]; kernel_rfl); (focus kernel_rfl); simp only [GA, ↓GB, List.filterMap_cons, eq_self, BEq.rfl, simprocAttr, hnt, hT, vHold, vfs, killL, agL, agT, closedS, closedC_n, closedC_v, List.cons_append, List.nil_append, hl0])
        | (refine SX.hold (id := 13) 110 [0, 3] [(1, [6]), (4, [6])] 2 [61] [58, 61] [] [.s 5, .s 6, .s 7] ?_ hnt ?_ ?_; (focus rw [hP]; kernel_rfl); (focus kernel_rfl); simp only [GA, ↓GB, List.filterMap_cons, eq_self, BEq.rfl, simprocAttr, hnt, hT, vHold, vfs, killL, agL, agT, closedS, closedC_n, closedC_v, List.cons_append, List.nil_append, hl0])
        | ((first | refine SX.skip ?_ | refine SX.exit ?_ | refine SX.label ?_); try simp only [GA, ↓GB, List.filterMap_cons, eq_self, BEq.rfl, simprocAttr])
        | (refine SX.cond rfl (fun hb => ?_) (fun hb => ?_) <;> ((first | cases hb | (simp only [decide_eq_true_eq, decide_eq_false_iff_not, beq_iff_eq, beq_eq_false_iff_ne, bne_iff_ne, Bool.and_eq_true, Bool.or_eq_true, Bool.not_eq_true', Bool.not_eq_false', Bool.and_eq_false_iff, Bool.or_eq_false_iff, Int.not_lt, Int.not_le] at hb) | skip) <;> (first | (exfalso; omega) | skip)))
        | (refine SX.ret ?_; try simp only [GA, ↓GB, List.filterMap_cons, eq_self, BEq.rfl, simprocAttr])
        | (refine hN _ ?_; clear hN N)
        | ((first | refine hK _ _ (FinI.ret3 ?_) | refine hK _ _ (FinI.nrm3 ?_)); simp only [GA, ↓GB, List.filterMap_cons, eq_self, BEq.rfl, simprocAttr, finP_s, hnt, hT, hl0]; refine Done.out ?_)
        | (clear hN N; first | (refine hN _ ?_; clear hN N) | (clear hN N; first | (refine hN _ ?_; clear hN N) | (clear hN N; first | (refine hN _ ?_; clear hN N) | (clear hN N; first | (refine hN _ ?_; clear hN N) | (clear hN N; first | (refine hN _ ?_; clear hN N) | (refine hN _ ?_; clear hN N))))))
        | (refine bif2.mk (fun hb => ?_) (fun hb => ?_) <;> (try simp only [hb, GA, ↓GB, List.filterMap_cons, eq_self, BEq.rfl, simprocAttr, hnt, hT, hl0]) <;> ((first | cases hb | (simp only [decide_eq_true_eq, decide_eq_false_iff_not, beq_iff_eq, beq_eq_false_iff_ne, bne_iff_ne, Bool.and_eq_true, Bool.or_eq_true, Bool.not_eq_true', Bool.not_eq_false', Bool.and_eq_false_iff, Bool.or_eq_false_iff, Int.not_lt, Int.not_le] at hb) | skip) <;> (first | (exfalso; omega) | skip)))
        | ((first | (refine Ctr.use (hex) hP hG [] ?_ rfl rfl ?_; (focus (refine LeR.of rfl trivial ?_ ?_ ?_ ?_ ?_ <;> first | decide | (simp only [GA, ↓GB, List.filterMap_cons, eq_self, BEq.rfl, simprocAttr, List.getD_cons_zero, List.getD_cons_succ, or_false, false_or, or_self, or_true, true_or, decide_true]; done))); intro os' s hR; obtain ⟨rfl, rfl⟩ := hR) | (refine CtrF.use (ht) hP (fun X' hU => hKF.f.under hU) [] ?_ rfl rfl ?_; (focus (refine LeR.of rfl trivial ?_ ?_ ?_ ?_ ?_ <;> first | decide | (simp only [GA, ↓GB, List.filterMap_cons, eq_self, BEq.rfl, simprocAttr, List.getD_cons_zero, List.getD_cons_succ, or_false, false_or, or_self, or_true, true_or, decide_true]; done))); intro os' s hR; obtain ⟨rfl, rfl⟩ := hR) | (refine CallVC.pa hP (hth) rfl ?_) | (refine CallQ.pa hP (hth) rfl ?_) | (refine Ctr.use (hfi) hP ?_ [2] ?_ rfl rfl ?_; (focus (intro p hp; cases hp)); (focus (refine LeR.of rfl trivial ?_ ?_ ?_ ?_ ?_ <;> first | decide | (simp only [GA, ↓GB, List.filterMap_cons, eq_self, BEq.rfl, simprocAttr, List.getD_cons_zero, List.getD_cons_succ, or_false, false_or, or_self, or_true, true_or, decide_true]; done))); intro os' s hR; obtain ⟨rfl, rfl⟩ := hR) | (refine Ctr.use (hrf) hP ?_ [2] ?_ rfl rfl ?_; (focus (intro p hp; cases hp)); (focus (refine LeR.of rfl trivial ?_ ?_ ?_ ?_ ?_ <;> first | decide | (simp only [GA, ↓GB, List.filterMap_cons, eq_self, BEq.rfl, simprocAttr, List.getD_cons_zero, List.getD_cons_succ, or_false, false_or, or_self, or_true, true_or, decide_true]; done))); intro os' s hR; obtain ⟨rfl, rfl⟩ := hR) | (refine Ctr.use (hso) hP ?_ [2] ?_ rfl rfl ?_; (focus (intro p hp; cases hp)); (focus (refine LeR.of rfl trivial ?_ ?_ ?_ ?_ ?_ <;> first | decide | (simp only [GA, ↓GB, List.filterMap_cons, eq_self, BEq.rfl, simprocAttr, List.getD_cons_zero, List.getD_cons_succ, or_false, false_or, or_self, or_true, true_or, decide_true]; done))); intro os' s hR; obtain ⟨rfl, rfl⟩ := hR) | (refine Ctr.use (hrso) hP ?_ [2] ?_ rfl rfl ?_; (focus (intro p hp; cases hp)); (focus (refine LeR.of rfl trivial ?_ ?_ ?_ ?_ ?_ <;> first | decide | (simp only [GA, ↓GB, List.filterMap_cons, eq_self, BEq.rfl, simprocAttr, List.getD_cons_zero, List.getD_cons_succ, or_false, false_or, or_self, or_true, true_or, decide_true]; done))); intro os' s hR; obtain ⟨rfl, rfl⟩ := hR) | (refine Ctr.use (hset) hP ?_ [2] ?_ rfl rfl ?_; (focus (intro p hp; cases hp)); (focus (refine LeR.of rfl trivial ?_ ?_ ?_ ?_ ?_ <;> first | decide | (simp only [GA, ↓GB, List.filterMap_cons, eq_self, BEq.rfl, simprocAttr, List.getD_cons_zero, List.getD_cons_succ, or_false, false_or, or_self, or_true, true_or, decide_true]; done))); intro os' s hR; obtain ⟨rfl, rfl⟩ := hR) | (refine Ctr.use (hrset) hP ?_ [2] ?_ rfl rfl ?_; (focus (intro p hp; cases hp)); (focus (refine LeR.of rfl trivial ?_ ?_ ?_ ?_ ?_ <;> first | decide | (simp only [GA, ↓GB, List.filterMap_cons, eq_self, BEq.rfl, simprocAttr, List.getD_cons_zero, List.getD_cons_succ, or_false, false_or, or_self, or_true, true_or, decide_true]; done))); intro os' s hR; obtain ⟨rfl, rfl⟩ := hR) | (refine Ctr.use (hcut) hP ?_ [2] ?_ rfl rfl ?_; (focus (intro p hp; cases hp)); (focus (refine LeR.of rfl trivial ?_ ?_ ?_ ?_ ?_ <;> first | decide | (simp only [GA, ↓GB, List.filterMap_cons, eq_self, BEq.rfl, simprocAttr, List.getD_cons_zero, List.getD_cons_succ, or_false, false_or, or_self, or_true, true_or, decide_true]; done))); intro os' s hR; obtain ⟨rfl, rfl⟩ := hR) | (refine Ctr.use (hrcut) hP ?_ [2] ?_ rfl rfl ?_; (focus (intro p hp; cases hp)); (focus (refine LeR.of rfl trivial ?_ ?_ ?_ ?_ ?_ <;> first | decide | (simp only [GA, ↓GB, List.filterMap_cons, eq_self, BEq.rfl, simprocAttr, List.getD_cons_zero, List.getD_cons_succ, or_false, false_or, or_self, or_true, true_or, decide_true]; done))); intro os' s hR; obtain ⟨rfl, rfl⟩ := hR) | (refine Ctr.use (hab) hP ?_ [8,9] ?_ rfl rfl ?_; (focus (intro p hp; cases hp)); (focus (refine LeR.of rfl trivial ?_ ?_ ?_ ?_ ?_ <;> first | decide | (simp only [GA, ↓GB, List.filterMap_cons, eq_self, BEq.rfl, simprocAttr, List.getD_cons_zero, List.getD_cons_succ, or_false, false_or, or_self, or_true, true_or, decide_true]; done))); intro os' s hR; obtain ⟨rfl, rfl⟩ := hR) | (refine Ctr.use (hac) hP ?_ [10,11] ?_ rfl rfl ?_; (focus (intro p hp; cases hp)); (focus (refine LeR.of rfl trivial ?_ ?_ ?_ ?_ ?_ <;> first | decide | (simp only [GA, ↓GB, List.filterMap_cons, eq_self, BEq.rfl, simprocAttr, List.getD_cons_zero, List.getD_cons_succ, or_false, false_or, or_self, or_true, true_or, decide_true]; done))); intro os' s hR; obtain ⟨rfl, rfl⟩ := hR) | (refine Ctr.use (had) hP ?_ [12,13] ?_ rfl rfl ?_; (focus (intro p hp; cases hp)); (focus (refine LeR.of rfl trivial ?_ ?_ ?_ ?_ ?_ <;> first | decide | (simp only [GA, ↓GB, List.filterMap_cons, eq_self, BEq.rfl, simprocAttr, List.getD_cons_zero, List.getD_cons_succ, or_false, false_or, or_self, or_true, true_or, decide_true]; done))); intro os' s hR; obtain ⟨rfl, rfl⟩ := hR) | (refine Ctr.use (haa) hP ?_ [2,5] ?_ rfl rfl ?_; (focus (intro p hp; cases hp)); (focus (refine LeR.of rfl trivial ?_ ?_ ?_ ?_ ?_ <;> first | decide | (simp only [GA, ↓GB, List.filterMap_cons, eq_self, BEq.rfl, simprocAttr, List.getD_cons_zero, List.getD_cons_succ, or_false, false_or, or_self, or_true, true_or, decide_true]; done))); intro os' s hR; obtain ⟨rfl, rfl⟩ := hR) | (refine CallVC.pv hP (newer_any r (aa.getD 0 default)) rfl ?_) | (refine CallQ.pv hP (newer_any r (aa.getD 0 default)) rfl ?_)); simp only [GA, ↓GB, List.filterMap_cons, eq_self, BEq.rfl, simprocAttr, hnt, hT, hl0])
        | (show VO X _ _ _; refine VO.appendNilRow (j := 2) (e' := 89) (ys := mks aa) rfl rfl (by rw [hP]; exact elemR) rfl (mks_one _) (by simp only [maxLen]; omega) (by omega) ?_; simp only [GA, ↓GB, List.filterMap_cons, eq_self, BEq.rfl, simprocAttr, hnt, hT])
        | (refine ⟨_, strEq_to hP (Ty.eqS89 _ _ _ _ _ _ _ _ _ _), ?_⟩)
        | (show closedC _ = true; rfl)
        | (refine ⟨(aa.getD 0 default).cells, rfl, mks_at0 _ (by omega), ?_⟩ <;> simp only [Rs.cells, GA, ↓GB, List.filterMap_cons, eq_self, BEq.rfl, simprocAttr, hnt, hT])
        | (refine ⟨_, mks_q0 _ (by omega), ?_⟩ <;> simp only [GA, ↓GB, List.filterMap_cons, eq_self, BEq.rfl, simprocAttr, hnt, hT])
        | (refine SX.block ?_)
        | (refine and_mk ?_ ?_; (focus first | decide | omega | rfl | assumption | (simp only [List.length_append, List.length_cons, List.length_nil, B_size]; omega) | (simp; done)))
        | (refine And.intro ?_ ?_))
      all_goals (try refine Done.mk ?_)
      all_goals first | ((refine hN0 _ _ ⟨[], _, _, ?_, ?_, ?_, ⟨rfl, rfl⟩⟩; (focus exact LeR.of rfl trivial (by simp only [GA, ↓GB, List.filterMap_cons, eq_self, BEq.rfl, simprocAttr, List.getD_cons_zero, List.getD_cons_succ, or_false, false_or, or_self, or_true, true_or, decide_true]) (by decide) rfl rfl rfl); rotate_left; (focus rfl)); rfl) | ((refine hN0 _ _ ⟨[], _, _, ?_, ?_, ?_, ⟨rfl, rfl⟩⟩; (focus exact LeR.of rfl trivial (by simp only [GA, ↓GB, List.filterMap_cons, eq_self, BEq.rfl, simprocAttr, List.getD_cons_zero, List.getD_cons_succ, or_false, false_or, or_self, or_true, true_or, decide_true]) (by decide) rfl rfl rfl); rotate_left; (focus rfl)); simp; done)
    · have hl0 : ((aa.length : Int) == 0) = false := beq_eq_false_iff_ne.2 (by omega)
      refine CtrF.less ?_
      intro X0 hP0 hG0 N0 hN0
      refine CallVC.inline (f := 15) (by rw [hP0]; exact Tryd.func15) rfl Tryd.ntmps15 rfl (by simp) ?_
      intro X K hU hnt hbl hK
      have hP : X.P = Tryd.prog := by rw [hU.P, hP0]
      have hG := hG0.under hU
      have hT : calleeOk X.P 44 = true ∧ calleeOk X.P 52 = true ∧ aggOf X.P 96 = some true ∧ szOf X.P 96 = some 7 ∧ calleeOk X.P 46 = true ∧ zeroCells X.P 89 = some [(Value.int IntKind.i64 0), (Value.string { data := #[] }), (Value.int IntKind.u64 0), (Value.bool false), (Value.string { data := #[] })] ∧ szOf X.P 89 = some 5 ∧ fieldOff X.P 89 0 = some 0 ∧ aggOf X.P 26 = some true ∧ szOf X.P 26 = some 2 ∧ elemInf X.P 79 = some (89, 5, 56, (Value.agg #[(Value.int IntKind.i64 0), (Value.string { data := #[] }), (Value.int IntKind.u64 0), (Value.bool false), (Value.string { data := #[] })])) ∧ isStrT X.P 79 = false ∧ calleeOk X.P 54 = true ∧ calleeOk X.P 57 = true ∧ calleeOk X.P 58 = true ∧ calleeOk X.P 59 = true ∧ calleeOk X.P 56 = true ∧ aggOf X.P 89 = some true ∧ calleeOk X.P 53 = true ∧ calleeOk X.P 60 = true ∧ calleeOk X.P 55 = true ∧ calleeOk X.P 61 = true ∧ X.P.underlying 4 = some TypeDesc.bool ∧ X.P.underlying 79 = some (TypeDesc.slice 89) ∧ elemSz X.P 79 = some (89, 5) ∧ calleeOk X.P 62 = true ∧ fieldOff X.P 89 1 = some 2 ∧ aggOf X.P 22 = some false ∧ szOf X.P 22 = some 1 := by rw [hP]; exact ⟨Ty.co44, Ty.co52, Ty.ag96, Ty.sz96, Ty.co46, Ty.ze89, Ty.sz89, Ty.fo89_0, Ty.ag26, Ty.sz26, Ty.ei79, Ty.is79, Ty.co54, Ty.co57, Ty.co58, Ty.co59, Ty.co56, Ty.ag89, Ty.co53, Ty.co60, Ty.co55, Ty.co61, Tryd.underlying4, Tryd.underlying79, Ty.el79, Ty.co62, Ty.fo89_1, Ty.ag22, Ty.sz22⟩
      simp only [GA, ↓GB, List.filterMap_cons, eq_self, BEq.rfl, simprocAttr] at hbl ⊢
      have hKF := hG
      clear hG
      have hG := hKF.g
      repeat' (first
        | (refine SX.reg3 (id := 8) rfl rfl rfl ?_; simp only [GA, ↓GB, List.filterMap_cons, eq_self, BEq.rfl, simprocAttr, hnt, hT])
        | (simp only [ne_eq, not_true_eq_false, or_self] at hb)
        | (refine SX.seqK ?_; intro N hN)
        | ((first | (refine SX.ops ?_) | (refine SX.planT (id := 15) [.s 0, .s 1, .q [(2, [13, 68]), (3, [15, 68]), (4, [69, 70, 68]), (5, [68, 71]), (6, [72]), (7, [14, 73]), (8, [16, 73]), (9, [74, 75, 73]), (10, [73, 76]), (11, [77]), (12, [17, 78]), (13, [78, 79]), (14, [80]), (15, [18, 81]), (16, [81, 82]), (17, [83]), (18, [19, 84]), (19, [84, 85]), (20, [86]), (21, [20, 87]), (22, [87, 88]), (23, [89]), (24, [10, 90]), (25, [91, 90]), (26, [92, 90]), (27, [93, 90]), (28, [11, 94]), (29, [10, 94]), (30, [96, 94]), (31, [97, 94]), (32, [95, 98, 94]), (33, [11, 94]), (34, [100, 94]), (35, [10, 94]), (36, [102, 94]), (37, [103, 94]), (38, [104, 94]), (39, [101, 105, 94]), (40, [99, 106, 94]), (41, [94, 107, 90]), (42, [90, 108]), (43, [109])] none] ?_ ?_ ?_; (focus first | (rw [hP]; kernel_rfl) | (rw [hU1P, hP]; kernel_rfl)); (focus kernel_rfl))); simp only [GA, ↓GB, List.filterMap_cons, eq_self, BEq.rfl, simprocAttr, hnt, hT, hl0])
        | (refine SX.hold (id := 12) 110 [0, 3] [(1, [11]), (4, [11])] 2 [54] [51, 54] [] [.s 5, .s 6, .s 7] ?_ hnt ?_ ?_; (focus rw [hP]; kernel_rfl); (focus kernel_rfl); simp only [GA, ↓GB, List.filterMap_cons, eq_self, BEq.rfl, simprocAttr, hnt, hT, vHold, vfs, killL, agL, agT, closedS, closedC_n, closedC_v, List.cons_append, List.nil_append, hl0])
        | (refine SX.hold (id := 13) 110 [0, 3] [(1, [6]), (4, [6])] 2 [61] [58, 61] [] [.s 5, .s 6, .s 7] ?_ hnt ?_ ?_; (focus rw [hP]; kernel_rfl); (focus kernel_rfl); simp only [GA, ↓GB, List.filterMap_cons, eq_self, BEq.rfl, simprocAttr, hnt, hT, vHold, vfs, killL, agL, agT, closedS, closedC_n, closedC_v, List.cons_append, List.nil_append, hl0])
        | ((first | refine SX.skip ?_ | refine SX.exit ?_ | refine SX.label ?_); try simp only [GA, ↓GB, List.filterMap_cons, eq_self, BEq.rfl, simprocAttr])
        | (refine SX.cond rfl (fun hb => ?_) (fun hb => ?_) <;> ((first | cases hb | (simp only [decide_eq_true_eq, decide_eq_false_iff_not, beq_iff_eq, beq_eq_false_iff_ne, bne_iff_ne, Bool.and_eq_true, Bool.or_eq_true, Bool.not_eq_true', Bool.not_eq_false', Bool.and_eq_false_iff, Bool.or_eq_false_iff, Int.not_lt, Int.not_le] at hb) | skip) <;> (first | (exfalso; omega) | skip)))
        | (refine SX.ret ?_; try simp only [GA, ↓GB, List.filterMap_cons, eq_self, BEq.rfl, simprocAttr])
        | (refine hN _ ?_; clear hN N)
        | ((first | refine hK _ _ (FinI.ret3 ?_) | refine hK _ _ (FinI.nrm3 ?_)); simp only [GA, ↓GB, List.filterMap_cons, eq_self, BEq.rfl, simprocAttr, finP_s, hnt, hT, hl0]; refine Done.out ?_)
        | (clear hN N; first | (refine hN _ ?_; clear hN N) | (clear hN N; first | (refine hN _ ?_; clear hN N) | (clear hN N; first | (refine hN _ ?_; clear hN N) | (clear hN N; first | (refine hN _ ?_; clear hN N) | (clear hN N; first | (refine hN _ ?_; clear hN N) | (refine hN _ ?_; clear hN N))))))
        | (refine bif2.mk (fun hb => ?_) (fun hb => ?_) <;> (try simp only [hb, GA, ↓GB, List.filterMap_cons, eq_self, BEq.rfl, simprocAttr, hnt, hT, hl0]) <;> ((first | cases hb | (simp only [decide_eq_true_eq, decide_eq_false_iff_not, beq_iff_eq, beq_eq_false_iff_ne, bne_iff_ne, Bool.and_eq_true, Bool.or_eq_true, Bool.not_eq_true', Bool.not_eq_false', Bool.and_eq_false_iff, Bool.or_eq_false_iff, Int.not_lt, Int.not_le] at hb) | skip) <;> (first | (exfalso; omega) | skip)))
        | ((first | (refine Ctr.use (hex) hP hG [] ?_ rfl rfl ?_; (focus (refine LeR.of rfl trivial ?_ ?_ ?_ ?_ ?_ <;> first | decide | (simp only [GA, ↓GB, List.filterMap_cons, eq_self, BEq.rfl, simprocAttr, List.getD_cons_zero, List.getD_cons_succ, or_false, false_or, or_self, or_true, true_or, decide_true]; done))); intro os' s hR; obtain ⟨rfl, rfl⟩ := hR) | (refine CtrF.use (ht) hP (fun X' hU => hKF.f.under hU) [] ?_ rfl rfl ?_; (focus (refine LeR.of rfl trivial ?_ ?_ ?_ ?_ ?_ <;> first | decide | (simp only [GA, ↓GB, List.filterMap_cons, eq_self, BEq.rfl, simprocAttr, List.getD_cons_zero, List.getD_cons_succ, or_false, false_or, or_self, or_true, true_or, decide_true]; done))); intro os' s hR; obtain ⟨rfl, rfl⟩ := hR) | (refine CallVC.pa hP (hth) rfl ?_) | (refine CallQ.pa hP (hth) rfl ?_) | (refine Ctr.use (hfi) hP ?_ [2] ?_ rfl rfl ?_; (focus (intro p hp; cases hp)); (focus (refine LeR.of rfl trivial ?_ ?_ ?_ ?_ ?_ <;> first | decide | (simp only [GA, ↓GB, List.filterMap_cons, eq_self, BEq.rfl, simprocAttr, List.getD_cons_zero, List.getD_cons_succ, or_false, false_or, or_self, or_true, true_or, decide_true]; done))); intro os' s hR; obtain ⟨rfl, rfl⟩ := hR) | (refine Ctr.use (hrf) hP ?_ [2] ?_ rfl rfl ?_; (focus (intro p hp; cases hp)); (focus (refine LeR.of rfl trivial ?_ ?_ ?_ ?_ ?_ <;> first | decide | (simp only [GA, ↓GB, List.filterMap_cons, eq_self, BEq.rfl, simprocAttr, List.getD_cons_zero, List.getD_cons_succ, or_false, false_or, or_self, or_true, true_or, decide_true]; done))); intro os' s hR; obtain ⟨rfl, rfl⟩ := hR) | (refine Ctr.use (hso) hP ?_ [2] ?_ rfl rfl ?_; (focus (intro p hp; cases hp)); (focus (refine LeR.of rfl trivial ?_ ?_ ?_ ?_ ?_ <;> first | decide | (simp only [GA, ↓GB, List.filterMap_cons, eq_self, BEq.rfl, simprocAttr, List.getD_cons_zero, List.getD_cons_succ, or_false, false_or, or_self, or_true, true_or, decide_true]; done))); intro os' s hR; obtain ⟨rfl, rfl⟩ := hR) | (refine Ctr.use (hrso) hP ?_ [2] ?_ rfl rfl ?_; (focus (intro p hp; cases hp)); (focus (refine LeR.of rfl trivial ?_ ?_ ?_ ?_ ?_ <;> first | decide | (simp only [GA, ↓GB, List.filterMap_cons, eq_self, BEq.rfl, simprocAttr, List.getD_cons_zero, List.getD_cons_succ, or_false, false_or, or_self, or_true, true_or, decide_true]; done))); intro os' s hR; obtain ⟨rfl, rfl⟩ := hR) | (refine Ctr.use (hset) hP ?_ [2] ?_ rfl rfl ?_; (focus (intro p hp; cases hp)); (focus (refine LeR.of rfl trivial ?_ ?_ ?_ ?_ ?_ <;> first | decide | (simp only [GA, ↓GB, List.filterMap_cons, eq_self, BEq.rfl, simprocAttr, List.getD_cons_zero, List.getD_cons_succ, or_false, false_or, or_self, or_true, true_or, decide_true]; done))); intro os' s hR; obtain ⟨rfl, rfl⟩ := hR) | (refine Ctr.use (hrset) hP ?_ [2] ?_ rfl rfl ?_; (focus (intro p hp; cases hp)); (focus (refine LeR.of rfl trivial ?_ ?_ ?_ ?_ ?_ <;> first | decide | (simp only [GA, ↓GB, List.filterMap_cons, eq_self, BEq.rfl, simprocAttr, List.getD_cons_zero, List.getD_cons_succ, or_false, false_or, or_self, or_true, true_or, decide_true]; done))); intro os' s hR; obtain ⟨rfl, rfl⟩ := hR) | (refine Ctr.use (hcut) hP ?_ [2] ?_ rfl rfl ?_; (focus (intro p hp; cases hp)); (focus (refine LeR.of rfl trivial ?_ ?_ ?_ ?_ ?_ <;> first | decide | (simp only [GA, ↓GB, List.filterMap_cons, eq_self, BEq.rfl, simprocAttr, List.getD_cons_zero, List.getD_cons_succ, or_false, false_or, or_self, or_true, true_or, decide_true]; done))); intro os' s hR; obtain ⟨rfl, rfl⟩ := hR) | (refine Ctr.use (hrcut) hP ?_ [2] ?_ rfl rfl ?_; (focus (intro p hp; cases hp)); (focus (refine LeR.of rfl trivial ?_ ?_ ?_ ?_ ?_ <;> first | decide | (simp only [GA, ↓GB, List.filterMap_cons, eq_self, BEq.rfl, simprocAttr, List.getD_cons_zero, List.getD_cons_succ, or_false, false_or, or_self, or_true, true_or, decide_true]; done))); intro os' s hR; obtain ⟨rfl, rfl⟩ := hR) | (refine Ctr.use (hab) hP ?_ [8,9] ?_ rfl rfl ?_; (focus (intro p hp; cases hp)); (focus (refine LeR.of rfl trivial ?_ ?_ ?_ ?_ ?_ <;> first | decide | (simp only [GA, ↓GB, List.filterMap_cons, eq_self, BEq.rfl, simprocAttr, List.getD_cons_zero, List.getD_cons_succ, or_false, false_or, or_self, or_true, true_or, decide_true]; done))); intro os' s hR; obtain ⟨rfl, rfl⟩ := hR) | (refine Ctr.use (hac) hP ?_ [10,11] ?_ rfl rfl ?_; (focus (intro p hp; cases hp)); (focus (refine LeR.of rfl trivial ?_ ?_ ?_ ?_ ?_ <;> first | decide | (simp only [GA, ↓GB, List.filterMap_cons, eq_self, BEq.rfl, simprocAttr, List.getD_cons_zero, List.getD_cons_succ, or_false, false_or, or_self, or_true, true_or, decide_true]; done))); intro os' s hR; obtain ⟨rfl, rfl⟩ := hR) | (refine Ctr.use (had) hP ?_ [12,13] ?_ rfl rfl ?_; (focus (intro p hp; cases hp)); (focus (refine LeR.of rfl trivial ?_ ?_ ?_ ?_ ?_ <;> first | decide | (simp only [GA, ↓GB, List.filterMap_cons, eq_self, BEq.rfl, simprocAttr, List.getD_cons_zero, List.getD_cons_succ, or_false, false_or, or_self, or_true, true_or, decide_true]; done))); intro os' s hR; obtain ⟨rfl, rfl⟩ := hR) | (refine Ctr.use (haa) hP ?_ [2,5] ?_ rfl rfl ?_; (focus (intro p hp; cases hp)); (focus (refine LeR.of rfl trivial ?_ ?_ ?_ ?_ ?_ <;> first | decide | (simp only [GA, ↓GB, List.filterMap_cons, eq_self, BEq.rfl, simprocAttr, List.getD_cons_zero, List.getD_cons_succ, or_false, false_or, or_self, or_true, true_or, decide_true]; done))); intro os' s hR; obtain ⟨rfl, rfl⟩ := hR) | (refine CallVC.pv hP (newer_any r (aa.getD 0 default)) rfl ?_) | (refine CallQ.pv hP (newer_any r (aa.getD 0 default)) rfl ?_)); simp only [GA, ↓GB, List.filterMap_cons, eq_self, BEq.rfl, simprocAttr, hnt, hT, hl0])
        | (show VO X _ _ _; refine VO.appendNilRow (j := 2) (e' := 89) (ys := mks aa) rfl rfl (by rw [hP]; exact elemR) rfl (mks_one _) (by simp only [maxLen]; omega) (by omega) ?_; simp only [GA, ↓GB, List.filterMap_cons, eq_self, BEq.rfl, simprocAttr, hnt, hT])
        | (refine ⟨_, strEq_to hP (Ty.eqS89 _ _ _ _ _ _ _ _ _ _), ?_⟩)
        | (show closedC _ = true; rfl)
        | (refine ⟨(aa.getD 0 default).cells, rfl, mks_at0 _ (by omega), ?_⟩ <;> simp only [Rs.cells, GA, ↓GB, List.filterMap_cons, eq_self, BEq.rfl, simprocAttr, hnt, hT])
        | (refine ⟨_, mks_q0 _ (by omega), ?_⟩ <;> simp only [GA, ↓GB, List.filterMap_cons, eq_self, BEq.rfl, simprocAttr, hnt, hT])
        | (refine SX.block ?_)
        | (refine and_mk ?_ ?_; (focus first | decide | omega | rfl | assumption | (simp only [List.length_append, List.length_cons, List.length_nil, B_size]; omega) | (simp; done)))
        | (refine And.intro ?_ ?_))
      all_goals (try refine Done.mk ?_)
      all_goals first | ((refine hN0 _ _ ⟨[], _, _, ?_, ?_, ?_, ⟨rfl, rfl⟩⟩; (focus exact LeR.of rfl trivial (by simp only [GA, ↓GB, List.filterMap_cons, eq_self, BEq.rfl, simprocAttr, List.getD_cons_zero, List.getD_cons_succ, or_false, false_or, or_self, or_true, true_or, decide_true]) (by decide) rfl rfl rfl); rotate_left; (focus rfl)); rfl) | ((refine hN0 _ _ ⟨[], _, _, ?_, ?_, ?_, ⟨rfl, rfl⟩⟩; (focus exact LeR.of rfl trivial (by simp only [GA, ↓GB, List.filterMap_cons, eq_self, BEq.rfl, simprocAttr, List.getD_cons_zero, List.getD_cons_succ, or_false, false_or, or_self, or_true, true_or, decide_true]) (by decide) rfl rfl rfl); rotate_left; (focus rfl)); simp; done)
end Go.Proofs.YtbdacbcpniegiaaDoor.Q
namespace Go.Proofs.YtbdacbcpniegiaaDoor.Q
open Go Go.RowKit Go.Proofs Go.Sx
set_option maxHeartbeats 4000000
set_option maxRecDepth 100000
set_option linter.unusedSimpArgs false
set_option linter.unusedVariables false
theorem lists_any (xs : List Th) (q : Option Addr) (cap : Nat) (x : Th) (hx : x.Ok) (kt : Int) (ks : List UInt8) (k0 : -9223372036854775808 ≤ kt) (k1 : kt < 9223372036854775808) (kl : ks.length ≤ 9223372036854775807) (own : Bool) (w : World) (ho : ∀ x ∈ xs, x.Ok)
    (hc : ∀ i, i < xs.length → ∃ ad, q = some ad ∧ ∀ j v, (xs.getD i default).cells[j]? = some v → w.cell? (ad.add (i * 7 + j)) = some v) {e : EA} (he : e.Ok) (hG : ∀ p ∈ GW e, w.cell? p.1 = some p.2 ∧ loneStr w p) :
    Calls Tryd.prog 15 #[.slice q xs.length cap, .agg x.cells.toArray, .agg #[.int .i64 kt, .string (B ks)], .bool own] w fun x w' => x = .returned (.bool true) ∧ Below w.heap.size w w' := by
  have hctr := lists_ctr he xs q cap x kt ks own _ _ rfl
  obtain ⟨r, ow, nm⟩ := x
  refine (ctrF_calls hctr w (knF_in hG hc) (vals := [.slice q xs.length cap, .agg #[.int .i64 r.t, .string (B r.s), .int .u64 r.q, .bool r.g, .string (B r.b), .bool ow, .int .u8 nm], .agg #[.int .i64 kt, .string (B ks)], .bool own]) ⟨rfl, ⟨_, rfl, rfl, rfl, rfl, rfl, rfl, rfl, rfl, trivial⟩, ⟨_, rfl, rfl, rfl, trivial⟩, rfl, trivial⟩).mono ?_
  rintro x w' ⟨v, os', s, σ', rfl, ⟨rfl, rfl⟩, hd, hb⟩
  have hd : v = .bool true := hd
  subst hd
  exact ⟨rfl, hb⟩
end Go.Proofs.YtbdacbcpniegiaaDoor.Q
