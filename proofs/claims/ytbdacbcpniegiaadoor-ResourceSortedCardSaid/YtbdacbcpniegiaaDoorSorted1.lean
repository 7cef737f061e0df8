/- Own work: a part of the symbolic executor and of the walks of the functions that the claim reaches. -/
import Derived.Test.YtbdacbcpniegiaaDoorBase4
namespace Go.Sx
open Go Go.RowKit
def CtrF (P : Program) (F : Ctx → Prop) (f : FuncId) (os : List LO) (args : List SV) (R : List LO → SV → Prop) : Prop :=
  ∀ X : Ctx, X.P = P → F X → ∀ N : Cfg → SV → Prop, (∀ os' s, R os' s → N ⟨[], os'⟩ s) → CallVC X ⟨[], os⟩ f args N
theorem CtrF.use {X : Ctx} {c : Cfg} {P : Program} {F : Ctx → Prop} {f : FuncId} {os : List LO} {args args' : List SV} {R : List LO → SV → Prop} {N : Cfg → SV → Prop} (h : CtrF P F f os args R) (hP : X.P = P) (hF : ∀ X', Under X X' → F X') (sel : List Nat)
    (hle : LeR 0 sel ⟨[], os⟩ c) (ha' : args' = args.map (SV.ren sel)) (hok : (args.all fun s => s.okB sel.length) = true)
    (hN : ∀ os' s, R os' s → N { env := c.env, loc := patchL c.loc sel (selN c.loc.length sel os') os' } (s.ren (selN c.loc.length sel os'))) : CallVC X c f args' N := by
  refine CallVC.frame sel (Q := fun c' s => R c'.loc s) (fun X' hU => h X' (by rw [hU.P, hP]) (hF X' hU) _ (fun os s hr => hr)) hle ha' hok (fun c' s hq => ?_)
  have := hN c'.loc s hq
  rw [selN_eq] at this
  exact this
theorem CtrF.less {P : Program} {F : Ctx → Prop} {f : FuncId} {os : List LO} {args : List SV} {R : List LO → SV → Prop}
    (h : CtrF P F f os args (fun os' r => ∃ sel os2 s2, LeR os.length sel ⟨[], os2⟩ ⟨[], os'⟩ ∧ r = s2.ren sel ∧ s2.okB sel.length = true ∧ R os2 s2)) : CtrF P F f os args R := by
  intro X hP hF N hN ρ σ a w hr vals ha
  have hb : X.base.length ≤ os.length := by
    have hl : σ.length = os.length := hr.lenS
    rcases Nat.lt_or_ge os.length X.base.length with h0 | h0
    · have := hr.pin os.length X.base[os.length] (by simp [h0])
      rw [List.getElem?_eq_none (by omega)] at this; cases this
    · exact h0
  refine (h X hP hF (fun c s => ∃ sel os2 s2, LeR os.length sel ⟨[], os2⟩ c ∧ s = s2.ren sel ∧ s2.okB sel.length = true ∧ R os2 s2) (fun os' s hR => hR) ρ σ a w hr vals ha).mono ?_
  rintro e w' ⟨v, c', ρ', σ', s, rfl, hr', hd, sel, os2, s2, hl, rfl, hok, hR⟩
  exact ⟨v, ⟨[], os2⟩, _, _, s2, rfl, Rel.leR ⟨fun i hi => hl.pin i (by omega), hl.env, hl.len, hl.loc, hl.nd, hl.lt, hl.okE, hl.okL⟩ hr', DV.ren hok hd, hN _ _ hR⟩
end Go.Sx
namespace Go.Proofs.YtbdacbcpniegiaaDoor.Q
open Go Go.RowKit Go.Proofs Go.Sx
set_option maxHeartbeats 8000000
set_option maxRecDepth 100000
set_option linter.unusedSimpArgs false
set_option linter.unusedVariables false
theorem add_block (ad : Addr) (i : Nat) : (ad.add i).block = ad.block := by unfold Addr.add; split <;> rfl
def FarT (X : Ctx) (q : Option Addr) (xs : List Th) : Prop := ∀ i, i < xs.length → ∃ ad : Addr, q = some ad ∧ ad.block ∉ X.own ∧ ∀ j v, (xs.getD i default).cells[j]? = some v → X.wi.cell? ((ad.add (i * 7)).add j) = some v
theorem FarT.under {X X' : Ctx} {q : Option Addr} {xs : List Th} (h : FarT X q xs) (hU : Under X X') : FarT X' q xs := fun i hi => by
  obtain ⟨ad, e, ho, hc⟩ := h i hi
  have hb : ∀ j, ((ad.add (i * 7)).add j).block = ad.block := fun j => by rw [add_block, add_block]
  have h0 : ∃ v, (xs.getD i default).cells[0]? = some v := ⟨_, rfl⟩
  obtain ⟨v, hv⟩ := h0
  refine ⟨ad, e, ?_, fun j v hj => (hU.cell (hc j v hj) (by rw [hb]; exact ho)).1⟩
  have := (hU.cell (hc 0 v hv) (by rw [hb]; exact ho)).2
  rwa [hb] at this
def thV (x : Th) : Rs := if x.own = true then thL x.r x.nm else x.r
theorem thing_any (x : Th) (w : World) : Calls Tryd.prog 46 #[.agg #[.int .i64 x.r.t, .string (B x.r.s), .int .u64 x.r.q, .bool x.r.g, .string (B x.r.b), .bool x.own, .int .u8 x.nm]] w
    fun y w' => y = .returned (.agg #[.int .i64 (thV x).t, .string (B (thV x).s), .int .u64 (thV x).q, .bool (thV x).g, .string (B (thV x).b)]) ∧ Below w.heap.size w w' := by
  obtain ⟨r, own, nm⟩ := x
  cases own with
  | false => exact thing_no r.t r.s r.b r.q r.g nm w
  | true => exact thing_yes r.t r.s r.b r.q r.g nm w
structure ThIn (X : Ctx) (ad : Addr) (i : Nat) (x : Th) : Prop where
  own : ad.block ∉ X.own
  cell : ∀ j v, x.cells[j]? = some v → X.wi.cell? ((ad.add (i * 7)).add j) = some v
theorem thBlk {X : Ctx} {code : Code} {c : Cfg} {K : Exit → Cfg → Prop} {id i : Nat} {q : Option Addr} {xs : List Th} (h : FarT X q xs) (hi : i < xs.length)
    (h1 : ∀ ad, q = some ad → ThIn X ad i (xs.getD i default) → SX X code c (bx id K)) : SX X (.block id code) c K := by
  refine SX.block ?_
  obtain ⟨ad, e, ho, hv⟩ := h i hi
  exact h1 ad e ⟨ho, hv⟩
theorem th_take {xs : List Th} {i : Nat} (hi : i < xs.length) : (xs.take (i + 1)).map thV = (xs.take i).map thV ++ [thV (xs.getD i default)] := by
  rw [List.take_add_one, List.getElem?_eq_getElem hi, List.getD_eq_getElem?_getD, List.getElem?_eq_getElem hi, List.map_append]; rfl
theorem mrow_snoc (ms : List Rs) (r : Rs) : LO.row 89 5 (ms.length + 1) (mks ms ++ [.int .i64 r.t, .string (B r.s), .int .u64 r.q, .bool r.g, .string (B r.b)]) = mrow (ms ++ [r]) := by
  simp only [mrow, List.length_append, List.length_cons, List.length_nil, mks_append]; rfl
theorem things_ctr (xs : List Th) (q : Option Addr) (cap most : Nat) (hm : most ≤ 100) : CtrF Tryd.prog (fun X => FarT X q xs) 52 [] [vv (.slice q xs.length cap), vv (.int .i64 most)] (fun os v => os = [mrow ((xs.take most).map thV)] ∧ v = .one (.c (.row 0))) := by
  refine CtrF.less ?_
  intro X0 hP0 hG0 N0 hN0
  refine CallVC.inline (f := 52) (by rw [hP0]; exact Tryd.func52) rfl Tryd.ntmps52 rfl (by simp) ?_
  intro X K hU hnt hbl hK
  have hP : X.P = Tryd.prog := by rw [hU.P, hP0]
  have hG := hG0.under hU
  have hT : X.P.underlying 106 = some (TypeDesc.slice 96) ∧ elemSz X.P 106 = some (96, 7) ∧ aggOf X.P 96 = some true ∧ szOf X.P 96 = some 7 ∧ calleeOk X.P 46 = true ∧ elemSz X.P 79 = some (89, 5) ∧ zeroCells X.P 89 = some [(Value.int IntKind.i64 0), (Value.string { data := #[] }), (Value.int IntKind.u64 0), (Value.bool false), (Value.string { data := #[] })] ∧ elemInf X.P 79 = some (89, 5, 56, (Value.agg #[(Value.int IntKind.i64 0), (Value.string { data := #[] }), (Value.int IntKind.u64 0), (Value.bool false), (Value.string { data := #[] })])) ∧ isStrT X.P 79 = false := by rw [hP]; exact ⟨Tryd.underlying106, Ty.el106, Ty.ag96, Ty.sz96, Ty.co46, Ty.el79, Ty.ze89, Ty.ei79, Ty.is79⟩
  simp only [GA, ↓GB, List.filterMap_cons, eq_self, BEq.rfl, simprocAttr] at hbl ⊢
  repeat' (first
    | (refine SX.asRow (t := 5) 89 5 rfl ⟨_, rfl⟩ ?_)
    | (refine thBlk (id := 1) (i := i) hG (by omega) (fun ad hE D => ?_) <;> subst hE)
    | (refine SX.seqK ?_; intro N hN)
    | ((first | (refine SX.ops ?_)); simp only [GA, ↓GB, List.filterMap_cons, eq_self, BEq.rfl, simprocAttr, hnt, hT])
    | ((first | refine SX.skip ?_ | refine SX.exit ?_ | refine SX.label ?_); try simp only [GA, ↓GB, List.filterMap_cons, eq_self, BEq.rfl, simprocAttr])
    | (refine SX.cond rfl (fun hb => ?_) (fun hb => ?_) <;> ((first | cases hb | (simp only [decide_eq_true_eq, decide_eq_false_iff_not, beq_iff_eq, beq_eq_false_iff_ne, bne_iff_ne, Bool.and_eq_true, Bool.or_eq_true, Bool.not_eq_true', Bool.not_eq_false', Bool.and_eq_false_iff, Bool.or_eq_false_iff, Int.not_lt, Int.not_le] at hb) | skip) <;> (first | (exfalso; omega) | skip)))
    | (refine SX.ret ?_; try simp only [GA, ↓GB, List.filterMap_cons, eq_self, BEq.rfl, simprocAttr])
    | (refine hN _ ?_; clear hN N)
    | ((first | refine hK _ _ (FinI.ret3 ?_) | refine hK _ _ (FinI.nrm3 ?_)); simp only [GA, ↓GB, List.filterMap_cons, eq_self, BEq.rfl, simprocAttr, finP_s, hnt, hT]; refine Done.out ?_)
    | (clear hN N; first | (refine hN _ ?_; clear hN N) | (clear hN N; first | (refine hN _ ?_; clear hN N) | (clear hN N; first | (refine hN _ ?_; clear hN N) | (clear hN N; first | (refine hN _ ?_; clear hN N) | (clear hN N; first | (refine hN _ ?_; clear hN N) | (refine hN _ ?_; clear hN N))))))
    | (refine bif2.mk (fun hb => ?_) (fun hb => ?_) <;> (try simp only [hb, GA, ↓GB, List.filterMap_cons, eq_self, BEq.rfl, simprocAttr, hnt, hT]) <;> ((first | cases hb | (simp only [decide_eq_true_eq, decide_eq_false_iff_not, beq_iff_eq, beq_eq_false_iff_ne, bne_iff_ne, Bool.and_eq_true, Bool.or_eq_true, Bool.not_eq_true', Bool.not_eq_false', Bool.and_eq_false_iff, Bool.or_eq_false_iff, Int.not_lt, Int.not_le] at hb) | skip) <;> (first | (exfalso; omega) | skip)))
    | ((first | (refine CallVC.pa hP (thing_any (xs.getD i default)) rfl ?_) | (refine CallQ.pa hP (thing_any (xs.getD i default)) rfl ?_)); simp only [GA, ↓GB, List.filterMap_cons, eq_self, BEq.rfl, simprocAttr, hnt, hT])
    | (refine ⟨(xs.getD i default).cells, rfl, D.cell, ?_⟩ <;> simp only [Th.cells, Rs.cells, List.map_cons, List.map_nil, List.cons_append, List.nil_append, GA, ↓GB, List.filterMap_cons, eq_self, BEq.rfl, simprocAttr, hnt, hT])
    | (exact D.own)
    | (refine SX.loop (ι := { i : Nat // i ≤ xs.length ∧ i ≤ most }) (fun i => ⟨[(0, vv (.slice q xs.length cap)), (1, vv (.int .i64 most)), (4, vv (.slice none 0 0)), (5, .one (.c (.row 0))), (6, vv (.int .i64 i.1))], [mrow ((xs.take i.1).map thV)]⟩) (fun i => xs.length - i.1) ⟨0, Nat.zero_le _, Nat.zero_le _⟩ ⟨[0], by (refine LeR.of ?_ ?_ ?_ ?_ ?_ ?_ ?_ <;> first | (rw [hbl]; decide) | decide | (simp only [GA, ↓GB, List.filterMap_cons, eq_self, BEq.rfl, simprocAttr, List.getD_cons_zero, List.getD_cons_succ, or_false, false_or, or_self, or_true, true_or, decide_true]; done) | (simp only [GA, ↓GB, List.filterMap_cons, eq_self, BEq.rfl, simprocAttr, List.getD_cons_zero, List.getD_cons_succ, or_false, false_or, or_self, or_true, true_or, decide_true]; rfl; done))⟩ ?_ <;> rintro ⟨i, hi, hi2⟩ <;> simp only [] at hi hi2 ⊢)
    | (refine SX.block ?_)
    | (refine and_mk ?_ ?_; (focus first | decide | omega | rfl | assumption | (simp only [List.length_append, List.length_cons, List.length_nil, B_size]; omega) | (simp; done)))
    | (refine And.intro ?_ ?_))
  all_goals (try refine Done.mk ?_)
  · rw [add_block]; exact D.own
  · simp only [List.length_map, List.length_take]; omega
  · have e := mrow_snoc ((xs.take i).map thV) (thV (xs.getD i default))
    rw [← th_take (by omega)] at e
    rw [e]
    exact ⟨⟨i + 1, by omega, by omega⟩, [2], by (refine LeR.of ?_ ?_ ?_ ?_ ?_ ?_ ?_ <;> first | (rw [hbl]; decide) | decide | (simp only [GA, ↓GB, List.filterMap_cons, eq_self, BEq.rfl, simprocAttr, List.getD_cons_zero, List.getD_cons_succ, or_false, false_or, or_self, or_true, true_or, decide_true]; done) | (simp only [GA, ↓GB, List.filterMap_cons, eq_self, BEq.rfl, simprocAttr, List.getD_cons_zero, List.getD_cons_succ, or_false, false_or, or_self, or_true, true_or, decide_true]; first | (rw [wI64 (by omega) (by omega)]; rfl) | rfl; done)), by show xs.length - (i + 1) < xs.length - i; omega⟩
  · have e : xs.take most = xs.take i := by rw [show most = i by omega]
    rw [e] at hN0
    (refine hN0 _ _ ⟨[0], _, _, ?_, ?_, ?_, ⟨rfl, rfl⟩⟩; (focus exact LeR.of rfl trivial (by simp only [GA, ↓GB, List.filterMap_cons, eq_self, BEq.rfl, simprocAttr, List.getD_cons_zero, List.getD_cons_succ, or_false, false_or, or_self, or_true, true_or, decide_true]) (by decide) rfl rfl rfl); rotate_left; (focus rfl))
    rfl
  · have e : xs.take most = xs.take i := by rw [List.take_of_length_le (by omega), List.take_of_length_le (by omega)]
    rw [e] at hN0
    (refine hN0 _ _ ⟨[0], _, _, ?_, ?_, ?_, ⟨rfl, rfl⟩⟩; (focus exact LeR.of rfl trivial (by simp only [GA, ↓GB, List.filterMap_cons, eq_self, BEq.rfl, simprocAttr, List.getD_cons_zero, List.getD_cons_succ, or_false, false_or, or_self, or_true, true_or, decide_true]) (by decide) rfl rfl rfl); rotate_left; (focus rfl))
    rfl
end Go.Proofs.YtbdacbcpniegiaaDoor.Q
namespace Go.Proofs.YtbdacbcpniegiaaDoor.Q
open Go Go.RowKit Go.Proofs Go.Sx
set_option maxRecDepth 100000
set_option linter.unusedSimpArgs false
set_option linter.unusedVariables false
theorem isK_eq {b : Int} {t : List UInt8} {m : Rs} : isK b t m = true ↔ m.t = b ∧ m.s = t := by
  simp [isK]
theorem isK_self (x : Rs) : isK x.t x.s x = true := isK_eq.2 ⟨rfl, rfl⟩
theorem setL_parts (ms : List Rs) (x : Rs) : ∃ a c, setL ms x = a ++ x :: c ∧ cutL x ms = a ++ c ∧ (∀ m ∈ a, isK x.t x.s m = false) ∧ (∀ m ∈ c, isK x.t x.s m = false) := by
  have hall : ∀ m ∈ cutL x ms, isK x.t x.s m = false := fun m hm => by
    have := (List.mem_filter.1 hm).2
    simpa using this
  unfold setL
  split
  · rename_i k _
    refine ⟨(cutL x ms).take k, (cutL x ms).drop k, rfl, (List.take_append_drop _ _).symm, fun m hm => hall m (List.mem_of_mem_take hm), fun m hm => hall m (List.mem_of_mem_drop hm)⟩
  · exact ⟨cutL x ms, [], rfl, (List.append_nil _).symm, hall, fun m hm => by cases hm⟩
theorem set_find (ms : List Rs) (x : Rs) : (setL ms x).find? (isK x.t x.s) = some x := by
  obtain ⟨a, c, e, _, ha, _⟩ := setL_parts ms x
  rw [e, List.find?_append, List.find?_eq_none.2 (fun m hm => by rw [ha m hm]; decide), Option.none_or, List.find?_cons, isK_self]
theorem find_filter {p q : Rs → Bool} (h : ∀ m, p m = true → q m = true) (l : List Rs) : (l.filter q).find? p = l.find? p := by
  induction l with
  | nil => rfl
  | cons m l ih =>
    rw [List.filter_cons, List.find?_cons]
    cases hp : p m with
    | true => rw [if_pos (h m hp), List.find?_cons, hp]
    | false =>
      cases hq : q m with
      | true => simp [List.find?_cons, hp, ih]
      | false => simp [ih]
theorem set_other (ms : List Rs) (x : Rs) (b : Int) (t : List UInt8) (h : ¬ (x.t = b ∧ x.s = t)) : (setL ms x).find? (isK b t) = ms.find? (isK b t) := by
  obtain ⟨a, c, e, e2, ha, hc⟩ := setL_parts ms x
  have hx : isK b t x = false := by
    rw [Bool.eq_false_iff]; exact fun e => h (isK_eq.1 e)
  have h1 : (setL ms x).find? (isK b t) = (cutL x ms).find? (isK b t) := by
    rw [e, e2, List.find?_append, List.find?_append, List.find?_cons, hx]
  rw [h1]
  refine find_filter (fun m hm => ?_) ms
  obtain ⟨rfl, rfl⟩ := isK_eq.1 hm
  rw [Bool.not_eq_true', Bool.eq_false_iff]
  exact fun e => h (by obtain ⟨e1, e2⟩ := isK_eq.1 e; exact ⟨e1.symm, e2.symm⟩)
end Go.Proofs.YtbdacbcpniegiaaDoor.Q
namespace Go.Proofs.YtbdacbcpniegiaaDoor.Q
open Go Go.RowKit Go.Proofs Go.Sx
set_option maxHeartbeats 8000000
set_option maxRecDepth 100000
set_option linter.unusedSimpArgs false
set_option linter.unusedVariables false
theorem alike_ctr (ms : List Rs) (hms : ms.length ≤ 1000000) : Ctr Tryd.prog [] 56 [mrow ms, mrow ms] [.one (.c (.row 0)), .one (.c (.row 1))] (fun os v => os = [mrow ms, mrow ms] ∧ v = vv (.bool true)) := by
  refine Ctr.less ?_
  intro X0 hP0 hG0 N0 hN0
  refine CallVC.inline (f := 56) (by rw [hP0]; exact Tryd.func56) rfl Tryd.ntmps56 rfl (by simp) ?_
  intro X K hU hnt hbl hK
  have hP : X.P = Tryd.prog := by rw [hU.P, hP0]
  have hG := hG0.under hU
  have hT : X.P.underlying 79 = some (TypeDesc.slice 89) ∧ elemSz X.P 79 = some (89, 5) ∧ aggOf X.P 89 = some true ∧ szOf X.P 89 = some 5 := by rw [hP]; exact ⟨Tryd.underlying79, Ty.el79, Ty.ag89, Ty.sz89⟩
  simp only [GA, ↓GB, List.filterMap_cons, eq_self, BEq.rfl, simprocAttr] at hbl ⊢
  repeat' (first
    | (refine SX.seqK ?_; intro N hN)
    | ((first | (refine SX.ops ?_) | (refine SX.planT (id := 6) [.q [(0, [0]), (1, [5]), (2, [17, 18]), (3, [19]), (4, [1]), (5, [5]), (6, [21, 22]), (7, [23]), (8, [20, 24])] none] ?_ ?_ ?_; (focus first | (rw [hP]; kernel_rfl) | (rw [hU1P, hP]; kernel_rfl)); (focus kernel_rfl))); simp only [GA, ↓GB, List.filterMap_cons, eq_self, BEq.rfl, simprocAttr, hnt, hT])
    | ((first | refine SX.skip ?_ | refine SX.exit ?_ | refine SX.label ?_); try simp only [GA, ↓GB, List.filterMap_cons, eq_self, BEq.rfl, simprocAttr])
    | (refine SX.cond rfl (fun hb => ?_) (fun hb => ?_) <;> ((first | cases hb | (simp only [decide_eq_true_eq, decide_eq_false_iff_not, beq_iff_eq, beq_eq_false_iff_ne, bne_iff_ne, Bool.and_eq_true, Bool.or_eq_true, Bool.not_eq_true', Bool.not_eq_false', Bool.and_eq_false_iff, Bool.or_eq_false_iff, Int.not_lt, Int.not_le] at hb) | skip) <;> (first | (exfalso; omega) | skip)))
    | (refine SX.ret ?_; try simp only [GA, ↓GB, List.filterMap_cons, eq_self, BEq.rfl, simprocAttr])
    | (refine hN _ ?_; clear hN N)
    | ((first | refine hK _ _ (FinI.ret3 ?_) | refine hK _ _ (FinI.nrm3 ?_)); simp only [GA, ↓GB, List.filterMap_cons, eq_self, BEq.rfl, simprocAttr, finP_s, hnt, hT]; refine Done.out ?_)
    | (clear hN N; first | (refine hN _ ?_; clear hN N) | (clear hN N; first | (refine hN _ ?_; clear hN N) | (clear hN N; first | (refine hN _ ?_; clear hN N) | (clear hN N; first | (refine hN _ ?_; clear hN N) | (clear hN N; first | (refine hN _ ?_; clear hN N) | (refine hN _ ?_; clear hN N))))))
    | (refine bif2.mk (fun hb => ?_) (fun hb => ?_) <;> (try simp only [hb, GA, ↓GB, List.filterMap_cons, eq_self, BEq.rfl, simprocAttr, hnt, hT]) <;> ((first | cases hb | (simp only [decide_eq_true_eq, decide_eq_false_iff_not, beq_iff_eq, beq_eq_false_iff_ne, bne_iff_ne, Bool.and_eq_true, Bool.or_eq_true, Bool.not_eq_true', Bool.not_eq_false', Bool.and_eq_false_iff, Bool.or_eq_false_iff, Int.not_lt, Int.not_le] at hb) | skip) <;> (first | (exfalso; omega) | skip)))
    | (refine SX.loop (ι := { i : Nat // i ≤ ms.length }) (fun i => ⟨[(0, .one (.c (.row 0))), (1, .one (.c (.row 1))), (4, vv (.bool false)), (5, vv (.int .i64 i.1))], [mrow ms, mrow ms]⟩) (fun i => ms.length - i.1) ⟨0, Nat.zero_le _⟩ ⟨[0, 1], by (refine LeR.of ?_ ?_ ?_ ?_ ?_ ?_ ?_ <;> first | (rw [hbl]; decide) | decide | (simp only [GA, ↓GB, List.filterMap_cons, eq_self, BEq.rfl, simprocAttr, List.getD_cons_zero, List.getD_cons_succ, or_false, false_or, or_self, or_true, true_or, decide_true]; done) | (simp only [GA, ↓GB, List.filterMap_cons, eq_self, BEq.rfl, simprocAttr, List.getD_cons_zero, List.getD_cons_succ, or_false, false_or, or_self, or_true, true_or, decide_true]; rfl; done))⟩ ?_ <;> rintro ⟨i, hi⟩ <;> simp only [] at hi ⊢)
    | (refine ⟨(ms.getD i default).cells, rfl, mks_at _ _ (by omega), ?_⟩ <;> simp only [Rs.cells, GA, ↓GB, List.filterMap_cons, eq_self, BEq.rfl, simprocAttr, hnt, hT])
    | (refine ⟨_, strEq_to hP (Ty.eqS89 _ _ _ _ _ _ _ _ _ _), ?_⟩)
    | (refine SX.block ?_)
    | (refine and_mk ?_ ?_; (focus first | decide | omega | rfl | assumption | (simp only [List.length_append, List.length_cons, List.length_nil, B_size]; omega) | (simp; done)))
    | (refine And.intro ?_ ?_))
  all_goals (try refine Done.mk ?_)
  · exfalso; simp at hb
  · exact ⟨⟨i + 1, by omega⟩, [0, 1], by (refine LeR.of ?_ ?_ ?_ ?_ ?_ ?_ ?_ <;> first | (rw [hbl]; decide) | decide | (simp only [GA, ↓GB, List.filterMap_cons, eq_self, BEq.rfl, simprocAttr, List.getD_cons_zero, List.getD_cons_succ, or_false, false_or, or_self, or_true, true_or, decide_true]; done) | (simp only [GA, ↓GB, List.filterMap_cons, eq_self, BEq.rfl, simprocAttr, List.getD_cons_zero, List.getD_cons_succ, or_false, false_or, or_self, or_true, true_or, decide_true]; first | (rw [wI64 (by omega) (by omega)]; rfl) | rfl; done)), by show ms.length - (i + 1) < ms.length - i; omega⟩
  · (refine hN0 _ _ ⟨[0, 1], _, _, ?_, ?_, ?_, ⟨rfl, rfl⟩⟩; (focus exact LeR.of rfl trivial (by simp only [GA, ↓GB, List.filterMap_cons, eq_self, BEq.rfl, simprocAttr, List.getD_cons_zero, List.getD_cons_succ, or_false, false_or, or_self, or_true, true_or, decide_true]) (by decide) rfl rfl rfl); rotate_left; (focus rfl))
    rfl
def z0 : Rs := ⟨0, [], 0, false, []⟩
theorem mks_key (ms : List Rs) (i : Nat) (h : i < ms.length) : ((mks ms).drop (i * 5)).take 2 = [.int .i64 (ms.getD i default).t, .string (B (ms.getD i default).s)] := by
  have := congrArg (List.take 2) (mks_at ms i h)
  rw [List.take_take] at this
  exact this
end Go.Proofs.YtbdacbcpniegiaaDoor.Q
namespace Go.Proofs.YtbdacbcpniegiaaDoor.Q
open Go Go.RowKit Go.Proofs Go.Sx
set_option maxHeartbeats 16000000
set_option maxRecDepth 100000
set_option linter.unusedSimpArgs false
set_option linter.unusedVariables false
structure KnF (X : Ctx) (e : EA) (q : Option Addr) (xs : List Th) : Prop where
  g : Known X (GW e)
  f : FarT X q xs
theorem KnF.under {X X' : Ctx} {e : EA} {q : Option Addr} {xs : List Th} (h : KnF X e q xs) (hU : Under X X') : KnF X' e q xs := ⟨h.g.under hU, h.f.under hU⟩
end Go.Proofs.YtbdacbcpniegiaaDoor.Q
namespace Go.Proofs.YtbdacbcpniegiaaDoor.Q
open Go Go.RowKit Go.Proofs Go.Sx
set_option maxHeartbeats 4000000
set_option maxRecDepth 100000
set_option linter.unusedSimpArgs false
set_option linter.unusedVariables false
theorem ctrF_calls {P : Program} {F : Ctx → Prop} {f : FuncId} {args : List SV} {R : List LO → SV → Prop} (h : CtrF P F f [] args R) (w : World) (hF : F ⟨P, w, [], 0, []⟩) {vals : List Value} (ha : All2 (DV []) args vals) :
    Calls P f vals.toArray w fun e w' => ∃ v os' s σ', e = .returned v ∧ R os' s ∧ DV σ' s v ∧ Below w.heap.size w w' := by
  have hr : Rel ⟨P, w, [], 0, []⟩ ⟨[], []⟩ [] [] { tmps := #[], defers := [] } w :=
    ⟨fun t s h => by simp at h, rfl, rfl, fun i o fp v h => by simp at h, by simp, fun b h => by simp at h, fun b h => by simp at h, Fr.refl _ _, rfl, rfl, fun v h => by simp at h, fun i v h => by simp at h⟩
  refine (h ⟨P, w, [], 0, []⟩ rfl hF (fun c s => ∃ os', c = ⟨[], os'⟩ ∧ R os' s) (fun os' s hR => ⟨os', rfl, hR⟩) _ _ _ _ hr vals ha).mono ?_
  rintro e w' ⟨v, c', ρ', σ', s, rfl, hr', hd, os', rfl, hR⟩
  exact ⟨v, os', s, σ', rfl, hR, hd, hr'.low.below (by simp)⟩
theorem farT_in {P : Program} {w : World} {q : Option Addr} {xs : List Th} (hc : ∀ i, i < xs.length → ∃ ad, q = some ad ∧ ∀ j v, (xs.getD i default).cells[j]? = some v → w.cell? (ad.add (i * 7 + j)) = some v) : FarT ⟨P, w, [], 0, []⟩ q xs := fun i hi => by
  obtain ⟨ad, e, h⟩ := hc i hi
  exact ⟨ad, e, by simp, fun j v hj => by rw [Deep.add_add]; exact h j v hj⟩
theorem knF_in {w : World} {e : EA} {q : Option Addr} {xs : List Th} (hG : ∀ p ∈ GW e, w.cell? p.1 = some p.2 ∧ loneStr w p) (hc : ∀ i, i < xs.length → ∃ ad, q = some ad ∧ ∀ j v, (xs.getD i default).cells[j]? = some v → w.cell? (ad.add (i * 7 + j)) = some v) : KnF ⟨Tryd.prog, w, [], 0, []⟩ e q xs :=
  ⟨fun p hp => ⟨(hG p hp).1, by simp, (hG p hp).2⟩, farT_in hc⟩
end Go.Proofs.YtbdacbcpniegiaaDoor.Q
namespace Go.Proofs.YtbdacbcpniegiaaDoor.Q
open Go Go.RowKit Go.Proofs Go.Sx
set_option maxRecDepth 100000
set_option linter.unusedSimpArgs false
set_option linter.unusedVariables false
theorem qS_lt {a b : List UInt8} : cmpS a b < 0 ↔ Op.bytesLess a b = true := by
  unfold cmpS
  split
  · rename_i h; simp [h]
  · rename_i h
    split
    · simp [h]
    · simp [h]
theorem cmpKey_lt {a b : Int} {s t : List UInt8} : cmpKey a s b t < 0 ↔ a < b ∨ (a = b ∧ Op.bytesLess s t = true) := by
  unfold cmpKey
  by_cases h1 : cmpI a b = 0
  · simp only [h1, ne_eq, not_true_eq_false, if_false, qS_lt]
    have := cmpI_eq.1 h1
    simp [this]
  · have n1 : a ≠ b := fun e => h1 (cmpI_eq.2 e)
    simp only [ne_eq, h1, not_false_eq_true, if_true, cmpI_lt]
    simp [n1]
theorem cmpKey_eq {a b : Int} {s t : List UInt8} : cmpKey a s b t = 0 ↔ a = b ∧ s = t := by
  unfold cmpKey
  by_cases h1 : cmpI a b = 0
  · simp only [h1, ne_eq, not_true_eq_false, if_false, cmpS_eq]
    simp [cmpI_eq.1 h1]
  · have n1 : a ≠ b := fun e => h1 (cmpI_eq.2 e)
    simp only [ne_eq, h1, not_false_eq_true, if_true]
    simp [n1]
theorem cmpKey_trans {a b c : Int} {s t u : List UInt8} (h1 : cmpKey a s b t < 0) (h2 : cmpKey b t c u < 0) : cmpKey a s c u < 0 := by
  rw [cmpKey_lt] at *
  rcases h1 with h1 | ⟨e1, h1⟩
  · rcases h2 with h2 | ⟨e2, h2⟩
    · exact .inl (by omega)
    · exact .inl (by omega)
  · rcases h2 with h2 | ⟨e2, h2⟩
    · exact .inl (by omega)
    · exact .inr ⟨by omega, bytesLess_trans h1 h2⟩
theorem cmpI_swap (a b : Int) : cmpI b a = - cmpI a b := by
  unfold cmpI
  split <;> split <;> (try split) <;> omega
theorem cmpS_swap (s t : List UInt8) : cmpS t s = - cmpS s t := by
  unfold cmpS
  cases h : Op.bytesLess s t with
  | true => simp [bytesLess_asymm h]
  | false => cases h2 : Op.bytesLess t s <;> simp
theorem cmpKey_swap (a b : Int) (s t : List UInt8) : cmpKey b t a s = - cmpKey a s b t := by
  unfold cmpKey
  rw [cmpI_swap a b, cmpS_swap s t]
  by_cases h : cmpI a b = 0
  · simp [h]
  · simp [h]
def ltR (a b : Rs) : Prop := cmpKey a.t a.s b.t b.s < 0
theorem ltR_trans {a b c : Rs} (h1 : ltR a b) (h2 : ltR b c) : ltR a c := cmpKey_trans h1 h2
abbrev SortR (ms : List Rs) : Prop := ms.Pairwise ltR
theorem isO_iff {x m : Rs} : isO x m = true ↔ ltR x m := by
  unfold isO ltR
  rw [cmpKey_swap m.t x.t m.s x.s, decide_eq_true_eq]
  omega
theorem lt_of {x m : Rs} (h1 : isO x m = false) (h2 : isK x.t x.s m = false) : ltR m x := by
  have h1 : ¬ (0 < cmpKey m.t m.s x.t x.s) := by simpa [isO] using h1
  have h2 : cmpKey m.t m.s x.t x.s ≠ 0 := fun e => by
    rw [isK_eq.2 (cmpKey_eq.1 e)] at h2; cases h2
  unfold ltR
  omega
theorem setL_sorted {ms : List Rs} (h : SortR ms) (x : Rs) : SortR (setL ms x) := by
  have hc : SortR (cutL x ms) := h.filter _
  have hall : ∀ m ∈ cutL x ms, isK x.t x.s m = false := fun m hm => by
    have := (List.mem_filter.1 hm).2
    simpa using this
  unfold setL
  split
  · rename_i k hk
    rw [List.findIdx?_eq_some_iff_getElem] at hk
    obtain ⟨hlt, hp, hn⟩ := hk
    obtain ⟨p1, p2, p3⟩ := List.pairwise_append.1 (show List.Pairwise ltR ((cutL x ms).take k ++ (cutL x ms).drop k) by rw [List.take_append_drop]; exact hc)
    have hb : ∀ m ∈ (cutL x ms).take k, ltR m x := fun m hm => by
      obtain ⟨j, hj, rfl⟩ := List.mem_iff_getElem.1 hm
      have hj' : j < k := by simp at hj; omega
      rw [List.getElem_take]
      exact lt_of (by simpa using hn j hj') (hall _ (List.getElem_mem _))
    have ha : ∀ m ∈ (cutL x ms).drop k, ltR x m := fun m hm => by
      rw [List.drop_eq_getElem_cons hlt] at hm p2
      rcases List.mem_cons.1 hm with rfl | hm
      · exact isO_iff.1 hp
      · exact ltR_trans (isO_iff.1 hp) ((List.pairwise_cons.1 p2).1 m hm)
    refine List.pairwise_append.2 ⟨p1, List.pairwise_cons.2 ⟨ha, p2⟩, fun a h1 b h2 => ?_⟩
    rcases List.mem_cons.1 h2 with rfl | h2
    · exact hb a h1
    · exact p3 a h1 b h2
  · rename_i hk
    rw [List.findIdx?_eq_none_iff] at hk
    refine List.pairwise_append.2 ⟨hc, by simp, fun a h1 b h2 => ?_⟩
    simp at h2
    subst h2
    exact lt_of (hk a h1) (hall a h1)
theorem stepL_sorted {ms : List Rs} (h : SortR ms) (x : Rs) : SortR (stepL ms x) := by
  unfold stepL
  split
  · split
    · exact setL_sorted h x
    · exact h
  · exact setL_sorted h x
theorem foldL_sorted (l : List Rs) : ∀ {ms : List Rs}, SortR ms → SortR (l.foldl stepL ms) := by
  induction l with
  | nil => intro ms h; exact h
  | cons x l ih => intro ms h; exact ih (stepL_sorted h x)
theorem sortL_sorted (l : List Rs) : SortR (sortL l) := foldL_sorted l (by simp)
theorem stepL_len (ms : List Rs) (x : Rs) : (stepL ms x).length ≤ ms.length + 1 := by
  unfold stepL
  split
  · split
    · exact setL_len ms x
    · omega
  · exact setL_len ms x
theorem foldL_len (l : List Rs) : ∀ ms : List Rs, (l.foldl stepL ms).length ≤ ms.length + l.length := by
  induction l with
  | nil => intro ms; exact Nat.le_refl _
  | cons x l ih => intro ms; have h1 := ih (stepL ms x); have h2 := stepL_len ms x; simp only [List.foldl_cons, List.length_cons]; omega
theorem sortL_len (l : List Rs) : (sortL l).length ≤ l.length := by have := foldL_len l []; simpa [sortL] using this
def HasN (ms : List Rs) (b : Int) (t : List UInt8) (q : Nat) : Prop := ∃ y, ms.find? (isK b t) = some y ∧ q ≤ y.q
theorem stepL_has {ms : List Rs} {b : Int} {t : List UInt8} {q : Nat} (h : HasN ms b t q) (x : Rs) : HasN (stepL ms x) b t q := by
  obtain ⟨y, hy, hq⟩ := h
  unfold stepL
  by_cases hk : x.t = b ∧ x.s = t
  · obtain ⟨rfl, rfl⟩ := hk
    rw [hy]
    simp only
    split
    · exact ⟨x, set_find ms x, by omega⟩
    · exact ⟨y, hy, hq⟩
  · have h2 : HasN (setL ms x) b t q := ⟨y, by rw [set_other ms x b t hk]; exact hy, hq⟩
    split
    · split
      · exact h2
      · exact ⟨y, hy, hq⟩
    · exact h2
theorem stepL_self (ms : List Rs) (x : Rs) : HasN (stepL ms x) x.t x.s x.q := by
  unfold stepL
  split
  · rename_i o ho
    split
    · exact ⟨x, set_find ms x, Nat.le_refl _⟩
    · exact ⟨o, ho, by omega⟩
  · exact ⟨x, set_find ms x, Nat.le_refl _⟩
theorem foldL_has (l : List Rs) : ∀ {ms : List Rs} {b : Int} {t : List UInt8} {q : Nat}, HasN ms b t q → HasN (l.foldl stepL ms) b t q := by
  induction l with
  | nil => intro ms b t q h; exact h
  | cons x l ih => intro ms b t q h; exact ih (stepL_has h x)
theorem foldL_all (l : List Rs) : ∀ (ms : List Rs) (x : Rs), x ∈ l → HasN (l.foldl stepL ms) x.t x.s x.q := by
  induction l with
  | nil => intro ms x h; cases h
  | cons y l ih =>
    intro ms x h
    rcases List.mem_cons.1 h with rfl | h
    · exact foldL_has l (stepL_self ms x)
    · exact ih (stepL ms y) x h
theorem sortL_has {l : List Rs} {x : Rs} (h : x ∈ l) : HasN (sortL l) x.t x.s x.q := foldL_all l [] x h
theorem ltR_irrefl (a : Rs) : ¬ ltR a a := by
  unfold ltR; rw [cmpKey_eq.2 ⟨rfl, rfl⟩]; decide
theorem ltR_notK {a x : Rs} (h : ltR a x) : isK x.t x.s a = false := by
  rw [Bool.eq_false_iff]
  intro e
  obtain ⟨e1, e2⟩ := isK_eq.1 e
  unfold ltR at h
  rw [e1, e2, cmpKey_eq.2 ⟨rfl, rfl⟩] at h
  exact absurd h (by decide)
theorem ltR_notO {a x : Rs} (h : ltR a x) : isO x a = false := by
  rw [Bool.eq_false_iff]
  intro e
  exact ltR_irrefl a (ltR_trans h (isO_iff.1 e))
theorem stepL_end {ms : List Rs} {x : Rs} (h : ∀ m ∈ ms, ltR m x) : stepL ms x = ms ++ [x] := by
  have h1 : ms.find? (isK x.t x.s) = none := List.find?_eq_none.2 fun m hm => by rw [ltR_notK (h m hm)]; decide
  have h2 : cutL x ms = ms := List.filter_eq_self.2 fun m hm => by rw [ltR_notK (h m hm)]; rfl
  have h3 : ms.findIdx? (isO x) = none := List.findIdx?_eq_none_iff.2 fun m hm => ltR_notO (h m hm)
  unfold stepL
  rw [h1]
  simp only [setL, h2, h3]
theorem foldL_same (l : List Rs) : ∀ ms : List Rs, SortR (ms ++ l) → l.foldl stepL ms = ms ++ l := by
  induction l with
  | nil => intro ms h; simp
  | cons x l ih =>
    intro ms h
    have h3 := (List.pairwise_append.1 h).2.2
    rw [List.foldl_cons, stepL_end (fun m hm => h3 m hm x List.mem_cons_self), ih (ms ++ [x]) (by simpa using h)]
    simp
theorem sortL_same {l : List Rs} (h : SortR l) : sortL l = l := by
  have := foldL_same l [] (by simpa using h)
  simpa [sortL] using this
end Go.Proofs.YtbdacbcpniegiaaDoor.Q
namespace Go.Sx
open Go Go.RowKit
set_option linter.unusedVariables false
set_option linter.unusedSimpArgs false
section
variable {X : Ctx} {c : Cfg} {d : Option Tmp} {ty : TypeId} {pos : String} {af : Array Edge} {g : Option (Nat × Bool)} {N : Cfg → Prop}
theorem VO.appendNil {x y : Operand} {t e m sz by_ : Nat} {ys : List Value} {z : Value} (hx : c.ev x = vv (.slice none 0 0))
    (ht : elemInf X.P t = some (e, sz, by_, z)) (h1 : ∀ u ∈ ys, u.oneCell' = true) (h63 : m ≤ maxLen) (hby : m * by_ ≤ 140737488355328)
    (hy : ∀ ρ σ a w, Rel X c ρ σ a w → (∃ ad cap, a.eval y = .slice (some ad) m cap ∧ ys.length = m * sz ∧ ∀ (q : Nat) (u : Value), ys[q]? = some u → w.cell? (ad.add q) = some u) ∨ (a.eval y = .slice none 0 0 ∧ m = 0 ∧ ys = []))
    (h : nxt X d N { c with loc := c.loc ++ [.gone, .row e sz m ys] } (.one (.c (.row (c.loc.length + 1))))) :
    VO X ⟨d, .call { callee := .builtin .append, args := #[x, y], argTypes := #[t, t] }, ty, pos, af, g⟩ c N :=
  .of_value fun ρ σ a w hr => by
    have ex := hr.ev x
    rw [hx] at ex
    have ex : a.eval x = .slice none 0 0 := ex
    obtain ⟨hu, ti, hti, hz, hsz, hby', hzs, h0⟩ := elemInf_spec ht
    have hd1 : w.ownsRow 0 e sz (.slice none 0 0) 0 [] := World.ownsRow_nil w 0 e sz
    have key : ∃ v' w', (Builtin.append_ #[t, t] ty #[a.eval x, a.eval y]).run X.P w = .ok v' w' ∧ w'.ownsRow 0 e sz v' m ys ∧ w.grownBy w' (Value.slice none 0 0).ownBlock ∧ (∀ k, v'.ownBlock = some k → (Value.slice none 0 0).ownBlock = some k ∨ w.heap.size ≤ k) := by
      rw [ex]
      rcases hy ρ σ a w hr with ⟨ad, cap, e3, hl, hc⟩ | ⟨e3, rfl, rfl⟩
      · rw [e3]
        have := append_cases (P := X.P) w 0 t ty e ti z sz by_ hu hti hz hsz hby' hzs h0 (.slice none 0 0) 0 [] hd1 ad m cap ys hl hc h1 (by omega) (by rw [Nat.zero_add]; exact hby) (Nat.zero_le _)
        rwa [Nat.zero_add] at this
      · rw [e3]
        have := append_cases (P := X.P) w 0 t ty e ti z sz by_ hu hti hz hsz hby' hzs h0 (.slice none 0 0) 0 [] hd1 ⟨0, 0, none⟩ 0 0 [] (by simp) (by simp) (by simp) (by omega) (by rw [Nat.zero_add]; exact hby) (Nat.zero_le _)
        have hrun : (Builtin.append_ #[t, t] ty #[.slice none 0 0, .slice (some ⟨0, 0, none⟩) 0 0]).run X.P w = (Builtin.append_ #[t, t] ty #[.slice none 0 0, .slice none 0 0]).run X.P w := by
          have hl : ∀ (ad : Addr), (loadCells ad 0).run X.P w = .ok #[] w := fun ad => by simpa using run_loadCells_list (P := X.P) w ad [] (by simp)
          simp [Builtin.append_, run_underlying hu, Builtin.lenOf, Builtin.firstCells, sizeOf, typeInfo, hti, hl, storeCells]
        rw [hrun] at this
        exact this
    obtain ⟨v', w', hrun, hown, hgr, hk⟩ := key
    have hr2 := hr.nilRow e sz
    have hi2 : ({ c with loc := c.loc ++ [LO.row e sz 0 []] } : Cfg).loc[c.loc.length]? = some (.row e sz 0 []) := by simp
    have hv2 : (σ ++ [Value.slice none 0 0])[c.loc.length]? = some (.slice none 0 0) := by rw [← hr.lenS]; simp
    obtain ⟨ρ', hR⟩ := hr2.reRow hi2 hv2 hgr hown hk
    have hloc : (c.loc ++ [LO.row e sz 0 []]).set c.loc.length .gone ++ [LO.row e sz m ys] = c.loc ++ [.gone, .row e sz m ys] := by
      rw [List.set_append_right _ _ (Nat.le_refl _)]; simp
    have hR : Rel X { c with loc := (c.loc ++ [LO.row e sz 0 []]).set c.loc.length .gone ++ [LO.row e sz m ys] } ρ' (σ ++ [Value.slice none 0 0] ++ [v']) a w' := hR
    rw [hloc] at hR
    refine ⟨v', w', _, ρ', _, .one (.c (.row (c.loc.length + 1))), ?_, hR, ?_, h.1, h.2⟩
    · simp only [execOp, resolve, invoke, builtin, Sem.run_bind, Sem.run_pure, Result.andThen_ok, List.map_toArray, List.map_cons, List.map_nil]
      rw [hrun]; rfl
    · show (σ ++ [Value.slice none 0 0] ++ [v'])[c.loc.length + 1]? = some v'
      rw [← hr.lenS]; simp
theorem VO.appendNilRow {x y : Operand} {t e e' j m sz by_ : Nat} {ys : List Value} {z : Value} (hx : c.ev x = vv (.slice none 0 0)) (hy : c.ev y = .one (.c (.row j)))
    (ht : elemInf X.P t = some (e, sz, by_, z)) (hj : c.loc[j]? = some (.row e' sz m ys)) (h1 : ∀ u ∈ ys, u.oneCell' = true) (h63 : m ≤ maxLen) (hby : m * by_ ≤ 140737488355328)
    (h : nxt X d N { c with loc := c.loc ++ [.gone, .row e sz m ys] } (.one (.c (.row (c.loc.length + 1))))) :
    VO X ⟨d, .call { callee := .builtin .append, args := #[x, y], argTypes := #[t, t] }, ty, pos, af, g⟩ c N :=
  VO.appendNil hx ht h1 h63 hby (fun ρ σ a w hr => by
    have ey := hr.ev y
    rw [hy] at ey
    have ey : σ[j]? = some (a.eval y) := ey
    obtain ⟨fq, hfq⟩ := hr.locAt hj
    have hdj := hr.loc j _ fq _ hj hfq ey
    rcases hdj.1.2 with ⟨e3, hm0⟩ | ⟨gg, cap, cur, e3, _⟩
    · exact .inr ⟨e3, hm0, by have := hdj.1.1; rw [hm0] at this; simpa using this⟩
    · exact .inl ⟨⟨gg, 0, none⟩, cap, e3, hdj.1.1, fun q u hq => hr.rowCell hj (by rw [ey, e3]) q u hq⟩) h
theorem VO.appendNilFar {x y : Operand} {t e m cap sz by_ : Nat} {ad : Addr} {ys : List Value} {z : Value} (hx : c.ev x = vv (.slice none 0 0)) (hy : c.ev y = vv (.slice (some ad) m cap))
    (ht : elemInf X.P t = some (e, sz, by_, z)) (hl : ys.length = m * sz) (hc : ∀ (q : Nat) (u : Value), ys[q]? = some u → X.wi.cell? (ad.add q) = some u) (ho : ad.block ∉ X.own) (h1 : ∀ u ∈ ys, u.oneCell' = true) (h63 : m ≤ maxLen) (hby : m * by_ ≤ 140737488355328)
    (h : nxt X d N { c with loc := c.loc ++ [.gone, .row e sz m ys] } (.one (.c (.row (c.loc.length + 1))))) :
    VO X ⟨d, .call { callee := .builtin .append, args := #[x, y], argTypes := #[t, t] }, ty, pos, af, g⟩ c N :=
  VO.appendNil hx ht h1 h63 hby (fun ρ σ a w hr => by
    have ey := hr.ev y
    rw [hy] at ey
    have ey : a.eval y = .slice (some ad) m cap := ey
    have hb : ∀ j, (ad.add j).block = ad.block := fun j => by unfold Addr.add; split <;> rfl
    exact .inl ⟨ad, cap, ey, hl, fun q u hq => hr.old (hc q u hq) (by rw [hb]; exact ho)⟩) h
end
end Go.Sx
namespace Go.Proofs.YtbdacbcpniegiaaDoor.Q
open Go Go.RowKit Go.Proofs Go.Sx
set_option maxHeartbeats 4000000
set_option maxRecDepth 100000
set_option linter.unusedSimpArgs false
set_option linter.unusedVariables false
def ths (xs : List Th) : List Value := xs.flatMap Th.cells
theorem ths_cons (m : Th) (ms : List Th) : ths (m :: ms) = m.cells ++ ths ms := rfl
theorem th_seven (m : Th) : m.cells.length = 7 := rfl
theorem ths_length : ∀ ms : List Th, (ths ms).length = ms.length * 7
  | [] => rfl
  | m :: ms => by rw [ths_cons, List.length_append, ths_length ms, th_seven]; simp; omega
theorem ths_drop : ∀ (i : Nat) (ms : List Th), (ths ms).drop (i * 7) = ths (ms.drop i)
  | 0, ms => by simp
  | i + 1, [] => by simp [ths]
  | i + 1, m :: ms => by
    rw [ths_cons, show (i + 1) * 7 = m.cells.length + i * 7 by rw [th_seven]; omega, List.drop_append, Nat.add_sub_cancel_left, ths_drop i ms, List.drop_of_length_le (by omega)]
    rfl
theorem ths_at (ms : List Th) (i : Nat) (h : i < ms.length) : ((ths ms).drop (i * 7)).take 7 = (ms.getD i default).cells := by
  rw [ths_drop, List.drop_eq_getElem_cons h, ths_cons, List.getD_eq_getElem?_getD, List.getElem?_eq_getElem h]
  simp [Th.cells, Rs.cells]
theorem ths_append (a b : List Th) : ths (a ++ b) = ths a ++ ths b := by simp [ths]
def own1 (x : Th) : Th := { x with own := true }
def ownN (i : Nat) (xs : List Th) : List Th := (xs.take i).map own1 ++ xs.drop i
theorem ownN_len (i : Nat) (xs : List Th) : (ownN i xs).length = xs.length := by simp [ownN]; omega
theorem ths_own (xs : List Th) (i : Nat) (h : i < xs.length) : (ths (ownN i xs)).take (i * 7 + 5) ++ [Value.bool true] ++ (ths (ownN i xs)).drop (i * 7 + 5 + 1) = ths (ownN (i + 1) xs) := by
  have hA : (ths ((xs.take i).map own1)).length = i * 7 := by rw [ths_length, List.length_map, List.length_take, Nat.min_eq_left (by omega)]
  have e1 : ownN i xs = (xs.take i).map own1 ++ xs[i] :: xs.drop (i + 1) := by rw [ownN, List.drop_eq_getElem_cons h]
  have e2 : ownN (i + 1) xs = (xs.take i).map own1 ++ own1 xs[i] :: xs.drop (i + 1) := by
    rw [ownN, List.take_add_one, List.getElem?_eq_getElem h, List.map_append, List.append_assoc]; rfl
  rw [e1, e2, ths_append, ths_append, ths_cons, ths_cons]
  generalize ths ((xs.take i).map own1) = A at hA
  generalize ths (xs.drop (i + 1)) = C
  obtain ⟨r, o, nm⟩ := xs[i]
  rw [List.take_append, List.drop_append, hA, List.take_of_length_le (by omega), List.drop_of_length_le (by omega), show i * 7 + 5 - i * 7 = 5 by omega, show i * 7 + 5 + 1 - i * 7 = 6 by omega]
  simp [Th.cells, Rs.cells, own1]
theorem ths_one (xs : List Th) : ∀ u ∈ ths xs, u.oneCell' = true := by
  intro u hu
  obtain ⟨x, _, hx⟩ := List.mem_flatMap.1 hu
  simp only [Th.cells, Rs.cells, List.mem_append, List.mem_cons, List.not_mem_nil, or_false] at hx
  rcases hx with (rfl | rfl | rfl | rfl | rfl) | rfl | rfl <;> rfl
theorem far_cells {X : Ctx} {ad : Addr} {xs : List Th} (h : FarT X (some ad) xs) (k : Nat) (u : Value) (hk : (ths xs)[k]? = some u) : X.wi.cell? (ad.add k) = some u := by
  have hl := (List.getElem?_eq_some_iff.1 hk).1
  rw [ths_length] at hl
  have hi : k / 7 < xs.length := by omega
  obtain ⟨ad', e, _, hc⟩ := h (k / 7) hi
  cases e
  have := hc (k % 7) u (by
    rw [← ths_at xs _ hi, List.getElem?_take_of_lt (by omega), List.getElem?_drop]
    rw [show k / 7 * 7 + k % 7 = k by omega]; exact hk)
  rw [Deep.add_add, show k / 7 * 7 + k % 7 = k by omega] at this
  exact this
@[reducible] def trow (xs : List Th) : LO := .row 96 7 xs.length (ths xs)
theorem things_own (xs : List Th) (hx : xs.length ≤ 4398046511104) (most : Nat) (hm : most ≤ 100) : Ctr Tryd.prog [] 52 [trow xs] [.one (.c (.row 0)), vv (.int .i64 most)] (fun os v => os = [trow xs, mrow ((xs.take most).map thV)] ∧ v = .one (.c (.row 1))) := by
  refine Ctr.less ?_
  intro X0 hP0 hG0 N0 hN0
  refine CallVC.inline (f := 52) (by rw [hP0]; exact Tryd.func52) rfl Tryd.ntmps52 rfl (by simp) ?_
  intro X K hU hnt hbl hK
  have hP : X.P = Tryd.prog := by rw [hU.P, hP0]
  have hG := hG0.under hU
  have hT : X.P.underlying 106 = some (TypeDesc.slice 96) ∧ elemSz X.P 106 = some (96, 7) ∧ aggOf X.P 96 = some true ∧ szOf X.P 96 = some 7 ∧ calleeOk X.P 46 = true ∧ elemSz X.P 79 = some (89, 5) ∧ zeroCells X.P 89 = some [(Value.int IntKind.i64 0), (Value.string { data := #[] }), (Value.int IntKind.u64 0), (Value.bool false), (Value.string { data := #[] })] ∧ elemInf X.P 79 = some (89, 5, 56, (Value.agg #[(Value.int IntKind.i64 0), (Value.string { data := #[] }), (Value.int IntKind.u64 0), (Value.bool false), (Value.string { data := #[] })])) ∧ isStrT X.P 79 = false := by rw [hP]; exact ⟨Tryd.underlying106, Ty.el106, Ty.ag96, Ty.sz96, Ty.co46, Ty.el79, Ty.ze89, Ty.ei79, Ty.is79⟩
  simp only [GA, ↓GB, List.filterMap_cons, eq_self, BEq.rfl, simprocAttr] at hbl ⊢
  repeat' (first
    | (refine SX.asRow (t := 5) 89 5 rfl ⟨_, rfl⟩ ?_)
    | (refine SX.seqK ?_; intro N hN)
    | ((first | (refine SX.ops ?_)); simp only [GA, ↓GB, List.filterMap_cons, eq_self, BEq.rfl, simprocAttr, hnt, hT])
    | ((first | refine SX.skip ?_ | refine SX.exit ?_ | refine SX.label ?_); try simp only [GA, ↓GB, List.filterMap_cons, eq_self, BEq.rfl, simprocAttr])
    | (refine SX.cond rfl (fun hb => ?_) (fun hb => ?_) <;> ((first | cases hb | (simp only [decide_eq_true_eq, decide_eq_false_iff_not, beq_iff_eq, beq_eq_false_iff_ne, bne_iff_ne, Bool.and_eq_true, Bool.or_eq_true, Bool.not_eq_true', Bool.not_eq_false', Bool.and_eq_false_iff, Bool.or_eq_false_iff, Int.not_lt, Int.not_le] at hb) | skip) <;> (first | (exfalso; omega) | skip)))
    | (refine SX.ret ?_; try simp only [GA, ↓GB, List.filterMap_cons, eq_self, BEq.rfl, simprocAttr])
    | (refine hN _ ?_; clear hN N)
    | ((first | refine hK _ _ (FinI.ret3 ?_) | refine hK _ _ (FinI.nrm3 ?_)); simp only [GA, ↓GB, List.filterMap_cons, eq_self, BEq.rfl, simprocAttr, finP_s, hnt, hT]; refine Done.out ?_)
    | (clear hN N; first | (refine hN _ ?_; clear hN N) | (clear hN N; first | (refine hN _ ?_; clear hN N) | (clear hN N; first | (refine hN _ ?_; clear hN N) | (clear hN N; first | (refine hN _ ?_; clear hN N) | (clear hN N; first | (refine hN _ ?_; clear hN N) | (refine hN _ ?_; clear hN N))))))
    | (refine bif2.mk (fun hb => ?_) (fun hb => ?_) <;> (try simp only [hb, GA, ↓GB, List.filterMap_cons, eq_self, BEq.rfl, simprocAttr, hnt, hT]) <;> ((first | cases hb | (simp only [decide_eq_true_eq, decide_eq_false_iff_not, beq_iff_eq, beq_eq_false_iff_ne, bne_iff_ne, Bool.and_eq_true, Bool.or_eq_true, Bool.not_eq_true', Bool.not_eq_false', Bool.and_eq_false_iff, Bool.or_eq_false_iff, Int.not_lt, Int.not_le] at hb) | skip) <;> (first | (exfalso; omega) | skip)))
    | ((first | (refine CallVC.pa hP (thing_any (xs.getD i default)) rfl ?_) | (refine CallQ.pa hP (thing_any (xs.getD i default)) rfl ?_)); simp only [GA, ↓GB, List.filterMap_cons, eq_self, BEq.rfl, simprocAttr, hnt, hT])
    | (refine ⟨(xs.getD i default).cells, rfl, ths_at _ _ (by omega), ?_⟩ <;> simp only [Th.cells, Rs.cells, List.map_cons, List.map_nil, List.cons_append, List.nil_append, GA, ↓GB, List.filterMap_cons, eq_self, BEq.rfl, simprocAttr, hnt, hT])
    | (refine SX.loop (ι := { i : Nat // i ≤ xs.length ∧ i ≤ most }) (fun i => ⟨[(0, .one (.c (.row 0))), (1, vv (.int .i64 most)), (4, vv (.slice none 0 0)), (5, .one (.c (.row 1))), (6, vv (.int .i64 i.1))], [trow xs, mrow ((xs.take i.1).map thV)]⟩) (fun i => xs.length - i.1) ⟨0, Nat.zero_le _, Nat.zero_le _⟩ ⟨[0, 1], by (refine LeR.of ?_ ?_ ?_ ?_ ?_ ?_ ?_ <;> first | (rw [hbl]; decide) | decide | (simp only [GA, ↓GB, List.filterMap_cons, eq_self, BEq.rfl, simprocAttr, List.getD_cons_zero, List.getD_cons_succ, or_false, false_or, or_self, or_true, true_or, decide_true]; done) | (simp only [GA, ↓GB, List.filterMap_cons, eq_self, BEq.rfl, simprocAttr, List.getD_cons_zero, List.getD_cons_succ, or_false, false_or, or_self, or_true, true_or, decide_true]; rfl; done))⟩ ?_ <;> rintro ⟨i, hi, hi2⟩ <;> simp only [] at hi hi2 ⊢)
    | (refine SX.block ?_)
    | (refine and_mk ?_ ?_; (focus first | decide | omega | rfl | assumption | (simp only [List.length_append, List.length_cons, List.length_nil, B_size]; omega) | (simp; done)))
    | (refine And.intro ?_ ?_))
  all_goals (try refine Done.mk ?_)
  · simp only [List.length_map, List.length_take]; omega
  · have e := mrow_snoc ((xs.take i).map thV) (thV (xs.getD i default))
    rw [← th_take (by omega)] at e
    rw [e]
    exact ⟨⟨i + 1, by omega, by omega⟩, [0, 3], by (refine LeR.of ?_ ?_ ?_ ?_ ?_ ?_ ?_ <;> first | (rw [hbl]; decide) | decide | (simp only [GA, ↓GB, List.filterMap_cons, eq_self, BEq.rfl, simprocAttr, List.getD_cons_zero, List.getD_cons_succ, or_false, false_or, or_self, or_true, true_or, decide_true]; done) | (simp only [GA, ↓GB, List.filterMap_cons, eq_self, BEq.rfl, simprocAttr, List.getD_cons_zero, List.getD_cons_succ, or_false, false_or, or_self, or_true, true_or, decide_true]; first | (rw [wI64 (by omega) (by omega)]; rfl) | rfl; done)), by show xs.length - (i + 1) < xs.length - i; omega⟩
  · have e : xs.take most = xs.take i := by rw [show most = i by omega]
    rw [e] at hN0
    (refine hN0 _ _ ⟨[0, 1], _, _, ?_, ?_, ?_, ⟨rfl, rfl⟩⟩; (focus exact LeR.of rfl trivial (by simp only [GA, ↓GB, List.filterMap_cons, eq_self, BEq.rfl, simprocAttr, List.getD_cons_zero, List.getD_cons_succ, or_false, false_or, or_self, or_true, true_or, decide_true]) (by decide) rfl rfl rfl); rotate_left; (focus rfl))
    rfl
  · have e : xs.take most = xs.take i := by rw [List.take_of_length_le (by omega), List.take_of_length_le (by omega)]
    rw [e] at hN0
    (refine hN0 _ _ ⟨[0, 1], _, _, ?_, ?_, ?_, ⟨rfl, rfl⟩⟩; (focus exact LeR.of rfl trivial (by simp only [GA, ↓GB, List.filterMap_cons, eq_self, BEq.rfl, simprocAttr, List.getD_cons_zero, List.getD_cons_succ, or_false, false_or, or_self, or_true, true_or, decide_true]) (by decide) rfl rfl rfl); rotate_left; (focus rfl))
    rfl
end Go.Proofs.YtbdacbcpniegiaaDoor.Q
namespace Go.Proofs.YtbdacbcpniegiaaDoor.Q
open Go Go.RowKit Go.Proofs Go.Sx
set_option maxHeartbeats 16000000
set_option maxRecDepth 100000
set_option linter.unusedSimpArgs false
set_option linter.unusedVariables false
theorem posCase {i n : Nat} (h : i ≤ n) (hn : n ≤ 1000) : i = 0 ∨ ∃ j, i = j + 1 ∧ IntKind.i64.wrap (((j + 1 : Nat) : Int) - 1) = (j : Int) := by
  cases i with
  | zero => exact .inl rfl
  | succ j => exact .inr ⟨j, rfl, by rw [wI64 (by omega) (by omega)]; omega⟩
theorem has_at {aa : List Rs} (i : Nat) : aa.length ≤ i ∨ ∃ y, (sortL aa).find? (isK (aa.getD i default).t (aa.getD i default).s) = some y ∧ (aa.getD i default).q ≤ y.q := by
  rcases Nat.lt_or_ge i aa.length with h | h
  · obtain ⟨y, h1, h2⟩ := sortL_has (l := aa) (x := aa.getD i default) (by rw [List.getD_eq_getElem?_getD, List.getElem?_eq_getElem h]; exact List.getElem_mem h)
    exact .inr ⟨y, h1, h2⟩
  · exact .inl h
theorem sort_lt {bs : List Rs} (h : SortR bs) {j : Nat} (hj : j + 1 < bs.length) : cmpKey (bs.getD j default).t (bs.getD j default).s (bs.getD (j + 1) default).t (bs.getD (j + 1) default).s < 0 := by
  have := List.pairwise_iff_getElem.1 h j (j + 1) (by omega) hj (by omega)
  rw [List.getD_eq_getElem?_getD, List.getElem?_eq_getElem (by omega), List.getD_eq_getElem?_getD, List.getElem?_eq_getElem hj]
  exact this
theorem sorted_l {X : Ctx} (hP : X.P = Tryd.prog) (hnt : X.nt = 95) (hbl : X.base.length = 0) (aa : List Rs) (hal : aa.length ≤ 20) (N0 : Cfg → SV → Prop)
    (hN0 : ∀ (os' : List LO) (s : SV), (fun os' r => ∃ sel os2 s2, LeR ([] : List LO).length sel ⟨[], os2⟩ ⟨[], os'⟩ ∧ r = SV.ren sel s2 ∧ SV.okB sel.length s2 = true ∧ os2 = [] ∧ s2 = vv (.bool true)) os' s → N0 ⟨[], os'⟩ s) (K : Exit → Cfg → Prop)
    (hK : ∀ e c', FinI X [ResultVar.tmp 2] (fun c' s => N0 ⟨[], c'.loc⟩ s) e c' → K e c') :
    SX X (sub [true, true, true, true, true] (Tryd.f16.body.getD .skip)) ⟨[(2, vv (.bool false)), (3, vv (.bool true)), (5, .one (.c (.row 0)))], [mrow aa]⟩ K := by
  have hT : calleeOk X.P 44 = true ∧ X.P.underlying 106 = some (TypeDesc.slice 96) ∧ elemInf X.P 106 = some (96, 7, 64, (Value.agg #[(Value.int IntKind.i64 0), (Value.string { data := #[] }), (Value.int IntKind.u64 0), (Value.bool false), (Value.string { data := #[] }), (Value.bool false), (Value.int IntKind.u8 0)])) ∧ isStrT X.P 106 = false ∧ elemSz X.P 106 = some (96, 7) ∧ fieldOff X.P 96 1 = some 5 ∧ szOf X.P 4 = some 1 ∧ calleeOk X.P 52 = true ∧ calleeOk X.P 58 = true ∧ X.P.underlying 79 = some (TypeDesc.slice 89) ∧ elemSz X.P 79 = some (89, 5) ∧ fieldOff X.P 89 0 = some 0 ∧ aggOf X.P 26 = some true ∧ szOf X.P 26 = some 2 ∧ calleeOk X.P 63 = true ∧ calleeOk X.P 54 = true ∧ zeroCells X.P 89 = some [(Value.int IntKind.i64 0), (Value.string { data := #[] }), (Value.int IntKind.u64 0), (Value.bool false), (Value.string { data := #[] })] ∧ szOf X.P 89 = some 5 ∧ aggOf X.P 89 = some true ∧ calleeOk X.P 62 = true ∧ calleeOk X.P 56 = true := by rw [hP]; exact ⟨Ty.co44, Tryd.underlying106, Ty.ei106, Ty.is106, Ty.el106, Ty.fo96_1, Ty.sz4, Ty.co52, Ty.co58, Tryd.underlying79, Ty.el79, Ty.fo89_0, Ty.ag26, Ty.sz26, Ty.co63, Ty.co54, Ty.ze89, Ty.sz89, Ty.ag89, Ty.co62, Ty.co56⟩
  simp only [sub, Tryd.f16, Option.getD_some]
  obtain ⟨bs, hbs⟩ : ∃ bs, sortL aa = bs := ⟨_, rfl⟩
  have hbll : bs.length ≤ aa.length := by rw [← hbs]; exact sortL_len aa
  have hso := sort_ctr aa (by omega)
  rw [hbs] at hso
  have hSR : SortR bs := by rw [← hbs]; exact sortL_sorted aa
  have hso2 := sort_ctr bs (by omega)
  rw [sortL_same hSR] at hso2
  have hali := alike_ctr bs (by omega)
  have hlen : decide ((bs.length : Int) ≤ (aa.length : Int)) = true := by simp; omega
  have hk1 := True.intro
  have hf := True.intro
  repeat' (first
    | (refine SX.seqK ?_; intro N hN)
    | ((first | (refine SX.ops ?_) | (refine SX.planT (id := 14) [.s 0, .s 1, .s 2, .q [(3, [6, 39]), (4, [7, 39]), (5, [41, 39]), (6, [40, 42, 39]), (7, [43, 39]), (8, [44, 39]), (9, [6, 39]), (10, [7, 39]), (11, [46, 47, 39]), (12, [48, 39]), (13, [49, 39])] none, .s 14, .s 15, .s 16] ?_ ?_ ?_; (focus first | (rw [hP]; kernel_rfl) | (rw [hU1P, hP]; kernel_rfl)); (focus kernel_rfl)) | (refine SX.planT (id := 20) [.s 0, .s 1, .s 2, .q [(3, [5, 72]), (4, [8, 72]), (5, [73, 74, 72]), (6, [75, 72]), (7, [9, 72])] none, .s 8, .s 9] ?_ ?_ ?_; (focus first | (rw [hP]; kernel_rfl) | (rw [hU1P, hP]; kernel_rfl)); (focus kernel_rfl))); simp only [GA, ↓GB, List.filterMap_cons, eq_self, BEq.rfl, simprocAttr, hnt, hT, hk1, hf, hlen, findV])
    | ((first | refine SX.skip ?_ | refine SX.exit ?_ | refine SX.label ?_); try simp only [GA, ↓GB, List.filterMap_cons, eq_self, BEq.rfl, simprocAttr])
    | (refine SX.cond rfl (fun hb => ?_) (fun hb => ?_) <;> ((first | cases hb | (simp only [decide_eq_true_eq, decide_eq_false_iff_not, beq_iff_eq, beq_eq_false_iff_ne, bne_iff_ne, Bool.and_eq_true, Bool.or_eq_true, Bool.not_eq_true', Bool.not_eq_false', Bool.and_eq_false_iff, Bool.or_eq_false_iff, Int.not_lt, Int.not_le] at hb) | skip) <;> (first | (exfalso; omega) | skip)))
    | (refine SX.ret ?_; try simp only [GA, ↓GB, List.filterMap_cons, eq_self, BEq.rfl, simprocAttr])
    | (refine hN _ ?_; clear hN N)
    | ((first | refine hK _ _ (FinI.ret3 ?_) | refine hK _ _ (FinI.nrm3 ?_)); simp only [GA, ↓GB, List.filterMap_cons, eq_self, BEq.rfl, simprocAttr, finP_s, hnt, hT, hk1, hf, hlen, findV]; refine Done.out ?_)
    | (clear hN N; first | (refine hN _ ?_; clear hN N) | (clear hN N; first | (refine hN _ ?_; clear hN N) | (clear hN N; first | (refine hN _ ?_; clear hN N) | (clear hN N; first | (refine hN _ ?_; clear hN N) | (clear hN N; first | (refine hN _ ?_; clear hN N) | (refine hN _ ?_; clear hN N))))))
    | (refine bif2.mk (fun hb => ?_) (fun hb => ?_) <;> (try simp only [hb, GA, ↓GB, List.filterMap_cons, eq_self, BEq.rfl, simprocAttr, hnt, hT, hk1, hf, hlen, findV]) <;> ((first | cases hb | (simp only [decide_eq_true_eq, decide_eq_false_iff_not, beq_iff_eq, beq_eq_false_iff_ne, bne_iff_ne, Bool.and_eq_true, Bool.or_eq_true, Bool.not_eq_true', Bool.not_eq_false', Bool.and_eq_false_iff, Bool.or_eq_false_iff, Int.not_lt, Int.not_le] at hb) | skip) <;> (first | (exfalso; omega) | skip)))
    | ((first | (refine Ctr.use (hso) hP ?_ [0] ?_ rfl rfl ?_; (focus (intro p hp; cases hp)); (focus (refine LeR.of rfl trivial ?_ ?_ ?_ ?_ ?_ <;> first | decide | (simp only [GA, ↓GB, List.filterMap_cons, eq_self, BEq.rfl, simprocAttr, List.getD_cons_zero, List.getD_cons_succ, or_false, false_or, or_self, or_true, true_or, decide_true]; done))); intro os' s hR; obtain ⟨rfl, rfl⟩ := hR) | (refine CallVC.pv hP (order_any (bs.getD j default).t (bs.getD (j + 1) default).t (bs.getD j default).s (bs.getD (j + 1) default).s) rfl ?_) | (refine CallQ.pv hP (order_any (bs.getD j default).t (bs.getD (j + 1) default).t (bs.getD j default).s (bs.getD (j + 1) default).s) rfl ?_) | (refine Ctr.use (find_ctr bs (by omega) (aa.getD i default).t (aa.getD i default).s) hP ?_ [1] ?_ rfl rfl ?_; (focus (intro p hp; cases hp)); (focus (refine LeR.of rfl trivial ?_ ?_ ?_ ?_ ?_ <;> first | decide | (simp only [GA, ↓GB, List.filterMap_cons, eq_self, BEq.rfl, simprocAttr, List.getD_cons_zero, List.getD_cons_succ, or_false, false_or, or_self, or_true, true_or, decide_true]; done))); intro os' s hR; obtain ⟨rfl, rfl⟩ := hR) | (refine CallVC.pv hP (newer_any (aa.getD i default) y) rfl ?_) | (refine CallQ.pv hP (newer_any (aa.getD i default) y) rfl ?_) | (refine Ctr.use (hso2) hP ?_ [1] ?_ rfl rfl ?_; (focus (intro p hp; cases hp)); (focus (refine LeR.of rfl trivial ?_ ?_ ?_ ?_ ?_ <;> first | decide | (simp only [GA, ↓GB, List.filterMap_cons, eq_self, BEq.rfl, simprocAttr, List.getD_cons_zero, List.getD_cons_succ, or_false, false_or, or_self, or_true, true_or, decide_true]; done))); intro os' s hR; obtain ⟨rfl, rfl⟩ := hR) | (refine Ctr.use (hali) hP ?_ [2,1] ?_ rfl rfl ?_; (focus (intro p hp; cases hp)); (focus (refine LeR.of rfl trivial ?_ ?_ ?_ ?_ ?_ <;> first | decide | (simp only [GA, ↓GB, List.filterMap_cons, eq_self, BEq.rfl, simprocAttr, List.getD_cons_zero, List.getD_cons_succ, or_false, false_or, or_self, or_true, true_or, decide_true]; done))); intro os' s hR; obtain ⟨rfl, rfl⟩ := hR)); simp only [GA, ↓GB, List.filterMap_cons, eq_self, BEq.rfl, simprocAttr, hnt, hT, hk1, hf, hlen, findV])
    | (have hiB := hiA; refine SX.loop (ι := { i : Nat // i ≤ aa.length }) (fun i => ⟨[(2, vv (.bool false)), (3, vv (.bool true)), (5, .one (.c (.row 0))), (6, .one (.c (.row 1))), (8, vv (.int .i64 i.1))], [mrow aa, mrow bs]⟩) (fun i => aa.length - i.1) ⟨0, Nat.zero_le _⟩ ⟨[0, 1], by (refine LeR.of ?_ ?_ ?_ ?_ ?_ ?_ ?_ <;> first | (rw [hbl]; decide) | decide | (simp only [GA, ↓GB, List.filterMap_cons, eq_self, BEq.rfl, simprocAttr, List.getD_cons_zero, List.getD_cons_succ, or_false, false_or, or_self, or_true, true_or, decide_true]; done) | (simp only [GA, ↓GB, List.filterMap_cons, eq_self, BEq.rfl, simprocAttr, List.getD_cons_zero, List.getD_cons_succ, or_false, false_or, or_self, or_true, true_or, decide_true]; rfl; done))⟩ ?_ <;> rintro ⟨i, hi⟩ <;> simp only [] at hi ⊢ <;> rcases (hbs ▸ has_at i : aa.length ≤ i ∨ ∃ y, bs.find? (isK (aa.getD i default).t (aa.getD i default).s) = some y ∧ (aa.getD i default).q ≤ y.q) with hge | ⟨y, hf, hq⟩)
    | (refine SX.loop (ι := { i : Nat // i ≤ bs.length }) (fun i => ⟨[(2, vv (.bool false)), (3, vv (.bool true)), (5, .one (.c (.row 0))), (6, .one (.c (.row 1))), (7, vv (.int .i64 i.1))], [mrow aa, mrow bs]⟩) (fun i => bs.length - i.1) ⟨0, Nat.zero_le _⟩ ⟨[0, 1], by (refine LeR.of ?_ ?_ ?_ ?_ ?_ ?_ ?_ <;> first | (rw [hbl]; decide) | decide | (simp only [GA, ↓GB, List.filterMap_cons, eq_self, BEq.rfl, simprocAttr, List.getD_cons_zero, List.getD_cons_succ, or_false, false_or, or_self, or_true, true_or, decide_true]; done) | (simp only [GA, ↓GB, List.filterMap_cons, eq_self, BEq.rfl, simprocAttr, List.getD_cons_zero, List.getD_cons_succ, or_false, false_or, or_self, or_true, true_or, decide_true]; rfl; done))⟩ ?_ <;> rintro ⟨i, hiA⟩ <;> simp only [] at hiA ⊢ <;> rcases posCase hiA (by omega) with rfl | ⟨j, rfl, hk1⟩)
    | (refine ⟨_, rfl, mks_key _ _ (by omega), ?_⟩ <;> simp only [GA, ↓GB, List.filterMap_cons, eq_self, BEq.rfl, simprocAttr, hnt, hT])
    | (refine ⟨(aa.getD i default).cells, rfl, mks_at _ _ (by omega), ?_⟩ <;> simp only [Rs.cells, GA, ↓GB, List.filterMap_cons, eq_self, BEq.rfl, simprocAttr, hnt, hT])
    | (refine SX.block ?_)
    | (refine and_mk ?_ ?_; (focus first | decide | omega | rfl | assumption | (simp only [List.length_append, List.length_cons, List.length_nil, B_size]; omega) | (simp; done)))
    | (refine And.intro ?_ ?_))
  all_goals (try refine Done.mk ?_)
  · exact ⟨⟨1, by omega⟩, [0, 1], by (refine LeR.of ?_ ?_ ?_ ?_ ?_ ?_ ?_ <;> first | (rw [hbl]; decide) | decide | (simp only [GA, ↓GB, List.filterMap_cons, eq_self, BEq.rfl, simprocAttr, List.getD_cons_zero, List.getD_cons_succ, or_false, false_or, or_self, or_true, true_or, decide_true]; done) | (simp only [GA, ↓GB, List.filterMap_cons, eq_self, BEq.rfl, simprocAttr, List.getD_cons_zero, List.getD_cons_succ, or_false, false_or, or_self, or_true, true_or, decide_true]; rfl; done)), by show bs.length - 1 < bs.length - 0; omega⟩
  · (refine hN0 _ _ ⟨[], _, _, ?_, ?_, ?_, ⟨rfl, rfl⟩⟩; (focus exact LeR.of rfl trivial (by simp only [GA, ↓GB, List.filterMap_cons, eq_self, BEq.rfl, simprocAttr, List.getD_cons_zero, List.getD_cons_succ, or_false, false_or, or_self, or_true, true_or, decide_true]) (by decide) rfl rfl rfl); rotate_left; (focus rfl))
    rfl
  · exact ⟨⟨i + 1, by omega⟩, [0, 1], by (refine LeR.of ?_ ?_ ?_ ?_ ?_ ?_ ?_ <;> first | (rw [hbl]; decide) | decide | (simp only [GA, ↓GB, List.filterMap_cons, eq_self, BEq.rfl, simprocAttr, List.getD_cons_zero, List.getD_cons_succ, or_false, false_or, or_self, or_true, true_or, decide_true]; done) | (simp only [GA, ↓GB, List.filterMap_cons, eq_self, BEq.rfl, simprocAttr, List.getD_cons_zero, List.getD_cons_succ, or_false, false_or, or_self, or_true, true_or, decide_true]; first | (rw [wI64 (by omega) (by omega)]; rfl) | rfl; done)), by show aa.length - (i + 1) < aa.length - i; omega⟩
  · (refine hN0 _ _ ⟨[], _, _, ?_, ?_, ?_, ⟨rfl, rfl⟩⟩; (focus exact LeR.of rfl trivial (by simp only [GA, ↓GB, List.filterMap_cons, eq_self, BEq.rfl, simprocAttr, List.getD_cons_zero, List.getD_cons_succ, or_false, false_or, or_self, or_true, true_or, decide_true]) (by decide) rfl rfl rfl); rotate_left; (focus rfl))
    rfl
  · exact absurd (sort_lt hSR (j := j) (by omega)) (by omega)
  · exact ⟨⟨j + 1 + 1, by omega⟩, [0, 1], by (refine LeR.of ?_ ?_ ?_ ?_ ?_ ?_ ?_ <;> first | (rw [hbl]; decide) | decide | (simp only [GA, ↓GB, List.filterMap_cons, eq_self, BEq.rfl, simprocAttr, List.getD_cons_zero, List.getD_cons_succ, or_false, false_or, or_self, or_true, true_or, decide_true]; done) | (simp only [GA, ↓GB, List.filterMap_cons, eq_self, BEq.rfl, simprocAttr, List.getD_cons_zero, List.getD_cons_succ, or_false, false_or, or_self, or_true, true_or, decide_true]; first | (rw [wI64 (by omega) (by omega)]; rfl) | rfl; done)), by show bs.length - (j + 1 + 1) < bs.length - (j + 1); omega⟩
  · (refine hN0 _ _ ⟨[], _, _, ?_, ?_, ?_, ⟨rfl, rfl⟩⟩; (focus exact LeR.of rfl trivial (by simp only [GA, ↓GB, List.filterMap_cons, eq_self, BEq.rfl, simprocAttr, List.getD_cons_zero, List.getD_cons_succ, or_false, false_or, or_self, or_true, true_or, decide_true]) (by decide) rfl rfl rfl); rotate_left; (focus rfl))
    rfl
  · exact ⟨⟨i + 1, by omega⟩, [0, 1], by (refine LeR.of ?_ ?_ ?_ ?_ ?_ ?_ ?_ <;> first | (rw [hbl]; decide) | decide | (simp only [GA, ↓GB, List.filterMap_cons, eq_self, BEq.rfl, simprocAttr, List.getD_cons_zero, List.getD_cons_succ, or_false, false_or, or_self, or_true, true_or, decide_true]; done) | (simp only [GA, ↓GB, List.filterMap_cons, eq_self, BEq.rfl, simprocAttr, List.getD_cons_zero, List.getD_cons_succ, or_false, false_or, or_self, or_true, true_or, decide_true]; first | (rw [wI64 (by omega) (by omega)]; rfl) | rfl; done)), by show aa.length - (i + 1) < aa.length - i; omega⟩
  · (refine hN0 _ _ ⟨[], _, _, ?_, ?_, ?_, ⟨rfl, rfl⟩⟩; (focus exact LeR.of rfl trivial (by simp only [GA, ↓GB, List.filterMap_cons, eq_self, BEq.rfl, simprocAttr, List.getD_cons_zero, List.getD_cons_succ, or_false, false_or, or_self, or_true, true_or, decide_true]) (by decide) rfl rfl rfl); rotate_left; (focus rfl))
    rfl
end Go.Proofs.YtbdacbcpniegiaaDoor.Q
namespace Go.Sx
open Go Go.RowKit
theorem SX.reg3 {X : Ctx} {c : Cfg} {K : Exit → Cfg → Prop} {id : Nat} {o0 o1 o2 : Oper} (g0 : o0.guard = none) (g1 : o1.guard = none) (g2 : o2.guard = none) (h : vcOp X o0 c (fun c' => VO X o1 c' (fun c'' => vcOp X o2 c'' (K .normal)))) : SX X (.region id #[o0, o1, o2] false) c K :=
  SX.region (OX.cons g0 (vcOp_sound h) (fun c' h' => OX.cons g1 h' (fun c'' h'' => OX.cons g2 (vcOp_sound h'') (fun _ h3 => OX.nil h3))))
end Go.Sx
namespace Go.Proofs.YtbdacbcpniegiaaDoor.Q
open Go Go.RowKit Go.Proofs Go.Sx
set_option maxHeartbeats 16000000
set_option maxRecDepth 100000
set_option linter.unusedSimpArgs false
set_option linter.unusedVariables false
theorem elemT : elemInf Tryd.prog 106 = some (96, 7, 64, .agg #[.int .i64 0, .string (B []), .int .u64 0, .bool false, .string (B []), .bool false, .int .u8 0]) := by kernel_rfl
theorem ths_own0 (xs : List Th) (h : 0 < xs.length) : (ths xs).take 5 ++ [Value.bool true] ++ (ths xs).drop 6 = ths (ownN 1 xs) := ths_own xs 0 h
theorem sorted_nil {e : EA} (he : e.Ok) (q : Option Addr) (cap : Nat) :
    CtrF Tryd.prog (fun X => KnF X e q []) 16 [] [vv (.slice q 0 cap)] (fun os v => os = [] ∧ v = vv (.bool true)) := by
  have hex := ex04_ctr he
  have ht : CtrF Tryd.prog (fun X => FarT X q []) 52 [] [vv (.slice q 0 cap), vv (.int .i64 20)] (fun os v => os = [mrow []] ∧ v = .one (.c (.row 0))) := things_ctr [] q cap 20 (by decide)
  refine CtrF.less ?_
  intro X0 hP0 hG0 N0 hN0
  refine CallVC.inline (f := 16) (by rw [hP0]; exact Tryd.func16) rfl Tryd.ntmps16 rfl (by simp) ?_
  intro X K hU hnt hbl hK
  have hP : X.P = Tryd.prog := by rw [hU.P, hP0]
  have hG := hG0.under hU
  have hT : calleeOk X.P 44 = true ∧ X.P.underlying 106 = some (TypeDesc.slice 96) ∧ elemInf X.P 106 = some (96, 7, 64, (Value.agg #[(Value.int IntKind.i64 0), (Value.string { data := #[] }), (Value.int IntKind.u64 0), (Value.bool false), (Value.string { data := #[] }), (Value.bool false), (Value.int IntKind.u8 0)])) ∧ isStrT X.P 106 = false ∧ elemSz X.P 106 = some (96, 7) ∧ fieldOff X.P 96 1 = some 5 ∧ szOf X.P 4 = some 1 ∧ calleeOk X.P 52 = true ∧ calleeOk X.P 58 = true ∧ X.P.underlying 79 = some (TypeDesc.slice 89) ∧ elemSz X.P 79 = some (89, 5) ∧ fieldOff X.P 89 0 = some 0 ∧ aggOf X.P 26 = some true ∧ szOf X.P 26 = some 2 ∧ calleeOk X.P 63 = true ∧ calleeOk X.P 54 = true ∧ zeroCells X.P 89 = some [(Value.int IntKind.i64 0), (Value.string { data := #[] }), (Value.int IntKind.u64 0), (Value.bool false), (Value.string { data := #[] })] ∧ szOf X.P 89 = some 5 ∧ aggOf X.P 89 = some true ∧ calleeOk X.P 62 = true ∧ calleeOk X.P 56 = true := by rw [hP]; exact ⟨Ty.co44, Tryd.underlying106, Ty.ei106, Ty.is106, Ty.el106, Ty.fo96_1, Ty.sz4, Ty.co52, Ty.co58, Tryd.underlying79, Ty.el79, Ty.fo89_0, Ty.ag26, Ty.sz26, Ty.co63, Ty.co54, Ty.ze89, Ty.sz89, Ty.ag89, Ty.co62, Ty.co56⟩
  simp only [GA, ↓GB, List.filterMap_cons, eq_self, BEq.rfl, simprocAttr] at hbl ⊢
  have hKF := hG
  clear hG
  have hG := hKF.g
  repeat' (first
    | (refine SX.select (d := ⟨[(2, vv (.bool false)), (3, vv (.bool true)), (5, .one (.c (.row 0)))], [mrow []]⟩) [0] (by (refine LeR.of ?_ ?_ ?_ ?_ ?_ ?_ ?_ <;> first | (rw [hbl]; decide) | decide | (simp only [GA, ↓GB, List.filterMap_cons, eq_self, BEq.rfl, simprocAttr, List.getD_cons_zero, List.getD_cons_succ, or_false, false_or, or_self, or_true, true_or, decide_true]; done) | (simp only [GA, ↓GB, List.filterMap_cons, eq_self, BEq.rfl, simprocAttr, List.getD_cons_zero, List.getD_cons_succ, or_false, false_or, or_self, or_true, true_or, decide_true]; rfl; done))) (sorted_l hP hnt hbl [] (by decide) N0 hN0 _ hK))
    | (refine SX.seqK ?_; intro N hN)
    | ((first | (refine SX.ops ?_) | (refine SX.planT (id := 14) [.s 0, .s 1, .s 2, .q [(3, [6, 39]), (4, [7, 39]), (5, [41, 39]), (6, [40, 42, 39]), (7, [43, 39]), (8, [44, 39]), (9, [6, 39]), (10, [7, 39]), (11, [46, 47, 39]), (12, [48, 39]), (13, [49, 39])] none, .s 14, .s 15, .s 16] ?_ ?_ ?_; (focus first | (rw [hP]; kernel_rfl) | (rw [hU1P, hP]; kernel_rfl)); (focus kernel_rfl)) | (refine SX.planT (id := 20) [.s 0, .s 1, .s 2, .q [(3, [5, 72]), (4, [8, 72]), (5, [73, 74, 72]), (6, [75, 72]), (7, [9, 72])] none, .s 8, .s 9] ?_ ?_ ?_; (focus first | (rw [hP]; kernel_rfl) | (rw [hU1P, hP]; kernel_rfl)); (focus kernel_rfl))); simp only [GA, ↓GB, List.filterMap_cons, eq_self, BEq.rfl, simprocAttr, hnt, hT])
    | ((first | refine SX.skip ?_ | refine SX.exit ?_ | refine SX.label ?_); try simp only [GA, ↓GB, List.filterMap_cons, eq_self, BEq.rfl, simprocAttr])
    | (refine SX.cond rfl (fun hb => ?_) (fun hb => ?_) <;> ((first | cases hb | (simp only [decide_eq_true_eq, decide_eq_false_iff_not, beq_iff_eq, beq_eq_false_iff_ne, bne_iff_ne, Bool.and_eq_true, Bool.or_eq_true, Bool.not_eq_true', Bool.not_eq_false', Bool.and_eq_false_iff, Bool.or_eq_false_iff, Int.not_lt, Int.not_le] at hb) | skip) <;> (first | (exfalso; omega) | skip)))
    | (refine SX.ret ?_; try simp only [GA, ↓GB, List.filterMap_cons, eq_self, BEq.rfl, simprocAttr])
    | (refine hN _ ?_; clear hN N)
    | ((first | refine hK _ _ (FinI.ret3 ?_) | refine hK _ _ (FinI.nrm3 ?_)); simp only [GA, ↓GB, List.filterMap_cons, eq_self, BEq.rfl, simprocAttr, finP_s, hnt, hT]; refine Done.out ?_)
    | (clear hN N; first | (refine hN _ ?_; clear hN N) | (clear hN N; first | (refine hN _ ?_; clear hN N) | (clear hN N; first | (refine hN _ ?_; clear hN N) | (clear hN N; first | (refine hN _ ?_; clear hN N) | (clear hN N; first | (refine hN _ ?_; clear hN N) | (refine hN _ ?_; clear hN N))))))
    | (refine bif2.mk (fun hb => ?_) (fun hb => ?_) <;> (try simp only [hb, GA, ↓GB, List.filterMap_cons, eq_self, BEq.rfl, simprocAttr, hnt, hT]) <;> ((first | cases hb | (simp only [decide_eq_true_eq, decide_eq_false_iff_not, beq_iff_eq, beq_eq_false_iff_ne, bne_iff_ne, Bool.and_eq_true, Bool.or_eq_true, Bool.not_eq_true', Bool.not_eq_false', Bool.and_eq_false_iff, Bool.or_eq_false_iff, Int.not_lt, Int.not_le] at hb) | skip) <;> (first | (exfalso; omega) | skip)))
    | ((first | (refine Ctr.use (hex) hP hG [] ?_ rfl rfl ?_; (focus (refine LeR.of rfl trivial ?_ ?_ ?_ ?_ ?_ <;> first | decide | (simp only [GA, ↓GB, List.filterMap_cons, eq_self, BEq.rfl, simprocAttr, List.getD_cons_zero, List.getD_cons_succ, or_false, false_or, or_self, or_true, true_or, decide_true]; done))); intro os' s hR; obtain ⟨rfl, rfl⟩ := hR) | (refine CtrF.use (ht) hP (fun X' hU => hKF.f.under hU) [] ?_ rfl rfl ?_; (focus (refine LeR.of rfl trivial ?_ ?_ ?_ ?_ ?_ <;> first | decide | (simp only [GA, ↓GB, List.filterMap_cons, eq_self, BEq.rfl, simprocAttr, List.getD_cons_zero, List.getD_cons_succ, or_false, false_or, or_self, or_true, true_or, decide_true]; done))); intro os' s hR; obtain ⟨rfl, rfl⟩ := hR)); simp only [GA, ↓GB, List.filterMap_cons, eq_self, BEq.rfl, simprocAttr, hnt, hT])
    | (refine SX.loop (ι := Unit) (fun _ => ⟨[(0, vv (.slice q 0 cap)), (2, vv (.bool false)), (3, vv (.bool true)), (4, vv (.int .i64 0))], []⟩) (fun _ => 0) () ⟨[], by (refine LeR.of ?_ ?_ ?_ ?_ ?_ ?_ ?_ <;> first | (rw [hbl]; decide) | decide | (simp only [GA, ↓GB, List.filterMap_cons, eq_self, BEq.rfl, simprocAttr, List.getD_cons_zero, List.getD_cons_succ, or_false, false_or, or_self, or_true, true_or, decide_true]; done) | (simp only [GA, ↓GB, List.filterMap_cons, eq_self, BEq.rfl, simprocAttr, List.getD_cons_zero, List.getD_cons_succ, or_false, false_or, or_self, or_true, true_or, decide_true]; rfl; done))⟩ ?_ <;> intro u)
    | (refine SX.block ?_)
    | (refine and_mk ?_ ?_; (focus first | decide | omega | rfl | assumption | (simp only [List.length_append, List.length_cons, List.length_nil, B_size]; omega) | (simp; done)))
    | (refine And.intro ?_ ?_))
  all_goals (try refine Done.mk ?_)
theorem sorted_cons {e : EA} (he : e.Ok) (xs : List Th) (hne : 0 < xs.length) (hn : xs.length ≤ 2199023255552) (q : Option Addr) (cap : Nat) :
    CtrF Tryd.prog (fun X => KnF X e q xs) 16 [] [vv (.slice q xs.length cap)] (fun os v => os = [] ∧ v = vv (.bool true)) := by
  have hex := ex04_ctr he
  refine CtrF.less ?_
  intro X0 hP0 hG0 N0 hN0
  refine CallVC.inline (f := 16) (by rw [hP0]; exact Tryd.func16) rfl Tryd.ntmps16 rfl (by simp) ?_
  intro X K hU hnt hbl hK
  have hP : X.P = Tryd.prog := by rw [hU.P, hP0]
  have hG := hG0.under hU
  have hT : calleeOk X.P 44 = true ∧ X.P.underlying 106 = some (TypeDesc.slice 96) ∧ elemInf X.P 106 = some (96, 7, 64, (Value.agg #[(Value.int IntKind.i64 0), (Value.string { data := #[] }), (Value.int IntKind.u64 0), (Value.bool false), (Value.string { data := #[] }), (Value.bool false), (Value.int IntKind.u8 0)])) ∧ isStrT X.P 106 = false ∧ elemSz X.P 106 = some (96, 7) ∧ fieldOff X.P 96 1 = some 5 ∧ szOf X.P 4 = some 1 ∧ calleeOk X.P 52 = true ∧ calleeOk X.P 58 = true ∧ X.P.underlying 79 = some (TypeDesc.slice 89) ∧ elemSz X.P 79 = some (89, 5) ∧ fieldOff X.P 89 0 = some 0 ∧ aggOf X.P 26 = some true ∧ szOf X.P 26 = some 2 ∧ calleeOk X.P 63 = true ∧ calleeOk X.P 54 = true ∧ zeroCells X.P 89 = some [(Value.int IntKind.i64 0), (Value.string { data := #[] }), (Value.int IntKind.u64 0), (Value.bool false), (Value.string { data := #[] })] ∧ szOf X.P 89 = some 5 ∧ aggOf X.P 89 = some true ∧ calleeOk X.P 62 = true ∧ calleeOk X.P 56 = true := by rw [hP]; exact ⟨Ty.co44, Tryd.underlying106, Ty.ei106, Ty.is106, Ty.el106, Ty.fo96_1, Ty.sz4, Ty.co52, Ty.co58, Tryd.underlying79, Ty.el79, Ty.fo89_0, Ty.ag26, Ty.sz26, Ty.co63, Ty.co54, Ty.ze89, Ty.sz89, Ty.ag89, Ty.co62, Ty.co56⟩
  simp only [GA, ↓GB, List.filterMap_cons, eq_self, BEq.rfl, simprocAttr] at hbl ⊢
  have hKF := hG
  clear hG
  have hG := hKF.g
  obtain ⟨ad, rfl, hao, _⟩ := hKF.f 0 hne
  repeat' (first
    | (refine SX.select (d := ⟨[(2, vv (.bool false)), (3, vv (.bool true)), (5, .one (.c (.row 0)))], [mrow (((ownN (k + 1) xs).take 20).map thV)]⟩) [1] (by (refine LeR.of ?_ ?_ ?_ ?_ ?_ ?_ ?_ <;> first | (rw [hbl]; decide) | decide | (simp only [GA, ↓GB, List.filterMap_cons, eq_self, BEq.rfl, simprocAttr, List.getD_cons_zero, List.getD_cons_succ, or_false, false_or, or_self, or_true, true_or, decide_true]; done) | (simp only [GA, ↓GB, List.filterMap_cons, eq_self, BEq.rfl, simprocAttr, List.getD_cons_zero, List.getD_cons_succ, or_false, false_or, or_self, or_true, true_or, decide_true]; rfl; done))) (sorted_l hP hnt hbl (((ownN (k + 1) xs).take 20).map thV) (by rw [List.length_map, List.length_take]; omega) N0 hN0 _ hK))
    | (refine SX.reg3 (id := 7) rfl rfl rfl ?_; simp only [GA, ↓GB, List.filterMap_cons, eq_self, BEq.rfl, simprocAttr, hnt, hT])
    | (refine SX.seqK ?_; intro N hN)
    | ((first | (refine SX.ops ?_) | (refine SX.planT (id := 14) [.s 0, .s 1, .s 2, .q [(3, [6, 39]), (4, [7, 39]), (5, [41, 39]), (6, [40, 42, 39]), (7, [43, 39]), (8, [44, 39]), (9, [6, 39]), (10, [7, 39]), (11, [46, 47, 39]), (12, [48, 39]), (13, [49, 39])] none, .s 14, .s 15, .s 16] ?_ ?_ ?_; (focus first | (rw [hP]; kernel_rfl) | (rw [hU1P, hP]; kernel_rfl)); (focus kernel_rfl)) | (refine SX.planT (id := 20) [.s 0, .s 1, .s 2, .q [(3, [5, 72]), (4, [8, 72]), (5, [73, 74, 72]), (6, [75, 72]), (7, [9, 72])] none, .s 8, .s 9] ?_ ?_ ?_; (focus first | (rw [hP]; kernel_rfl) | (rw [hU1P, hP]; kernel_rfl)); (focus kernel_rfl))); simp only [GA, ↓GB, List.filterMap_cons, eq_self, BEq.rfl, simprocAttr, hnt, hT])
    | ((first | refine SX.skip ?_ | refine SX.exit ?_ | refine SX.label ?_); try simp only [GA, ↓GB, List.filterMap_cons, eq_self, BEq.rfl, simprocAttr])
    | (refine SX.cond rfl (fun hb => ?_) (fun hb => ?_) <;> ((first | cases hb | (simp only [decide_eq_true_eq, decide_eq_false_iff_not, beq_iff_eq, beq_eq_false_iff_ne, bne_iff_ne, Bool.and_eq_true, Bool.or_eq_true, Bool.not_eq_true', Bool.not_eq_false', Bool.and_eq_false_iff, Bool.or_eq_false_iff, Int.not_lt, Int.not_le] at hb) | skip) <;> (first | (exfalso; omega) | skip)))
    | (refine SX.ret ?_; try simp only [GA, ↓GB, List.filterMap_cons, eq_self, BEq.rfl, simprocAttr])
    | (refine hN _ ?_; clear hN N)
    | ((first | refine hK _ _ (FinI.ret3 ?_) | refine hK _ _ (FinI.nrm3 ?_)); simp only [GA, ↓GB, List.filterMap_cons, eq_self, BEq.rfl, simprocAttr, finP_s, hnt, hT]; refine Done.out ?_)
    | (clear hN N; first | (refine hN _ ?_; clear hN N) | (clear hN N; first | (refine hN _ ?_; clear hN N) | (clear hN N; first | (refine hN _ ?_; clear hN N) | (clear hN N; first | (refine hN _ ?_; clear hN N) | (clear hN N; first | (refine hN _ ?_; clear hN N) | (refine hN _ ?_; clear hN N))))))
    | (refine bif2.mk (fun hb => ?_) (fun hb => ?_) <;> (try simp only [hb, GA, ↓GB, List.filterMap_cons, eq_self, BEq.rfl, simprocAttr, hnt, hT]) <;> ((first | cases hb | (simp only [decide_eq_true_eq, decide_eq_false_iff_not, beq_iff_eq, beq_eq_false_iff_ne, bne_iff_ne, Bool.and_eq_true, Bool.or_eq_true, Bool.not_eq_true', Bool.not_eq_false', Bool.and_eq_false_iff, Bool.or_eq_false_iff, Int.not_lt, Int.not_le] at hb) | skip) <;> (first | (exfalso; omega) | skip)))
    | ((first | (refine Ctr.use (hex) hP hG [] ?_ rfl rfl ?_; (focus (refine LeR.of rfl trivial ?_ ?_ ?_ ?_ ?_ <;> first | decide | (simp only [GA, ↓GB, List.filterMap_cons, eq_self, BEq.rfl, simprocAttr, List.getD_cons_zero, List.getD_cons_succ, or_false, false_or, or_self, or_true, true_or, decide_true]; done))); intro os' s hR; obtain ⟨rfl, rfl⟩ := hR) | (refine Ctr.use (things_own (ownN (k + 1) xs) (by rw [ownN_len]; omega) 20 (by decide)) hP ?_ [0] ?_ rfl rfl ?_; (focus (intro p hp; cases hp)); (focus (refine LeR.of rfl trivial ?_ ?_ ?_ ?_ ?_ <;> first | decide | (simp only [GA, ↓GB, List.filterMap_cons, eq_self, BEq.rfl, simprocAttr, List.getD_cons_zero, List.getD_cons_succ, or_false, false_or, or_self, or_true, true_or, decide_true]; done))); intro os' s hR; obtain ⟨rfl, rfl⟩ := hR)); simp only [GA, ↓GB, List.filterMap_cons, eq_self, BEq.rfl, simprocAttr, hnt, hT])
    | (show VO X _ _ _; refine VO.appendNilFar (ad := ad) (cap := cap) (ys := ths xs) rfl rfl (by rw [hP]; exact elemT) (ths_length xs) (far_cells hKF.f) hao (ths_one xs) (by simp only [maxLen]; omega) (by omega) ?_; simp only [GA, ↓GB, List.filterMap_cons, eq_self, BEq.rfl, simprocAttr, hnt, hT])
    | (show VO X _ _ _; refine VO.appendNilRow (j := 0) (e' := 96) (ys := ths (ownN (k + 1) xs)) rfl rfl (by rw [hP]; exact elemT) rfl (ths_one _) (by rw [ownN_len]; simp only [maxLen]; omega) (by rw [ownN_len]; omega) ?_; simp only [GA, ↓GB, List.filterMap_cons, eq_self, BEq.rfl, simprocAttr, hnt, hT])
    | (refine SX.loop (ι := { i : Nat // i ≤ xs.length }) (fun i => match i.1 with | 0 => ⟨[(0, vv (.slice (some ad) xs.length cap)), (2, vv (.bool false)), (3, vv (.bool true)), (4, vv (.int .i64 0))], []⟩ | k + 1 => ⟨[(0, .one (.c (.row 0))), (2, vv (.bool false)), (3, vv (.bool true)), (4, vv (.int .i64 (k + 1 : Nat)))], [trow (ownN (k + 1) xs)]⟩) (fun i => xs.length - i.1) ⟨0, Nat.zero_le _⟩ ⟨[], by dsimp only; (refine LeR.of ?_ ?_ ?_ ?_ ?_ ?_ ?_ <;> first | (rw [hbl]; decide) | decide | (simp only [GA, ↓GB, List.filterMap_cons, eq_self, BEq.rfl, simprocAttr, List.getD_cons_zero, List.getD_cons_succ, or_false, false_or, or_self, or_true, true_or, decide_true]; done) | (simp only [GA, ↓GB, List.filterMap_cons, eq_self, BEq.rfl, simprocAttr, List.getD_cons_zero, List.getD_cons_succ, or_false, false_or, or_self, or_true, true_or, decide_true]; rfl; done))⟩ ?_ <;> rintro ⟨i, hi⟩ <;> dsimp only at hi ⊢ <;> rcases i with _ | k <;> dsimp only)
    | (refine SX.block ?_)
    | (refine and_mk ?_ ?_; (focus first | decide | omega | rfl | assumption | (simp only [List.length_append, List.length_cons, List.length_nil, B_size]; omega) | (simp; done)))
    | (refine And.intro ?_ ?_))
  all_goals (try refine Done.mk ?_)
  · rw [ths_length]; omega
  · have e2 : LO.row 96 7 xs.length ((ths xs).take 5 ++ [Value.bool true] ++ (ths xs).drop 6) = trow (ownN 1 xs) := by rw [ths_own0 xs hne]; simp only [trow, ownN_len]
    rw [e2]
    refine ⟨⟨1, hne⟩, [1], ?_, by show xs.length - 1 < xs.length - 0; omega⟩
    show LeR _ _ ⟨[(0, .one (.c (.row 0))), (2, vv (.bool false)), (3, vv (.bool true)), (4, vv (.int .i64 1))], [trow (ownN 1 xs)]⟩ _
    (refine LeR.of ?_ ?_ ?_ ?_ ?_ ?_ ?_ <;> first | (rw [hbl]; decide) | decide | (simp only [GA, ↓GB, List.filterMap_cons, eq_self, BEq.rfl, simprocAttr, List.getD_cons_zero, List.getD_cons_succ, or_false, false_or, or_self, or_true, true_or, decide_true]; done) | (simp only [GA, ↓GB, List.filterMap_cons, eq_self, BEq.rfl, simprocAttr, List.getD_cons_zero, List.getD_cons_succ, or_false, false_or, or_self, or_true, true_or, decide_true]; rfl; done))
  · rw [ths_length]; omega
  · have hl := ownN_len (k + 1) xs
    have e2 : LO.row 96 7 (ownN (k + 1) xs).length ((ths (ownN (k + 1) xs)).take ((k + 1) * 7 + 5) ++ [Value.bool true] ++ (ths (ownN (k + 1) xs)).drop ((k + 1) * 7 + 5 + 1)) = trow (ownN (k + 1 + 1) xs) := by rw [ths_own xs (k + 1) (by omega)]; simp only [trow, ownN_len]
    rw [e2]
    refine ⟨⟨k + 1 + 1, by omega⟩, [2], ?_, by show xs.length - (k + 1 + 1) < xs.length - (k + 1); omega⟩
    show LeR _ _ ⟨[(0, .one (.c (.row 0))), (2, vv (.bool false)), (3, vv (.bool true)), (4, vv (.int .i64 (k + 1 + 1 : Nat)))], [trow (ownN (k + 1 + 1) xs)]⟩ _
    rw [wI64 (x := ((k + 1 : Nat) : Int) + 1) (by omega) (by omega)]
    (refine LeR.of ?_ ?_ ?_ ?_ ?_ ?_ ?_ <;> first | (rw [hbl]; decide) | decide | (simp only [GA, ↓GB, List.filterMap_cons, eq_self, BEq.rfl, simprocAttr, List.getD_cons_zero, List.getD_cons_succ, or_false, false_or, or_self, or_true, true_or, decide_true]; done) | (simp only [GA, ↓GB, List.filterMap_cons, eq_self, BEq.rfl, simprocAttr, List.getD_cons_zero, List.getD_cons_succ, or_false, false_or, or_self, or_true, true_or, decide_true]; rfl; done))
end Go.Proofs.YtbdacbcpniegiaaDoor.Q
namespace Go.Proofs.YtbdacbcpniegiaaDoor.Q
open Go Go.RowKit Go.Proofs Go.Sx Go.ChangeShapes Go.WideShapes Go.ChangeAt
set_option maxHeartbeats 4000000
set_option maxRecDepth 100000
set_option linter.unusedSimpArgs false
set_option linter.unusedVariables false
theorem things_len {H : Type} {enc : TypeId × Value → H} {W : World} {a : Option Addr} {len cap : Nat} {d : DataW H} {p : List MemPlace} (h : DataW.Trod enc Tryd.prog W 0 (fun _ => true) true 106 (.slice a len cap) d p)
    (hs : (DataW.weightsEach Tryd.prog [106] [d]).all (· ≤ reachBytes) = true) : len ≤ 2199023255552 := by
  obtain ⟨fuel, hf⟩ := h
  have b96 : Tryd.prog.bytesOf 96 = 64 := by kernel_rfl
  rcases Go.Deep.open_slice Tryd.underlying106 hf with ⟨hcs, _⟩ | ⟨x, l, c, m, n, D, Pl, hcs, _, hl, hm, em, hd, hel⟩
  · simp [Value.cells] at hcs
    obtain ⟨rfl, rfl, rfl⟩ := hcs
    omega
  · simp [Value.cells] at hcs
    obtain ⟨rfl, rfl, rfl⟩ := hcs
    injection hd with hd _
    subst hd
    simp [DataW.weightsEach, DataW.weights, Tryd.underlying106, b96, reachBytes] at hs
    obtain ⟨h1, _⟩ := hs
    have h1 := of_decide_eq_true h1
    omega
theorem sorted_any (xs : List Th) (q : Option Addr) (cap : Nat) (w : World) (ho : ∀ x ∈ xs, x.Ok)
    (hc : ∀ i, i < xs.length → ∃ ad, q = some ad ∧ ∀ j v, (xs.getD i default).cells[j]? = some v → w.cell? (ad.add (i * 7 + j)) = some v) {e : EA} (he : e.Ok) (hG : ∀ p ∈ GW e, w.cell? p.1 = some p.2 ∧ loneStr w p) (hn : xs.length ≤ 2199023255552) :
    Calls Tryd.prog 16 #[.slice q xs.length cap] w fun x w' => x = .returned (.bool true) ∧ Below w.heap.size w w' := by
  have hctr : CtrF Tryd.prog (fun X => KnF X e q xs) 16 [] [vv (.slice q xs.length cap)] (fun os v => os = [] ∧ v = vv (.bool true)) := by
    rcases Nat.eq_zero_or_pos xs.length with h0 | h0
    · obtain rfl := List.eq_nil_of_length_eq_zero h0
      exact sorted_nil he q cap
    · exact sorted_cons he xs h0 hn q cap
  refine (ctrF_calls hctr w (knF_in hG hc) (vals := [.slice q xs.length cap]) ⟨rfl, trivial⟩).mono ?_
  rintro x w' ⟨v, os', s, σ', rfl, ⟨rfl, rfl⟩, hd, hb⟩
  have hd : v = .bool true := hd
  subst hd
  exact ⟨rfl, hb⟩
end Go.Proofs.YtbdacbcpniegiaaDoor.Q
