/- Own work: a part of the symbolic executor and of the walks of the functions that the claim reaches. -/
import Derived.Test.YtbdacbcpniegiaaDoorBase6
namespace Go.Sx
open Go Go.RowKit
def CtrF (P : Program) (F : Ctx → Prop) (f : FuncId) (os : List LO) (args : List SV) (R : List LO → SV → Prop) : Prop :=
  ∀ X : Ctx, X.P = P → F X → ∀ N : Cfg → SV → Prop, (∀ os' s, R os' s → N ⟨[], os'⟩ s) → CallVC X ⟨[], os⟩ f args N
theorem CtrF.use {X : Ctx} {c : Cfg} {P : Program} {F : Ctx → Prop} {f : FuncId} {os : List LO} {args args' : List SV} {R : List LO → SV → Prop} {N : Cfg → SV → Prop} (h : CtrF P F f os args R) (hP : X.P = P) (hF : ∀ X', Under X X' → F X') (sel : List Nat)
    (hle : LeR 0 sel ⟨[], os⟩ c) (ha' : args' = args.map (SV.ren sel)) (hok : (args.all fun s => s.okB sel.length) = true)
    (hN : ∀ os' s, R os' s → N { env := c.env, loc := patchL c.loc sel (selN c.loc.length sel os') os' } (s.ren (selN c.loc.length sel os'))) : CallVC X c f args' N := by
  refine CallVC.frame sel (Q := fun c' s => R c'.loc s) (fun X' hU => h X' (by rw [hU.P, hP]) (hF X' hU) _ (fun os s hr => hr)) hle ha' hok (fun c' s hq => ?_)
  have := hN c'.loc s hq
  rw [selN_eq] at this
  exact this
theorem CtrF.less {P : Program} {F : Ctx → Prop} {f : FuncId} {os : List LO} {args : List SV} {R : List LO → SV → Prop}
    (h : CtrF P F f os args (fun os' r => ∃ sel os2 s2, LeR os.length sel ⟨[], os2⟩ ⟨[], os'⟩ ∧ r = s2.ren sel ∧ s2.okB sel.length = true ∧ R os2 s2)) : CtrF P F f os args R := by
  intro X hP hF N hN ρ σ a w hr vals ha
  have hb : X.base.length ≤ os.length := by
    have hl : σ.length = os.length := hr.lenS
    rcases Nat.lt_or_ge os.length X.base.length with h0 | h0
    · have := hr.pin os.length X.base[os.length] (by simp [h0])
      rw [List.getElem?_eq_none (by omega)] at this; cases this
    · exact h0
  refine (h X hP hF (fun c s => ∃ sel os2 s2, LeR os.length sel ⟨[], os2⟩ c ∧ s = s2.ren sel ∧ s2.okB sel.length = true ∧ R os2 s2) (fun os' s hR => hR) ρ σ a w hr vals ha).mono ?_
  rintro e w' ⟨v, c', ρ', σ', s, rfl, hr', hd, sel, os2, s2, hl, rfl, hok, hR⟩
  exact ⟨v, ⟨[], os2⟩, _, _, s2, rfl, Rel.leR ⟨fun i hi => hl.pin i (by omega), hl.env, hl.len, hl.loc, hl.nd, hl.lt, hl.okE, hl.okL⟩ hr', DV.ren hok hd, hN _ _ hR⟩
end Go.Sx
namespace Go.Proofs.YtbdacbcpniegiaaDoor.Q
open Go Go.RowKit Go.Proofs Go.Sx
set_option maxHeartbeats 8000000
set_option maxRecDepth 100000
set_option linter.unusedSimpArgs false
set_option linter.unusedVariables false
theorem add_block (ad : Addr) (i : Nat) : (ad.add i).block = ad.block := by unfold Addr.add; split <;> rfl
def FarT (X : Ctx) (q : Option Addr) (xs : List Th) : Prop := ∀ i, i < xs.length → ∃ ad : Addr, q = some ad ∧ ad.block ∉ X.own ∧ ∀ j v, (xs.getD i default).cells[j]? = some v → X.wi.cell? ((ad.add (i * 7)).add j) = some v
theorem FarT.under {X X' : Ctx} {q : Option Addr} {xs : List Th} (h : FarT X q xs) (hU : Under X X') : FarT X' q xs := fun i hi => by
  obtain ⟨ad, e, ho, hc⟩ := h i hi
  have hb : ∀ j, ((ad.add (i * 7)).add j).block = ad.block := fun j => by rw [add_block, add_block]
  have h0 : ∃ v, (xs.getD i default).cells[0]? = some v := ⟨_, rfl⟩
  obtain ⟨v, hv⟩ := h0
  refine ⟨ad, e, ?_, fun j v hj => (hU.cell (hc j v hj) (by rw [hb]; exact ho)).1⟩
  have := (hU.cell (hc 0 v hv) (by rw [hb]; exact ho)).2
  rwa [hb] at this
def thV (x : Th) : Rs := if x.own = true then thL x.r x.nm else x.r
theorem thing_any (x : Th) (w : World) : Calls Tryd.prog 46 #[.agg #[.int .i64 x.r.t, .string (B x.r.s), .int .u64 x.r.q, .bool x.r.g, .string (B x.r.b), .bool x.own, .int .u8 x.nm]] w
    fun y w' => y = .returned (.agg #[.int .i64 (thV x).t, .string (B (thV x).s), .int .u64 (thV x).q, .bool (thV x).g, .string (B (thV x).b)]) ∧ Below w.heap.size w w' := by
  obtain ⟨r, own, nm⟩ := x
  cases own with
  | false => exact thing_no r.t r.s r.b r.q r.g nm w
  | true => exact thing_yes r.t r.s r.b r.q r.g nm w
structure ThIn (X : Ctx) (ad : Addr) (i : Nat) (x : Th) : Prop where
  own : ad.block ∉ X.own
  cell : ∀ j v, x.cells[j]? = some v → X.wi.cell? ((ad.add (i * 7)).add j) = some v
theorem thBlk {X : Ctx} {code : Code} {c : Cfg} {K : Exit → Cfg → Prop} {id i : Nat} {q : Option Addr} {xs : List Th} (h : FarT X q xs) (hi : i < xs.length)
    (h1 : ∀ ad, q = some ad → ThIn X ad i (xs.getD i default) → SX X code c (bx id K)) : SX X (.block id code) c K := by
  refine SX.block ?_
  obtain ⟨ad, e, ho, hv⟩ := h i hi
  exact h1 ad e ⟨ho, hv⟩
theorem th_take {xs : List Th} {i : Nat} (hi : i < xs.length) : (xs.take (i + 1)).map thV = (xs.take i).map thV ++ [thV (xs.getD i default)] := by
  rw [List.take_add_one, List.getElem?_eq_getElem hi, List.getD_eq_getElem?_getD, List.getElem?_eq_getElem hi, List.map_append]; rfl
theorem mrow_snoc (ms : List Rs) (r : Rs) : LO.row 89 5 (ms.length + 1) (mks ms ++ [.int .i64 r.t, .string (B r.s), .int .u64 r.q, .bool r.g, .string (B r.b)]) = mrow (ms ++ [r]) := by
  simp only [mrow, List.length_append, List.length_cons, List.length_nil, mks_append]; rfl
theorem things_ctr (xs : List Th) (q : Option Addr) (cap most : Nat) (hm : most ≤ 100) : CtrF Tryd.prog (fun X => FarT X q xs) 52 [] [vv (.slice q xs.length cap), vv (.int .i64 most)] (fun os v => os = [mrow ((xs.take most).map thV)] ∧ v = .one (.c (.row 0))) := by
  refine CtrF.less ?_
  intro X0 hP0 hG0 N0 hN0
  refine CallVC.inline (f := 52) (by rw [hP0]; exact Tryd.func52) rfl Tryd.ntmps52 rfl (by simp) ?_
  intro X K hU hnt hbl hK
  have hP : X.P = Tryd.prog := by rw [hU.P, hP0]
  have hG := hG0.under hU
  have hT : X.P.underlying 106 = some (TypeDesc.slice 96) ∧ elemSz X.P 106 = some (96, 7) ∧ aggOf X.P 96 = some true ∧ szOf X.P 96 = some 7 ∧ calleeOk X.P 46 = true ∧ elemSz X.P 79 = some (89, 5) ∧ zeroCells X.P 89 = some [(Value.int IntKind.i64 0), (Value.string { data := #[] }), (Value.int IntKind.u64 0), (Value.bool false), (Value.string { data := #[] })] ∧ elemInf X.P 79 = some (89, 5, 56, (Value.agg #[(Value.int IntKind.i64 0), (Value.string { data := #[] }), (Value.int IntKind.u64 0), (Value.bool false), (Value.string { data := #[] })])) ∧ isStrT X.P 79 = false := by rw [hP]; exact ⟨Tryd.underlying106, Ty.el106, Ty.ag96, Ty.sz96, Ty.co46, Ty.el79, Ty.ze89, Ty.ei79, Ty.is79⟩
  simp only [GA, ↓GB, List.filterMap_cons, eq_self, BEq.rfl, simprocAttr] at hbl ⊢
  repeat' (first
    | (refine SX.asRow (t := 5) 89 5 rfl ⟨_, rfl⟩ ?_)
    | (refine thBlk (id := 1) (i := i) hG (by omega) (fun ad hE D => ?_) <;> subst hE)
    | (refine SX.seqK ?_; intro N hN)
    | ((first | (refine SX.ops ?_)); simp only [GA, ↓GB, List.filterMap_cons, eq_self, BEq.rfl, simprocAttr, hnt, hT])
    | ((first | refine SX.skip ?_ | refine SX.exit ?_ | refine SX.label ?_); try simp only [GA, ↓GB, List.filterMap_cons, eq_self, BEq.rfl, simprocAttr])
    | (refine SX.cond rfl (fun hb => ?_) (fun hb => ?_) <;> ((first | cases hb | (simp only [decide_eq_true_eq, decide_eq_false_iff_not, beq_iff_eq, beq_eq_false_iff_ne, bne_iff_ne, Bool.and_eq_true, Bool.or_eq_true, Bool.not_eq_true', Bool.not_eq_false', Bool.and_eq_false_iff, Bool.or_eq_false_iff, Int.not_lt, Int.not_le] at hb) | skip) <;> (first | (exfalso; omega) | skip)))
    | (refine SX.ret ?_; try simp only [GA, ↓GB, List.filterMap_cons, eq_self, BEq.rfl, simprocAttr])
    | (refine hN _ ?_; clear hN N)
    | ((first | refine hK _ _ (FinI.ret3 ?_) | refine hK _ _ (FinI.nrm3 ?_)); simp only [GA, ↓GB, List.filterMap_cons, eq_self, BEq.rfl, simprocAttr, finP_s, hnt, hT]; refine Done.out ?_)
    | (clear hN N; first | (refine hN _ ?_; clear hN N) | (clear hN N; first | (refine hN _ ?_; clear hN N) | (clear hN N; first | (refine hN _ ?_; clear hN N) | (clear hN N; first | (refine hN _ ?_; clear hN N) | (clear hN N; first | (refine hN _ ?_; clear hN N) | (refine hN _ ?_; clear hN N))))))
    | (refine bif2.mk (fun hb => ?_) (fun hb => ?_) <;> (try simp only [hb, GA, ↓GB, List.filterMap_cons, eq_self, BEq.rfl, simprocAttr, hnt, hT]) <;> ((first | cases hb | (simp only [decide_eq_true_eq, decide_eq_false_iff_not, beq_iff_eq, beq_eq_false_iff_ne, bne_iff_ne, Bool.and_eq_true, Bool.or_eq_true, Bool.not_eq_true', Bool.not_eq_false', Bool.and_eq_false_iff, Bool.or_eq_false_iff, Int.not_lt, Int.not_le] at hb) | skip) <;> (first | (exfalso; omega) | skip)))
    | ((first | (refine CallVC.pa hP (thing_any (xs.getD i default)) rfl ?_) | (refine CallQ.pa hP (thing_any (xs.getD i default)) rfl ?_)); simp only [GA, ↓GB, List.filterMap_cons, eq_self, BEq.rfl, simprocAttr, hnt, hT])
    | (refine ⟨(xs.getD i default).cells, rfl, D.cell, ?_⟩ <;> simp only [Th.cells, Rs.cells, List.map_cons, List.map_nil, List.cons_append, List.nil_append, GA, ↓GB, List.filterMap_cons, eq_self, BEq.rfl, simprocAttr, hnt, hT])
    | (exact D.own)
    | (refine SX.loop (ι := { i : Nat // i ≤ xs.length ∧ i ≤ most }) (fun i => ⟨[(0, vv (.slice q xs.length cap)), (1, vv (.int .i64 most)), (4, vv (.slice none 0 0)), (5, .one (.c (.row 0))), (6, vv (.int .i64 i.1))], [mrow ((xs.take i.1).map thV)]⟩) (fun i => xs.length - i.1) ⟨0, Nat.zero_le _, Nat.zero_le _⟩ ⟨[0], by (refine LeR.of ?_ ?_ ?_ ?_ ?_ ?_ ?_ <;> first | (rw [hbl]; decide) | decide | (simp only [GA, ↓GB, List.filterMap_cons, eq_self, BEq.rfl, simprocAttr, List.getD_cons_zero, List.getD_cons_succ, or_false, false_or, or_self, or_true, true_or, decide_true]; done) | (simp only [GA, ↓GB, List.filterMap_cons, eq_self, BEq.rfl, simprocAttr, List.getD_cons_zero, List.getD_cons_succ, or_false, false_or, or_self, or_true, true_or, decide_true]; rfl; done))⟩ ?_ <;> rintro ⟨i, hi, hi2⟩ <;> simp only [] at hi hi2 ⊢)
    | (refine SX.block ?_)
    | (refine and_mk ?_ ?_; (focus first | decide | omega | rfl | assumption | (simp only [List.length_append, List.length_cons, List.length_nil, B_size]; omega) | (simp; done)))
    | (refine And.intro ?_ ?_))
  all_goals (try refine Done.mk ?_)
  · rw [add_block]; exact D.own
  · simp only [List.length_map, List.length_take]; omega
  · have e := mrow_snoc ((xs.take i).map thV) (thV (xs.getD i default))
    rw [← th_take (by omega)] at e
    rw [e]
    exact ⟨⟨i + 1, by omega, by omega⟩, [2], by (refine LeR.of ?_ ?_ ?_ ?_ ?_ ?_ ?_ <;> first | (rw [hbl]; decide) | decide | (simp only [GA, ↓GB, List.filterMap_cons, eq_self, BEq.rfl, simprocAttr, List.getD_cons_zero, List.getD_cons_succ, or_false, false_or, or_self, or_true, true_or, decide_true]; done) | (simp only [GA, ↓GB, List.filterMap_cons, eq_self, BEq.rfl, simprocAttr, List.getD_cons_zero, List.getD_cons_succ, or_false, false_or, or_self, or_true, true_or, decide_true]; first | (rw [wI64 (by omega) (by omega)]; rfl) | rfl; done)), by show xs.length - (i + 1) < xs.length - i; omega⟩
  · have e : xs.take most = xs.take i := by rw [show most = i by omega]
    rw [e] at hN0
    (refine hN0 _ _ ⟨[0], _, _, ?_, ?_, ?_, ⟨rfl, rfl⟩⟩; (focus exact LeR.of rfl trivial (by simp only [GA, ↓GB, List.filterMap_cons, eq_self, BEq.rfl, simprocAttr, List.getD_cons_zero, List.getD_cons_succ, or_false, false_or, or_self, or_true, true_or, decide_true]) (by decide) rfl rfl rfl); rotate_left; (focus rfl))
    rfl
  · have e : xs.take most = xs.take i := by rw [List.take_of_length_le (by omega), List.take_of_length_le (by omega)]
    rw [e] at hN0
    (refine hN0 _ _ ⟨[0], _, _, ?_, ?_, ?_, ⟨rfl, rfl⟩⟩; (focus exact LeR.of rfl trivial (by simp only [GA, ↓GB, List.filterMap_cons, eq_self, BEq.rfl, simprocAttr, List.getD_cons_zero, List.getD_cons_succ, or_false, false_or, or_self, or_true, true_or, decide_true]) (by decide) rfl rfl rfl); rotate_left; (focus rfl))
    rfl
end Go.Proofs.YtbdacbcpniegiaaDoor.Q
namespace Go.Proofs.YtbdacbcpniegiaaDoor.Q
open Go Go.RowKit Go.Proofs Go.Sx
set_option maxRecDepth 100000
set_option linter.unusedSimpArgs false
set_option linter.unusedVariables false
theorem isK_eq {b : Int} {t : List UInt8} {m : Rs} : isK b t m = true ↔ m.t = b ∧ m.s = t := by
  simp [isK]
theorem isK_self (x : Rs) : isK x.t x.s x = true := isK_eq.2 ⟨rfl, rfl⟩
theorem setL_parts (ms : List Rs) (x : Rs) : ∃ a c, setL ms x = a ++ x :: c ∧ cutL x ms = a ++ c ∧ (∀ m ∈ a, isK x.t x.s m = false) ∧ (∀ m ∈ c, isK x.t x.s m = false) := by
  have hall : ∀ m ∈ cutL x ms, isK x.t x.s m = false := fun m hm => by
    have := (List.mem_filter.1 hm).2
    simpa using this
  unfold setL
  split
  · rename_i k _
    refine ⟨(cutL x ms).take k, (cutL x ms).drop k, rfl, (List.take_append_drop _ _).symm, fun m hm => hall m (List.mem_of_mem_take hm), fun m hm => hall m (List.mem_of_mem_drop hm)⟩
  · exact ⟨cutL x ms, [], rfl, (List.append_nil _).symm, hall, fun m hm => by cases hm⟩
theorem set_find (ms : List Rs) (x : Rs) : (setL ms x).find? (isK x.t x.s) = some x := by
  obtain ⟨a, c, e, _, ha, _⟩ := setL_parts ms x
  rw [e, List.find?_append, List.find?_eq_none.2 (fun m hm => by rw [ha m hm]; decide), Option.none_or, List.find?_cons, isK_self]
theorem set_cut (ms : List Rs) (x : Rs) : cutL x (setL ms x) = cutL x ms := by
  obtain ⟨a, c, e, e2, ha, hc⟩ := setL_parts ms x
  have f : ∀ l : List Rs, (∀ m ∈ l, isK x.t x.s m = false) → cutL x l = l := fun l hl => List.filter_eq_self.2 fun m hm => by rw [hl m hm]; rfl
  rw [e, e2, cutL, List.filter_append, List.filter_cons, isK_self]
  show cutL x a ++ cutL x c = a ++ c
  rw [f a ha, f c hc]
theorem cut_find (ms : List Rs) (x : Rs) : (cutL x ms).find? (isK x.t x.s) = none := by
  rw [List.find?_eq_none]
  intro m hm
  have := (List.mem_filter.1 hm).2
  simpa using this
theorem find_filter {p q : Rs → Bool} (h : ∀ m, p m = true → q m = true) (l : List Rs) : (l.filter q).find? p = l.find? p := by
  induction l with
  | nil => rfl
  | cons m l ih =>
    rw [List.filter_cons, List.find?_cons]
    cases hp : p m with
    | true => rw [if_pos (h m hp), List.find?_cons, hp]
    | false =>
      cases hq : q m with
      | true => simp [List.find?_cons, hp, ih]
      | false => simp [ih]
theorem set_other (ms : List Rs) (x : Rs) (b : Int) (t : List UInt8) (h : ¬ (x.t = b ∧ x.s = t)) : (setL ms x).find? (isK b t) = ms.find? (isK b t) := by
  obtain ⟨a, c, e, e2, ha, hc⟩ := setL_parts ms x
  have hx : isK b t x = false := by
    rw [Bool.eq_false_iff]; exact fun e => h (isK_eq.1 e)
  have h1 : (setL ms x).find? (isK b t) = (cutL x ms).find? (isK b t) := by
    rw [e, e2, List.find?_append, List.find?_append, List.find?_cons, hx]
  rw [h1]
  refine find_filter (fun m hm => ?_) ms
  obtain ⟨rfl, rfl⟩ := isK_eq.1 hm
  rw [Bool.not_eq_true', Bool.eq_false_iff]
  exact fun e => h (by obtain ⟨e1, e2⟩ := isK_eq.1 e; exact ⟨e1.symm, e2.symm⟩)
def manyL (b : Int) (t : List UInt8) (ms : List Rs) : Nat := (ms.filter (isK b t)).length
theorem set_many (ms : List Rs) (x : Rs) : manyL x.t x.s (setL ms x) = 1 := by
  obtain ⟨a, c, e, _, ha, hc⟩ := setL_parts ms x
  have f : ∀ l : List Rs, (∀ m ∈ l, isK x.t x.s m = false) → l.filter (isK x.t x.s) = [] := fun l hl => List.filter_eq_nil_iff.2 fun m hm => by rw [hl m hm]; decide
  rw [manyL, e, List.filter_append, f a ha, List.filter_cons, isK_self, if_pos rfl, f c hc]; rfl
theorem many_go {b : Int} {t : List UInt8} {ms : List Rs} {i : Nat} (hi : i < ms.length) : manyL b t (ms.take (i + 1)) = manyL b t (ms.take i) + (if isK b t (ms.getD i default) = true then 1 else 0) := by
  rw [List.take_add_one, List.getElem?_eq_getElem hi, List.getD_eq_getElem?_getD, List.getElem?_eq_getElem hi]
  simp only [manyL, List.filter_append, List.length_append, Option.toList_some, Option.getD_some, List.filter_cons, List.filter_nil]
  split <;> rfl
theorem many_le (b : Int) (t : List UInt8) (ms : List Rs) : manyL b t ms ≤ ms.length := List.length_filter_le _ _
end Go.Proofs.YtbdacbcpniegiaaDoor.Q
namespace Go.Proofs.YtbdacbcpniegiaaDoor.Q
open Go Go.RowKit Go.Proofs Go.Sx
set_option maxHeartbeats 8000000
set_option maxRecDepth 100000
set_option linter.unusedSimpArgs false
set_option linter.unusedVariables false
theorem alike_ctr (ms : List Rs) (hms : ms.length ≤ 1000000) : Ctr Tryd.prog [] 56 [mrow ms, mrow ms] [.one (.c (.row 0)), .one (.c (.row 1))] (fun os v => os = [mrow ms, mrow ms] ∧ v = vv (.bool true)) := by
  refine Ctr.less ?_
  intro X0 hP0 hG0 N0 hN0
  refine CallVC.inline (f := 56) (by rw [hP0]; exact Tryd.func56) rfl Tryd.ntmps56 rfl (by simp) ?_
  intro X K hU hnt hbl hK
  have hP : X.P = Tryd.prog := by rw [hU.P, hP0]
  have hG := hG0.under hU
  have hT : X.P.underlying 79 = some (TypeDesc.slice 89) ∧ elemSz X.P 79 = some (89, 5) ∧ aggOf X.P 89 = some true ∧ szOf X.P 89 = some 5 := by rw [hP]; exact ⟨Tryd.underlying79, Ty.el79, Ty.ag89, Ty.sz89⟩
  simp only [GA, ↓GB, List.filterMap_cons, eq_self, BEq.rfl, simprocAttr] at hbl ⊢
  repeat' (first
    | (refine SX.seqK ?_; intro N hN)
    | ((first | (refine SX.ops ?_) | (refine SX.planT (id := 6) [.q [(0, [0]), (1, [5]), (2, [17, 18]), (3, [19]), (4, [1]), (5, [5]), (6, [21, 22]), (7, [23]), (8, [20, 24])] none] ?_ ?_ ?_; (focus first | (rw [hP]; kernel_rfl) | (rw [hU1P, hP]; kernel_rfl)); (focus kernel_rfl))); simp only [GA, ↓GB, List.filterMap_cons, eq_self, BEq.rfl, simprocAttr, hnt, hT])
    | ((first | refine SX.skip ?_ | refine SX.exit ?_ | refine SX.label ?_); try simp only [GA, ↓GB, List.filterMap_cons, eq_self, BEq.rfl, simprocAttr])
    | (refine SX.cond rfl (fun hb => ?_) (fun hb => ?_) <;> ((first | cases hb | (simp only [decide_eq_true_eq, decide_eq_false_iff_not, beq_iff_eq, beq_eq_false_iff_ne, bne_iff_ne, Bool.and_eq_true, Bool.or_eq_true, Bool.not_eq_true', Bool.not_eq_false', Bool.and_eq_false_iff, Bool.or_eq_false_iff, Int.not_lt, Int.not_le] at hb) | skip) <;> (first | (exfalso; omega) | skip)))
    | (refine SX.ret ?_; try simp only [GA, ↓GB, List.filterMap_cons, eq_self, BEq.rfl, simprocAttr])
    | (refine hN _ ?_; clear hN N)
    | ((first | refine hK _ _ (FinI.ret3 ?_) | refine hK _ _ (FinI.nrm3 ?_)); simp only [GA, ↓GB, List.filterMap_cons, eq_self, BEq.rfl, simprocAttr, finP_s, hnt, hT]; refine Done.out ?_)
    | (clear hN N; first | (refine hN _ ?_; clear hN N) | (clear hN N; first | (refine hN _ ?_; clear hN N) | (clear hN N; first | (refine hN _ ?_; clear hN N) | (clear hN N; first | (refine hN _ ?_; clear hN N) | (clear hN N; first | (refine hN _ ?_; clear hN N) | (refine hN _ ?_; clear hN N))))))
    | (refine bif2.mk (fun hb => ?_) (fun hb => ?_) <;> (try simp only [hb, GA, ↓GB, List.filterMap_cons, eq_self, BEq.rfl, simprocAttr, hnt, hT]) <;> ((first | cases hb | (simp only [decide_eq_true_eq, decide_eq_false_iff_not, beq_iff_eq, beq_eq_false_iff_ne, bne_iff_ne, Bool.and_eq_true, Bool.or_eq_true, Bool.not_eq_true', Bool.not_eq_false', Bool.and_eq_false_iff, Bool.or_eq_false_iff, Int.not_lt, Int.not_le] at hb) | skip) <;> (first | (exfalso; omega) | skip)))
    | (refine SX.loop (ι := { i : Nat // i ≤ ms.length }) (fun i => ⟨[(0, .one (.c (.row 0))), (1, .one (.c (.row 1))), (4, vv (.bool false)), (5, vv (.int .i64 i.1))], [mrow ms, mrow ms]⟩) (fun i => ms.length - i.1) ⟨0, Nat.zero_le _⟩ ⟨[0, 1], by (refine LeR.of ?_ ?_ ?_ ?_ ?_ ?_ ?_ <;> first | (rw [hbl]; decide) | decide | (simp only [GA, ↓GB, List.filterMap_cons, eq_self, BEq.rfl, simprocAttr, List.getD_cons_zero, List.getD_cons_succ, or_false, false_or, or_self, or_true, true_or, decide_true]; done) | (simp only [GA, ↓GB, List.filterMap_cons, eq_self, BEq.rfl, simprocAttr, List.getD_cons_zero, List.getD_cons_succ, or_false, false_or, or_self, or_true, true_or, decide_true]; rfl; done))⟩ ?_ <;> rintro ⟨i, hi⟩ <;> simp only [] at hi ⊢)
    | (refine ⟨(ms.getD i default).cells, rfl, mks_at _ _ (by omega), ?_⟩ <;> simp only [Rs.cells, GA, ↓GB, List.filterMap_cons, eq_self, BEq.rfl, simprocAttr, hnt, hT])
    | (refine ⟨_, strEq_to hP (Ty.eqS89 _ _ _ _ _ _ _ _ _ _), ?_⟩)
    | (refine SX.block ?_)
    | (refine and_mk ?_ ?_; (focus first | decide | omega | rfl | assumption | (simp only [List.length_append, List.length_cons, List.length_nil, B_size]; omega) | (simp; done)))
    | (refine And.intro ?_ ?_))
  all_goals (try refine Done.mk ?_)
  · exfalso; simp at hb
  · exact ⟨⟨i + 1, by omega⟩, [0, 1], by (refine LeR.of ?_ ?_ ?_ ?_ ?_ ?_ ?_ <;> first | (rw [hbl]; decide) | decide | (simp only [GA, ↓GB, List.filterMap_cons, eq_self, BEq.rfl, simprocAttr, List.getD_cons_zero, List.getD_cons_succ, or_false, false_or, or_self, or_true, true_or, decide_true]; done) | (simp only [GA, ↓GB, List.filterMap_cons, eq_self, BEq.rfl, simprocAttr, List.getD_cons_zero, List.getD_cons_succ, or_false, false_or, or_self, or_true, true_or, decide_true]; first | (rw [wI64 (by omega) (by omega)]; rfl) | rfl; done)), by show ms.length - (i + 1) < ms.length - i; omega⟩
  · (refine hN0 _ _ ⟨[0, 1], _, _, ?_, ?_, ?_, ⟨rfl, rfl⟩⟩; (focus exact LeR.of rfl trivial (by simp only [GA, ↓GB, List.filterMap_cons, eq_self, BEq.rfl, simprocAttr, List.getD_cons_zero, List.getD_cons_succ, or_false, false_or, or_self, or_true, true_or, decide_true]) (by decide) rfl rfl rfl); rotate_left; (focus rfl))
    rfl
def z0 : Rs := ⟨0, [], 0, false, []⟩
theorem findV_eq (o : Option Rs) : findV o = .tup [.agg [.v (.int .i64 (o.getD z0).t), .v (.string (B (o.getD z0).s)), .v (.int .u64 (o.getD z0).q), .v (.bool (o.getD z0).g), .v (.string (B (o.getD z0).b))], .c (.v (.bool o.isSome))] := by
  cases o <;> rfl
theorem mks_key (ms : List Rs) (i : Nat) (h : i < ms.length) : ((mks ms).drop (i * 5)).take 2 = [.int .i64 (ms.getD i default).t, .string (B (ms.getD i default).s)] := by
  have := congrArg (List.take 2) (mks_at ms i h)
  rw [List.take_take] at this
  exact this
end Go.Proofs.YtbdacbcpniegiaaDoor.Q
namespace Go.Proofs.YtbdacbcpniegiaaDoor.Q
open Go Go.RowKit Go.Proofs Go.Sx
set_option maxHeartbeats 16000000
set_option maxRecDepth 100000
set_option linter.unusedSimpArgs false
set_option linter.unusedVariables false
structure KnF (X : Ctx) (e : EA) (q : Option Addr) (xs : List Th) : Prop where
  g : Known X (GW e)
  f : FarT X q xs
theorem KnF.under {X X' : Ctx} {e : EA} {q : Option Addr} {xs : List Th} (h : KnF X e q xs) (hU : Under X X') : KnF X' e q xs := ⟨h.g.under hU, h.f.under hU⟩
theorem cutL_len (x : Rs) (ms : List Rs) : (cutL x ms).length ≤ ms.length := List.length_filter_le _ _
theorem many_end {r : Rs} {bs : List Rs} {i n : Nat} (hm : manyL r.t r.s bs = 1) (hi : i ≤ bs.length) (hn : n = manyL r.t r.s (bs.take i)) : i < bs.length ∨ (i = bs.length ∧ n = 1) := by
  rcases Nat.lt_or_ge i bs.length with h | h
  · exact .inl h
  · exact .inr ⟨by omega, by rw [hn, List.take_of_length_le h, hm]⟩
theorem sets_ctr {e : EA} (he : e.Ok) (xs : List Th) (q : Option Addr) (cap : Nat) (x : Th) (kt : Int) (ks : List UInt8) (y z : Rs) (is still : Bool)
    (h1 : ∀ aa : List Rs, (xs.take 10).map thV = aa → findV (aa.find? (isK kt ks)) = .tup [.agg [.v (.int .i64 y.t), .v (.string (B y.s)), .v (.int .u64 y.q), .v (.bool y.g), .v (.string (B y.b))], .c (.v (.bool is))])
    (h2 : ∀ aa : List Rs, (xs.take 10).map thV = aa → findV ((setL aa (thV x)).find? (isK kt ks)) = .tup [.agg [.v (.int .i64 z.t), .v (.string (B z.s)), .v (.int .u64 z.q), .v (.bool z.g), .v (.string (B z.b))], .c (.v (.bool still))])
    (hk : (kt = (thV x).t ∧ ks = (thV x).s) ∨ (y = z ∧ is = still)) :
    CtrF Tryd.prog (fun X => KnF X e q xs) 13 [] [vv (.slice q xs.length cap), .one (.agg [.v (.int .i64 x.r.t), .v (.string (B x.r.s)), .v (.int .u64 x.r.q), .v (.bool x.r.g), .v (.string (B x.r.b)), .v (.bool x.own), .v (.int .u8 x.nm)]), .one (.agg [.v (.int .i64 kt), .v (.string (B ks))])] (fun os v => os = [] ∧ v = vv (.bool true)) := by
  have hex := ex04_ctr he
  obtain ⟨aa, has⟩ : ∃ aa, (xs.take 10).map thV = aa := ⟨_, rfl⟩
  have hal : aa.length ≤ 10 := by rw [← has]; simp; omega
  have ht := things_ctr xs q cap 10 (by decide)
  rw [has] at ht
  have h1 := h1 aa has
  have h2 := h2 aa has
  have hth := thing_any x
  obtain ⟨r, hr⟩ : ∃ r, thV x = r := ⟨_, rfl⟩
  rw [hr] at h2 hk hth
  obtain ⟨bs, hbs⟩ : ∃ bs, setL aa r = bs := ⟨_, rfl⟩
  have hbll : bs.length ≤ 11 := by rw [← hbs]; exact Nat.le_trans (setL_len aa r) (by omega)
  have hset := set_ctr aa (by omega) r
  rw [hbs] at hset h2
  have hf1 := find_ctr bs (by omega) r.t r.s
  rw [← hbs, set_find aa r, hbs] at hf1
  have hc1 := cut_ctr bs (by omega) r.t r.s
  obtain ⟨cs, hcs⟩ : ∃ cs, cutL r aa = cs := ⟨_, rfl⟩
  have ec : bs.filter (fun m => !isK r.t r.s m) = cs := by rw [← hbs, ← hcs]; exact set_cut aa r
  rw [ec] at hc1
  have hc2 := cut_ctr aa (by omega) r.t r.s
  rw [show aa.filter (fun m => !isK r.t r.s m) = cs from hcs] at hc2
  have hcl : cs.length ≤ 10 := by rw [← hcs]; exact Nat.le_trans (cutL_len r aa) hal
  have hf2 := find_ctr cs (by omega) r.t r.s
  rw [← hcs, cut_find aa r, hcs] at hf2
  have hf3 := find_ctr aa (by omega) kt ks
  rw [h1] at hf3
  have hf4 := find_ctr bs (by omega) kt ks
  rw [h2] at hf4
  have hali := alike_ctr cs (by omega)
  have hmany : manyL r.t r.s bs = 1 := by rw [← hbs]; exact set_many aa r
  simp only [findV] at hf1 hf2
  refine CtrF.less ?_
  intro X0 hP0 hG0 N0 hN0
  refine CallVC.inline (f := 13) (by rw [hP0]; exact Tryd.func13) rfl Tryd.ntmps13 rfl (by simp) ?_
  intro X K hU hnt hbl hK
  have hP : X.P = Tryd.prog := by rw [hU.P, hP0]
  have hG := hG0.under hU
  have hT : calleeOk X.P 44 = true ∧ calleeOk X.P 52 = true ∧ aggOf X.P 96 = some true ∧ szOf X.P 96 = some 7 ∧ calleeOk X.P 46 = true ∧ zeroCells X.P 89 = some [(Value.int IntKind.i64 0), (Value.string { data := #[] }), (Value.int IntKind.u64 0), (Value.bool false), (Value.string { data := #[] })] ∧ szOf X.P 89 = some 5 ∧ aggOf X.P 89 = some true ∧ calleeOk X.P 53 = true ∧ fieldOff X.P 89 0 = some 0 ∧ aggOf X.P 26 = some true ∧ szOf X.P 26 = some 2 ∧ calleeOk X.P 54 = true ∧ X.P.underlying 79 = some (TypeDesc.slice 89) ∧ elemSz X.P 79 = some (89, 5) ∧ calleeOk X.P 55 = true ∧ calleeOk X.P 56 = true ∧ X.P.underlying 4 = some TypeDesc.bool := by rw [hP]; exact ⟨Ty.co44, Ty.co52, Ty.ag96, Ty.sz96, Ty.co46, Ty.ze89, Ty.sz89, Ty.ag89, Ty.co53, Ty.fo89_0, Ty.ag26, Ty.sz26, Ty.co54, Tryd.underlying79, Ty.el79, Ty.co55, Ty.co56, Tryd.underlying4⟩
  simp only [GA, ↓GB, List.filterMap_cons, eq_self, BEq.rfl, simprocAttr] at hbl ⊢
  have hKF := hG
  have hG := hKF.g
  repeat' (first
    | (refine SX.seqK ?_; intro N hN)
    | ((first | (refine SX.ops ?_) | (refine SX.planT (id := 12) [.q [(0, [10]), (1, [14]), (2, [47, 48]), (3, [49]), (4, [50]), (5, [9]), (6, [52]), (7, [51, 53])] none] ?_ ?_ ?_; (focus first | (rw [hP]; kernel_rfl) | (rw [hU1P, hP]; kernel_rfl)); (focus kernel_rfl))); simp only [GA, ↓GB, List.filterMap_cons, eq_self, BEq.rfl, simprocAttr, hnt, hT])
    | ((first | refine SX.skip ?_ | refine SX.exit ?_ | refine SX.label ?_); try simp only [GA, ↓GB, List.filterMap_cons, eq_self, BEq.rfl, simprocAttr])
    | (refine SX.cond rfl (fun hb => ?_) (fun hb => ?_) <;> ((first | cases hb | (simp only [decide_eq_true_eq, decide_eq_false_iff_not, beq_iff_eq, beq_eq_false_iff_ne, bne_iff_ne, Bool.and_eq_true, Bool.or_eq_true, Bool.not_eq_true', Bool.not_eq_false', Bool.and_eq_false_iff, Bool.or_eq_false_iff, Int.not_lt, Int.not_le] at hb) | skip) <;> (first | (exfalso; omega) | skip)))
    | (refine SX.ret ?_; try simp only [GA, ↓GB, List.filterMap_cons, eq_self, BEq.rfl, simprocAttr])
    | (refine hN _ ?_; clear hN N)
    | ((first | refine hK _ _ (FinI.ret3 ?_) | refine hK _ _ (FinI.nrm3 ?_)); simp only [GA, ↓GB, List.filterMap_cons, eq_self, BEq.rfl, simprocAttr, finP_s, hnt, hT]; refine Done.out ?_)
    | (clear hN N; first | (refine hN _ ?_; clear hN N) | (clear hN N; first | (refine hN _ ?_; clear hN N) | (clear hN N; first | (refine hN _ ?_; clear hN N) | (clear hN N; first | (refine hN _ ?_; clear hN N) | (clear hN N; first | (refine hN _ ?_; clear hN N) | (refine hN _ ?_; clear hN N))))))
    | (refine bif2.mk (fun hb => ?_) (fun hb => ?_) <;> (try simp only [hb, GA, ↓GB, List.filterMap_cons, eq_self, BEq.rfl, simprocAttr, hnt, hT]) <;> ((first | cases hb | (simp only [decide_eq_true_eq, decide_eq_false_iff_not, beq_iff_eq, beq_eq_false_iff_ne, bne_iff_ne, Bool.and_eq_true, Bool.or_eq_true, Bool.not_eq_true', Bool.not_eq_false', Bool.and_eq_false_iff, Bool.or_eq_false_iff, Int.not_lt, Int.not_le] at hb) | skip) <;> (first | (exfalso; omega) | skip)))
    | ((first | (refine Ctr.use (hex) hP hG [] ?_ rfl rfl ?_; (focus (refine LeR.of rfl trivial ?_ ?_ ?_ ?_ ?_ <;> first | decide | (simp only [GA, ↓GB, List.filterMap_cons, eq_self, BEq.rfl, simprocAttr, List.getD_cons_zero, List.getD_cons_succ, or_false, false_or, or_self, or_true, true_or, decide_true]; done))); intro os' s hR; obtain ⟨rfl, rfl⟩ := hR) | (refine CtrF.use (ht) hP (fun X' hU => hKF.f.under hU) [] ?_ rfl rfl ?_; (focus (refine LeR.of rfl trivial ?_ ?_ ?_ ?_ ?_ <;> first | decide | (simp only [GA, ↓GB, List.filterMap_cons, eq_self, BEq.rfl, simprocAttr, List.getD_cons_zero, List.getD_cons_succ, or_false, false_or, or_self, or_true, true_or, decide_true]; done))); intro os' s hR; obtain ⟨rfl, rfl⟩ := hR) | (refine CallVC.pa hP (hth) rfl ?_) | (refine CallQ.pa hP (hth) rfl ?_) | (refine Ctr.use (hset) hP ?_ [2] ?_ rfl rfl ?_; (focus (intro p hp; cases hp)); (focus (refine LeR.of rfl trivial ?_ ?_ ?_ ?_ ?_ <;> first | decide | (simp only [GA, ↓GB, List.filterMap_cons, eq_self, BEq.rfl, simprocAttr, List.getD_cons_zero, List.getD_cons_succ, or_false, false_or, or_self, or_true, true_or, decide_true]; done))); intro os' s hR; obtain ⟨rfl, rfl⟩ := hR) | (refine Ctr.use (hf1) hP ?_ [4] ?_ rfl rfl ?_; (focus (intro p hp; cases hp)); (focus (refine LeR.of rfl trivial ?_ ?_ ?_ ?_ ?_ <;> first | decide | (simp only [GA, ↓GB, List.filterMap_cons, eq_self, BEq.rfl, simprocAttr, List.getD_cons_zero, List.getD_cons_succ, or_false, false_or, or_self, or_true, true_or, decide_true]; done))); intro os' s hR; obtain ⟨rfl, rfl⟩ := hR) | (refine Ctr.use (hc1) hP ?_ [4] ?_ rfl rfl ?_; (focus (intro p hp; cases hp)); (focus (refine LeR.of rfl trivial ?_ ?_ ?_ ?_ ?_ <;> first | decide | (simp only [GA, ↓GB, List.filterMap_cons, eq_self, BEq.rfl, simprocAttr, List.getD_cons_zero, List.getD_cons_succ, or_false, false_or, or_self, or_true, true_or, decide_true]; done))); intro os' s hR; obtain ⟨rfl, rfl⟩ := hR) | (refine Ctr.use (hc2) hP ?_ [2] ?_ rfl rfl ?_; (focus (intro p hp; cases hp)); (focus (refine LeR.of rfl trivial ?_ ?_ ?_ ?_ ?_ <;> first | decide | (simp only [GA, ↓GB, List.filterMap_cons, eq_self, BEq.rfl, simprocAttr, List.getD_cons_zero, List.getD_cons_succ, or_false, false_or, or_self, or_true, true_or, decide_true]; done))); intro os' s hR; obtain ⟨rfl, rfl⟩ := hR) | (refine Ctr.use (hf2) hP ?_ [6] ?_ rfl rfl ?_; (focus (intro p hp; cases hp)); (focus (refine LeR.of rfl trivial ?_ ?_ ?_ ?_ ?_ <;> first | decide | (simp only [GA, ↓GB, List.filterMap_cons, eq_self, BEq.rfl, simprocAttr, List.getD_cons_zero, List.getD_cons_succ, or_false, false_or, or_self, or_true, true_or, decide_true]; done))); intro os' s hR; obtain ⟨rfl, rfl⟩ := hR) | (refine Ctr.use (hf3) hP ?_ [2] ?_ rfl rfl ?_; (focus (intro p hp; cases hp)); (focus (refine LeR.of rfl trivial ?_ ?_ ?_ ?_ ?_ <;> first | decide | (simp only [GA, ↓GB, List.filterMap_cons, eq_self, BEq.rfl, simprocAttr, List.getD_cons_zero, List.getD_cons_succ, or_false, false_or, or_self, or_true, true_or, decide_true]; done))); intro os' s hR; obtain ⟨rfl, rfl⟩ := hR) | (refine Ctr.use (hf4) hP ?_ [4] ?_ rfl rfl ?_; (focus (intro p hp; cases hp)); (focus (refine LeR.of rfl trivial ?_ ?_ ?_ ?_ ?_ <;> first | decide | (simp only [GA, ↓GB, List.filterMap_cons, eq_self, BEq.rfl, simprocAttr, List.getD_cons_zero, List.getD_cons_succ, or_false, false_or, or_self, or_true, true_or, decide_true]; done))); intro os' s hR; obtain ⟨rfl, rfl⟩ := hR) | (refine Ctr.use (hali) hP ?_ [6,7] ?_ rfl rfl ?_; (focus (intro p hp; cases hp)); (focus (refine LeR.of rfl trivial ?_ ?_ ?_ ?_ ?_ <;> first | decide | (simp only [GA, ↓GB, List.filterMap_cons, eq_self, BEq.rfl, simprocAttr, List.getD_cons_zero, List.getD_cons_succ, or_false, false_or, or_self, or_true, true_or, decide_true]; done))); intro os' s hR; obtain ⟨rfl, rfl⟩ := hR)); simp only [GA, ↓GB, List.filterMap_cons, eq_self, BEq.rfl, simprocAttr, hnt, hT])
    | (refine SX.loop (ι := { p : Nat × Nat // p.1 ≤ bs.length ∧ p.2 = manyL r.t r.s (bs.take p.1) }) (fun p => ⟨[(5, .one (.c (.loc 1 0))), (6, vv (.bool false)), (7, vv (.bool true)), (8, .one (.c (.row 2))), (9, .one (.c (.loc 3 0))), (10, .one (.c (.row 4))), (11, .one (.c (.loc 5 0))), (12, vv (.bool true)), (13, vv (.int .i64 p.1.2)), (14, vv (.int .i64 p.1.1))], [.cells [.v (.int .i64 x.r.t), .v (.string (B x.r.s)), .v (.int .u64 x.r.q), .v (.bool x.r.g), .v (.string (B x.r.b)), .v (.bool x.own), .v (.int .u8 x.nm)] 96, .cells [.v (.int .i64 kt), .v (.string (B ks))] 26, mrow aa, .cells [.v (.int .i64 r.t), .v (.string (B r.s)), .v (.int .u64 r.q), .v (.bool r.g), .v (.string (B r.b))] 89, mrow bs, .cells [.v (.int .i64 r.t), .v (.string (B r.s)), .v (.int .u64 r.q), .v (.bool r.g), .v (.string (B r.b))] 89]⟩) (fun p => bs.length - p.1.1) ⟨(0, 0), Nat.zero_le _, rfl⟩ ⟨[0, 1, 2, 3, 4, 5], by (refine LeR.of ?_ ?_ ?_ ?_ ?_ ?_ ?_ <;> first | (rw [hbl]; decide) | decide | (simp only [GA, ↓GB, List.filterMap_cons, eq_self, BEq.rfl, simprocAttr, List.getD_cons_zero, List.getD_cons_succ, or_false, false_or, or_self, or_true, true_or, decide_true]; done) | (simp only [GA, ↓GB, List.filterMap_cons, eq_self, BEq.rfl, simprocAttr, List.getD_cons_zero, List.getD_cons_succ, or_false, false_or, or_self, or_true, true_or, decide_true]; rfl; done))⟩ ?_ <;> rintro ⟨⟨i, n⟩, hi, hn⟩ <;> simp only [] at hi hn ⊢ <;> rcases many_end hmany hi hn with hlt | ⟨rfl, rfl⟩)
    | (refine ⟨_, rfl, mks_key _ _ (by omega), ?_⟩ <;> simp only [GA, ↓GB, List.filterMap_cons, eq_self, BEq.rfl, simprocAttr, hnt, hT])
    | (refine ⟨_, strEq_to hP (Ty.eqS89 _ _ _ _ _ _ _ _ _ _), ?_⟩)
    | (refine ⟨_, strEq_to hP (Ty.eqS26 _ _ _ _), ?_⟩)
    | (refine SX.block ?_)
    | (refine and_mk ?_ ?_; (focus first | decide | omega | rfl | assumption | (simp only [List.length_append, List.length_cons, List.length_nil, B_size]; omega) | (simp; done)))
    | (refine And.intro ?_ ?_))
  all_goals (try refine Done.mk ?_)
  · have hm := many_go (b := r.t) (t := r.s) (ms := bs) hlt
    rw [if_pos (isK_eq.2 hb), ← hn] at hm
    have hle : n ≤ bs.length := by rw [hn]; exact Nat.le_trans (many_le _ _ _) (by simp; omega)
    refine ⟨⟨(i + 1, n + 1), by show i + 1 ≤ bs.length; omega, hm.symm⟩, [0, 1, 2, 3, 4, 5], ?_, by show bs.length - (i + 1) < bs.length - i; omega⟩
    rw [wI64 (x := (i : Int) + 1) (by omega) (by omega), wI64 (x := (n : Int) + 1) (by omega) (by omega)]
    (refine LeR.of ?_ ?_ ?_ ?_ ?_ ?_ ?_ <;> first | (rw [hbl]; decide) | decide | (simp only [GA, ↓GB, List.filterMap_cons, eq_self, BEq.rfl, simprocAttr, List.getD_cons_zero, List.getD_cons_succ, or_false, false_or, or_self, or_true, true_or, decide_true]; done) | (simp only [GA, ↓GB, List.filterMap_cons, eq_self, BEq.rfl, simprocAttr, List.getD_cons_zero, List.getD_cons_succ, or_false, false_or, or_self, or_true, true_or, decide_true]; first | exact ⟨rfl, rfl⟩ | rfl; done))
  · have hm := many_go (b := r.t) (t := r.s) (ms := bs) hlt
    rw [if_neg (fun h => by rw [isK_eq] at h; rcases hb with hb | hb; exact hb h.1; exact hb h.2), Nat.add_zero, ← hn] at hm
    refine ⟨⟨(i + 1, n), by show i + 1 ≤ bs.length; omega, hm.symm⟩, [0, 1, 2, 3, 4, 5], ?_, by show bs.length - (i + 1) < bs.length - i; omega⟩
    rw [wI64 (x := (i : Int) + 1) (by omega) (by omega)]
    (refine LeR.of ?_ ?_ ?_ ?_ ?_ ?_ ?_ <;> first | (rw [hbl]; decide) | decide | (simp only [GA, ↓GB, List.filterMap_cons, eq_self, BEq.rfl, simprocAttr, List.getD_cons_zero, List.getD_cons_succ, or_false, false_or, or_self, or_true, true_or, decide_true]; done) | (simp only [GA, ↓GB, List.filterMap_cons, eq_self, BEq.rfl, simprocAttr, List.getD_cons_zero, List.getD_cons_succ, or_false, false_or, or_self, or_true, true_or, decide_true]; rfl; done))
  all_goals first
    | ((refine hN0 _ _ ⟨[], _, _, ?_, ?_, ?_, ⟨rfl, rfl⟩⟩; (focus exact LeR.of rfl trivial (by simp only [GA, ↓GB, List.filterMap_cons, eq_self, BEq.rfl, simprocAttr, List.getD_cons_zero, List.getD_cons_succ, or_false, false_or, or_self, or_true, true_or, decide_true]) (by decide) rfl rfl rfl); rotate_left; (focus rfl)); rfl)
    | (exfalso; clear hK hT hP hnt hN0 hG hG0 hKF hbl hex hset hf1 hf2 hf3 hf4 hc1 hc2 hali hth hP0 ht; simp_all; done)
    | (exfalso; clear hK hT hP hnt hN0 hG hG0 hKF hbl hex hset hf1 hf2 hf3 hf4 hc1 hc2 hali hth hP0 ht; rcases hk with ⟨rfl, rfl⟩ | ⟨rfl, rfl⟩ <;> simp_all; done)
    | (have hs : (is == still) = true := by
        rcases hk with ⟨e1, e2⟩ | ⟨_, e⟩
        · exact absurd ‹kt ≠ r.t ∨ ks ≠ r.s› (by simp [e1, e2])
        · rw [e]; simp
       rw [hs]; (refine hN0 _ _ ⟨[], _, _, ?_, ?_, ?_, ⟨rfl, rfl⟩⟩; (focus exact LeR.of rfl trivial (by simp only [GA, ↓GB, List.filterMap_cons, eq_self, BEq.rfl, simprocAttr, List.getD_cons_zero, List.getD_cons_succ, or_false, false_or, or_self, or_true, true_or, decide_true]) (by decide) rfl rfl rfl); rotate_left; (focus rfl)); rfl)
    | skip
end Go.Proofs.YtbdacbcpniegiaaDoor.Q
namespace Go.Proofs.YtbdacbcpniegiaaDoor.Q
open Go Go.RowKit Go.Proofs Go.Sx
set_option maxHeartbeats 4000000
set_option maxRecDepth 100000
set_option linter.unusedSimpArgs false
set_option linter.unusedVariables false
theorem ctrF_calls {P : Program} {F : Ctx → Prop} {f : FuncId} {args : List SV} {R : List LO → SV → Prop} (h : CtrF P F f [] args R) (w : World) (hF : F ⟨P, w, [], 0, []⟩) {vals : List Value} (ha : All2 (DV []) args vals) :
    Calls P f vals.toArray w fun e w' => ∃ v os' s σ', e = .returned v ∧ R os' s ∧ DV σ' s v ∧ Below w.heap.size w w' := by
  have hr : Rel ⟨P, w, [], 0, []⟩ ⟨[], []⟩ [] [] { tmps := #[], defers := [] } w :=
    ⟨fun t s h => by simp at h, rfl, rfl, fun i o fp v h => by simp at h, by simp, fun b h => by simp at h, fun b h => by simp at h, Fr.refl _ _, rfl, rfl, fun v h => by simp at h, fun i v h => by simp at h⟩
  refine (h ⟨P, w, [], 0, []⟩ rfl hF (fun c s => ∃ os', c = ⟨[], os'⟩ ∧ R os' s) (fun os' s hR => ⟨os', rfl, hR⟩) _ _ _ _ hr vals ha).mono ?_
  rintro e w' ⟨v, c', ρ', σ', s, rfl, hr', hd, os', rfl, hR⟩
  exact ⟨v, os', s, σ', rfl, hR, hd, hr'.low.below (by simp)⟩
theorem farT_in {P : Program} {w : World} {q : Option Addr} {xs : List Th} (hc : ∀ i, i < xs.length → ∃ ad, q = some ad ∧ ∀ j v, (xs.getD i default).cells[j]? = some v → w.cell? (ad.add (i * 7 + j)) = some v) : FarT ⟨P, w, [], 0, []⟩ q xs := fun i hi => by
  obtain ⟨ad, e, h⟩ := hc i hi
  exact ⟨ad, e, by simp, fun j v hj => by rw [Deep.add_add]; exact h j v hj⟩
theorem knF_in {w : World} {e : EA} {q : Option Addr} {xs : List Th} (hG : ∀ p ∈ GW e, w.cell? p.1 = some p.2 ∧ loneStr w p) (hc : ∀ i, i < xs.length → ∃ ad, q = some ad ∧ ∀ j v, (xs.getD i default).cells[j]? = some v → w.cell? (ad.add (i * 7 + j)) = some v) : KnF ⟨Tryd.prog, w, [], 0, []⟩ e q xs :=
  ⟨fun p hp => ⟨(hG p hp).1, by simp, (hG p hp).2⟩, farT_in hc⟩
theorem sets_any (xs : List Th) (q : Option Addr) (cap : Nat) (x : Th) (hx : x.Ok) (kt : Int) (ks : List UInt8) (k0 : -9223372036854775808 ≤ kt) (k1 : kt < 9223372036854775808) (kl : ks.length ≤ 9223372036854775807) (w : World) (ho : ∀ x ∈ xs, x.Ok)
    (hc : ∀ i, i < xs.length → ∃ ad, q = some ad ∧ ∀ j v, (xs.getD i default).cells[j]? = some v → w.cell? (ad.add (i * 7 + j)) = some v) {e : EA} (he : e.Ok) (hG : ∀ p ∈ GW e, w.cell? p.1 = some p.2 ∧ loneStr w p) :
    Calls Tryd.prog 13 #[.slice q xs.length cap, .agg x.cells.toArray, .agg #[.int .i64 kt, .string (B ks)]] w fun x w' => x = .returned (.bool true) ∧ Below w.heap.size w w' := by
  have hctr := sets_ctr he xs q cap x kt ks _ _ _ _ (fun aa h => by rw [← h]; exact findV_eq _) (fun aa h => by rw [← h]; exact findV_eq _) (by
    by_cases h : kt = (thV x).t ∧ ks = (thV x).s
    · exact .inl h
    · have e2 := set_other ((xs.take 10).map thV) (thV x) kt ks (fun h2 => h ⟨h2.1.symm, h2.2.symm⟩)
      rw [e2]
      exact .inr ⟨rfl, rfl⟩)
  obtain ⟨r, own, nm⟩ := x
  refine (ctrF_calls hctr w (knF_in hG hc) (vals := [.slice q xs.length cap, .agg #[.int .i64 r.t, .string (B r.s), .int .u64 r.q, .bool r.g, .string (B r.b), .bool own, .int .u8 nm], .agg #[.int .i64 kt, .string (B ks)]]) ⟨rfl, ⟨_, rfl, rfl, rfl, rfl, rfl, rfl, rfl, rfl, trivial⟩, ⟨_, rfl, rfl, rfl, trivial⟩, trivial⟩).mono ?_
  rintro x w' ⟨v, os', s, σ', rfl, ⟨rfl, rfl⟩, hd, hb⟩
  have hd : v = .bool true := hd
  subst hd
  exact ⟨rfl, hb⟩
end Go.Proofs.YtbdacbcpniegiaaDoor.Q
