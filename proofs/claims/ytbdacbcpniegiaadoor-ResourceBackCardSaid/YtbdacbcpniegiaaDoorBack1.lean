/- Own work: a part of the symbolic executor and of the walks of the functions that the claim reaches. -/
import Derived.Test.YtbdacbcpniegiaaDoorBase6
namespace Go.Proofs.YtbdacbcpniegiaaDoor.Q
open Go Go.RowKit Go.Proofs Go.Sx
set_option maxRecDepth 100000
set_option linter.unusedSimpArgs false
set_option linter.unusedVariables false
theorem parse_nil_inv {q : List UInt8} (h : NW.parse q = some []) : q = [] := by
  by_cases e : q = []
  · exact e
  · cases ht : NW.takeF q with
    | none => rw [NW.parse_none e ht] at h; cases h
    | some x =>
      obtain ⟨f, r⟩ := x
      rw [NW.parse_some ht] at h
      cases hr : NW.parse r <;> simp [hr] at h
theorem cut_fields {l : List NW.Fld} (h : ∀ f ∈ l, f.Ok) {k : Nat} (hk : k < (NW.encs l).length) {gs : List NW.Fld} (hp : NW.parse ((NW.encs l).take k) = some gs) : ∃ hs, l = gs ++ hs ∧ hs ≠ [] := by
  have h1 := NW.parse_encs' l h
  rw [← List.take_append_drop k (NW.encs l), NW.parse_app hp] at h1
  cases hq : NW.parse ((NW.encs l).drop k) with
  | none => simp [hq] at h1
  | some x =>
    simp [hq] at h1
    refine ⟨x, h1.symm, ?_⟩
    rintro rfl
    have := congrArg List.length (parse_nil_inv hq)
    simp at this
    omega
theorem part_of {a b : List NW.Fld} {x : NW.Fld} {gs hs : List NW.Fld} (h : a ++ [x] = gs ++ hs) (hn : hs ≠ []) : ∃ cs, a = gs ++ cs := by
  refine ⟨hs.dropLast, ?_⟩
  have h2 := congrArg List.dropLast h
  rw [List.dropLast_concat, List.dropLast_append_of_ne_nil hn] at h2
  exact h2
theorem findN_fold (k : Nat) (gs : List NW.Fld) (h : ∀ f ∈ gs, f.num ≠ k) : ∀ m : LSt, findN k (gs.foldl stepT m).2 = findN k m.2 := by
  induction gs with
  | nil => intro m; rfl
  | cons f gs ih =>
    intro m
    rw [List.foldl_cons, ih (fun g hg => h g (List.mem_cons_of_mem _ hg))]
    have hf := h f List.mem_cons_self
    unfold stepT stepR
    repeat' split
    all_goals first
      | rfl
      | (show findN k (putN _ f m.2) = _; rw [findN_put, if_neg (by omega)])
theorem lastN_none (k : Nat) (gs : List NW.Fld) (h : ∀ f ∈ gs, f.num ≠ k) : lastN k (gs.foldl stepT (true, [])).2 = nilF := by
  unfold lastN; rw [findN_fold k gs h]; rfl
theorem resR_is {s : List UInt8} {r : Rs} (h : resR s = some r) : ∃ gs, NW.parse s = some gs ∧ rsOf (gs.foldl stepT (true, [])).2 = r := by
  unfold resR at h
  split at h
  · cases h
  · rename_i gs hp
    rw [takeG_fold] at h
    unfold resG at h
    split at h
    · exact ⟨gs, hp, Option.some.inj h⟩
    · cases h
theorem back_cut {r : Rs} (h : rightB r = true) {k : Nat} (hk : k < (resB r r.t.toNat).length) (hg : resR ((resB r r.t.toNat).take k) = some r) : r.b = [] ∧ r.g = false := by
  obtain ⟨gs, hp, hr⟩ := resR_is hg
  rw [resB_encs] at hk hp
  obtain ⟨hs, hl, hn⟩ := cut_fields (fsOf_ok h) hk hp
  have hgb : r.g = true → r.b = [] := fun e => by
    simp only [rightB, Bool.and_eq_true, Bool.not_eq_true', Bool.and_eq_false_iff, Bool.not_eq_false', beq_iff_eq] at h
    rcases h.1.1.2 with h | h
    · rw [e] at h; cases h
    · exact h
  have hmem : ∀ {a : List NW.Fld} {cs : List NW.Fld} (k : Nat), a = gs ++ cs → (∀ f ∈ a, f.num ≠ k) → ∀ f ∈ gs, f.num ≠ k := fun k e ha f hf => ha f (by rw [e]; exact List.mem_append_left _ hf)
  by_cases hb : r.b = []
  · refine ⟨hb, ?_⟩
    cases hgg : r.g with
    | false => rfl
    | true =>
      exfalso
      have e : fsOf r r.t.toNat = [⟨1, 0, r.t.toNat, []⟩, ⟨2, 2, 0, r.s⟩, ⟨3, 0, r.q, []⟩] ++ [⟨4, 0, 1, []⟩] := by simp [fsOf, hgg, hb]
      rw [e] at hl
      obtain ⟨cs, hc⟩ := part_of (b := []) hl hn
      have h4 := lastN_none 4 gs (hmem 4 hc (by simp))
      have : r.g = (((lastN 4 (gs.foldl stepT (true, [])).2).n : Int) == 1) := by rw [← congrArg Rs.g hr]; rfl
      rw [h4, hgg] at this
      cases this
  · exfalso
    have hg0 : r.g = false := by cases e : r.g with
      | false => rfl
      | true => exact absurd (hgb e) hb
    have e : fsOf r r.t.toNat = [⟨1, 0, r.t.toNat, []⟩, ⟨2, 2, 0, r.s⟩, ⟨3, 0, r.q, []⟩] ++ [⟨5, 2, 0, r.b⟩] := by simp [fsOf, hg0, hb]
    rw [e] at hl
    obtain ⟨cs, hc⟩ := part_of (b := []) hl hn
    have h5 := lastN_none 5 gs (hmem 5 hc (by simp))
    have : r.b = (lastN 5 (gs.foldl stepT (true, [])).2).s := by rw [← congrArg Rs.b hr]; rfl
    rw [h5] at this
    exact hb this
end Go.Proofs.YtbdacbcpniegiaaDoor.Q
namespace Go.Proofs.YtbdacbcpniegiaaDoor
open Go Go.RowKit
theorem u16_of {n : Int} (h : (Lit.int .u16 n).wf = true) : 0 ≤ n ∧ n < 65536 := by
  simp only [Lit.wf, Bool.and_eq_true, decide_eq_true_eq] at h
  have e1 : IntKind.u16.min = 0 := rfl
  have e2 : IntKind.u16.max = 65535 := rfl
  omega
end Go.Proofs.YtbdacbcpniegiaaDoor
namespace Go.Proofs.YtbdacbcpniegiaaDoor.Q
open Go Go.RowKit Go.Proofs Go.Sx
set_option maxHeartbeats 4000000
set_option maxRecDepth 100000
set_option linter.unusedSimpArgs false
set_option linter.unusedVariables false
def eqR (y x : Rs) : Bool := y.t == x.t && (y.s == x.s && ((y.q : Int) == (x.q : Int) && (y.g == x.g && y.b == x.b)))
theorem eqR_eq {y x : Rs} (h : eqR y x = true) : y = x := by
  obtain ⟨t, s, q, g, b⟩ := x
  obtain ⟨t', s', q', g', b'⟩ := y
  simp only [eqR, Bool.and_eq_true, beq_iff_eq] at h
  obtain ⟨h1, h2, h3, h4, h5⟩ := h
  have h3 : q' = q := by omega
  subst h1 h2 h3 h4 h5; rfl
theorem resB_len2 {r : Rs} (h : rightB r = true) : (resB r r.t.toNat).length ≤ 1099511627000 := by
  obtain ⟨h1, h2, h3, h4, h5, h6⟩ := right_type h
  have n1 := numB_len 1 r.t.toNat (by decide) (by omega)
  have n2 := textB_len 2 r.s (by decide) (by omega)
  have n3 := numB_len 3 r.q (by decide) (by omega)
  have n4 := numB_len 4 1 (by decide) (by decide)
  have n5 := textB_len 5 r.b (by decide) (by omega)
  unfold resB
  split <;> split <;> simp only [List.length_append, List.length_nil] <;> omega
theorem back_n {e : EA} (he : e.Ok) (r : Rs) (own : Bool) (nm num n cut : Nat) (hnum : num < 65536) (hn : n < 18446744073709551616) (hcut : cut < 65536) (x : Rs) (hx : thL r nm = x) (hR : rightB x = true) (bx : List UInt8) (hbx : resB x x.t.toNat = bx) (hne : bx ≠ []) (k : Nat) (hk : cut % bx.length = k) (hc : resR (bx.take k) = none) :
    Ctr Tryd.prog (GW e) 12 [] [.one (.agg [.v (.int .i64 r.t), .v (.string (B r.s)), .v (.int .u64 r.q), .v (.bool r.g), .v (.string (B r.b)), .v (.bool own), .v (.int .u8 nm)]), vv (.int .u16 num), vv (.int .u64 n), vv (.int .u16 cut)] (fun os v => os = [] ∧ v = vv (.bool true)) := by
  have hth : ∀ w, Calls Tryd.prog 46 #[.agg #[.int .i64 r.t, .string (B r.s), .int .u64 r.q, .bool r.g, .string (B r.b), .bool true, .int .u8 nm]] w fun y w' => y = .returned (.agg #[.int .i64 x.t, .string (B x.s), .int .u64 x.q, .bool x.g, .string (B x.b)]) ∧ Below w.heap.size w w' := fun w => by
    rw [← hx]; exact thing_yes r.t r.s r.b r.q r.g nm w
  have hlen := resB_len2 hR
  rw [hbx] at hlen
  have hpos : 0 < bx.length := List.length_pos_iff.2 hne
  have hkl : k < bx.length := by rw [← hk]; exact Nat.mod_lt _ hpos
  have hpx : ∀ w, Calls Tryd.prog 45 #[.agg #[.int .i64 x.t, .string (B x.s), .int .u64 x.q, .bool x.g, .string (B x.b)]] w fun e w' => e = .returned (.tuple #[.string (B bx), .bool true]) ∧ Below w.heap.size w w' := fun w => by
    rw [← hbx]; exact put_yes x hR w
  have hnl := numB_len (6 + num) n (by omega) hn
  have hgm : Ctr Tryd.prog (GW e) 49 [] [vv (.string (B (bx ++ numB (6 + num) n)))] (fun os v => os = [] ∧ v = .tup [.agg [.v (.int .i64 x.t), .v (.string (B x.s)), .v (.int .u64 x.q), .v (.bool x.g), .v (.string (B x.b))], .c (.v (.bool true))]) := by
    have := getRes_ctr he (bx ++ numB (6 + num) n) (by simp only [List.length_append]; omega)
    have e2 : numB (6 + num) n = (⟨6 + num, 0, n, []⟩ : NW.Fld).enc := by simp [numB, NW.Fld.enc]
    rw [e2, ← hbx, resR_more hR _ ⟨by simp only; omega, by simp only; omega, .inl ⟨rfl, rfl, by simp only; omega⟩⟩ (by simp only; omega)] at this
    rw [e2, ← hbx]
    exact this
  have hgc : Ctr Tryd.prog (GW e) 49 [] [vv (.string (B (bx.take k)))] (fun os v => os = [] ∧ v = .tup [.agg [.v (.int .i64 0), .v (.string (B [])), .v (.int .u64 0), .v (.bool false), .v (.string (B []))], .c (.v (.bool false))]) := by
    have := getRes_ctr he (bx.take k) (by simp only [List.length_take]; omega)
    rw [hc] at this
    exact this
  have hnum6 : ∀ w, Calls Tryd.prog 23 #[.int .i64 (6 + num : Nat), .int .u64 n] w fun e w' => e = .returned (.string (B (numB (6 + num) n))) ∧ Below w.heap.size w w' := number_any (6 + num) n (by omega) (by omega) hn
  have hex := ex04_ctr he
  have w1 : IntKind.i64.wrap (cut : Int) = cut := wI64 (by omega) (by omega)
  have w2 : IntKind.i64.wrap (num : Int) = num := wI64 (by omega) (by omega)
  have w3 : IntKind.i64.wrap (6 + (num : Int)) = ((6 + num : Nat) : Int) := by rw [wI64 (by omega) (by omega)]; omega
  have w4 : (cut : Int).tmod (bx.length : Int) = (k : Int) := by rw [Int.tmod_eq_emod_of_nonneg (by omega), ← hk]; rfl
  have hne' : (bx == []) = false := by cases bx with
    | nil => exact absurd rfl hne
    | cons _ _ => rfl
  refine Ctr.less ?_
  intro X0 hP0 hG0 N0 hN0
  refine CallVC.inline (f := 12) (by rw [hP0]; exact Tryd.func12) rfl Tryd.ntmps12 rfl (by simp) ?_
  intro X K hU hnt hbl hK
  have hP : X.P = Tryd.prog := by rw [hU.P, hP0]
  have hG := hG0.under hU
  have hT : calleeOk X.P 44 = true ∧ fieldOff X.P 96 1 = some 5 ∧ szOf X.P 4 = some 1 ∧ aggOf X.P 96 = some true ∧ szOf X.P 96 = some 7 ∧ calleeOk X.P 46 = true ∧ zeroCells X.P 89 = some [(Value.int IntKind.i64 0), (Value.string { data := #[] }), (Value.int IntKind.u64 0), (Value.bool false), (Value.string { data := #[] })] ∧ szOf X.P 89 = some 5 ∧ aggOf X.P 89 = some true ∧ calleeOk X.P 45 = true ∧ X.P.underlying 103 = some (TypeDesc.int IntKind.u16) ∧ X.P.underlying 3 = some (TypeDesc.int IntKind.i64) ∧ isBytesT X.P 103 = false ∧ isStrT X.P 3 = false ∧ calleeOk X.P 23 = true ∧ calleeOk X.P 49 = true ∧ X.P.underlying 9 = some TypeDesc.string ∧ isStrT X.P 9 = true ∧ fieldOff X.P 89 3 = some 4 ∧ aggOf X.P 9 = some false ∧ szOf X.P 9 = some 1 ∧ fieldOff X.P 89 2 = some 3 ∧ aggOf X.P 4 = some false ∧ X.P.underlying 4 = some TypeDesc.bool ∧ calleeOk X.P 51 = true := by rw [hP]; exact ⟨Ty.co44, Ty.fo96_1, Ty.sz4, Ty.ag96, Ty.sz96, Ty.co46, Ty.ze89, Ty.sz89, Ty.ag89, Ty.co45, Tryd.underlying103, Tryd.underlying3, Ty.ib103, Ty.is3, Ty.co23, Ty.co49, Tryd.underlying9, Ty.is9, Ty.fo89_3, Ty.ag9, Ty.sz9, Ty.fo89_2, Ty.ag4, Tryd.underlying4, Ty.co51⟩
  simp only [GA, ↓GB, List.filterMap_cons, eq_self, BEq.rfl, simprocAttr] at hbl ⊢
  repeat' (first
    | (refine SX.seqK ?_; intro N hN)
    | ((first | (refine SX.ops ?_)); simp only [GA, ↓GB, List.filterMap_cons, eq_self, BEq.rfl, simprocAttr, hnt, hT, w1, w2, w3, w4, hne', Nat.sub_zero, Int.toNat_natCast])
    | ((first | refine SX.skip ?_ | refine SX.exit ?_ | refine SX.label ?_); try simp only [GA, ↓GB, List.filterMap_cons, eq_self, BEq.rfl, simprocAttr])
    | (refine SX.cond rfl (fun hb => ?_) (fun hb => ?_) <;> ((first | cases hb | (simp only [decide_eq_true_eq, decide_eq_false_iff_not, beq_iff_eq, beq_eq_false_iff_ne, bne_iff_ne, Bool.and_eq_true, Bool.or_eq_true, Bool.not_eq_true', Bool.not_eq_false', Bool.and_eq_false_iff, Bool.or_eq_false_iff, Int.not_lt, Int.not_le] at hb) | skip) <;> (first | (exfalso; omega) | skip)))
    | (refine SX.ret ?_; try simp only [GA, ↓GB, List.filterMap_cons, eq_self, BEq.rfl, simprocAttr])
    | (refine hN _ ?_; clear hN N)
    | ((first | refine hK _ _ (FinI.ret3 ?_) | refine hK _ _ (FinI.nrm3 ?_)); simp only [GA, ↓GB, List.filterMap_cons, eq_self, BEq.rfl, simprocAttr, finP_s, hnt, hT, w1, w2, w3, w4, hne', Nat.sub_zero, Int.toNat_natCast]; refine Done.out ?_)
    | (clear hN N; first | (refine hN _ ?_; clear hN N) | (clear hN N; first | (refine hN _ ?_; clear hN N) | (clear hN N; first | (refine hN _ ?_; clear hN N) | (clear hN N; first | (refine hN _ ?_; clear hN N) | (clear hN N; first | (refine hN _ ?_; clear hN N) | (refine hN _ ?_; clear hN N))))))
    | (refine bif2.mk (fun hb => ?_) (fun hb => ?_) <;> (try simp only [hb, GA, ↓GB, List.filterMap_cons, eq_self, BEq.rfl, simprocAttr, hnt, hT, w1, w2, w3, w4, hne', Nat.sub_zero, Int.toNat_natCast]) <;> ((first | cases hb | (simp only [decide_eq_true_eq, decide_eq_false_iff_not, beq_iff_eq, beq_eq_false_iff_ne, bne_iff_ne, Bool.and_eq_true, Bool.or_eq_true, Bool.not_eq_true', Bool.not_eq_false', Bool.and_eq_false_iff, Bool.or_eq_false_iff, Int.not_lt, Int.not_le] at hb) | skip) <;> (first | (exfalso; omega) | skip)))
    | ((first | (refine Ctr.use (hex) hP hG [] ?_ rfl rfl ?_; (focus (refine LeR.of rfl trivial ?_ ?_ ?_ ?_ ?_ <;> first | decide | (simp only [GA, ↓GB, List.filterMap_cons, eq_self, BEq.rfl, simprocAttr, List.getD_cons_zero, List.getD_cons_succ, or_false, false_or, or_self, or_true, true_or, decide_true]; done))); intro os' s hR; obtain ⟨rfl, rfl⟩ := hR) | (refine CallVC.pa hP (hth) rfl ?_) | (refine CallQ.pa hP (hth) rfl ?_) | (refine CallVC.pt (l := [_, _]) hP (hpx) rfl ?_) | (refine CallQ.pt (l := [_, _]) hP (hpx) rfl ?_) | (refine CallVC.pv hP (hnum6) rfl ?_) | (refine CallQ.pv hP (hnum6) rfl ?_) | (refine Ctr.use (hgm) hP hG [] ?_ rfl rfl ?_; (focus (refine LeR.of rfl trivial ?_ ?_ ?_ ?_ ?_ <;> first | decide | (simp only [GA, ↓GB, List.filterMap_cons, eq_self, BEq.rfl, simprocAttr, List.getD_cons_zero, List.getD_cons_succ, or_false, false_or, or_self, or_true, true_or, decide_true]; done))); intro os' s hR; obtain ⟨rfl, rfl⟩ := hR) | (refine Ctr.use (hgc) hP hG [] ?_ rfl rfl ?_; (focus (refine LeR.of rfl trivial ?_ ?_ ?_ ?_ ?_ <;> first | decide | (simp only [GA, ↓GB, List.filterMap_cons, eq_self, BEq.rfl, simprocAttr, List.getD_cons_zero, List.getD_cons_succ, or_false, false_or, or_self, or_true, true_or, decide_true]; done))); intro os' s hR; obtain ⟨rfl, rfl⟩ := hR)); simp only [GA, ↓GB, List.filterMap_cons, eq_self, BEq.rfl, simprocAttr, hnt, hT, w1, w2, w3, w4, hne', Nat.sub_zero, Int.toNat_natCast])
    | (refine ⟨_, strEq_to hP (Ty.eqS89 _ _ _ _ _ _ _ _ _ _), ?_⟩)
    | (refine SX.block ?_)
    | (refine and_mk ?_ ?_; (focus first | decide | omega | rfl | assumption | (simp only [List.length_append, List.length_cons, List.length_nil, B_size]; omega) | (simp; done)))
    | (refine And.intro ?_ ?_))
  all_goals (try refine Done.mk ?_)
  all_goals first
    | ((refine hN0 _ _ ⟨[], _, _, ?_, ?_, ?_, ⟨rfl, rfl⟩⟩; (focus exact LeR.of rfl trivial (by simp only [GA, ↓GB, List.filterMap_cons, eq_self, BEq.rfl, simprocAttr, List.getD_cons_zero, List.getD_cons_succ, or_false, false_or, or_self, or_true, true_or, decide_true]) (by decide) rfl rfl rfl); rotate_left; (focus rfl)); rfl)
    | (exfalso; clear hK hT hP hnt hN0 hG hG0 hbl hex hgm hgc hpx hth hnum6 hP0; simp_all [eqR]; done)
    | skip
theorem back_e {e : EA} (he : e.Ok) (r : Rs) (own : Bool) (nm num n cut : Nat) (hnum : num < 65536) (hn : n < 18446744073709551616) (hcut : cut < 65536) (x : Rs) (hx : thL r nm = x) (hR : rightB x = true) (bx : List UInt8) (hbx : resB x x.t.toNat = bx) (hne : bx ≠ []) (k : Nat) (hk : cut % bx.length = k) (y : Rs) (hc : resR (bx.take k) = some y) (hxb : x.b = []) (hxg : x.g = false) :
    Ctr Tryd.prog (GW e) 12 [] [.one (.agg [.v (.int .i64 r.t), .v (.string (B r.s)), .v (.int .u64 r.q), .v (.bool r.g), .v (.string (B r.b)), .v (.bool own), .v (.int .u8 nm)]), vv (.int .u16 num), vv (.int .u64 n), vv (.int .u16 cut)] (fun os v => os = [] ∧ v = vv (.bool true)) := by
  have hth : ∀ w, Calls Tryd.prog 46 #[.agg #[.int .i64 r.t, .string (B r.s), .int .u64 r.q, .bool r.g, .string (B r.b), .bool true, .int .u8 nm]] w fun y w' => y = .returned (.agg #[.int .i64 x.t, .string (B x.s), .int .u64 x.q, .bool x.g, .string (B x.b)]) ∧ Below w.heap.size w w' := fun w => by
    rw [← hx]; exact thing_yes r.t r.s r.b r.q r.g nm w
  have hlen := resB_len2 hR
  rw [hbx] at hlen
  have hpos : 0 < bx.length := List.length_pos_iff.2 hne
  have hkl : k < bx.length := by rw [← hk]; exact Nat.mod_lt _ hpos
  have hpx : ∀ w, Calls Tryd.prog 45 #[.agg #[.int .i64 x.t, .string (B x.s), .int .u64 x.q, .bool x.g, .string (B x.b)]] w fun e w' => e = .returned (.tuple #[.string (B bx), .bool true]) ∧ Below w.heap.size w w' := fun w => by
    rw [← hbx]; exact put_yes x hR w
  have hnl := numB_len (6 + num) n (by omega) hn
  have hgm : Ctr Tryd.prog (GW e) 49 [] [vv (.string (B (bx ++ numB (6 + num) n)))] (fun os v => os = [] ∧ v = .tup [.agg [.v (.int .i64 x.t), .v (.string (B x.s)), .v (.int .u64 x.q), .v (.bool x.g), .v (.string (B x.b))], .c (.v (.bool true))]) := by
    have := getRes_ctr he (bx ++ numB (6 + num) n) (by simp only [List.length_append]; omega)
    have e2 : numB (6 + num) n = (⟨6 + num, 0, n, []⟩ : NW.Fld).enc := by simp [numB, NW.Fld.enc]
    rw [e2, ← hbx, resR_more hR _ ⟨by simp only; omega, by simp only; omega, .inl ⟨rfl, rfl, by simp only; omega⟩⟩ (by simp only; omega)] at this
    rw [e2, ← hbx]
    exact this
  have hgc : Ctr Tryd.prog (GW e) 49 [] [vv (.string (B (bx.take k)))] (fun os v => os = [] ∧ v = .tup [.agg [.v (.int .i64 y.t), .v (.string (B y.s)), .v (.int .u64 y.q), .v (.bool y.g), .v (.string (B y.b))], .c (.v (.bool true))]) := by
    have := getRes_ctr he (bx.take k) (by simp only [List.length_take]; omega)
    rw [hc] at this
    exact this
  have hnum6 : ∀ w, Calls Tryd.prog 23 #[.int .i64 (6 + num : Nat), .int .u64 n] w fun e w' => e = .returned (.string (B (numB (6 + num) n))) ∧ Below w.heap.size w w' := number_any (6 + num) n (by omega) (by omega) hn
  have hry := right_any y (by have := (right_type (resR_right hc)).2.2.1; omega)
  rw [resR_right hc] at hry
  have hex := ex04_ctr he
  have w1 : IntKind.i64.wrap (cut : Int) = cut := wI64 (by omega) (by omega)
  have w2 : IntKind.i64.wrap (num : Int) = num := wI64 (by omega) (by omega)
  have w3 : IntKind.i64.wrap (6 + (num : Int)) = ((6 + num : Nat) : Int) := by rw [wI64 (by omega) (by omega)]; omega
  have w4 : (cut : Int).tmod (bx.length : Int) = (k : Int) := by rw [Int.tmod_eq_emod_of_nonneg (by omega), ← hk]; rfl
  have hne' : (bx == []) = false := by cases bx with
    | nil => exact absurd rfl hne
    | cons _ _ => rfl
  refine Ctr.less ?_
  intro X0 hP0 hG0 N0 hN0
  refine CallVC.inline (f := 12) (by rw [hP0]; exact Tryd.func12) rfl Tryd.ntmps12 rfl (by simp) ?_
  intro X K hU hnt hbl hK
  have hP : X.P = Tryd.prog := by rw [hU.P, hP0]
  have hG := hG0.under hU
  have hT : calleeOk X.P 44 = true ∧ fieldOff X.P 96 1 = some 5 ∧ szOf X.P 4 = some 1 ∧ aggOf X.P 96 = some true ∧ szOf X.P 96 = some 7 ∧ calleeOk X.P 46 = true ∧ zeroCells X.P 89 = some [(Value.int IntKind.i64 0), (Value.string { data := #[] }), (Value.int IntKind.u64 0), (Value.bool false), (Value.string { data := #[] })] ∧ szOf X.P 89 = some 5 ∧ aggOf X.P 89 = some true ∧ calleeOk X.P 45 = true ∧ X.P.underlying 103 = some (TypeDesc.int IntKind.u16) ∧ X.P.underlying 3 = some (TypeDesc.int IntKind.i64) ∧ isBytesT X.P 103 = false ∧ isStrT X.P 3 = false ∧ calleeOk X.P 23 = true ∧ calleeOk X.P 49 = true ∧ X.P.underlying 9 = some TypeDesc.string ∧ isStrT X.P 9 = true ∧ fieldOff X.P 89 3 = some 4 ∧ aggOf X.P 9 = some false ∧ szOf X.P 9 = some 1 ∧ fieldOff X.P 89 2 = some 3 ∧ aggOf X.P 4 = some false ∧ X.P.underlying 4 = some TypeDesc.bool ∧ calleeOk X.P 51 = true := by rw [hP]; exact ⟨Ty.co44, Ty.fo96_1, Ty.sz4, Ty.ag96, Ty.sz96, Ty.co46, Ty.ze89, Ty.sz89, Ty.ag89, Ty.co45, Tryd.underlying103, Tryd.underlying3, Ty.ib103, Ty.is3, Ty.co23, Ty.co49, Tryd.underlying9, Ty.is9, Ty.fo89_3, Ty.ag9, Ty.sz9, Ty.fo89_2, Ty.ag4, Tryd.underlying4, Ty.co51⟩
  simp only [GA, ↓GB, List.filterMap_cons, eq_self, BEq.rfl, simprocAttr] at hbl ⊢
  repeat' (first
    | (refine SX.seqK ?_; intro N hN)
    | ((first | (refine SX.ops ?_)); simp only [GA, ↓GB, List.filterMap_cons, eq_self, BEq.rfl, simprocAttr, hnt, hT, w1, w2, w3, w4, hne', Nat.sub_zero, Int.toNat_natCast, hry])
    | ((first | refine SX.skip ?_ | refine SX.exit ?_ | refine SX.label ?_); try simp only [GA, ↓GB, List.filterMap_cons, eq_self, BEq.rfl, simprocAttr])
    | (refine SX.cond rfl (fun hb => ?_) (fun hb => ?_) <;> ((first | cases hb | (simp only [decide_eq_true_eq, decide_eq_false_iff_not, beq_iff_eq, beq_eq_false_iff_ne, bne_iff_ne, Bool.and_eq_true, Bool.or_eq_true, Bool.not_eq_true', Bool.not_eq_false', Bool.and_eq_false_iff, Bool.or_eq_false_iff, Int.not_lt, Int.not_le] at hb) | skip) <;> (first | (exfalso; omega) | skip)))
    | (refine SX.ret ?_; try simp only [GA, ↓GB, List.filterMap_cons, eq_self, BEq.rfl, simprocAttr])
    | (refine hN _ ?_; clear hN N)
    | ((first | refine hK _ _ (FinI.ret3 ?_) | refine hK _ _ (FinI.nrm3 ?_)); simp only [GA, ↓GB, List.filterMap_cons, eq_self, BEq.rfl, simprocAttr, finP_s, hnt, hT, w1, w2, w3, w4, hne', Nat.sub_zero, Int.toNat_natCast, hry]; refine Done.out ?_)
    | (clear hN N; first | (refine hN _ ?_; clear hN N) | (clear hN N; first | (refine hN _ ?_; clear hN N) | (clear hN N; first | (refine hN _ ?_; clear hN N) | (clear hN N; first | (refine hN _ ?_; clear hN N) | (clear hN N; first | (refine hN _ ?_; clear hN N) | (refine hN _ ?_; clear hN N))))))
    | (refine bif2.mk (fun hb => ?_) (fun hb => ?_) <;> (try simp only [hb, GA, ↓GB, List.filterMap_cons, eq_self, BEq.rfl, simprocAttr, hnt, hT, w1, w2, w3, w4, hne', Nat.sub_zero, Int.toNat_natCast, hry]) <;> ((first | cases hb | (simp only [decide_eq_true_eq, decide_eq_false_iff_not, beq_iff_eq, beq_eq_false_iff_ne, bne_iff_ne, Bool.and_eq_true, Bool.or_eq_true, Bool.not_eq_true', Bool.not_eq_false', Bool.and_eq_false_iff, Bool.or_eq_false_iff, Int.not_lt, Int.not_le] at hb) | skip) <;> (first | (exfalso; omega) | skip)))
    | ((first | (refine Ctr.use (hex) hP hG [] ?_ rfl rfl ?_; (focus (refine LeR.of rfl trivial ?_ ?_ ?_ ?_ ?_ <;> first | decide | (simp only [GA, ↓GB, List.filterMap_cons, eq_self, BEq.rfl, simprocAttr, List.getD_cons_zero, List.getD_cons_succ, or_false, false_or, or_self, or_true, true_or, decide_true]; done))); intro os' s hR; obtain ⟨rfl, rfl⟩ := hR) | (refine CallVC.pa hP (hth) rfl ?_) | (refine CallQ.pa hP (hth) rfl ?_) | (refine CallVC.pt (l := [_, _]) hP (hpx) rfl ?_) | (refine CallQ.pt (l := [_, _]) hP (hpx) rfl ?_) | (refine CallVC.pv hP (hnum6) rfl ?_) | (refine CallQ.pv hP (hnum6) rfl ?_) | (refine CallVC.pv hP (hry) rfl ?_) | (refine CallQ.pv hP (hry) rfl ?_) | (refine Ctr.use (hgm) hP hG [] ?_ rfl rfl ?_; (focus (refine LeR.of rfl trivial ?_ ?_ ?_ ?_ ?_ <;> first | decide | (simp only [GA, ↓GB, List.filterMap_cons, eq_self, BEq.rfl, simprocAttr, List.getD_cons_zero, List.getD_cons_succ, or_false, false_or, or_self, or_true, true_or, decide_true]; done))); intro os' s hR; obtain ⟨rfl, rfl⟩ := hR) | (refine Ctr.use (hgc) hP hG [] ?_ rfl rfl ?_; (focus (refine LeR.of rfl trivial ?_ ?_ ?_ ?_ ?_ <;> first | decide | (simp only [GA, ↓GB, List.filterMap_cons, eq_self, BEq.rfl, simprocAttr, List.getD_cons_zero, List.getD_cons_succ, or_false, false_or, or_self, or_true, true_or, decide_true]; done))); intro os' s hR; obtain ⟨rfl, rfl⟩ := hR)); simp only [GA, ↓GB, List.filterMap_cons, eq_self, BEq.rfl, simprocAttr, hnt, hT, w1, w2, w3, w4, hne', Nat.sub_zero, Int.toNat_natCast, hry])
    | (refine ⟨_, strEq_to hP (Ty.eqS89 _ _ _ _ _ _ _ _ _ _), ?_⟩)
    | (refine SX.block ?_)
    | (refine and_mk ?_ ?_; (focus first | decide | omega | rfl | assumption | (simp only [List.length_append, List.length_cons, List.length_nil, B_size]; omega) | (simp; done)))
    | (refine And.intro ?_ ?_))
  all_goals (try refine Done.mk ?_)
  all_goals first
    | ((refine hN0 _ _ ⟨[], _, _, ?_, ?_, ?_, ⟨rfl, rfl⟩⟩; (focus exact LeR.of rfl trivial (by simp only [GA, ↓GB, List.filterMap_cons, eq_self, BEq.rfl, simprocAttr, List.getD_cons_zero, List.getD_cons_succ, or_false, false_or, or_self, or_true, true_or, decide_true]) (by decide) rfl rfl rfl); rotate_left; (focus rfl)); rfl)
    | (exfalso; clear hK hT hP hnt hN0 hG hG0 hbl hex hgm hgc hpx hth hnum6 hP0; simp_all [eqR]; done)
    | skip
theorem back_o {e : EA} (he : e.Ok) (r : Rs) (own : Bool) (nm num n cut : Nat) (hnum : num < 65536) (hn : n < 18446744073709551616) (hcut : cut < 65536) (x : Rs) (hx : thL r nm = x) (hR : rightB x = true) (bx : List UInt8) (hbx : resB x x.t.toNat = bx) (hne : bx ≠ []) (k : Nat) (hk : cut % bx.length = k) (y : Rs) (hc : resR (bx.take k) = some y) (hE : eqR y x = false) :
    Ctr Tryd.prog (GW e) 12 [] [.one (.agg [.v (.int .i64 r.t), .v (.string (B r.s)), .v (.int .u64 r.q), .v (.bool r.g), .v (.string (B r.b)), .v (.bool own), .v (.int .u8 nm)]), vv (.int .u16 num), vv (.int .u64 n), vv (.int .u16 cut)] (fun os v => os = [] ∧ v = vv (.bool true)) := by
  have hth : ∀ w, Calls Tryd.prog 46 #[.agg #[.int .i64 r.t, .string (B r.s), .int .u64 r.q, .bool r.g, .string (B r.b), .bool true, .int .u8 nm]] w fun y w' => y = .returned (.agg #[.int .i64 x.t, .string (B x.s), .int .u64 x.q, .bool x.g, .string (B x.b)]) ∧ Below w.heap.size w w' := fun w => by
    rw [← hx]; exact thing_yes r.t r.s r.b r.q r.g nm w
  have hlen := resB_len2 hR
  rw [hbx] at hlen
  have hpos : 0 < bx.length := List.length_pos_iff.2 hne
  have hkl : k < bx.length := by rw [← hk]; exact Nat.mod_lt _ hpos
  have hpx : ∀ w, Calls Tryd.prog 45 #[.agg #[.int .i64 x.t, .string (B x.s), .int .u64 x.q, .bool x.g, .string (B x.b)]] w fun e w' => e = .returned (.tuple #[.string (B bx), .bool true]) ∧ Below w.heap.size w w' := fun w => by
    rw [← hbx]; exact put_yes x hR w
  have hnl := numB_len (6 + num) n (by omega) hn
  have hgm : Ctr Tryd.prog (GW e) 49 [] [vv (.string (B (bx ++ numB (6 + num) n)))] (fun os v => os = [] ∧ v = .tup [.agg [.v (.int .i64 x.t), .v (.string (B x.s)), .v (.int .u64 x.q), .v (.bool x.g), .v (.string (B x.b))], .c (.v (.bool true))]) := by
    have := getRes_ctr he (bx ++ numB (6 + num) n) (by simp only [List.length_append]; omega)
    have e2 : numB (6 + num) n = (⟨6 + num, 0, n, []⟩ : NW.Fld).enc := by simp [numB, NW.Fld.enc]
    rw [e2, ← hbx, resR_more hR _ ⟨by simp only; omega, by simp only; omega, .inl ⟨rfl, rfl, by simp only; omega⟩⟩ (by simp only; omega)] at this
    rw [e2, ← hbx]
    exact this
  have hgc : Ctr Tryd.prog (GW e) 49 [] [vv (.string (B (bx.take k)))] (fun os v => os = [] ∧ v = .tup [.agg [.v (.int .i64 y.t), .v (.string (B y.s)), .v (.int .u64 y.q), .v (.bool y.g), .v (.string (B y.b))], .c (.v (.bool true))]) := by
    have := getRes_ctr he (bx.take k) (by simp only [List.length_take]; omega)
    rw [hc] at this
    exact this
  have hnum6 : ∀ w, Calls Tryd.prog 23 #[.int .i64 (6 + num : Nat), .int .u64 n] w fun e w' => e = .returned (.string (B (numB (6 + num) n))) ∧ Below w.heap.size w w' := number_any (6 + num) n (by omega) (by omega) hn
  have hry := right_any y (by have := (right_type (resR_right hc)).2.2.1; omega)
  rw [resR_right hc] at hry
  have hE' : (y.t == x.t && (y.s == x.s && ((y.q : Int) == (x.q : Int) && (y.g == x.g && y.b == x.b)))) = false := hE
  have hex := ex04_ctr he
  have w1 : IntKind.i64.wrap (cut : Int) = cut := wI64 (by omega) (by omega)
  have w2 : IntKind.i64.wrap (num : Int) = num := wI64 (by omega) (by omega)
  have w3 : IntKind.i64.wrap (6 + (num : Int)) = ((6 + num : Nat) : Int) := by rw [wI64 (by omega) (by omega)]; omega
  have w4 : (cut : Int).tmod (bx.length : Int) = (k : Int) := by rw [Int.tmod_eq_emod_of_nonneg (by omega), ← hk]; rfl
  have hne' : (bx == []) = false := by cases bx with
    | nil => exact absurd rfl hne
    | cons _ _ => rfl
  refine Ctr.less ?_
  intro X0 hP0 hG0 N0 hN0
  refine CallVC.inline (f := 12) (by rw [hP0]; exact Tryd.func12) rfl Tryd.ntmps12 rfl (by simp) ?_
  intro X K hU hnt hbl hK
  have hP : X.P = Tryd.prog := by rw [hU.P, hP0]
  have hG := hG0.under hU
  have hT : calleeOk X.P 44 = true ∧ fieldOff X.P 96 1 = some 5 ∧ szOf X.P 4 = some 1 ∧ aggOf X.P 96 = some true ∧ szOf X.P 96 = some 7 ∧ calleeOk X.P 46 = true ∧ zeroCells X.P 89 = some [(Value.int IntKind.i64 0), (Value.string { data := #[] }), (Value.int IntKind.u64 0), (Value.bool false), (Value.string { data := #[] })] ∧ szOf X.P 89 = some 5 ∧ aggOf X.P 89 = some true ∧ calleeOk X.P 45 = true ∧ X.P.underlying 103 = some (TypeDesc.int IntKind.u16) ∧ X.P.underlying 3 = some (TypeDesc.int IntKind.i64) ∧ isBytesT X.P 103 = false ∧ isStrT X.P 3 = false ∧ calleeOk X.P 23 = true ∧ calleeOk X.P 49 = true ∧ X.P.underlying 9 = some TypeDesc.string ∧ isStrT X.P 9 = true ∧ fieldOff X.P 89 3 = some 4 ∧ aggOf X.P 9 = some false ∧ szOf X.P 9 = some 1 ∧ fieldOff X.P 89 2 = some 3 ∧ aggOf X.P 4 = some false ∧ X.P.underlying 4 = some TypeDesc.bool ∧ calleeOk X.P 51 = true := by rw [hP]; exact ⟨Ty.co44, Ty.fo96_1, Ty.sz4, Ty.ag96, Ty.sz96, Ty.co46, Ty.ze89, Ty.sz89, Ty.ag89, Ty.co45, Tryd.underlying103, Tryd.underlying3, Ty.ib103, Ty.is3, Ty.co23, Ty.co49, Tryd.underlying9, Ty.is9, Ty.fo89_3, Ty.ag9, Ty.sz9, Ty.fo89_2, Ty.ag4, Tryd.underlying4, Ty.co51⟩
  simp only [GA, ↓GB, List.filterMap_cons, eq_self, BEq.rfl, simprocAttr] at hbl ⊢
  repeat' (first
    | (refine SX.seqK ?_; intro N hN)
    | ((first | (refine SX.ops ?_)); simp only [GA, ↓GB, List.filterMap_cons, eq_self, BEq.rfl, simprocAttr, hnt, hT, w1, w2, w3, w4, hne', Nat.sub_zero, Int.toNat_natCast, hry])
    | ((first | refine SX.skip ?_ | refine SX.exit ?_ | refine SX.label ?_); try simp only [GA, ↓GB, List.filterMap_cons, eq_self, BEq.rfl, simprocAttr])
    | (refine SX.cond rfl (fun hb => ?_) (fun hb => ?_) <;> ((first | cases hb | (simp only [decide_eq_true_eq, decide_eq_false_iff_not, beq_iff_eq, beq_eq_false_iff_ne, bne_iff_ne, Bool.and_eq_true, Bool.or_eq_true, Bool.not_eq_true', Bool.not_eq_false', Bool.and_eq_false_iff, Bool.or_eq_false_iff, Int.not_lt, Int.not_le] at hb) | skip) <;> (first | (exfalso; omega) | skip)))
    | (refine SX.ret ?_; try simp only [GA, ↓GB, List.filterMap_cons, eq_self, BEq.rfl, simprocAttr])
    | (refine hN _ ?_; clear hN N)
    | ((first | refine hK _ _ (FinI.ret3 ?_) | refine hK _ _ (FinI.nrm3 ?_)); simp only [GA, ↓GB, List.filterMap_cons, eq_self, BEq.rfl, simprocAttr, finP_s, hnt, hT, w1, w2, w3, w4, hne', Nat.sub_zero, Int.toNat_natCast, hry]; refine Done.out ?_)
    | (clear hN N; first | (refine hN _ ?_; clear hN N) | (clear hN N; first | (refine hN _ ?_; clear hN N) | (clear hN N; first | (refine hN _ ?_; clear hN N) | (clear hN N; first | (refine hN _ ?_; clear hN N) | (clear hN N; first | (refine hN _ ?_; clear hN N) | (refine hN _ ?_; clear hN N))))))
    | (refine bif2.mk (fun hb => ?_) (fun hb => ?_) <;> (try simp only [hb, GA, ↓GB, List.filterMap_cons, eq_self, BEq.rfl, simprocAttr, hnt, hT, w1, w2, w3, w4, hne', Nat.sub_zero, Int.toNat_natCast, hry]) <;> ((first | cases hb | (simp only [decide_eq_true_eq, decide_eq_false_iff_not, beq_iff_eq, beq_eq_false_iff_ne, bne_iff_ne, Bool.and_eq_true, Bool.or_eq_true, Bool.not_eq_true', Bool.not_eq_false', Bool.and_eq_false_iff, Bool.or_eq_false_iff, Int.not_lt, Int.not_le] at hb) | skip) <;> (first | (exfalso; omega) | skip)))
    | ((first | (refine Ctr.use (hex) hP hG [] ?_ rfl rfl ?_; (focus (refine LeR.of rfl trivial ?_ ?_ ?_ ?_ ?_ <;> first | decide | (simp only [GA, ↓GB, List.filterMap_cons, eq_self, BEq.rfl, simprocAttr, List.getD_cons_zero, List.getD_cons_succ, or_false, false_or, or_self, or_true, true_or, decide_true]; done))); intro os' s hR; obtain ⟨rfl, rfl⟩ := hR) | (refine CallVC.pa hP (hth) rfl ?_) | (refine CallQ.pa hP (hth) rfl ?_) | (refine CallVC.pt (l := [_, _]) hP (hpx) rfl ?_) | (refine CallQ.pt (l := [_, _]) hP (hpx) rfl ?_) | (refine CallVC.pv hP (hnum6) rfl ?_) | (refine CallQ.pv hP (hnum6) rfl ?_) | (refine CallVC.pv hP (hry) rfl ?_) | (refine CallQ.pv hP (hry) rfl ?_) | (refine Ctr.use (hgm) hP hG [] ?_ rfl rfl ?_; (focus (refine LeR.of rfl trivial ?_ ?_ ?_ ?_ ?_ <;> first | decide | (simp only [GA, ↓GB, List.filterMap_cons, eq_self, BEq.rfl, simprocAttr, List.getD_cons_zero, List.getD_cons_succ, or_false, false_or, or_self, or_true, true_or, decide_true]; done))); intro os' s hR; obtain ⟨rfl, rfl⟩ := hR) | (refine Ctr.use (hgc) hP hG [] ?_ rfl rfl ?_; (focus (refine LeR.of rfl trivial ?_ ?_ ?_ ?_ ?_ <;> first | decide | (simp only [GA, ↓GB, List.filterMap_cons, eq_self, BEq.rfl, simprocAttr, List.getD_cons_zero, List.getD_cons_succ, or_false, false_or, or_self, or_true, true_or, decide_true]; done))); intro os' s hR; obtain ⟨rfl, rfl⟩ := hR)); simp only [GA, ↓GB, List.filterMap_cons, eq_self, BEq.rfl, simprocAttr, hnt, hT, w1, w2, w3, w4, hne', Nat.sub_zero, Int.toNat_natCast, hry])
    | (refine ⟨_, strEq_to hP (Ty.eqS89 _ _ _ _ _ _ _ _ _ _), ?_⟩)
    | (refine SX.block ?_)
    | (refine and_mk ?_ ?_; (focus first | decide | omega | rfl | assumption | (simp only [List.length_append, List.length_cons, List.length_nil, B_size]; omega) | (simp; done)))
    | (refine And.intro ?_ ?_))
  all_goals (try refine Done.mk ?_)
  all_goals first
    | ((refine hN0 _ _ ⟨[], _, _, ?_, ?_, ?_, ⟨rfl, rfl⟩⟩; (focus exact LeR.of rfl trivial (by simp only [GA, ↓GB, List.filterMap_cons, eq_self, BEq.rfl, simprocAttr, List.getD_cons_zero, List.getD_cons_succ, or_false, false_or, or_self, or_true, true_or, decide_true]) (by decide) rfl rfl rfl); rotate_left; (focus rfl)); rfl)
    | (exfalso; clear hK hT hP hnt hN0 hG hG0 hbl hex hgm hgc hpx hth hnum6 hP0; simp_all [eqR]; done)
    | skip
theorem back_any (x : Th) (hx : x.Ok) (num : Nat) (hnum : num < 65536) (n : Nat) (hn : n < 18446744073709551616) (cut : Nat) (hcut : cut < 65536) (w : World) {e : EA} (he : e.Ok) (hG : ∀ p ∈ GW e, w.cell? p.1 = some p.2 ∧ loneStr w p) :
    Calls Tryd.prog 12 #[.agg x.cells.toArray, .int .u16 num, .int .u64 n, .int .u16 cut] w fun x w' => x = .returned (.bool true) ∧ Below w.heap.size w w' := by
  obtain ⟨r, own, nm⟩ := x
  have hR := thL_right r nm
  have hne : resB (thL r nm) (thL r nm).t.toNat ≠ [] := by
    unfold resB numB
    have := NW.varint_ne (1 * 8)
    simp [this]
  have hctr : Ctr Tryd.prog (GW e) 12 [] [.one (.agg [.v (.int .i64 r.t), .v (.string (B r.s)), .v (.int .u64 r.q), .v (.bool r.g), .v (.string (B r.b)), .v (.bool own), .v (.int .u8 nm)]), vv (.int .u16 num), vv (.int .u64 n), vv (.int .u16 cut)] (fun os v => os = [] ∧ v = vv (.bool true)) := by
    cases hc : resR ((resB (thL r nm) (thL r nm).t.toNat).take (cut % (resB (thL r nm) (thL r nm).t.toNat).length)) with
    | none => exact back_n he r own nm num n cut hnum hn hcut _ rfl hR _ rfl hne _ rfl hc
    | some y =>
      by_cases hp : (thL r nm).b = [] ∧ (thL r nm).g = false
      · exact back_e he r own nm num n cut hnum hn hcut _ rfl hR _ rfl hne _ rfl y hc hp.1 hp.2
      · refine back_o he r own nm num n cut hnum hn hcut _ rfl hR _ rfl hne _ rfl y hc ?_
        rw [Bool.eq_false_iff]
        intro h
        rw [eqR_eq h] at hc
        exact hp (back_cut hR (Nat.mod_lt _ (List.length_pos_iff.2 hne)) hc)
  refine (ctr_calls hctr w hG (vals := [.agg #[.int .i64 r.t, .string (B r.s), .int .u64 r.q, .bool r.g, .string (B r.b), .bool own, .int .u8 nm], .int .u16 num, .int .u64 n, .int .u16 cut]) ⟨⟨_, rfl, rfl, rfl, rfl, rfl, rfl, rfl, rfl, trivial⟩, rfl, rfl, rfl, trivial⟩).mono ?_
  rintro x w' ⟨v, os', s, σ', rfl, ⟨rfl, rfl⟩, hd, hb⟩
  have hd : v = .bool true := hd
  subst hd
  exact ⟨rfl, hb⟩
end Go.Proofs.YtbdacbcpniegiaaDoor.Q
