/- Own work: a part of the symbolic executor and of the walks of the functions that the claim reaches. -/
import Derived.Test.YtbdacbcpniegiaaDoorBase3
namespace Go.Proofs.YtbdacbcpniegiaaDoor
open Go Go.RowKit Go.Proofs Go.Sx
set_option maxHeartbeats 8000000
set_option maxRecDepth 100000
set_option linter.unusedSimpArgs false
set_option linter.unusedVariables false
theorem parse_all_aux (G : Nat → NW.Fld → Prop) (hG : ∀ (p : List UInt8) f r, NW.takeF p = some (f, r) → G p.length f) (hm : ∀ a b f, a ≤ b → G a f → G b f) : ∀ (n : Nat) (s : List UInt8) (l : List NW.Fld), s.length ≤ n → NW.parse s = some l → ∀ f ∈ l, G s.length f
  | n, [], l, _, h => by rw [NW.parse_nil] at h; cases h; intro f hf; simp at hf
  | 0, b :: s, l, hn, h => by simp at hn
  | n + 1, b :: s, l, hn, h => by
    cases ht : NW.takeF (b :: s) with
    | none => rw [NW.parse_none (by simp) ht] at h; cases h
    | some fr =>
      obtain ⟨f, r⟩ := fr
      have hl := NW.takeF_len ht
      rw [NW.parse_some ht] at h
      cases hr : NW.parse r with
      | none => rw [hr] at h; cases h
      | some l' =>
        rw [hr] at h; cases h
        have ih := parse_all_aux G hG hm n r l' (by simp only [List.length_cons] at hl hn; omega) hr
        intro g hg
        rcases List.mem_cons.1 hg with rfl | hg
        · exact hG _ _ _ ht
        · exact hm _ _ _ (Nat.le_of_lt hl) (ih g hg)
theorem parse_slen {s : List UInt8} {l : List NW.Fld} (h : NW.parse s = some l) : ∀ f ∈ l, f.s.length ≤ s.length :=
  parse_all_aux (fun n f => f.s.length ≤ n) (fun p f r h => takeF_slen h) (fun a b f hab h => Nat.le_trans h hab) _ s l (Nat.le_refl _) h
theorem takeG_inv {S : Type} {step : NW.Fld → S → Option S} (G : S → Prop) : ∀ (l : List NW.Fld) (m : S), G m → (∀ f ∈ l, ∀ m m', G m → step f m = some m' → G m') → G (takeG step l m).1
  | [], m, h, _ => h
  | f :: l, m, h, hs => by
    rw [takeG]
    cases hf : step f m with
    | none => exact h
    | some m' => exact takeG_inv G l m' (hs f (by simp) m m' h hf) (fun g hg => hs g (by simp [hg]))
theorem takeS_name (s : List UInt8) (m : StS) (n : Nat) (hm : m.name.length ≤ n) (hs : s.length ≤ n) : (takeB stepS s m).1.name.length ≤ n := by
  unfold takeB
  cases hp : NW.parse s with
  | none => exact hm
  | some l =>
    refine takeG_inv (fun m => m.name.length ≤ n) l m hm fun f hf m m' h1 h2 => ?_
    have := parse_slen hp f hf
    unfold stepS at h2
    repeat' split at h2
    all_goals first
      | (cases h2; done)
      | (cases h2; exact h1)
      | (cases h2; show f.s.length ≤ n; omega)
def statR (s : List UInt8) : Option StS := if kindL s = 4 then
    (if (takeB stepS (s.drop 1) ⟨0, [], 0, 0, []⟩).2 = true ∧ (takeB stepS (s.drop 1) ⟨0, [], 0, 0, []⟩).1.fine ≤ 1 ∧ statusB ((min (takeB stepS (s.drop 1) ⟨0, [], 0, 0, []⟩).1.kind 6 : Nat) : Int) (takeB stepS (s.drop 1) ⟨0, [], 0, 0, []⟩).1.name (takeB stepS (s.drop 1) ⟨0, [], 0, 0, []⟩).1.seq (((takeB stepS (s.drop 1) ⟨0, [], 0, 0, []⟩).1.fine : Int) == 1) (takeB stepS (s.drop 1) ⟨0, [], 0, 0, []⟩).1.det = true then some (takeB stepS (s.drop 1) ⟨0, [], 0, 0, []⟩).1 else none) else none
def statV : Option StS → SV
  | some m => .tup [.agg [.v (.int .i64 ((min m.kind 6 : Nat) : Int)), .v (.string (B m.name)), .v (.int .u64 m.seq), .v (.bool ((m.fine : Int) == 1)), .v (.string (B m.det))], .c (.v (.bool true))]
  | none => .tup [.agg [.v (.int .i64 0), .v (.string (B [])), .v (.int .u64 0), .v (.bool false), .v (.string (B []))], .c (.v (.bool false))]
theorem getStat_no {e : EA} (he : e.Ok) (s : List UInt8) (hk : ¬ kindL s = 4) (m : StS) : Ctr Tryd.prog (GE e) 70 (statO m) [vv (.string (B s)), vv (.int .i64 4), .one (.c (.row 0))] (fun os v => os = statO m ∧ v = vv (errV e.k)) := by
  have hk1 : (kindL s != 4) = true := by simpa using hk
  refine Ctr.less ?_
  intro X0 hP0 hG0 N0 hN0
  refine CallVC.inline (f := 70) (by rw [hP0]; exact Tryd.func70) rfl Tryd.ntmps70 rfl (by simp) ?_
  intro X K hU hnt hbl hK
  have hP : X.P = Tryd.prog := by rw [hU.P, hP0]
  have hG := hG0.under hU
  have hT : calleeOk X.P 25 = true ∧ aggOf X.P 125 = some false ∧ szOf X.P 125 = some 1 ∧ isStrT X.P 9 = true ∧ calleeOk X.P 76 = true := by rw [hP]; exact ⟨Ty.co25, Ty.ag125, Ty.sz125, Ty.is9, Ty.co76⟩
  simp only [GA, ↓GB, List.filterMap_cons, eq_self, BEq.rfl, simprocAttr] at hbl ⊢
  repeat' (first
    | (refine SX.seqK ?_; intro N hN)
    | ((first | (refine SX.ops ?_)); simp only [GA, ↓GB, List.filterMap_cons, eq_self, BEq.rfl, simprocAttr, hnt, hT, hk1])
    | ((first | refine SX.skip ?_ | refine SX.exit ?_ | refine SX.label ?_); try simp only [GA, ↓GB, List.filterMap_cons, eq_self, BEq.rfl, simprocAttr])
    | (refine SX.cond rfl (fun hb => ?_) (fun hb => ?_) <;> ((first | cases hb | (simp only [decide_eq_true_eq, decide_eq_false_iff_not, beq_iff_eq, beq_eq_false_iff_ne, bne_iff_ne, Bool.and_eq_true, Bool.or_eq_true, Bool.not_eq_true', Bool.not_eq_false', Bool.and_eq_false_iff, Bool.or_eq_false_iff, Int.not_lt, Int.not_le] at hb) | skip) <;> (first | (exfalso; omega) | skip)))
    | (refine SX.ret ?_; try simp only [GA, ↓GB, List.filterMap_cons, eq_self, BEq.rfl, simprocAttr])
    | (refine hN _ ?_; clear hN N)
    | ((first | refine hK _ _ (FinI.ret3 ?_) | refine hK _ _ (FinI.nrm3 ?_)); simp only [GA, ↓GB, List.filterMap_cons, eq_self, BEq.rfl, simprocAttr, finP_s, hnt, hT, hk1]; refine Done.out ?_)
    | (clear hN N; first | (refine hN _ ?_; clear hN N) | (clear hN N; first | (refine hN _ ?_; clear hN N) | (clear hN N; first | (refine hN _ ?_; clear hN N) | (clear hN N; first | (refine hN _ ?_; clear hN N) | (clear hN N; first | (refine hN _ ?_; clear hN N) | (refine hN _ ?_; clear hN N))))))
    | (refine bif2.mk (fun hb => ?_) (fun hb => ?_) <;> (try simp only [hb, GA, ↓GB, List.filterMap_cons, eq_self, BEq.rfl, simprocAttr, hnt, hT, hk1]) <;> ((first | cases hb | (simp only [decide_eq_true_eq, decide_eq_false_iff_not, beq_iff_eq, beq_eq_false_iff_ne, bne_iff_ne, Bool.and_eq_true, Bool.or_eq_true, Bool.not_eq_true', Bool.not_eq_false', Bool.and_eq_false_iff, Bool.or_eq_false_iff, Int.not_lt, Int.not_le] at hb) | skip) <;> (first | (exfalso; omega) | skip)))
    | ((first | (refine CallVC.pv hP (kind_any s) rfl ?_) | (refine CallQ.pv hP (kind_any s) rfl ?_)); simp only [GA, ↓GB, List.filterMap_cons, eq_self, BEq.rfl, simprocAttr, hnt, hT, hk1])
    | (refine ldG (p := (⟨0, 0, none⟩, errV e.k)) (hG _ (GE0 e)) ?_; simp only [GA, ↓GB, List.filterMap_cons, eq_self, BEq.rfl, simprocAttr, hnt, hT])
    | (refine SX.block ?_)
    | (refine and_mk ?_ ?_; (focus first | decide | omega | rfl | assumption | (simp only [List.length_append, List.length_cons, List.length_nil, B_size]; omega) | (simp; done)))
    | (refine And.intro ?_ ?_))
  all_goals (try refine Done.mk ?_)
  all_goals ((refine hN0 _ _ ⟨[0, 1, 2, 3, 4, 5, 6, 7, 8], _, _, ?_, ?_, ?_, ⟨rfl, rfl⟩⟩; (focus exact LeR.of rfl trivial (by simp only [GA, ↓GB, List.filterMap_cons, eq_self, BEq.rfl, simprocAttr, GDs]) (by decide) rfl rfl rfl); rotate_left; (focus rfl)); rfl)
theorem getStat_yes {e : EA} (he : e.Ok) (s : List UInt8) (hs : s.length ≤ 1099511627776) (hk : kindL s = 4) (m : StS) : Ctr Tryd.prog (GE e) 70 (statO m) [vv (.string (B s)), vv (.int .i64 4), .one (.c (.row 0))]
    (fun os v => os = statO (takeB stepS (s.drop 1) m).1 ∧ v = vv (okV e (takeB stepS (s.drop 1) m).2)) := by
  have hd := drop1 s
  have h1 : 1 ≤ s.length := by cases s with | nil => simp [kindL] at hk | cons _ _ => simp
  refine Ctr.less ?_
  intro X0 hP0 hG0 N0 hN0
  refine CallVC.inline (f := 70) (by rw [hP0]; exact Tryd.func70) rfl Tryd.ntmps70 rfl (by simp) ?_
  intro X K hU hnt hbl hK
  have hP : X.P = Tryd.prog := by rw [hU.P, hP0]
  have hG := hG0.under hU
  have hT : calleeOk X.P 25 = true ∧ aggOf X.P 125 = some false ∧ szOf X.P 125 = some 1 ∧ isStrT X.P 9 = true ∧ calleeOk X.P 76 = true := by rw [hP]; exact ⟨Ty.co25, Ty.ag125, Ty.sz125, Ty.is9, Ty.co76⟩
  simp only [GA, ↓GB, List.filterMap_cons, eq_self, BEq.rfl, simprocAttr] at hbl ⊢
  repeat' (first
    | (refine SX.seqK ?_; intro N hN)
    | ((first | (refine SX.ops ?_)); simp only [GA, ↓GB, List.filterMap_cons, eq_self, BEq.rfl, simprocAttr, hnt, hT, hk, hd])
    | ((first | refine SX.skip ?_ | refine SX.exit ?_ | refine SX.label ?_); try simp only [GA, ↓GB, List.filterMap_cons, eq_self, BEq.rfl, simprocAttr])
    | (refine SX.cond rfl (fun hb => ?_) (fun hb => ?_) <;> ((first | cases hb | (simp only [decide_eq_true_eq, decide_eq_false_iff_not, beq_iff_eq, beq_eq_false_iff_ne, bne_iff_ne, Bool.and_eq_true, Bool.or_eq_true, Bool.not_eq_true', Bool.not_eq_false', Bool.and_eq_false_iff, Bool.or_eq_false_iff, Int.not_lt, Int.not_le] at hb) | skip) <;> (first | (exfalso; omega) | skip)))
    | (refine SX.ret ?_; try simp only [GA, ↓GB, List.filterMap_cons, eq_self, BEq.rfl, simprocAttr])
    | (refine hN _ ?_; clear hN N)
    | ((first | refine hK _ _ (FinI.ret3 ?_) | refine hK _ _ (FinI.nrm3 ?_)); simp only [GA, ↓GB, List.filterMap_cons, eq_self, BEq.rfl, simprocAttr, finP_s, hnt, hT, hk, hd]; refine Done.out ?_)
    | (clear hN N; first | (refine hN _ ?_; clear hN N) | (clear hN N; first | (refine hN _ ?_; clear hN N) | (clear hN N; first | (refine hN _ ?_; clear hN N) | (clear hN N; first | (refine hN _ ?_; clear hN N) | (clear hN N; first | (refine hN _ ?_; clear hN N) | (refine hN _ ?_; clear hN N))))))
    | (refine bif2.mk (fun hb => ?_) (fun hb => ?_) <;> (try simp only [hb, GA, ↓GB, List.filterMap_cons, eq_self, BEq.rfl, simprocAttr, hnt, hT, hk, hd]) <;> ((first | cases hb | (simp only [decide_eq_true_eq, decide_eq_false_iff_not, beq_iff_eq, beq_eq_false_iff_ne, bne_iff_ne, Bool.and_eq_true, Bool.or_eq_true, Bool.not_eq_true', Bool.not_eq_false', Bool.and_eq_false_iff, Bool.or_eq_false_iff, Int.not_lt, Int.not_le] at hb) | skip) <;> (first | (exfalso; omega) | skip)))
    | ((first | (refine CallVC.pv hP (kind_any s) rfl ?_) | (refine CallQ.pv hP (kind_any s) rfl ?_) | (refine Ctr.use (takeStat_ctr he (s.drop 1) (by rw [List.length_drop]; omega) m) hP hG [0,1,2,3,4,5,6,7,8] ?_ rfl rfl ?_; (focus (refine LeR.of rfl trivial ?_ ?_ ?_ ?_ ?_ <;> first | decide | (simp only [GA, ↓GB, List.filterMap_cons, eq_self, BEq.rfl, simprocAttr, GDs]; done))); intro os' s hR; obtain ⟨rfl, rfl⟩ := hR)); simp only [GA, ↓GB, List.filterMap_cons, eq_self, BEq.rfl, simprocAttr, hnt, hT, hk, hd])
    | (refine SX.block ?_)
    | (refine and_mk ?_ ?_; (focus first | decide | omega | rfl | assumption | (simp only [List.length_append, List.length_cons, List.length_nil, B_size]; omega) | (simp; done)))
    | (refine And.intro ?_ ?_))
  all_goals (try refine Done.mk ?_)
  all_goals ((refine hN0 _ _ ⟨[0, 1, 2, 3, 4, 5, 6, 7, 8], _, _, ?_, ?_, ?_, ⟨rfl, rfl⟩⟩; (focus exact LeR.of rfl trivial (by simp only [GA, ↓GB, List.filterMap_cons, eq_self, BEq.rfl, simprocAttr, GDs]) (by decide) rfl rfl rfl); rotate_left; (focus rfl)); rfl)
end Go.Proofs.YtbdacbcpniegiaaDoor
namespace Go.Proofs.YtbdacbcpniegiaaDoor
open Go Go.RowKit Go.Proofs Go.Sx
set_option maxHeartbeats 8000000
set_option maxRecDepth 100000
set_option linter.unusedSimpArgs false
set_option linter.unusedVariables false
theorem min6 (k : Nat) : (if (6 : Int) < (k : Int) then (6 : Int) else (k : Int)) = ((min k 6 : Nat) : Int) := by split <;> omega
theorem min6w (k : Nat) : IntKind.i64.wrap ((min k 6 : Nat) : Int) = ((min k 6 : Nat) : Int) := wI64 (by omega) (by omega)
theorem getStatus_ctr {e : EA} (he : e.Ok) (s : List UInt8) (hs : s.length ≤ 1099511627776) : Ctr Tryd.prog (GE e) 20 [] [vv (.string (B s))] (fun os v => os = [] ∧ v = statV (statR s)) := by
  refine Ctr.less ?_
  by_cases hk : kindL s = 4
  · obtain ⟨m, hm⟩ : ∃ m, (takeB stepS (s.drop 1) ⟨0, [], 0, 0, []⟩).1 = m := ⟨_, rfl⟩
    have hg := getStat_yes he s hs hk ⟨0, [], 0, 0, []⟩
    have hn : m.name.length ≤ 9223372036854775807 := by rw [← hm]; exact takeS_name _ _ _ (by simp) (by rw [List.length_drop]; omega)
    have h6 := min6 m.kind
    have h7 := min6w m.kind
    unfold statR
    rw [if_pos hk, hm]
    rw [hm] at hg
    cases hr : (takeB stepS (s.drop 1) ⟨0, [], 0, 0, []⟩).2 with
    | true =>
      rw [hr] at hg
      have hb := bad_nil he
      intro X0 hP0 hG0 N0 hN0
      refine CallVC.inline (f := 20) (by rw [hP0]; exact Tryd.func20) rfl Tryd.ntmps20 rfl (by simp) ?_
      intro X K hU hnt hbl hK
      have hP : X.P = Tryd.prog := by rw [hU.P, hP0]
      have hG := hG0.under hU
      have hT : zeroCells X.P 30 = some [(Value.int IntKind.i64 0), (Value.string { data := #[] }), (Value.int IntKind.u64 0), (Value.bool false), (Value.string { data := #[] })] ∧ zeroCells X.P 22 = some [(Value.int IntKind.u64 0)] ∧ calleeOk X.P 71 = true ∧ mapInf X.P 139 = some ((TypeDesc.int IntKind.i64), (Value.agg #[(Value.int IntKind.i64 0), Value.nilFunc])) ∧ fieldOff X.P 30 0 = some 0 ∧ fieldOff X.P 26 1 = some 1 ∧ calleeOk X.P 72 = true ∧ fieldOff X.P 30 1 = some 2 ∧ fieldOff X.P 30 3 = some 4 ∧ calleeOk X.P 70 = true ∧ aggOf X.P 22 = some false ∧ szOf X.P 22 = some 1 ∧ X.P.underlying 22 = some (TypeDesc.int IntKind.u64) ∧ X.P.underlying 3 = some (TypeDesc.int IntKind.i64) ∧ isBytesT X.P 22 = false ∧ isStrT X.P 3 = false ∧ fieldOff X.P 26 0 = some 0 ∧ szOf X.P 3 = some 1 ∧ fieldOff X.P 30 2 = some 3 ∧ szOf X.P 4 = some 1 ∧ calleeOk X.P 73 = true ∧ aggOf X.P 30 = some true ∧ szOf X.P 30 = some 5 ∧ calleeOk X.P 64 = true ∧ fieldsOf X.P 30 = some [(0, 2), (2, 1), (3, 1), (4, 1)] := by rw [hP]; exact ⟨Ty.ze30, Ty.ze22, Ty.co71, Ty.mi139, Ty.fo30_0, Ty.fo26_1, Ty.co72, Ty.fo30_1, Ty.fo30_3, Ty.co70, Ty.ag22, Ty.sz22, Tryd.underlying22, Tryd.underlying3, Ty.ib22, Ty.is3, Ty.fo26_0, Ty.sz3, Ty.fo30_2, Ty.sz4, Ty.co73, Ty.ag30, Ty.sz30, Ty.co64, Ty.fs30⟩
      simp only [GA, ↓GB, List.filterMap_cons, eq_self, BEq.rfl, simprocAttr] at hbl ⊢
      have hk8 : aggOf X.P 134 = some true := by rw [hP]; kernel_rfl
      have hnt1 := True.intro; have hT1 := True.intro; have hU1P := True.intro
      repeat' (first
        | (refine SX.seqK ?_; intro N hN)
        | ((first | (refine SX.ops ?_)); simp only [GA, ↓GB, List.filterMap_cons, eq_self, BEq.rfl, simprocAttr, hnt, hT, hnt1, hT1, hU1P, hk8, h6, h7])
        | ((first | refine SX.skip ?_ | refine SX.exit ?_ | refine SX.label ?_); try simp only [GA, ↓GB, List.filterMap_cons, eq_self, BEq.rfl, simprocAttr])
        | (refine SX.cond rfl (fun hb => ?_) (fun hb => ?_) <;> ((first | cases hb | (simp only [decide_eq_true_eq, decide_eq_false_iff_not, beq_iff_eq, beq_eq_false_iff_ne, bne_iff_ne, Bool.and_eq_true, Bool.or_eq_true, Bool.not_eq_true', Bool.not_eq_false', Bool.and_eq_false_iff, Bool.or_eq_false_iff, Int.not_lt, Int.not_le] at hb) | skip) <;> (first | (exfalso; omega) | skip)))
        | (refine SX.ret ?_; try simp only [GA, ↓GB, List.filterMap_cons, eq_self, BEq.rfl, simprocAttr])
        | (refine hN _ ?_; clear hN N)
        | ((first | refine hK1 _ _ (FinI.ret3 ?_) | refine hK1 _ _ (FinI.nrm3 ?_)); (repeat (clear hN N)); clear hK1 K1; simp only [GA, ↓GB, List.filterMap_cons, eq_self, BEq.rfl, simprocAttr, finP_s, hnt, hT, hnt1, hT1, hU1P, hk8, h6, h7])
        | ((first | refine hK _ _ (FinI.ret3 ?_) | refine hK _ _ (FinI.nrm3 ?_)); simp only [GA, ↓GB, List.filterMap_cons, eq_self, BEq.rfl, simprocAttr, finP_s, hnt, hT, hnt1, hT1, hU1P, hk8, h6, h7]; refine Done.out ?_)
        | (clear hN N; first | (refine hN _ ?_; clear hN N) | (clear hN N; first | (refine hN _ ?_; clear hN N) | (clear hN N; first | (refine hN _ ?_; clear hN N) | (clear hN N; first | (refine hN _ ?_; clear hN N) | (clear hN N; first | (refine hN _ ?_; clear hN N) | (refine hN _ ?_; clear hN N))))))
        | (refine bif2.mk (fun hb => ?_) (fun hb => ?_) <;> (try simp only [hb, GA, ↓GB, List.filterMap_cons, eq_self, BEq.rfl, simprocAttr, hnt, hT, hnt1, hT1, hU1P, hk8, h6, h7]) <;> ((first | cases hb | (simp only [decide_eq_true_eq, decide_eq_false_iff_not, beq_iff_eq, beq_eq_false_iff_ne, bne_iff_ne, Bool.and_eq_true, Bool.or_eq_true, Bool.not_eq_true', Bool.not_eq_false', Bool.and_eq_false_iff, Bool.or_eq_false_iff, Int.not_lt, Int.not_le] at hb) | skip) <;> (first | (exfalso; omega) | skip)))
        | ((first | (refine Ctr.use (hg) hP hG [4,5,7,9,11,13,2,3,1] ?_ rfl rfl ?_; (focus (refine LeR.of rfl trivial ?_ ?_ ?_ ?_ ?_ <;> first | decide | (simp only [GA, ↓GB, List.filterMap_cons, eq_self, BEq.rfl, simprocAttr, GDs]; done))); intro os' s hR; obtain ⟨rfl, rfl⟩ := hR) | (refine Ctr.use (hb) hP hG [] ?_ rfl rfl ?_; (focus (refine LeR.of rfl trivial ?_ ?_ ?_ ?_ ?_ <;> first | decide | (simp only [GA, ↓GB, List.filterMap_cons, eq_self, BEq.rfl, simprocAttr, GDs]; done))); intro os' s hR; obtain ⟨rfl, rfl⟩ := hR) | (refine CallVC.pv hP (statusRight_any _ _ _ _ _ hn) rfl ?_) | (refine CallQ.pv hP (statusRight_any _ _ _ _ _ hn) rfl ?_)); simp only [GA, ↓GB, List.filterMap_cons, eq_self, BEq.rfl, simprocAttr, hnt, hT, hnt1, hT1, hU1P, hk8, h6, h7])
        | (refine CallVC.inline (f := 71) ?_ rfl Tryd.ntmps71 rfl ?_ ?_; (focus rw [hP]; exact Tryd.func71); (focus simp); have hT1 : zeroCells X.P 134 = some [(Value.int IntKind.i64 0), Value.nilFunc] ∧ calleeOk X.P 124 = true ∧ fieldsOf X.P 134 = some [(0, 1), (1, 1)] ∧ szOf X.P 134 = some 2 := (by rw [hP]; exact ⟨Ty.ze134, Ty.co124, Ty.fs134, Ty.sz134⟩); intro X1 K1 hU1 hnt1 hbl1 hK1; have hU1P := hU1.P; simp only [GA, ↓GB, List.filterMap_cons, eq_self, BEq.rfl, simprocAttr] at hbl1 ⊢)
        | (refine CallVC.inline (f := 72) ?_ rfl Tryd.ntmps72 rfl ?_ ?_; (focus rw [hP]; exact Tryd.func72); (focus simp); have hT1 : zeroCells X.P 134 = some [(Value.int IntKind.i64 0), Value.nilFunc] ∧ calleeOk X.P 125 = true ∧ fieldsOf X.P 134 = some [(0, 1), (1, 1)] ∧ szOf X.P 134 = some 2 := (by rw [hP]; exact ⟨Ty.ze134, Ty.co125, Ty.fs134, Ty.sz134⟩); intro X1 K1 hU1 hnt1 hbl1 hK1; have hU1P := hU1.P; simp only [GA, ↓GB, List.filterMap_cons, eq_self, BEq.rfl, simprocAttr] at hbl1 ⊢)
        | ((first | (refine Ctr.use (hg) (hU1P.trans hP) (hG.under hU1) [4,5,7,9,11,13,2,3,1] ?_ rfl rfl ?_; (focus (refine LeR.of rfl trivial ?_ ?_ ?_ ?_ ?_ <;> first | decide | (simp only [GA, ↓GB, List.filterMap_cons, eq_self, BEq.rfl, simprocAttr, GDs]; done))); intro os' s hR; obtain ⟨rfl, rfl⟩ := hR) | (refine Ctr.use (hb) (hU1P.trans hP) (hG.under hU1) [] ?_ rfl rfl ?_; (focus (refine LeR.of rfl trivial ?_ ?_ ?_ ?_ ?_ <;> first | decide | (simp only [GA, ↓GB, List.filterMap_cons, eq_self, BEq.rfl, simprocAttr, GDs]; done))); intro os' s hR; obtain ⟨rfl, rfl⟩ := hR) | (refine CallVC.pv (hU1P.trans hP) (statusRight_any _ _ _ _ _ hn) rfl ?_) | (refine CallQ.pv (hU1P.trans hP) (statusRight_any _ _ _ _ _ hn) rfl ?_)); simp only [GA, ↓GB, List.filterMap_cons, eq_self, BEq.rfl, simprocAttr, hnt, hT, hnt1, hT1, hU1P, hk8, h6, h7])
        | (refine SX.block ?_)
        | (refine and_mk ?_ ?_; (focus first | decide | omega | rfl | assumption | (simp only [List.length_append, List.length_cons, List.length_nil, B_size]; omega) | (simp; done)))
        | (refine And.intro ?_ ?_))
      all_goals (try refine Done.mk ?_)
      · rw [if_neg (fun h => by have := h.2.1; omega)] at hN0
        (refine hN0 _ _ ⟨[], _, _, ?_, ?_, ?_, ⟨rfl, rfl⟩⟩; (focus exact LeR.of rfl trivial (by simp only [GA, ↓GB, List.filterMap_cons, eq_self, BEq.rfl, simprocAttr, GDs]) (by decide) rfl rfl rfl); rotate_left; (focus rfl))
        rfl
      · rw [if_neg (fun h => by have := h.2.2; rw [hb] at this; cases this)] at hN0
        (refine hN0 _ _ ⟨[], _, _, ?_, ?_, ?_, ⟨rfl, rfl⟩⟩; (focus exact LeR.of rfl trivial (by simp only [GA, ↓GB, List.filterMap_cons, eq_self, BEq.rfl, simprocAttr, GDs]) (by decide) rfl rfl rfl); rotate_left; (focus rfl))
        rfl
      · rw [if_pos ⟨rfl, by omega, hb⟩] at hN0
        (refine hN0 _ _ ⟨[], _, _, ?_, ?_, ?_, ⟨rfl, rfl⟩⟩; (focus exact LeR.of rfl trivial (by simp only [GA, ↓GB, List.filterMap_cons, eq_self, BEq.rfl, simprocAttr, GDs]) (by decide) rfl rfl rfl); rotate_left; (focus rfl))
        rfl
    | false =>
      rw [hr] at hg
      have hb := bad_form he
      intro X0 hP0 hG0 N0 hN0
      refine CallVC.inline (f := 20) (by rw [hP0]; exact Tryd.func20) rfl Tryd.ntmps20 rfl (by simp) ?_
      intro X K hU hnt hbl hK
      have hP : X.P = Tryd.prog := by rw [hU.P, hP0]
      have hG := hG0.under hU
      have hT : zeroCells X.P 30 = some [(Value.int IntKind.i64 0), (Value.string { data := #[] }), (Value.int IntKind.u64 0), (Value.bool false), (Value.string { data := #[] })] ∧ zeroCells X.P 22 = some [(Value.int IntKind.u64 0)] ∧ calleeOk X.P 71 = true ∧ mapInf X.P 139 = some ((TypeDesc.int IntKind.i64), (Value.agg #[(Value.int IntKind.i64 0), Value.nilFunc])) ∧ fieldOff X.P 30 0 = some 0 ∧ fieldOff X.P 26 1 = some 1 ∧ calleeOk X.P 72 = true ∧ fieldOff X.P 30 1 = some 2 ∧ fieldOff X.P 30 3 = some 4 ∧ calleeOk X.P 70 = true ∧ aggOf X.P 22 = some false ∧ szOf X.P 22 = some 1 ∧ X.P.underlying 22 = some (TypeDesc.int IntKind.u64) ∧ X.P.underlying 3 = some (TypeDesc.int IntKind.i64) ∧ isBytesT X.P 22 = false ∧ isStrT X.P 3 = false ∧ fieldOff X.P 26 0 = some 0 ∧ szOf X.P 3 = some 1 ∧ fieldOff X.P 30 2 = some 3 ∧ szOf X.P 4 = some 1 ∧ calleeOk X.P 73 = true ∧ aggOf X.P 30 = some true ∧ szOf X.P 30 = some 5 ∧ calleeOk X.P 64 = true ∧ fieldsOf X.P 30 = some [(0, 2), (2, 1), (3, 1), (4, 1)] := by rw [hP]; exact ⟨Ty.ze30, Ty.ze22, Ty.co71, Ty.mi139, Ty.fo30_0, Ty.fo26_1, Ty.co72, Ty.fo30_1, Ty.fo30_3, Ty.co70, Ty.ag22, Ty.sz22, Tryd.underlying22, Tryd.underlying3, Ty.ib22, Ty.is3, Ty.fo26_0, Ty.sz3, Ty.fo30_2, Ty.sz4, Ty.co73, Ty.ag30, Ty.sz30, Ty.co64, Ty.fs30⟩
      simp only [GA, ↓GB, List.filterMap_cons, eq_self, BEq.rfl, simprocAttr] at hbl ⊢
      have hk8 : aggOf X.P 134 = some true := by rw [hP]; kernel_rfl
      have hnt1 := True.intro; have hT1 := True.intro; have hU1P := True.intro
      repeat' (first
        | (refine SX.seqK ?_; intro N hN)
        | ((first | (refine SX.ops ?_)); simp only [GA, ↓GB, List.filterMap_cons, eq_self, BEq.rfl, simprocAttr, hnt, hT, hnt1, hT1, hU1P, hk8, h6, h7])
        | ((first | refine SX.skip ?_ | refine SX.exit ?_ | refine SX.label ?_); try simp only [GA, ↓GB, List.filterMap_cons, eq_self, BEq.rfl, simprocAttr])
        | (refine SX.cond rfl (fun hb => ?_) (fun hb => ?_) <;> ((first | cases hb | (simp only [decide_eq_true_eq, decide_eq_false_iff_not, beq_iff_eq, beq_eq_false_iff_ne, bne_iff_ne, Bool.and_eq_true, Bool.or_eq_true, Bool.not_eq_true', Bool.not_eq_false', Bool.and_eq_false_iff, Bool.or_eq_false_iff, Int.not_lt, Int.not_le] at hb) | skip) <;> (first | (exfalso; omega) | skip)))
        | (refine SX.ret ?_; try simp only [GA, ↓GB, List.filterMap_cons, eq_self, BEq.rfl, simprocAttr])
        | (refine hN _ ?_; clear hN N)
        | ((first | refine hK1 _ _ (FinI.ret3 ?_) | refine hK1 _ _ (FinI.nrm3 ?_)); (repeat (clear hN N)); clear hK1 K1; simp only [GA, ↓GB, List.filterMap_cons, eq_self, BEq.rfl, simprocAttr, finP_s, hnt, hT, hnt1, hT1, hU1P, hk8, h6, h7])
        | ((first | refine hK _ _ (FinI.ret3 ?_) | refine hK _ _ (FinI.nrm3 ?_)); simp only [GA, ↓GB, List.filterMap_cons, eq_self, BEq.rfl, simprocAttr, finP_s, hnt, hT, hnt1, hT1, hU1P, hk8, h6, h7]; refine Done.out ?_)
        | (clear hN N; first | (refine hN _ ?_; clear hN N) | (clear hN N; first | (refine hN _ ?_; clear hN N) | (clear hN N; first | (refine hN _ ?_; clear hN N) | (clear hN N; first | (refine hN _ ?_; clear hN N) | (clear hN N; first | (refine hN _ ?_; clear hN N) | (refine hN _ ?_; clear hN N))))))
        | (refine bif2.mk (fun hb => ?_) (fun hb => ?_) <;> (try simp only [hb, GA, ↓GB, List.filterMap_cons, eq_self, BEq.rfl, simprocAttr, hnt, hT, hnt1, hT1, hU1P, hk8, h6, h7]) <;> ((first | cases hb | (simp only [decide_eq_true_eq, decide_eq_false_iff_not, beq_iff_eq, beq_eq_false_iff_ne, bne_iff_ne, Bool.and_eq_true, Bool.or_eq_true, Bool.not_eq_true', Bool.not_eq_false', Bool.and_eq_false_iff, Bool.or_eq_false_iff, Int.not_lt, Int.not_le] at hb) | skip) <;> (first | (exfalso; omega) | skip)))
        | ((first | (refine Ctr.use (hg) hP hG [4,5,7,9,11,13,2,3,1] ?_ rfl rfl ?_; (focus (refine LeR.of rfl trivial ?_ ?_ ?_ ?_ ?_ <;> first | decide | (simp only [GA, ↓GB, List.filterMap_cons, eq_self, BEq.rfl, simprocAttr, GDs]; done))); intro os' s hR; obtain ⟨rfl, rfl⟩ := hR) | (refine Ctr.use (hb) hP hG [] ?_ rfl rfl ?_; (focus (refine LeR.of rfl trivial ?_ ?_ ?_ ?_ ?_ <;> first | decide | (simp only [GA, ↓GB, List.filterMap_cons, eq_self, BEq.rfl, simprocAttr, GDs]; done))); intro os' s hR; obtain ⟨rfl, rfl⟩ := hR)); simp only [GA, ↓GB, List.filterMap_cons, eq_self, BEq.rfl, simprocAttr, hnt, hT, hnt1, hT1, hU1P, hk8, h6, h7])
        | (refine CallVC.inline (f := 71) ?_ rfl Tryd.ntmps71 rfl ?_ ?_; (focus rw [hP]; exact Tryd.func71); (focus simp); have hT1 : zeroCells X.P 134 = some [(Value.int IntKind.i64 0), Value.nilFunc] ∧ calleeOk X.P 124 = true ∧ fieldsOf X.P 134 = some [(0, 1), (1, 1)] ∧ szOf X.P 134 = some 2 := (by rw [hP]; exact ⟨Ty.ze134, Ty.co124, Ty.fs134, Ty.sz134⟩); intro X1 K1 hU1 hnt1 hbl1 hK1; have hU1P := hU1.P; simp only [GA, ↓GB, List.filterMap_cons, eq_self, BEq.rfl, simprocAttr] at hbl1 ⊢)
        | (refine CallVC.inline (f := 72) ?_ rfl Tryd.ntmps72 rfl ?_ ?_; (focus rw [hP]; exact Tryd.func72); (focus simp); have hT1 : zeroCells X.P 134 = some [(Value.int IntKind.i64 0), Value.nilFunc] ∧ calleeOk X.P 125 = true ∧ fieldsOf X.P 134 = some [(0, 1), (1, 1)] ∧ szOf X.P 134 = some 2 := (by rw [hP]; exact ⟨Ty.ze134, Ty.co125, Ty.fs134, Ty.sz134⟩); intro X1 K1 hU1 hnt1 hbl1 hK1; have hU1P := hU1.P; simp only [GA, ↓GB, List.filterMap_cons, eq_self, BEq.rfl, simprocAttr] at hbl1 ⊢)
        | ((first | (refine Ctr.use (hg) (hU1P.trans hP) (hG.under hU1) [4,5,7,9,11,13,2,3,1] ?_ rfl rfl ?_; (focus (refine LeR.of rfl trivial ?_ ?_ ?_ ?_ ?_ <;> first | decide | (simp only [GA, ↓GB, List.filterMap_cons, eq_self, BEq.rfl, simprocAttr, GDs]; done))); intro os' s hR; obtain ⟨rfl, rfl⟩ := hR) | (refine Ctr.use (hb) (hU1P.trans hP) (hG.under hU1) [] ?_ rfl rfl ?_; (focus (refine LeR.of rfl trivial ?_ ?_ ?_ ?_ ?_ <;> first | decide | (simp only [GA, ↓GB, List.filterMap_cons, eq_self, BEq.rfl, simprocAttr, GDs]; done))); intro os' s hR; obtain ⟨rfl, rfl⟩ := hR)); simp only [GA, ↓GB, List.filterMap_cons, eq_self, BEq.rfl, simprocAttr, hnt, hT, hnt1, hT1, hU1P, hk8, h6, h7])
        | (refine SX.block ?_)
        | (refine and_mk ?_ ?_; (focus first | decide | omega | rfl | assumption | (simp only [List.length_append, List.length_cons, List.length_nil, B_size]; omega) | (simp; done)))
        | (refine And.intro ?_ ?_))
      all_goals (try refine Done.mk ?_)
      all_goals (rw [if_neg (fun h => by cases h.1)] at hN0; (refine hN0 _ _ ⟨[], _, _, ?_, ?_, ?_, ⟨rfl, rfl⟩⟩; (focus exact LeR.of rfl trivial (by simp only [GA, ↓GB, List.filterMap_cons, eq_self, BEq.rfl, simprocAttr, GDs]) (by decide) rfl rfl rfl); rotate_left; (focus rfl)); rfl)
  · have hg := getStat_no he s hk ⟨0, [], 0, 0, []⟩
    have hb := bad_kind he
    have h6 := min6 0
    have h7 := min6w 0
    rw [show statR s = none by rw [statR, if_neg hk]]
    intro X0 hP0 hG0 N0 hN0
    refine CallVC.inline (f := 20) (by rw [hP0]; exact Tryd.func20) rfl Tryd.ntmps20 rfl (by simp) ?_
    intro X K hU hnt hbl hK
    have hP : X.P = Tryd.prog := by rw [hU.P, hP0]
    have hG := hG0.under hU
    have hT : zeroCells X.P 30 = some [(Value.int IntKind.i64 0), (Value.string { data := #[] }), (Value.int IntKind.u64 0), (Value.bool false), (Value.string { data := #[] })] ∧ zeroCells X.P 22 = some [(Value.int IntKind.u64 0)] ∧ calleeOk X.P 71 = true ∧ mapInf X.P 139 = some ((TypeDesc.int IntKind.i64), (Value.agg #[(Value.int IntKind.i64 0), Value.nilFunc])) ∧ fieldOff X.P 30 0 = some 0 ∧ fieldOff X.P 26 1 = some 1 ∧ calleeOk X.P 72 = true ∧ fieldOff X.P 30 1 = some 2 ∧ fieldOff X.P 30 3 = some 4 ∧ calleeOk X.P 70 = true ∧ aggOf X.P 22 = some false ∧ szOf X.P 22 = some 1 ∧ X.P.underlying 22 = some (TypeDesc.int IntKind.u64) ∧ X.P.underlying 3 = some (TypeDesc.int IntKind.i64) ∧ isBytesT X.P 22 = false ∧ isStrT X.P 3 = false ∧ fieldOff X.P 26 0 = some 0 ∧ szOf X.P 3 = some 1 ∧ fieldOff X.P 30 2 = some 3 ∧ szOf X.P 4 = some 1 ∧ calleeOk X.P 73 = true ∧ aggOf X.P 30 = some true ∧ szOf X.P 30 = some 5 ∧ calleeOk X.P 64 = true ∧ fieldsOf X.P 30 = some [(0, 2), (2, 1), (3, 1), (4, 1)] := by rw [hP]; exact ⟨Ty.ze30, Ty.ze22, Ty.co71, Ty.mi139, Ty.fo30_0, Ty.fo26_1, Ty.co72, Ty.fo30_1, Ty.fo30_3, Ty.co70, Ty.ag22, Ty.sz22, Tryd.underlying22, Tryd.underlying3, Ty.ib22, Ty.is3, Ty.fo26_0, Ty.sz3, Ty.fo30_2, Ty.sz4, Ty.co73, Ty.ag30, Ty.sz30, Ty.co64, Ty.fs30⟩
    simp only [GA, ↓GB, List.filterMap_cons, eq_self, BEq.rfl, simprocAttr] at hbl ⊢
    have hk8 : aggOf X.P 134 = some true := by rw [hP]; kernel_rfl
    have hnt1 := True.intro; have hT1 := True.intro; have hU1P := True.intro
    repeat' (first
      | (refine SX.seqK ?_; intro N hN)
      | ((first | (refine SX.ops ?_)); simp only [GA, ↓GB, List.filterMap_cons, eq_self, BEq.rfl, simprocAttr, hnt, hT, hnt1, hT1, hU1P, hk8, h6, h7])
      | ((first | refine SX.skip ?_ | refine SX.exit ?_ | refine SX.label ?_); try simp only [GA, ↓GB, List.filterMap_cons, eq_self, BEq.rfl, simprocAttr])
      | (refine SX.cond rfl (fun hb => ?_) (fun hb => ?_) <;> ((first | cases hb | (simp only [decide_eq_true_eq, decide_eq_false_iff_not, beq_iff_eq, beq_eq_false_iff_ne, bne_iff_ne, Bool.and_eq_true, Bool.or_eq_true, Bool.not_eq_true', Bool.not_eq_false', Bool.and_eq_false_iff, Bool.or_eq_false_iff, Int.not_lt, Int.not_le] at hb) | skip) <;> (first | (exfalso; omega) | skip)))
      | (refine SX.ret ?_; try simp only [GA, ↓GB, List.filterMap_cons, eq_self, BEq.rfl, simprocAttr])
      | (refine hN _ ?_; clear hN N)
      | ((first | refine hK1 _ _ (FinI.ret3 ?_) | refine hK1 _ _ (FinI.nrm3 ?_)); (repeat (clear hN N)); clear hK1 K1; simp only [GA, ↓GB, List.filterMap_cons, eq_self, BEq.rfl, simprocAttr, finP_s, hnt, hT, hnt1, hT1, hU1P, hk8, h6, h7])
      | ((first | refine hK _ _ (FinI.ret3 ?_) | refine hK _ _ (FinI.nrm3 ?_)); simp only [GA, ↓GB, List.filterMap_cons, eq_self, BEq.rfl, simprocAttr, finP_s, hnt, hT, hnt1, hT1, hU1P, hk8, h6, h7]; refine Done.out ?_)
      | (clear hN N; first | (refine hN _ ?_; clear hN N) | (clear hN N; first | (refine hN _ ?_; clear hN N) | (clear hN N; first | (refine hN _ ?_; clear hN N) | (clear hN N; first | (refine hN _ ?_; clear hN N) | (clear hN N; first | (refine hN _ ?_; clear hN N) | (refine hN _ ?_; clear hN N))))))
      | (refine bif2.mk (fun hb => ?_) (fun hb => ?_) <;> (try simp only [hb, GA, ↓GB, List.filterMap_cons, eq_self, BEq.rfl, simprocAttr, hnt, hT, hnt1, hT1, hU1P, hk8, h6, h7]) <;> ((first | cases hb | (simp only [decide_eq_true_eq, decide_eq_false_iff_not, beq_iff_eq, beq_eq_false_iff_ne, bne_iff_ne, Bool.and_eq_true, Bool.or_eq_true, Bool.not_eq_true', Bool.not_eq_false', Bool.and_eq_false_iff, Bool.or_eq_false_iff, Int.not_lt, Int.not_le] at hb) | skip) <;> (first | (exfalso; omega) | skip)))
      | ((first | (refine Ctr.use (hg) hP hG [4,5,7,9,11,13,2,3,1] ?_ rfl rfl ?_; (focus (refine LeR.of rfl trivial ?_ ?_ ?_ ?_ ?_ <;> first | decide | (simp only [GA, ↓GB, List.filterMap_cons, eq_self, BEq.rfl, simprocAttr, GDs]; done))); intro os' s hR; obtain ⟨rfl, rfl⟩ := hR) | (refine Ctr.use (hb) hP hG [] ?_ rfl rfl ?_; (focus (refine LeR.of rfl trivial ?_ ?_ ?_ ?_ ?_ <;> first | decide | (simp only [GA, ↓GB, List.filterMap_cons, eq_self, BEq.rfl, simprocAttr, GDs]; done))); intro os' s hR; obtain ⟨rfl, rfl⟩ := hR)); simp only [GA, ↓GB, List.filterMap_cons, eq_self, BEq.rfl, simprocAttr, hnt, hT, hnt1, hT1, hU1P, hk8, h6, h7])
      | (refine CallVC.inline (f := 71) ?_ rfl Tryd.ntmps71 rfl ?_ ?_; (focus rw [hP]; exact Tryd.func71); (focus simp); have hT1 : zeroCells X.P 134 = some [(Value.int IntKind.i64 0), Value.nilFunc] ∧ calleeOk X.P 124 = true ∧ fieldsOf X.P 134 = some [(0, 1), (1, 1)] ∧ szOf X.P 134 = some 2 := (by rw [hP]; exact ⟨Ty.ze134, Ty.co124, Ty.fs134, Ty.sz134⟩); intro X1 K1 hU1 hnt1 hbl1 hK1; have hU1P := hU1.P; simp only [GA, ↓GB, List.filterMap_cons, eq_self, BEq.rfl, simprocAttr] at hbl1 ⊢)
      | (refine CallVC.inline (f := 72) ?_ rfl Tryd.ntmps72 rfl ?_ ?_; (focus rw [hP]; exact Tryd.func72); (focus simp); have hT1 : zeroCells X.P 134 = some [(Value.int IntKind.i64 0), Value.nilFunc] ∧ calleeOk X.P 125 = true ∧ fieldsOf X.P 134 = some [(0, 1), (1, 1)] ∧ szOf X.P 134 = some 2 := (by rw [hP]; exact ⟨Ty.ze134, Ty.co125, Ty.fs134, Ty.sz134⟩); intro X1 K1 hU1 hnt1 hbl1 hK1; have hU1P := hU1.P; simp only [GA, ↓GB, List.filterMap_cons, eq_self, BEq.rfl, simprocAttr] at hbl1 ⊢)
      | ((first | (refine Ctr.use (hg) (hU1P.trans hP) (hG.under hU1) [4,5,7,9,11,13,2,3,1] ?_ rfl rfl ?_; (focus (refine LeR.of rfl trivial ?_ ?_ ?_ ?_ ?_ <;> first | decide | (simp only [GA, ↓GB, List.filterMap_cons, eq_self, BEq.rfl, simprocAttr, GDs]; done))); intro os' s hR; obtain ⟨rfl, rfl⟩ := hR) | (refine Ctr.use (hb) (hU1P.trans hP) (hG.under hU1) [] ?_ rfl rfl ?_; (focus (refine LeR.of rfl trivial ?_ ?_ ?_ ?_ ?_ <;> first | decide | (simp only [GA, ↓GB, List.filterMap_cons, eq_self, BEq.rfl, simprocAttr, GDs]; done))); intro os' s hR; obtain ⟨rfl, rfl⟩ := hR)); simp only [GA, ↓GB, List.filterMap_cons, eq_self, BEq.rfl, simprocAttr, hnt, hT, hnt1, hT1, hU1P, hk8, h6, h7])
      | (refine SX.block ?_)
      | (refine and_mk ?_ ?_; (focus first | decide | omega | rfl | assumption | (simp only [List.length_append, List.length_cons, List.length_nil, B_size]; omega) | (simp; done)))
      | (refine And.intro ?_ ?_))
    all_goals (try refine Done.mk ?_)
    all_goals ((refine hN0 _ _ ⟨[], _, _, ?_, ?_, ?_, ⟨rfl, rfl⟩⟩; (focus exact LeR.of rfl trivial (by simp only [GA, ↓GB, List.filterMap_cons, eq_self, BEq.rfl, simprocAttr, GDs]) (by decide) rfl rfl rfl); rotate_left; (focus rfl)); rfl)
end Go.Proofs.YtbdacbcpniegiaaDoor
namespace Go.Proofs.YtbdacbcpniegiaaDoor
open Go Go.RowKit Go.Proofs Go.Sx
set_option maxHeartbeats 8000000
set_option maxRecDepth 100000
set_option linter.unusedSimpArgs false
set_option linter.unusedVariables false
theorem numBlk2 {X : Ctx} {code : Code} {c : Cfg} {K : Exit → Cfg → Prop} {id : Nat} (x : Nat) (h1 : (x : Int) = 1 → SX X code c (bx id K)) (h2 : (x : Int) = 2 → SX X code c (bx id K))
    (h0 : ((x : Int) == 1) = false ∧ ((x : Int) == 2) = false → SX X code c (bx id K)) : SX X (.block id code) c K := by
  refine SX.block ?_
  by_cases e1 : (x : Int) = 1
  · exact h1 e1
  by_cases e2 : (x : Int) = 2
  · exact h2 e2
  exact h0 ⟨by simpa using e1, by simpa using e2⟩
abbrev HvS := List UInt8 × Nat
def stepH (f : NW.Fld) (m : HvS) : Option HvS :=
  if f.num = 1 then (if f.kind = 2 then some (f.s, m.2) else none)
  else if f.num = 2 then (if f.kind = 0 then some (m.1, f.n) else none)
  else some m
@[reducible] def haveMap : LO := .map [(.int .i64 1, .agg [.v (.int .i64 2), .clo 125 [] [.loc 1 0]]), (.int .i64 2, .agg [.v (.int .i64 0), .clo 124 [] [.loc 2 0]])]
@[reducible] def haveO (m : HvS) : List LO := [haveMap, .cells [.loc 3 0] 138, .cells [.loc 3 1] 136, .cells [.v (.string (B m.1)), .v (.int .u64 m.2)] 87]
theorem takeHave_ctr {e : EA} (he : e.Ok) (s : List UInt8) (hs : s.length ≤ 1099511627776) (m0 : HvS) : Ctr Tryd.prog (GE e) 76 (haveO m0) [vv (.string (B s)), .one (.c (.row 0))]
    (fun os v => os = haveO (takeB stepH s m0).1 ∧ v = vv (okV e (takeB stepH s m0).2)) := by
  have hk1 := True.intro
  have hpc := parse_ctr he s hs
  refine Ctr.less ?_
  cases hp : NW.parse s with
  | none =>
    rw [show takeB stepH s m0 = (m0, false) by rw [takeB, hp]]
    rw [hp] at hpc; simp only [parsedO, parsedV] at hpc
    intro X0 hP0 hG0 N0 hN0
    refine CallVC.inline (f := 76) (by rw [hP0]; exact Tryd.func76) rfl Tryd.ntmps76 rfl (by simp) ?_
    intro X K hU hnt hbl hK
    have hP : X.P = Tryd.prog := by rw [hU.P, hP0]
    have hG := hG0.under hU
    have hT : calleeOk X.P 109 = true ∧ aggOf X.P 125 = some false ∧ szOf X.P 125 = some 1 ∧ X.P.underlying 171 = some (TypeDesc.slice 143) ∧ elemSz X.P 171 = some (143, 4) ∧ aggOf X.P 143 = some true ∧ szOf X.P 143 = some 4 ∧ zeroCells X.P 143 = some [(Value.int IntKind.i64 0), (Value.int IntKind.i64 0), (Value.int IntKind.u64 0), (Value.string { data := #[] })] ∧ fieldOff X.P 143 0 = some 0 ∧ aggOf X.P 3 = some false ∧ szOf X.P 3 = some 1 ∧ mapInf X.P 139 = some ((TypeDesc.int IntKind.i64), (Value.agg #[(Value.int IntKind.i64 0), Value.nilFunc])) ∧ zeroCells X.P 134 = some [(Value.int IntKind.i64 0), Value.nilFunc] ∧ szOf X.P 134 = some 2 ∧ fieldOff X.P 134 0 = some 0 ∧ fieldOff X.P 143 1 = some 1 ∧ fieldOff X.P 134 1 = some 1 ∧ aggOf X.P 132 = some false ∧ szOf X.P 132 = some 1 := by rw [hP]; exact ⟨Ty.co109, Ty.ag125, Ty.sz125, Tryd.underlying171, Ty.el171, Ty.ag143, Ty.sz143, Ty.ze143, Ty.fo143_0, Ty.ag3, Ty.sz3, Ty.mi139, Ty.ze134, Ty.sz134, Ty.fo134_0, Ty.fo143_1, Ty.fo134_1, Ty.ag132, Ty.sz132⟩
    simp only [GA, ↓GB, List.filterMap_cons, eq_self, BEq.rfl, simprocAttr] at hbl ⊢
    repeat' (first
      | (refine SX.seqK ?_; intro N hN)
      | ((first | (refine SX.ops ?_)); simp only [GA, ↓GB, List.filterMap_cons, eq_self, BEq.rfl, simprocAttr, hnt, hT])
      | ((first | refine SX.skip ?_ | refine SX.exit ?_ | refine SX.label ?_); try simp only [GA, ↓GB, List.filterMap_cons, eq_self, BEq.rfl, simprocAttr])
      | (refine SX.cond rfl (fun hb => ?_) (fun hb => ?_) <;> ((first | cases hb | (simp only [decide_eq_true_eq, decide_eq_false_iff_not, beq_iff_eq, beq_eq_false_iff_ne, bne_iff_ne, Bool.and_eq_true, Bool.or_eq_true, Bool.not_eq_true', Bool.not_eq_false', Bool.and_eq_false_iff, Bool.or_eq_false_iff, Int.not_lt, Int.not_le] at hb) | skip) <;> (first | (exfalso; omega) | skip)))
      | (refine SX.ret ?_; try simp only [GA, ↓GB, List.filterMap_cons, eq_self, BEq.rfl, simprocAttr])
      | (refine hN _ ?_; clear hN N)
      | ((first | refine hK _ _ (FinI.ret3 ?_) | refine hK _ _ (FinI.nrm3 ?_)); simp only [GA, ↓GB, List.filterMap_cons, eq_self, BEq.rfl, simprocAttr, finP_s, hnt, hT]; refine Done.out ?_)
      | (clear hN N; first | (refine hN _ ?_; clear hN N) | (clear hN N; first | (refine hN _ ?_; clear hN N) | (clear hN N; first | (refine hN _ ?_; clear hN N) | (clear hN N; first | (refine hN _ ?_; clear hN N) | (clear hN N; first | (refine hN _ ?_; clear hN N) | (refine hN _ ?_; clear hN N))))))
      | (refine bif2.mk (fun hb => ?_) (fun hb => ?_) <;> (try simp only [hb, GA, ↓GB, List.filterMap_cons, eq_self, BEq.rfl, simprocAttr, hnt, hT]) <;> ((first | cases hb | (simp only [decide_eq_true_eq, decide_eq_false_iff_not, beq_iff_eq, beq_eq_false_iff_ne, bne_iff_ne, Bool.and_eq_true, Bool.or_eq_true, Bool.not_eq_true', Bool.not_eq_false', Bool.and_eq_false_iff, Bool.or_eq_false_iff, Int.not_lt, Int.not_le] at hb) | skip) <;> (first | (exfalso; omega) | skip)))
      | ((first | (refine Ctr.use (hpc) hP hG [] ?_ rfl rfl ?_; (focus (refine LeR.of rfl trivial ?_ ?_ ?_ ?_ ?_ <;> first | decide | (simp only [GA, ↓GB, List.filterMap_cons, eq_self, BEq.rfl, simprocAttr, GDs]; done))); intro os' s hR; obtain ⟨rfl, rfl⟩ := hR)); simp only [GA, ↓GB, List.filterMap_cons, eq_self, BEq.rfl, simprocAttr, hnt, hT])
      | (refine ldG (p := (⟨1, 0, none⟩, errV e.f)) (hG _ (GE1 e)) ?_; simp only [GA, ↓GB, List.filterMap_cons, eq_self, BEq.rfl, simprocAttr, hnt, hT])
      | (refine SX.block ?_)
      | (refine and_mk ?_ ?_; (focus first | decide | omega | rfl | assumption | (simp only [List.length_append, List.length_cons, List.length_nil, B_size]; omega) | (simp; done)))
      | (refine And.intro ?_ ?_))
    all_goals (try refine Done.mk ?_)
    all_goals ((refine hN0 _ _ ⟨[0, 1, 2, 3], _, _, ?_, ?_, ?_, ⟨rfl, rfl⟩⟩; (focus exact LeR.of rfl trivial (by simp only [GA, ↓GB, List.filterMap_cons, eq_self, BEq.rfl, simprocAttr, GDs]) (by decide) rfl rfl rfl); rotate_left; (focus rfl)); rfl)
  | some l =>
    rw [show takeB stepH s m0 = takeG stepH l m0 by rw [takeB, hp]]
    have hll := parse_len hp
    rw [hp] at hpc; simp only [parsedO, parsedV] at hpc
    intro X0 hP0 hG0 N0 hN0
    refine CallVC.inline (f := 76) (by rw [hP0]; exact Tryd.func76) rfl Tryd.ntmps76 rfl (by simp) ?_
    intro X K hU hnt hbl hK
    have hP : X.P = Tryd.prog := by rw [hU.P, hP0]
    have hG := hG0.under hU
    have hT : calleeOk X.P 109 = true ∧ aggOf X.P 125 = some false ∧ szOf X.P 125 = some 1 ∧ X.P.underlying 171 = some (TypeDesc.slice 143) ∧ elemSz X.P 171 = some (143, 4) ∧ aggOf X.P 143 = some true ∧ szOf X.P 143 = some 4 ∧ zeroCells X.P 143 = some [(Value.int IntKind.i64 0), (Value.int IntKind.i64 0), (Value.int IntKind.u64 0), (Value.string { data := #[] })] ∧ fieldOff X.P 143 0 = some 0 ∧ aggOf X.P 3 = some false ∧ szOf X.P 3 = some 1 ∧ mapInf X.P 139 = some ((TypeDesc.int IntKind.i64), (Value.agg #[(Value.int IntKind.i64 0), Value.nilFunc])) ∧ zeroCells X.P 134 = some [(Value.int IntKind.i64 0), Value.nilFunc] ∧ szOf X.P 134 = some 2 ∧ fieldOff X.P 134 0 = some 0 ∧ fieldOff X.P 143 1 = some 1 ∧ fieldOff X.P 134 1 = some 1 ∧ aggOf X.P 132 = some false ∧ szOf X.P 132 = some 1 := by rw [hP]; exact ⟨Ty.co109, Ty.ag125, Ty.sz125, Tryd.underlying171, Ty.el171, Ty.ag143, Ty.sz143, Ty.ze143, Ty.fo143_0, Ty.ag3, Ty.sz3, Ty.mi139, Ty.ze134, Ty.sz134, Ty.fo134_0, Ty.fo143_1, Ty.fo134_1, Ty.ag132, Ty.sz132⟩
    simp only [GA, ↓GB, List.filterMap_cons, eq_self, BEq.rfl, simprocAttr] at hbl ⊢
    have hk9 : calleeOk X.P 124 = true := by rw [hP]; kernel_rfl
    have hk8 : calleeOk X.P 125 = true := by rw [hP]; kernel_rfl
    have hnt1 := True.intro; have hT1 := True.intro; have hU1P := True.intro
    repeat' (first
      | (refine numBlk2 (id := 1) (l.getD i default).num (fun hk1 => ?_) (fun hk1 => ?_) (fun hk1 => ?_))
      | (refine SX.seqK ?_; intro N hN)
      | ((first | (refine SX.ops ?_)); simp only [GA, ↓GB, List.filterMap_cons, eq_self, BEq.rfl, simprocAttr, hnt, hT, hnt1, hT1, hU1P, hk1, hk9, hk8])
      | ((first | refine SX.skip ?_ | refine SX.exit ?_ | refine SX.label ?_); try simp only [GA, ↓GB, List.filterMap_cons, eq_self, BEq.rfl, simprocAttr])
      | (refine SX.cond rfl (fun hb => ?_) (fun hb => ?_) <;> ((first | cases hb | (simp only [decide_eq_true_eq, decide_eq_false_iff_not, beq_iff_eq, beq_eq_false_iff_ne, bne_iff_ne, Bool.and_eq_true, Bool.or_eq_true, Bool.not_eq_true', Bool.not_eq_false', Bool.and_eq_false_iff, Bool.or_eq_false_iff, Int.not_lt, Int.not_le] at hb) | skip) <;> (first | (exfalso; omega) | skip)))
      | (refine SX.ret ?_; try simp only [GA, ↓GB, List.filterMap_cons, eq_self, BEq.rfl, simprocAttr])
      | (refine hN _ ?_; clear hN N)
      | ((first | refine hK1 _ _ (FinI.ret3 ?_) | refine hK1 _ _ (FinI.nrm3 ?_)); (repeat (clear hN N)); clear hK1 K1; simp only [GA, ↓GB, List.filterMap_cons, eq_self, BEq.rfl, simprocAttr, finP_s, hnt, hT, hnt1, hT1, hU1P, hk1, hk9, hk8])
      | ((first | refine hK _ _ (FinI.ret3 ?_) | refine hK _ _ (FinI.nrm3 ?_)); simp only [GA, ↓GB, List.filterMap_cons, eq_self, BEq.rfl, simprocAttr, finP_s, hnt, hT, hnt1, hT1, hU1P, hk1, hk9, hk8]; refine Done.out ?_)
      | (clear hN N; first | (refine hN _ ?_; clear hN N) | (clear hN N; first | (refine hN _ ?_; clear hN N) | (clear hN N; first | (refine hN _ ?_; clear hN N) | (clear hN N; first | (refine hN _ ?_; clear hN N) | (clear hN N; first | (refine hN _ ?_; clear hN N) | (refine hN _ ?_; clear hN N))))))
      | (refine bif2.mk (fun hb => ?_) (fun hb => ?_) <;> (try simp only [hb, GA, ↓GB, List.filterMap_cons, eq_self, BEq.rfl, simprocAttr, hnt, hT, hnt1, hT1, hU1P, hk1, hk9, hk8]) <;> ((first | cases hb | (simp only [decide_eq_true_eq, decide_eq_false_iff_not, beq_iff_eq, beq_eq_false_iff_ne, bne_iff_ne, Bool.and_eq_true, Bool.or_eq_true, Bool.not_eq_true', Bool.not_eq_false', Bool.and_eq_false_iff, Bool.or_eq_false_iff, Int.not_lt, Int.not_le] at hb) | skip) <;> (first | (exfalso; omega) | skip)))
      | ((first | (refine Ctr.use (hpc) hP hG [] ?_ rfl rfl ?_; (focus (refine LeR.of rfl trivial ?_ ?_ ?_ ?_ ?_ <;> first | decide | (simp only [GA, ↓GB, List.filterMap_cons, eq_self, BEq.rfl, simprocAttr, GDs]; done))); intro os' s hR; obtain ⟨rfl, rfl⟩ := hR)); simp only [GA, ↓GB, List.filterMap_cons, eq_self, BEq.rfl, simprocAttr, hnt, hT, hnt1, hT1, hU1P, hk1, hk9, hk8])
      | (refine CallVC.inline (f := 124) ?_ rfl Tryd.ntmps124 rfl ?_ ?_; (focus rw [hP]; exact Tryd.func124); (focus simp); have hT1 : aggOf X.P 136 = some false ∧ szOf X.P 136 = some 1 ∧ fieldOff X.P 143 2 = some 2 ∧ aggOf X.P 22 = some false ∧ szOf X.P 22 = some 1 := (by rw [hP]; exact ⟨Ty.ag136, Ty.sz136, Ty.fo143_2, Ty.ag22, Ty.sz22⟩); intro X1 K1 hU1 hnt1 hbl1 hK1; have hU1P := hU1.P; simp only [GA, ↓GB, List.filterMap_cons, eq_self, BEq.rfl, simprocAttr] at hbl1 ⊢)
      | (refine CallVC.inline (f := 125) ?_ rfl Tryd.ntmps125 rfl ?_ ?_; (focus rw [hP]; exact Tryd.func125); (focus simp); have hT1 : aggOf X.P 138 = some false ∧ szOf X.P 138 = some 1 ∧ fieldOff X.P 143 3 = some 3 ∧ aggOf X.P 9 = some false ∧ szOf X.P 9 = some 1 := (by rw [hP]; exact ⟨Ty.ag138, Ty.sz138, Ty.fo143_3, Ty.ag9, Ty.sz9⟩); intro X1 K1 hU1 hnt1 hbl1 hK1; have hU1P := hU1.P; simp only [GA, ↓GB, List.filterMap_cons, eq_self, BEq.rfl, simprocAttr] at hbl1 ⊢)
      | (refine ldG (p := (⟨1, 0, none⟩, errV e.f)) (hG _ (GE1 e)) ?_; simp only [GA, ↓GB, List.filterMap_cons, eq_self, BEq.rfl, simprocAttr, hnt, hT])
      | (refine ⟨fcells (l.getD i default), rfl, flds_cell _ _ (by omega), ?_⟩ <;> simp only [fcells, GA, ↓GB, List.filterMap_cons, eq_self, BEq.rfl, simprocAttr, hnt, hT, hk1])
      | (refine SX.loop (ι := { p : Nat × HvS // p.1 ≤ l.length ∧ takeG stepH l m0 = takeG stepH (l.drop p.1) p.2 }) (fun p => ⟨[(1, .one (.c (.row 0))), (19, .one (.c (.row 4))), (20, vv (.int .i64 l.length)), (21, vv (.int .i64 p.1.1))], [haveMap, .cells [.loc 3 0] 138, .cells [.loc 3 1] 136, .cells [.v (.string (B p.1.2.1)), .v (.int .u64 p.1.2.2)] 87, frow l]⟩) (fun p => l.length - p.1.1) ⟨(0, m0), Nat.zero_le _, rfl⟩ ⟨[0, 1, 2, 3, 4], by (refine LeR.of ?_ ?_ ?_ ?_ ?_ ?_ ?_ <;> first | (rw [hbl]; decide) | decide | (simp only [GA, ↓GB, List.filterMap_cons, eq_self, BEq.rfl, simprocAttr, GDs]; done) | (simp only [GA, ↓GB, List.filterMap_cons, eq_self, BEq.rfl, simprocAttr, GDs]; rfl; done))⟩ ?_ <;> rintro ⟨⟨i, m⟩, hi, hm⟩ <;> simp only [] at hi hm ⊢)
      | ((first | (refine Ctr.use (hpc) (hU1P.trans hP) (hG.under hU1) [] ?_ rfl rfl ?_; (focus (refine LeR.of rfl trivial ?_ ?_ ?_ ?_ ?_ <;> first | decide | (simp only [GA, ↓GB, List.filterMap_cons, eq_self, BEq.rfl, simprocAttr, GDs]; done))); intro os' s hR; obtain ⟨rfl, rfl⟩ := hR)); simp only [GA, ↓GB, List.filterMap_cons, eq_self, BEq.rfl, simprocAttr, hnt, hT, hnt1, hT1, hU1P, hk1, hk9, hk8])
      | (refine SX.block ?_)
      | (refine and_mk ?_ ?_; (focus first | decide | omega | rfl | assumption | (simp only [List.length_append, List.length_cons, List.length_nil, B_size]; omega) | (simp; done)))
      | (refine And.intro ?_ ?_))
    all_goals (try refine Done.mk ?_)
    · have hj : (l.getD i default).num = 1 := by omega
      have hq : ¬ (l.getD i default).kind = 2 := by omega
      rw [takeG_no hm (by omega) (by simp [-List.getD_eq_getElem?_getD, stepH, hj, hq])] at hN0
      (refine hN0 _ _ ⟨[0, 1, 2, 3], _, _, ?_, ?_, ?_, ⟨rfl, rfl⟩⟩; (focus exact LeR.of rfl trivial (by simp only [GA, ↓GB, List.filterMap_cons, eq_self, BEq.rfl, simprocAttr, GDs]) (by decide) rfl rfl rfl); rotate_left; (focus rfl))
      rfl
    · have hj : (l.getD i default).num = 1 := by omega
      have hq : (l.getD i default).kind = 2 := by have := bne_eq_false_iff_eq.1 hb; omega
      exact ⟨⟨(i + 1, ((l.getD i default).s, m.2)), by show i + 1 ≤ l.length; omega, takeG_go hm (by omega) (by simp [-List.getD_eq_getElem?_getD, stepH, hj, hq])⟩, [0, 1, 2, 3, 4], by (refine LeR.of ?_ ?_ ?_ ?_ ?_ ?_ ?_ <;> first | (rw [hbl]; decide) | decide | (simp only [GA, ↓GB, List.filterMap_cons, eq_self, BEq.rfl, simprocAttr, GDs]; done) | (simp only [GA, ↓GB, List.filterMap_cons, eq_self, BEq.rfl, simprocAttr, GDs]; first | (rw [wI64 (by omega) (by omega)]; rfl) | rfl; done)), by show l.length - (i + 1) < l.length - i; omega⟩
    · have hj : (l.getD i default).num = 2 := by omega
      have hq : ¬ (l.getD i default).kind = 0 := by omega
      rw [takeG_no hm (by omega) (by simp [-List.getD_eq_getElem?_getD, stepH, hj, hq])] at hN0
      (refine hN0 _ _ ⟨[0, 1, 2, 3], _, _, ?_, ?_, ?_, ⟨rfl, rfl⟩⟩; (focus exact LeR.of rfl trivial (by simp only [GA, ↓GB, List.filterMap_cons, eq_self, BEq.rfl, simprocAttr, GDs]) (by decide) rfl rfl rfl); rotate_left; (focus rfl))
      rfl
    · have hj : (l.getD i default).num = 2 := by omega
      have hq : (l.getD i default).kind = 0 := by have := bne_eq_false_iff_eq.1 hb; omega
      exact ⟨⟨(i + 1, (m.1, (l.getD i default).n)), by show i + 1 ≤ l.length; omega, takeG_go hm (by omega) (by simp [-List.getD_eq_getElem?_getD, stepH, hj, hq])⟩, [0, 1, 2, 3, 4], by (refine LeR.of ?_ ?_ ?_ ?_ ?_ ?_ ?_ <;> first | (rw [hbl]; decide) | decide | (simp only [GA, ↓GB, List.filterMap_cons, eq_self, BEq.rfl, simprocAttr, GDs]; done) | (simp only [GA, ↓GB, List.filterMap_cons, eq_self, BEq.rfl, simprocAttr, GDs]; first | (rw [wI64 (by omega) (by omega)]; rfl) | rfl; done)), by show l.length - (i + 1) < l.length - i; omega⟩
    · obtain ⟨g1, g2⟩ := hk1
      have k1 : ¬ (l.getD i default).num = 1 := fun h => by rw [h] at g1; cases g1
      have k2 : ¬ (l.getD i default).num = 2 := fun h => by rw [h] at g2; cases g2
      exact ⟨⟨(i + 1, m), by show i + 1 ≤ l.length; omega, takeG_go hm (by omega) (by simp [-List.getD_eq_getElem?_getD, stepH, k1, k2])⟩, [0, 1, 2, 3, 4], by (refine LeR.of ?_ ?_ ?_ ?_ ?_ ?_ ?_ <;> first | (rw [hbl]; decide) | decide | (simp only [GA, ↓GB, List.filterMap_cons, eq_self, BEq.rfl, simprocAttr, GDs]; done) | (simp only [GA, ↓GB, List.filterMap_cons, eq_self, BEq.rfl, simprocAttr, GDs]; first | (rw [wI64 (by omega) (by omega)]; rfl) | rfl; done)), by show l.length - (i + 1) < l.length - i; omega⟩
    · rw [takeG_end hm (by omega)] at hN0
      (refine hN0 _ _ ⟨[0, 1, 2, 3], _, _, ?_, ?_, ?_, ⟨rfl, rfl⟩⟩; (focus exact LeR.of rfl trivial (by simp only [GA, ↓GB, List.filterMap_cons, eq_self, BEq.rfl, simprocAttr, GDs]) (by decide) rfl rfl rfl); rotate_left; (focus rfl))
      rfl
end Go.Proofs.YtbdacbcpniegiaaDoor
namespace Go.Sx
open Go Go.RowKit
set_option linter.unusedVariables false
set_option linter.unusedSimpArgs false
theorem All2.perm {α β : Type} {R : α → β → Prop} {l l' : List α} (h : l.Perm l') : ∀ {m : List β}, All2 R l m → ∃ m', m.Perm m' ∧ All2 R l' m' := by
  induction h with
  | nil => intro m h; exact ⟨m, .refl _, h⟩
  | cons x h ih =>
    intro m hm
    cases m with
    | nil => exact hm.elim
    | cons y m =>
      obtain ⟨m', h1, h2⟩ := ih hm.2
      exact ⟨y :: m', h1.cons y, hm.1, h2⟩
  | swap x y l =>
    intro m hm
    match m, hm with
    | a :: b :: m, hm => exact ⟨b :: a :: m, List.Perm.swap b a m, hm.2.1, hm.1, hm.2.2⟩
    | [_], hm => exact hm.2.elim
    | [], hm => exact hm.elim
  | trans h1 h2 ih1 ih2 =>
    intro m hm
    obtain ⟨m1, h3, h4⟩ := ih1 hm
    obtain ⟨m2, h5, h6⟩ := ih2 h4
    exact ⟨m2, h3.trans h5, h6⟩
def upd (M : Nat → Bool) (i : Nat) : Nat → Bool := fun k => if k = i then true else M k
def Imp (X : Ctx) (c' d : Cfg) : Prop := ∀ ρ σ a w, Rel X c' ρ σ a w → ∃ ρ' σ', Rel X d ρ' σ' a w
theorem Imp.refl {X : Ctx} {c : Cfg} : Imp X c c := fun ρ σ a w h => ⟨ρ, σ, h⟩
theorem Imp.trans {X : Ctx} {c d e : Cfg} (h : Imp X c d) (k : Imp X d e) : Imp X c e := fun ρ σ a w hr => let ⟨ρ', σ', h'⟩ := h ρ σ a w hr; k ρ' σ' a w h'
theorem Imp.le {X : Ctx} {c d : Cfg} (sel : List Nat) (h : LeR X.base.length sel d c) : Imp X c d := fun ρ σ a w hr => ⟨_, _, hr.leR h⟩
def DStep (X : Ctx) (ops : Array Oper) (C : (Nat → Bool) → Cfg) (D : List Nat) (M : Nat → Bool) (i : Nat) : Prop :=
  ∃ o, ops[i]? = some o ∧ o.guard = none ∧ VO X o (C M) (fun c' => Imp X c' (C (upd M i)))
structure DOk (ops : Array Oper) (M : Nat → Bool) (i : Nat) : Prop where
  un : M i = false
  dep : ∀ o, ops[i]? = some o → ∀ e ∈ o.after, Region.binds .any e = true → M e.on = true
  cl : ∀ j oj, ops[j]? = some oj → M j = true → ∀ e ∈ oj.after, Region.binds .any e = true → M e.on = true
section
variable {X : Ctx} {ops : Array Oper}
theorem dia_sound {A : Act → World → Prop} {C : (Nat → Bool) → Cfg} {D : List Nat} {L : Array Bool} {f : Nat} (hL : L.size = ops.size)
    (hLl : ∀ j oj, ops[j]? = some oj → L.getD j false = true → ∀ e ∈ oj.after, Region.binds .any e = true → L.getD e.on false = true)
    (hq : (inOK ops L [] D && outOK ops L D) = true) (hstep : ∀ M i, i ∈ D → DOk ops M i → DStep X ops C D M i)
    (hnext : ∀ ρ σ a w, Rel X (C fun k => (setL L D).getD k false) ρ σ a w → wpAny X.P .any ops (QN A) f (setL L D) a w) :
    ∀ (n : Nat) (listed : Array Bool) (ρ : List (List Nat)) (σ : List Value) (a : Act) (w : World), cntU listed D = n → listed.size = ops.size → (∀ j, j ∉ D → ∀ d, listed.getD j d = L.getD j d) →
      (∀ j oj, ops[j]? = some oj → listed.getD j false = true → ∀ e ∈ oj.after, Region.binds .any e = true → listed.getD e.on false = true) → (∀ j, L.getD j false = true → listed.getD j false = true) →
      Rel X (C fun k => listed.getD k false) ρ σ a w → wpAny X.P .any ops (QN A) (n + f) listed a w := by
  simp only [Bool.and_eq_true] at hq
  obtain ⟨hin, hout⟩ := hq
  have hnd := inOK_nodup hin
  have hLun : ∀ i ∈ D, L.getD i true = false := fun i hi => by
    obtain ⟨k, hk⟩ := List.mem_iff_getElem?.1 hi
    exact (inOK_spec hin hk).1
  have hop : ∀ i ∈ D, ∃ o, ops[i]? = some o := fun i hi => by
    obtain ⟨k, hk⟩ := List.mem_iff_getElem?.1 hi
    obtain ⟨_, _, _, o, h1, _⟩ := inOK_spec hin hk
    exact ⟨o, h1⟩
  intro n
  induction n with
  | zero =>
    intro listed ρ σ a w hc hsz hoth hcl hmono hR
    have hall := cntU_zero hc
    have heq : listed = setL L D := by
      refine getD_ext (by rw [hsz, setL_size, hL]) (fun j => ?_)
      by_cases hj : j ∈ D
      · obtain ⟨o, ho⟩ := hop j hj
        rw [hall j hj, setL_true (.inl ⟨hj, by rw [hL]; exact (Array.getElem?_eq_some_iff.1 ho).1⟩)]
      · rw [setL_getD hj, hoth j hj]
    rw [Nat.zero_add, heq]
    rw [heq] at hR
    exact hnext ρ σ a w hR
  | succ n ih =>
    intro listed ρ σ a w hc hsz hoth hcl hmono hR
    have hlt : ∀ i ∈ D, i < listed.size := fun i hi => by
      obtain ⟨o, ho⟩ := hop i hi
      rw [hsz]; exact (Array.getElem?_eq_some_iff.1 ho).1
    rw [show n + 1 + f = (n + f) + 1 by omega]
    refine ⟨fun hnil => ?_, fun i hi => ?_⟩
    · obtain ⟨k, i, h1, h2, h3⟩ := cntU_first (listed := listed) (is := D) (by omega)
      obtain ⟨g1, g2, g3, o, g4, g5⟩ := inOK_spec hin h1
      have hmem : i ∈ D := List.mem_of_getElem? h1
      have : i ∈ Region.ready .any ops listed := by
        refine mem_ready.2 ⟨getD_in (hlt i hmem) h2, o, g4, fun e he hbd => ?_⟩
        rcases g5 e he hbd with h5 | h5 | ⟨k', h6, h7⟩
        · exact hmono _ h5
        · simp at h5
        · exact h3 k' _ h6 h7
      rw [hnil] at this
      cases this
    · obtain ⟨hun, o, ho, hready⟩ := mem_ready.1 hi
      have hilt : i < ops.size := (Array.getElem?_eq_some_iff.1 ho).1
      have hmem : i ∈ D := by
        refine Classical.byContradiction (fun hnm => ?_)
        have h1 := List.all_eq_true.1 hout i (List.mem_range.2 hilt)
        have hLi : L.getD i true = false := by rw [← hoth i hnm]; exact hun
        simp only [hLi, Bool.false_or, Bool.or_eq_true] at h1
        rcases h1 with (h1 | h1) | h1
        · exact hnm (by simpa using h1)
        · obtain ⟨u, hu, hu2⟩ := List.any_eq_true.1 h1
          simp only [Bool.and_eq_true, Bool.not_eq_true', List.contains_eq_mem, decide_eq_false_iff_not] at hu2
          obtain ⟨ou, hou, e, he, hbd, hon⟩ := Region.waitsFor_spec hu2.2
          rw [ho] at hou; cases hou
          have h2 := hready e he hbd
          rw [hon, hoth u hu2.1.2, getD_both hu2.1.1] at h2
          cases h2
        · have hne : cntU listed D ≠ 0 := by omega
          obtain ⟨k, j, h2, h3, _⟩ := cntU_first hne
          obtain ⟨j', h4, h5, h6⟩ := sinkT_spec hcl hmono h1 ⟨j, List.mem_of_getElem? h2, h3⟩
          obtain ⟨ou, hou, e, he, hbd, hon⟩ := Region.waitsFor_spec h6
          rw [ho] at hou; cases hou
          have h7 := hready e he hbd
          rw [hon, h5] at h7
          cases h7
      have hunf := getD_both hun
      have hset : ∀ j, j ≠ i → (listed.setIfInBounds i true).getD j false = listed.getD j false := fun j hj => getD_set_ne false (fun e => hj e.symm)
      have hseti : (listed.setIfInBounds i true).getD i false = true := by simp [hlt i hmem]
      have hupd : (fun k => (listed.setIfInBounds i true).getD k false) = upd (fun k => listed.getD k false) i := by
        funext k
        unfold upd
        split
        · rename_i e; rw [e]; exact hseti
        · rename_i e; exact hset k e
      have hcnt : cntU (listed.setIfInBounds i true) D = n := by
        have := cntU_set (hlt i hmem) hunf hnd hmem
        omega
      obtain ⟨o', ho', hg, hv⟩ := hstep (fun k => listed.getD k false) i hmem ⟨hunf, fun o1 h1 e he hb => by rw [ho] at h1; cases h1; exact hready e he hb, hcl⟩
      rw [ho] at ho'; cases ho'
      unfold wpOp
      simp only [ho]
      rw [if_pos (by simp [Region.wanted, hg])]
      refine .inl (Oper.wp_mono3 (fun a' w' h => ?_) (fun e a w he h => h.elim) (hv ρ σ a w hR))
      obtain ⟨c', ρ1, σ1, hr1, himp⟩ := h
      obtain ⟨ρ2, σ2, hr2⟩ := himp ρ1 σ1 a' w' hr1
      refine ih (listed.setIfInBounds i true) ρ2 σ2 a' w' hcnt (by simp [hsz]) (fun j hj d => ?_) (fun j oj hj hl e he hbd => ?_) (fun j hj => getD_set_true (hmono j hj)) (by rw [hupd]; exact hr2)
      · rw [getD_set_ne d (show i ≠ j from fun e => hj (by rw [← e]; exact hmem))]; exact hoth j hj d
      · by_cases hji : j = i
        · subst hji
          rw [ho] at hj; cases hj
          exact getD_set_true (hready e he hbd)
        · rw [hset j hji] at hl
          exact getD_set_true (hcl j oj hj hl e he hbd)
def diaB (l : List Oper) (D : List Nat) (pl : List PlT) : Bool :=
  Region.noSelect l.toArray && (decide (D.length + cntP (pl.map PlT.pl) = l.length) && (inOK l.toArray (Array.replicate l.length false) [] D && outOK l.toArray (Array.replicate l.length false) D)
    && planOK l.toArray (pl.map PlT.pl) (setL (Array.replicate l.length false) D) && pl.all (PlT.lk l.toArray))
theorem SX.dia {c : Cfg} {id : Nat} {l : List Oper} {K : Exit → Cfg → Prop} (D : List Nat) (C : (Nat → Bool) → Cfg) (pl : List PlT) (c1 : Cfg) (hm : X.P.follows .mixedOrders = true) (hB : diaB l D pl = true)
    (h0 : Imp X c (C fun _ => false)) (hstep : ∀ M i, i ∈ D → DOk l.toArray M i → DStep X l.toArray C D M i) (h1 : C (fun k => (setL (Array.replicate l.length false) D).getD k false) = c1)
    (hN : vplT X l.toArray pl c1 (K .normal)) : SX X (.region id l.toArray true) c K := fun ρ σ a w hr => by
  simp only [diaB, Bool.and_eq_true, decide_eq_true_eq] at hB
  obtain ⟨b1, ⟨⟨b2, b3⟩, b4⟩, b5⟩ := hB
  rw [vplT_eq b5] at hN
  obtain ⟨ρ1, σ1, hr1⟩ := h0 ρ σ a w hr
  have hr' : Rel X (C fun _ => false) ρ1 σ1 a { w with drawn := w.drawn + 1 } := hr1.below ⟨rfl, rfl, rfl, Nat.le_refl _, fun _ _ => rfl⟩
  have hf : ∀ k d, (Array.replicate l.length false).getD k false = d → d = false := fun k d h => by
    rw [← h, Array.getD_eq_getD_getElem?, Array.getElem?_replicate]
    split <;> rfl
  have hC : (fun k => (Array.replicate l.length false).getD k false) = fun _ => false := funext fun k => hf k _ rfl
  have h2 := dia_sound (X := X) (ops := l.toArray) (A := fun a w => Post X K .normal a w) (C := C) (D := D) (L := Array.replicate l.length false) (f := cntP (pl.map PlT.pl) + 0) (by simp)
    (fun j oj hj hl => by have := hf j _ hl; cases this) (by simpa using b3) hstep
    (fun ρ σ a w hr => by
      rw [h1] at hr
      exact plan_sound (A := fun a w => Post X K .normal a w) b1 (pl.map PlT.pl) c1 (K .normal) (setL (Array.replicate l.length false) D) 0 hN b4 (by rw [setL_size]; simp) (fun c3 ρ3 σ3 a3 w3 hr3 hk => ⟨c3, ρ3, σ3, hr3, hk⟩) ρ σ a w hr)
    (cntU (Array.replicate l.length false) D) (Array.replicate l.length false) ρ1 σ1 a _ rfl (by simp) (fun j hj d => rfl) (fun j oj hj hl => by have := hf j _ hl; cases this) (fun j hj => hj) (by rw [hC]; exact hr')
  have hcn : cntU (Array.replicate l.length false) D = D.length := cntU_all fun i _ => hf i _ rfl
  rw [hcn, Nat.add_zero, b2] at h2
  have h3 : (Code.region id l.toArray true).wp X.P (QN fun a w => Post X K .normal a w) a w := wp_region_any hm (by simpa using h2)
  exact Go.wp_mono h3 (fun e a w h => by obtain ⟨rfl, h⟩ := h; exact h)
theorem Imp.gone {c : Cfg} : Imp X c { c with loc := c.loc ++ [.gone] } := fun ρ σ a w hr => by
  have h1 := hr.nilRow 0 0
  refine ⟨_, _, ⟨h1.env, by rw [h1.len]; simp, by rw [h1.lenS]; simp, fun i o fp v ho hb hv => ?_, h1.inj, h1.lt, h1.fresh, h1.low, h1.defers, h1.size, h1.one, h1.pin⟩⟩
  rcases Nat.lt_or_ge i c.loc.length with hi | hi
  · rw [List.getElem?_append_left hi] at ho
    exact h1.loc i o fp v (by rw [List.getElem?_append_left hi]; exact ho) hb hv
  · rw [List.getElem?_append_right hi] at ho
    cases hq : i - c.loc.length with
    | zero => rw [hq] at ho; simp at ho; subst ho; trivial
    | succ n => rw [hq] at ho; simp at ho
theorem Imp.dead {c : Cfg} {t : Nat} (ht : t < X.nt) : Imp X c { c with env := (t, .one (.c .dead)) :: c.env } := fun ρ σ a w hr => by
  refine ⟨ρ, σ, ⟨fun t' s he => ?_, hr.len, hr.lenS, hr.loc, hr.inj, hr.lt, hr.fresh, hr.low, hr.defers, hr.size, hr.one, hr.pin⟩⟩
  simp only [List.lookup_cons] at he
  split at he
  · rename_i h
    cases he
    have h : t' = t := by simpa using h
    subst h
    have : t' < a.tmps.size := by rw [hr.size]; exact ht
    exact ⟨a.tmps[t'], by simp [this], trivial⟩
  · exact hr.env t' s he
theorem Imp.perm {c : Cfg} {i : Nat} {es es' : List (Value × S1)} (hi : c.loc[i]? = some (.map es)) (hp : es.Perm es') : Imp X c { c with loc := c.loc.set i (.map es') } := fun ρ σ a w hr => by
  refine ⟨ρ, σ, ⟨hr.env, by simp [hr.len], by simp [hr.lenS], fun j o fp v ho hb hv => ?_, hr.inj, hr.lt, hr.fresh, hr.low, hr.defers, hr.size, hr.one, hr.pin⟩⟩
  by_cases e : i = j
  · subst e
    rw [List.getElem?_set_self (List.getElem?_eq_some_iff.1 hi).1] at ho
    cases ho
    obtain ⟨b, ms, clock, ms', e1, h2, h3, ⟨h4, h5⟩, h6⟩ := hr.loc i _ fp v hi hb hv
    obtain ⟨ms2, h7, h8⟩ := All2.perm hp h6
    exact ⟨b, ms, clock, ms2, e1, h2, h3, ⟨h7.symm.trans h4, (h7.map _).nodup_iff.1 h5⟩, h8⟩
  · rw [List.getElem?_set_ne e] at ho
    exact hr.loc j o fp v ho hb hv
end
end Go.Sx
namespace Go.Sx
open Go Go.RowKit
theorem ren_cond (sel : List Nat) (b : Bool) (x y : SV) : SV.ren sel (bif b then x else y) = bif b then x.ren sel else y.ren sel := by cases b <;> rfl
theorem okB_cond (n : Nat) (b : Bool) (x y : SV) : SV.okB n (bif b then x else y) = bif b then x.okB n else y.okB n := by cases b <;> rfl
theorem lren_cond (sel : List Nat) (b : Bool) (x y : LO) : LO.ren sel (bif b then x else y) = bif b then x.ren sel else y.ren sel := by cases b <;> rfl
theorem lokB_cond (n : Nat) (b : Bool) (x y : LO) : LO.okB n (bif b then x else y) = bif b then x.okB n else y.okB n := by cases b <;> rfl
theorem map_cond {α β : Type} (f : α → β) (b : Bool) (x y : List α) : (bif b then x else y).map f = bif b then x.map f else y.map f := by cases b <;> rfl
theorem all_cond {α : Type} (f : α → Bool) (b : Bool) (x y : List α) : (bif b then x else y).all f = bif b then x.all f else y.all f := by cases b <;> rfl
theorem dNot {ops : Array Oper} {M : Nat → Bool} {i j : Nat} {oj : Oper} {e : Edge} (hd : DOk ops M i) (hj : ops[j]? = some oj) (he : e ∈ oj.after) (hb : Region.binds .any e = true) (h : M e.on = false) : M j = false := by
  cases hm : M j with
  | false => rfl
  | true => rw [hd.cl j oj hj hm e he hb] at h; cases h
end Go.Sx
namespace Go.Proofs.YtbdacbcpniegiaaDoor
open Go Go.RowKit Go.Proofs Go.Sx
set_option maxHeartbeats 16000000
set_option maxRecDepth 100000
set_option linter.unusedSimpArgs false
set_option linter.unusedVariables false
abbrev ddd : SV := .one (.c .dead)
def nk (k : Int) : Value → Bool
  | .int _ a => a != k
  | _ => false
theorem look_nk {k : Int} : ∀ {es : List (Value × S1)}, (es.all fun p => nk k p.1) = true → Look (.int .i64 k) es none
  | [], _ => .nil
  | p :: es, h => by
    simp only [List.all_cons, Bool.and_eq_true] at h
    refine .miss (fun e => ?_) (look_nk h.2)
    have h1 := h.1
    rw [← e] at h1
    simp [nk] at h1
@[reducible] def srow (l : List (List UInt8)) : LO := .row 9 1 l.length (l.map fun s => .string (B s))
def hcells (l : List (List UInt8 × Nat)) : List Value := l.flatMap fun h => [.string (B h.1), .int .u64 (h.2 : Int)]
@[reducible] def hrow (l : List (List UInt8 × Nat)) : LO := .row 87 2 l.length (hcells l)
def hvC (q : Nat) (sb un : List (List UInt8)) (hv : List (List UInt8 × Nat)) (d : List UInt8) (f : NW.Fld) (M : Nat → Bool) : Cfg :=
  ⟨[(13, bif M 9 then .one (.c (.row 6)) else ddd), (12, bif M 7 then .one (.agg [.v (.int .i64 0), .clo 124 [] [.loc 8 0]]) else ddd), (11, bif M 6 then .one (.c (.loc 5 1)) else ddd), (10, bif M 4 then .one (.agg [.v (.int .i64 2), .clo 125 [] [.loc 7 0]]) else ddd), (9, bif M 3 then .one (.c (.loc 5 0)) else ddd), (8, bif M 2 then .one (.c (.row 6)) else ddd), (7, bif M 1 then vv (.string (B f.s)) else ddd), (6, bif M 0 then .one (.c (.loc 4 3)) else ddd),
    (1, .one (.c (.loc 0 0))), (3, vv (.bool false)), (4, .one (.c (.loc 5 0))), (2, .one (.c (.loc 4 0)))],
   [.cells [.v (.int .i64 0), .v (.bool false), .v (.int .u64 q), .row 1, .row 2, .row 3, .v (.string (B d))] 41, srow sb, srow un, hrow hv, .cells [.v (.int .i64 f.num), .v (.int .i64 f.kind), .v (.int .u64 f.n), .v (.string (B f.s))] 143, .cells [.v (.string (B [])), .v (.int .u64 0)] 87,
    bif M 2 then .map ((bif M 5 then [(.int .i64 1, .agg [.v (.int .i64 2), .clo 125 [] [.loc 7 0]])] else []) ++ (bif M 8 then [(.int .i64 2, .agg [.v (.int .i64 0), .clo 124 [] [.loc 8 0]])] else [])) else .gone, bif M 4 then .cells [.loc 5 0] 138 else .gone, bif M 7 then .cells [.loc 5 1] 136 else .gone]⟩
theorem hrow_snoc (l : List HvS) (h : HvS) : LO.row 87 2 (l.length + 1) (hcells l ++ [.string (B h.1), .int .u64 (h.2 : Int)]) = hrow (l ++ [h]) := by
  simp only [hrow, List.length_append, List.length_cons, List.length_nil, hcells, List.flatMap_append]; rfl
theorem have_ctr {e : EA} (he : e.Ok) (q : Nat) (sb un : List (List UInt8)) (hv : List HvS) (d : List UInt8) (f : NW.Fld) (hs : f.s.length ≤ 1099511627776) (hl : hv.length ≤ 1099511627776) (ok : Bool) (h : HvS) (ht : takeB stepH f.s ([], 0) = (h, ok)) :
    Ctr Tryd.prog (GE e) 75 [.cells [.v (.int .i64 0), .v (.bool false), .v (.int .u64 q), .row 1, .row 2, .row 3, .v (.string (B d))] 41, srow sb, srow un, hrow hv] [.one (.agg [.v (.int .i64 f.num), .v (.int .i64 f.kind), .v (.int .u64 f.n), .v (.string (B f.s))]), .one (.c (.loc 0 0))]
      (fun os v => os = [.cells [.v (.int .i64 0), .v (.bool false), .v (.int .u64 q), .row 1, .row 2, .row 4, .v (.string (B d))] 41, srow sb, srow un, .gone, hrow (hv ++ [h])] ∧ v = vv (.bool ok)) := by
  have htk := takeHave_ctr he f.s hs ([], 0)
  rw [ht] at htk
  simp only [haveO] at htk
  have hbad : Ctr Tryd.prog (GE e) 73 [] [vv (okV e ok)] (fun os v => os = [] ∧ v = vv (.bool (!ok))) := by
    cases ok with
    | true => exact bad_nil he
    | false => exact bad_form he
  generalize okV e ok = ev at htk hbad
  refine Ctr.less ?_
  intro X0 hP0 hG0 N0 hN0
  refine CallVC.inline (f := 75) (by rw [hP0]; exact Tryd.func75) rfl Tryd.ntmps75 rfl (by simp) ?_
  intro X K hU hnt hbl hK
  have hP : X.P = Tryd.prog := by rw [hU.P, hP0]
  have hG := hG0.under hU
  have hT : zeroCells X.P 87 = some [(Value.string { data := #[] }), (Value.int IntKind.u64 0)] ∧ fieldOff X.P 143 3 = some 3 ∧ aggOf X.P 9 = some false ∧ szOf X.P 9 = some 1 ∧ fieldOff X.P 87 0 = some 0 ∧ calleeOk X.P 72 = true ∧ mapInf X.P 139 = some ((TypeDesc.int IntKind.i64), (Value.agg #[(Value.int IntKind.i64 0), Value.nilFunc])) ∧ fieldOff X.P 87 1 = some 1 ∧ calleeOk X.P 71 = true ∧ calleeOk X.P 76 = true ∧ fieldOff X.P 41 5 = some 5 ∧ aggOf X.P 39 = some false ∧ szOf X.P 39 = some 1 ∧ aggOf X.P 87 = some true ∧ szOf X.P 87 = some 2 ∧ elemSz X.P 39 = some (87, 2) ∧ elemInf X.P 39 = some (87, 2, 24, (Value.agg #[(Value.string { data := #[] }), (Value.int IntKind.u64 0)])) ∧ isStrT X.P 39 = false ∧ calleeOk X.P 73 = true := by rw [hP]; exact ⟨Ty.ze87, Ty.fo143_3, Ty.ag9, Ty.sz9, Ty.fo87_0, Ty.co72, Ty.mi139, Ty.fo87_1, Ty.co71, Ty.co76, Ty.fo41_5, Ty.ag39, Ty.sz39, Ty.ag87, Ty.sz87, Ty.el39, Ty.ei39, Ty.is39, Ty.co73⟩
  simp only [GA, ↓GB, List.filterMap_cons, eq_self, BEq.rfl, simprocAttr] at hbl ⊢
  have hag : aggOf X.P 134 = some true := by rw [hP]; kernel_rfl
  repeat' (first
    | (refine SX.seqK ?_; intro N hN)
    | ((first | (refine SX.ops ?_)); simp only [GA, ↓GB, List.filterMap_cons, eq_self, BEq.rfl, simprocAttr, hnt, hT, hag])
    | ((first | refine SX.skip ?_ | refine SX.exit ?_ | refine SX.label ?_); try simp only [GA, ↓GB, List.filterMap_cons, eq_self, BEq.rfl, simprocAttr])
    | (refine SX.cond rfl (fun hb => ?_) (fun hb => ?_) <;> ((first | cases hb | (simp only [decide_eq_true_eq, decide_eq_false_iff_not, beq_iff_eq, beq_eq_false_iff_ne, bne_iff_ne, Bool.and_eq_true, Bool.or_eq_true, Bool.not_eq_true', Bool.not_eq_false', Bool.and_eq_false_iff, Bool.or_eq_false_iff, Int.not_lt, Int.not_le] at hb) | skip) <;> (first | (exfalso; omega) | skip)))
    | (refine SX.ret ?_; try simp only [GA, ↓GB, List.filterMap_cons, eq_self, BEq.rfl, simprocAttr])
    | (refine hN _ ?_; clear hN N)
    | ((first | refine hK _ _ (FinI.ret3 ?_) | refine hK _ _ (FinI.nrm3 ?_)); simp only [GA, ↓GB, List.filterMap_cons, eq_self, BEq.rfl, simprocAttr, finP_s, hnt, hT, hag]; refine Done.out ?_)
    | (clear hN N; first | (refine hN _ ?_; clear hN N) | (clear hN N; first | (refine hN _ ?_; clear hN N) | (clear hN N; first | (refine hN _ ?_; clear hN N) | (clear hN N; first | (refine hN _ ?_; clear hN N) | (clear hN N; first | (refine hN _ ?_; clear hN N) | (refine hN _ ?_; clear hN N))))))
    | (refine bif2.mk (fun hb => ?_) (fun hb => ?_) <;> (try simp only [hb, GA, ↓GB, List.filterMap_cons, eq_self, BEq.rfl, simprocAttr, hnt, hT, hag]) <;> ((first | cases hb | (simp only [decide_eq_true_eq, decide_eq_false_iff_not, beq_iff_eq, beq_eq_false_iff_ne, bne_iff_ne, Bool.and_eq_true, Bool.or_eq_true, Bool.not_eq_true', Bool.not_eq_false', Bool.and_eq_false_iff, Bool.or_eq_false_iff, Int.not_lt, Int.not_le] at hb) | skip) <;> (first | (exfalso; omega) | skip)))
    | (refine SX.block ?_)
    | (refine and_mk ?_ ?_; (focus first | decide | omega | rfl | assumption | (simp only [List.length_append, List.length_cons, List.length_nil, B_size]; omega) | (simp; done)))
    | (refine And.intro ?_ ?_))
  all_goals (try refine Done.mk ?_)
  refine SX.dia (id := 2) [0, 1, 2, 3, 4, 5, 6, 7, 8, 9] (hvC q sb un hv d f) [.s 10, .s 11] (hvC q sb un hv d f (fun _ => true)) ?_ ?_ ?_ ?_ rfl ?_
  · rw [hP]; kernel_rfl
  · kernel_rfl
  · refine Imp.trans (Imp.le [0, 1, 2, 3, 4, 5] (d := ⟨[(1, .one (.c (.loc 0 0))), (3, vv (.bool false)), (4, .one (.c (.loc 5 0))), (2, .one (.c (.loc 4 0)))], [.cells [.v (.int .i64 0), .v (.bool false), .v (.int .u64 q), .row 1, .row 2, .row 3, .v (.string (B d))] 41, srow sb, srow un, hrow hv, .cells [.v (.int .i64 f.num), .v (.int .i64 f.kind), .v (.int .u64 f.n), .v (.string (B f.s))] 143, .cells [.v (.string (B [])), .v (.int .u64 0)] 87]⟩) (by (refine LeR.of ?_ ?_ ?_ ?_ ?_ ?_ ?_ <;> first | (rw [hbl]; decide) | decide | (simp only [GA, ↓GB, List.filterMap_cons, eq_self, BEq.rfl, simprocAttr, GDs]; done) | (simp only [GA, ↓GB, List.filterMap_cons, eq_self, BEq.rfl, simprocAttr, GDs]; rfl; done)))) ?_
    refine Imp.trans (Imp.dead (t := 6) (by rw [hnt]; decide)) ?_
    refine Imp.trans (Imp.dead (t := 7) (by rw [hnt]; decide)) ?_
    refine Imp.trans (Imp.dead (t := 8) (by rw [hnt]; decide)) ?_
    refine Imp.trans (Imp.dead (t := 9) (by rw [hnt]; decide)) ?_
    refine Imp.trans (Imp.dead (t := 10) (by rw [hnt]; decide)) ?_
    refine Imp.trans (Imp.dead (t := 11) (by rw [hnt]; decide)) ?_
    refine Imp.trans (Imp.dead (t := 12) (by rw [hnt]; decide)) ?_
    refine Imp.trans (Imp.dead (t := 13) (by rw [hnt]; decide)) ?_
    refine Imp.trans Imp.gone ?_
    refine Imp.trans Imp.gone ?_
    refine Imp.trans Imp.gone ?_
    exact Imp.refl
  · rintro M i hi hd
    simp only [List.mem_cons, List.not_mem_nil, or_false] at hi
    rcases hi with rfl | rfl | rfl | rfl | rfl | rfl | rfl | rfl | rfl | rfl
    · have n1 : M 1 = false := dNot hd rfl (Array.mem_of_getElem? (i := 0) rfl) rfl hd.un
      have hun := hd.un
      refine ⟨_, rfl, rfl, ?_⟩
      simp only [hvC, upd, ↓reduceIte, Nat.reduceEqDiff, reduceCtorEq, hun, n1, ren_cond, okB_cond, lren_cond, lokB_cond, map_cond, all_cond, Bool.cond_self, cond_true, cond_false, List.map_append, List.all_append, List.map_cons, List.map_nil, Bool.and_true, List.nil_append, List.cons_append, simprocAttr]
      refine vcOp_sound ?_
      simp only [GA, ↓GB, List.filterMap_cons, eq_self, BEq.rfl, simprocAttr, hnt, hT]
      have hnt1 := True.intro; have hT1 := True.intro; have hU1P := True.intro
      repeat' (first
        | (refine SX.seqK ?_; intro N hN)
        | ((first | (refine SX.ops ?_)); simp only [GA, ↓GB, List.filterMap_cons, eq_self, BEq.rfl, simprocAttr, hnt, hT, hnt1, hT1, hU1P, hag])
        | ((first | refine SX.skip ?_ | refine SX.exit ?_ | refine SX.label ?_); try simp only [GA, ↓GB, List.filterMap_cons, eq_self, BEq.rfl, simprocAttr])
        | (refine SX.cond rfl (fun hb => ?_) (fun hb => ?_) <;> ((first | cases hb | (simp only [decide_eq_true_eq, decide_eq_false_iff_not, beq_iff_eq, beq_eq_false_iff_ne, bne_iff_ne, Bool.and_eq_true, Bool.or_eq_true, Bool.not_eq_true', Bool.not_eq_false', Bool.and_eq_false_iff, Bool.or_eq_false_iff, Int.not_lt, Int.not_le] at hb) | skip) <;> (first | (exfalso; omega) | skip)))
        | (refine SX.ret ?_; try simp only [GA, ↓GB, List.filterMap_cons, eq_self, BEq.rfl, simprocAttr])
        | (refine hN _ ?_; clear hN N)
        | ((first | refine hK1 _ _ (FinI.ret3 ?_) | refine hK1 _ _ (FinI.nrm3 ?_)); (repeat (clear hN N)); clear hK1 K1; simp only [GA, ↓GB, List.filterMap_cons, eq_self, BEq.rfl, simprocAttr, finP_s, hnt, hT, hnt1, hT1, hU1P, hag])
        | ((first | refine hK _ _ (FinI.ret3 ?_) | refine hK _ _ (FinI.nrm3 ?_)); simp only [GA, ↓GB, List.filterMap_cons, eq_self, BEq.rfl, simprocAttr, finP_s, hnt, hT, hnt1, hT1, hU1P, hag]; refine Done.out ?_)
        | (clear hN N; first | (refine hN _ ?_; clear hN N) | (clear hN N; first | (refine hN _ ?_; clear hN N) | (clear hN N; first | (refine hN _ ?_; clear hN N) | (clear hN N; first | (refine hN _ ?_; clear hN N) | (clear hN N; first | (refine hN _ ?_; clear hN N) | (refine hN _ ?_; clear hN N))))))
        | (refine bif2.mk (fun hb => ?_) (fun hb => ?_) <;> (try simp only [hb, GA, ↓GB, List.filterMap_cons, eq_self, BEq.rfl, simprocAttr, hnt, hT, hnt1, hT1, hU1P, hag]) <;> ((first | cases hb | (simp only [decide_eq_true_eq, decide_eq_false_iff_not, beq_iff_eq, beq_eq_false_iff_ne, bne_iff_ne, Bool.and_eq_true, Bool.or_eq_true, Bool.not_eq_true', Bool.not_eq_false', Bool.and_eq_false_iff, Bool.or_eq_false_iff, Int.not_lt, Int.not_le] at hb) | skip) <;> (first | (exfalso; omega) | skip)))
        | (refine CallVC.inline (f := 71) ?_ rfl Tryd.ntmps71 rfl ?_ ?_; (focus rw [hP]; exact Tryd.func71); (focus simp); have hT1 : zeroCells X.P 134 = some [(Value.int IntKind.i64 0), Value.nilFunc] ∧ calleeOk X.P 124 = true ∧ fieldsOf X.P 134 = some [(0, 1), (1, 1)] ∧ szOf X.P 134 = some 2 := (by rw [hP]; exact ⟨Ty.ze134, Ty.co124, Ty.fs134, Ty.sz134⟩); intro X1 K1 hU1 hnt1 hbl1 hK1; have hU1P := hU1.P; simp only [GA, ↓GB, List.filterMap_cons, eq_self, BEq.rfl, simprocAttr] at hbl1 ⊢)
        | (refine CallVC.inline (f := 72) ?_ rfl Tryd.ntmps72 rfl ?_ ?_; (focus rw [hP]; exact Tryd.func72); (focus simp); have hT1 : zeroCells X.P 134 = some [(Value.int IntKind.i64 0), Value.nilFunc] ∧ calleeOk X.P 125 = true ∧ fieldsOf X.P 134 = some [(0, 1), (1, 1)] ∧ szOf X.P 134 = some 2 := (by rw [hP]; exact ⟨Ty.ze134, Ty.co125, Ty.fs134, Ty.sz134⟩); intro X1 K1 hU1 hnt1 hbl1 hK1; have hU1P := hU1.P; simp only [GA, ↓GB, List.filterMap_cons, eq_self, BEq.rfl, simprocAttr] at hbl1 ⊢)
        | (refine SX.block ?_)
        | (refine and_mk ?_ ?_; (focus first | decide | omega | rfl | assumption | (simp only [List.length_append, List.length_cons, List.length_nil, B_size]; omega) | (simp; done)))
        | (refine And.intro ?_ ?_))
      all_goals (try refine Done.mk ?_)
      all_goals (refine Imp.le [0, 1, 2, 3, 4, 5, 6, 7, 8] ?_; (refine LeR.of ?_ ?_ ?_ ?_ ?_ ?_ ?_ <;> first | (rw [hbl]; decide) | decide | (simp only [GA, ↓GB, List.filterMap_cons, eq_self, BEq.rfl, simprocAttr, GDs, ren_cond, okB_cond, lren_cond, lokB_cond, map_cond, all_cond, Bool.cond_self, cond_true, cond_false, List.map_append, List.all_append, List.map_cons, List.map_nil, Bool.and_true]; done)))
    · have m0 : M 0 = true := hd.dep _ rfl _ (Array.mem_of_getElem? (i := 0) rfl) rfl
      have hun := hd.un
      refine ⟨_, rfl, rfl, ?_⟩
      simp only [hvC, upd, ↓reduceIte, Nat.reduceEqDiff, reduceCtorEq, hun, m0, ren_cond, okB_cond, lren_cond, lokB_cond, map_cond, all_cond, Bool.cond_self, cond_true, cond_false, List.map_append, List.all_append, List.map_cons, List.map_nil, Bool.and_true, List.nil_append, List.cons_append, simprocAttr]
      refine vcOp_sound ?_
      simp only [GA, ↓GB, List.filterMap_cons, eq_self, BEq.rfl, simprocAttr, hnt, hT]
      have hnt1 := True.intro; have hT1 := True.intro; have hU1P := True.intro
      repeat' (first
        | (refine SX.seqK ?_; intro N hN)
        | ((first | (refine SX.ops ?_)); simp only [GA, ↓GB, List.filterMap_cons, eq_self, BEq.rfl, simprocAttr, hnt, hT, hnt1, hT1, hU1P, hag])
        | ((first | refine SX.skip ?_ | refine SX.exit ?_ | refine SX.label ?_); try simp only [GA, ↓GB, List.filterMap_cons, eq_self, BEq.rfl, simprocAttr])
        | (refine SX.cond rfl (fun hb => ?_) (fun hb => ?_) <;> ((first | cases hb | (simp only [decide_eq_true_eq, decide_eq_false_iff_not, beq_iff_eq, beq_eq_false_iff_ne, bne_iff_ne, Bool.and_eq_true, Bool.or_eq_true, Bool.not_eq_true', Bool.not_eq_false', Bool.and_eq_false_iff, Bool.or_eq_false_iff, Int.not_lt, Int.not_le] at hb) | skip) <;> (first | (exfalso; omega) | skip)))
        | (refine SX.ret ?_; try simp only [GA, ↓GB, List.filterMap_cons, eq_self, BEq.rfl, simprocAttr])
        | (refine hN _ ?_; clear hN N)
        | ((first | refine hK1 _ _ (FinI.ret3 ?_) | refine hK1 _ _ (FinI.nrm3 ?_)); (repeat (clear hN N)); clear hK1 K1; simp only [GA, ↓GB, List.filterMap_cons, eq_self, BEq.rfl, simprocAttr, finP_s, hnt, hT, hnt1, hT1, hU1P, hag])
        | ((first | refine hK _ _ (FinI.ret3 ?_) | refine hK _ _ (FinI.nrm3 ?_)); simp only [GA, ↓GB, List.filterMap_cons, eq_self, BEq.rfl, simprocAttr, finP_s, hnt, hT, hnt1, hT1, hU1P, hag]; refine Done.out ?_)
        | (clear hN N; first | (refine hN _ ?_; clear hN N) | (clear hN N; first | (refine hN _ ?_; clear hN N) | (clear hN N; first | (refine hN _ ?_; clear hN N) | (clear hN N; first | (refine hN _ ?_; clear hN N) | (clear hN N; first | (refine hN _ ?_; clear hN N) | (refine hN _ ?_; clear hN N))))))
        | (refine bif2.mk (fun hb => ?_) (fun hb => ?_) <;> (try simp only [hb, GA, ↓GB, List.filterMap_cons, eq_self, BEq.rfl, simprocAttr, hnt, hT, hnt1, hT1, hU1P, hag]) <;> ((first | cases hb | (simp only [decide_eq_true_eq, decide_eq_false_iff_not, beq_iff_eq, beq_eq_false_iff_ne, bne_iff_ne, Bool.and_eq_true, Bool.or_eq_true, Bool.not_eq_true', Bool.not_eq_false', Bool.and_eq_false_iff, Bool.or_eq_false_iff, Int.not_lt, Int.not_le] at hb) | skip) <;> (first | (exfalso; omega) | skip)))
        | (refine CallVC.inline (f := 71) ?_ rfl Tryd.ntmps71 rfl ?_ ?_; (focus rw [hP]; exact Tryd.func71); (focus simp); have hT1 : zeroCells X.P 134 = some [(Value.int IntKind.i64 0), Value.nilFunc] ∧ calleeOk X.P 124 = true ∧ fieldsOf X.P 134 = some [(0, 1), (1, 1)] ∧ szOf X.P 134 = some 2 := (by rw [hP]; exact ⟨Ty.ze134, Ty.co124, Ty.fs134, Ty.sz134⟩); intro X1 K1 hU1 hnt1 hbl1 hK1; have hU1P := hU1.P; simp only [GA, ↓GB, List.filterMap_cons, eq_self, BEq.rfl, simprocAttr] at hbl1 ⊢)
        | (refine CallVC.inline (f := 72) ?_ rfl Tryd.ntmps72 rfl ?_ ?_; (focus rw [hP]; exact Tryd.func72); (focus simp); have hT1 : zeroCells X.P 134 = some [(Value.int IntKind.i64 0), Value.nilFunc] ∧ calleeOk X.P 125 = true ∧ fieldsOf X.P 134 = some [(0, 1), (1, 1)] ∧ szOf X.P 134 = some 2 := (by rw [hP]; exact ⟨Ty.ze134, Ty.co125, Ty.fs134, Ty.sz134⟩); intro X1 K1 hU1 hnt1 hbl1 hK1; have hU1P := hU1.P; simp only [GA, ↓GB, List.filterMap_cons, eq_self, BEq.rfl, simprocAttr] at hbl1 ⊢)
        | (refine SX.block ?_)
        | (refine and_mk ?_ ?_; (focus first | decide | omega | rfl | assumption | (simp only [List.length_append, List.length_cons, List.length_nil, B_size]; omega) | (simp; done)))
        | (refine And.intro ?_ ?_))
      all_goals (try refine Done.mk ?_)
      all_goals (refine Imp.le [0, 1, 2, 3, 4, 5, 6, 7, 8] ?_; (refine LeR.of ?_ ?_ ?_ ?_ ?_ ?_ ?_ <;> first | (rw [hbl]; decide) | decide | (simp only [GA, ↓GB, List.filterMap_cons, eq_self, BEq.rfl, simprocAttr, GDs, ren_cond, okB_cond, lren_cond, lokB_cond, map_cond, all_cond, Bool.cond_self, cond_true, cond_false, List.map_append, List.all_append, List.map_cons, List.map_nil, Bool.and_true]; done)))
    · have n5 : M 5 = false := dNot hd rfl (Array.mem_of_getElem? (i := 0) rfl) rfl hd.un
      have n8 : M 8 = false := dNot hd rfl (Array.mem_of_getElem? (i := 0) rfl) rfl hd.un
      have n9 : M 9 = false := dNot hd rfl (Array.mem_of_getElem? (i := 0) rfl) rfl hd.un
      have hun := hd.un
      refine ⟨_, rfl, rfl, ?_⟩
      simp only [hvC, upd, ↓reduceIte, Nat.reduceEqDiff, reduceCtorEq, hun, n5, n8, n9, ren_cond, okB_cond, lren_cond, lokB_cond, map_cond, all_cond, Bool.cond_self, cond_true, cond_false, List.map_append, List.all_append, List.map_cons, List.map_nil, Bool.and_true, List.nil_append, List.cons_append, simprocAttr]
      refine vcOp_sound ?_
      simp only [GA, ↓GB, List.filterMap_cons, eq_self, BEq.rfl, simprocAttr, hnt, hT]
      have hnt1 := True.intro; have hT1 := True.intro; have hU1P := True.intro
      repeat' (first
        | (refine SX.seqK ?_; intro N hN)
        | ((first | (refine SX.ops ?_)); simp only [GA, ↓GB, List.filterMap_cons, eq_self, BEq.rfl, simprocAttr, hnt, hT, hnt1, hT1, hU1P, hag])
        | ((first | refine SX.skip ?_ | refine SX.exit ?_ | refine SX.label ?_); try simp only [GA, ↓GB, List.filterMap_cons, eq_self, BEq.rfl, simprocAttr])
        | (refine SX.cond rfl (fun hb => ?_) (fun hb => ?_) <;> ((first | cases hb | (simp only [decide_eq_true_eq, decide_eq_false_iff_not, beq_iff_eq, beq_eq_false_iff_ne, bne_iff_ne, Bool.and_eq_true, Bool.or_eq_true, Bool.not_eq_true', Bool.not_eq_false', Bool.and_eq_false_iff, Bool.or_eq_false_iff, Int.not_lt, Int.not_le] at hb) | skip) <;> (first | (exfalso; omega) | skip)))
        | (refine SX.ret ?_; try simp only [GA, ↓GB, List.filterMap_cons, eq_self, BEq.rfl, simprocAttr])
        | (refine hN _ ?_; clear hN N)
        | ((first | refine hK1 _ _ (FinI.ret3 ?_) | refine hK1 _ _ (FinI.nrm3 ?_)); (repeat (clear hN N)); clear hK1 K1; simp only [GA, ↓GB, List.filterMap_cons, eq_self, BEq.rfl, simprocAttr, finP_s, hnt, hT, hnt1, hT1, hU1P, hag])
        | ((first | refine hK _ _ (FinI.ret3 ?_) | refine hK _ _ (FinI.nrm3 ?_)); simp only [GA, ↓GB, List.filterMap_cons, eq_self, BEq.rfl, simprocAttr, finP_s, hnt, hT, hnt1, hT1, hU1P, hag]; refine Done.out ?_)
        | (clear hN N; first | (refine hN _ ?_; clear hN N) | (clear hN N; first | (refine hN _ ?_; clear hN N) | (clear hN N; first | (refine hN _ ?_; clear hN N) | (clear hN N; first | (refine hN _ ?_; clear hN N) | (clear hN N; first | (refine hN _ ?_; clear hN N) | (refine hN _ ?_; clear hN N))))))
        | (refine bif2.mk (fun hb => ?_) (fun hb => ?_) <;> (try simp only [hb, GA, ↓GB, List.filterMap_cons, eq_self, BEq.rfl, simprocAttr, hnt, hT, hnt1, hT1, hU1P, hag]) <;> ((first | cases hb | (simp only [decide_eq_true_eq, decide_eq_false_iff_not, beq_iff_eq, beq_eq_false_iff_ne, bne_iff_ne, Bool.and_eq_true, Bool.or_eq_true, Bool.not_eq_true', Bool.not_eq_false', Bool.and_eq_false_iff, Bool.or_eq_false_iff, Int.not_lt, Int.not_le] at hb) | skip) <;> (first | (exfalso; omega) | skip)))
        | (refine CallVC.inline (f := 71) ?_ rfl Tryd.ntmps71 rfl ?_ ?_; (focus rw [hP]; exact Tryd.func71); (focus simp); have hT1 : zeroCells X.P 134 = some [(Value.int IntKind.i64 0), Value.nilFunc] ∧ calleeOk X.P 124 = true ∧ fieldsOf X.P 134 = some [(0, 1), (1, 1)] ∧ szOf X.P 134 = some 2 := (by rw [hP]; exact ⟨Ty.ze134, Ty.co124, Ty.fs134, Ty.sz134⟩); intro X1 K1 hU1 hnt1 hbl1 hK1; have hU1P := hU1.P; simp only [GA, ↓GB, List.filterMap_cons, eq_self, BEq.rfl, simprocAttr] at hbl1 ⊢)
        | (refine CallVC.inline (f := 72) ?_ rfl Tryd.ntmps72 rfl ?_ ?_; (focus rw [hP]; exact Tryd.func72); (focus simp); have hT1 : zeroCells X.P 134 = some [(Value.int IntKind.i64 0), Value.nilFunc] ∧ calleeOk X.P 125 = true ∧ fieldsOf X.P 134 = some [(0, 1), (1, 1)] ∧ szOf X.P 134 = some 2 := (by rw [hP]; exact ⟨Ty.ze134, Ty.co125, Ty.fs134, Ty.sz134⟩); intro X1 K1 hU1 hnt1 hbl1 hK1; have hU1P := hU1.P; simp only [GA, ↓GB, List.filterMap_cons, eq_self, BEq.rfl, simprocAttr] at hbl1 ⊢)
        | (refine SX.block ?_)
        | (refine and_mk ?_ ?_; (focus first | decide | omega | rfl | assumption | (simp only [List.length_append, List.length_cons, List.length_nil, B_size]; omega) | (simp; done)))
        | (refine And.intro ?_ ?_))
      all_goals (try refine Done.mk ?_)
      all_goals (refine Imp.le [0, 1, 2, 3, 4, 5, 9, 7, 8] ?_; (refine LeR.of ?_ ?_ ?_ ?_ ?_ ?_ ?_ <;> first | (rw [hbl]; decide) | decide | (simp only [GA, ↓GB, List.filterMap_cons, eq_self, BEq.rfl, simprocAttr, GDs, ren_cond, okB_cond, lren_cond, lokB_cond, map_cond, all_cond, Bool.cond_self, cond_true, cond_false, List.map_append, List.all_append, List.map_cons, List.map_nil, Bool.and_true]; done)))
    · have n4 : M 4 = false := dNot hd rfl (Array.mem_of_getElem? (i := 0) rfl) rfl hd.un
      have n5 : M 5 = false := dNot hd rfl (Array.mem_of_getElem? (i := 1) rfl) rfl n4
      have n7 : M 7 = false := dNot hd rfl (Array.mem_of_getElem? (i := 1) rfl) rfl n4
      have n8 : M 8 = false := dNot hd rfl (Array.mem_of_getElem? (i := 1) rfl) rfl n7
      have n9 : M 9 = false := dNot hd rfl (Array.mem_of_getElem? (i := 1) rfl) rfl hd.un
      have hun := hd.un
      refine ⟨_, rfl, rfl, ?_⟩
      simp only [hvC, upd, ↓reduceIte, Nat.reduceEqDiff, reduceCtorEq, hun, n4, n5, n7, n8, n9, ren_cond, okB_cond, lren_cond, lokB_cond, map_cond, all_cond, Bool.cond_self, cond_true, cond_false, List.map_append, List.all_append, List.map_cons, List.map_nil, Bool.and_true, List.nil_append, List.cons_append, simprocAttr]
      refine vcOp_sound ?_
      simp only [GA, ↓GB, List.filterMap_cons, eq_self, BEq.rfl, simprocAttr, hnt, hT]
      have hnt1 := True.intro; have hT1 := True.intro; have hU1P := True.intro
      repeat' (first
        | (refine SX.seqK ?_; intro N hN)
        | ((first | (refine SX.ops ?_)); simp only [GA, ↓GB, List.filterMap_cons, eq_self, BEq.rfl, simprocAttr, hnt, hT, hnt1, hT1, hU1P, hag])
        | ((first | refine SX.skip ?_ | refine SX.exit ?_ | refine SX.label ?_); try simp only [GA, ↓GB, List.filterMap_cons, eq_self, BEq.rfl, simprocAttr])
        | (refine SX.cond rfl (fun hb => ?_) (fun hb => ?_) <;> ((first | cases hb | (simp only [decide_eq_true_eq, decide_eq_false_iff_not, beq_iff_eq, beq_eq_false_iff_ne, bne_iff_ne, Bool.and_eq_true, Bool.or_eq_true, Bool.not_eq_true', Bool.not_eq_false', Bool.and_eq_false_iff, Bool.or_eq_false_iff, Int.not_lt, Int.not_le] at hb) | skip) <;> (first | (exfalso; omega) | skip)))
        | (refine SX.ret ?_; try simp only [GA, ↓GB, List.filterMap_cons, eq_self, BEq.rfl, simprocAttr])
        | (refine hN _ ?_; clear hN N)
        | ((first | refine hK1 _ _ (FinI.ret3 ?_) | refine hK1 _ _ (FinI.nrm3 ?_)); (repeat (clear hN N)); clear hK1 K1; simp only [GA, ↓GB, List.filterMap_cons, eq_self, BEq.rfl, simprocAttr, finP_s, hnt, hT, hnt1, hT1, hU1P, hag])
        | ((first | refine hK _ _ (FinI.ret3 ?_) | refine hK _ _ (FinI.nrm3 ?_)); simp only [GA, ↓GB, List.filterMap_cons, eq_self, BEq.rfl, simprocAttr, finP_s, hnt, hT, hnt1, hT1, hU1P, hag]; refine Done.out ?_)
        | (clear hN N; first | (refine hN _ ?_; clear hN N) | (clear hN N; first | (refine hN _ ?_; clear hN N) | (clear hN N; first | (refine hN _ ?_; clear hN N) | (clear hN N; first | (refine hN _ ?_; clear hN N) | (clear hN N; first | (refine hN _ ?_; clear hN N) | (refine hN _ ?_; clear hN N))))))
        | (refine bif2.mk (fun hb => ?_) (fun hb => ?_) <;> (try simp only [hb, GA, ↓GB, List.filterMap_cons, eq_self, BEq.rfl, simprocAttr, hnt, hT, hnt1, hT1, hU1P, hag]) <;> ((first | cases hb | (simp only [decide_eq_true_eq, decide_eq_false_iff_not, beq_iff_eq, beq_eq_false_iff_ne, bne_iff_ne, Bool.and_eq_true, Bool.or_eq_true, Bool.not_eq_true', Bool.not_eq_false', Bool.and_eq_false_iff, Bool.or_eq_false_iff, Int.not_lt, Int.not_le] at hb) | skip) <;> (first | (exfalso; omega) | skip)))
        | (refine CallVC.inline (f := 71) ?_ rfl Tryd.ntmps71 rfl ?_ ?_; (focus rw [hP]; exact Tryd.func71); (focus simp); have hT1 : zeroCells X.P 134 = some [(Value.int IntKind.i64 0), Value.nilFunc] ∧ calleeOk X.P 124 = true ∧ fieldsOf X.P 134 = some [(0, 1), (1, 1)] ∧ szOf X.P 134 = some 2 := (by rw [hP]; exact ⟨Ty.ze134, Ty.co124, Ty.fs134, Ty.sz134⟩); intro X1 K1 hU1 hnt1 hbl1 hK1; have hU1P := hU1.P; simp only [GA, ↓GB, List.filterMap_cons, eq_self, BEq.rfl, simprocAttr] at hbl1 ⊢)
        | (refine CallVC.inline (f := 72) ?_ rfl Tryd.ntmps72 rfl ?_ ?_; (focus rw [hP]; exact Tryd.func72); (focus simp); have hT1 : zeroCells X.P 134 = some [(Value.int IntKind.i64 0), Value.nilFunc] ∧ calleeOk X.P 125 = true ∧ fieldsOf X.P 134 = some [(0, 1), (1, 1)] ∧ szOf X.P 134 = some 2 := (by rw [hP]; exact ⟨Ty.ze134, Ty.co125, Ty.fs134, Ty.sz134⟩); intro X1 K1 hU1 hnt1 hbl1 hK1; have hU1P := hU1.P; simp only [GA, ↓GB, List.filterMap_cons, eq_self, BEq.rfl, simprocAttr] at hbl1 ⊢)
        | (refine SX.block ?_)
        | (refine and_mk ?_ ?_; (focus first | decide | omega | rfl | assumption | (simp only [List.length_append, List.length_cons, List.length_nil, B_size]; omega) | (simp; done)))
        | (refine And.intro ?_ ?_))
      all_goals (try refine Done.mk ?_)
      all_goals (refine Imp.le [0, 1, 2, 3, 4, 5, 6, 7, 8] ?_; (refine LeR.of ?_ ?_ ?_ ?_ ?_ ?_ ?_ <;> first | (rw [hbl]; decide) | decide | (simp only [GA, ↓GB, List.filterMap_cons, eq_self, BEq.rfl, simprocAttr, GDs, ren_cond, okB_cond, lren_cond, lokB_cond, map_cond, all_cond, Bool.cond_self, cond_true, cond_false, List.map_append, List.all_append, List.map_cons, List.map_nil, Bool.and_true]; done)))
    · have m3 : M 3 = true := hd.dep _ rfl _ (Array.mem_of_getElem? (i := 0) rfl) rfl
      have n5 : M 5 = false := dNot hd rfl (Array.mem_of_getElem? (i := 1) rfl) rfl hd.un
      have n7 : M 7 = false := dNot hd rfl (Array.mem_of_getElem? (i := 1) rfl) rfl hd.un
      have n8 : M 8 = false := dNot hd rfl (Array.mem_of_getElem? (i := 1) rfl) rfl n7
      have n9 : M 9 = false := dNot hd rfl (Array.mem_of_getElem? (i := 2) rfl) rfl hd.un
      have hun := hd.un
      refine ⟨_, rfl, rfl, ?_⟩
      simp only [hvC, upd, ↓reduceIte, Nat.reduceEqDiff, reduceCtorEq, hun, m3, n5, n7, n8, n9, ren_cond, okB_cond, lren_cond, lokB_cond, map_cond, all_cond, Bool.cond_self, cond_true, cond_false, List.map_append, List.all_append, List.map_cons, List.map_nil, Bool.and_true, List.nil_append, List.cons_append, simprocAttr]
      refine vcOp_sound ?_
      simp only [GA, ↓GB, List.filterMap_cons, eq_self, BEq.rfl, simprocAttr, hnt, hT]
      have hnt1 := True.intro; have hT1 := True.intro; have hU1P := True.intro
      repeat' (first
        | (refine SX.seqK ?_; intro N hN)
        | ((first | (refine SX.ops ?_)); simp only [GA, ↓GB, List.filterMap_cons, eq_self, BEq.rfl, simprocAttr, hnt, hT, hnt1, hT1, hU1P, hag])
        | ((first | refine SX.skip ?_ | refine SX.exit ?_ | refine SX.label ?_); try simp only [GA, ↓GB, List.filterMap_cons, eq_self, BEq.rfl, simprocAttr])
        | (refine SX.cond rfl (fun hb => ?_) (fun hb => ?_) <;> ((first | cases hb | (simp only [decide_eq_true_eq, decide_eq_false_iff_not, beq_iff_eq, beq_eq_false_iff_ne, bne_iff_ne, Bool.and_eq_true, Bool.or_eq_true, Bool.not_eq_true', Bool.not_eq_false', Bool.and_eq_false_iff, Bool.or_eq_false_iff, Int.not_lt, Int.not_le] at hb) | skip) <;> (first | (exfalso; omega) | skip)))
        | (refine SX.ret ?_; try simp only [GA, ↓GB, List.filterMap_cons, eq_self, BEq.rfl, simprocAttr])
        | (refine hN _ ?_; clear hN N)
        | ((first | refine hK1 _ _ (FinI.ret3 ?_) | refine hK1 _ _ (FinI.nrm3 ?_)); (repeat (clear hN N)); clear hK1 K1; simp only [GA, ↓GB, List.filterMap_cons, eq_self, BEq.rfl, simprocAttr, finP_s, hnt, hT, hnt1, hT1, hU1P, hag])
        | ((first | refine hK _ _ (FinI.ret3 ?_) | refine hK _ _ (FinI.nrm3 ?_)); simp only [GA, ↓GB, List.filterMap_cons, eq_self, BEq.rfl, simprocAttr, finP_s, hnt, hT, hnt1, hT1, hU1P, hag]; refine Done.out ?_)
        | (clear hN N; first | (refine hN _ ?_; clear hN N) | (clear hN N; first | (refine hN _ ?_; clear hN N) | (clear hN N; first | (refine hN _ ?_; clear hN N) | (clear hN N; first | (refine hN _ ?_; clear hN N) | (clear hN N; first | (refine hN _ ?_; clear hN N) | (refine hN _ ?_; clear hN N))))))
        | (refine bif2.mk (fun hb => ?_) (fun hb => ?_) <;> (try simp only [hb, GA, ↓GB, List.filterMap_cons, eq_self, BEq.rfl, simprocAttr, hnt, hT, hnt1, hT1, hU1P, hag]) <;> ((first | cases hb | (simp only [decide_eq_true_eq, decide_eq_false_iff_not, beq_iff_eq, beq_eq_false_iff_ne, bne_iff_ne, Bool.and_eq_true, Bool.or_eq_true, Bool.not_eq_true', Bool.not_eq_false', Bool.and_eq_false_iff, Bool.or_eq_false_iff, Int.not_lt, Int.not_le] at hb) | skip) <;> (first | (exfalso; omega) | skip)))
        | (refine CallVC.inline (f := 71) ?_ rfl Tryd.ntmps71 rfl ?_ ?_; (focus rw [hP]; exact Tryd.func71); (focus simp); have hT1 : zeroCells X.P 134 = some [(Value.int IntKind.i64 0), Value.nilFunc] ∧ calleeOk X.P 124 = true ∧ fieldsOf X.P 134 = some [(0, 1), (1, 1)] ∧ szOf X.P 134 = some 2 := (by rw [hP]; exact ⟨Ty.ze134, Ty.co124, Ty.fs134, Ty.sz134⟩); intro X1 K1 hU1 hnt1 hbl1 hK1; have hU1P := hU1.P; simp only [GA, ↓GB, List.filterMap_cons, eq_self, BEq.rfl, simprocAttr] at hbl1 ⊢)
        | (refine CallVC.inline (f := 72) ?_ rfl Tryd.ntmps72 rfl ?_ ?_; (focus rw [hP]; exact Tryd.func72); (focus simp); have hT1 : zeroCells X.P 134 = some [(Value.int IntKind.i64 0), Value.nilFunc] ∧ calleeOk X.P 125 = true ∧ fieldsOf X.P 134 = some [(0, 1), (1, 1)] ∧ szOf X.P 134 = some 2 := (by rw [hP]; exact ⟨Ty.ze134, Ty.co125, Ty.fs134, Ty.sz134⟩); intro X1 K1 hU1 hnt1 hbl1 hK1; have hU1P := hU1.P; simp only [GA, ↓GB, List.filterMap_cons, eq_self, BEq.rfl, simprocAttr] at hbl1 ⊢)
        | (refine SX.block ?_)
        | (refine and_mk ?_ ?_; (focus first | decide | omega | rfl | assumption | (simp only [List.length_append, List.length_cons, List.length_nil, B_size]; omega) | (simp; done)))
        | (refine And.intro ?_ ?_))
      all_goals (try refine Done.mk ?_)
      all_goals (refine Imp.le [0, 1, 2, 3, 4, 5, 6, 9, 8] ?_; (refine LeR.of ?_ ?_ ?_ ?_ ?_ ?_ ?_ <;> first | (rw [hbl]; decide) | decide | (simp only [GA, ↓GB, List.filterMap_cons, eq_self, BEq.rfl, simprocAttr, GDs, ren_cond, okB_cond, lren_cond, lokB_cond, map_cond, all_cond, Bool.cond_self, cond_true, cond_false, List.map_append, List.all_append, List.map_cons, List.map_nil, Bool.and_true]; done)))
    · have m2 : M 2 = true := hd.dep _ rfl _ (Array.mem_of_getElem? (i := 0) rfl) rfl
      have m4 : M 4 = true := hd.dep _ rfl _ (Array.mem_of_getElem? (i := 1) rfl) rfl
      have n9 : M 9 = false := dNot hd rfl (Array.mem_of_getElem? (i := 3) rfl) rfl hd.un
      have hun := hd.un
      refine ⟨_, rfl, rfl, ?_⟩
      simp only [hvC, upd, ↓reduceIte, Nat.reduceEqDiff, reduceCtorEq, hun, m2, m4, n9, ren_cond, okB_cond, lren_cond, lokB_cond, map_cond, all_cond, Bool.cond_self, cond_true, cond_false, List.map_append, List.all_append, List.map_cons, List.map_nil, Bool.and_true, List.nil_append, List.cons_append, simprocAttr]
      refine VO.insert (kt := 3) (et := 134) (i := 6) (kv := .int .i64 1) (s := .agg [.v (.int .i64 2), .clo 125 [] [.loc 7 0]]) (kd := .int .i64) rfl rfl rfl rfl (by rw [hP]; kernel_rfl) (by rw [hP]; kernel_rfl) rfl (by simp [all_cond, KeyOf]) (look_nk (by simp [all_cond, nk])) ?_
      refine Imp.perm (i := 6) rfl ?_
      try simp only [List.append_assoc, List.nil_append, List.cons_append, List.append_nil]
      repeat (first | exact List.Perm.refl _ | exact List.perm_append_singleton _ _ | refine List.Perm.append_left _ ?_)
    · have n7 : M 7 = false := dNot hd rfl (Array.mem_of_getElem? (i := 0) rfl) rfl hd.un
      have n8 : M 8 = false := dNot hd rfl (Array.mem_of_getElem? (i := 1) rfl) rfl n7
      have n9 : M 9 = false := dNot hd rfl (Array.mem_of_getElem? (i := 4) rfl) rfl hd.un
      have hun := hd.un
      refine ⟨_, rfl, rfl, ?_⟩
      simp only [hvC, upd, ↓reduceIte, Nat.reduceEqDiff, reduceCtorEq, hun, n7, n8, n9, ren_cond, okB_cond, lren_cond, lokB_cond, map_cond, all_cond, Bool.cond_self, cond_true, cond_false, List.map_append, List.all_append, List.map_cons, List.map_nil, Bool.and_true, List.nil_append, List.cons_append, simprocAttr]
      refine vcOp_sound ?_
      simp only [GA, ↓GB, List.filterMap_cons, eq_self, BEq.rfl, simprocAttr, hnt, hT]
      have hnt1 := True.intro; have hT1 := True.intro; have hU1P := True.intro
      repeat' (first
        | (refine SX.seqK ?_; intro N hN)
        | ((first | (refine SX.ops ?_)); simp only [GA, ↓GB, List.filterMap_cons, eq_self, BEq.rfl, simprocAttr, hnt, hT, hnt1, hT1, hU1P, hag])
        | ((first | refine SX.skip ?_ | refine SX.exit ?_ | refine SX.label ?_); try simp only [GA, ↓GB, List.filterMap_cons, eq_self, BEq.rfl, simprocAttr])
        | (refine SX.cond rfl (fun hb => ?_) (fun hb => ?_) <;> ((first | cases hb | (simp only [decide_eq_true_eq, decide_eq_false_iff_not, beq_iff_eq, beq_eq_false_iff_ne, bne_iff_ne, Bool.and_eq_true, Bool.or_eq_true, Bool.not_eq_true', Bool.not_eq_false', Bool.and_eq_false_iff, Bool.or_eq_false_iff, Int.not_lt, Int.not_le] at hb) | skip) <;> (first | (exfalso; omega) | skip)))
        | (refine SX.ret ?_; try simp only [GA, ↓GB, List.filterMap_cons, eq_self, BEq.rfl, simprocAttr])
        | (refine hN _ ?_; clear hN N)
        | ((first | refine hK1 _ _ (FinI.ret3 ?_) | refine hK1 _ _ (FinI.nrm3 ?_)); (repeat (clear hN N)); clear hK1 K1; simp only [GA, ↓GB, List.filterMap_cons, eq_self, BEq.rfl, simprocAttr, finP_s, hnt, hT, hnt1, hT1, hU1P, hag])
        | ((first | refine hK _ _ (FinI.ret3 ?_) | refine hK _ _ (FinI.nrm3 ?_)); simp only [GA, ↓GB, List.filterMap_cons, eq_self, BEq.rfl, simprocAttr, finP_s, hnt, hT, hnt1, hT1, hU1P, hag]; refine Done.out ?_)
        | (clear hN N; first | (refine hN _ ?_; clear hN N) | (clear hN N; first | (refine hN _ ?_; clear hN N) | (clear hN N; first | (refine hN _ ?_; clear hN N) | (clear hN N; first | (refine hN _ ?_; clear hN N) | (clear hN N; first | (refine hN _ ?_; clear hN N) | (refine hN _ ?_; clear hN N))))))
        | (refine bif2.mk (fun hb => ?_) (fun hb => ?_) <;> (try simp only [hb, GA, ↓GB, List.filterMap_cons, eq_self, BEq.rfl, simprocAttr, hnt, hT, hnt1, hT1, hU1P, hag]) <;> ((first | cases hb | (simp only [decide_eq_true_eq, decide_eq_false_iff_not, beq_iff_eq, beq_eq_false_iff_ne, bne_iff_ne, Bool.and_eq_true, Bool.or_eq_true, Bool.not_eq_true', Bool.not_eq_false', Bool.and_eq_false_iff, Bool.or_eq_false_iff, Int.not_lt, Int.not_le] at hb) | skip) <;> (first | (exfalso; omega) | skip)))
        | (refine CallVC.inline (f := 71) ?_ rfl Tryd.ntmps71 rfl ?_ ?_; (focus rw [hP]; exact Tryd.func71); (focus simp); have hT1 : zeroCells X.P 134 = some [(Value.int IntKind.i64 0), Value.nilFunc] ∧ calleeOk X.P 124 = true ∧ fieldsOf X.P 134 = some [(0, 1), (1, 1)] ∧ szOf X.P 134 = some 2 := (by rw [hP]; exact ⟨Ty.ze134, Ty.co124, Ty.fs134, Ty.sz134⟩); intro X1 K1 hU1 hnt1 hbl1 hK1; have hU1P := hU1.P; simp only [GA, ↓GB, List.filterMap_cons, eq_self, BEq.rfl, simprocAttr] at hbl1 ⊢)
        | (refine CallVC.inline (f := 72) ?_ rfl Tryd.ntmps72 rfl ?_ ?_; (focus rw [hP]; exact Tryd.func72); (focus simp); have hT1 : zeroCells X.P 134 = some [(Value.int IntKind.i64 0), Value.nilFunc] ∧ calleeOk X.P 125 = true ∧ fieldsOf X.P 134 = some [(0, 1), (1, 1)] ∧ szOf X.P 134 = some 2 := (by rw [hP]; exact ⟨Ty.ze134, Ty.co125, Ty.fs134, Ty.sz134⟩); intro X1 K1 hU1 hnt1 hbl1 hK1; have hU1P := hU1.P; simp only [GA, ↓GB, List.filterMap_cons, eq_self, BEq.rfl, simprocAttr] at hbl1 ⊢)
        | (refine SX.block ?_)
        | (refine and_mk ?_ ?_; (focus first | decide | omega | rfl | assumption | (simp only [List.length_append, List.length_cons, List.length_nil, B_size]; omega) | (simp; done)))
        | (refine And.intro ?_ ?_))
      all_goals (try refine Done.mk ?_)
      all_goals (refine Imp.le [0, 1, 2, 3, 4, 5, 6, 7, 8] ?_; (refine LeR.of ?_ ?_ ?_ ?_ ?_ ?_ ?_ <;> first | (rw [hbl]; decide) | decide | (simp only [GA, ↓GB, List.filterMap_cons, eq_self, BEq.rfl, simprocAttr, GDs, ren_cond, okB_cond, lren_cond, lokB_cond, map_cond, all_cond, Bool.cond_self, cond_true, cond_false, List.map_append, List.all_append, List.map_cons, List.map_nil, Bool.and_true]; done)))
    · have m6 : M 6 = true := hd.dep _ rfl _ (Array.mem_of_getElem? (i := 0) rfl) rfl
      have m4 : M 4 = true := hd.dep _ rfl _ (Array.mem_of_getElem? (i := 1) rfl) rfl
      have n8 : M 8 = false := dNot hd rfl (Array.mem_of_getElem? (i := 1) rfl) rfl hd.un
      have n9 : M 9 = false := dNot hd rfl (Array.mem_of_getElem? (i := 5) rfl) rfl hd.un
      have hun := hd.un
      refine ⟨_, rfl, rfl, ?_⟩
      simp only [hvC, upd, ↓reduceIte, Nat.reduceEqDiff, reduceCtorEq, hun, m6, m4, n8, n9, ren_cond, okB_cond, lren_cond, lokB_cond, map_cond, all_cond, Bool.cond_self, cond_true, cond_false, List.map_append, List.all_append, List.map_cons, List.map_nil, Bool.and_true, List.nil_append, List.cons_append, simprocAttr]
      refine vcOp_sound ?_
      simp only [GA, ↓GB, List.filterMap_cons, eq_self, BEq.rfl, simprocAttr, hnt, hT]
      have hnt1 := True.intro; have hT1 := True.intro; have hU1P := True.intro
      repeat' (first
        | (refine SX.seqK ?_; intro N hN)
        | ((first | (refine SX.ops ?_)); simp only [GA, ↓GB, List.filterMap_cons, eq_self, BEq.rfl, simprocAttr, hnt, hT, hnt1, hT1, hU1P, hag])
        | ((first | refine SX.skip ?_ | refine SX.exit ?_ | refine SX.label ?_); try simp only [GA, ↓GB, List.filterMap_cons, eq_self, BEq.rfl, simprocAttr])
        | (refine SX.cond rfl (fun hb => ?_) (fun hb => ?_) <;> ((first | cases hb | (simp only [decide_eq_true_eq, decide_eq_false_iff_not, beq_iff_eq, beq_eq_false_iff_ne, bne_iff_ne, Bool.and_eq_true, Bool.or_eq_true, Bool.not_eq_true', Bool.not_eq_false', Bool.and_eq_false_iff, Bool.or_eq_false_iff, Int.not_lt, Int.not_le] at hb) | skip) <;> (first | (exfalso; omega) | skip)))
        | (refine SX.ret ?_; try simp only [GA, ↓GB, List.filterMap_cons, eq_self, BEq.rfl, simprocAttr])
        | (refine hN _ ?_; clear hN N)
        | ((first | refine hK1 _ _ (FinI.ret3 ?_) | refine hK1 _ _ (FinI.nrm3 ?_)); (repeat (clear hN N)); clear hK1 K1; simp only [GA, ↓GB, List.filterMap_cons, eq_self, BEq.rfl, simprocAttr, finP_s, hnt, hT, hnt1, hT1, hU1P, hag])
        | ((first | refine hK _ _ (FinI.ret3 ?_) | refine hK _ _ (FinI.nrm3 ?_)); simp only [GA, ↓GB, List.filterMap_cons, eq_self, BEq.rfl, simprocAttr, finP_s, hnt, hT, hnt1, hT1, hU1P, hag]; refine Done.out ?_)
        | (clear hN N; first | (refine hN _ ?_; clear hN N) | (clear hN N; first | (refine hN _ ?_; clear hN N) | (clear hN N; first | (refine hN _ ?_; clear hN N) | (clear hN N; first | (refine hN _ ?_; clear hN N) | (clear hN N; first | (refine hN _ ?_; clear hN N) | (refine hN _ ?_; clear hN N))))))
        | (refine bif2.mk (fun hb => ?_) (fun hb => ?_) <;> (try simp only [hb, GA, ↓GB, List.filterMap_cons, eq_self, BEq.rfl, simprocAttr, hnt, hT, hnt1, hT1, hU1P, hag]) <;> ((first | cases hb | (simp only [decide_eq_true_eq, decide_eq_false_iff_not, beq_iff_eq, beq_eq_false_iff_ne, bne_iff_ne, Bool.and_eq_true, Bool.or_eq_true, Bool.not_eq_true', Bool.not_eq_false', Bool.and_eq_false_iff, Bool.or_eq_false_iff, Int.not_lt, Int.not_le] at hb) | skip) <;> (first | (exfalso; omega) | skip)))
        | (refine CallVC.inline (f := 71) ?_ rfl Tryd.ntmps71 rfl ?_ ?_; (focus rw [hP]; exact Tryd.func71); (focus simp); have hT1 : zeroCells X.P 134 = some [(Value.int IntKind.i64 0), Value.nilFunc] ∧ calleeOk X.P 124 = true ∧ fieldsOf X.P 134 = some [(0, 1), (1, 1)] ∧ szOf X.P 134 = some 2 := (by rw [hP]; exact ⟨Ty.ze134, Ty.co124, Ty.fs134, Ty.sz134⟩); intro X1 K1 hU1 hnt1 hbl1 hK1; have hU1P := hU1.P; simp only [GA, ↓GB, List.filterMap_cons, eq_self, BEq.rfl, simprocAttr] at hbl1 ⊢)
        | (refine CallVC.inline (f := 72) ?_ rfl Tryd.ntmps72 rfl ?_ ?_; (focus rw [hP]; exact Tryd.func72); (focus simp); have hT1 : zeroCells X.P 134 = some [(Value.int IntKind.i64 0), Value.nilFunc] ∧ calleeOk X.P 125 = true ∧ fieldsOf X.P 134 = some [(0, 1), (1, 1)] ∧ szOf X.P 134 = some 2 := (by rw [hP]; exact ⟨Ty.ze134, Ty.co125, Ty.fs134, Ty.sz134⟩); intro X1 K1 hU1 hnt1 hbl1 hK1; have hU1P := hU1.P; simp only [GA, ↓GB, List.filterMap_cons, eq_self, BEq.rfl, simprocAttr] at hbl1 ⊢)
        | (refine SX.block ?_)
        | (refine and_mk ?_ ?_; (focus first | decide | omega | rfl | assumption | (simp only [List.length_append, List.length_cons, List.length_nil, B_size]; omega) | (simp; done)))
        | (refine And.intro ?_ ?_))
      all_goals (try refine Done.mk ?_)
      all_goals (refine Imp.le [0, 1, 2, 3, 4, 5, 6, 7, 9] ?_; (refine LeR.of ?_ ?_ ?_ ?_ ?_ ?_ ?_ <;> first | (rw [hbl]; decide) | decide | (simp only [GA, ↓GB, List.filterMap_cons, eq_self, BEq.rfl, simprocAttr, GDs, ren_cond, okB_cond, lren_cond, lokB_cond, map_cond, all_cond, Bool.cond_self, cond_true, cond_false, List.map_append, List.all_append, List.map_cons, List.map_nil, Bool.and_true]; done)))
    · have m2 : M 2 = true := hd.dep _ rfl _ (Array.mem_of_getElem? (i := 0) rfl) rfl
      have m7 : M 7 = true := hd.dep _ rfl _ (Array.mem_of_getElem? (i := 1) rfl) rfl
      have n9 : M 9 = false := dNot hd rfl (Array.mem_of_getElem? (i := 6) rfl) rfl hd.un
      have hun := hd.un
      refine ⟨_, rfl, rfl, ?_⟩
      simp only [hvC, upd, ↓reduceIte, Nat.reduceEqDiff, reduceCtorEq, hun, m2, m7, n9, ren_cond, okB_cond, lren_cond, lokB_cond, map_cond, all_cond, Bool.cond_self, cond_true, cond_false, List.map_append, List.all_append, List.map_cons, List.map_nil, Bool.and_true, List.nil_append, List.cons_append, simprocAttr]
      refine VO.insert (kt := 3) (et := 134) (i := 6) (kv := .int .i64 2) (s := .agg [.v (.int .i64 0), .clo 124 [] [.loc 8 0]]) (kd := .int .i64) rfl rfl rfl rfl (by rw [hP]; kernel_rfl) (by rw [hP]; kernel_rfl) rfl (by simp [all_cond, KeyOf]) (look_nk (by simp [all_cond, nk])) ?_
      refine Imp.perm (i := 6) rfl ?_
      try simp only [List.append_assoc, List.nil_append, List.cons_append, List.append_nil]
      repeat (first | exact List.Perm.refl _ | exact List.perm_append_singleton _ _ | refine List.Perm.append_left _ ?_)
    · have m2 : M 2 = true := hd.dep _ rfl _ (Array.mem_of_getElem? (i := 0) rfl) rfl
      have m3 : M 3 = true := hd.dep _ rfl _ (Array.mem_of_getElem? (i := 1) rfl) rfl
      have m4 : M 4 = true := hd.dep _ rfl _ (Array.mem_of_getElem? (i := 2) rfl) rfl
      have m5 : M 5 = true := hd.dep _ rfl _ (Array.mem_of_getElem? (i := 3) rfl) rfl
      have m6 : M 6 = true := hd.dep _ rfl _ (Array.mem_of_getElem? (i := 4) rfl) rfl
      have m7 : M 7 = true := hd.dep _ rfl _ (Array.mem_of_getElem? (i := 5) rfl) rfl
      have m8 : M 8 = true := hd.dep _ rfl _ (Array.mem_of_getElem? (i := 6) rfl) rfl
      have hun := hd.un
      refine ⟨_, rfl, rfl, ?_⟩
      simp only [hvC, upd, ↓reduceIte, Nat.reduceEqDiff, reduceCtorEq, hun, m2, m3, m4, m5, m6, m7, m8, ren_cond, okB_cond, lren_cond, lokB_cond, map_cond, all_cond, Bool.cond_self, cond_true, cond_false, List.map_append, List.all_append, List.map_cons, List.map_nil, Bool.and_true, List.nil_append, List.cons_append, simprocAttr]
      refine vcOp_sound ?_
      simp only [GA, ↓GB, List.filterMap_cons, eq_self, BEq.rfl, simprocAttr, hnt, hT]
      have hnt1 := True.intro; have hT1 := True.intro; have hU1P := True.intro
      repeat' (first
        | (refine SX.seqK ?_; intro N hN)
        | ((first | (refine SX.ops ?_)); simp only [GA, ↓GB, List.filterMap_cons, eq_self, BEq.rfl, simprocAttr, hnt, hT, hnt1, hT1, hU1P, hag])
        | ((first | refine SX.skip ?_ | refine SX.exit ?_ | refine SX.label ?_); try simp only [GA, ↓GB, List.filterMap_cons, eq_self, BEq.rfl, simprocAttr])
        | (refine SX.cond rfl (fun hb => ?_) (fun hb => ?_) <;> ((first | cases hb | (simp only [decide_eq_true_eq, decide_eq_false_iff_not, beq_iff_eq, beq_eq_false_iff_ne, bne_iff_ne, Bool.and_eq_true, Bool.or_eq_true, Bool.not_eq_true', Bool.not_eq_false', Bool.and_eq_false_iff, Bool.or_eq_false_iff, Int.not_lt, Int.not_le] at hb) | skip) <;> (first | (exfalso; omega) | skip)))
        | (refine SX.ret ?_; try simp only [GA, ↓GB, List.filterMap_cons, eq_self, BEq.rfl, simprocAttr])
        | (refine hN _ ?_; clear hN N)
        | ((first | refine hK1 _ _ (FinI.ret3 ?_) | refine hK1 _ _ (FinI.nrm3 ?_)); (repeat (clear hN N)); clear hK1 K1; simp only [GA, ↓GB, List.filterMap_cons, eq_self, BEq.rfl, simprocAttr, finP_s, hnt, hT, hnt1, hT1, hU1P, hag])
        | ((first | refine hK _ _ (FinI.ret3 ?_) | refine hK _ _ (FinI.nrm3 ?_)); simp only [GA, ↓GB, List.filterMap_cons, eq_self, BEq.rfl, simprocAttr, finP_s, hnt, hT, hnt1, hT1, hU1P, hag]; refine Done.out ?_)
        | (clear hN N; first | (refine hN _ ?_; clear hN N) | (clear hN N; first | (refine hN _ ?_; clear hN N) | (clear hN N; first | (refine hN _ ?_; clear hN N) | (clear hN N; first | (refine hN _ ?_; clear hN N) | (clear hN N; first | (refine hN _ ?_; clear hN N) | (refine hN _ ?_; clear hN N))))))
        | (refine bif2.mk (fun hb => ?_) (fun hb => ?_) <;> (try simp only [hb, GA, ↓GB, List.filterMap_cons, eq_self, BEq.rfl, simprocAttr, hnt, hT, hnt1, hT1, hU1P, hag]) <;> ((first | cases hb | (simp only [decide_eq_true_eq, decide_eq_false_iff_not, beq_iff_eq, beq_eq_false_iff_ne, bne_iff_ne, Bool.and_eq_true, Bool.or_eq_true, Bool.not_eq_true', Bool.not_eq_false', Bool.and_eq_false_iff, Bool.or_eq_false_iff, Int.not_lt, Int.not_le] at hb) | skip) <;> (first | (exfalso; omega) | skip)))
        | (refine CallVC.inline (f := 71) ?_ rfl Tryd.ntmps71 rfl ?_ ?_; (focus rw [hP]; exact Tryd.func71); (focus simp); have hT1 : zeroCells X.P 134 = some [(Value.int IntKind.i64 0), Value.nilFunc] ∧ calleeOk X.P 124 = true ∧ fieldsOf X.P 134 = some [(0, 1), (1, 1)] ∧ szOf X.P 134 = some 2 := (by rw [hP]; exact ⟨Ty.ze134, Ty.co124, Ty.fs134, Ty.sz134⟩); intro X1 K1 hU1 hnt1 hbl1 hK1; have hU1P := hU1.P; simp only [GA, ↓GB, List.filterMap_cons, eq_self, BEq.rfl, simprocAttr] at hbl1 ⊢)
        | (refine CallVC.inline (f := 72) ?_ rfl Tryd.ntmps72 rfl ?_ ?_; (focus rw [hP]; exact Tryd.func72); (focus simp); have hT1 : zeroCells X.P 134 = some [(Value.int IntKind.i64 0), Value.nilFunc] ∧ calleeOk X.P 125 = true ∧ fieldsOf X.P 134 = some [(0, 1), (1, 1)] ∧ szOf X.P 134 = some 2 := (by rw [hP]; exact ⟨Ty.ze134, Ty.co125, Ty.fs134, Ty.sz134⟩); intro X1 K1 hU1 hnt1 hbl1 hK1; have hU1P := hU1.P; simp only [GA, ↓GB, List.filterMap_cons, eq_self, BEq.rfl, simprocAttr] at hbl1 ⊢)
        | (refine SX.block ?_)
        | (refine and_mk ?_ ?_; (focus first | decide | omega | rfl | assumption | (simp only [List.length_append, List.length_cons, List.length_nil, B_size]; omega) | (simp; done)))
        | (refine And.intro ?_ ?_))
      all_goals (try refine Done.mk ?_)
      all_goals (refine Imp.le [0, 1, 2, 3, 4, 5, 6, 7, 8] ?_; (refine LeR.of ?_ ?_ ?_ ?_ ?_ ?_ ?_ <;> first | (rw [hbl]; decide) | decide | (simp only [GA, ↓GB, List.filterMap_cons, eq_self, BEq.rfl, simprocAttr, GDs, ren_cond, okB_cond, lren_cond, lokB_cond, map_cond, all_cond, Bool.cond_self, cond_true, cond_false, List.map_append, List.all_append, List.map_cons, List.map_nil, Bool.and_true]; done)))
  simp only [hvC, cond_true, List.nil_append, List.cons_append, GA, ↓GB, List.filterMap_cons, eq_self, BEq.rfl, simprocAttr, hnt, hT, hag]
  repeat' (first
    | (refine SX.seqK ?_; intro N hN)
    | ((first | (refine SX.ops ?_)); simp only [GA, ↓GB, List.filterMap_cons, eq_self, BEq.rfl, simprocAttr, hnt, hT, hag])
    | ((first | refine SX.skip ?_ | refine SX.exit ?_ | refine SX.label ?_); try simp only [GA, ↓GB, List.filterMap_cons, eq_self, BEq.rfl, simprocAttr])
    | (refine SX.cond rfl (fun hb => ?_) (fun hb => ?_) <;> ((first | cases hb | (simp only [decide_eq_true_eq, decide_eq_false_iff_not, beq_iff_eq, beq_eq_false_iff_ne, bne_iff_ne, Bool.and_eq_true, Bool.or_eq_true, Bool.not_eq_true', Bool.not_eq_false', Bool.and_eq_false_iff, Bool.or_eq_false_iff, Int.not_lt, Int.not_le] at hb) | skip) <;> (first | (exfalso; omega) | skip)))
    | (refine SX.ret ?_; try simp only [GA, ↓GB, List.filterMap_cons, eq_self, BEq.rfl, simprocAttr])
    | (refine hN _ ?_; clear hN N)
    | ((first | refine hK _ _ (FinI.ret3 ?_) | refine hK _ _ (FinI.nrm3 ?_)); simp only [GA, ↓GB, List.filterMap_cons, eq_self, BEq.rfl, simprocAttr, finP_s, hnt, hT, hag]; refine Done.out ?_)
    | (clear hN N; first | (refine hN _ ?_; clear hN N) | (clear hN N; first | (refine hN _ ?_; clear hN N) | (clear hN N; first | (refine hN _ ?_; clear hN N) | (clear hN N; first | (refine hN _ ?_; clear hN N) | (clear hN N; first | (refine hN _ ?_; clear hN N) | (refine hN _ ?_; clear hN N))))))
    | (refine bif2.mk (fun hb => ?_) (fun hb => ?_) <;> (try simp only [hb, GA, ↓GB, List.filterMap_cons, eq_self, BEq.rfl, simprocAttr, hnt, hT, hag]) <;> ((first | cases hb | (simp only [decide_eq_true_eq, decide_eq_false_iff_not, beq_iff_eq, beq_eq_false_iff_ne, bne_iff_ne, Bool.and_eq_true, Bool.or_eq_true, Bool.not_eq_true', Bool.not_eq_false', Bool.and_eq_false_iff, Bool.or_eq_false_iff, Int.not_lt, Int.not_le] at hb) | skip) <;> (first | (exfalso; omega) | skip)))
    | ((first | (refine Ctr.use (htk) hP hG [6,7,8,5] ?_ rfl rfl ?_; (focus (refine LeR.of rfl trivial ?_ ?_ ?_ ?_ ?_ <;> first | decide | (simp only [GA, ↓GB, List.filterMap_cons, eq_self, BEq.rfl, simprocAttr, GDs]; done))); intro os' s hR; obtain ⟨rfl, rfl⟩ := hR) | (refine Ctr.use (hbad) hP hG [] ?_ rfl rfl ?_; (focus (refine LeR.of rfl trivial ?_ ?_ ?_ ?_ ?_ <;> first | decide | (simp only [GA, ↓GB, List.filterMap_cons, eq_self, BEq.rfl, simprocAttr, GDs]; done))); intro os' s hR; obtain ⟨rfl, rfl⟩ := hR)); simp only [GA, ↓GB, List.filterMap_cons, eq_self, BEq.rfl, simprocAttr, hnt, hT, hag])
    | (refine SX.block ?_)
    | (refine and_mk ?_ ?_; (focus first | decide | omega | rfl | assumption | (simp only [List.length_append, List.length_cons, List.length_nil, B_size]; omega) | (simp; done)))
    | (refine And.intro ?_ ?_))
  all_goals (try refine Done.mk ?_)
  all_goals (rw [hrow_snoc, Bool.not_not]; (refine hN0 _ _ ⟨[0, 1, 2, 3, 10], _, _, ?_, ?_, ?_, ⟨rfl, rfl⟩⟩; (focus exact LeR.of rfl trivial (by simp only [GA, ↓GB, List.filterMap_cons, eq_self, BEq.rfl, simprocAttr, GDs]) (by decide) rfl rfl rfl); rotate_left; (focus rfl)); rfl)
end Go.Proofs.YtbdacbcpniegiaaDoor
namespace Go.Proofs.YtbdacbcpniegiaaDoor
open Go Go.RowKit Go.Proofs Go.Sx
set_option maxHeartbeats 16000000
set_option maxRecDepth 100000
set_option linter.unusedSimpArgs false
set_option linter.unusedVariables false
theorem srow_snoc (l : List (List UInt8)) (s : List UInt8) : LO.row 9 1 (l.length + 1) ((l.map fun s => Value.string (B s)) ++ [.string (B s)]) = srow (l ++ [s]) := by
  simp only [srow, List.length_append, List.length_cons, List.length_nil, List.map_append, List.map_cons, List.map_nil]
def subC (n k x : Nat) (s : List UInt8) (q : Nat) (sb un : List (List UInt8)) (hv : List HvS) (d : List UInt8) (M : Nat → Bool) : Cfg :=
  ⟨[(12, bif M 8 then .one (.c (.loc 1 3)) else ddd), (11, bif M 7 then .one (.c (.row 7)) else ddd), (10, bif M 6 then .one (.c (.sl 6 0 1 1)) else ddd), (9, bif M 5 then vv (.string (B s)) else ddd), (8, bif M 4 then .one (.c (.loc 5 3)) else ddd), (7, bif M 3 then .one (.c (.row 2)) else ddd), (6, bif M 2 then .one (.c (.loc 1 3)) else ddd), (5, bif M 1 then .one (.c (.loc 1 3)) else ddd), (4, bif M 0 then .one (.c (.loc 1 3)) else ddd), (1, .one (.c (.loc 0 0))), (2, .one (.c (.loc 5 0))), (3, vv (.bool false))],
   [.cells [.loc 1 3] 146, .cells [.v (.int .i64 0), .v (.bool false), .v (.int .u64 q), .row 2, .row 3, .row 4, .v (.string (B d))] 41, (bif M 7 then .gone else srow sb), srow un, hrow hv, .cells [.v (.int .i64 n), .v (.int .i64 k), .v (.int .u64 x), .v (.string (B s))] 143, bif M 6 then .cells [.v (.string (B s))] 9 else .gone, bif M 7 then .row 9 1 (sb.length + 1) ((sb.map fun s => Value.string (B s)) ++ [.string (B s)]) else .gone]⟩
theorem sub_ctr (n k x : Nat) (s : List UInt8) (q : Nat) (sb un : List (List UInt8)) (hv : List HvS) (d : List UInt8) (hl : sb.length ≤ 1099511627776) :
    Ctr Tryd.prog [] 129 [.cells [.loc 1 3] 146, .cells [.v (.int .i64 0), .v (.bool false), .v (.int .u64 q), .row 2, .row 3, .row 4, .v (.string (B d))] 41, srow sb, srow un, hrow hv] [.one (.agg [.v (.int .i64 n), .v (.int .i64 k), .v (.int .u64 x), .v (.string (B s))]), .one (.c (.loc 0 0))]
      (fun os v => os = [.cells [.loc 1 3] 146, .cells [.v (.int .i64 0), .v (.bool false), .v (.int .u64 q), .row 5, .row 3, .row 4, .v (.string (B d))] 41, .gone, srow un, hrow hv, srow (sb ++ [s])] ∧ v = vv (.bool true)) := by
  refine Ctr.less ?_
  intro X0 hP0 hG0 N0 hN0
  refine CallVC.inline (f := 129) (by rw [hP0]; exact Tryd.func129) rfl Tryd.ntmps129 rfl (by simp) ?_
  intro X K hU hnt hbl hK
  have hP : X.P = Tryd.prog := by rw [hU.P, hP0]
  have hG := hG0.under hU
  have hT : aggOf X.P 146 = some false ∧ szOf X.P 146 = some 1 ∧ aggOf X.P 38 = some false ∧ szOf X.P 38 = some 1 ∧ fieldOff X.P 143 3 = some 3 ∧ aggOf X.P 9 = some false ∧ szOf X.P 9 = some 1 ∧ elemSz X.P 38 = some (9, 1) ∧ zeroCells X.P 9 = some [(Value.string { data := #[] })] ∧ elemInf X.P 38 = some (9, 1, 16, (Value.string { data := #[] })) ∧ isStrT X.P 38 = false := by rw [hP]; exact ⟨Ty.ag146, Ty.sz146, Ty.ag38, Ty.sz38, Ty.fo143_3, Ty.ag9, Ty.sz9, Ty.el38, Ty.ze9, Ty.ei38, Ty.is38⟩
  simp only [GA, ↓GB, List.filterMap_cons, eq_self, BEq.rfl, simprocAttr] at hbl ⊢
  repeat' (first
    | (refine SX.seqK ?_; intro N hN)
    | ((first | (refine SX.ops ?_)); simp only [GA, ↓GB, List.filterMap_cons, eq_self, BEq.rfl, simprocAttr, hnt, hT])
    | ((first | refine SX.skip ?_ | refine SX.exit ?_ | refine SX.label ?_); try simp only [GA, ↓GB, List.filterMap_cons, eq_self, BEq.rfl, simprocAttr])
    | (refine SX.cond rfl (fun hb => ?_) (fun hb => ?_) <;> ((first | cases hb | (simp only [decide_eq_true_eq, decide_eq_false_iff_not, beq_iff_eq, beq_eq_false_iff_ne, bne_iff_ne, Bool.and_eq_true, Bool.or_eq_true, Bool.not_eq_true', Bool.not_eq_false', Bool.and_eq_false_iff, Bool.or_eq_false_iff, Int.not_lt, Int.not_le] at hb) | skip) <;> (first | (exfalso; omega) | skip)))
    | (refine SX.ret ?_; try simp only [GA, ↓GB, List.filterMap_cons, eq_self, BEq.rfl, simprocAttr])
    | (refine hN _ ?_; clear hN N)
    | ((first | refine hK _ _ (FinI.ret3 ?_) | refine hK _ _ (FinI.nrm3 ?_)); simp only [GA, ↓GB, List.filterMap_cons, eq_self, BEq.rfl, simprocAttr, finP_s, hnt, hT]; refine Done.out ?_)
    | (clear hN N; first | (refine hN _ ?_; clear hN N) | (clear hN N; first | (refine hN _ ?_; clear hN N) | (clear hN N; first | (refine hN _ ?_; clear hN N) | (clear hN N; first | (refine hN _ ?_; clear hN N) | (clear hN N; first | (refine hN _ ?_; clear hN N) | (refine hN _ ?_; clear hN N))))))
    | (refine bif2.mk (fun hb => ?_) (fun hb => ?_) <;> (try simp only [hb, GA, ↓GB, List.filterMap_cons, eq_self, BEq.rfl, simprocAttr, hnt, hT]) <;> ((first | cases hb | (simp only [decide_eq_true_eq, decide_eq_false_iff_not, beq_iff_eq, beq_eq_false_iff_ne, bne_iff_ne, Bool.and_eq_true, Bool.or_eq_true, Bool.not_eq_true', Bool.not_eq_false', Bool.and_eq_false_iff, Bool.or_eq_false_iff, Int.not_lt, Int.not_le] at hb) | skip) <;> (first | (exfalso; omega) | skip)))
    | (refine SX.block ?_)
    | (refine and_mk ?_ ?_; (focus first | decide | omega | rfl | assumption | (simp only [List.length_append, List.length_cons, List.length_nil, B_size]; omega) | (simp; done)))
    | (refine And.intro ?_ ?_))
  all_goals (try refine Done.mk ?_)
  refine SX.dia (id := 1) [0, 1, 2, 3, 4, 5, 6, 7, 8] (subC n k x s q sb un hv d) [.s 9] (subC n k x s q sb un hv d (fun _ => true)) ?_ ?_ ?_ ?_ rfl ?_
  · rw [hP]; kernel_rfl
  · kernel_rfl
  · refine Imp.trans (Imp.le [0, 1, 2, 3, 4, 5] (d := ⟨[(1, .one (.c (.loc 0 0))), (2, .one (.c (.loc 5 0))), (3, vv (.bool false))], [.cells [.loc 1 3] 146, .cells [.v (.int .i64 0), .v (.bool false), .v (.int .u64 q), .row 2, .row 3, .row 4, .v (.string (B d))] 41, srow sb, srow un, hrow hv, .cells [.v (.int .i64 n), .v (.int .i64 k), .v (.int .u64 x), .v (.string (B s))] 143]⟩) (by (refine LeR.of ?_ ?_ ?_ ?_ ?_ ?_ ?_ <;> first | (rw [hbl]; decide) | decide | (simp only [GA, ↓GB, List.filterMap_cons, eq_self, BEq.rfl, simprocAttr, GDs]; done) | (simp only [GA, ↓GB, List.filterMap_cons, eq_self, BEq.rfl, simprocAttr, GDs]; rfl; done)))) ?_
    refine Imp.trans (Imp.dead (t := 4) (by rw [hnt]; decide)) ?_
    refine Imp.trans (Imp.dead (t := 5) (by rw [hnt]; decide)) ?_
    refine Imp.trans (Imp.dead (t := 6) (by rw [hnt]; decide)) ?_
    refine Imp.trans (Imp.dead (t := 7) (by rw [hnt]; decide)) ?_
    refine Imp.trans (Imp.dead (t := 8) (by rw [hnt]; decide)) ?_
    refine Imp.trans (Imp.dead (t := 9) (by rw [hnt]; decide)) ?_
    refine Imp.trans (Imp.dead (t := 10) (by rw [hnt]; decide)) ?_
    refine Imp.trans (Imp.dead (t := 11) (by rw [hnt]; decide)) ?_
    refine Imp.trans (Imp.dead (t := 12) (by rw [hnt]; decide)) ?_
    refine Imp.trans Imp.gone ?_
    refine Imp.trans Imp.gone ?_
    exact Imp.refl
  · rintro M i hi hd
    simp only [List.mem_cons, List.not_mem_nil, or_false] at hi
    rcases hi with rfl | rfl | rfl | rfl | rfl | rfl | rfl | rfl | rfl
    · have n8 : M 8 = false := dNot hd rfl (Array.mem_of_getElem? (i := 0) rfl) rfl hd.un
      have hun := hd.un
      refine ⟨_, rfl, rfl, ?_⟩
      simp only [subC, upd, ↓reduceIte, Nat.reduceEqDiff, reduceCtorEq, hun, n8, ren_cond, okB_cond, lren_cond, lokB_cond, map_cond, all_cond, Bool.cond_self, cond_true, cond_false, List.map_append, List.all_append, List.map_cons, List.map_nil, Bool.and_true, List.nil_append, List.cons_append, simprocAttr]
      refine vcOp_sound ?_
      simp only [GA, ↓GB, List.filterMap_cons, eq_self, BEq.rfl, simprocAttr, hnt, hT]
      repeat' (first
        | (refine SX.seqK ?_; intro N hN)
        | ((first | (refine SX.ops ?_)); simp only [GA, ↓GB, List.filterMap_cons, eq_self, BEq.rfl, simprocAttr, hnt, hT])
        | ((first | refine SX.skip ?_ | refine SX.exit ?_ | refine SX.label ?_); try simp only [GA, ↓GB, List.filterMap_cons, eq_self, BEq.rfl, simprocAttr])
        | (refine SX.cond rfl (fun hb => ?_) (fun hb => ?_) <;> ((first | cases hb | (simp only [decide_eq_true_eq, decide_eq_false_iff_not, beq_iff_eq, beq_eq_false_iff_ne, bne_iff_ne, Bool.and_eq_true, Bool.or_eq_true, Bool.not_eq_true', Bool.not_eq_false', Bool.and_eq_false_iff, Bool.or_eq_false_iff, Int.not_lt, Int.not_le] at hb) | skip) <;> (first | (exfalso; omega) | skip)))
        | (refine SX.ret ?_; try simp only [GA, ↓GB, List.filterMap_cons, eq_self, BEq.rfl, simprocAttr])
        | (refine hN _ ?_; clear hN N)
        | ((first | refine hK _ _ (FinI.ret3 ?_) | refine hK _ _ (FinI.nrm3 ?_)); simp only [GA, ↓GB, List.filterMap_cons, eq_self, BEq.rfl, simprocAttr, finP_s, hnt, hT]; refine Done.out ?_)
        | (clear hN N; first | (refine hN _ ?_; clear hN N) | (clear hN N; first | (refine hN _ ?_; clear hN N) | (clear hN N; first | (refine hN _ ?_; clear hN N) | (clear hN N; first | (refine hN _ ?_; clear hN N) | (clear hN N; first | (refine hN _ ?_; clear hN N) | (refine hN _ ?_; clear hN N))))))
        | (refine bif2.mk (fun hb => ?_) (fun hb => ?_) <;> (try simp only [hb, GA, ↓GB, List.filterMap_cons, eq_self, BEq.rfl, simprocAttr, hnt, hT]) <;> ((first | cases hb | (simp only [decide_eq_true_eq, decide_eq_false_iff_not, beq_iff_eq, beq_eq_false_iff_ne, bne_iff_ne, Bool.and_eq_true, Bool.or_eq_true, Bool.not_eq_true', Bool.not_eq_false', Bool.and_eq_false_iff, Bool.or_eq_false_iff, Int.not_lt, Int.not_le] at hb) | skip) <;> (first | (exfalso; omega) | skip)))
        | (refine SX.block ?_)
        | (refine and_mk ?_ ?_; (focus first | decide | omega | rfl | assumption | (simp only [List.length_append, List.length_cons, List.length_nil, B_size]; omega) | (simp; done)))
        | (refine And.intro ?_ ?_))
      all_goals (try refine Done.mk ?_)
      all_goals (refine Imp.le [0, 1, 2, 3, 4, 5, 6, 7] ?_; (refine LeR.of ?_ ?_ ?_ ?_ ?_ ?_ ?_ <;> first | (rw [hbl]; decide) | decide | (simp only [GA, ↓GB, List.filterMap_cons, eq_self, BEq.rfl, simprocAttr, GDs, ren_cond, okB_cond, lren_cond, lokB_cond, map_cond, all_cond, Bool.cond_self, cond_true, cond_false, List.map_append, List.all_append, List.map_cons, List.map_nil, Bool.and_true]; done)))
    · have n2 : M 2 = false := dNot hd rfl (Array.mem_of_getElem? (i := 0) rfl) rfl hd.un
      have n3 : M 3 = false := dNot hd rfl (Array.mem_of_getElem? (i := 0) rfl) rfl n2
      have n7 : M 7 = false := dNot hd rfl (Array.mem_of_getElem? (i := 0) rfl) rfl n3
      have n8 : M 8 = false := dNot hd rfl (Array.mem_of_getElem? (i := 2) rfl) rfl hd.un
      have hun := hd.un
      refine ⟨_, rfl, rfl, ?_⟩
      simp only [subC, upd, ↓reduceIte, Nat.reduceEqDiff, reduceCtorEq, hun, n2, n3, n7, n8, ren_cond, okB_cond, lren_cond, lokB_cond, map_cond, all_cond, Bool.cond_self, cond_true, cond_false, List.map_append, List.all_append, List.map_cons, List.map_nil, Bool.and_true, List.nil_append, List.cons_append, simprocAttr]
      refine vcOp_sound ?_
      simp only [GA, ↓GB, List.filterMap_cons, eq_self, BEq.rfl, simprocAttr, hnt, hT]
      repeat' (first
        | (refine SX.seqK ?_; intro N hN)
        | ((first | (refine SX.ops ?_)); simp only [GA, ↓GB, List.filterMap_cons, eq_self, BEq.rfl, simprocAttr, hnt, hT])
        | ((first | refine SX.skip ?_ | refine SX.exit ?_ | refine SX.label ?_); try simp only [GA, ↓GB, List.filterMap_cons, eq_self, BEq.rfl, simprocAttr])
        | (refine SX.cond rfl (fun hb => ?_) (fun hb => ?_) <;> ((first | cases hb | (simp only [decide_eq_true_eq, decide_eq_false_iff_not, beq_iff_eq, beq_eq_false_iff_ne, bne_iff_ne, Bool.and_eq_true, Bool.or_eq_true, Bool.not_eq_true', Bool.not_eq_false', Bool.and_eq_false_iff, Bool.or_eq_false_iff, Int.not_lt, Int.not_le] at hb) | skip) <;> (first | (exfalso; omega) | skip)))
        | (refine SX.ret ?_; try simp only [GA, ↓GB, List.filterMap_cons, eq_self, BEq.rfl, simprocAttr])
        | (refine hN _ ?_; clear hN N)
        | ((first | refine hK _ _ (FinI.ret3 ?_) | refine hK _ _ (FinI.nrm3 ?_)); simp only [GA, ↓GB, List.filterMap_cons, eq_self, BEq.rfl, simprocAttr, finP_s, hnt, hT]; refine Done.out ?_)
        | (clear hN N; first | (refine hN _ ?_; clear hN N) | (clear hN N; first | (refine hN _ ?_; clear hN N) | (clear hN N; first | (refine hN _ ?_; clear hN N) | (clear hN N; first | (refine hN _ ?_; clear hN N) | (clear hN N; first | (refine hN _ ?_; clear hN N) | (refine hN _ ?_; clear hN N))))))
        | (refine bif2.mk (fun hb => ?_) (fun hb => ?_) <;> (try simp only [hb, GA, ↓GB, List.filterMap_cons, eq_self, BEq.rfl, simprocAttr, hnt, hT]) <;> ((first | cases hb | (simp only [decide_eq_true_eq, decide_eq_false_iff_not, beq_iff_eq, beq_eq_false_iff_ne, bne_iff_ne, Bool.and_eq_true, Bool.or_eq_true, Bool.not_eq_true', Bool.not_eq_false', Bool.and_eq_false_iff, Bool.or_eq_false_iff, Int.not_lt, Int.not_le] at hb) | skip) <;> (first | (exfalso; omega) | skip)))
        | (refine SX.block ?_)
        | (refine and_mk ?_ ?_; (focus first | decide | omega | rfl | assumption | (simp only [List.length_append, List.length_cons, List.length_nil, B_size]; omega) | (simp; done)))
        | (refine And.intro ?_ ?_))
      all_goals (try refine Done.mk ?_)
      all_goals (refine Imp.le [0, 1, 2, 3, 4, 5, 6, 7] ?_; (refine LeR.of ?_ ?_ ?_ ?_ ?_ ?_ ?_ <;> first | (rw [hbl]; decide) | decide | (simp only [GA, ↓GB, List.filterMap_cons, eq_self, BEq.rfl, simprocAttr, GDs, ren_cond, okB_cond, lren_cond, lokB_cond, map_cond, all_cond, Bool.cond_self, cond_true, cond_false, List.map_append, List.all_append, List.map_cons, List.map_nil, Bool.and_true]; done)))
    · have m1 : M 1 = true := hd.dep _ rfl _ (Array.mem_of_getElem? (i := 0) rfl) rfl
      have n3 : M 3 = false := dNot hd rfl (Array.mem_of_getElem? (i := 0) rfl) rfl hd.un
      have n7 : M 7 = false := dNot hd rfl (Array.mem_of_getElem? (i := 0) rfl) rfl n3
      have n8 : M 8 = false := dNot hd rfl (Array.mem_of_getElem? (i := 3) rfl) rfl hd.un
      have hun := hd.un
      refine ⟨_, rfl, rfl, ?_⟩
      simp only [subC, upd, ↓reduceIte, Nat.reduceEqDiff, reduceCtorEq, hun, m1, n3, n7, n8, ren_cond, okB_cond, lren_cond, lokB_cond, map_cond, all_cond, Bool.cond_self, cond_true, cond_false, List.map_append, List.all_append, List.map_cons, List.map_nil, Bool.and_true, List.nil_append, List.cons_append, simprocAttr]
      refine vcOp_sound ?_
      simp only [GA, ↓GB, List.filterMap_cons, eq_self, BEq.rfl, simprocAttr, hnt, hT]
      repeat' (first
        | (refine SX.seqK ?_; intro N hN)
        | ((first | (refine SX.ops ?_)); simp only [GA, ↓GB, List.filterMap_cons, eq_self, BEq.rfl, simprocAttr, hnt, hT])
        | ((first | refine SX.skip ?_ | refine SX.exit ?_ | refine SX.label ?_); try simp only [GA, ↓GB, List.filterMap_cons, eq_self, BEq.rfl, simprocAttr])
        | (refine SX.cond rfl (fun hb => ?_) (fun hb => ?_) <;> ((first | cases hb | (simp only [decide_eq_true_eq, decide_eq_false_iff_not, beq_iff_eq, beq_eq_false_iff_ne, bne_iff_ne, Bool.and_eq_true, Bool.or_eq_true, Bool.not_eq_true', Bool.not_eq_false', Bool.and_eq_false_iff, Bool.or_eq_false_iff, Int.not_lt, Int.not_le] at hb) | skip) <;> (first | (exfalso; omega) | skip)))
        | (refine SX.ret ?_; try simp only [GA, ↓GB, List.filterMap_cons, eq_self, BEq.rfl, simprocAttr])
        | (refine hN _ ?_; clear hN N)
        | ((first | refine hK _ _ (FinI.ret3 ?_) | refine hK _ _ (FinI.nrm3 ?_)); simp only [GA, ↓GB, List.filterMap_cons, eq_self, BEq.rfl, simprocAttr, finP_s, hnt, hT]; refine Done.out ?_)
        | (clear hN N; first | (refine hN _ ?_; clear hN N) | (clear hN N; first | (refine hN _ ?_; clear hN N) | (clear hN N; first | (refine hN _ ?_; clear hN N) | (clear hN N; first | (refine hN _ ?_; clear hN N) | (clear hN N; first | (refine hN _ ?_; clear hN N) | (refine hN _ ?_; clear hN N))))))
        | (refine bif2.mk (fun hb => ?_) (fun hb => ?_) <;> (try simp only [hb, GA, ↓GB, List.filterMap_cons, eq_self, BEq.rfl, simprocAttr, hnt, hT]) <;> ((first | cases hb | (simp only [decide_eq_true_eq, decide_eq_false_iff_not, beq_iff_eq, beq_eq_false_iff_ne, bne_iff_ne, Bool.and_eq_true, Bool.or_eq_true, Bool.not_eq_true', Bool.not_eq_false', Bool.and_eq_false_iff, Bool.or_eq_false_iff, Int.not_lt, Int.not_le] at hb) | skip) <;> (first | (exfalso; omega) | skip)))
        | (refine SX.block ?_)
        | (refine and_mk ?_ ?_; (focus first | decide | omega | rfl | assumption | (simp only [List.length_append, List.length_cons, List.length_nil, B_size]; omega) | (simp; done)))
        | (refine And.intro ?_ ?_))
      all_goals (try refine Done.mk ?_)
      all_goals (refine Imp.le [0, 1, 2, 3, 4, 5, 6, 7] ?_; (refine LeR.of ?_ ?_ ?_ ?_ ?_ ?_ ?_ <;> first | (rw [hbl]; decide) | decide | (simp only [GA, ↓GB, List.filterMap_cons, eq_self, BEq.rfl, simprocAttr, GDs, ren_cond, okB_cond, lren_cond, lokB_cond, map_cond, all_cond, Bool.cond_self, cond_true, cond_false, List.map_append, List.all_append, List.map_cons, List.map_nil, Bool.and_true]; done)))
    · have m2 : M 2 = true := hd.dep _ rfl _ (Array.mem_of_getElem? (i := 0) rfl) rfl
      have n7 : M 7 = false := dNot hd rfl (Array.mem_of_getElem? (i := 0) rfl) rfl hd.un
      have n8 : M 8 = false := dNot hd rfl (Array.mem_of_getElem? (i := 4) rfl) rfl hd.un
      have hun := hd.un
      refine ⟨_, rfl, rfl, ?_⟩
      simp only [subC, upd, ↓reduceIte, Nat.reduceEqDiff, reduceCtorEq, hun, m2, n7, n8, ren_cond, okB_cond, lren_cond, lokB_cond, map_cond, all_cond, Bool.cond_self, cond_true, cond_false, List.map_append, List.all_append, List.map_cons, List.map_nil, Bool.and_true, List.nil_append, List.cons_append, simprocAttr]
      refine vcOp_sound ?_
      simp only [GA, ↓GB, List.filterMap_cons, eq_self, BEq.rfl, simprocAttr, hnt, hT]
      repeat' (first
        | (refine SX.seqK ?_; intro N hN)
        | ((first | (refine SX.ops ?_)); simp only [GA, ↓GB, List.filterMap_cons, eq_self, BEq.rfl, simprocAttr, hnt, hT])
        | ((first | refine SX.skip ?_ | refine SX.exit ?_ | refine SX.label ?_); try simp only [GA, ↓GB, List.filterMap_cons, eq_self, BEq.rfl, simprocAttr])
        | (refine SX.cond rfl (fun hb => ?_) (fun hb => ?_) <;> ((first | cases hb | (simp only [decide_eq_true_eq, decide_eq_false_iff_not, beq_iff_eq, beq_eq_false_iff_ne, bne_iff_ne, Bool.and_eq_true, Bool.or_eq_true, Bool.not_eq_true', Bool.not_eq_false', Bool.and_eq_false_iff, Bool.or_eq_false_iff, Int.not_lt, Int.not_le] at hb) | skip) <;> (first | (exfalso; omega) | skip)))
        | (refine SX.ret ?_; try simp only [GA, ↓GB, List.filterMap_cons, eq_self, BEq.rfl, simprocAttr])
        | (refine hN _ ?_; clear hN N)
        | ((first | refine hK _ _ (FinI.ret3 ?_) | refine hK _ _ (FinI.nrm3 ?_)); simp only [GA, ↓GB, List.filterMap_cons, eq_self, BEq.rfl, simprocAttr, finP_s, hnt, hT]; refine Done.out ?_)
        | (clear hN N; first | (refine hN _ ?_; clear hN N) | (clear hN N; first | (refine hN _ ?_; clear hN N) | (clear hN N; first | (refine hN _ ?_; clear hN N) | (clear hN N; first | (refine hN _ ?_; clear hN N) | (clear hN N; first | (refine hN _ ?_; clear hN N) | (refine hN _ ?_; clear hN N))))))
        | (refine bif2.mk (fun hb => ?_) (fun hb => ?_) <;> (try simp only [hb, GA, ↓GB, List.filterMap_cons, eq_self, BEq.rfl, simprocAttr, hnt, hT]) <;> ((first | cases hb | (simp only [decide_eq_true_eq, decide_eq_false_iff_not, beq_iff_eq, beq_eq_false_iff_ne, bne_iff_ne, Bool.and_eq_true, Bool.or_eq_true, Bool.not_eq_true', Bool.not_eq_false', Bool.and_eq_false_iff, Bool.or_eq_false_iff, Int.not_lt, Int.not_le] at hb) | skip) <;> (first | (exfalso; omega) | skip)))
        | (refine SX.block ?_)
        | (refine and_mk ?_ ?_; (focus first | decide | omega | rfl | assumption | (simp only [List.length_append, List.length_cons, List.length_nil, B_size]; omega) | (simp; done)))
        | (refine And.intro ?_ ?_))
      all_goals (try refine Done.mk ?_)
      all_goals (refine Imp.le [0, 1, 2, 3, 4, 5, 6, 7] ?_; (refine LeR.of ?_ ?_ ?_ ?_ ?_ ?_ ?_ <;> first | (rw [hbl]; decide) | decide | (simp only [GA, ↓GB, List.filterMap_cons, eq_self, BEq.rfl, simprocAttr, GDs, ren_cond, okB_cond, lren_cond, lokB_cond, map_cond, all_cond, Bool.cond_self, cond_true, cond_false, List.map_append, List.all_append, List.map_cons, List.map_nil, Bool.and_true]; done)))
    · have n5 : M 5 = false := dNot hd rfl (Array.mem_of_getElem? (i := 0) rfl) rfl hd.un
      have n6 : M 6 = false := dNot hd rfl (Array.mem_of_getElem? (i := 0) rfl) rfl n5
      have n7 : M 7 = false := dNot hd rfl (Array.mem_of_getElem? (i := 1) rfl) rfl n6
      have n8 : M 8 = false := dNot hd rfl (Array.mem_of_getElem? (i := 5) rfl) rfl hd.un
      have hun := hd.un
      refine ⟨_, rfl, rfl, ?_⟩
      simp only [subC, upd, ↓reduceIte, Nat.reduceEqDiff, reduceCtorEq, hun, n5, n6, n7, n8, ren_cond, okB_cond, lren_cond, lokB_cond, map_cond, all_cond, Bool.cond_self, cond_true, cond_false, List.map_append, List.all_append, List.map_cons, List.map_nil, Bool.and_true, List.nil_append, List.cons_append, simprocAttr]
      refine vcOp_sound ?_
      simp only [GA, ↓GB, List.filterMap_cons, eq_self, BEq.rfl, simprocAttr, hnt, hT]
      repeat' (first
        | (refine SX.seqK ?_; intro N hN)
        | ((first | (refine SX.ops ?_)); simp only [GA, ↓GB, List.filterMap_cons, eq_self, BEq.rfl, simprocAttr, hnt, hT])
        | ((first | refine SX.skip ?_ | refine SX.exit ?_ | refine SX.label ?_); try simp only [GA, ↓GB, List.filterMap_cons, eq_self, BEq.rfl, simprocAttr])
        | (refine SX.cond rfl (fun hb => ?_) (fun hb => ?_) <;> ((first | cases hb | (simp only [decide_eq_true_eq, decide_eq_false_iff_not, beq_iff_eq, beq_eq_false_iff_ne, bne_iff_ne, Bool.and_eq_true, Bool.or_eq_true, Bool.not_eq_true', Bool.not_eq_false', Bool.and_eq_false_iff, Bool.or_eq_false_iff, Int.not_lt, Int.not_le] at hb) | skip) <;> (first | (exfalso; omega) | skip)))
        | (refine SX.ret ?_; try simp only [GA, ↓GB, List.filterMap_cons, eq_self, BEq.rfl, simprocAttr])
        | (refine hN _ ?_; clear hN N)
        | ((first | refine hK _ _ (FinI.ret3 ?_) | refine hK _ _ (FinI.nrm3 ?_)); simp only [GA, ↓GB, List.filterMap_cons, eq_self, BEq.rfl, simprocAttr, finP_s, hnt, hT]; refine Done.out ?_)
        | (clear hN N; first | (refine hN _ ?_; clear hN N) | (clear hN N; first | (refine hN _ ?_; clear hN N) | (clear hN N; first | (refine hN _ ?_; clear hN N) | (clear hN N; first | (refine hN _ ?_; clear hN N) | (clear hN N; first | (refine hN _ ?_; clear hN N) | (refine hN _ ?_; clear hN N))))))
        | (refine bif2.mk (fun hb => ?_) (fun hb => ?_) <;> (try simp only [hb, GA, ↓GB, List.filterMap_cons, eq_self, BEq.rfl, simprocAttr, hnt, hT]) <;> ((first | cases hb | (simp only [decide_eq_true_eq, decide_eq_false_iff_not, beq_iff_eq, beq_eq_false_iff_ne, bne_iff_ne, Bool.and_eq_true, Bool.or_eq_true, Bool.not_eq_true', Bool.not_eq_false', Bool.and_eq_false_iff, Bool.or_eq_false_iff, Int.not_lt, Int.not_le] at hb) | skip) <;> (first | (exfalso; omega) | skip)))
        | (refine SX.block ?_)
        | (refine and_mk ?_ ?_; (focus first | decide | omega | rfl | assumption | (simp only [List.length_append, List.length_cons, List.length_nil, B_size]; omega) | (simp; done)))
        | (refine And.intro ?_ ?_))
      all_goals (try refine Done.mk ?_)
      all_goals (refine Imp.le [0, 1, 2, 3, 4, 5, 6, 7] ?_; (refine LeR.of ?_ ?_ ?_ ?_ ?_ ?_ ?_ <;> first | (rw [hbl]; decide) | decide | (simp only [GA, ↓GB, List.filterMap_cons, eq_self, BEq.rfl, simprocAttr, GDs, ren_cond, okB_cond, lren_cond, lokB_cond, map_cond, all_cond, Bool.cond_self, cond_true, cond_false, List.map_append, List.all_append, List.map_cons, List.map_nil, Bool.and_true]; done)))
    · have m4 : M 4 = true := hd.dep _ rfl _ (Array.mem_of_getElem? (i := 0) rfl) rfl
      have n6 : M 6 = false := dNot hd rfl (Array.mem_of_getElem? (i := 0) rfl) rfl hd.un
      have n7 : M 7 = false := dNot hd rfl (Array.mem_of_getElem? (i := 1) rfl) rfl n6
      have n8 : M 8 = false := dNot hd rfl (Array.mem_of_getElem? (i := 6) rfl) rfl hd.un
      have hun := hd.un
      refine ⟨_, rfl, rfl, ?_⟩
      simp only [subC, upd, ↓reduceIte, Nat.reduceEqDiff, reduceCtorEq, hun, m4, n6, n7, n8, ren_cond, okB_cond, lren_cond, lokB_cond, map_cond, all_cond, Bool.cond_self, cond_true, cond_false, List.map_append, List.all_append, List.map_cons, List.map_nil, Bool.and_true, List.nil_append, List.cons_append, simprocAttr]
      refine vcOp_sound ?_
      simp only [GA, ↓GB, List.filterMap_cons, eq_self, BEq.rfl, simprocAttr, hnt, hT]
      repeat' (first
        | (refine SX.seqK ?_; intro N hN)
        | ((first | (refine SX.ops ?_)); simp only [GA, ↓GB, List.filterMap_cons, eq_self, BEq.rfl, simprocAttr, hnt, hT])
        | ((first | refine SX.skip ?_ | refine SX.exit ?_ | refine SX.label ?_); try simp only [GA, ↓GB, List.filterMap_cons, eq_self, BEq.rfl, simprocAttr])
        | (refine SX.cond rfl (fun hb => ?_) (fun hb => ?_) <;> ((first | cases hb | (simp only [decide_eq_true_eq, decide_eq_false_iff_not, beq_iff_eq, beq_eq_false_iff_ne, bne_iff_ne, Bool.and_eq_true, Bool.or_eq_true, Bool.not_eq_true', Bool.not_eq_false', Bool.and_eq_false_iff, Bool.or_eq_false_iff, Int.not_lt, Int.not_le] at hb) | skip) <;> (first | (exfalso; omega) | skip)))
        | (refine SX.ret ?_; try simp only [GA, ↓GB, List.filterMap_cons, eq_self, BEq.rfl, simprocAttr])
        | (refine hN _ ?_; clear hN N)
        | ((first | refine hK _ _ (FinI.ret3 ?_) | refine hK _ _ (FinI.nrm3 ?_)); simp only [GA, ↓GB, List.filterMap_cons, eq_self, BEq.rfl, simprocAttr, finP_s, hnt, hT]; refine Done.out ?_)
        | (clear hN N; first | (refine hN _ ?_; clear hN N) | (clear hN N; first | (refine hN _ ?_; clear hN N) | (clear hN N; first | (refine hN _ ?_; clear hN N) | (clear hN N; first | (refine hN _ ?_; clear hN N) | (clear hN N; first | (refine hN _ ?_; clear hN N) | (refine hN _ ?_; clear hN N))))))
        | (refine bif2.mk (fun hb => ?_) (fun hb => ?_) <;> (try simp only [hb, GA, ↓GB, List.filterMap_cons, eq_self, BEq.rfl, simprocAttr, hnt, hT]) <;> ((first | cases hb | (simp only [decide_eq_true_eq, decide_eq_false_iff_not, beq_iff_eq, beq_eq_false_iff_ne, bne_iff_ne, Bool.and_eq_true, Bool.or_eq_true, Bool.not_eq_true', Bool.not_eq_false', Bool.and_eq_false_iff, Bool.or_eq_false_iff, Int.not_lt, Int.not_le] at hb) | skip) <;> (first | (exfalso; omega) | skip)))
        | (refine SX.block ?_)
        | (refine and_mk ?_ ?_; (focus first | decide | omega | rfl | assumption | (simp only [List.length_append, List.length_cons, List.length_nil, B_size]; omega) | (simp; done)))
        | (refine And.intro ?_ ?_))
      all_goals (try refine Done.mk ?_)
      all_goals (refine Imp.le [0, 1, 2, 3, 4, 5, 6, 7] ?_; (refine LeR.of ?_ ?_ ?_ ?_ ?_ ?_ ?_ <;> first | (rw [hbl]; decide) | decide | (simp only [GA, ↓GB, List.filterMap_cons, eq_self, BEq.rfl, simprocAttr, GDs, ren_cond, okB_cond, lren_cond, lokB_cond, map_cond, all_cond, Bool.cond_self, cond_true, cond_false, List.map_append, List.all_append, List.map_cons, List.map_nil, Bool.and_true]; done)))
    · have m5 : M 5 = true := hd.dep _ rfl _ (Array.mem_of_getElem? (i := 0) rfl) rfl
      have n7 : M 7 = false := dNot hd rfl (Array.mem_of_getElem? (i := 1) rfl) rfl hd.un
      have n8 : M 8 = false := dNot hd rfl (Array.mem_of_getElem? (i := 7) rfl) rfl hd.un
      have hun := hd.un
      refine ⟨_, rfl, rfl, ?_⟩
      simp only [subC, upd, ↓reduceIte, Nat.reduceEqDiff, reduceCtorEq, hun, m5, n7, n8, ren_cond, okB_cond, lren_cond, lokB_cond, map_cond, all_cond, Bool.cond_self, cond_true, cond_false, List.map_append, List.all_append, List.map_cons, List.map_nil, Bool.and_true, List.nil_append, List.cons_append, simprocAttr]
      refine vcOp_sound ?_
      simp only [GA, ↓GB, List.filterMap_cons, eq_self, BEq.rfl, simprocAttr, hnt, hT]
      repeat' (first
        | (refine SX.seqK ?_; intro N hN)
        | ((first | (refine SX.ops ?_)); simp only [GA, ↓GB, List.filterMap_cons, eq_self, BEq.rfl, simprocAttr, hnt, hT])
        | ((first | refine SX.skip ?_ | refine SX.exit ?_ | refine SX.label ?_); try simp only [GA, ↓GB, List.filterMap_cons, eq_self, BEq.rfl, simprocAttr])
        | (refine SX.cond rfl (fun hb => ?_) (fun hb => ?_) <;> ((first | cases hb | (simp only [decide_eq_true_eq, decide_eq_false_iff_not, beq_iff_eq, beq_eq_false_iff_ne, bne_iff_ne, Bool.and_eq_true, Bool.or_eq_true, Bool.not_eq_true', Bool.not_eq_false', Bool.and_eq_false_iff, Bool.or_eq_false_iff, Int.not_lt, Int.not_le] at hb) | skip) <;> (first | (exfalso; omega) | skip)))
        | (refine SX.ret ?_; try simp only [GA, ↓GB, List.filterMap_cons, eq_self, BEq.rfl, simprocAttr])
        | (refine hN _ ?_; clear hN N)
        | ((first | refine hK _ _ (FinI.ret3 ?_) | refine hK _ _ (FinI.nrm3 ?_)); simp only [GA, ↓GB, List.filterMap_cons, eq_self, BEq.rfl, simprocAttr, finP_s, hnt, hT]; refine Done.out ?_)
        | (clear hN N; first | (refine hN _ ?_; clear hN N) | (clear hN N; first | (refine hN _ ?_; clear hN N) | (clear hN N; first | (refine hN _ ?_; clear hN N) | (clear hN N; first | (refine hN _ ?_; clear hN N) | (clear hN N; first | (refine hN _ ?_; clear hN N) | (refine hN _ ?_; clear hN N))))))
        | (refine bif2.mk (fun hb => ?_) (fun hb => ?_) <;> (try simp only [hb, GA, ↓GB, List.filterMap_cons, eq_self, BEq.rfl, simprocAttr, hnt, hT]) <;> ((first | cases hb | (simp only [decide_eq_true_eq, decide_eq_false_iff_not, beq_iff_eq, beq_eq_false_iff_ne, bne_iff_ne, Bool.and_eq_true, Bool.or_eq_true, Bool.not_eq_true', Bool.not_eq_false', Bool.and_eq_false_iff, Bool.or_eq_false_iff, Int.not_lt, Int.not_le] at hb) | skip) <;> (first | (exfalso; omega) | skip)))
        | (refine SX.block ?_)
        | (refine and_mk ?_ ?_; (focus first | decide | omega | rfl | assumption | (simp only [List.length_append, List.length_cons, List.length_nil, B_size]; omega) | (simp; done)))
        | (refine And.intro ?_ ?_))
      all_goals (try refine Done.mk ?_)
      all_goals (refine Imp.le [0, 1, 2, 3, 4, 5, 8, 7] ?_; (refine LeR.of ?_ ?_ ?_ ?_ ?_ ?_ ?_ <;> first | (rw [hbl]; decide) | decide | (simp only [GA, ↓GB, List.filterMap_cons, eq_self, BEq.rfl, simprocAttr, GDs, ren_cond, okB_cond, lren_cond, lokB_cond, map_cond, all_cond, Bool.cond_self, cond_true, cond_false, List.map_append, List.all_append, List.map_cons, List.map_nil, Bool.and_true]; done)))
    · have m3 : M 3 = true := hd.dep _ rfl _ (Array.mem_of_getElem? (i := 0) rfl) rfl
      have m6 : M 6 = true := hd.dep _ rfl _ (Array.mem_of_getElem? (i := 1) rfl) rfl
      have n8 : M 8 = false := dNot hd rfl (Array.mem_of_getElem? (i := 8) rfl) rfl hd.un
      have hun := hd.un
      refine ⟨_, rfl, rfl, ?_⟩
      simp only [subC, upd, ↓reduceIte, Nat.reduceEqDiff, reduceCtorEq, hun, m3, m6, n8, ren_cond, okB_cond, lren_cond, lokB_cond, map_cond, all_cond, Bool.cond_self, cond_true, cond_false, List.map_append, List.all_append, List.map_cons, List.map_nil, Bool.and_true, List.nil_append, List.cons_append, simprocAttr]
      refine vcOp_sound ?_
      simp only [GA, ↓GB, List.filterMap_cons, eq_self, BEq.rfl, simprocAttr, hnt, hT]
      repeat' (first
        | (refine SX.seqK ?_; intro N hN)
        | ((first | (refine SX.ops ?_)); simp only [GA, ↓GB, List.filterMap_cons, eq_self, BEq.rfl, simprocAttr, hnt, hT])
        | ((first | refine SX.skip ?_ | refine SX.exit ?_ | refine SX.label ?_); try simp only [GA, ↓GB, List.filterMap_cons, eq_self, BEq.rfl, simprocAttr])
        | (refine SX.cond rfl (fun hb => ?_) (fun hb => ?_) <;> ((first | cases hb | (simp only [decide_eq_true_eq, decide_eq_false_iff_not, beq_iff_eq, beq_eq_false_iff_ne, bne_iff_ne, Bool.and_eq_true, Bool.or_eq_true, Bool.not_eq_true', Bool.not_eq_false', Bool.and_eq_false_iff, Bool.or_eq_false_iff, Int.not_lt, Int.not_le] at hb) | skip) <;> (first | (exfalso; omega) | skip)))
        | (refine SX.ret ?_; try simp only [GA, ↓GB, List.filterMap_cons, eq_self, BEq.rfl, simprocAttr])
        | (refine hN _ ?_; clear hN N)
        | ((first | refine hK _ _ (FinI.ret3 ?_) | refine hK _ _ (FinI.nrm3 ?_)); simp only [GA, ↓GB, List.filterMap_cons, eq_self, BEq.rfl, simprocAttr, finP_s, hnt, hT]; refine Done.out ?_)
        | (clear hN N; first | (refine hN _ ?_; clear hN N) | (clear hN N; first | (refine hN _ ?_; clear hN N) | (clear hN N; first | (refine hN _ ?_; clear hN N) | (clear hN N; first | (refine hN _ ?_; clear hN N) | (clear hN N; first | (refine hN _ ?_; clear hN N) | (refine hN _ ?_; clear hN N))))))
        | (refine bif2.mk (fun hb => ?_) (fun hb => ?_) <;> (try simp only [hb, GA, ↓GB, List.filterMap_cons, eq_self, BEq.rfl, simprocAttr, hnt, hT]) <;> ((first | cases hb | (simp only [decide_eq_true_eq, decide_eq_false_iff_not, beq_iff_eq, beq_eq_false_iff_ne, bne_iff_ne, Bool.and_eq_true, Bool.or_eq_true, Bool.not_eq_true', Bool.not_eq_false', Bool.and_eq_false_iff, Bool.or_eq_false_iff, Int.not_lt, Int.not_le] at hb) | skip) <;> (first | (exfalso; omega) | skip)))
        | (refine SX.block ?_)
        | (refine and_mk ?_ ?_; (focus first | decide | omega | rfl | assumption | (simp only [List.length_append, List.length_cons, List.length_nil, B_size]; omega) | (simp; done)))
        | (refine And.intro ?_ ?_))
      all_goals (try refine Done.mk ?_)
      all_goals (refine Imp.le [0, 1, 2, 3, 4, 5, 6, 8] ?_; (refine LeR.of ?_ ?_ ?_ ?_ ?_ ?_ ?_ <;> first | (rw [hbl]; decide) | decide | (simp only [GA, ↓GB, List.filterMap_cons, eq_self, BEq.rfl, simprocAttr, GDs, ren_cond, okB_cond, lren_cond, lokB_cond, map_cond, all_cond, Bool.cond_self, cond_true, cond_false, List.map_append, List.all_append, List.map_cons, List.map_nil, Bool.and_true]; done)))
    · have m0 : M 0 = true := hd.dep _ rfl _ (Array.mem_of_getElem? (i := 0) rfl) rfl
      have m1 : M 1 = true := hd.dep _ rfl _ (Array.mem_of_getElem? (i := 2) rfl) rfl
      have m2 : M 2 = true := hd.dep _ rfl _ (Array.mem_of_getElem? (i := 3) rfl) rfl
      have m3 : M 3 = true := hd.dep _ rfl _ (Array.mem_of_getElem? (i := 4) rfl) rfl
      have m4 : M 4 = true := hd.dep _ rfl _ (Array.mem_of_getElem? (i := 5) rfl) rfl
      have m5 : M 5 = true := hd.dep _ rfl _ (Array.mem_of_getElem? (i := 6) rfl) rfl
      have m6 : M 6 = true := hd.dep _ rfl _ (Array.mem_of_getElem? (i := 7) rfl) rfl
      have m7 : M 7 = true := hd.dep _ rfl _ (Array.mem_of_getElem? (i := 8) rfl) rfl
      have hun := hd.un
      refine ⟨_, rfl, rfl, ?_⟩
      simp only [subC, upd, ↓reduceIte, Nat.reduceEqDiff, reduceCtorEq, hun, m0, m1, m2, m3, m4, m5, m6, m7, ren_cond, okB_cond, lren_cond, lokB_cond, map_cond, all_cond, Bool.cond_self, cond_true, cond_false, List.map_append, List.all_append, List.map_cons, List.map_nil, Bool.and_true, List.nil_append, List.cons_append, simprocAttr]
      refine vcOp_sound ?_
      simp only [GA, ↓GB, List.filterMap_cons, eq_self, BEq.rfl, simprocAttr, hnt, hT]
      repeat' (first
        | (refine SX.seqK ?_; intro N hN)
        | ((first | (refine SX.ops ?_)); simp only [GA, ↓GB, List.filterMap_cons, eq_self, BEq.rfl, simprocAttr, hnt, hT])
        | ((first | refine SX.skip ?_ | refine SX.exit ?_ | refine SX.label ?_); try simp only [GA, ↓GB, List.filterMap_cons, eq_self, BEq.rfl, simprocAttr])
        | (refine SX.cond rfl (fun hb => ?_) (fun hb => ?_) <;> ((first | cases hb | (simp only [decide_eq_true_eq, decide_eq_false_iff_not, beq_iff_eq, beq_eq_false_iff_ne, bne_iff_ne, Bool.and_eq_true, Bool.or_eq_true, Bool.not_eq_true', Bool.not_eq_false', Bool.and_eq_false_iff, Bool.or_eq_false_iff, Int.not_lt, Int.not_le] at hb) | skip) <;> (first | (exfalso; omega) | skip)))
        | (refine SX.ret ?_; try simp only [GA, ↓GB, List.filterMap_cons, eq_self, BEq.rfl, simprocAttr])
        | (refine hN _ ?_; clear hN N)
        | ((first | refine hK _ _ (FinI.ret3 ?_) | refine hK _ _ (FinI.nrm3 ?_)); simp only [GA, ↓GB, List.filterMap_cons, eq_self, BEq.rfl, simprocAttr, finP_s, hnt, hT]; refine Done.out ?_)
        | (clear hN N; first | (refine hN _ ?_; clear hN N) | (clear hN N; first | (refine hN _ ?_; clear hN N) | (clear hN N; first | (refine hN _ ?_; clear hN N) | (clear hN N; first | (refine hN _ ?_; clear hN N) | (clear hN N; first | (refine hN _ ?_; clear hN N) | (refine hN _ ?_; clear hN N))))))
        | (refine bif2.mk (fun hb => ?_) (fun hb => ?_) <;> (try simp only [hb, GA, ↓GB, List.filterMap_cons, eq_self, BEq.rfl, simprocAttr, hnt, hT]) <;> ((first | cases hb | (simp only [decide_eq_true_eq, decide_eq_false_iff_not, beq_iff_eq, beq_eq_false_iff_ne, bne_iff_ne, Bool.and_eq_true, Bool.or_eq_true, Bool.not_eq_true', Bool.not_eq_false', Bool.and_eq_false_iff, Bool.or_eq_false_iff, Int.not_lt, Int.not_le] at hb) | skip) <;> (first | (exfalso; omega) | skip)))
        | (refine SX.block ?_)
        | (refine and_mk ?_ ?_; (focus first | decide | omega | rfl | assumption | (simp only [List.length_append, List.length_cons, List.length_nil, B_size]; omega) | (simp; done)))
        | (refine And.intro ?_ ?_))
      all_goals (try refine Done.mk ?_)
      all_goals (refine Imp.le [0, 1, 2, 3, 4, 5, 6, 7] ?_; (refine LeR.of ?_ ?_ ?_ ?_ ?_ ?_ ?_ <;> first | (rw [hbl]; decide) | decide | (simp only [GA, ↓GB, List.filterMap_cons, eq_self, BEq.rfl, simprocAttr, GDs, ren_cond, okB_cond, lren_cond, lokB_cond, map_cond, all_cond, Bool.cond_self, cond_true, cond_false, List.map_append, List.all_append, List.map_cons, List.map_nil, Bool.and_true]; done)))
  simp only [subC, cond_true, List.nil_append, List.cons_append, GA, ↓GB, List.filterMap_cons, eq_self, BEq.rfl, simprocAttr, hnt, hT]
  repeat' (first
    | (refine SX.seqK ?_; intro N hN)
    | ((first | (refine SX.ops ?_)); simp only [GA, ↓GB, List.filterMap_cons, eq_self, BEq.rfl, simprocAttr, hnt, hT])
    | ((first | refine SX.skip ?_ | refine SX.exit ?_ | refine SX.label ?_); try simp only [GA, ↓GB, List.filterMap_cons, eq_self, BEq.rfl, simprocAttr])
    | (refine SX.cond rfl (fun hb => ?_) (fun hb => ?_) <;> ((first | cases hb | (simp only [decide_eq_true_eq, decide_eq_false_iff_not, beq_iff_eq, beq_eq_false_iff_ne, bne_iff_ne, Bool.and_eq_true, Bool.or_eq_true, Bool.not_eq_true', Bool.not_eq_false', Bool.and_eq_false_iff, Bool.or_eq_false_iff, Int.not_lt, Int.not_le] at hb) | skip) <;> (first | (exfalso; omega) | skip)))
    | (refine SX.ret ?_; try simp only [GA, ↓GB, List.filterMap_cons, eq_self, BEq.rfl, simprocAttr])
    | (refine hN _ ?_; clear hN N)
    | ((first | refine hK _ _ (FinI.ret3 ?_) | refine hK _ _ (FinI.nrm3 ?_)); simp only [GA, ↓GB, List.filterMap_cons, eq_self, BEq.rfl, simprocAttr, finP_s, hnt, hT]; refine Done.out ?_)
    | (clear hN N; first | (refine hN _ ?_; clear hN N) | (clear hN N; first | (refine hN _ ?_; clear hN N) | (clear hN N; first | (refine hN _ ?_; clear hN N) | (clear hN N; first | (refine hN _ ?_; clear hN N) | (clear hN N; first | (refine hN _ ?_; clear hN N) | (refine hN _ ?_; clear hN N))))))
    | (refine bif2.mk (fun hb => ?_) (fun hb => ?_) <;> (try simp only [hb, GA, ↓GB, List.filterMap_cons, eq_self, BEq.rfl, simprocAttr, hnt, hT]) <;> ((first | cases hb | (simp only [decide_eq_true_eq, decide_eq_false_iff_not, beq_iff_eq, beq_eq_false_iff_ne, bne_iff_ne, Bool.and_eq_true, Bool.or_eq_true, Bool.not_eq_true', Bool.not_eq_false', Bool.and_eq_false_iff, Bool.or_eq_false_iff, Int.not_lt, Int.not_le] at hb) | skip) <;> (first | (exfalso; omega) | skip)))
    | (refine SX.block ?_)
    | (refine and_mk ?_ ?_; (focus first | decide | omega | rfl | assumption | (simp only [List.length_append, List.length_cons, List.length_nil, B_size]; omega) | (simp; done)))
    | (refine And.intro ?_ ?_))
  all_goals (try refine Done.mk ?_)
  all_goals (rw [srow_snoc]; (refine hN0 _ _ ⟨[0, 1, 2, 3, 4, 7], _, _, ?_, ?_, ?_, ⟨rfl, rfl⟩⟩; (focus exact LeR.of rfl trivial (by simp only [GA, ↓GB, List.filterMap_cons, eq_self, BEq.rfl, simprocAttr, GDs]) (by decide) rfl rfl rfl); rotate_left; (focus rfl)); rfl)
def unsC (n k x : Nat) (s : List UInt8) (q : Nat) (sb un : List (List UInt8)) (hv : List HvS) (d : List UInt8) (M : Nat → Bool) : Cfg :=
  ⟨[(12, bif M 8 then .one (.c (.loc 1 4)) else ddd), (11, bif M 7 then .one (.c (.row 7)) else ddd), (10, bif M 6 then .one (.c (.sl 6 0 1 1)) else ddd), (9, bif M 5 then vv (.string (B s)) else ddd), (8, bif M 4 then .one (.c (.loc 5 3)) else ddd), (7, bif M 3 then .one (.c (.row 3)) else ddd), (6, bif M 2 then .one (.c (.loc 1 4)) else ddd), (5, bif M 1 then .one (.c (.loc 1 4)) else ddd), (4, bif M 0 then .one (.c (.loc 1 4)) else ddd), (1, .one (.c (.loc 0 0))), (2, .one (.c (.loc 5 0))), (3, vv (.bool false))],
   [.cells [.loc 1 4] 146, .cells [.v (.int .i64 0), .v (.bool false), .v (.int .u64 q), .row 2, .row 3, .row 4, .v (.string (B d))] 41, srow sb, (bif M 7 then .gone else srow un), hrow hv, .cells [.v (.int .i64 n), .v (.int .i64 k), .v (.int .u64 x), .v (.string (B s))] 143, bif M 6 then .cells [.v (.string (B s))] 9 else .gone, bif M 7 then .row 9 1 (un.length + 1) ((un.map fun s => Value.string (B s)) ++ [.string (B s)]) else .gone]⟩
theorem uns_ctr (n k x : Nat) (s : List UInt8) (q : Nat) (sb un : List (List UInt8)) (hv : List HvS) (d : List UInt8) (hl : un.length ≤ 1099511627776) :
    Ctr Tryd.prog [] 129 [.cells [.loc 1 4] 146, .cells [.v (.int .i64 0), .v (.bool false), .v (.int .u64 q), .row 2, .row 3, .row 4, .v (.string (B d))] 41, srow sb, srow un, hrow hv] [.one (.agg [.v (.int .i64 n), .v (.int .i64 k), .v (.int .u64 x), .v (.string (B s))]), .one (.c (.loc 0 0))]
      (fun os v => os = [.cells [.loc 1 4] 146, .cells [.v (.int .i64 0), .v (.bool false), .v (.int .u64 q), .row 2, .row 5, .row 4, .v (.string (B d))] 41, srow sb, .gone, hrow hv, srow (un ++ [s])] ∧ v = vv (.bool true)) := by
  refine Ctr.less ?_
  intro X0 hP0 hG0 N0 hN0
  refine CallVC.inline (f := 129) (by rw [hP0]; exact Tryd.func129) rfl Tryd.ntmps129 rfl (by simp) ?_
  intro X K hU hnt hbl hK
  have hP : X.P = Tryd.prog := by rw [hU.P, hP0]
  have hG := hG0.under hU
  have hT : aggOf X.P 146 = some false ∧ szOf X.P 146 = some 1 ∧ aggOf X.P 38 = some false ∧ szOf X.P 38 = some 1 ∧ fieldOff X.P 143 3 = some 3 ∧ aggOf X.P 9 = some false ∧ szOf X.P 9 = some 1 ∧ elemSz X.P 38 = some (9, 1) ∧ zeroCells X.P 9 = some [(Value.string { data := #[] })] ∧ elemInf X.P 38 = some (9, 1, 16, (Value.string { data := #[] })) ∧ isStrT X.P 38 = false := by rw [hP]; exact ⟨Ty.ag146, Ty.sz146, Ty.ag38, Ty.sz38, Ty.fo143_3, Ty.ag9, Ty.sz9, Ty.el38, Ty.ze9, Ty.ei38, Ty.is38⟩
  simp only [GA, ↓GB, List.filterMap_cons, eq_self, BEq.rfl, simprocAttr] at hbl ⊢
  repeat' (first
    | (refine SX.seqK ?_; intro N hN)
    | ((first | (refine SX.ops ?_)); simp only [GA, ↓GB, List.filterMap_cons, eq_self, BEq.rfl, simprocAttr, hnt, hT])
    | ((first | refine SX.skip ?_ | refine SX.exit ?_ | refine SX.label ?_); try simp only [GA, ↓GB, List.filterMap_cons, eq_self, BEq.rfl, simprocAttr])
    | (refine SX.cond rfl (fun hb => ?_) (fun hb => ?_) <;> ((first | cases hb | (simp only [decide_eq_true_eq, decide_eq_false_iff_not, beq_iff_eq, beq_eq_false_iff_ne, bne_iff_ne, Bool.and_eq_true, Bool.or_eq_true, Bool.not_eq_true', Bool.not_eq_false', Bool.and_eq_false_iff, Bool.or_eq_false_iff, Int.not_lt, Int.not_le] at hb) | skip) <;> (first | (exfalso; omega) | skip)))
    | (refine SX.ret ?_; try simp only [GA, ↓GB, List.filterMap_cons, eq_self, BEq.rfl, simprocAttr])
    | (refine hN _ ?_; clear hN N)
    | ((first | refine hK _ _ (FinI.ret3 ?_) | refine hK _ _ (FinI.nrm3 ?_)); simp only [GA, ↓GB, List.filterMap_cons, eq_self, BEq.rfl, simprocAttr, finP_s, hnt, hT]; refine Done.out ?_)
    | (clear hN N; first | (refine hN _ ?_; clear hN N) | (clear hN N; first | (refine hN _ ?_; clear hN N) | (clear hN N; first | (refine hN _ ?_; clear hN N) | (clear hN N; first | (refine hN _ ?_; clear hN N) | (clear hN N; first | (refine hN _ ?_; clear hN N) | (refine hN _ ?_; clear hN N))))))
    | (refine bif2.mk (fun hb => ?_) (fun hb => ?_) <;> (try simp only [hb, GA, ↓GB, List.filterMap_cons, eq_self, BEq.rfl, simprocAttr, hnt, hT]) <;> ((first | cases hb | (simp only [decide_eq_true_eq, decide_eq_false_iff_not, beq_iff_eq, beq_eq_false_iff_ne, bne_iff_ne, Bool.and_eq_true, Bool.or_eq_true, Bool.not_eq_true', Bool.not_eq_false', Bool.and_eq_false_iff, Bool.or_eq_false_iff, Int.not_lt, Int.not_le] at hb) | skip) <;> (first | (exfalso; omega) | skip)))
    | (refine SX.block ?_)
    | (refine and_mk ?_ ?_; (focus first | decide | omega | rfl | assumption | (simp only [List.length_append, List.length_cons, List.length_nil, B_size]; omega) | (simp; done)))
    | (refine And.intro ?_ ?_))
  all_goals (try refine Done.mk ?_)
  refine SX.dia (id := 1) [0, 1, 2, 3, 4, 5, 6, 7, 8] (unsC n k x s q sb un hv d) [.s 9] (unsC n k x s q sb un hv d (fun _ => true)) ?_ ?_ ?_ ?_ rfl ?_
  · rw [hP]; kernel_rfl
  · kernel_rfl
  · refine Imp.trans (Imp.le [0, 1, 2, 3, 4, 5] (d := ⟨[(1, .one (.c (.loc 0 0))), (2, .one (.c (.loc 5 0))), (3, vv (.bool false))], [.cells [.loc 1 4] 146, .cells [.v (.int .i64 0), .v (.bool false), .v (.int .u64 q), .row 2, .row 3, .row 4, .v (.string (B d))] 41, srow sb, srow un, hrow hv, .cells [.v (.int .i64 n), .v (.int .i64 k), .v (.int .u64 x), .v (.string (B s))] 143]⟩) (by (refine LeR.of ?_ ?_ ?_ ?_ ?_ ?_ ?_ <;> first | (rw [hbl]; decide) | decide | (simp only [GA, ↓GB, List.filterMap_cons, eq_self, BEq.rfl, simprocAttr, GDs]; done) | (simp only [GA, ↓GB, List.filterMap_cons, eq_self, BEq.rfl, simprocAttr, GDs]; rfl; done)))) ?_
    refine Imp.trans (Imp.dead (t := 4) (by rw [hnt]; decide)) ?_
    refine Imp.trans (Imp.dead (t := 5) (by rw [hnt]; decide)) ?_
    refine Imp.trans (Imp.dead (t := 6) (by rw [hnt]; decide)) ?_
    refine Imp.trans (Imp.dead (t := 7) (by rw [hnt]; decide)) ?_
    refine Imp.trans (Imp.dead (t := 8) (by rw [hnt]; decide)) ?_
    refine Imp.trans (Imp.dead (t := 9) (by rw [hnt]; decide)) ?_
    refine Imp.trans (Imp.dead (t := 10) (by rw [hnt]; decide)) ?_
    refine Imp.trans (Imp.dead (t := 11) (by rw [hnt]; decide)) ?_
    refine Imp.trans (Imp.dead (t := 12) (by rw [hnt]; decide)) ?_
    refine Imp.trans Imp.gone ?_
    refine Imp.trans Imp.gone ?_
    exact Imp.refl
  · rintro M i hi hd
    simp only [List.mem_cons, List.not_mem_nil, or_false] at hi
    rcases hi with rfl | rfl | rfl | rfl | rfl | rfl | rfl | rfl | rfl
    · have n8 : M 8 = false := dNot hd rfl (Array.mem_of_getElem? (i := 0) rfl) rfl hd.un
      have hun := hd.un
      refine ⟨_, rfl, rfl, ?_⟩
      simp only [unsC, upd, ↓reduceIte, Nat.reduceEqDiff, reduceCtorEq, hun, n8, ren_cond, okB_cond, lren_cond, lokB_cond, map_cond, all_cond, Bool.cond_self, cond_true, cond_false, List.map_append, List.all_append, List.map_cons, List.map_nil, Bool.and_true, List.nil_append, List.cons_append, simprocAttr]
      refine vcOp_sound ?_
      simp only [GA, ↓GB, List.filterMap_cons, eq_self, BEq.rfl, simprocAttr, hnt, hT]
      repeat' (first
        | (refine SX.seqK ?_; intro N hN)
        | ((first | (refine SX.ops ?_)); simp only [GA, ↓GB, List.filterMap_cons, eq_self, BEq.rfl, simprocAttr, hnt, hT])
        | ((first | refine SX.skip ?_ | refine SX.exit ?_ | refine SX.label ?_); try simp only [GA, ↓GB, List.filterMap_cons, eq_self, BEq.rfl, simprocAttr])
        | (refine SX.cond rfl (fun hb => ?_) (fun hb => ?_) <;> ((first | cases hb | (simp only [decide_eq_true_eq, decide_eq_false_iff_not, beq_iff_eq, beq_eq_false_iff_ne, bne_iff_ne, Bool.and_eq_true, Bool.or_eq_true, Bool.not_eq_true', Bool.not_eq_false', Bool.and_eq_false_iff, Bool.or_eq_false_iff, Int.not_lt, Int.not_le] at hb) | skip) <;> (first | (exfalso; omega) | skip)))
        | (refine SX.ret ?_; try simp only [GA, ↓GB, List.filterMap_cons, eq_self, BEq.rfl, simprocAttr])
        | (refine hN _ ?_; clear hN N)
        | ((first | refine hK _ _ (FinI.ret3 ?_) | refine hK _ _ (FinI.nrm3 ?_)); simp only [GA, ↓GB, List.filterMap_cons, eq_self, BEq.rfl, simprocAttr, finP_s, hnt, hT]; refine Done.out ?_)
        | (clear hN N; first | (refine hN _ ?_; clear hN N) | (clear hN N; first | (refine hN _ ?_; clear hN N) | (clear hN N; first | (refine hN _ ?_; clear hN N) | (clear hN N; first | (refine hN _ ?_; clear hN N) | (clear hN N; first | (refine hN _ ?_; clear hN N) | (refine hN _ ?_; clear hN N))))))
        | (refine bif2.mk (fun hb => ?_) (fun hb => ?_) <;> (try simp only [hb, GA, ↓GB, List.filterMap_cons, eq_self, BEq.rfl, simprocAttr, hnt, hT]) <;> ((first | cases hb | (simp only [decide_eq_true_eq, decide_eq_false_iff_not, beq_iff_eq, beq_eq_false_iff_ne, bne_iff_ne, Bool.and_eq_true, Bool.or_eq_true, Bool.not_eq_true', Bool.not_eq_false', Bool.and_eq_false_iff, Bool.or_eq_false_iff, Int.not_lt, Int.not_le] at hb) | skip) <;> (first | (exfalso; omega) | skip)))
        | (refine SX.block ?_)
        | (refine and_mk ?_ ?_; (focus first | decide | omega | rfl | assumption | (simp only [List.length_append, List.length_cons, List.length_nil, B_size]; omega) | (simp; done)))
        | (refine And.intro ?_ ?_))
      all_goals (try refine Done.mk ?_)
      all_goals (refine Imp.le [0, 1, 2, 3, 4, 5, 6, 7] ?_; (refine LeR.of ?_ ?_ ?_ ?_ ?_ ?_ ?_ <;> first | (rw [hbl]; decide) | decide | (simp only [GA, ↓GB, List.filterMap_cons, eq_self, BEq.rfl, simprocAttr, GDs, ren_cond, okB_cond, lren_cond, lokB_cond, map_cond, all_cond, Bool.cond_self, cond_true, cond_false, List.map_append, List.all_append, List.map_cons, List.map_nil, Bool.and_true]; done)))
    · have n2 : M 2 = false := dNot hd rfl (Array.mem_of_getElem? (i := 0) rfl) rfl hd.un
      have n3 : M 3 = false := dNot hd rfl (Array.mem_of_getElem? (i := 0) rfl) rfl n2
      have n7 : M 7 = false := dNot hd rfl (Array.mem_of_getElem? (i := 0) rfl) rfl n3
      have n8 : M 8 = false := dNot hd rfl (Array.mem_of_getElem? (i := 2) rfl) rfl hd.un
      have hun := hd.un
      refine ⟨_, rfl, rfl, ?_⟩
      simp only [unsC, upd, ↓reduceIte, Nat.reduceEqDiff, reduceCtorEq, hun, n2, n3, n7, n8, ren_cond, okB_cond, lren_cond, lokB_cond, map_cond, all_cond, Bool.cond_self, cond_true, cond_false, List.map_append, List.all_append, List.map_cons, List.map_nil, Bool.and_true, List.nil_append, List.cons_append, simprocAttr]
      refine vcOp_sound ?_
      simp only [GA, ↓GB, List.filterMap_cons, eq_self, BEq.rfl, simprocAttr, hnt, hT]
      repeat' (first
        | (refine SX.seqK ?_; intro N hN)
        | ((first | (refine SX.ops ?_)); simp only [GA, ↓GB, List.filterMap_cons, eq_self, BEq.rfl, simprocAttr, hnt, hT])
        | ((first | refine SX.skip ?_ | refine SX.exit ?_ | refine SX.label ?_); try simp only [GA, ↓GB, List.filterMap_cons, eq_self, BEq.rfl, simprocAttr])
        | (refine SX.cond rfl (fun hb => ?_) (fun hb => ?_) <;> ((first | cases hb | (simp only [decide_eq_true_eq, decide_eq_false_iff_not, beq_iff_eq, beq_eq_false_iff_ne, bne_iff_ne, Bool.and_eq_true, Bool.or_eq_true, Bool.not_eq_true', Bool.not_eq_false', Bool.and_eq_false_iff, Bool.or_eq_false_iff, Int.not_lt, Int.not_le] at hb) | skip) <;> (first | (exfalso; omega) | skip)))
        | (refine SX.ret ?_; try simp only [GA, ↓GB, List.filterMap_cons, eq_self, BEq.rfl, simprocAttr])
        | (refine hN _ ?_; clear hN N)
        | ((first | refine hK _ _ (FinI.ret3 ?_) | refine hK _ _ (FinI.nrm3 ?_)); simp only [GA, ↓GB, List.filterMap_cons, eq_self, BEq.rfl, simprocAttr, finP_s, hnt, hT]; refine Done.out ?_)
        | (clear hN N; first | (refine hN _ ?_; clear hN N) | (clear hN N; first | (refine hN _ ?_; clear hN N) | (clear hN N; first | (refine hN _ ?_; clear hN N) | (clear hN N; first | (refine hN _ ?_; clear hN N) | (clear hN N; first | (refine hN _ ?_; clear hN N) | (refine hN _ ?_; clear hN N))))))
        | (refine bif2.mk (fun hb => ?_) (fun hb => ?_) <;> (try simp only [hb, GA, ↓GB, List.filterMap_cons, eq_self, BEq.rfl, simprocAttr, hnt, hT]) <;> ((first | cases hb | (simp only [decide_eq_true_eq, decide_eq_false_iff_not, beq_iff_eq, beq_eq_false_iff_ne, bne_iff_ne, Bool.and_eq_true, Bool.or_eq_true, Bool.not_eq_true', Bool.not_eq_false', Bool.and_eq_false_iff, Bool.or_eq_false_iff, Int.not_lt, Int.not_le] at hb) | skip) <;> (first | (exfalso; omega) | skip)))
        | (refine SX.block ?_)
        | (refine and_mk ?_ ?_; (focus first | decide | omega | rfl | assumption | (simp only [List.length_append, List.length_cons, List.length_nil, B_size]; omega) | (simp; done)))
        | (refine And.intro ?_ ?_))
      all_goals (try refine Done.mk ?_)
      all_goals (refine Imp.le [0, 1, 2, 3, 4, 5, 6, 7] ?_; (refine LeR.of ?_ ?_ ?_ ?_ ?_ ?_ ?_ <;> first | (rw [hbl]; decide) | decide | (simp only [GA, ↓GB, List.filterMap_cons, eq_self, BEq.rfl, simprocAttr, GDs, ren_cond, okB_cond, lren_cond, lokB_cond, map_cond, all_cond, Bool.cond_self, cond_true, cond_false, List.map_append, List.all_append, List.map_cons, List.map_nil, Bool.and_true]; done)))
    · have m1 : M 1 = true := hd.dep _ rfl _ (Array.mem_of_getElem? (i := 0) rfl) rfl
      have n3 : M 3 = false := dNot hd rfl (Array.mem_of_getElem? (i := 0) rfl) rfl hd.un
      have n7 : M 7 = false := dNot hd rfl (Array.mem_of_getElem? (i := 0) rfl) rfl n3
      have n8 : M 8 = false := dNot hd rfl (Array.mem_of_getElem? (i := 3) rfl) rfl hd.un
      have hun := hd.un
      refine ⟨_, rfl, rfl, ?_⟩
      simp only [unsC, upd, ↓reduceIte, Nat.reduceEqDiff, reduceCtorEq, hun, m1, n3, n7, n8, ren_cond, okB_cond, lren_cond, lokB_cond, map_cond, all_cond, Bool.cond_self, cond_true, cond_false, List.map_append, List.all_append, List.map_cons, List.map_nil, Bool.and_true, List.nil_append, List.cons_append, simprocAttr]
      refine vcOp_sound ?_
      simp only [GA, ↓GB, List.filterMap_cons, eq_self, BEq.rfl, simprocAttr, hnt, hT]
      repeat' (first
        | (refine SX.seqK ?_; intro N hN)
        | ((first | (refine SX.ops ?_)); simp only [GA, ↓GB, List.filterMap_cons, eq_self, BEq.rfl, simprocAttr, hnt, hT])
        | ((first | refine SX.skip ?_ | refine SX.exit ?_ | refine SX.label ?_); try simp only [GA, ↓GB, List.filterMap_cons, eq_self, BEq.rfl, simprocAttr])
        | (refine SX.cond rfl (fun hb => ?_) (fun hb => ?_) <;> ((first | cases hb | (simp only [decide_eq_true_eq, decide_eq_false_iff_not, beq_iff_eq, beq_eq_false_iff_ne, bne_iff_ne, Bool.and_eq_true, Bool.or_eq_true, Bool.not_eq_true', Bool.not_eq_false', Bool.and_eq_false_iff, Bool.or_eq_false_iff, Int.not_lt, Int.not_le] at hb) | skip) <;> (first | (exfalso; omega) | skip)))
        | (refine SX.ret ?_; try simp only [GA, ↓GB, List.filterMap_cons, eq_self, BEq.rfl, simprocAttr])
        | (refine hN _ ?_; clear hN N)
        | ((first | refine hK _ _ (FinI.ret3 ?_) | refine hK _ _ (FinI.nrm3 ?_)); simp only [GA, ↓GB, List.filterMap_cons, eq_self, BEq.rfl, simprocAttr, finP_s, hnt, hT]; refine Done.out ?_)
        | (clear hN N; first | (refine hN _ ?_; clear hN N) | (clear hN N; first | (refine hN _ ?_; clear hN N) | (clear hN N; first | (refine hN _ ?_; clear hN N) | (clear hN N; first | (refine hN _ ?_; clear hN N) | (clear hN N; first | (refine hN _ ?_; clear hN N) | (refine hN _ ?_; clear hN N))))))
        | (refine bif2.mk (fun hb => ?_) (fun hb => ?_) <;> (try simp only [hb, GA, ↓GB, List.filterMap_cons, eq_self, BEq.rfl, simprocAttr, hnt, hT]) <;> ((first | cases hb | (simp only [decide_eq_true_eq, decide_eq_false_iff_not, beq_iff_eq, beq_eq_false_iff_ne, bne_iff_ne, Bool.and_eq_true, Bool.or_eq_true, Bool.not_eq_true', Bool.not_eq_false', Bool.and_eq_false_iff, Bool.or_eq_false_iff, Int.not_lt, Int.not_le] at hb) | skip) <;> (first | (exfalso; omega) | skip)))
        | (refine SX.block ?_)
        | (refine and_mk ?_ ?_; (focus first | decide | omega | rfl | assumption | (simp only [List.length_append, List.length_cons, List.length_nil, B_size]; omega) | (simp; done)))
        | (refine And.intro ?_ ?_))
      all_goals (try refine Done.mk ?_)
      all_goals (refine Imp.le [0, 1, 2, 3, 4, 5, 6, 7] ?_; (refine LeR.of ?_ ?_ ?_ ?_ ?_ ?_ ?_ <;> first | (rw [hbl]; decide) | decide | (simp only [GA, ↓GB, List.filterMap_cons, eq_self, BEq.rfl, simprocAttr, GDs, ren_cond, okB_cond, lren_cond, lokB_cond, map_cond, all_cond, Bool.cond_self, cond_true, cond_false, List.map_append, List.all_append, List.map_cons, List.map_nil, Bool.and_true]; done)))
    · have m2 : M 2 = true := hd.dep _ rfl _ (Array.mem_of_getElem? (i := 0) rfl) rfl
      have n7 : M 7 = false := dNot hd rfl (Array.mem_of_getElem? (i := 0) rfl) rfl hd.un
      have n8 : M 8 = false := dNot hd rfl (Array.mem_of_getElem? (i := 4) rfl) rfl hd.un
      have hun := hd.un
      refine ⟨_, rfl, rfl, ?_⟩
      simp only [unsC, upd, ↓reduceIte, Nat.reduceEqDiff, reduceCtorEq, hun, m2, n7, n8, ren_cond, okB_cond, lren_cond, lokB_cond, map_cond, all_cond, Bool.cond_self, cond_true, cond_false, List.map_append, List.all_append, List.map_cons, List.map_nil, Bool.and_true, List.nil_append, List.cons_append, simprocAttr]
      refine vcOp_sound ?_
      simp only [GA, ↓GB, List.filterMap_cons, eq_self, BEq.rfl, simprocAttr, hnt, hT]
      repeat' (first
        | (refine SX.seqK ?_; intro N hN)
        | ((first | (refine SX.ops ?_)); simp only [GA, ↓GB, List.filterMap_cons, eq_self, BEq.rfl, simprocAttr, hnt, hT])
        | ((first | refine SX.skip ?_ | refine SX.exit ?_ | refine SX.label ?_); try simp only [GA, ↓GB, List.filterMap_cons, eq_self, BEq.rfl, simprocAttr])
        | (refine SX.cond rfl (fun hb => ?_) (fun hb => ?_) <;> ((first | cases hb | (simp only [decide_eq_true_eq, decide_eq_false_iff_not, beq_iff_eq, beq_eq_false_iff_ne, bne_iff_ne, Bool.and_eq_true, Bool.or_eq_true, Bool.not_eq_true', Bool.not_eq_false', Bool.and_eq_false_iff, Bool.or_eq_false_iff, Int.not_lt, Int.not_le] at hb) | skip) <;> (first | (exfalso; omega) | skip)))
        | (refine SX.ret ?_; try simp only [GA, ↓GB, List.filterMap_cons, eq_self, BEq.rfl, simprocAttr])
        | (refine hN _ ?_; clear hN N)
        | ((first | refine hK _ _ (FinI.ret3 ?_) | refine hK _ _ (FinI.nrm3 ?_)); simp only [GA, ↓GB, List.filterMap_cons, eq_self, BEq.rfl, simprocAttr, finP_s, hnt, hT]; refine Done.out ?_)
        | (clear hN N; first | (refine hN _ ?_; clear hN N) | (clear hN N; first | (refine hN _ ?_; clear hN N) | (clear hN N; first | (refine hN _ ?_; clear hN N) | (clear hN N; first | (refine hN _ ?_; clear hN N) | (clear hN N; first | (refine hN _ ?_; clear hN N) | (refine hN _ ?_; clear hN N))))))
        | (refine bif2.mk (fun hb => ?_) (fun hb => ?_) <;> (try simp only [hb, GA, ↓GB, List.filterMap_cons, eq_self, BEq.rfl, simprocAttr, hnt, hT]) <;> ((first | cases hb | (simp only [decide_eq_true_eq, decide_eq_false_iff_not, beq_iff_eq, beq_eq_false_iff_ne, bne_iff_ne, Bool.and_eq_true, Bool.or_eq_true, Bool.not_eq_true', Bool.not_eq_false', Bool.and_eq_false_iff, Bool.or_eq_false_iff, Int.not_lt, Int.not_le] at hb) | skip) <;> (first | (exfalso; omega) | skip)))
        | (refine SX.block ?_)
        | (refine and_mk ?_ ?_; (focus first | decide | omega | rfl | assumption | (simp only [List.length_append, List.length_cons, List.length_nil, B_size]; omega) | (simp; done)))
        | (refine And.intro ?_ ?_))
      all_goals (try refine Done.mk ?_)
      all_goals (refine Imp.le [0, 1, 2, 3, 4, 5, 6, 7] ?_; (refine LeR.of ?_ ?_ ?_ ?_ ?_ ?_ ?_ <;> first | (rw [hbl]; decide) | decide | (simp only [GA, ↓GB, List.filterMap_cons, eq_self, BEq.rfl, simprocAttr, GDs, ren_cond, okB_cond, lren_cond, lokB_cond, map_cond, all_cond, Bool.cond_self, cond_true, cond_false, List.map_append, List.all_append, List.map_cons, List.map_nil, Bool.and_true]; done)))
    · have n5 : M 5 = false := dNot hd rfl (Array.mem_of_getElem? (i := 0) rfl) rfl hd.un
      have n6 : M 6 = false := dNot hd rfl (Array.mem_of_getElem? (i := 0) rfl) rfl n5
      have n7 : M 7 = false := dNot hd rfl (Array.mem_of_getElem? (i := 1) rfl) rfl n6
      have n8 : M 8 = false := dNot hd rfl (Array.mem_of_getElem? (i := 5) rfl) rfl hd.un
      have hun := hd.un
      refine ⟨_, rfl, rfl, ?_⟩
      simp only [unsC, upd, ↓reduceIte, Nat.reduceEqDiff, reduceCtorEq, hun, n5, n6, n7, n8, ren_cond, okB_cond, lren_cond, lokB_cond, map_cond, all_cond, Bool.cond_self, cond_true, cond_false, List.map_append, List.all_append, List.map_cons, List.map_nil, Bool.and_true, List.nil_append, List.cons_append, simprocAttr]
      refine vcOp_sound ?_
      simp only [GA, ↓GB, List.filterMap_cons, eq_self, BEq.rfl, simprocAttr, hnt, hT]
      repeat' (first
        | (refine SX.seqK ?_; intro N hN)
        | ((first | (refine SX.ops ?_)); simp only [GA, ↓GB, List.filterMap_cons, eq_self, BEq.rfl, simprocAttr, hnt, hT])
        | ((first | refine SX.skip ?_ | refine SX.exit ?_ | refine SX.label ?_); try simp only [GA, ↓GB, List.filterMap_cons, eq_self, BEq.rfl, simprocAttr])
        | (refine SX.cond rfl (fun hb => ?_) (fun hb => ?_) <;> ((first | cases hb | (simp only [decide_eq_true_eq, decide_eq_false_iff_not, beq_iff_eq, beq_eq_false_iff_ne, bne_iff_ne, Bool.and_eq_true, Bool.or_eq_true, Bool.not_eq_true', Bool.not_eq_false', Bool.and_eq_false_iff, Bool.or_eq_false_iff, Int.not_lt, Int.not_le] at hb) | skip) <;> (first | (exfalso; omega) | skip)))
        | (refine SX.ret ?_; try simp only [GA, ↓GB, List.filterMap_cons, eq_self, BEq.rfl, simprocAttr])
        | (refine hN _ ?_; clear hN N)
        | ((first | refine hK _ _ (FinI.ret3 ?_) | refine hK _ _ (FinI.nrm3 ?_)); simp only [GA, ↓GB, List.filterMap_cons, eq_self, BEq.rfl, simprocAttr, finP_s, hnt, hT]; refine Done.out ?_)
        | (clear hN N; first | (refine hN _ ?_; clear hN N) | (clear hN N; first | (refine hN _ ?_; clear hN N) | (clear hN N; first | (refine hN _ ?_; clear hN N) | (clear hN N; first | (refine hN _ ?_; clear hN N) | (clear hN N; first | (refine hN _ ?_; clear hN N) | (refine hN _ ?_; clear hN N))))))
        | (refine bif2.mk (fun hb => ?_) (fun hb => ?_) <;> (try simp only [hb, GA, ↓GB, List.filterMap_cons, eq_self, BEq.rfl, simprocAttr, hnt, hT]) <;> ((first | cases hb | (simp only [decide_eq_true_eq, decide_eq_false_iff_not, beq_iff_eq, beq_eq_false_iff_ne, bne_iff_ne, Bool.and_eq_true, Bool.or_eq_true, Bool.not_eq_true', Bool.not_eq_false', Bool.and_eq_false_iff, Bool.or_eq_false_iff, Int.not_lt, Int.not_le] at hb) | skip) <;> (first | (exfalso; omega) | skip)))
        | (refine SX.block ?_)
        | (refine and_mk ?_ ?_; (focus first | decide | omega | rfl | assumption | (simp only [List.length_append, List.length_cons, List.length_nil, B_size]; omega) | (simp; done)))
        | (refine And.intro ?_ ?_))
      all_goals (try refine Done.mk ?_)
      all_goals (refine Imp.le [0, 1, 2, 3, 4, 5, 6, 7] ?_; (refine LeR.of ?_ ?_ ?_ ?_ ?_ ?_ ?_ <;> first | (rw [hbl]; decide) | decide | (simp only [GA, ↓GB, List.filterMap_cons, eq_self, BEq.rfl, simprocAttr, GDs, ren_cond, okB_cond, lren_cond, lokB_cond, map_cond, all_cond, Bool.cond_self, cond_true, cond_false, List.map_append, List.all_append, List.map_cons, List.map_nil, Bool.and_true]; done)))
    · have m4 : M 4 = true := hd.dep _ rfl _ (Array.mem_of_getElem? (i := 0) rfl) rfl
      have n6 : M 6 = false := dNot hd rfl (Array.mem_of_getElem? (i := 0) rfl) rfl hd.un
      have n7 : M 7 = false := dNot hd rfl (Array.mem_of_getElem? (i := 1) rfl) rfl n6
      have n8 : M 8 = false := dNot hd rfl (Array.mem_of_getElem? (i := 6) rfl) rfl hd.un
      have hun := hd.un
      refine ⟨_, rfl, rfl, ?_⟩
      simp only [unsC, upd, ↓reduceIte, Nat.reduceEqDiff, reduceCtorEq, hun, m4, n6, n7, n8, ren_cond, okB_cond, lren_cond, lokB_cond, map_cond, all_cond, Bool.cond_self, cond_true, cond_false, List.map_append, List.all_append, List.map_cons, List.map_nil, Bool.and_true, List.nil_append, List.cons_append, simprocAttr]
      refine vcOp_sound ?_
      simp only [GA, ↓GB, List.filterMap_cons, eq_self, BEq.rfl, simprocAttr, hnt, hT]
      repeat' (first
        | (refine SX.seqK ?_; intro N hN)
        | ((first | (refine SX.ops ?_)); simp only [GA, ↓GB, List.filterMap_cons, eq_self, BEq.rfl, simprocAttr, hnt, hT])
        | ((first | refine SX.skip ?_ | refine SX.exit ?_ | refine SX.label ?_); try simp only [GA, ↓GB, List.filterMap_cons, eq_self, BEq.rfl, simprocAttr])
        | (refine SX.cond rfl (fun hb => ?_) (fun hb => ?_) <;> ((first | cases hb | (simp only [decide_eq_true_eq, decide_eq_false_iff_not, beq_iff_eq, beq_eq_false_iff_ne, bne_iff_ne, Bool.and_eq_true, Bool.or_eq_true, Bool.not_eq_true', Bool.not_eq_false', Bool.and_eq_false_iff, Bool.or_eq_false_iff, Int.not_lt, Int.not_le] at hb) | skip) <;> (first | (exfalso; omega) | skip)))
        | (refine SX.ret ?_; try simp only [GA, ↓GB, List.filterMap_cons, eq_self, BEq.rfl, simprocAttr])
        | (refine hN _ ?_; clear hN N)
        | ((first | refine hK _ _ (FinI.ret3 ?_) | refine hK _ _ (FinI.nrm3 ?_)); simp only [GA, ↓GB, List.filterMap_cons, eq_self, BEq.rfl, simprocAttr, finP_s, hnt, hT]; refine Done.out ?_)
        | (clear hN N; first | (refine hN _ ?_; clear hN N) | (clear hN N; first | (refine hN _ ?_; clear hN N) | (clear hN N; first | (refine hN _ ?_; clear hN N) | (clear hN N; first | (refine hN _ ?_; clear hN N) | (clear hN N; first | (refine hN _ ?_; clear hN N) | (refine hN _ ?_; clear hN N))))))
        | (refine bif2.mk (fun hb => ?_) (fun hb => ?_) <;> (try simp only [hb, GA, ↓GB, List.filterMap_cons, eq_self, BEq.rfl, simprocAttr, hnt, hT]) <;> ((first | cases hb | (simp only [decide_eq_true_eq, decide_eq_false_iff_not, beq_iff_eq, beq_eq_false_iff_ne, bne_iff_ne, Bool.and_eq_true, Bool.or_eq_true, Bool.not_eq_true', Bool.not_eq_false', Bool.and_eq_false_iff, Bool.or_eq_false_iff, Int.not_lt, Int.not_le] at hb) | skip) <;> (first | (exfalso; omega) | skip)))
        | (refine SX.block ?_)
        | (refine and_mk ?_ ?_; (focus first | decide | omega | rfl | assumption | (simp only [List.length_append, List.length_cons, List.length_nil, B_size]; omega) | (simp; done)))
        | (refine And.intro ?_ ?_))
      all_goals (try refine Done.mk ?_)
      all_goals (refine Imp.le [0, 1, 2, 3, 4, 5, 6, 7] ?_; (refine LeR.of ?_ ?_ ?_ ?_ ?_ ?_ ?_ <;> first | (rw [hbl]; decide) | decide | (simp only [GA, ↓GB, List.filterMap_cons, eq_self, BEq.rfl, simprocAttr, GDs, ren_cond, okB_cond, lren_cond, lokB_cond, map_cond, all_cond, Bool.cond_self, cond_true, cond_false, List.map_append, List.all_append, List.map_cons, List.map_nil, Bool.and_true]; done)))
    · have m5 : M 5 = true := hd.dep _ rfl _ (Array.mem_of_getElem? (i := 0) rfl) rfl
      have n7 : M 7 = false := dNot hd rfl (Array.mem_of_getElem? (i := 1) rfl) rfl hd.un
      have n8 : M 8 = false := dNot hd rfl (Array.mem_of_getElem? (i := 7) rfl) rfl hd.un
      have hun := hd.un
      refine ⟨_, rfl, rfl, ?_⟩
      simp only [unsC, upd, ↓reduceIte, Nat.reduceEqDiff, reduceCtorEq, hun, m5, n7, n8, ren_cond, okB_cond, lren_cond, lokB_cond, map_cond, all_cond, Bool.cond_self, cond_true, cond_false, List.map_append, List.all_append, List.map_cons, List.map_nil, Bool.and_true, List.nil_append, List.cons_append, simprocAttr]
      refine vcOp_sound ?_
      simp only [GA, ↓GB, List.filterMap_cons, eq_self, BEq.rfl, simprocAttr, hnt, hT]
      repeat' (first
        | (refine SX.seqK ?_; intro N hN)
        | ((first | (refine SX.ops ?_)); simp only [GA, ↓GB, List.filterMap_cons, eq_self, BEq.rfl, simprocAttr, hnt, hT])
        | ((first | refine SX.skip ?_ | refine SX.exit ?_ | refine SX.label ?_); try simp only [GA, ↓GB, List.filterMap_cons, eq_self, BEq.rfl, simprocAttr])
        | (refine SX.cond rfl (fun hb => ?_) (fun hb => ?_) <;> ((first | cases hb | (simp only [decide_eq_true_eq, decide_eq_false_iff_not, beq_iff_eq, beq_eq_false_iff_ne, bne_iff_ne, Bool.and_eq_true, Bool.or_eq_true, Bool.not_eq_true', Bool.not_eq_false', Bool.and_eq_false_iff, Bool.or_eq_false_iff, Int.not_lt, Int.not_le] at hb) | skip) <;> (first | (exfalso; omega) | skip)))
        | (refine SX.ret ?_; try simp only [GA, ↓GB, List.filterMap_cons, eq_self, BEq.rfl, simprocAttr])
        | (refine hN _ ?_; clear hN N)
        | ((first | refine hK _ _ (FinI.ret3 ?_) | refine hK _ _ (FinI.nrm3 ?_)); simp only [GA, ↓GB, List.filterMap_cons, eq_self, BEq.rfl, simprocAttr, finP_s, hnt, hT]; refine Done.out ?_)
        | (clear hN N; first | (refine hN _ ?_; clear hN N) | (clear hN N; first | (refine hN _ ?_; clear hN N) | (clear hN N; first | (refine hN _ ?_; clear hN N) | (clear hN N; first | (refine hN _ ?_; clear hN N) | (clear hN N; first | (refine hN _ ?_; clear hN N) | (refine hN _ ?_; clear hN N))))))
        | (refine bif2.mk (fun hb => ?_) (fun hb => ?_) <;> (try simp only [hb, GA, ↓GB, List.filterMap_cons, eq_self, BEq.rfl, simprocAttr, hnt, hT]) <;> ((first | cases hb | (simp only [decide_eq_true_eq, decide_eq_false_iff_not, beq_iff_eq, beq_eq_false_iff_ne, bne_iff_ne, Bool.and_eq_true, Bool.or_eq_true, Bool.not_eq_true', Bool.not_eq_false', Bool.and_eq_false_iff, Bool.or_eq_false_iff, Int.not_lt, Int.not_le] at hb) | skip) <;> (first | (exfalso; omega) | skip)))
        | (refine SX.block ?_)
        | (refine and_mk ?_ ?_; (focus first | decide | omega | rfl | assumption | (simp only [List.length_append, List.length_cons, List.length_nil, B_size]; omega) | (simp; done)))
        | (refine And.intro ?_ ?_))
      all_goals (try refine Done.mk ?_)
      all_goals (refine Imp.le [0, 1, 2, 3, 4, 5, 8, 7] ?_; (refine LeR.of ?_ ?_ ?_ ?_ ?_ ?_ ?_ <;> first | (rw [hbl]; decide) | decide | (simp only [GA, ↓GB, List.filterMap_cons, eq_self, BEq.rfl, simprocAttr, GDs, ren_cond, okB_cond, lren_cond, lokB_cond, map_cond, all_cond, Bool.cond_self, cond_true, cond_false, List.map_append, List.all_append, List.map_cons, List.map_nil, Bool.and_true]; done)))
    · have m3 : M 3 = true := hd.dep _ rfl _ (Array.mem_of_getElem? (i := 0) rfl) rfl
      have m6 : M 6 = true := hd.dep _ rfl _ (Array.mem_of_getElem? (i := 1) rfl) rfl
      have n8 : M 8 = false := dNot hd rfl (Array.mem_of_getElem? (i := 8) rfl) rfl hd.un
      have hun := hd.un
      refine ⟨_, rfl, rfl, ?_⟩
      simp only [unsC, upd, ↓reduceIte, Nat.reduceEqDiff, reduceCtorEq, hun, m3, m6, n8, ren_cond, okB_cond, lren_cond, lokB_cond, map_cond, all_cond, Bool.cond_self, cond_true, cond_false, List.map_append, List.all_append, List.map_cons, List.map_nil, Bool.and_true, List.nil_append, List.cons_append, simprocAttr]
      refine vcOp_sound ?_
      simp only [GA, ↓GB, List.filterMap_cons, eq_self, BEq.rfl, simprocAttr, hnt, hT]
      repeat' (first
        | (refine SX.seqK ?_; intro N hN)
        | ((first | (refine SX.ops ?_)); simp only [GA, ↓GB, List.filterMap_cons, eq_self, BEq.rfl, simprocAttr, hnt, hT])
        | ((first | refine SX.skip ?_ | refine SX.exit ?_ | refine SX.label ?_); try simp only [GA, ↓GB, List.filterMap_cons, eq_self, BEq.rfl, simprocAttr])
        | (refine SX.cond rfl (fun hb => ?_) (fun hb => ?_) <;> ((first | cases hb | (simp only [decide_eq_true_eq, decide_eq_false_iff_not, beq_iff_eq, beq_eq_false_iff_ne, bne_iff_ne, Bool.and_eq_true, Bool.or_eq_true, Bool.not_eq_true', Bool.not_eq_false', Bool.and_eq_false_iff, Bool.or_eq_false_iff, Int.not_lt, Int.not_le] at hb) | skip) <;> (first | (exfalso; omega) | skip)))
        | (refine SX.ret ?_; try simp only [GA, ↓GB, List.filterMap_cons, eq_self, BEq.rfl, simprocAttr])
        | (refine hN _ ?_; clear hN N)
        | ((first | refine hK _ _ (FinI.ret3 ?_) | refine hK _ _ (FinI.nrm3 ?_)); simp only [GA, ↓GB, List.filterMap_cons, eq_self, BEq.rfl, simprocAttr, finP_s, hnt, hT]; refine Done.out ?_)
        | (clear hN N; first | (refine hN _ ?_; clear hN N) | (clear hN N; first | (refine hN _ ?_; clear hN N) | (clear hN N; first | (refine hN _ ?_; clear hN N) | (clear hN N; first | (refine hN _ ?_; clear hN N) | (clear hN N; first | (refine hN _ ?_; clear hN N) | (refine hN _ ?_; clear hN N))))))
        | (refine bif2.mk (fun hb => ?_) (fun hb => ?_) <;> (try simp only [hb, GA, ↓GB, List.filterMap_cons, eq_self, BEq.rfl, simprocAttr, hnt, hT]) <;> ((first | cases hb | (simp only [decide_eq_true_eq, decide_eq_false_iff_not, beq_iff_eq, beq_eq_false_iff_ne, bne_iff_ne, Bool.and_eq_true, Bool.or_eq_true, Bool.not_eq_true', Bool.not_eq_false', Bool.and_eq_false_iff, Bool.or_eq_false_iff, Int.not_lt, Int.not_le] at hb) | skip) <;> (first | (exfalso; omega) | skip)))
        | (refine SX.block ?_)
        | (refine and_mk ?_ ?_; (focus first | decide | omega | rfl | assumption | (simp only [List.length_append, List.length_cons, List.length_nil, B_size]; omega) | (simp; done)))
        | (refine And.intro ?_ ?_))
      all_goals (try refine Done.mk ?_)
      all_goals (refine Imp.le [0, 1, 2, 3, 4, 5, 6, 8] ?_; (refine LeR.of ?_ ?_ ?_ ?_ ?_ ?_ ?_ <;> first | (rw [hbl]; decide) | decide | (simp only [GA, ↓GB, List.filterMap_cons, eq_self, BEq.rfl, simprocAttr, GDs, ren_cond, okB_cond, lren_cond, lokB_cond, map_cond, all_cond, Bool.cond_self, cond_true, cond_false, List.map_append, List.all_append, List.map_cons, List.map_nil, Bool.and_true]; done)))
    · have m0 : M 0 = true := hd.dep _ rfl _ (Array.mem_of_getElem? (i := 0) rfl) rfl
      have m1 : M 1 = true := hd.dep _ rfl _ (Array.mem_of_getElem? (i := 2) rfl) rfl
      have m2 : M 2 = true := hd.dep _ rfl _ (Array.mem_of_getElem? (i := 3) rfl) rfl
      have m3 : M 3 = true := hd.dep _ rfl _ (Array.mem_of_getElem? (i := 4) rfl) rfl
      have m4 : M 4 = true := hd.dep _ rfl _ (Array.mem_of_getElem? (i := 5) rfl) rfl
      have m5 : M 5 = true := hd.dep _ rfl _ (Array.mem_of_getElem? (i := 6) rfl) rfl
      have m6 : M 6 = true := hd.dep _ rfl _ (Array.mem_of_getElem? (i := 7) rfl) rfl
      have m7 : M 7 = true := hd.dep _ rfl _ (Array.mem_of_getElem? (i := 8) rfl) rfl
      have hun := hd.un
      refine ⟨_, rfl, rfl, ?_⟩
      simp only [unsC, upd, ↓reduceIte, Nat.reduceEqDiff, reduceCtorEq, hun, m0, m1, m2, m3, m4, m5, m6, m7, ren_cond, okB_cond, lren_cond, lokB_cond, map_cond, all_cond, Bool.cond_self, cond_true, cond_false, List.map_append, List.all_append, List.map_cons, List.map_nil, Bool.and_true, List.nil_append, List.cons_append, simprocAttr]
      refine vcOp_sound ?_
      simp only [GA, ↓GB, List.filterMap_cons, eq_self, BEq.rfl, simprocAttr, hnt, hT]
      repeat' (first
        | (refine SX.seqK ?_; intro N hN)
        | ((first | (refine SX.ops ?_)); simp only [GA, ↓GB, List.filterMap_cons, eq_self, BEq.rfl, simprocAttr, hnt, hT])
        | ((first | refine SX.skip ?_ | refine SX.exit ?_ | refine SX.label ?_); try simp only [GA, ↓GB, List.filterMap_cons, eq_self, BEq.rfl, simprocAttr])
        | (refine SX.cond rfl (fun hb => ?_) (fun hb => ?_) <;> ((first | cases hb | (simp only [decide_eq_true_eq, decide_eq_false_iff_not, beq_iff_eq, beq_eq_false_iff_ne, bne_iff_ne, Bool.and_eq_true, Bool.or_eq_true, Bool.not_eq_true', Bool.not_eq_false', Bool.and_eq_false_iff, Bool.or_eq_false_iff, Int.not_lt, Int.not_le] at hb) | skip) <;> (first | (exfalso; omega) | skip)))
        | (refine SX.ret ?_; try simp only [GA, ↓GB, List.filterMap_cons, eq_self, BEq.rfl, simprocAttr])
        | (refine hN _ ?_; clear hN N)
        | ((first | refine hK _ _ (FinI.ret3 ?_) | refine hK _ _ (FinI.nrm3 ?_)); simp only [GA, ↓GB, List.filterMap_cons, eq_self, BEq.rfl, simprocAttr, finP_s, hnt, hT]; refine Done.out ?_)
        | (clear hN N; first | (refine hN _ ?_; clear hN N) | (clear hN N; first | (refine hN _ ?_; clear hN N) | (clear hN N; first | (refine hN _ ?_; clear hN N) | (clear hN N; first | (refine hN _ ?_; clear hN N) | (clear hN N; first | (refine hN _ ?_; clear hN N) | (refine hN _ ?_; clear hN N))))))
        | (refine bif2.mk (fun hb => ?_) (fun hb => ?_) <;> (try simp only [hb, GA, ↓GB, List.filterMap_cons, eq_self, BEq.rfl, simprocAttr, hnt, hT]) <;> ((first | cases hb | (simp only [decide_eq_true_eq, decide_eq_false_iff_not, beq_iff_eq, beq_eq_false_iff_ne, bne_iff_ne, Bool.and_eq_true, Bool.or_eq_true, Bool.not_eq_true', Bool.not_eq_false', Bool.and_eq_false_iff, Bool.or_eq_false_iff, Int.not_lt, Int.not_le] at hb) | skip) <;> (first | (exfalso; omega) | skip)))
        | (refine SX.block ?_)
        | (refine and_mk ?_ ?_; (focus first | decide | omega | rfl | assumption | (simp only [List.length_append, List.length_cons, List.length_nil, B_size]; omega) | (simp; done)))
        | (refine And.intro ?_ ?_))
      all_goals (try refine Done.mk ?_)
      all_goals (refine Imp.le [0, 1, 2, 3, 4, 5, 6, 7] ?_; (refine LeR.of ?_ ?_ ?_ ?_ ?_ ?_ ?_ <;> first | (rw [hbl]; decide) | decide | (simp only [GA, ↓GB, List.filterMap_cons, eq_self, BEq.rfl, simprocAttr, GDs, ren_cond, okB_cond, lren_cond, lokB_cond, map_cond, all_cond, Bool.cond_self, cond_true, cond_false, List.map_append, List.all_append, List.map_cons, List.map_nil, Bool.and_true]; done)))
  simp only [unsC, cond_true, List.nil_append, List.cons_append, GA, ↓GB, List.filterMap_cons, eq_self, BEq.rfl, simprocAttr, hnt, hT]
  repeat' (first
    | (refine SX.seqK ?_; intro N hN)
    | ((first | (refine SX.ops ?_)); simp only [GA, ↓GB, List.filterMap_cons, eq_self, BEq.rfl, simprocAttr, hnt, hT])
    | ((first | refine SX.skip ?_ | refine SX.exit ?_ | refine SX.label ?_); try simp only [GA, ↓GB, List.filterMap_cons, eq_self, BEq.rfl, simprocAttr])
    | (refine SX.cond rfl (fun hb => ?_) (fun hb => ?_) <;> ((first | cases hb | (simp only [decide_eq_true_eq, decide_eq_false_iff_not, beq_iff_eq, beq_eq_false_iff_ne, bne_iff_ne, Bool.and_eq_true, Bool.or_eq_true, Bool.not_eq_true', Bool.not_eq_false', Bool.and_eq_false_iff, Bool.or_eq_false_iff, Int.not_lt, Int.not_le] at hb) | skip) <;> (first | (exfalso; omega) | skip)))
    | (refine SX.ret ?_; try simp only [GA, ↓GB, List.filterMap_cons, eq_self, BEq.rfl, simprocAttr])
    | (refine hN _ ?_; clear hN N)
    | ((first | refine hK _ _ (FinI.ret3 ?_) | refine hK _ _ (FinI.nrm3 ?_)); simp only [GA, ↓GB, List.filterMap_cons, eq_self, BEq.rfl, simprocAttr, finP_s, hnt, hT]; refine Done.out ?_)
    | (clear hN N; first | (refine hN _ ?_; clear hN N) | (clear hN N; first | (refine hN _ ?_; clear hN N) | (clear hN N; first | (refine hN _ ?_; clear hN N) | (clear hN N; first | (refine hN _ ?_; clear hN N) | (clear hN N; first | (refine hN _ ?_; clear hN N) | (refine hN _ ?_; clear hN N))))))
    | (refine bif2.mk (fun hb => ?_) (fun hb => ?_) <;> (try simp only [hb, GA, ↓GB, List.filterMap_cons, eq_self, BEq.rfl, simprocAttr, hnt, hT]) <;> ((first | cases hb | (simp only [decide_eq_true_eq, decide_eq_false_iff_not, beq_iff_eq, beq_eq_false_iff_ne, bne_iff_ne, Bool.and_eq_true, Bool.or_eq_true, Bool.not_eq_true', Bool.not_eq_false', Bool.and_eq_false_iff, Bool.or_eq_false_iff, Int.not_lt, Int.not_le] at hb) | skip) <;> (first | (exfalso; omega) | skip)))
    | (refine SX.block ?_)
    | (refine and_mk ?_ ?_; (focus first | decide | omega | rfl | assumption | (simp only [List.length_append, List.length_cons, List.length_nil, B_size]; omega) | (simp; done)))
    | (refine And.intro ?_ ?_))
  all_goals (try refine Done.mk ?_)
  all_goals (rw [srow_snoc]; (refine hN0 _ _ ⟨[0, 1, 2, 3, 4, 7], _, _, ?_, ?_, ?_, ⟨rfl, rfl⟩⟩; (focus exact LeR.of rfl trivial (by simp only [GA, ↓GB, List.filterMap_cons, eq_self, BEq.rfl, simprocAttr, GDs]) (by decide) rfl rfl rfl); rotate_left; (focus rfl)); rfl)
end Go.Proofs.YtbdacbcpniegiaaDoor
namespace Go.Sx
open Go Go.RowKit
theorem SX.nilAt {X : Ctx} {c : Cfg} {code : Code} {K : Exit → Cfg → Prop} {j k : Nat} {t : TypeId} {l : List SC} (e sz : Nat) (hj : c.loc[j]? = some (.cells l t)) (hk : l[k]? = some (.v (.slice none 0 0)))
    (h : SX X code ⟨c.env, (c.loc ++ [LO.row e sz 0 []]).set j (.cells (l.set k (.row c.loc.length)) t)⟩ K) : SX X code c K := fun ρ σ a w hr => by
  have hR1 := hr.nilRow e sz
  refine h _ _ a w (Rel.retell (l := l) hR1 (by rw [List.getElem?_append_left (List.getElem?_eq_some_iff.1 hj).1]; exact hj) (fun cs hcs => ?_))
  obtain ⟨u, hu, hd⟩ := hcs.get hk
  have hd : u = .slice none 0 0 := hd
  have hs := hcs.set (i := k) (a := SC.row c.loc.length) (b := u) (by
    show (σ ++ [Value.slice none 0 0])[c.loc.length]? = some u
    rw [hd, ← hr.lenS]; simp)
  obtain ⟨hlt, rfl⟩ := List.getElem?_eq_some_iff.1 hu
  rw [List.set_getElem_self hlt] at hs
  exact hs
end Go.Sx
namespace Go.Proofs.YtbdacbcpniegiaaDoor
open Go Go.RowKit Go.Proofs Go.Sx
set_option maxHeartbeats 16000000
set_option maxRecDepth 100000
set_option linter.unusedSimpArgs false
set_option linter.unusedVariables false
theorem numBlk7 {X : Ctx} {code : Code} {c : Cfg} {K : Exit → Cfg → Prop} {id : Nat} (x : Nat) (h1 : (x : Int) = 1 → SX X code c (bx id K)) (h2 : (x : Int) = 2 → SX X code c (bx id K)) (h3 : (x : Int) = 3 → SX X code c (bx id K)) (h4 : (x : Int) = 4 → SX X code c (bx id K)) (h5 : (x : Int) = 5 → SX X code c (bx id K)) (h6 : (x : Int) = 6 → SX X code c (bx id K)) (h7 : (x : Int) = 7 → SX X code c (bx id K))
    (h0 : ((x : Int) == 1) = false ∧ ((x : Int) == 2) = false ∧ ((x : Int) == 3) = false ∧ ((x : Int) == 4) = false ∧ ((x : Int) == 5) = false ∧ ((x : Int) == 6) = false ∧ ((x : Int) == 7) = false → SX X code c (bx id K)) : SX X (.block id code) c K := by
  refine SX.block ?_
  by_cases e1 : (x : Int) = 1
  · exact h1 e1
  by_cases e2 : (x : Int) = 2
  · exact h2 e2
  by_cases e3 : (x : Int) = 3
  · exact h3 e3
  by_cases e4 : (x : Int) = 4
  · exact h4 e4
  by_cases e5 : (x : Int) = 5
  · exact h5 e5
  by_cases e6 : (x : Int) = 6
  · exact h6 e6
  by_cases e7 : (x : Int) = 7
  · exact h7 e7
  exact h0 ⟨by simpa using e1, by simpa using e2, by simpa using e3, by simpa using e4, by simpa using e5, by simpa using e6, by simpa using e7⟩
def takeX {S : Type} (step : NW.Fld → S → S × Bool) : List NW.Fld → S → S × Bool
  | [], s => (s, true)
  | f :: fs, s => if (step f s).2 = true then takeX step fs (step f s).1 else ((step f s).1, false)
theorem takeX_no {S : Type} {step : NW.Fld → S → S × Bool} {l : List NW.Fld} {s0 m m' : S} {i : Nat} (h : takeX step l s0 = takeX step (l.drop i) m) (hi : i < l.length) (hs : step (l.getD i default) m = (m', false)) : takeX step l s0 = (m', false) := by
  rw [h, drop_getD hi, takeX, hs]; rfl
theorem takeX_go {S : Type} {step : NW.Fld → S → S × Bool} {l : List NW.Fld} {s0 m m' : S} {i : Nat} (h : takeX step l s0 = takeX step (l.drop i) m) (hi : i < l.length) (hs : step (l.getD i default) m = (m', true)) : takeX step l s0 = takeX step (l.drop (i + 1)) m' := by
  rw [h, drop_getD hi, takeX, hs]; rfl
theorem takeX_end {S : Type} {step : NW.Fld → S → S × Bool} {l : List NW.Fld} {s0 m : S} {i : Nat} (h : takeX step l s0 = takeX step (l.drop i) m) (hi : l.length ≤ i) : takeX step l s0 = (m, true) := by
  rw [h, List.drop_of_length_le hi, takeX]
def takeXB {S : Type} (step : NW.Fld → S → S × Bool) (s : List UInt8) (m : S) : S × Bool := match NW.parse s with
  | none => (m, false)
  | some l => takeX step l m
structure RqS where
  kind : Nat
  delta : Nat
  nonce : Nat
  sb : List (List UInt8)
  un : List (List UInt8)
  hv : List HvS
  det : List UInt8
def RqS.zero : RqS := ⟨0, 0, 0, [], [], [], []⟩
def stepQ (f : NW.Fld) (m : RqS) : RqS × Bool :=
  if f.num = 1 then (if f.kind = 0 then ({ m with kind := f.n }, true) else (m, false))
  else if f.num = 2 then (if f.kind = 0 then ({ m with delta := f.n }, true) else (m, false))
  else if f.num = 3 then (if f.kind = 0 then ({ m with nonce := f.n }, true) else (m, false))
  else if f.num = 4 then (if f.kind = 2 then ({ m with sb := m.sb ++ [f.s] }, true) else (m, false))
  else if f.num = 5 then (if f.kind = 2 then ({ m with un := m.un ++ [f.s] }, true) else (m, false))
  else if f.num = 6 then (if f.kind = 2 then ({ m with hv := m.hv ++ [(takeB stepH f.s ([], 0)).1] }, (takeB stepH f.s ([], 0)).2) else (m, false))
  else if f.num = 7 then (if f.kind = 2 then ({ m with det := f.s }, true) else (m, false))
  else (m, true)
theorem have6_ctr {e : EA} (he : e.Ok) (q : Nat) (sb un : List (List UInt8)) (hv : List HvS) (d : List UInt8) (k n : Nat) (s : List UInt8) (hs : s.length ≤ 1099511627776) (hl : hv.length ≤ 1099511627776) :
    Ctr Tryd.prog (GE e) 75 [.cells [.v (.int .i64 0), .v (.bool false), .v (.int .u64 q), .row 1, .row 2, .row 3, .v (.string (B d))] 41, srow sb, srow un, hrow hv] [.one (.agg [.v (.int .i64 6), .v (.int .i64 k), .v (.int .u64 n), .v (.string (B s))]), .one (.c (.loc 0 0))]
      (fun os v => os = [.cells [.v (.int .i64 0), .v (.bool false), .v (.int .u64 q), .row 1, .row 2, .row 4, .v (.string (B d))] 41, srow sb, srow un, .gone, hrow (hv ++ [(takeB stepH s ([], 0)).1])] ∧ v = vv (.bool (takeB stepH s ([], 0)).2)) :=
  have_ctr he q sb un hv d ⟨6, k, n, s⟩ hs hl _ _ rfl
@[reducible] def reqMap : LO := .map [(.int .i64 1, .agg [.v (.int .i64 0), .clo 124 [] [.loc 1 0]]), (.int .i64 2, .agg [.v (.int .i64 0), .clo 124 [] [.loc 2 0]]), (.int .i64 3, .agg [.v (.int .i64 0), .clo 124 [] [.loc 3 0]]), (.int .i64 4, .agg [.v (.int .i64 2), .clo 129 [] [.loc 4 0]]), (.int .i64 5, .agg [.v (.int .i64 2), .clo 129 [] [.loc 5 0]]), (.int .i64 6, .agg [.v (.int .i64 2), .clo 75 [] [.loc 9 0]]), (.int .i64 7, .agg [.v (.int .i64 2), .clo 125 [] [.loc 6 0]])]
@[reducible] def reqO (m : RqS) : List LO := [reqMap, .cells [.loc 7 0] 136, .cells [.loc 8 0] 136, .cells [.loc 9 2] 136, .cells [.loc 9 3] 146, .cells [.loc 9 4] 146, .cells [.loc 9 6] 138, .cells [.v (.int .u64 m.kind)] 22, .cells [.v (.int .u64 m.delta)] 22, .cells [.v (.int .i64 0), .v (.bool false), .v (.int .u64 m.nonce), .row 10, .row 11, .row 12, .v (.string (B m.det))] 41, srow m.sb, srow m.un, hrow m.hv]
@[reducible] def reqO0 : List LO := [reqMap, .cells [.loc 7 0] 136, .cells [.loc 8 0] 136, .cells [.loc 9 2] 136, .cells [.loc 9 3] 146, .cells [.loc 9 4] 146, .cells [.loc 9 6] 138, .cells [.v (.int .u64 0)] 22, .cells [.v (.int .u64 0)] 22, .cells [.v (.int .i64 0), .v (.bool false), .v (.int .u64 0), .v (.slice none 0 0), .v (.slice none 0 0), .v (.slice none 0 0), .v (.string (B []))] 41]
theorem takeReq_ctr {e : EA} (he : e.Ok) (s : List UInt8) (hs : s.length ≤ 1099511627776) : Ctr Tryd.prog (GE e) 76 reqO0 [vv (.string (B s)), .one (.c (.row 0))]
    (fun os v => os = reqO (takeXB stepQ s .zero).1 ∧ v = vv (okV e (takeXB stepQ s .zero).2)) := by
  have hk1 := True.intro
  have hpc := parse_ctr he s hs
  refine Ctr.less ?_
  cases hp : NW.parse s with
  | none =>
    rw [show takeXB stepQ s .zero = (.zero, false) by rw [takeXB, hp]]
    rw [hp] at hpc; simp only [parsedO, parsedV] at hpc
    intro X0 hP0 hG0 N0 hN0
    refine CallVC.inline (f := 76) (by rw [hP0]; exact Tryd.func76) rfl Tryd.ntmps76 rfl (by simp) ?_
    intro X K hU hnt hbl hK
    have hP : X.P = Tryd.prog := by rw [hU.P, hP0]
    have hG := hG0.under hU
    have hT : calleeOk X.P 109 = true ∧ aggOf X.P 125 = some false ∧ szOf X.P 125 = some 1 ∧ X.P.underlying 171 = some (TypeDesc.slice 143) ∧ elemSz X.P 171 = some (143, 4) ∧ aggOf X.P 143 = some true ∧ szOf X.P 143 = some 4 ∧ zeroCells X.P 143 = some [(Value.int IntKind.i64 0), (Value.int IntKind.i64 0), (Value.int IntKind.u64 0), (Value.string { data := #[] })] ∧ fieldOff X.P 143 0 = some 0 ∧ aggOf X.P 3 = some false ∧ szOf X.P 3 = some 1 ∧ mapInf X.P 139 = some ((TypeDesc.int IntKind.i64), (Value.agg #[(Value.int IntKind.i64 0), Value.nilFunc])) ∧ zeroCells X.P 134 = some [(Value.int IntKind.i64 0), Value.nilFunc] ∧ szOf X.P 134 = some 2 ∧ fieldOff X.P 134 0 = some 0 ∧ fieldOff X.P 143 1 = some 1 ∧ fieldOff X.P 134 1 = some 1 ∧ aggOf X.P 132 = some false ∧ szOf X.P 132 = some 1 := by rw [hP]; exact ⟨Ty.co109, Ty.ag125, Ty.sz125, Tryd.underlying171, Ty.el171, Ty.ag143, Ty.sz143, Ty.ze143, Ty.fo143_0, Ty.ag3, Ty.sz3, Ty.mi139, Ty.ze134, Ty.sz134, Ty.fo134_0, Ty.fo143_1, Ty.fo134_1, Ty.ag132, Ty.sz132⟩
    simp only [GA, ↓GB, List.filterMap_cons, eq_self, BEq.rfl, simprocAttr] at hbl ⊢
    refine SX.nilAt (j := 9) (k := 3) 9 1 rfl rfl ?_
    refine SX.nilAt (j := 9) (k := 4) 9 1 rfl rfl ?_
    refine SX.nilAt (j := 9) (k := 5) 87 2 rfl rfl ?_
    simp only [GA, ↓GB, List.filterMap_cons, eq_self, BEq.rfl, simprocAttr]
    repeat' (first
      | (refine SX.seqK ?_; intro N hN)
      | ((first | (refine SX.ops ?_)); simp only [GA, ↓GB, List.filterMap_cons, eq_self, BEq.rfl, simprocAttr, hnt, hT])
      | ((first | refine SX.skip ?_ | refine SX.exit ?_ | refine SX.label ?_); try simp only [GA, ↓GB, List.filterMap_cons, eq_self, BEq.rfl, simprocAttr])
      | (refine SX.cond rfl (fun hb => ?_) (fun hb => ?_) <;> ((first | cases hb | (simp only [decide_eq_true_eq, decide_eq_false_iff_not, beq_iff_eq, beq_eq_false_iff_ne, bne_iff_ne, Bool.and_eq_true, Bool.or_eq_true, Bool.not_eq_true', Bool.not_eq_false', Bool.and_eq_false_iff, Bool.or_eq_false_iff, Int.not_lt, Int.not_le] at hb) | skip) <;> (first | (exfalso; omega) | skip)))
      | (refine SX.ret ?_; try simp only [GA, ↓GB, List.filterMap_cons, eq_self, BEq.rfl, simprocAttr])
      | (refine hN _ ?_; clear hN N)
      | ((first | refine hK _ _ (FinI.ret3 ?_) | refine hK _ _ (FinI.nrm3 ?_)); simp only [GA, ↓GB, List.filterMap_cons, eq_self, BEq.rfl, simprocAttr, finP_s, hnt, hT]; refine Done.out ?_)
      | (clear hN N; first | (refine hN _ ?_; clear hN N) | (clear hN N; first | (refine hN _ ?_; clear hN N) | (clear hN N; first | (refine hN _ ?_; clear hN N) | (clear hN N; first | (refine hN _ ?_; clear hN N) | (clear hN N; first | (refine hN _ ?_; clear hN N) | (refine hN _ ?_; clear hN N))))))
      | (refine bif2.mk (fun hb => ?_) (fun hb => ?_) <;> (try simp only [hb, GA, ↓GB, List.filterMap_cons, eq_self, BEq.rfl, simprocAttr, hnt, hT]) <;> ((first | cases hb | (simp only [decide_eq_true_eq, decide_eq_false_iff_not, beq_iff_eq, beq_eq_false_iff_ne, bne_iff_ne, Bool.and_eq_true, Bool.or_eq_true, Bool.not_eq_true', Bool.not_eq_false', Bool.and_eq_false_iff, Bool.or_eq_false_iff, Int.not_lt, Int.not_le] at hb) | skip) <;> (first | (exfalso; omega) | skip)))
      | ((first | (refine Ctr.use (hpc) hP hG [] ?_ rfl rfl ?_; (focus (refine LeR.of rfl trivial ?_ ?_ ?_ ?_ ?_ <;> first | decide | (simp only [GA, ↓GB, List.filterMap_cons, eq_self, BEq.rfl, simprocAttr, GDs]; done))); intro os' s hR; obtain ⟨rfl, rfl⟩ := hR)); simp only [GA, ↓GB, List.filterMap_cons, eq_self, BEq.rfl, simprocAttr, hnt, hT])
      | (refine ldG (p := (⟨1, 0, none⟩, errV e.f)) (hG _ (GE1 e)) ?_; simp only [GA, ↓GB, List.filterMap_cons, eq_self, BEq.rfl, simprocAttr, hnt, hT])
      | (refine SX.block ?_)
      | (refine and_mk ?_ ?_; (focus first | decide | omega | rfl | assumption | (simp only [List.length_append, List.length_cons, List.length_nil, B_size]; omega) | (simp; done)))
      | (refine And.intro ?_ ?_))
    all_goals (try refine Done.mk ?_)
    all_goals (refine hN0 _ _ ⟨[0, 1, 2, 3, 4, 5, 6, 7, 8, 9, 10, 11, 12], _, _, ?_, ?_, ?_, ⟨rfl, rfl⟩⟩; (focus exact LeR.of rfl trivial (by simp only [GA, ↓GB, List.filterMap_cons, eq_self, BEq.rfl, simprocAttr, GDs]; exact ⟨rfl, rfl, rfl, rfl, rfl, rfl⟩) (by decide) rfl rfl rfl); rotate_left; (focus rfl); rfl)
  | some l =>
    rw [show takeXB stepQ s .zero = takeX stepQ l .zero by rw [takeXB, hp]]
    have hll := parse_len hp
    have hfs := parse_slen hp
    have hfi : ∀ i, i < l.length → (l.getD i default).s.length ≤ 1099511627776 := fun i hi => by
      rw [List.getD_eq_getElem?_getD, List.getElem?_eq_getElem hi]
      exact Nat.le_trans (hfs _ (List.getElem_mem hi)) hs
    rw [hp] at hpc; simp only [parsedO, parsedV] at hpc
    intro X0 hP0 hG0 N0 hN0
    refine CallVC.inline (f := 76) (by rw [hP0]; exact Tryd.func76) rfl Tryd.ntmps76 rfl (by simp) ?_
    intro X K hU hnt hbl hK
    have hP : X.P = Tryd.prog := by rw [hU.P, hP0]
    have hG := hG0.under hU
    have hT : calleeOk X.P 109 = true ∧ aggOf X.P 125 = some false ∧ szOf X.P 125 = some 1 ∧ X.P.underlying 171 = some (TypeDesc.slice 143) ∧ elemSz X.P 171 = some (143, 4) ∧ aggOf X.P 143 = some true ∧ szOf X.P 143 = some 4 ∧ zeroCells X.P 143 = some [(Value.int IntKind.i64 0), (Value.int IntKind.i64 0), (Value.int IntKind.u64 0), (Value.string { data := #[] })] ∧ fieldOff X.P 143 0 = some 0 ∧ aggOf X.P 3 = some false ∧ szOf X.P 3 = some 1 ∧ mapInf X.P 139 = some ((TypeDesc.int IntKind.i64), (Value.agg #[(Value.int IntKind.i64 0), Value.nilFunc])) ∧ zeroCells X.P 134 = some [(Value.int IntKind.i64 0), Value.nilFunc] ∧ szOf X.P 134 = some 2 ∧ fieldOff X.P 134 0 = some 0 ∧ fieldOff X.P 143 1 = some 1 ∧ fieldOff X.P 134 1 = some 1 ∧ aggOf X.P 132 = some false ∧ szOf X.P 132 = some 1 := by rw [hP]; exact ⟨Ty.co109, Ty.ag125, Ty.sz125, Tryd.underlying171, Ty.el171, Ty.ag143, Ty.sz143, Ty.ze143, Ty.fo143_0, Ty.ag3, Ty.sz3, Ty.mi139, Ty.ze134, Ty.sz134, Ty.fo134_0, Ty.fo143_1, Ty.fo134_1, Ty.ag132, Ty.sz132⟩
    simp only [GA, ↓GB, List.filterMap_cons, eq_self, BEq.rfl, simprocAttr] at hbl ⊢
    refine SX.nilAt (j := 9) (k := 3) 9 1 rfl rfl ?_
    refine SX.nilAt (j := 9) (k := 4) 9 1 rfl rfl ?_
    refine SX.nilAt (j := 9) (k := 5) 87 2 rfl rfl ?_
    simp only [GA, ↓GB, List.filterMap_cons, eq_self, BEq.rfl, simprocAttr]
    have hk9 : calleeOk X.P 124 = true := by rw [hP]; kernel_rfl
    have hk8 : calleeOk X.P 125 = true := by rw [hP]; kernel_rfl
    have hk7 : calleeOk X.P 129 = true := by rw [hP]; kernel_rfl
    have hk6 : calleeOk X.P 75 = true := by rw [hP]; kernel_rfl
    have hnt1 := True.intro; have hT1 := True.intro; have hU1P := True.intro
    repeat' (first
      | (refine numBlk7 (id := 1) (l.getD i default).num (fun hk1 => ?_) (fun hk1 => ?_) (fun hk1 => ?_) (fun hk1 => ?_) (fun hk1 => ?_) (fun hk1 => ?_) (fun hk1 => ?_) (fun hk1 => ?_))
      | (refine SX.seqK ?_; intro N hN)
      | ((first | (refine SX.ops ?_)); simp only [GA, ↓GB, List.filterMap_cons, eq_self, BEq.rfl, simprocAttr, hnt, hT, hnt1, hT1, hU1P, hk1, hk9, hk8, hk7, hk6])
      | ((first | refine SX.skip ?_ | refine SX.exit ?_ | refine SX.label ?_); try simp only [GA, ↓GB, List.filterMap_cons, eq_self, BEq.rfl, simprocAttr])
      | (refine SX.cond rfl (fun hb => ?_) (fun hb => ?_) <;> ((first | cases hb | (simp only [decide_eq_true_eq, decide_eq_false_iff_not, beq_iff_eq, beq_eq_false_iff_ne, bne_iff_ne, Bool.and_eq_true, Bool.or_eq_true, Bool.not_eq_true', Bool.not_eq_false', Bool.and_eq_false_iff, Bool.or_eq_false_iff, Int.not_lt, Int.not_le] at hb) | skip) <;> (first | (exfalso; omega) | skip)))
      | (refine SX.ret ?_; try simp only [GA, ↓GB, List.filterMap_cons, eq_self, BEq.rfl, simprocAttr])
      | (refine hN _ ?_; clear hN N)
      | ((first | refine hK1 _ _ (FinI.ret3 ?_) | refine hK1 _ _ (FinI.nrm3 ?_)); (repeat (clear hN N)); clear hK1 K1; simp only [GA, ↓GB, List.filterMap_cons, eq_self, BEq.rfl, simprocAttr, finP_s, hnt, hT, hnt1, hT1, hU1P, hk1, hk9, hk8, hk7, hk6])
      | ((first | refine hK _ _ (FinI.ret3 ?_) | refine hK _ _ (FinI.nrm3 ?_)); simp only [GA, ↓GB, List.filterMap_cons, eq_self, BEq.rfl, simprocAttr, finP_s, hnt, hT, hnt1, hT1, hU1P, hk1, hk9, hk8, hk7, hk6]; refine Done.out ?_)
      | (clear hN N; first | (refine hN _ ?_; clear hN N) | (clear hN N; first | (refine hN _ ?_; clear hN N) | (clear hN N; first | (refine hN _ ?_; clear hN N) | (clear hN N; first | (refine hN _ ?_; clear hN N) | (clear hN N; first | (refine hN _ ?_; clear hN N) | (refine hN _ ?_; clear hN N))))))
      | (refine bif2.mk (fun hb => ?_) (fun hb => ?_) <;> (try simp only [hb, GA, ↓GB, List.filterMap_cons, eq_self, BEq.rfl, simprocAttr, hnt, hT, hnt1, hT1, hU1P, hk1, hk9, hk8, hk7, hk6]) <;> ((first | cases hb | (simp only [decide_eq_true_eq, decide_eq_false_iff_not, beq_iff_eq, beq_eq_false_iff_ne, bne_iff_ne, Bool.and_eq_true, Bool.or_eq_true, Bool.not_eq_true', Bool.not_eq_false', Bool.and_eq_false_iff, Bool.or_eq_false_iff, Int.not_lt, Int.not_le] at hb) | skip) <;> (first | (exfalso; omega) | skip)))
      | ((first | (refine Ctr.use (hpc) hP hG [] ?_ rfl rfl ?_; (focus (refine LeR.of rfl trivial ?_ ?_ ?_ ?_ ?_ <;> first | decide | (simp only [GA, ↓GB, List.filterMap_cons, eq_self, BEq.rfl, simprocAttr, GDs]; done))); intro os' s hR; obtain ⟨rfl, rfl⟩ := hR) | (refine Ctr.use (have6_ctr he m.nonce m.sb m.un m.hv m.det (l.getD i default).kind (l.getD i default).n (l.getD i default).s (hfi i (by omega)) (by omega)) hP hG [9,10,11,12] ?_ rfl rfl ?_; (focus (refine LeR.of rfl trivial ?_ ?_ ?_ ?_ ?_ <;> first | decide | (simp only [GA, ↓GB, List.filterMap_cons, eq_self, BEq.rfl, simprocAttr, GDs]; done))); intro os' s hR; obtain ⟨rfl, rfl⟩ := hR) | (refine Ctr.use (sub_ctr 4 (l.getD i default).kind (l.getD i default).n (l.getD i default).s m.nonce m.sb m.un m.hv m.det (by omega)) hP ?_ [4,9,10,11,12] ?_ rfl rfl ?_; (focus (intro p hp; cases hp)); (focus (refine LeR.of rfl trivial ?_ ?_ ?_ ?_ ?_ <;> first | decide | (simp only [GA, ↓GB, List.filterMap_cons, eq_self, BEq.rfl, simprocAttr, GDs]; done))); intro os' s hR; obtain ⟨rfl, rfl⟩ := hR) | (refine Ctr.use (uns_ctr 5 (l.getD i default).kind (l.getD i default).n (l.getD i default).s m.nonce m.sb m.un m.hv m.det (by omega)) hP ?_ [5,9,10,11,12] ?_ rfl rfl ?_; (focus (intro p hp; cases hp)); (focus (refine LeR.of rfl trivial ?_ ?_ ?_ ?_ ?_ <;> first | decide | (simp only [GA, ↓GB, List.filterMap_cons, eq_self, BEq.rfl, simprocAttr, GDs]; done))); intro os' s hR; obtain ⟨rfl, rfl⟩ := hR)); simp only [GA, ↓GB, List.filterMap_cons, eq_self, BEq.rfl, simprocAttr, hnt, hT, hnt1, hT1, hU1P, hk1, hk9, hk8, hk7, hk6])
      | (refine CallVC.inline (f := 124) ?_ rfl Tryd.ntmps124 rfl ?_ ?_; (focus rw [hP]; exact Tryd.func124); (focus simp); have hT1 : aggOf X.P 136 = some false ∧ szOf X.P 136 = some 1 ∧ fieldOff X.P 143 2 = some 2 ∧ aggOf X.P 22 = some false ∧ szOf X.P 22 = some 1 := (by rw [hP]; exact ⟨Ty.ag136, Ty.sz136, Ty.fo143_2, Ty.ag22, Ty.sz22⟩); intro X1 K1 hU1 hnt1 hbl1 hK1; have hU1P := hU1.P; simp only [GA, ↓GB, List.filterMap_cons, eq_self, BEq.rfl, simprocAttr] at hbl1 ⊢)
      | (refine CallVC.inline (f := 125) ?_ rfl Tryd.ntmps125 rfl ?_ ?_; (focus rw [hP]; exact Tryd.func125); (focus simp); have hT1 : aggOf X.P 138 = some false ∧ szOf X.P 138 = some 1 ∧ fieldOff X.P 143 3 = some 3 ∧ aggOf X.P 9 = some false ∧ szOf X.P 9 = some 1 := (by rw [hP]; exact ⟨Ty.ag138, Ty.sz138, Ty.fo143_3, Ty.ag9, Ty.sz9⟩); intro X1 K1 hU1 hnt1 hbl1 hK1; have hU1P := hU1.P; simp only [GA, ↓GB, List.filterMap_cons, eq_self, BEq.rfl, simprocAttr] at hbl1 ⊢)
      | (refine ldG (p := (⟨1, 0, none⟩, errV e.f)) (hG _ (GE1 e)) ?_; simp only [GA, ↓GB, List.filterMap_cons, eq_self, BEq.rfl, simprocAttr, hnt, hT])
      | (refine ⟨fcells (l.getD i default), rfl, flds_cell _ _ (by omega), ?_⟩ <;> simp only [fcells, GA, ↓GB, List.filterMap_cons, eq_self, BEq.rfl, simprocAttr, hnt, hT, hk1])
      | (refine SX.loop (ι := { p : Nat × RqS // p.1 ≤ l.length ∧ p.2.sb.length ≤ p.1 ∧ p.2.un.length ≤ p.1 ∧ p.2.hv.length ≤ p.1 ∧ takeX stepQ l .zero = takeX stepQ (l.drop p.1) p.2 }) (fun p => ⟨[(1, .one (.c (.row 0))), (19, .one (.c (.row 13))), (20, vv (.int .i64 l.length)), (21, vv (.int .i64 p.1.1))], [reqMap, .cells [.loc 7 0] 136, .cells [.loc 8 0] 136, .cells [.loc 9 2] 136, .cells [.loc 9 3] 146, .cells [.loc 9 4] 146, .cells [.loc 9 6] 138, .cells [.v (.int .u64 p.1.2.kind)] 22, .cells [.v (.int .u64 p.1.2.delta)] 22, .cells [.v (.int .i64 0), .v (.bool false), .v (.int .u64 p.1.2.nonce), .row 10, .row 11, .row 12, .v (.string (B p.1.2.det))] 41, srow p.1.2.sb, srow p.1.2.un, hrow p.1.2.hv, frow l]⟩) (fun p => l.length - p.1.1) ⟨(0, .zero), Nat.zero_le _, Nat.le_refl _, Nat.le_refl _, Nat.le_refl _, rfl⟩ ⟨[0, 1, 2, 3, 4, 5, 6, 7, 8, 9, 10, 11, 12, 13], by (refine LeR.of ?_ ?_ ?_ ?_ ?_ ?_ ?_ <;> first | (rw [hbl]; decide) | decide | (simp only [GA, ↓GB, List.filterMap_cons, eq_self, BEq.rfl, simprocAttr, GDs]; done) | (simp only [GA, ↓GB, List.filterMap_cons, eq_self, BEq.rfl, simprocAttr, GDs]; exact ⟨rfl, rfl, rfl, rfl, rfl, rfl⟩; done))⟩ ?_ <;> rintro ⟨⟨i, m⟩, hi, hl1, hl2, hl3, hm⟩ <;> simp only [] at hi hl1 hl2 hl3 hm ⊢)
      | ((first | (refine Ctr.use (hpc) (hU1P.trans hP) (hG.under hU1) [] ?_ rfl rfl ?_; (focus (refine LeR.of rfl trivial ?_ ?_ ?_ ?_ ?_ <;> first | decide | (simp only [GA, ↓GB, List.filterMap_cons, eq_self, BEq.rfl, simprocAttr, GDs]; done))); intro os' s hR; obtain ⟨rfl, rfl⟩ := hR) | (refine Ctr.use (have6_ctr he m.nonce m.sb m.un m.hv m.det (l.getD i default).kind (l.getD i default).n (l.getD i default).s (hfi i (by omega)) (by omega)) (hU1P.trans hP) (hG.under hU1) [9,10,11,12] ?_ rfl rfl ?_; (focus (refine LeR.of rfl trivial ?_ ?_ ?_ ?_ ?_ <;> first | decide | (simp only [GA, ↓GB, List.filterMap_cons, eq_self, BEq.rfl, simprocAttr, GDs]; done))); intro os' s hR; obtain ⟨rfl, rfl⟩ := hR) | (refine Ctr.use (sub_ctr 4 (l.getD i default).kind (l.getD i default).n (l.getD i default).s m.nonce m.sb m.un m.hv m.det (by omega)) (hU1P.trans hP) ?_ [4,9,10,11,12] ?_ rfl rfl ?_; (focus (intro p hp; cases hp)); (focus (refine LeR.of rfl trivial ?_ ?_ ?_ ?_ ?_ <;> first | decide | (simp only [GA, ↓GB, List.filterMap_cons, eq_self, BEq.rfl, simprocAttr, GDs]; done))); intro os' s hR; obtain ⟨rfl, rfl⟩ := hR) | (refine Ctr.use (uns_ctr 5 (l.getD i default).kind (l.getD i default).n (l.getD i default).s m.nonce m.sb m.un m.hv m.det (by omega)) (hU1P.trans hP) ?_ [5,9,10,11,12] ?_ rfl rfl ?_; (focus (intro p hp; cases hp)); (focus (refine LeR.of rfl trivial ?_ ?_ ?_ ?_ ?_ <;> first | decide | (simp only [GA, ↓GB, List.filterMap_cons, eq_self, BEq.rfl, simprocAttr, GDs]; done))); intro os' s hR; obtain ⟨rfl, rfl⟩ := hR)); simp only [GA, ↓GB, List.filterMap_cons, eq_self, BEq.rfl, simprocAttr, hnt, hT, hnt1, hT1, hU1P, hk1, hk9, hk8, hk7, hk6])
      | (refine SX.block ?_)
      | (refine and_mk ?_ ?_; (focus first | decide | omega | rfl | assumption | (simp only [List.length_append, List.length_cons, List.length_nil, B_size]; omega) | (simp; done)))
      | (refine And.intro ?_ ?_))
    all_goals (try refine Done.mk ?_)
    · have hj : (l.getD i default).num = 1 := by omega
      have hq : ¬ (l.getD i default).kind = 0 := by omega
      rw [takeX_no hm (by omega) (show stepQ (l.getD i default) m = (m, false) by simp [-List.getD_eq_getElem?_getD, stepQ, hj, hq])] at hN0
      (refine hN0 _ _ ⟨[0, 1, 2, 3, 4, 5, 6, 7, 8, 9, 10, 11, 12], _, _, ?_, ?_, ?_, ⟨rfl, rfl⟩⟩; (focus exact LeR.of rfl trivial (by simp only [GA, ↓GB, List.filterMap_cons, eq_self, BEq.rfl, simprocAttr, GDs]) (by decide) rfl rfl rfl); rotate_left; (focus rfl))
      rfl
    · have hj : (l.getD i default).num = 1 := by omega
      have hq : (l.getD i default).kind = 0 := by have := bne_eq_false_iff_eq.1 hb; omega
      exact ⟨⟨(i + 1, { m with kind := (l.getD i default).n }), by show i + 1 ≤ l.length; omega, by show m.sb.length ≤ i + 1; omega, by show m.un.length ≤ i + 1; omega, by show m.hv.length ≤ i + 1; omega, takeX_go hm (by omega) (by simp [-List.getD_eq_getElem?_getD, stepQ, hj, hq])⟩, [0, 1, 2, 3, 4, 5, 6, 7, 8, 9, 10, 11, 12, 13], by (refine LeR.of ?_ ?_ ?_ ?_ ?_ ?_ ?_ <;> first | (rw [hbl]; decide) | decide | (simp only [GA, ↓GB, List.filterMap_cons, eq_self, BEq.rfl, simprocAttr, GDs]; done) | (simp only [GA, ↓GB, List.filterMap_cons, eq_self, BEq.rfl, simprocAttr, GDs]; first | (rw [wI64 (by omega) (by omega)]; rfl) | rfl; done)), by show l.length - (i + 1) < l.length - i; omega⟩
    · have hj : (l.getD i default).num = 2 := by omega
      have hq : ¬ (l.getD i default).kind = 0 := by omega
      rw [takeX_no hm (by omega) (show stepQ (l.getD i default) m = (m, false) by simp [-List.getD_eq_getElem?_getD, stepQ, hj, hq])] at hN0
      (refine hN0 _ _ ⟨[0, 1, 2, 3, 4, 5, 6, 7, 8, 9, 10, 11, 12], _, _, ?_, ?_, ?_, ⟨rfl, rfl⟩⟩; (focus exact LeR.of rfl trivial (by simp only [GA, ↓GB, List.filterMap_cons, eq_self, BEq.rfl, simprocAttr, GDs]) (by decide) rfl rfl rfl); rotate_left; (focus rfl))
      rfl
    · have hj : (l.getD i default).num = 2 := by omega
      have hq : (l.getD i default).kind = 0 := by have := bne_eq_false_iff_eq.1 hb; omega
      exact ⟨⟨(i + 1, { m with delta := (l.getD i default).n }), by show i + 1 ≤ l.length; omega, by show m.sb.length ≤ i + 1; omega, by show m.un.length ≤ i + 1; omega, by show m.hv.length ≤ i + 1; omega, takeX_go hm (by omega) (by simp [-List.getD_eq_getElem?_getD, stepQ, hj, hq])⟩, [0, 1, 2, 3, 4, 5, 6, 7, 8, 9, 10, 11, 12, 13], by (refine LeR.of ?_ ?_ ?_ ?_ ?_ ?_ ?_ <;> first | (rw [hbl]; decide) | decide | (simp only [GA, ↓GB, List.filterMap_cons, eq_self, BEq.rfl, simprocAttr, GDs]; done) | (simp only [GA, ↓GB, List.filterMap_cons, eq_self, BEq.rfl, simprocAttr, GDs]; first | (rw [wI64 (by omega) (by omega)]; rfl) | rfl; done)), by show l.length - (i + 1) < l.length - i; omega⟩
    · have hj : (l.getD i default).num = 3 := by omega
      have hq : ¬ (l.getD i default).kind = 0 := by omega
      rw [takeX_no hm (by omega) (show stepQ (l.getD i default) m = (m, false) by simp [-List.getD_eq_getElem?_getD, stepQ, hj, hq])] at hN0
      (refine hN0 _ _ ⟨[0, 1, 2, 3, 4, 5, 6, 7, 8, 9, 10, 11, 12], _, _, ?_, ?_, ?_, ⟨rfl, rfl⟩⟩; (focus exact LeR.of rfl trivial (by simp only [GA, ↓GB, List.filterMap_cons, eq_self, BEq.rfl, simprocAttr, GDs]) (by decide) rfl rfl rfl); rotate_left; (focus rfl))
      rfl
    · have hj : (l.getD i default).num = 3 := by omega
      have hq : (l.getD i default).kind = 0 := by have := bne_eq_false_iff_eq.1 hb; omega
      exact ⟨⟨(i + 1, { m with nonce := (l.getD i default).n }), by show i + 1 ≤ l.length; omega, by show m.sb.length ≤ i + 1; omega, by show m.un.length ≤ i + 1; omega, by show m.hv.length ≤ i + 1; omega, takeX_go hm (by omega) (by simp [-List.getD_eq_getElem?_getD, stepQ, hj, hq])⟩, [0, 1, 2, 3, 4, 5, 6, 7, 8, 9, 10, 11, 12, 13], by (refine LeR.of ?_ ?_ ?_ ?_ ?_ ?_ ?_ <;> first | (rw [hbl]; decide) | decide | (simp only [GA, ↓GB, List.filterMap_cons, eq_self, BEq.rfl, simprocAttr, GDs]; done) | (simp only [GA, ↓GB, List.filterMap_cons, eq_self, BEq.rfl, simprocAttr, GDs]; first | (rw [wI64 (by omega) (by omega)]; rfl) | rfl; done)), by show l.length - (i + 1) < l.length - i; omega⟩
    · have hj : (l.getD i default).num = 4 := by omega
      have hq : ¬ (l.getD i default).kind = 2 := by omega
      rw [takeX_no hm (by omega) (show stepQ (l.getD i default) m = (m, false) by simp [-List.getD_eq_getElem?_getD, stepQ, hj, hq])] at hN0
      (refine hN0 _ _ ⟨[0, 1, 2, 3, 4, 5, 6, 7, 8, 9, 10, 11, 12], _, _, ?_, ?_, ?_, ⟨rfl, rfl⟩⟩; (focus exact LeR.of rfl trivial (by simp only [GA, ↓GB, List.filterMap_cons, eq_self, BEq.rfl, simprocAttr, GDs]) (by decide) rfl rfl rfl); rotate_left; (focus rfl))
      rfl
    · have hj : (l.getD i default).num = 4 := by omega
      have hq : (l.getD i default).kind = 2 := by have := bne_eq_false_iff_eq.1 hb; omega
      exact ⟨⟨(i + 1, { m with sb := m.sb ++ [(l.getD i default).s] }), by show i + 1 ≤ l.length; omega, by show (m.sb ++ [(l.getD i default).s]).length ≤ i + 1; simp only [List.length_append, List.length_cons, List.length_nil]; omega, by show m.un.length ≤ i + 1; omega, by show m.hv.length ≤ i + 1; omega, takeX_go hm (by omega) (by simp [-List.getD_eq_getElem?_getD, stepQ, hj, hq])⟩, [0, 1, 2, 3, 4, 5, 6, 7, 8, 9, 16, 11, 12, 13], by (refine LeR.of ?_ ?_ ?_ ?_ ?_ ?_ ?_ <;> first | (rw [hbl]; decide) | decide | (simp only [GA, ↓GB, List.filterMap_cons, eq_self, BEq.rfl, simprocAttr, GDs]; done) | (simp only [GA, ↓GB, List.filterMap_cons, eq_self, BEq.rfl, simprocAttr, GDs]; first | (rw [wI64 (by omega) (by omega)]; rfl) | rfl; done)), by show l.length - (i + 1) < l.length - i; omega⟩
    · have hj : (l.getD i default).num = 5 := by omega
      have hq : ¬ (l.getD i default).kind = 2 := by omega
      rw [takeX_no hm (by omega) (show stepQ (l.getD i default) m = (m, false) by simp [-List.getD_eq_getElem?_getD, stepQ, hj, hq])] at hN0
      (refine hN0 _ _ ⟨[0, 1, 2, 3, 4, 5, 6, 7, 8, 9, 10, 11, 12], _, _, ?_, ?_, ?_, ⟨rfl, rfl⟩⟩; (focus exact LeR.of rfl trivial (by simp only [GA, ↓GB, List.filterMap_cons, eq_self, BEq.rfl, simprocAttr, GDs]) (by decide) rfl rfl rfl); rotate_left; (focus rfl))
      rfl
    · have hj : (l.getD i default).num = 5 := by omega
      have hq : (l.getD i default).kind = 2 := by have := bne_eq_false_iff_eq.1 hb; omega
      exact ⟨⟨(i + 1, { m with un := m.un ++ [(l.getD i default).s] }), by show i + 1 ≤ l.length; omega, by show m.sb.length ≤ i + 1; omega, by show (m.un ++ [(l.getD i default).s]).length ≤ i + 1; simp only [List.length_append, List.length_cons, List.length_nil]; omega, by show m.hv.length ≤ i + 1; omega, takeX_go hm (by omega) (by simp [-List.getD_eq_getElem?_getD, stepQ, hj, hq])⟩, [0, 1, 2, 3, 4, 5, 6, 7, 8, 9, 10, 16, 12, 13], by (refine LeR.of ?_ ?_ ?_ ?_ ?_ ?_ ?_ <;> first | (rw [hbl]; decide) | decide | (simp only [GA, ↓GB, List.filterMap_cons, eq_self, BEq.rfl, simprocAttr, GDs]; done) | (simp only [GA, ↓GB, List.filterMap_cons, eq_self, BEq.rfl, simprocAttr, GDs]; first | (rw [wI64 (by omega) (by omega)]; rfl) | rfl; done)), by show l.length - (i + 1) < l.length - i; omega⟩
    · have hj : (l.getD i default).num = 6 := by omega
      have hq : ¬ (l.getD i default).kind = 2 := by omega
      rw [takeX_no hm (by omega) (show stepQ (l.getD i default) m = (m, false) by simp [-List.getD_eq_getElem?_getD, stepQ, hj, hq])] at hN0
      (refine hN0 _ _ ⟨[0, 1, 2, 3, 4, 5, 6, 7, 8, 9, 10, 11, 12], _, _, ?_, ?_, ?_, ⟨rfl, rfl⟩⟩; (focus exact LeR.of rfl trivial (by simp only [GA, ↓GB, List.filterMap_cons, eq_self, BEq.rfl, simprocAttr, GDs]) (by decide) rfl rfl rfl); rotate_left; (focus rfl))
      rfl
    · have hj : (l.getD i default).num = 6 := by omega
      have hq : (l.getD i default).kind = 2 := by have := bne_eq_false_iff_eq.1 (by assumption : ((2 : Int) != ((l.getD i default).kind : Int)) = false); omega
      rw [takeX_no hm (by omega) (show stepQ (l.getD i default) m = ({ m with hv := m.hv ++ [(takeB stepH (l.getD i default).s ([], 0)).1] }, false) by simp [-List.getD_eq_getElem?_getD, stepQ, hj, hq, hb])] at hN0
      (refine hN0 _ _ ⟨[0, 1, 2, 3, 4, 5, 6, 7, 8, 9, 10, 11, 16], _, _, ?_, ?_, ?_, ⟨rfl, rfl⟩⟩; (focus exact LeR.of rfl trivial (by simp only [GA, ↓GB, List.filterMap_cons, eq_self, BEq.rfl, simprocAttr, GDs]) (by decide) rfl rfl rfl); rotate_left; (focus rfl))
      rfl
    · have hj : (l.getD i default).num = 6 := by omega
      have hq : (l.getD i default).kind = 2 := by have := bne_eq_false_iff_eq.1 (by assumption : ((2 : Int) != ((l.getD i default).kind : Int)) = false); omega
      exact ⟨⟨(i + 1, { m with hv := m.hv ++ [(takeB stepH (l.getD i default).s ([], 0)).1] }), by show i + 1 ≤ l.length; omega, by show m.sb.length ≤ i + 1; omega, by show m.un.length ≤ i + 1; omega, by show (m.hv ++ [(takeB stepH (l.getD i default).s ([], 0)).1]).length ≤ i + 1; simp only [List.length_append, List.length_cons, List.length_nil]; omega, takeX_go hm (by omega) (by simp [-List.getD_eq_getElem?_getD, stepQ, hj, hq, hb])⟩, [0, 1, 2, 3, 4, 5, 6, 7, 8, 9, 10, 11, 16, 13], by (refine LeR.of ?_ ?_ ?_ ?_ ?_ ?_ ?_ <;> first | (rw [hbl]; decide) | decide | (simp only [GA, ↓GB, List.filterMap_cons, eq_self, BEq.rfl, simprocAttr, GDs]; done) | (simp only [GA, ↓GB, List.filterMap_cons, eq_self, BEq.rfl, simprocAttr, GDs]; first | (rw [wI64 (by omega) (by omega)]; rfl) | rfl; done)), by show l.length - (i + 1) < l.length - i; omega⟩
    · have hj : (l.getD i default).num = 7 := by omega
      have hq : ¬ (l.getD i default).kind = 2 := by omega
      rw [takeX_no hm (by omega) (show stepQ (l.getD i default) m = (m, false) by simp [-List.getD_eq_getElem?_getD, stepQ, hj, hq])] at hN0
      (refine hN0 _ _ ⟨[0, 1, 2, 3, 4, 5, 6, 7, 8, 9, 10, 11, 12], _, _, ?_, ?_, ?_, ⟨rfl, rfl⟩⟩; (focus exact LeR.of rfl trivial (by simp only [GA, ↓GB, List.filterMap_cons, eq_self, BEq.rfl, simprocAttr, GDs]) (by decide) rfl rfl rfl); rotate_left; (focus rfl))
      rfl
    · have hj : (l.getD i default).num = 7 := by omega
      have hq : (l.getD i default).kind = 2 := by have := bne_eq_false_iff_eq.1 hb; omega
      exact ⟨⟨(i + 1, { m with det := (l.getD i default).s }), by show i + 1 ≤ l.length; omega, by show m.sb.length ≤ i + 1; omega, by show m.un.length ≤ i + 1; omega, by show m.hv.length ≤ i + 1; omega, takeX_go hm (by omega) (by simp [-List.getD_eq_getElem?_getD, stepQ, hj, hq])⟩, [0, 1, 2, 3, 4, 5, 6, 7, 8, 9, 10, 11, 12, 13], by (refine LeR.of ?_ ?_ ?_ ?_ ?_ ?_ ?_ <;> first | (rw [hbl]; decide) | decide | (simp only [GA, ↓GB, List.filterMap_cons, eq_self, BEq.rfl, simprocAttr, GDs]; done) | (simp only [GA, ↓GB, List.filterMap_cons, eq_self, BEq.rfl, simprocAttr, GDs]; first | (rw [wI64 (by omega) (by omega)]; rfl) | rfl; done)), by show l.length - (i + 1) < l.length - i; omega⟩
    · obtain ⟨g1, g2, g3, g4, g5, g6, g7⟩ := hk1
      have k1 : ¬ (l.getD i default).num = 1 := fun h => by rw [h] at g1; cases g1
      have k2 : ¬ (l.getD i default).num = 2 := fun h => by rw [h] at g2; cases g2
      have k3 : ¬ (l.getD i default).num = 3 := fun h => by rw [h] at g3; cases g3
      have k4 : ¬ (l.getD i default).num = 4 := fun h => by rw [h] at g4; cases g4
      have k5 : ¬ (l.getD i default).num = 5 := fun h => by rw [h] at g5; cases g5
      have k6 : ¬ (l.getD i default).num = 6 := fun h => by rw [h] at g6; cases g6
      have k7 : ¬ (l.getD i default).num = 7 := fun h => by rw [h] at g7; cases g7
      exact ⟨⟨(i + 1, m), by show i + 1 ≤ l.length; omega, by show m.sb.length ≤ i + 1; omega, by show m.un.length ≤ i + 1; omega, by show m.hv.length ≤ i + 1; omega, takeX_go hm (by omega) (by simp [-List.getD_eq_getElem?_getD, stepQ, k1, k2, k3, k4, k5, k6, k7])⟩, [0, 1, 2, 3, 4, 5, 6, 7, 8, 9, 10, 11, 12, 13], by (refine LeR.of ?_ ?_ ?_ ?_ ?_ ?_ ?_ <;> first | (rw [hbl]; decide) | decide | (simp only [GA, ↓GB, List.filterMap_cons, eq_self, BEq.rfl, simprocAttr, GDs]; done) | (simp only [GA, ↓GB, List.filterMap_cons, eq_self, BEq.rfl, simprocAttr, GDs]; first | (rw [wI64 (by omega) (by omega)]; rfl) | rfl; done)), by show l.length - (i + 1) < l.length - i; omega⟩
    · rw [takeX_end hm (by omega)] at hN0
      (refine hN0 _ _ ⟨[0, 1, 2, 3, 4, 5, 6, 7, 8, 9, 10, 11, 12], _, _, ?_, ?_, ?_, ⟨rfl, rfl⟩⟩; (focus exact LeR.of rfl trivial (by simp only [GA, ↓GB, List.filterMap_cons, eq_self, BEq.rfl, simprocAttr, GDs]) (by decide) rfl rfl rfl); rotate_left; (focus rfl))
      rfl
end Go.Proofs.YtbdacbcpniegiaaDoor
namespace Go.Proofs.YtbdacbcpniegiaaDoor
open Go Go.RowKit Go.Proofs Go.Sx
set_option maxHeartbeats 8000000
set_option maxRecDepth 100000
set_option linter.unusedSimpArgs false
set_option linter.unusedVariables false
def starB (s : List UInt8) : Bool := s == [42] || nameB s
theorem star_any (s : List UInt8) (hs : s.length ≤ 9223372036854775807) (w : World) : Calls Tryd.prog 100 #[.string (B s)] w fun e w' => e = .returned (.bool (starB s)) ∧ Below w.heap.size w w' := by
  refine calls_pureK (args := [.string (B s)]) w Tryd.func100 rfl Tryd.ntmps100 (by simp) ?_
  intro X K hX hK
  have hnt : X.nt = 9 := by rw [hX]
  have hwi : X.wi = w := by rw [hX]
  have hP : X.P = Tryd.prog := by rw [hX]
  have hown : X.own = [] := by rw [hX]
  have hbl : X.base.length = 0 := by rw [hX]; rfl
  clear hX
  have hT : calleeOk X.P 101 = true := by rw [hP]; exact Ty.co101
  repeat' (first
    | (refine SX.seqK ?_; intro N hN)
    | ((first | (refine SX.ops ?_)); simp only [GA, ↓GB, List.filterMap_cons, eq_self, BEq.rfl, simprocAttr, hnt, hT])
    | ((first | refine SX.skip ?_ | refine SX.exit ?_ | refine SX.label ?_); try simp only [GA, ↓GB, List.filterMap_cons, eq_self, BEq.rfl, simprocAttr])
    | (refine SX.cond rfl (fun hb => ?_) (fun hb => ?_) <;> ((first | cases hb | (simp only [decide_eq_true_eq, decide_eq_false_iff_not, beq_iff_eq, beq_eq_false_iff_ne, bne_iff_ne, Bool.and_eq_true, Bool.or_eq_true, Bool.not_eq_true', Bool.not_eq_false', Bool.and_eq_false_iff, Bool.or_eq_false_iff, Int.not_lt, Int.not_le] at hb) | skip) <;> (first | (exfalso; omega) | skip)))
    | (refine SX.ret ?_; try simp only [GA, ↓GB, List.filterMap_cons, eq_self, BEq.rfl, simprocAttr])
    | (refine hN _ ?_; clear hN N)
    | (refine hK _ _ (Fin.res rfl hown ?_); simp only [GA, ↓GB, List.filterMap_cons, eq_self, BEq.rfl, simprocAttr, f_a, f_b, f_n, f_c, f_B, f_v, f_g, f_0, f_1, f_2, hT, hwi]; intro w' hbel; refine Done.out ?_)
    | (clear hN N; first | (refine hN _ ?_; clear hN N) | (clear hN N; first | (refine hN _ ?_; clear hN N) | (clear hN N; first | (refine hN _ ?_; clear hN N) | (clear hN N; first | (refine hN _ ?_; clear hN N) | (clear hN N; first | (refine hN _ ?_; clear hN N) | (refine hN _ ?_; clear hN N))))))
    | (refine bif2.mk (fun hb => ?_) (fun hb => ?_) <;> (try simp only [hb, GA, ↓GB, List.filterMap_cons, eq_self, BEq.rfl, simprocAttr, hnt, hT]) <;> ((first | cases hb | (simp only [decide_eq_true_eq, decide_eq_false_iff_not, beq_iff_eq, beq_eq_false_iff_ne, bne_iff_ne, Bool.and_eq_true, Bool.or_eq_true, Bool.not_eq_true', Bool.not_eq_false', Bool.and_eq_false_iff, Bool.or_eq_false_iff, Int.not_lt, Int.not_le] at hb) | skip) <;> (first | (exfalso; omega) | skip)))
    | ((first | (refine CallVC.pv hP (name_any _ hs) rfl ?_) | (refine CallQ.pv hP (name_any _ hs) rfl ?_)); simp only [GA, ↓GB, List.filterMap_cons, eq_self, BEq.rfl, simprocAttr, hnt, hT])
    | (refine SX.block ?_)
    | (refine and_mk ?_ ?_; (focus first | decide | omega | rfl | assumption | (simp only [List.length_append, List.length_cons, List.length_nil, B_size]; omega) | (simp; done)))
    | (refine And.intro ?_ ?_))
  all_goals (try refine Done.mk ?_)
  all_goals (refine ⟨?_, hbel⟩; simp_all [starB])
theorem typed_any (t : Int) (w : World) : Calls Tryd.prog 98 #[.int .i64 t] w fun e w' => e = .returned (.bool (decide (1 ≤ t) && decide (t ≤ 5))) ∧ Below w.heap.size w w' := by
  refine calls_pureK (args := [.int .i64 t]) w Tryd.func98 rfl Tryd.ntmps98 (by simp) ?_
  intro X K hX hK
  have hnt : X.nt = 9 := by rw [hX]
  have hwi : X.wi = w := by rw [hX]
  have hP : X.P = Tryd.prog := by rw [hX]
  have hown : X.own = [] := by rw [hX]
  have hbl : X.base.length = 0 := by rw [hX]; rfl
  clear hX
  have hT : True := trivial
  repeat' (first
    | (refine SX.seqK ?_; intro N hN)
    | ((first | (refine SX.ops ?_)); simp only [GA, ↓GB, List.filterMap_cons, eq_self, BEq.rfl, simprocAttr, hnt, hT])
    | ((first | refine SX.skip ?_ | refine SX.exit ?_ | refine SX.label ?_); try simp only [GA, ↓GB, List.filterMap_cons, eq_self, BEq.rfl, simprocAttr])
    | (refine SX.cond rfl (fun hb => ?_) (fun hb => ?_) <;> ((first | cases hb | (simp only [decide_eq_true_eq, decide_eq_false_iff_not, beq_iff_eq, beq_eq_false_iff_ne, bne_iff_ne, Bool.and_eq_true, Bool.or_eq_true, Bool.not_eq_true', Bool.not_eq_false', Bool.and_eq_false_iff, Bool.or_eq_false_iff, Int.not_lt, Int.not_le] at hb) | skip) <;> (first | (exfalso; omega) | skip)))
    | (refine SX.ret ?_; try simp only [GA, ↓GB, List.filterMap_cons, eq_self, BEq.rfl, simprocAttr])
    | (refine hN _ ?_; clear hN N)
    | (refine hK _ _ (Fin.res rfl hown ?_); simp only [GA, ↓GB, List.filterMap_cons, eq_self, BEq.rfl, simprocAttr, f_a, f_b, f_n, f_c, f_B, f_v, f_g, f_0, f_1, f_2, hT, hwi]; intro w' hbel; refine Done.out ?_)
    | (clear hN N; first | (refine hN _ ?_; clear hN N) | (clear hN N; first | (refine hN _ ?_; clear hN N) | (clear hN N; first | (refine hN _ ?_; clear hN N) | (clear hN N; first | (refine hN _ ?_; clear hN N) | (clear hN N; first | (refine hN _ ?_; clear hN N) | (refine hN _ ?_; clear hN N))))))
    | (refine bif2.mk (fun hb => ?_) (fun hb => ?_) <;> (try simp only [hb, GA, ↓GB, List.filterMap_cons, eq_self, BEq.rfl, simprocAttr, hnt, hT]) <;> ((first | cases hb | (simp only [decide_eq_true_eq, decide_eq_false_iff_not, beq_iff_eq, beq_eq_false_iff_ne, bne_iff_ne, Bool.and_eq_true, Bool.or_eq_true, Bool.not_eq_true', Bool.not_eq_false', Bool.and_eq_false_iff, Bool.or_eq_false_iff, Int.not_lt, Int.not_le] at hb) | skip) <;> (first | (exfalso; omega) | skip)))
    | (refine SX.block ?_)
    | (refine and_mk ?_ ?_; (focus first | decide | omega | rfl | assumption | (simp only [List.length_append, List.length_cons, List.length_nil, B_size]; omega) | (simp; done)))
    | (refine And.intro ?_ ?_))
  all_goals (try refine Done.mk ?_)
  all_goals (refine ⟨?_, hbel⟩; simp_all <;> (intros; omega))
def idxS (p : List UInt8 → Bool) (l : List (List UInt8)) : Int := match l.findIdx? p with | some i => i | none => -1
theorem idxS_at (p : List UInt8 → Bool) (l : List (List UInt8)) (i : Nat) (hi : i < l.length) (hp : p (l.getD i []) = true) (hn : ∀ j, j < i → p (l.getD j []) = false) : idxS p l = i := by
  have : l.findIdx? p = some i := by
    rw [List.findIdx?_eq_some_iff_getElem]
    refine ⟨hi, by simpa [List.getD_eq_getElem?_getD, List.getElem?_eq_getElem hi] using hp, fun j hj => ?_⟩
    have := hn j hj
    rw [List.getD_eq_getElem?_getD, List.getElem?_eq_getElem (by omega)] at this
    simpa using this
  simp [idxS, this]
theorem idxS_none (p : List UInt8 → Bool) (l : List (List UInt8)) (hn : ∀ j, j < l.length → p (l.getD j []) = false) : idxS p l = -1 := by
  have : l.findIdx? p = none := by
    rw [List.findIdx?_eq_none_iff]
    intro x hx
    obtain ⟨j, hj, rfl⟩ := List.mem_iff_getElem.1 hx
    have := hn j hj
    rw [List.getD_eq_getElem?_getD, List.getElem?_eq_getElem hj] at this
    simpa using this
  simp [idxS, this]
theorem idxS_all (p : List UInt8 → Bool) (l : List (List UInt8)) : decide (0 ≤ idxS p l) = !(l.all fun s => !p s) := by
  cases h : l.findIdx? p with
  | none =>
    have : (l.all fun s => !p s) = true := by
      rw [List.all_eq_true]
      intro x hx
      rw [List.findIdx?_eq_none_iff] at h
      rw [h x hx]; rfl
    rw [this]; simp [idxS, h]
  | some i =>
    have : (l.all fun s => !p s) = false := by
      rw [List.all_eq_false]
      rw [List.findIdx?_eq_some_iff_getElem] at h
      obtain ⟨hi, hp, _⟩ := h
      exact ⟨l[i], List.getElem_mem hi, by rw [hp]; decide⟩
    rw [this]; simp [idxS, h]
theorem srow_at (l : List (List UInt8)) (i : Nat) (h : i < l.length) : (l.map fun s => Value.string (B s))[i * 1]? = some (.string (B (l.getD i []))) := by
  rw [Nat.mul_one, List.getElem?_map, List.getD_eq_getElem?_getD, List.getElem?_eq_getElem h]; rfl
theorem getD_bd {l : List (List UInt8)} {n : Nat} (h : ∀ s ∈ l, s.length ≤ n) (i : Nat) : (l.getD i []).length ≤ n := by
  rw [List.getD_eq_getElem?_getD]
  cases hq : l[i]? with
  | none => simp
  | some s => exact h s (List.mem_of_getElem? hq)
theorem named1Star (s : List UInt8) (hs : s.length ≤ 9223372036854775807) : Ctr Tryd.prog [] 139 [.cells [.clo 100 [] []] 168] [vv (.string (B s)), .one (.c (.loc 0 0))] (fun os v => os = [.cells [.clo 100 [] []] 168] ∧ v = vv (.bool (!starB s))) := by
  refine Ctr.less ?_
  intro X0 hP0 hG0 N0 hN0
  refine CallVC.inline (f := 139) (by rw [hP0]; exact Tryd.func139) rfl Tryd.ntmps139 rfl (by simp) ?_
  intro X K hU hnt hbl hK
  have hP : X.P = Tryd.prog := by rw [hU.P, hP0]
  have hG := hG0.under hU
  have hT : aggOf X.P 168 = some false ∧ szOf X.P 168 = some 1 := by rw [hP]; exact ⟨Ty.ag168, Ty.sz168⟩
  simp only [GA, ↓GB, List.filterMap_cons, eq_self, BEq.rfl, simprocAttr] at hbl ⊢
  have hc : calleeOk X.P 100 = true := by rw [hP]; kernel_rfl
  repeat' (first
    | (refine SX.seqK ?_; intro N hN)
    | ((first | (refine SX.ops ?_)); simp only [GA, ↓GB, List.filterMap_cons, eq_self, BEq.rfl, simprocAttr, hnt, hT, hc])
    | ((first | refine SX.skip ?_ | refine SX.exit ?_ | refine SX.label ?_); try simp only [GA, ↓GB, List.filterMap_cons, eq_self, BEq.rfl, simprocAttr])
    | (refine SX.cond rfl (fun hb => ?_) (fun hb => ?_) <;> ((first | cases hb | (simp only [decide_eq_true_eq, decide_eq_false_iff_not, beq_iff_eq, beq_eq_false_iff_ne, bne_iff_ne, Bool.and_eq_true, Bool.or_eq_true, Bool.not_eq_true', Bool.not_eq_false', Bool.and_eq_false_iff, Bool.or_eq_false_iff, Int.not_lt, Int.not_le] at hb) | skip) <;> (first | (exfalso; omega) | skip)))
    | (refine SX.ret ?_; try simp only [GA, ↓GB, List.filterMap_cons, eq_self, BEq.rfl, simprocAttr])
    | (refine hN _ ?_; clear hN N)
    | ((first | refine hK _ _ (FinI.ret3 ?_) | refine hK _ _ (FinI.nrm3 ?_)); simp only [GA, ↓GB, List.filterMap_cons, eq_self, BEq.rfl, simprocAttr, finP_s, hnt, hT, hc]; refine Done.out ?_)
    | (clear hN N; first | (refine hN _ ?_; clear hN N) | (clear hN N; first | (refine hN _ ?_; clear hN N) | (clear hN N; first | (refine hN _ ?_; clear hN N) | (clear hN N; first | (refine hN _ ?_; clear hN N) | (clear hN N; first | (refine hN _ ?_; clear hN N) | (refine hN _ ?_; clear hN N))))))
    | (refine bif2.mk (fun hb => ?_) (fun hb => ?_) <;> (try simp only [hb, GA, ↓GB, List.filterMap_cons, eq_self, BEq.rfl, simprocAttr, hnt, hT, hc]) <;> ((first | cases hb | (simp only [decide_eq_true_eq, decide_eq_false_iff_not, beq_iff_eq, beq_eq_false_iff_ne, bne_iff_ne, Bool.and_eq_true, Bool.or_eq_true, Bool.not_eq_true', Bool.not_eq_false', Bool.and_eq_false_iff, Bool.or_eq_false_iff, Int.not_lt, Int.not_le] at hb) | skip) <;> (first | (exfalso; omega) | skip)))
    | ((first | (refine CallVC.pv hP (star_any s hs) rfl ?_) | (refine CallQ.pv hP (star_any s hs) rfl ?_)); simp only [GA, ↓GB, List.filterMap_cons, eq_self, BEq.rfl, simprocAttr, hnt, hT, hc])
    | (refine SX.block ?_)
    | (refine and_mk ?_ ?_; (focus first | decide | omega | rfl | assumption | (simp only [List.length_append, List.length_cons, List.length_nil, B_size]; omega) | (simp; done)))
    | (refine And.intro ?_ ?_))
  all_goals (try refine Done.mk ?_)
  all_goals ((refine hN0 _ _ ⟨[0], _, _, ?_, ?_, ?_, ⟨rfl, rfl⟩⟩; (focus exact LeR.of rfl trivial (by simp only [GA, ↓GB, List.filterMap_cons, eq_self, BEq.rfl, simprocAttr, GDs]) (by decide) rfl rfl rfl); rotate_left; (focus rfl)); rfl)
theorem indexStar (l : List (List UInt8)) (hl : l.length ≤ 1099511627776) (hb : ∀ s ∈ l, s.length ≤ 9223372036854775807) : Ctr Tryd.prog [] 154 [srow l, .cells [.clo 100 [] []] 168] [.one (.c (.row 0)), .one (.c (.clo 139 [] [.loc 1 0]))]
    (fun os v => os = [srow l, .cells [.clo 100 [] []] 168] ∧ v = vv (.int .i64 (idxS (fun s => !starB s) l))) := by
  have hrun : ∀ i : Nat, Ctr Tryd.prog [] 139 [.cells [.clo 100 [] []] 168] [vv (.string (B (l.getD i []))), .one (.c (.loc 0 0))] (fun os v => os = [.cells [.clo 100 [] []] 168] ∧ v = vv (.bool (!starB (l.getD i [])))) := fun i => named1Star (l.getD i []) (getD_bd hb i)
  refine Ctr.less ?_
  intro X0 hP0 hG0 N0 hN0
  refine CallVC.inline (f := 154) (by rw [hP0]; exact Tryd.func154) rfl Tryd.ntmps154 rfl (by simp) ?_
  intro X K hU hnt hbl hK
  have hP : X.P = Tryd.prog := by rw [hU.P, hP0]
  have hG := hG0.under hU
  have hT : X.P.underlying 38 = some (TypeDesc.slice 9) ∧ elemSz X.P 38 = some (9, 1) ∧ aggOf X.P 9 = some false ∧ szOf X.P 9 = some 1 := by rw [hP]; exact ⟨Tryd.underlying38, Ty.el38, Ty.ag9, Ty.sz9⟩
  simp only [GA, ↓GB, List.filterMap_cons, eq_self, BEq.rfl, simprocAttr] at hbl ⊢
  have hc : calleeOk X.P 139 = true := by rw [hP]; kernel_rfl
  repeat' (first
    | (refine SX.seqK ?_; intro N hN)
    | ((first | (refine SX.ops ?_)); simp only [GA, ↓GB, List.filterMap_cons, eq_self, BEq.rfl, simprocAttr, hnt, hT, hc])
    | ((first | refine SX.skip ?_ | refine SX.exit ?_ | refine SX.label ?_); try simp only [GA, ↓GB, List.filterMap_cons, eq_self, BEq.rfl, simprocAttr])
    | (refine SX.cond rfl (fun hb => ?_) (fun hb => ?_) <;> ((first | cases hb | (simp only [decide_eq_true_eq, decide_eq_false_iff_not, beq_iff_eq, beq_eq_false_iff_ne, bne_iff_ne, Bool.and_eq_true, Bool.or_eq_true, Bool.not_eq_true', Bool.not_eq_false', Bool.and_eq_false_iff, Bool.or_eq_false_iff, Int.not_lt, Int.not_le] at hb) | skip) <;> (first | (exfalso; omega) | skip)))
    | (refine SX.ret ?_; try simp only [GA, ↓GB, List.filterMap_cons, eq_self, BEq.rfl, simprocAttr])
    | (refine hN _ ?_; clear hN N)
    | ((first | refine hK _ _ (FinI.ret3 ?_) | refine hK _ _ (FinI.nrm3 ?_)); simp only [GA, ↓GB, List.filterMap_cons, eq_self, BEq.rfl, simprocAttr, finP_s, hnt, hT, hc]; refine Done.out ?_)
    | (clear hN N; first | (refine hN _ ?_; clear hN N) | (clear hN N; first | (refine hN _ ?_; clear hN N) | (clear hN N; first | (refine hN _ ?_; clear hN N) | (clear hN N; first | (refine hN _ ?_; clear hN N) | (clear hN N; first | (refine hN _ ?_; clear hN N) | (refine hN _ ?_; clear hN N))))))
    | (refine bif2.mk (fun hb => ?_) (fun hb => ?_) <;> (try simp only [hb, GA, ↓GB, List.filterMap_cons, eq_self, BEq.rfl, simprocAttr, hnt, hT, hc]) <;> ((first | cases hb | (simp only [decide_eq_true_eq, decide_eq_false_iff_not, beq_iff_eq, beq_eq_false_iff_ne, bne_iff_ne, Bool.and_eq_true, Bool.or_eq_true, Bool.not_eq_true', Bool.not_eq_false', Bool.and_eq_false_iff, Bool.or_eq_false_iff, Int.not_lt, Int.not_le] at hb) | skip) <;> (first | (exfalso; omega) | skip)))
    | ((first | (refine Ctr.use (hrun i) hP ?_ [1] ?_ rfl rfl ?_; (focus (intro p hp; cases hp)); (focus (refine LeR.of rfl trivial ?_ ?_ ?_ ?_ ?_ <;> first | decide | (simp only [GA, ↓GB, List.filterMap_cons, eq_self, BEq.rfl, simprocAttr, GDs]; done))); intro os' s hR; obtain ⟨rfl, rfl⟩ := hR)); simp only [GA, ↓GB, List.filterMap_cons, eq_self, BEq.rfl, simprocAttr, hnt, hT, hc])
    | (refine SX.loop (ι := { i : Nat // i ≤ l.length ∧ ∀ j, j < i → (!starB (l.getD j [])) = false }) (fun i => ⟨[(0, .one (.c (.row 0))), (1, .one (.c (.clo 139 [] [.loc 1 0]))), (7, vv (.int .i64 l.length)), (8, vv (.int .i64 i.1))], [srow l, .cells [.clo 100 [] []] 168]⟩) (fun i => l.length - i.1) ⟨0, Nat.zero_le _, fun j hj => absurd hj (Nat.not_lt_zero j)⟩ ⟨[0, 1], by (refine LeR.of ?_ ?_ ?_ ?_ ?_ ?_ ?_ <;> first | (rw [hbl]; decide) | decide | (simp only [GA, ↓GB, List.filterMap_cons, eq_self, BEq.rfl, simprocAttr, GDs]; done) | (simp only [GA, ↓GB, List.filterMap_cons, eq_self, BEq.rfl, simprocAttr, GDs]; rfl; done))⟩ ?_ <;> rintro ⟨i, hi, hno⟩ <;> simp only [] at hi hno ⊢)
    | (refine ⟨_, srow_at _ _ (by omega), ?_⟩ <;> (try simp only [GA, ↓GB, List.filterMap_cons, eq_self, BEq.rfl, simprocAttr, hnt, hT]))
    | (refine SX.block ?_)
    | (refine and_mk ?_ ?_; (focus first | decide | omega | rfl | assumption | (simp only [List.length_append, List.length_cons, List.length_nil, B_size]; omega) | (simp; done)))
    | (refine And.intro ?_ ?_))
  all_goals (try refine Done.mk ?_)
  · rw [idxS_at (fun s => !starB s) l i (by omega) (by simpa using hb) hno] at hN0
    (refine hN0 _ _ ⟨[0, 1], _, _, ?_, ?_, ?_, ⟨rfl, rfl⟩⟩; (focus exact LeR.of rfl trivial (by simp only [GA, ↓GB, List.filterMap_cons, eq_self, BEq.rfl, simprocAttr, GDs]) (by decide) rfl rfl rfl); rotate_left; (focus rfl))
    rfl
  · exact ⟨⟨i + 1, by omega, fun j hj => by
      rcases Nat.lt_or_eq_of_le (Nat.le_of_lt_succ hj) with h | rfl
      · exact hno j h
      · simpa using hb⟩, [0, 1], by (refine LeR.of ?_ ?_ ?_ ?_ ?_ ?_ ?_ <;> first | (rw [hbl]; decide) | decide | (simp only [GA, ↓GB, List.filterMap_cons, eq_self, BEq.rfl, simprocAttr, GDs]; done) | (simp only [GA, ↓GB, List.filterMap_cons, eq_self, BEq.rfl, simprocAttr, GDs]; first | (rw [wI64 (by omega) (by omega)]; rfl) | rfl; done)), by show l.length - (i + 1) < l.length - i; omega⟩
  · rw [idxS_none (fun s => !starB s) l (fun j hj => hno j (by omega))] at hN0
    (refine hN0 _ _ ⟨[0, 1], _, _, ?_, ?_, ?_, ⟨rfl, rfl⟩⟩; (focus exact LeR.of rfl trivial (by simp only [GA, ↓GB, List.filterMap_cons, eq_self, BEq.rfl, simprocAttr, GDs]) (by decide) rfl rfl rfl); rotate_left; (focus rfl))
    rfl
theorem containsStar (l : List (List UInt8)) (hl : l.length ≤ 1099511627776) (hb : ∀ s ∈ l, s.length ≤ 9223372036854775807) : Ctr Tryd.prog [] 138 [srow l, .cells [.clo 100 [] []] 168] [.one (.c (.row 0)), .one (.c (.clo 139 [] [.loc 1 0]))]
    (fun os v => os = [srow l, .cells [.clo 100 [] []] 168] ∧ v = vv (.bool (!(l.all starB)))) := by
  have hi := indexStar l hl hb
  have he : decide (0 ≤ idxS (fun s => !starB s) l) = !(l.all starB) := by
    rw [idxS_all]; simp
  refine Ctr.less ?_
  intro X0 hP0 hG0 N0 hN0
  refine CallVC.inline (f := 138) (by rw [hP0]; exact Tryd.func138) rfl Tryd.ntmps138 rfl (by simp) ?_
  intro X K hU hnt hbl hK
  have hP : X.P = Tryd.prog := by rw [hU.P, hP0]
  have hG := hG0.under hU
  have hT : calleeOk X.P 154 = true := by rw [hP]; exact Ty.co154
  simp only [GA, ↓GB, List.filterMap_cons, eq_self, BEq.rfl, simprocAttr] at hbl ⊢
  repeat' (first
    | (refine SX.seqK ?_; intro N hN)
    | ((first | (refine SX.ops ?_)); simp only [GA, ↓GB, List.filterMap_cons, eq_self, BEq.rfl, simprocAttr, hnt, hT, he])
    | ((first | refine SX.skip ?_ | refine SX.exit ?_ | refine SX.label ?_); try simp only [GA, ↓GB, List.filterMap_cons, eq_self, BEq.rfl, simprocAttr])
    | (refine SX.cond rfl (fun hb => ?_) (fun hb => ?_) <;> ((first | cases hb | (simp only [decide_eq_true_eq, decide_eq_false_iff_not, beq_iff_eq, beq_eq_false_iff_ne, bne_iff_ne, Bool.and_eq_true, Bool.or_eq_true, Bool.not_eq_true', Bool.not_eq_false', Bool.and_eq_false_iff, Bool.or_eq_false_iff, Int.not_lt, Int.not_le] at hb) | skip) <;> (first | (exfalso; omega) | skip)))
    | (refine SX.ret ?_; try simp only [GA, ↓GB, List.filterMap_cons, eq_self, BEq.rfl, simprocAttr])
    | (refine hN _ ?_; clear hN N)
    | ((first | refine hK _ _ (FinI.ret3 ?_) | refine hK _ _ (FinI.nrm3 ?_)); simp only [GA, ↓GB, List.filterMap_cons, eq_self, BEq.rfl, simprocAttr, finP_s, hnt, hT, he]; refine Done.out ?_)
    | (clear hN N; first | (refine hN _ ?_; clear hN N) | (clear hN N; first | (refine hN _ ?_; clear hN N) | (clear hN N; first | (refine hN _ ?_; clear hN N) | (clear hN N; first | (refine hN _ ?_; clear hN N) | (clear hN N; first | (refine hN _ ?_; clear hN N) | (refine hN _ ?_; clear hN N))))))
    | (refine bif2.mk (fun hb => ?_) (fun hb => ?_) <;> (try simp only [hb, GA, ↓GB, List.filterMap_cons, eq_self, BEq.rfl, simprocAttr, hnt, hT, he]) <;> ((first | cases hb | (simp only [decide_eq_true_eq, decide_eq_false_iff_not, beq_iff_eq, beq_eq_false_iff_ne, bne_iff_ne, Bool.and_eq_true, Bool.or_eq_true, Bool.not_eq_true', Bool.not_eq_false', Bool.and_eq_false_iff, Bool.or_eq_false_iff, Int.not_lt, Int.not_le] at hb) | skip) <;> (first | (exfalso; omega) | skip)))
    | ((first | (refine Ctr.use (hi) hP ?_ [0,1] ?_ rfl rfl ?_; (focus (intro p hp; cases hp)); (focus (refine LeR.of rfl trivial ?_ ?_ ?_ ?_ ?_ <;> first | decide | (simp only [GA, ↓GB, List.filterMap_cons, eq_self, BEq.rfl, simprocAttr, GDs]; done))); intro os' s hR; obtain ⟨rfl, rfl⟩ := hR)); simp only [GA, ↓GB, List.filterMap_cons, eq_self, BEq.rfl, simprocAttr, hnt, hT, he])
    | (refine SX.block ?_)
    | (refine and_mk ?_ ?_; (focus first | decide | omega | rfl | assumption | (simp only [List.length_append, List.length_cons, List.length_nil, B_size]; omega) | (simp; done)))
    | (refine And.intro ?_ ?_))
  all_goals (try refine Done.mk ?_)
  all_goals ((refine hN0 _ _ ⟨[0, 1], _, _, ?_, ?_, ?_, ⟨rfl, rfl⟩⟩; (focus exact LeR.of rfl trivial (by simp only [GA, ↓GB, List.filterMap_cons, eq_self, BEq.rfl, simprocAttr, GDs]) (by decide) rfl rfl rfl); rotate_left; (focus rfl)); rfl)
theorem namedStar (l : List (List UInt8)) (hl : l.length ≤ 1099511627776) (hb : ∀ s ∈ l, s.length ≤ 9223372036854775807) : Ctr Tryd.prog [] 99 [srow l] [.one (.c (.row 0)), .one (.c (.clo 100 [] []))]
    (fun os v => os = [srow l] ∧ v = vv (.bool (decide ((l.length : Int) ≤ 64) && l.all starB))) := by
  have hi := containsStar l hl hb
  refine Ctr.less ?_
  intro X0 hP0 hG0 N0 hN0
  refine CallVC.inline (f := 99) (by rw [hP0]; exact Tryd.func99) rfl Tryd.ntmps99 rfl (by simp) ?_
  intro X K hU hnt hbl hK
  have hP : X.P = Tryd.prog := by rw [hU.P, hP0]
  have hG := hG0.under hU
  have hT : X.P.underlying 38 = some (TypeDesc.slice 9) ∧ calleeOk X.P 139 = true ∧ calleeOk X.P 138 = true := by rw [hP]; exact ⟨Tryd.underlying38, Ty.co139, Ty.co138⟩
  simp only [GA, ↓GB, List.filterMap_cons, eq_self, BEq.rfl, simprocAttr] at hbl ⊢
  repeat' (first
    | (refine SX.seqK ?_; intro N hN)
    | ((first | (refine SX.ops ?_)); simp only [GA, ↓GB, List.filterMap_cons, eq_self, BEq.rfl, simprocAttr, hnt, hT])
    | ((first | refine SX.skip ?_ | refine SX.exit ?_ | refine SX.label ?_); try simp only [GA, ↓GB, List.filterMap_cons, eq_self, BEq.rfl, simprocAttr])
    | (refine SX.cond rfl (fun hb => ?_) (fun hb => ?_) <;> ((first | cases hb | (simp only [decide_eq_true_eq, decide_eq_false_iff_not, beq_iff_eq, beq_eq_false_iff_ne, bne_iff_ne, Bool.and_eq_true, Bool.or_eq_true, Bool.not_eq_true', Bool.not_eq_false', Bool.and_eq_false_iff, Bool.or_eq_false_iff, Int.not_lt, Int.not_le] at hb) | skip) <;> (first | (exfalso; omega) | skip)))
    | (refine SX.ret ?_; try simp only [GA, ↓GB, List.filterMap_cons, eq_self, BEq.rfl, simprocAttr])
    | (refine hN _ ?_; clear hN N)
    | ((first | refine hK _ _ (FinI.ret3 ?_) | refine hK _ _ (FinI.nrm3 ?_)); simp only [GA, ↓GB, List.filterMap_cons, eq_self, BEq.rfl, simprocAttr, finP_s, hnt, hT]; refine Done.out ?_)
    | (clear hN N; first | (refine hN _ ?_; clear hN N) | (clear hN N; first | (refine hN _ ?_; clear hN N) | (clear hN N; first | (refine hN _ ?_; clear hN N) | (clear hN N; first | (refine hN _ ?_; clear hN N) | (clear hN N; first | (refine hN _ ?_; clear hN N) | (refine hN _ ?_; clear hN N))))))
    | (refine bif2.mk (fun hb => ?_) (fun hb => ?_) <;> (try simp only [hb, GA, ↓GB, List.filterMap_cons, eq_self, BEq.rfl, simprocAttr, hnt, hT]) <;> ((first | cases hb | (simp only [decide_eq_true_eq, decide_eq_false_iff_not, beq_iff_eq, beq_eq_false_iff_ne, bne_iff_ne, Bool.and_eq_true, Bool.or_eq_true, Bool.not_eq_true', Bool.not_eq_false', Bool.and_eq_false_iff, Bool.or_eq_false_iff, Int.not_lt, Int.not_le] at hb) | skip) <;> (first | (exfalso; omega) | skip)))
    | ((first | (refine Ctr.use (hi) hP ?_ [0,1] ?_ rfl rfl ?_; (focus (intro p hp; cases hp)); (focus (refine LeR.of rfl trivial ?_ ?_ ?_ ?_ ?_ <;> first | decide | (simp only [GA, ↓GB, List.filterMap_cons, eq_self, BEq.rfl, simprocAttr, GDs]; done))); intro os' s hR; obtain ⟨rfl, rfl⟩ := hR)); simp only [GA, ↓GB, List.filterMap_cons, eq_self, BEq.rfl, simprocAttr, hnt, hT])
    | (refine SX.block ?_)
    | (refine and_mk ?_ ?_; (focus first | decide | omega | rfl | assumption | (simp only [List.length_append, List.length_cons, List.length_nil, B_size]; omega) | (simp; done)))
    | (refine And.intro ?_ ?_))
  all_goals (try refine Done.mk ?_)
  · rw [decide_eq_true hb, Bool.true_and] at hN0
    rw [Bool.not_not]
    (refine hN0 _ _ ⟨[0], _, _, ?_, ?_, ?_, ⟨rfl, rfl⟩⟩; (focus exact LeR.of rfl trivial (by simp only [GA, ↓GB, List.filterMap_cons, eq_self, BEq.rfl, simprocAttr, GDs]) (by decide) rfl rfl rfl); rotate_left; (focus rfl))
    rfl
  · rw [decide_eq_false (by omega), Bool.false_and] at hN0
    (refine hN0 _ _ ⟨[0], _, _, ?_, ?_, ?_, ⟨rfl, rfl⟩⟩; (focus exact LeR.of rfl trivial (by simp only [GA, ↓GB, List.filterMap_cons, eq_self, BEq.rfl, simprocAttr, GDs]) (by decide) rfl rfl rfl); rotate_left; (focus rfl))
    rfl
theorem named1Name (s : List UInt8) (hs : s.length ≤ 9223372036854775807) : Ctr Tryd.prog [] 139 [.cells [.clo 101 [] []] 168] [vv (.string (B s)), .one (.c (.loc 0 0))] (fun os v => os = [.cells [.clo 101 [] []] 168] ∧ v = vv (.bool (!nameB s))) := by
  refine Ctr.less ?_
  intro X0 hP0 hG0 N0 hN0
  refine CallVC.inline (f := 139) (by rw [hP0]; exact Tryd.func139) rfl Tryd.ntmps139 rfl (by simp) ?_
  intro X K hU hnt hbl hK
  have hP : X.P = Tryd.prog := by rw [hU.P, hP0]
  have hG := hG0.under hU
  have hT : aggOf X.P 168 = some false ∧ szOf X.P 168 = some 1 := by rw [hP]; exact ⟨Ty.ag168, Ty.sz168⟩
  simp only [GA, ↓GB, List.filterMap_cons, eq_self, BEq.rfl, simprocAttr] at hbl ⊢
  have hc : calleeOk X.P 101 = true := by rw [hP]; kernel_rfl
  repeat' (first
    | (refine SX.seqK ?_; intro N hN)
    | ((first | (refine SX.ops ?_)); simp only [GA, ↓GB, List.filterMap_cons, eq_self, BEq.rfl, simprocAttr, hnt, hT, hc])
    | ((first | refine SX.skip ?_ | refine SX.exit ?_ | refine SX.label ?_); try simp only [GA, ↓GB, List.filterMap_cons, eq_self, BEq.rfl, simprocAttr])
    | (refine SX.cond rfl (fun hb => ?_) (fun hb => ?_) <;> ((first | cases hb | (simp only [decide_eq_true_eq, decide_eq_false_iff_not, beq_iff_eq, beq_eq_false_iff_ne, bne_iff_ne, Bool.and_eq_true, Bool.or_eq_true, Bool.not_eq_true', Bool.not_eq_false', Bool.and_eq_false_iff, Bool.or_eq_false_iff, Int.not_lt, Int.not_le] at hb) | skip) <;> (first | (exfalso; omega) | skip)))
    | (refine SX.ret ?_; try simp only [GA, ↓GB, List.filterMap_cons, eq_self, BEq.rfl, simprocAttr])
    | (refine hN _ ?_; clear hN N)
    | ((first | refine hK _ _ (FinI.ret3 ?_) | refine hK _ _ (FinI.nrm3 ?_)); simp only [GA, ↓GB, List.filterMap_cons, eq_self, BEq.rfl, simprocAttr, finP_s, hnt, hT, hc]; refine Done.out ?_)
    | (clear hN N; first | (refine hN _ ?_; clear hN N) | (clear hN N; first | (refine hN _ ?_; clear hN N) | (clear hN N; first | (refine hN _ ?_; clear hN N) | (clear hN N; first | (refine hN _ ?_; clear hN N) | (clear hN N; first | (refine hN _ ?_; clear hN N) | (refine hN _ ?_; clear hN N))))))
    | (refine bif2.mk (fun hb => ?_) (fun hb => ?_) <;> (try simp only [hb, GA, ↓GB, List.filterMap_cons, eq_self, BEq.rfl, simprocAttr, hnt, hT, hc]) <;> ((first | cases hb | (simp only [decide_eq_true_eq, decide_eq_false_iff_not, beq_iff_eq, beq_eq_false_iff_ne, bne_iff_ne, Bool.and_eq_true, Bool.or_eq_true, Bool.not_eq_true', Bool.not_eq_false', Bool.and_eq_false_iff, Bool.or_eq_false_iff, Int.not_lt, Int.not_le] at hb) | skip) <;> (first | (exfalso; omega) | skip)))
    | ((first | (refine CallVC.pv hP (name_any s hs) rfl ?_) | (refine CallQ.pv hP (name_any s hs) rfl ?_)); simp only [GA, ↓GB, List.filterMap_cons, eq_self, BEq.rfl, simprocAttr, hnt, hT, hc])
    | (refine SX.block ?_)
    | (refine and_mk ?_ ?_; (focus first | decide | omega | rfl | assumption | (simp only [List.length_append, List.length_cons, List.length_nil, B_size]; omega) | (simp; done)))
    | (refine And.intro ?_ ?_))
  all_goals (try refine Done.mk ?_)
  all_goals ((refine hN0 _ _ ⟨[0], _, _, ?_, ?_, ?_, ⟨rfl, rfl⟩⟩; (focus exact LeR.of rfl trivial (by simp only [GA, ↓GB, List.filterMap_cons, eq_self, BEq.rfl, simprocAttr, GDs]) (by decide) rfl rfl rfl); rotate_left; (focus rfl)); rfl)
theorem indexName (l : List (List UInt8)) (hl : l.length ≤ 1099511627776) (hb : ∀ s ∈ l, s.length ≤ 9223372036854775807) : Ctr Tryd.prog [] 154 [srow l, .cells [.clo 101 [] []] 168] [.one (.c (.row 0)), .one (.c (.clo 139 [] [.loc 1 0]))]
    (fun os v => os = [srow l, .cells [.clo 101 [] []] 168] ∧ v = vv (.int .i64 (idxS (fun s => !nameB s) l))) := by
  have hrun : ∀ i : Nat, Ctr Tryd.prog [] 139 [.cells [.clo 101 [] []] 168] [vv (.string (B (l.getD i []))), .one (.c (.loc 0 0))] (fun os v => os = [.cells [.clo 101 [] []] 168] ∧ v = vv (.bool (!nameB (l.getD i [])))) := fun i => named1Name (l.getD i []) (getD_bd hb i)
  refine Ctr.less ?_
  intro X0 hP0 hG0 N0 hN0
  refine CallVC.inline (f := 154) (by rw [hP0]; exact Tryd.func154) rfl Tryd.ntmps154 rfl (by simp) ?_
  intro X K hU hnt hbl hK
  have hP : X.P = Tryd.prog := by rw [hU.P, hP0]
  have hG := hG0.under hU
  have hT : X.P.underlying 38 = some (TypeDesc.slice 9) ∧ elemSz X.P 38 = some (9, 1) ∧ aggOf X.P 9 = some false ∧ szOf X.P 9 = some 1 := by rw [hP]; exact ⟨Tryd.underlying38, Ty.el38, Ty.ag9, Ty.sz9⟩
  simp only [GA, ↓GB, List.filterMap_cons, eq_self, BEq.rfl, simprocAttr] at hbl ⊢
  have hc : calleeOk X.P 139 = true := by rw [hP]; kernel_rfl
  repeat' (first
    | (refine SX.seqK ?_; intro N hN)
    | ((first | (refine SX.ops ?_)); simp only [GA, ↓GB, List.filterMap_cons, eq_self, BEq.rfl, simprocAttr, hnt, hT, hc])
    | ((first | refine SX.skip ?_ | refine SX.exit ?_ | refine SX.label ?_); try simp only [GA, ↓GB, List.filterMap_cons, eq_self, BEq.rfl, simprocAttr])
    | (refine SX.cond rfl (fun hb => ?_) (fun hb => ?_) <;> ((first | cases hb | (simp only [decide_eq_true_eq, decide_eq_false_iff_not, beq_iff_eq, beq_eq_false_iff_ne, bne_iff_ne, Bool.and_eq_true, Bool.or_eq_true, Bool.not_eq_true', Bool.not_eq_false', Bool.and_eq_false_iff, Bool.or_eq_false_iff, Int.not_lt, Int.not_le] at hb) | skip) <;> (first | (exfalso; omega) | skip)))
    | (refine SX.ret ?_; try simp only [GA, ↓GB, List.filterMap_cons, eq_self, BEq.rfl, simprocAttr])
    | (refine hN _ ?_; clear hN N)
    | ((first | refine hK _ _ (FinI.ret3 ?_) | refine hK _ _ (FinI.nrm3 ?_)); simp only [GA, ↓GB, List.filterMap_cons, eq_self, BEq.rfl, simprocAttr, finP_s, hnt, hT, hc]; refine Done.out ?_)
    | (clear hN N; first | (refine hN _ ?_; clear hN N) | (clear hN N; first | (refine hN _ ?_; clear hN N) | (clear hN N; first | (refine hN _ ?_; clear hN N) | (clear hN N; first | (refine hN _ ?_; clear hN N) | (clear hN N; first | (refine hN _ ?_; clear hN N) | (refine hN _ ?_; clear hN N))))))
    | (refine bif2.mk (fun hb => ?_) (fun hb => ?_) <;> (try simp only [hb, GA, ↓GB, List.filterMap_cons, eq_self, BEq.rfl, simprocAttr, hnt, hT, hc]) <;> ((first | cases hb | (simp only [decide_eq_true_eq, decide_eq_false_iff_not, beq_iff_eq, beq_eq_false_iff_ne, bne_iff_ne, Bool.and_eq_true, Bool.or_eq_true, Bool.not_eq_true', Bool.not_eq_false', Bool.and_eq_false_iff, Bool.or_eq_false_iff, Int.not_lt, Int.not_le] at hb) | skip) <;> (first | (exfalso; omega) | skip)))
    | ((first | (refine Ctr.use (hrun i) hP ?_ [1] ?_ rfl rfl ?_; (focus (intro p hp; cases hp)); (focus (refine LeR.of rfl trivial ?_ ?_ ?_ ?_ ?_ <;> first | decide | (simp only [GA, ↓GB, List.filterMap_cons, eq_self, BEq.rfl, simprocAttr, GDs]; done))); intro os' s hR; obtain ⟨rfl, rfl⟩ := hR)); simp only [GA, ↓GB, List.filterMap_cons, eq_self, BEq.rfl, simprocAttr, hnt, hT, hc])
    | (refine SX.loop (ι := { i : Nat // i ≤ l.length ∧ ∀ j, j < i → (!nameB (l.getD j [])) = false }) (fun i => ⟨[(0, .one (.c (.row 0))), (1, .one (.c (.clo 139 [] [.loc 1 0]))), (7, vv (.int .i64 l.length)), (8, vv (.int .i64 i.1))], [srow l, .cells [.clo 101 [] []] 168]⟩) (fun i => l.length - i.1) ⟨0, Nat.zero_le _, fun j hj => absurd hj (Nat.not_lt_zero j)⟩ ⟨[0, 1], by (refine LeR.of ?_ ?_ ?_ ?_ ?_ ?_ ?_ <;> first | (rw [hbl]; decide) | decide | (simp only [GA, ↓GB, List.filterMap_cons, eq_self, BEq.rfl, simprocAttr, GDs]; done) | (simp only [GA, ↓GB, List.filterMap_cons, eq_self, BEq.rfl, simprocAttr, GDs]; rfl; done))⟩ ?_ <;> rintro ⟨i, hi, hno⟩ <;> simp only [] at hi hno ⊢)
    | (refine ⟨_, srow_at _ _ (by omega), ?_⟩ <;> (try simp only [GA, ↓GB, List.filterMap_cons, eq_self, BEq.rfl, simprocAttr, hnt, hT]))
    | (refine SX.block ?_)
    | (refine and_mk ?_ ?_; (focus first | decide | omega | rfl | assumption | (simp only [List.length_append, List.length_cons, List.length_nil, B_size]; omega) | (simp; done)))
    | (refine And.intro ?_ ?_))
  all_goals (try refine Done.mk ?_)
  · rw [idxS_at (fun s => !nameB s) l i (by omega) (by simpa using hb) hno] at hN0
    (refine hN0 _ _ ⟨[0, 1], _, _, ?_, ?_, ?_, ⟨rfl, rfl⟩⟩; (focus exact LeR.of rfl trivial (by simp only [GA, ↓GB, List.filterMap_cons, eq_self, BEq.rfl, simprocAttr, GDs]) (by decide) rfl rfl rfl); rotate_left; (focus rfl))
    rfl
  · exact ⟨⟨i + 1, by omega, fun j hj => by
      rcases Nat.lt_or_eq_of_le (Nat.le_of_lt_succ hj) with h | rfl
      · exact hno j h
      · simpa using hb⟩, [0, 1], by (refine LeR.of ?_ ?_ ?_ ?_ ?_ ?_ ?_ <;> first | (rw [hbl]; decide) | decide | (simp only [GA, ↓GB, List.filterMap_cons, eq_self, BEq.rfl, simprocAttr, GDs]; done) | (simp only [GA, ↓GB, List.filterMap_cons, eq_self, BEq.rfl, simprocAttr, GDs]; first | (rw [wI64 (by omega) (by omega)]; rfl) | rfl; done)), by show l.length - (i + 1) < l.length - i; omega⟩
  · rw [idxS_none (fun s => !nameB s) l (fun j hj => hno j (by omega))] at hN0
    (refine hN0 _ _ ⟨[0, 1], _, _, ?_, ?_, ?_, ⟨rfl, rfl⟩⟩; (focus exact LeR.of rfl trivial (by simp only [GA, ↓GB, List.filterMap_cons, eq_self, BEq.rfl, simprocAttr, GDs]) (by decide) rfl rfl rfl); rotate_left; (focus rfl))
    rfl
theorem containsName (l : List (List UInt8)) (hl : l.length ≤ 1099511627776) (hb : ∀ s ∈ l, s.length ≤ 9223372036854775807) : Ctr Tryd.prog [] 138 [srow l, .cells [.clo 101 [] []] 168] [.one (.c (.row 0)), .one (.c (.clo 139 [] [.loc 1 0]))]
    (fun os v => os = [srow l, .cells [.clo 101 [] []] 168] ∧ v = vv (.bool (!(l.all nameB)))) := by
  have hi := indexName l hl hb
  have he : decide (0 ≤ idxS (fun s => !nameB s) l) = !(l.all nameB) := by
    rw [idxS_all]; simp
  refine Ctr.less ?_
  intro X0 hP0 hG0 N0 hN0
  refine CallVC.inline (f := 138) (by rw [hP0]; exact Tryd.func138) rfl Tryd.ntmps138 rfl (by simp) ?_
  intro X K hU hnt hbl hK
  have hP : X.P = Tryd.prog := by rw [hU.P, hP0]
  have hG := hG0.under hU
  have hT : calleeOk X.P 154 = true := by rw [hP]; exact Ty.co154
  simp only [GA, ↓GB, List.filterMap_cons, eq_self, BEq.rfl, simprocAttr] at hbl ⊢
  repeat' (first
    | (refine SX.seqK ?_; intro N hN)
    | ((first | (refine SX.ops ?_)); simp only [GA, ↓GB, List.filterMap_cons, eq_self, BEq.rfl, simprocAttr, hnt, hT, he])
    | ((first | refine SX.skip ?_ | refine SX.exit ?_ | refine SX.label ?_); try simp only [GA, ↓GB, List.filterMap_cons, eq_self, BEq.rfl, simprocAttr])
    | (refine SX.cond rfl (fun hb => ?_) (fun hb => ?_) <;> ((first | cases hb | (simp only [decide_eq_true_eq, decide_eq_false_iff_not, beq_iff_eq, beq_eq_false_iff_ne, bne_iff_ne, Bool.and_eq_true, Bool.or_eq_true, Bool.not_eq_true', Bool.not_eq_false', Bool.and_eq_false_iff, Bool.or_eq_false_iff, Int.not_lt, Int.not_le] at hb) | skip) <;> (first | (exfalso; omega) | skip)))
    | (refine SX.ret ?_; try simp only [GA, ↓GB, List.filterMap_cons, eq_self, BEq.rfl, simprocAttr])
    | (refine hN _ ?_; clear hN N)
    | ((first | refine hK _ _ (FinI.ret3 ?_) | refine hK _ _ (FinI.nrm3 ?_)); simp only [GA, ↓GB, List.filterMap_cons, eq_self, BEq.rfl, simprocAttr, finP_s, hnt, hT, he]; refine Done.out ?_)
    | (clear hN N; first | (refine hN _ ?_; clear hN N) | (clear hN N; first | (refine hN _ ?_; clear hN N) | (clear hN N; first | (refine hN _ ?_; clear hN N) | (clear hN N; first | (refine hN _ ?_; clear hN N) | (clear hN N; first | (refine hN _ ?_; clear hN N) | (refine hN _ ?_; clear hN N))))))
    | (refine bif2.mk (fun hb => ?_) (fun hb => ?_) <;> (try simp only [hb, GA, ↓GB, List.filterMap_cons, eq_self, BEq.rfl, simprocAttr, hnt, hT, he]) <;> ((first | cases hb | (simp only [decide_eq_true_eq, decide_eq_false_iff_not, beq_iff_eq, beq_eq_false_iff_ne, bne_iff_ne, Bool.and_eq_true, Bool.or_eq_true, Bool.not_eq_true', Bool.not_eq_false', Bool.and_eq_false_iff, Bool.or_eq_false_iff, Int.not_lt, Int.not_le] at hb) | skip) <;> (first | (exfalso; omega) | skip)))
    | ((first | (refine Ctr.use (hi) hP ?_ [0,1] ?_ rfl rfl ?_; (focus (intro p hp; cases hp)); (focus (refine LeR.of rfl trivial ?_ ?_ ?_ ?_ ?_ <;> first | decide | (simp only [GA, ↓GB, List.filterMap_cons, eq_self, BEq.rfl, simprocAttr, GDs]; done))); intro os' s hR; obtain ⟨rfl, rfl⟩ := hR)); simp only [GA, ↓GB, List.filterMap_cons, eq_self, BEq.rfl, simprocAttr, hnt, hT, he])
    | (refine SX.block ?_)
    | (refine and_mk ?_ ?_; (focus first | decide | omega | rfl | assumption | (simp only [List.length_append, List.length_cons, List.length_nil, B_size]; omega) | (simp; done)))
    | (refine And.intro ?_ ?_))
  all_goals (try refine Done.mk ?_)
  all_goals ((refine hN0 _ _ ⟨[0, 1], _, _, ?_, ?_, ?_, ⟨rfl, rfl⟩⟩; (focus exact LeR.of rfl trivial (by simp only [GA, ↓GB, List.filterMap_cons, eq_self, BEq.rfl, simprocAttr, GDs]) (by decide) rfl rfl rfl); rotate_left; (focus rfl)); rfl)
theorem namedName (l : List (List UInt8)) (hl : l.length ≤ 1099511627776) (hb : ∀ s ∈ l, s.length ≤ 9223372036854775807) : Ctr Tryd.prog [] 99 [srow l] [.one (.c (.row 0)), .one (.c (.clo 101 [] []))]
    (fun os v => os = [srow l] ∧ v = vv (.bool (decide ((l.length : Int) ≤ 64) && l.all nameB))) := by
  have hi := containsName l hl hb
  refine Ctr.less ?_
  intro X0 hP0 hG0 N0 hN0
  refine CallVC.inline (f := 99) (by rw [hP0]; exact Tryd.func99) rfl Tryd.ntmps99 rfl (by simp) ?_
  intro X K hU hnt hbl hK
  have hP : X.P = Tryd.prog := by rw [hU.P, hP0]
  have hG := hG0.under hU
  have hT : X.P.underlying 38 = some (TypeDesc.slice 9) ∧ calleeOk X.P 139 = true ∧ calleeOk X.P 138 = true := by rw [hP]; exact ⟨Tryd.underlying38, Ty.co139, Ty.co138⟩
  simp only [GA, ↓GB, List.filterMap_cons, eq_self, BEq.rfl, simprocAttr] at hbl ⊢
  repeat' (first
    | (refine SX.seqK ?_; intro N hN)
    | ((first | (refine SX.ops ?_)); simp only [GA, ↓GB, List.filterMap_cons, eq_self, BEq.rfl, simprocAttr, hnt, hT])
    | ((first | refine SX.skip ?_ | refine SX.exit ?_ | refine SX.label ?_); try simp only [GA, ↓GB, List.filterMap_cons, eq_self, BEq.rfl, simprocAttr])
    | (refine SX.cond rfl (fun hb => ?_) (fun hb => ?_) <;> ((first | cases hb | (simp only [decide_eq_true_eq, decide_eq_false_iff_not, beq_iff_eq, beq_eq_false_iff_ne, bne_iff_ne, Bool.and_eq_true, Bool.or_eq_true, Bool.not_eq_true', Bool.not_eq_false', Bool.and_eq_false_iff, Bool.or_eq_false_iff, Int.not_lt, Int.not_le] at hb) | skip) <;> (first | (exfalso; omega) | skip)))
    | (refine SX.ret ?_; try simp only [GA, ↓GB, List.filterMap_cons, eq_self, BEq.rfl, simprocAttr])
    | (refine hN _ ?_; clear hN N)
    | ((first | refine hK _ _ (FinI.ret3 ?_) | refine hK _ _ (FinI.nrm3 ?_)); simp only [GA, ↓GB, List.filterMap_cons, eq_self, BEq.rfl, simprocAttr, finP_s, hnt, hT]; refine Done.out ?_)
    | (clear hN N; first | (refine hN _ ?_; clear hN N) | (clear hN N; first | (refine hN _ ?_; clear hN N) | (clear hN N; first | (refine hN _ ?_; clear hN N) | (clear hN N; first | (refine hN _ ?_; clear hN N) | (clear hN N; first | (refine hN _ ?_; clear hN N) | (refine hN _ ?_; clear hN N))))))
    | (refine bif2.mk (fun hb => ?_) (fun hb => ?_) <;> (try simp only [hb, GA, ↓GB, List.filterMap_cons, eq_self, BEq.rfl, simprocAttr, hnt, hT]) <;> ((first | cases hb | (simp only [decide_eq_true_eq, decide_eq_false_iff_not, beq_iff_eq, beq_eq_false_iff_ne, bne_iff_ne, Bool.and_eq_true, Bool.or_eq_true, Bool.not_eq_true', Bool.not_eq_false', Bool.and_eq_false_iff, Bool.or_eq_false_iff, Int.not_lt, Int.not_le] at hb) | skip) <;> (first | (exfalso; omega) | skip)))
    | ((first | (refine Ctr.use (hi) hP ?_ [0,1] ?_ rfl rfl ?_; (focus (intro p hp; cases hp)); (focus (refine LeR.of rfl trivial ?_ ?_ ?_ ?_ ?_ <;> first | decide | (simp only [GA, ↓GB, List.filterMap_cons, eq_self, BEq.rfl, simprocAttr, GDs]; done))); intro os' s hR; obtain ⟨rfl, rfl⟩ := hR)); simp only [GA, ↓GB, List.filterMap_cons, eq_self, BEq.rfl, simprocAttr, hnt, hT])
    | (refine SX.block ?_)
    | (refine and_mk ?_ ?_; (focus first | decide | omega | rfl | assumption | (simp only [List.length_append, List.length_cons, List.length_nil, B_size]; omega) | (simp; done)))
    | (refine And.intro ?_ ?_))
  all_goals (try refine Done.mk ?_)
  · rw [decide_eq_true hb, Bool.true_and] at hN0
    rw [Bool.not_not]
    (refine hN0 _ _ ⟨[0], _, _, ?_, ?_, ?_, ⟨rfl, rfl⟩⟩; (focus exact LeR.of rfl trivial (by simp only [GA, ↓GB, List.filterMap_cons, eq_self, BEq.rfl, simprocAttr, GDs]) (by decide) rfl rfl rfl); rotate_left; (focus rfl))
    rfl
  · rw [decide_eq_false (by omega), Bool.false_and] at hN0
    (refine hN0 _ _ ⟨[0], _, _, ?_, ?_, ?_, ⟨rfl, rfl⟩⟩; (focus exact LeR.of rfl trivial (by simp only [GA, ↓GB, List.filterMap_cons, eq_self, BEq.rfl, simprocAttr, GDs]) (by decide) rfl rfl rfl); rotate_left; (focus rfl))
    rfl
end Go.Proofs.YtbdacbcpniegiaaDoor
namespace Go.Proofs.YtbdacbcpniegiaaDoor
open Go Go.RowKit Go.Proofs Go.Sx
set_option maxHeartbeats 8000000
set_option maxRecDepth 100000
set_option linter.unusedSimpArgs false
set_option linter.unusedVariables false
def reqB (t : Int) (dl : Bool) (q : Nat) (sb un : List (List UInt8)) (hv : List HvS) (d : List UInt8) : Bool :=
  (decide (1 ≤ t) && decide (t ≤ 5)) && ((decide ((sb.length : Int) ≤ 64) && sb.all starB) && ((decide ((un.length : Int) ≤ 64) && un.all starB) && ((decide (((hv.map (·.1)).length : Int) ≤ 64) && (hv.map (·.1)).all nameB) && (decide ((d.length : Int) ≤ 256) && ((decide (0 < (q : Int)) || d == []) && (dl || ((un.length : Int) + (hv.length : Int) == 0)))))))
theorem hcells_at (l : List HvS) (i : Nat) (h : i < l.length) : ((hcells l).drop (i * 2)).take 2 = [.string (B (l.getD i default).1), .int .u64 ((l.getD i default).2 : Int)] := by
  induction l generalizing i with
  | nil => simp at h
  | cons m l ih =>
    cases i with
    | zero => simp [hcells]
    | succ i =>
      have : hcells (m :: l) = [.string (B m.1), .int .u64 (m.2 : Int)] ++ hcells l := rfl
      rw [this, show (i + 1) * 2 = 2 + i * 2 by omega, ← List.drop_drop]
      simp only [List.getD_cons_succ]
      exact ih i (by simpa using h)
theorem rightReq_ctr (t : Int) (dl : Bool) (q : Nat) (sb un : List (List UInt8)) (hv : List HvS) (d : List UInt8) (h1 : sb.length ≤ 1099511627776) (h2 : un.length ≤ 1099511627776) (h3 : hv.length ≤ 1048576)
    (b1 : ∀ s ∈ sb, s.length ≤ 9223372036854775807) (b2 : ∀ s ∈ un, s.length ≤ 9223372036854775807) (b3 : ∀ s ∈ hv.map (·.1), s.length ≤ 9223372036854775807) :
    Ctr Tryd.prog [] 42 [srow sb, srow un, hrow hv] [.one (.agg [.v (.int .i64 t), .v (.bool dl), .v (.int .u64 q), .row 0, .row 1, .row 2, .v (.string (B d))])] (fun os v => os = [srow sb, srow un, hrow hv] ∧ v = vv (.bool (reqB t dl q sb un hv d))) := by
  have n1 := namedStar sb h1 b1
  have n2 := namedStar un h2 b2
  have n3 := namedName (hv.map (·.1)) (by rw [List.length_map]; omega) b3
  have hw : IntKind.i64.wrap ((un.length : Int) + (hv.length : Int)) = (un.length : Int) + (hv.length : Int) := wI64 (by omega) (by omega)
  refine Ctr.less ?_
  intro X0 hP0 hG0 N0 hN0
  refine CallVC.inline (f := 42) (by rw [hP0]; exact Tryd.func42) rfl Tryd.ntmps42 rfl (by simp) ?_
  intro X K hU hnt hbl hK
  have hP : X.P = Tryd.prog := by rw [hU.P, hP0]
  have hG := hG0.under hU
  have hT : fieldOff X.P 41 5 = some 5 ∧ aggOf X.P 39 = some false ∧ szOf X.P 39 = some 1 ∧ X.P.underlying 39 = some (TypeDesc.slice 87) ∧ elemInf X.P 38 = some (9, 1, 16, (Value.string { data := #[] })) ∧ elemSz X.P 39 = some (87, 2) ∧ aggOf X.P 87 = some true ∧ szOf X.P 87 = some 2 ∧ zeroCells X.P 87 = some [(Value.string { data := #[] }), (Value.int IntKind.u64 0)] ∧ fieldOff X.P 87 0 = some 0 ∧ aggOf X.P 9 = some false ∧ szOf X.P 9 = some 1 ∧ elemSz X.P 38 = some (9, 1) ∧ zeroCells X.P 9 = some [(Value.string { data := #[] })] ∧ isStrT X.P 38 = false ∧ fieldOff X.P 41 0 = some 0 ∧ aggOf X.P 3 = some false ∧ szOf X.P 3 = some 1 ∧ calleeOk X.P 98 = true ∧ fieldOff X.P 41 3 = some 3 ∧ aggOf X.P 38 = some false ∧ szOf X.P 38 = some 1 ∧ calleeOk X.P 99 = true ∧ fieldOff X.P 41 4 = some 4 ∧ fieldOff X.P 41 6 = some 6 ∧ X.P.underlying 9 = some TypeDesc.string ∧ fieldOff X.P 41 2 = some 2 ∧ aggOf X.P 22 = some false ∧ szOf X.P 22 = some 1 ∧ fieldOff X.P 41 1 = some 1 ∧ aggOf X.P 4 = some false ∧ szOf X.P 4 = some 1 ∧ X.P.underlying 38 = some (TypeDesc.slice 9) := by rw [hP]; exact ⟨Ty.fo41_5, Ty.ag39, Ty.sz39, Tryd.underlying39, Ty.ei38, Ty.el39, Ty.ag87, Ty.sz87, Ty.ze87, Ty.fo87_0, Ty.ag9, Ty.sz9, Ty.el38, Ty.ze9, Ty.is38, Ty.fo41_0, Ty.ag3, Ty.sz3, Ty.co98, Ty.fo41_3, Ty.ag38, Ty.sz38, Ty.co99, Ty.fo41_4, Ty.fo41_6, Tryd.underlying9, Ty.fo41_2, Ty.ag22, Ty.sz22, Ty.fo41_1, Ty.ag4, Ty.sz4, Tryd.underlying38⟩
  simp only [GA, ↓GB, List.filterMap_cons, eq_self, BEq.rfl, simprocAttr] at hbl ⊢
  have key : ∀ (b : Bool) (os' : List LO), reqB t dl q sb un hv d = b → LeR 3 [0, 1, 2] ⟨[], [srow sb, srow un, hrow hv]⟩ ⟨[], os'⟩ → N0 ⟨[], os'⟩ (vv (.bool b)) := fun b os' h hl => by
    subst h
    exact hN0 _ _ ⟨[0, 1, 2], _, _, hl, rfl, rfl, rfl, rfl⟩
  repeat' (first
    | (refine SX.seqK ?_; intro N hN)
    | ((first | (refine SX.ops ?_)); simp only [GA, ↓GB, List.filterMap_cons, eq_self, BEq.rfl, simprocAttr, hnt, hT, hw])
    | ((first | refine SX.skip ?_ | refine SX.exit ?_ | refine SX.label ?_); try simp only [GA, ↓GB, List.filterMap_cons, eq_self, BEq.rfl, simprocAttr])
    | (refine SX.cond rfl (fun hb => ?_) (fun hb => ?_) <;> ((first | cases hb | (simp only [decide_eq_true_eq, decide_eq_false_iff_not, beq_iff_eq, beq_eq_false_iff_ne, bne_iff_ne, Bool.and_eq_true, Bool.or_eq_true, Bool.not_eq_true', Bool.not_eq_false', Bool.and_eq_false_iff, Bool.or_eq_false_iff, Int.not_lt, Int.not_le] at hb) | skip) <;> (first | (exfalso; omega) | skip)))
    | (refine SX.ret ?_; try simp only [GA, ↓GB, List.filterMap_cons, eq_self, BEq.rfl, simprocAttr])
    | (refine hN _ ?_; clear hN N)
    | ((first | refine hK _ _ (FinI.ret3 ?_) | refine hK _ _ (FinI.nrm3 ?_)); simp only [GA, ↓GB, List.filterMap_cons, eq_self, BEq.rfl, simprocAttr, finP_s, hnt, hT, hw]; refine Done.out ?_)
    | (clear hN N; first | (refine hN _ ?_; clear hN N) | (clear hN N; first | (refine hN _ ?_; clear hN N) | (clear hN N; first | (refine hN _ ?_; clear hN N) | (clear hN N; first | (refine hN _ ?_; clear hN N) | (clear hN N; first | (refine hN _ ?_; clear hN N) | (refine hN _ ?_; clear hN N))))))
    | (refine bif2.mk (fun hb => ?_) (fun hb => ?_) <;> (try simp only [hb, GA, ↓GB, List.filterMap_cons, eq_self, BEq.rfl, simprocAttr, hnt, hT, hw]) <;> ((first | cases hb | (simp only [decide_eq_true_eq, decide_eq_false_iff_not, beq_iff_eq, beq_eq_false_iff_ne, bne_iff_ne, Bool.and_eq_true, Bool.or_eq_true, Bool.not_eq_true', Bool.not_eq_false', Bool.and_eq_false_iff, Bool.or_eq_false_iff, Int.not_lt, Int.not_le] at hb) | skip) <;> (first | (exfalso; omega) | skip)))
    | ((first | (refine CallVC.pv hP (typed_any t) rfl ?_) | (refine CallQ.pv hP (typed_any t) rfl ?_) | (refine Ctr.use (n1) hP ?_ [0] ?_ rfl rfl ?_; (focus (intro p hp; cases hp)); (focus (refine LeR.of rfl trivial ?_ ?_ ?_ ?_ ?_ <;> first | decide | (simp only [GA, ↓GB, List.filterMap_cons, eq_self, BEq.rfl, simprocAttr, GDs]; done))); intro os' s hR; obtain ⟨rfl, rfl⟩ := hR) | (refine Ctr.use (n2) hP ?_ [1] ?_ rfl rfl ?_; (focus (intro p hp; cases hp)); (focus (refine LeR.of rfl trivial ?_ ?_ ?_ ?_ ?_ <;> first | decide | (simp only [GA, ↓GB, List.filterMap_cons, eq_self, BEq.rfl, simprocAttr, GDs]; done))); intro os' s hR; obtain ⟨rfl, rfl⟩ := hR) | (refine Ctr.use (n3) hP ?_ [4] ?_ rfl rfl ?_; (focus (intro p hp; cases hp)); (focus (refine LeR.of rfl trivial ?_ ?_ ?_ ?_ ?_ <;> first | decide | (simp only [GA, ↓GB, List.filterMap_cons, eq_self, BEq.rfl, simprocAttr, GDs]; done))); intro os' s hR; obtain ⟨rfl, rfl⟩ := hR)); simp only [GA, ↓GB, List.filterMap_cons, eq_self, BEq.rfl, simprocAttr, hnt, hT, hw])
    | (refine SX.loop (ι := { i : Nat // i ≤ hv.length }) (fun i => ⟨[(1, .one (.c (.loc 3 0))), (2, vv (.bool false)), (3, .one (.c (.row 4))), (11, .one (.c (.row 2))), (12, vv (.int .i64 hv.length)), (13, vv (.int .i64 i.1))], [srow sb, srow un, hrow hv, .cells [.v (.int .i64 t), .v (.bool dl), .v (.int .u64 q), .row 0, .row 1, .row 2, .v (.string (B d))] 41, srow ((hv.take i.1).map (·.1))]⟩) (fun i => hv.length - i.1) ⟨0, Nat.zero_le _⟩ ⟨[0, 1, 2, 3, 4], by (refine LeR.of ?_ ?_ ?_ ?_ ?_ ?_ ?_ <;> first | (rw [hbl]; decide) | decide | (simp only [GA, ↓GB, List.filterMap_cons, eq_self, BEq.rfl, simprocAttr, GDs]; done) | (simp only [GA, ↓GB, List.filterMap_cons, eq_self, BEq.rfl, simprocAttr, GDs]; rfl; done))⟩ ?_ <;> rintro ⟨i, hi⟩ <;> simp only [] at hi ⊢ <;> rcases Nat.lt_or_eq_of_le hi with hlt | rfl <;> (try simp only [List.take_length]))
    | (refine ⟨_, rfl, hcells_at _ _ (by omega), ?_⟩ <;> (try simp only [GA, ↓GB, List.filterMap_cons, eq_self, BEq.rfl, simprocAttr, hnt, hT]))
    | (refine SX.block ?_)
    | (refine and_mk ?_ ?_; (focus first | decide | omega | rfl | assumption | (simp only [List.length_append, List.length_cons, List.length_nil, B_size]; omega) | (simp; done)))
    | (refine And.intro ?_ ?_))
  all_goals (try refine Done.mk ?_)
  · rw [List.length_map, List.length_take]; omega
  · have e := srow_snoc ((hv.take i).map (·.1)) (hv.getD i default).1
    have e2 : (hv.take (i + 1)).map (·.1) = (hv.take i).map (·.1) ++ [(hv.getD i default).1] := by
      rw [List.take_add_one, List.getElem?_eq_getElem hlt, List.getD_eq_getElem?_getD, List.getElem?_eq_getElem hlt, List.map_append]; rfl
    rw [← e2] at e
    rw [e]
    exact ⟨⟨i + 1, by omega⟩, [0, 1, 2, 3, 7], by (refine LeR.of ?_ ?_ ?_ ?_ ?_ ?_ ?_ <;> first | (rw [hbl]; decide) | decide | (simp only [GA, ↓GB, List.filterMap_cons, eq_self, BEq.rfl, simprocAttr, GDs]; done) | (simp only [GA, ↓GB, List.filterMap_cons, eq_self, BEq.rfl, simprocAttr, GDs]; first | (rw [wI64 (by omega) (by omega)]; rfl) | rfl; done)), by show hv.length - (i + 1) < hv.length - i; omega⟩
  all_goals
    refine key _ _ ?_ ?_
    · clear hK hT hP hnt hN0 hG hG0 hbl n1 n2 n3 key hP0
      simp only [reqB]
      generalize sb.all starB = A1 at *
      generalize un.all starB = A2 at *
      generalize (hv.map (·.1)).all nameB = A3 at *
      generalize ((hv.map (·.1)).length : Int) = L3 at *
      clear b1 b2 b3
      cases A1 <;> cases A2 <;> cases A3 <;> simp_all <;> (intros; omega)
    · exact LeR.of rfl trivial (by simp only [GA, ↓GB, List.filterMap_cons, eq_self, BEq.rfl, simprocAttr, GDs]) (by decide) rfl rfl rfl
end Go.Proofs.YtbdacbcpniegiaaDoor
