/- Own work: a part of the symbolic executor and of the walks of the functions that the claim reaches. -/
import Derived.Test.YtbdacbcpniegiaaDoorBase4
namespace Go.Proofs.YtbdacbcpniegiaaDoor
open Go Go.RowKit Go.Proofs Go.Sx
set_option maxHeartbeats 16000000
set_option maxRecDepth 100000
set_option linter.unusedSimpArgs false
set_option linter.unusedVariables false
theorem ex_parse : NW.parse [8, 1, 34, 1, 42] = some [⟨1, 0, 1, []⟩, ⟨4, 2, 0, [42]⟩] := by
  have h1 : (⟨1, 0, 1, []⟩ : NW.Fld).Ok := ⟨by decide, by decide, .inl ⟨rfl, rfl, by decide⟩⟩
  have h2 : (⟨4, 2, 0, [42]⟩ : NW.Fld).Ok := ⟨by decide, by decide, .inr (.inr (.inl ⟨rfl, by decide, rfl⟩))⟩
  have := NW.parse_encs' [⟨1, 0, 1, []⟩, ⟨4, 2, 0, [42]⟩] (by intro f hf; simp at hf; rcases hf with rfl | rfl; exact h1; exact h2)
  have e : NW.encs [⟨1, 0, 1, []⟩, ⟨4, 2, 0, [42]⟩] = [8, 1, 34, 1, 42] := by simp [NW.encs, NW.Fld.enc, NW.varint_lt]
  rwa [e] at this
theorem ex_req : reqR [1, 8, 1, 34, 1, 42] = some ⟨1, 0, 0, [[42]], [], [], []⟩ := by
  have h : takeXB stepQ [8, 1, 34, 1, 42] .zero = (⟨1, 0, 0, [[42]], [], [], []⟩, true) := by
    rw [takeXB, ex_parse]; rfl
  have hk : kindL [1, 8, 1, 34, 1, 42] = 1 := rfl
  unfold reqR
  rw [if_pos hk, show ([1, 8, 1, 34, 1, 42] : List UInt8).drop 1 = [8, 1, 34, 1, 42] from rfl, h]
  exact if_pos ⟨rfl, rfl⟩
def pingB (n : Nat) : List UInt8 := 3 :: (if n = 0 then [] else numB 1 n)
theorem ping_ctr (n : Nat) (hn : n < 18446744073709551616) : Ctr Tryd.prog [] 21 [] [vv (.int .u64 n)] (fun os v => os = [] ∧ v = vv (.string (B (pingB n)))) := by
  refine Ctr.less ?_
  by_cases h0 : n = 0
  · subst h0
    rw [show pingB 0 = [3] from rfl]
    intro X0 hP0 hG0 N0 hN0
    refine CallVC.inline (f := 21) (by rw [hP0]; exact Tryd.func21) rfl Tryd.ntmps21 rfl (by simp) ?_
    intro X K hU hnt hbl hK
    have hP : X.P = Tryd.prog := by rw [hU.P, hP0]
    have hG := hG0.under hU
    have hT : zeroCells X.P 123 = some [(Value.pointer none), (Value.slice none 0 0)] ∧ fieldOff X.P 123 0 = some 0 ∧ calleeOk X.P 65 = true ∧ calleeOk X.P 66 = true ∧ calleeOk X.P 69 = true := by rw [hP]; exact ⟨Ty.ze123, Ty.fo123_0, Ty.co65, Ty.co66, Ty.co69⟩
    simp only [GA, ↓GB, GX, simprocAttr] at hbl ⊢
    repeat' (first
      | (refine SX.seqK ?_; intro N hN)
      | ((first | (refine SX.ops ?_)); simp only [GA, ↓GB, GX, simprocAttr, hnt, hT])
      | ((first | refine SX.skip ?_ | refine SX.exit ?_ | refine SX.label ?_); try simp only [GA, ↓GB, GX, simprocAttr])
      | (refine SX.cond rfl (fun hb => ?_) (fun hb => ?_) <;> ((first | cases hb | (simp only [HBs] at hb) | skip) <;> (first | (exfalso; omega) | skip)))
      | (refine SX.ret ?_; try simp only [GA, ↓GB, GX, simprocAttr])
      | (refine hN _ ?_; clear hN N)
      | ((first | refine hK _ _ (FinI.ret3 ?_) | refine hK _ _ (FinI.nrm3 ?_)); simp only [GA, ↓GB, GX, simprocAttr, finP_s, hnt, hT]; refine Done.out ?_)
      | (clear hN N; first | (refine hN _ ?_; clear hN N) | (clear hN N; first | (refine hN _ ?_; clear hN N) | (clear hN N; first | (refine hN _ ?_; clear hN N) | (clear hN N; first | (refine hN _ ?_; clear hN N) | (clear hN N; first | (refine hN _ ?_; clear hN N) | (refine hN _ ?_; clear hN N))))))
      | (refine bif2.mk (fun hb => ?_) (fun hb => ?_) <;> (try simp only [hb, GA, ↓GB, GX, simprocAttr, hnt, hT]) <;> ((first | cases hb | (simp only [HBs] at hb) | skip) <;> (first | (exfalso; omega) | skip)))
      | ((first | (refine Ctr.use (writeByte_ctr 3) hP ?_ [0] ?_ rfl rfl ?_; (focus (intro p hp; cases hp)); (focus (refine LeR.of rfl trivial ?_ ?_ ?_ ?_ ?_ <;> first | decide | (simp only [GA, ↓GB, GX, simprocAttr, GDs]; done))); intro os' s hR; obtain ⟨rfl, rfl⟩ := hR) | (refine Ctr.use (wnumberZero [3] 1) hP ?_ [0,3] ?_ rfl rfl ?_; (focus (intro p hp; cases hp)); (focus (refine LeR.of rfl trivial ?_ ?_ ?_ ?_ ?_ <;> first | decide | (simp only [GA, ↓GB, GX, simprocAttr, GDs]; done))); intro os' s hR; obtain ⟨rfl, rfl⟩ := hR) | (refine Ctr.use (string_ctr [3] (by decide) (by decide)) hP ?_ [0,3] ?_ rfl rfl ?_; (focus (intro p hp; cases hp)); (focus (refine LeR.of rfl trivial ?_ ?_ ?_ ?_ ?_ <;> first | decide | (simp only [GA, ↓GB, GX, simprocAttr, GDs]; done))); intro os' s hR; obtain ⟨rfl, rfl⟩ := hR)); simp only [GA, ↓GB, GX, simprocAttr, hnt, hT])
      | (refine SX.block ?_)
      | (refine and_mk ?_ ?_; (focus first | decide | omega | rfl | assumption | (simp only [List.length_append, List.length_cons, List.length_nil, B_size]; omega) | (simp; done)))
      | (refine And.intro ?_ ?_))
    all_goals (try refine Done.mk ?_)
    all_goals ((refine hN0 _ _ ⟨[], _, _, ?_, ?_, ?_, ⟨rfl, rfl⟩⟩; (focus exact LeR.of rfl trivial (by simp only [GA, ↓GB, GX, simprocAttr, GDs]) (by decide) rfl rfl rfl); rotate_left; (focus rfl)); rfl)
  · have hB : pingB n = [3] ++ numB 1 n := by rw [pingB, if_neg h0]; rfl
    have hL := numB_len 1 n (by decide) hn
    rw [hB]
    intro X0 hP0 hG0 N0 hN0
    refine CallVC.inline (f := 21) (by rw [hP0]; exact Tryd.func21) rfl Tryd.ntmps21 rfl (by simp) ?_
    intro X K hU hnt hbl hK
    have hP : X.P = Tryd.prog := by rw [hU.P, hP0]
    have hG := hG0.under hU
    have hT : zeroCells X.P 123 = some [(Value.pointer none), (Value.slice none 0 0)] ∧ fieldOff X.P 123 0 = some 0 ∧ calleeOk X.P 65 = true ∧ calleeOk X.P 66 = true ∧ calleeOk X.P 69 = true := by rw [hP]; exact ⟨Ty.ze123, Ty.fo123_0, Ty.co65, Ty.co66, Ty.co69⟩
    simp only [GA, ↓GB, GX, simprocAttr] at hbl ⊢
    repeat' (first
      | (refine SX.seqK ?_; intro N hN)
      | ((first | (refine SX.ops ?_)); simp only [GA, ↓GB, GX, simprocAttr, hnt, hT])
      | ((first | refine SX.skip ?_ | refine SX.exit ?_ | refine SX.label ?_); try simp only [GA, ↓GB, GX, simprocAttr])
      | (refine SX.cond rfl (fun hb => ?_) (fun hb => ?_) <;> ((first | cases hb | (simp only [HBs] at hb) | skip) <;> (first | (exfalso; omega) | skip)))
      | (refine SX.ret ?_; try simp only [GA, ↓GB, GX, simprocAttr])
      | (refine hN _ ?_; clear hN N)
      | ((first | refine hK _ _ (FinI.ret3 ?_) | refine hK _ _ (FinI.nrm3 ?_)); simp only [GA, ↓GB, GX, simprocAttr, finP_s, hnt, hT]; refine Done.out ?_)
      | (clear hN N; first | (refine hN _ ?_; clear hN N) | (clear hN N; first | (refine hN _ ?_; clear hN N) | (clear hN N; first | (refine hN _ ?_; clear hN N) | (clear hN N; first | (refine hN _ ?_; clear hN N) | (clear hN N; first | (refine hN _ ?_; clear hN N) | (refine hN _ ?_; clear hN N))))))
      | (refine bif2.mk (fun hb => ?_) (fun hb => ?_) <;> (try simp only [hb, GA, ↓GB, GX, simprocAttr, hnt, hT]) <;> ((first | cases hb | (simp only [HBs] at hb) | skip) <;> (first | (exfalso; omega) | skip)))
      | ((first | (refine Ctr.use (writeByte_ctr 3) hP ?_ [0] ?_ rfl rfl ?_; (focus (intro p hp; cases hp)); (focus (refine LeR.of rfl trivial ?_ ?_ ?_ ?_ ?_ <;> first | decide | (simp only [GA, ↓GB, GX, simprocAttr, GDs]; done))); intro os' s hR; obtain ⟨rfl, rfl⟩ := hR) | (refine Ctr.use (wnumber_ctr [3] 1 n (by decide) (by decide) (by omega) hn (by decide)) hP ?_ [0,3] ?_ rfl rfl ?_; (focus (intro p hp; cases hp)); (focus (refine LeR.of rfl trivial ?_ ?_ ?_ ?_ ?_ <;> first | decide | (simp only [GA, ↓GB, GX, simprocAttr, GDs]; done))); intro os' s hR; obtain ⟨rfl, rfl⟩ := hR) | (refine Ctr.use (string_ctr ([3] ++ numB 1 n) (by simp) (by simp; omega)) hP ?_ [0,4] ?_ rfl rfl ?_; (focus (intro p hp; cases hp)); (focus (refine LeR.of rfl trivial ?_ ?_ ?_ ?_ ?_ <;> first | decide | (simp only [GA, ↓GB, GX, simprocAttr, GDs]; done))); intro os' s hR; obtain ⟨rfl, rfl⟩ := hR)); simp only [GA, ↓GB, GX, simprocAttr, hnt, hT])
      | (refine SX.block ?_)
      | (refine and_mk ?_ ?_; (focus first | decide | omega | rfl | assumption | (simp only [List.length_append, List.length_cons, List.length_nil, B_size]; omega) | (simp; done)))
      | (refine And.intro ?_ ?_))
    all_goals (try refine Done.mk ?_)
    all_goals ((refine hN0 _ _ ⟨[], _, _, ?_, ?_, ?_, ⟨rfl, rfl⟩⟩; (focus exact LeR.of rfl trivial (by simp only [GA, ↓GB, GX, simprocAttr, GDs]) (by decide) rfl rfl rfl); rotate_left; (focus rfl)); rfl)
theorem numB15 : numB 1 5 = [8, 5] := by simp [numB, NW.varint_lt]
theorem ping5 : pingB 5 = [3, 8, 5] := by rw [pingB, if_neg (by decide), numB15]
theorem pingR5 : pingR [3, 8, 5] = some 5 := by
  have h1 : (⟨1, 0, 5, []⟩ : NW.Fld).Ok := ⟨by decide, by decide, .inl ⟨rfl, rfl, by decide⟩⟩
  have := NW.parse_encs' [⟨1, 0, 5, []⟩] (by intro f hf; simp at hf; subst hf; exact h1)
  have e : NW.encs [⟨1, 0, 5, []⟩] = [8, 5] := by simp [NW.encs, NW.Fld.enc, NW.varint_lt]
  rw [e] at this
  have hk : kindL [3, 8, 5] = 3 := rfl
  have h : takeR ([3, 8, 5].drop 1) 0 = (5, true) := by
    rw [show ([3, 8, 5] : List UInt8).drop 1 = [8, 5] from rfl, takeR, this]; rfl
  rw [pingR, if_pos hk, h]; rfl
@[irreducible] def SB05 : List UInt8 := statusBytes 1 [97] 1 true []
theorem putStatus05 (w : World) : Calls Tryd.prog 19 #[.agg #[.int .i64 1, .string (B [97]), .int .u64 1, .bool true, .string (B [])]] w fun e w' => e = .returned (.tuple #[.string (B SB05), .bool true]) ∧ Below w.heap.size w w' := by
  have h := putStatus_any 1 [97] 1 true [] (by decide) (by decide) w
  rw [show statusB 1 [97] ((1 : Nat) : Int) true [] = true from rfl] at h
  unfold SB05
  exact h
theorem kind05 (w : World) : Calls Tryd.prog 25 #[.string (B SB05)] w fun e w' => e = .returned (.int .i64 4) ∧ Below w.heap.size w w' := by
  have h := kind_any SB05 w
  rw [show kindL SB05 = 4 by unfold SB05; rfl] at h
  exact h
theorem kind00 (w : World) : Calls Tryd.prog 25 #[.string (B [])] w fun e w' => e = .returned (.int .i64 0) ∧ Below w.heap.size w w' := kind_any [] w
theorem ex05_ctr {e : EA} (he : e.Ok) : Ctr Tryd.prog (GE e) 17 [] [] (fun os v => os = [] ∧ v = vv (.bool true)) := by
  have hg := getReq_ctr he [1, 8, 1, 34, 1, 42] (by decide)
  rw [ex_req] at hg
  simp only [reqRO, reqRV] at hg
  have hp := getPing_ctr he [3, 8, 5] (by decide)
  rw [pingR5] at hp
  have h5 := ping_ctr 5 (by decide)
  rw [ping5] at h5
  refine Ctr.less ?_
  intro X0 hP0 hG0 N0 hN0
  refine CallVC.inline (f := 17) (by rw [hP0]; exact Tryd.func17) rfl Tryd.ntmps17 rfl (by simp) ?_
  intro X K hU hnt hbl hK
  have hP : X.P = Tryd.prog := by rw [hU.P, hP0]
  have hG := hG0.under hU
  have hT : elemSz X.P 38 = some (9, 1) ∧ zeroCells X.P 9 = some [(Value.string { data := #[] })] ∧ fieldsOf X.P 41 = some [(0, 1), (1, 1), (2, 1), (3, 1), (4, 1), (5, 1), (6, 1)] ∧ zeroCells X.P 41 = some [(Value.int IntKind.i64 0), (Value.bool false), (Value.int IntKind.u64 0), (Value.slice none 0 0), (Value.slice none 0 0), (Value.slice none 0 0), (Value.string { data := #[] })] ∧ calleeOk X.P 40 = true ∧ calleeOk X.P 24 = true ∧ szOf X.P 41 = some 7 ∧ calleeOk X.P 22 = true ∧ fieldsOf X.P 26 = some [(0, 1), (1, 1)] ∧ zeroCells X.P 26 = some [(Value.int IntKind.i64 0), (Value.string { data := #[] })] ∧ fieldsOf X.P 30 = some [(0, 2), (2, 1), (3, 1), (4, 1)] ∧ zeroCells X.P 30 = some [(Value.int IntKind.i64 0), (Value.string { data := #[] }), (Value.int IntKind.u64 0), (Value.bool false), (Value.string { data := #[] })] ∧ calleeOk X.P 19 = true ∧ fieldOff X.P 41 3 = some 3 ∧ aggOf X.P 38 = some false ∧ szOf X.P 38 = some 1 ∧ X.P.underlying 38 = some (TypeDesc.slice 9) ∧ calleeOk X.P 21 = true ∧ calleeOk X.P 25 = true := by rw [hP]; exact ⟨Ty.el38, Ty.ze9, Ty.fs41, Ty.ze41, Ty.co40, Ty.co24, Ty.sz41, Ty.co22, Ty.fs26, Ty.ze26, Ty.fs30, Ty.ze30, Ty.co19, Ty.fo41_3, Ty.ag38, Ty.sz38, Tryd.underlying38, Ty.co21, Ty.co25⟩
  simp only [GA, ↓GB, GX, simprocAttr] at hbl ⊢
  repeat' (first
    | (refine SX.seqK ?_; intro N hN)
    | ((first | (refine SX.ops ?_)); simp only [GA, ↓GB, GX, simprocAttr, hnt, hT])
    | ((first | refine SX.skip ?_ | refine SX.exit ?_ | refine SX.label ?_); try simp only [GA, ↓GB, GX, simprocAttr])
    | (refine SX.cond rfl (fun hb => ?_) (fun hb => ?_) <;> ((first | cases hb | (simp only [HBs] at hb) | skip) <;> (first | (exfalso; omega) | skip)))
    | (refine SX.ret ?_; try simp only [GA, ↓GB, GX, simprocAttr])
    | (refine hN _ ?_; clear hN N)
    | ((first | refine hK _ _ (FinI.ret3 ?_) | refine hK _ _ (FinI.nrm3 ?_)); simp only [GA, ↓GB, GX, simprocAttr, finP_s, hnt, hT]; refine Done.out ?_)
    | (clear hN N; first | (refine hN _ ?_; clear hN N) | (clear hN N; first | (refine hN _ ?_; clear hN N) | (clear hN N; first | (refine hN _ ?_; clear hN N) | (clear hN N; first | (refine hN _ ?_; clear hN N) | (clear hN N; first | (refine hN _ ?_; clear hN N) | (refine hN _ ?_; clear hN N))))))
    | (refine bif2.mk (fun hb => ?_) (fun hb => ?_) <;> (try simp only [hb, GA, ↓GB, GX, simprocAttr, hnt, hT]) <;> ((first | cases hb | (simp only [HBs] at hb) | skip) <;> (first | (exfalso; omega) | skip)))
    | ((first | (refine Ctr.use (putReqEx) hP ?_ [0] ?_ rfl rfl ?_; (focus (intro p hp; cases hp)); (focus (refine LeR.of rfl trivial ?_ ?_ ?_ ?_ ?_ <;> first | decide | (simp only [GA, ↓GB, GX, simprocAttr, GDs]; done))); intro os' s hR; obtain ⟨rfl, rfl⟩ := hR) | (refine Ctr.use (hg) hP hG [] ?_ rfl rfl ?_; (focus (refine LeR.of rfl trivial ?_ ?_ ?_ ?_ ?_ <;> first | decide | (simp only [GA, ↓GB, GX, simprocAttr, GDs]; done))); intro os' s hR; obtain ⟨rfl, rfl⟩ := hR) | (refine Ctr.use (putReqZero) hP ?_ [] ?_ rfl rfl ?_; (focus (intro p hp; cases hp)); (focus (refine LeR.of rfl trivial ?_ ?_ ?_ ?_ ?_ <;> first | decide | (simp only [GA, ↓GB, GX, simprocAttr, GDs]; done))); intro os' s hR; obtain ⟨rfl, rfl⟩ := hR) | (refine Ctr.use (hp) hP hG [] ?_ rfl rfl ?_; (focus (refine LeR.of rfl trivial ?_ ?_ ?_ ?_ ?_ <;> first | decide | (simp only [GA, ↓GB, GX, simprocAttr, GDs]; done))); intro os' s hR; obtain ⟨rfl, rfl⟩ := hR) | (refine Ctr.use (h5) hP ?_ [] ?_ rfl rfl ?_; (focus (intro p hp; cases hp)); (focus (refine LeR.of rfl trivial ?_ ?_ ?_ ?_ ?_ <;> first | decide | (simp only [GA, ↓GB, GX, simprocAttr, GDs]; done))); intro os' s hR; obtain ⟨rfl, rfl⟩ := hR) | (refine CallVC.pt (l := [_, _]) hP (putStatus05) rfl ?_) | (refine CallQ.pt (l := [_, _]) hP (putStatus05) rfl ?_) | (refine CallVC.pv hP (kind05) rfl ?_) | (refine CallQ.pv hP (kind05) rfl ?_) | (refine CallVC.pv hP (kind00) rfl ?_) | (refine CallQ.pv hP (kind00) rfl ?_)); simp only [GA, ↓GB, GX, simprocAttr, hnt, hT])
    | (refine SX.block ?_)
    | (refine and_mk ?_ ?_; (focus first | decide | omega | rfl | assumption | (simp only [List.length_append, List.length_cons, List.length_nil, B_size]; omega) | (simp; done)))
    | (refine And.intro ?_ ?_))
  all_goals (try refine Done.mk ?_)
  all_goals ((refine hN0 _ _ ⟨[], _, _, ?_, ?_, ?_, ⟨rfl, rfl⟩⟩; (focus exact LeR.of rfl trivial (by simp only [GA, ↓GB, GX, simprocAttr, GDs]) (by decide) rfl rfl rfl); rotate_left; (focus rfl)); rfl)
end Go.Proofs.YtbdacbcpniegiaaDoor
namespace Go.Proofs.YtbdacbcpniegiaaDoor
open Go Go.RowKit Go.Proofs Go.Sx
set_option maxHeartbeats 16000000
set_option maxRecDepth 100000
set_option linter.unusedSimpArgs false
set_option linter.unusedVariables false
theorem wB8 {x : Int} (h0 : 0 ≤ x) (h1 : x < 256) : IntKind.u8.wrap x = x := by
  simp [IntKind.wrap, IntKind.bits, IntKind.signed]
  omega
def sufL (n : Nat) : List UInt8 := if n = 0 then [] else if n = 1 then [49] else [47, 120]
def nameL (n : Nat) : List UInt8 := if n % 16 = 15 then [42] else UInt8.ofNat (97 + n % 12) :: sufL (n / 16 % 3)
def nmC (n : Nat) (c : UInt8) (k : Nat) (M : Nat → Bool) : Cfg :=
  ⟨[(16, bif M 10 then vv (.string (B (sufL k))) else ddd), (15, bif M 9 then .one (.c (.loc 1 k)) else ddd), (14, bif M 8 then vv (.int .u8 (k : Nat)) else ddd), (13, bif M 7 then vv (.int .u8 ((n : Int).tdiv 16)) else ddd), (12, bif M 6 then vv (.int .u8 n) else ddd), (11, bif M 5 then .one (.c (.sl 1 0 3 3)) else ddd), (10, bif M 4 then vv (.string (B [c])) else ddd), (9, bif M 3 then .one (.c (.sl 0 0 1 1)) else ddd), (8, bif M 2 then vv (.int .u8 (c.toNat : Nat)) else ddd), (7, bif M 1 then vv (.int .u8 ((n : Int).tmod 12)) else ddd), (6, bif M 0 then vv (.int .u8 n) else ddd), (5, vv (.bool false)), (4, vv (.int .u8 ((n : Int).tmod 16))), (3, vv (.int .u8 n)), (2, vv (.string (B []))), (0, vv (.int .u8 n))],
   [bif M 3 then .cells [.v (.int .u8 (c.toNat : Nat))] 5 else .gone, bif M 5 then .cells [.v (.string (B [])), .v (.string (B [49])), .v (.string (B [47, 120]))] 9 else .gone]⟩
theorem name_star (n : Nat) (hn : n < 256) (h : n % 16 = 15) : Ctr Tryd.prog [] 18 [] [vv (.int .u8 n)] (fun os v => os = [] ∧ v = vv (.string (B [42]))) := by
  have h16 : ((n : Int).tmod 16 == 15) = true := by rw [Int.tmod_eq_emod_of_nonneg (by omega)]; simp; omega
  refine Ctr.less ?_
  intro X0 hP0 hG0 N0 hN0
  refine CallVC.inline (f := 18) (by rw [hP0]; exact Tryd.func18) rfl Tryd.ntmps18 rfl (by simp) ?_
  intro X K hU hnt hbl hK
  have hP : X.P = Tryd.prog := by rw [hU.P, hP0]
  have hG := hG0.under hU
  have hT : elemSz X.P 58 = some (5, 1) ∧ zeroCells X.P 5 = some [(Value.int IntKind.u8 0)] ∧ X.P.underlying 58 = some (TypeDesc.slice 5) ∧ X.P.underlying 9 = some TypeDesc.string ∧ isBytesT X.P 58 = true ∧ isStrT X.P 9 = true ∧ elemSz X.P 38 = some (9, 1) ∧ zeroCells X.P 9 = some [(Value.string { data := #[] })] ∧ aggOf X.P 9 = some false ∧ szOf X.P 9 = some 1 := by rw [hP]; exact ⟨Ty.el58, Ty.ze5, Tryd.underlying58, Tryd.underlying9, Ty.ib58, Ty.is9, Ty.el38, Ty.ze9, Ty.ag9, Ty.sz9⟩
  simp only [GA, ↓GB, GX, simprocAttr] at hbl ⊢
  repeat' (first
    | (refine SX.seqK ?_; intro N hN)
    | ((first | (refine SX.ops ?_)); simp only [GA, ↓GB, GX, simprocAttr, hnt, hT, h16])
    | ((first | refine SX.skip ?_ | refine SX.exit ?_ | refine SX.label ?_); try simp only [GA, ↓GB, GX, simprocAttr])
    | (refine SX.cond rfl (fun hb => ?_) (fun hb => ?_) <;> ((first | cases hb | (simp only [HBs] at hb) | skip) <;> (first | (exfalso; omega) | skip)))
    | (refine SX.ret ?_; try simp only [GA, ↓GB, GX, simprocAttr])
    | (refine hN _ ?_; clear hN N)
    | ((first | refine hK _ _ (FinI.ret3 ?_) | refine hK _ _ (FinI.nrm3 ?_)); simp only [GA, ↓GB, GX, simprocAttr, finP_s, hnt, hT, h16]; refine Done.out ?_)
    | (clear hN N; first | (refine hN _ ?_; clear hN N) | (clear hN N; first | (refine hN _ ?_; clear hN N) | (clear hN N; first | (refine hN _ ?_; clear hN N) | (clear hN N; first | (refine hN _ ?_; clear hN N) | (clear hN N; first | (refine hN _ ?_; clear hN N) | (refine hN _ ?_; clear hN N))))))
    | (refine bif2.mk (fun hb => ?_) (fun hb => ?_) <;> (try simp only [hb, GA, ↓GB, GX, simprocAttr, hnt, hT, h16]) <;> ((first | cases hb | (simp only [HBs] at hb) | skip) <;> (first | (exfalso; omega) | skip)))
    | (refine SX.block ?_)
    | (refine and_mk ?_ ?_; (focus first | decide | omega | rfl | assumption | (simp only [List.length_append, List.length_cons, List.length_nil, B_size]; omega) | (simp; done)))
    | (refine And.intro ?_ ?_))
  all_goals (try refine Done.mk ?_)
  all_goals ((refine hN0 _ _ ⟨[], _, _, ?_, ?_, ?_, ⟨rfl, rfl⟩⟩; (focus exact LeR.of rfl trivial (by simp only [GA, ↓GB, GX, simprocAttr, GDs]) (by decide) rfl rfl rfl); rotate_left; (focus rfl)); rfl)
theorem name_0 (n : Nat) (hn : n < 256) (h : ¬ n % 16 = 15) (h3 : n / 16 % 3 = 0) : Ctr Tryd.prog [] 18 [] [vv (.int .u8 n)] (fun os v => os = [] ∧ v = vv (.string (B (UInt8.ofNat (97 + n % 12) :: sufL 0)))) := by
  have h16 : ((n : Int).tmod 16 == 15) = false := by rw [Int.tmod_eq_emod_of_nonneg (by omega)]; simp; omega
  obtain ⟨c, hcc⟩ : ∃ c, UInt8.ofNat (97 + n % 12) = c := ⟨_, rfl⟩
  have hc : IntKind.u8.wrap (97 + (n : Int).tmod 12) = (c.toNat : Int) := by
    rw [← hcc, Int.tmod_eq_emod_of_nonneg (by omega), UInt8.toNat_ofNat', wB8 (by omega) (by omega)]
    omega
  have hd16 : IntKind.u8.wrap ((n : Int).tdiv 16) = (n : Int).tdiv 16 := by
    exact wB8 (by rw [Int.tdiv_eq_ediv_of_nonneg (by omega)]; omega) (by rw [Int.tdiv_eq_ediv_of_nonneg (by omega)]; omega)
  have hk : ((n : Int).tdiv 16).tmod 3 = 0 := by
    rw [Int.tdiv_eq_ediv_of_nonneg (by omega), Int.tmod_eq_emod_of_nonneg (by omega)]
    omega
  rw [hcc]
  refine Ctr.less ?_
  intro X0 hP0 hG0 N0 hN0
  refine CallVC.inline (f := 18) (by rw [hP0]; exact Tryd.func18) rfl Tryd.ntmps18 rfl (by simp) ?_
  intro X K hU hnt hbl hK
  have hP : X.P = Tryd.prog := by rw [hU.P, hP0]
  have hG := hG0.under hU
  have hT : elemSz X.P 58 = some (5, 1) ∧ zeroCells X.P 5 = some [(Value.int IntKind.u8 0)] ∧ X.P.underlying 58 = some (TypeDesc.slice 5) ∧ X.P.underlying 9 = some TypeDesc.string ∧ isBytesT X.P 58 = true ∧ isStrT X.P 9 = true ∧ elemSz X.P 38 = some (9, 1) ∧ zeroCells X.P 9 = some [(Value.string { data := #[] })] ∧ aggOf X.P 9 = some false ∧ szOf X.P 9 = some 1 := by rw [hP]; exact ⟨Ty.el58, Ty.ze5, Tryd.underlying58, Tryd.underlying9, Ty.ib58, Ty.is9, Ty.el38, Ty.ze9, Ty.ag9, Ty.sz9⟩
  simp only [GA, ↓GB, GX, simprocAttr] at hbl ⊢
  repeat' (first
    | (refine SX.seqK ?_; intro N hN)
    | ((first | (refine SX.ops ?_)); simp only [GA, ↓GB, GX, simprocAttr, hnt, hT, h16, hc, hk, hd16])
    | ((first | refine SX.skip ?_ | refine SX.exit ?_ | refine SX.label ?_); try simp only [GA, ↓GB, GX, simprocAttr])
    | (refine SX.cond rfl (fun hb => ?_) (fun hb => ?_) <;> ((first | cases hb | (simp only [HBs] at hb) | skip) <;> (first | (exfalso; omega) | skip)))
    | (refine SX.ret ?_; try simp only [GA, ↓GB, GX, simprocAttr])
    | (refine hN _ ?_; clear hN N)
    | ((first | refine hK _ _ (FinI.ret3 ?_) | refine hK _ _ (FinI.nrm3 ?_)); simp only [GA, ↓GB, GX, simprocAttr, finP_s, hnt, hT, h16, hc, hk, hd16]; refine Done.out ?_)
    | (clear hN N; first | (refine hN _ ?_; clear hN N) | (clear hN N; first | (refine hN _ ?_; clear hN N) | (clear hN N; first | (refine hN _ ?_; clear hN N) | (clear hN N; first | (refine hN _ ?_; clear hN N) | (clear hN N; first | (refine hN _ ?_; clear hN N) | (refine hN _ ?_; clear hN N))))))
    | (refine bif2.mk (fun hb => ?_) (fun hb => ?_) <;> (try simp only [hb, GA, ↓GB, GX, simprocAttr, hnt, hT, h16, hc, hk, hd16]) <;> ((first | cases hb | (simp only [HBs] at hb) | skip) <;> (first | (exfalso; omega) | skip)))
    | (refine SX.block ?_)
    | (refine and_mk ?_ ?_; (focus first | decide | omega | rfl | assumption | (simp only [List.length_append, List.length_cons, List.length_nil, B_size]; omega) | (simp; done)))
    | (refine And.intro ?_ ?_))
  all_goals (try refine Done.mk ?_)
  refine SX.dia (id := 3) [0, 1, 2, 3, 4, 5, 6, 7, 8, 9, 10] (nmC n c 0) [.s 11, .s 12] (nmC n c 0 (fun _ => true)) ?_ ?_ ?_ ?_ rfl ?_
  · rw [hP]; kernel_rfl
  · kernel_rfl
  · refine Imp.trans (Imp.le [] (d := ⟨[(5, vv (.bool false)), (4, vv (.int .u8 ((n : Int).tmod 16))), (3, vv (.int .u8 n)), (2, vv (.string (B []))), (0, vv (.int .u8 n))], []⟩) (by (refine LeR.of ?_ ?_ ?_ ?_ ?_ ?_ ?_ <;> first | (rw [hbl]; decide) | decide | (simp only [GA, ↓GB, GX, simprocAttr, GDs]; done) | (simp only [GA, ↓GB, GX, simprocAttr, GDs]; rfl; done)))) ?_
    refine Imp.trans (Imp.dead (t := 6) (by rw [hnt]; decide)) ?_
    refine Imp.trans (Imp.dead (t := 7) (by rw [hnt]; decide)) ?_
    refine Imp.trans (Imp.dead (t := 8) (by rw [hnt]; decide)) ?_
    refine Imp.trans (Imp.dead (t := 9) (by rw [hnt]; decide)) ?_
    refine Imp.trans (Imp.dead (t := 10) (by rw [hnt]; decide)) ?_
    refine Imp.trans (Imp.dead (t := 11) (by rw [hnt]; decide)) ?_
    refine Imp.trans (Imp.dead (t := 12) (by rw [hnt]; decide)) ?_
    refine Imp.trans (Imp.dead (t := 13) (by rw [hnt]; decide)) ?_
    refine Imp.trans (Imp.dead (t := 14) (by rw [hnt]; decide)) ?_
    refine Imp.trans (Imp.dead (t := 15) (by rw [hnt]; decide)) ?_
    refine Imp.trans (Imp.dead (t := 16) (by rw [hnt]; decide)) ?_
    refine Imp.trans Imp.gone ?_
    refine Imp.trans Imp.gone ?_
    exact Imp.refl
  · rintro M i hi hd
    simp only [List.mem_cons, List.not_mem_nil, or_false] at hi
    rcases hi with rfl | rfl | rfl | rfl | rfl | rfl | rfl | rfl | rfl | rfl | rfl
    · have n1 : M 1 = false := dNot hd rfl (Array.mem_of_getElem? (i := 0) rfl) rfl hd.un
      have n2 : M 2 = false := dNot hd rfl (Array.mem_of_getElem? (i := 0) rfl) rfl n1
      have n3 : M 3 = false := dNot hd rfl (Array.mem_of_getElem? (i := 0) rfl) rfl n2
      have n4 : M 4 = false := dNot hd rfl (Array.mem_of_getElem? (i := 0) rfl) rfl n3
      have hun := hd.un
      refine ⟨_, rfl, rfl, ?_⟩
      simp only [nmC, upd, ↓reduceIte, Nat.reduceEqDiff, reduceCtorEq, hun, n1, n2, n3, n4, ren_cond, okB_cond, lren_cond, lokB_cond, map_cond, all_cond, Bool.cond_self, cond_true, cond_false, List.map_append, List.all_append, List.map_cons, List.map_nil, Bool.and_true, List.nil_append, List.cons_append, simprocAttr]
      refine vcOp_sound ?_
      simp only [GA, ↓GB, GX, simprocAttr, hnt, hT, hc, hk, hd16]
      repeat' (refine and_mk ?_ ?_; (focus first | decide | omega | rfl | assumption))
      all_goals (refine Imp.le [0, 1] ?_; (refine LeR.of ?_ ?_ ?_ ?_ ?_ ?_ ?_ <;> first | (rw [hbl]; decide) | decide | (simp only [hc, hd16, hk, sufL, GA, ↓GB, GX, simprocAttr, GDs, ren_cond, okB_cond, lren_cond, lokB_cond, map_cond, all_cond, Bool.cond_self, cond_true, cond_false, List.map_append, List.all_append, List.map_cons, List.map_nil, Bool.and_true]; done)))
    · have m0 : M 0 = true := hd.dep _ rfl _ (Array.mem_of_getElem? (i := 0) rfl) rfl
      have n2 : M 2 = false := dNot hd rfl (Array.mem_of_getElem? (i := 0) rfl) rfl hd.un
      have n3 : M 3 = false := dNot hd rfl (Array.mem_of_getElem? (i := 0) rfl) rfl n2
      have n4 : M 4 = false := dNot hd rfl (Array.mem_of_getElem? (i := 0) rfl) rfl n3
      have hun := hd.un
      refine ⟨_, rfl, rfl, ?_⟩
      simp only [nmC, upd, ↓reduceIte, Nat.reduceEqDiff, reduceCtorEq, hun, m0, n2, n3, n4, ren_cond, okB_cond, lren_cond, lokB_cond, map_cond, all_cond, Bool.cond_self, cond_true, cond_false, List.map_append, List.all_append, List.map_cons, List.map_nil, Bool.and_true, List.nil_append, List.cons_append, simprocAttr]
      refine vcOp_sound ?_
      simp only [GA, ↓GB, GX, simprocAttr, hnt, hT, hc, hk, hd16]
      repeat' (refine and_mk ?_ ?_; (focus first | decide | omega | rfl | assumption))
      all_goals (refine Imp.le [0, 1] ?_; (refine LeR.of ?_ ?_ ?_ ?_ ?_ ?_ ?_ <;> first | (rw [hbl]; decide) | decide | (simp only [hc, hd16, hk, sufL, GA, ↓GB, GX, simprocAttr, GDs, ren_cond, okB_cond, lren_cond, lokB_cond, map_cond, all_cond, Bool.cond_self, cond_true, cond_false, List.map_append, List.all_append, List.map_cons, List.map_nil, Bool.and_true]; done)))
    · have m1 : M 1 = true := hd.dep _ rfl _ (Array.mem_of_getElem? (i := 0) rfl) rfl
      have m0 : M 0 = true := hd.cl 1 _ rfl m1 _ (Array.mem_of_getElem? (i := 0) rfl) rfl
      have n3 : M 3 = false := dNot hd rfl (Array.mem_of_getElem? (i := 0) rfl) rfl hd.un
      have n4 : M 4 = false := dNot hd rfl (Array.mem_of_getElem? (i := 0) rfl) rfl n3
      have hun := hd.un
      refine ⟨_, rfl, rfl, ?_⟩
      simp only [nmC, upd, ↓reduceIte, Nat.reduceEqDiff, reduceCtorEq, hun, m1, m0, n3, n4, ren_cond, okB_cond, lren_cond, lokB_cond, map_cond, all_cond, Bool.cond_self, cond_true, cond_false, List.map_append, List.all_append, List.map_cons, List.map_nil, Bool.and_true, List.nil_append, List.cons_append, simprocAttr]
      refine vcOp_sound ?_
      simp only [GA, ↓GB, GX, simprocAttr, hnt, hT, hc, hk, hd16]
      repeat' (refine and_mk ?_ ?_; (focus first | decide | omega | rfl | assumption))
      all_goals (refine Imp.le [0, 1] ?_; (refine LeR.of ?_ ?_ ?_ ?_ ?_ ?_ ?_ <;> first | (rw [hbl]; decide) | decide | (simp only [hc, hd16, hk, sufL, GA, ↓GB, GX, simprocAttr, GDs, ren_cond, okB_cond, lren_cond, lokB_cond, map_cond, all_cond, Bool.cond_self, cond_true, cond_false, List.map_append, List.all_append, List.map_cons, List.map_nil, Bool.and_true]; done)))
    · have m2 : M 2 = true := hd.dep _ rfl _ (Array.mem_of_getElem? (i := 0) rfl) rfl
      have m1 : M 1 = true := hd.cl 2 _ rfl m2 _ (Array.mem_of_getElem? (i := 0) rfl) rfl
      have m0 : M 0 = true := hd.cl 1 _ rfl m1 _ (Array.mem_of_getElem? (i := 0) rfl) rfl
      have n4 : M 4 = false := dNot hd rfl (Array.mem_of_getElem? (i := 0) rfl) rfl hd.un
      have hun := hd.un
      refine ⟨_, rfl, rfl, ?_⟩
      simp only [nmC, upd, ↓reduceIte, Nat.reduceEqDiff, reduceCtorEq, hun, m2, m1, m0, n4, ren_cond, okB_cond, lren_cond, lokB_cond, map_cond, all_cond, Bool.cond_self, cond_true, cond_false, List.map_append, List.all_append, List.map_cons, List.map_nil, Bool.and_true, List.nil_append, List.cons_append, simprocAttr]
      refine vcOp_sound ?_
      simp only [GA, ↓GB, GX, simprocAttr, hnt, hT, hc, hk, hd16]
      repeat' (refine and_mk ?_ ?_; (focus first | decide | omega | rfl | assumption))
      all_goals (refine Imp.le [2, 1] ?_; (refine LeR.of ?_ ?_ ?_ ?_ ?_ ?_ ?_ <;> first | (rw [hbl]; decide) | decide | (simp only [hc, hd16, hk, sufL, GA, ↓GB, GX, simprocAttr, GDs, ren_cond, okB_cond, lren_cond, lokB_cond, map_cond, all_cond, Bool.cond_self, cond_true, cond_false, List.map_append, List.all_append, List.map_cons, List.map_nil, Bool.and_true]; done)))
    · have m3 : M 3 = true := hd.dep _ rfl _ (Array.mem_of_getElem? (i := 0) rfl) rfl
      have m2 : M 2 = true := hd.cl 3 _ rfl m3 _ (Array.mem_of_getElem? (i := 0) rfl) rfl
      have m1 : M 1 = true := hd.cl 2 _ rfl m2 _ (Array.mem_of_getElem? (i := 0) rfl) rfl
      have m0 : M 0 = true := hd.cl 1 _ rfl m1 _ (Array.mem_of_getElem? (i := 0) rfl) rfl
      have hun := hd.un
      refine ⟨_, rfl, rfl, ?_⟩
      simp only [nmC, upd, ↓reduceIte, Nat.reduceEqDiff, reduceCtorEq, hun, m3, m2, m1, m0, ren_cond, okB_cond, lren_cond, lokB_cond, map_cond, all_cond, Bool.cond_self, cond_true, cond_false, List.map_append, List.all_append, List.map_cons, List.map_nil, Bool.and_true, List.nil_append, List.cons_append, simprocAttr]
      refine VO.slString (e := 5) [c] rfl rfl rfl rfl (by rw [hP]; kernel_rfl) (by rw [hP]; kernel_rfl) (by rw [hP]; kernel_rfl) ?_
      simp only [GA, ↓GB, GX, simprocAttr, hnt, hT, hc, hk, hd16]
      refine Imp.le [0, 1] ?_
      refine LeR.of ?_ ?_ ?_ ?_ ?_ ?_ ?_ <;> first | (rw [hbl]; decide) | decide | (simp only [hc, hd16, hk, sufL, GA, ↓GB, GX, simprocAttr, GDs, ren_cond, okB_cond, lren_cond, lokB_cond, map_cond, all_cond, Bool.cond_self, cond_true, cond_false, List.map_append, List.all_append, List.map_cons, List.map_nil, Bool.and_true]; done)
    · have n9 : M 9 = false := dNot hd rfl (Array.mem_of_getElem? (i := 0) rfl) rfl hd.un
      have n10 : M 10 = false := dNot hd rfl (Array.mem_of_getElem? (i := 0) rfl) rfl n9
      have hun := hd.un
      refine ⟨_, rfl, rfl, ?_⟩
      simp only [nmC, upd, ↓reduceIte, Nat.reduceEqDiff, reduceCtorEq, hun, n9, n10, ren_cond, okB_cond, lren_cond, lokB_cond, map_cond, all_cond, Bool.cond_self, cond_true, cond_false, List.map_append, List.all_append, List.map_cons, List.map_nil, Bool.and_true, List.nil_append, List.cons_append, simprocAttr]
      refine vcOp_sound ?_
      simp only [GA, ↓GB, GX, simprocAttr, hnt, hT, hc, hk, hd16]
      repeat' (refine and_mk ?_ ?_; (focus first | decide | omega | rfl | assumption))
      all_goals (refine Imp.le [0, 2] ?_; (refine LeR.of ?_ ?_ ?_ ?_ ?_ ?_ ?_ <;> first | (rw [hbl]; decide) | decide | (simp only [hc, hd16, hk, sufL, GA, ↓GB, GX, simprocAttr, GDs, ren_cond, okB_cond, lren_cond, lokB_cond, map_cond, all_cond, Bool.cond_self, cond_true, cond_false, List.map_append, List.all_append, List.map_cons, List.map_nil, Bool.and_true]; done)))
    · have n7 : M 7 = false := dNot hd rfl (Array.mem_of_getElem? (i := 0) rfl) rfl hd.un
      have n8 : M 8 = false := dNot hd rfl (Array.mem_of_getElem? (i := 0) rfl) rfl n7
      have n9 : M 9 = false := dNot hd rfl (Array.mem_of_getElem? (i := 1) rfl) rfl n8
      have n10 : M 10 = false := dNot hd rfl (Array.mem_of_getElem? (i := 0) rfl) rfl n9
      have hun := hd.un
      refine ⟨_, rfl, rfl, ?_⟩
      simp only [nmC, upd, ↓reduceIte, Nat.reduceEqDiff, reduceCtorEq, hun, n7, n8, n9, n10, ren_cond, okB_cond, lren_cond, lokB_cond, map_cond, all_cond, Bool.cond_self, cond_true, cond_false, List.map_append, List.all_append, List.map_cons, List.map_nil, Bool.and_true, List.nil_append, List.cons_append, simprocAttr]
      refine vcOp_sound ?_
      simp only [GA, ↓GB, GX, simprocAttr, hnt, hT, hc, hk, hd16]
      repeat' (refine and_mk ?_ ?_; (focus first | decide | omega | rfl | assumption))
      all_goals (refine Imp.le [0, 1] ?_; (refine LeR.of ?_ ?_ ?_ ?_ ?_ ?_ ?_ <;> first | (rw [hbl]; decide) | decide | (simp only [hc, hd16, hk, sufL, GA, ↓GB, GX, simprocAttr, GDs, ren_cond, okB_cond, lren_cond, lokB_cond, map_cond, all_cond, Bool.cond_self, cond_true, cond_false, List.map_append, List.all_append, List.map_cons, List.map_nil, Bool.and_true]; done)))
    · have m6 : M 6 = true := hd.dep _ rfl _ (Array.mem_of_getElem? (i := 0) rfl) rfl
      have n8 : M 8 = false := dNot hd rfl (Array.mem_of_getElem? (i := 0) rfl) rfl hd.un
      have n9 : M 9 = false := dNot hd rfl (Array.mem_of_getElem? (i := 1) rfl) rfl n8
      have n10 : M 10 = false := dNot hd rfl (Array.mem_of_getElem? (i := 0) rfl) rfl n9
      have hun := hd.un
      refine ⟨_, rfl, rfl, ?_⟩
      simp only [nmC, upd, ↓reduceIte, Nat.reduceEqDiff, reduceCtorEq, hun, m6, n8, n9, n10, ren_cond, okB_cond, lren_cond, lokB_cond, map_cond, all_cond, Bool.cond_self, cond_true, cond_false, List.map_append, List.all_append, List.map_cons, List.map_nil, Bool.and_true, List.nil_append, List.cons_append, simprocAttr]
      refine vcOp_sound ?_
      simp only [GA, ↓GB, GX, simprocAttr, hnt, hT, hc, hk, hd16]
      repeat' (refine and_mk ?_ ?_; (focus first | decide | omega | rfl | assumption))
      all_goals (refine Imp.le [0, 1] ?_; (refine LeR.of ?_ ?_ ?_ ?_ ?_ ?_ ?_ <;> first | (rw [hbl]; decide) | decide | (simp only [hc, hd16, hk, sufL, GA, ↓GB, GX, simprocAttr, GDs, ren_cond, okB_cond, lren_cond, lokB_cond, map_cond, all_cond, Bool.cond_self, cond_true, cond_false, List.map_append, List.all_append, List.map_cons, List.map_nil, Bool.and_true]; done)))
    · have m7 : M 7 = true := hd.dep _ rfl _ (Array.mem_of_getElem? (i := 0) rfl) rfl
      have m6 : M 6 = true := hd.cl 7 _ rfl m7 _ (Array.mem_of_getElem? (i := 0) rfl) rfl
      have n9 : M 9 = false := dNot hd rfl (Array.mem_of_getElem? (i := 1) rfl) rfl hd.un
      have n10 : M 10 = false := dNot hd rfl (Array.mem_of_getElem? (i := 0) rfl) rfl n9
      have hun := hd.un
      refine ⟨_, rfl, rfl, ?_⟩
      simp only [nmC, upd, ↓reduceIte, Nat.reduceEqDiff, reduceCtorEq, hun, m7, m6, n9, n10, ren_cond, okB_cond, lren_cond, lokB_cond, map_cond, all_cond, Bool.cond_self, cond_true, cond_false, List.map_append, List.all_append, List.map_cons, List.map_nil, Bool.and_true, List.nil_append, List.cons_append, simprocAttr]
      refine vcOp_sound ?_
      simp only [GA, ↓GB, GX, simprocAttr, hnt, hT, hc, hk, hd16]
      repeat' (refine and_mk ?_ ?_; (focus first | decide | omega | rfl | assumption))
      all_goals (refine Imp.le [0, 1] ?_; (refine LeR.of ?_ ?_ ?_ ?_ ?_ ?_ ?_ <;> first | (rw [hbl]; decide) | decide | (simp only [hc, hd16, hk, sufL, GA, ↓GB, GX, simprocAttr, GDs, ren_cond, okB_cond, lren_cond, lokB_cond, map_cond, all_cond, Bool.cond_self, cond_true, cond_false, List.map_append, List.all_append, List.map_cons, List.map_nil, Bool.and_true]; done)))
    · have m5 : M 5 = true := hd.dep _ rfl _ (Array.mem_of_getElem? (i := 0) rfl) rfl
      have m8 : M 8 = true := hd.dep _ rfl _ (Array.mem_of_getElem? (i := 1) rfl) rfl
      have m7 : M 7 = true := hd.cl 8 _ rfl m8 _ (Array.mem_of_getElem? (i := 0) rfl) rfl
      have m6 : M 6 = true := hd.cl 7 _ rfl m7 _ (Array.mem_of_getElem? (i := 0) rfl) rfl
      have n10 : M 10 = false := dNot hd rfl (Array.mem_of_getElem? (i := 0) rfl) rfl hd.un
      have hun := hd.un
      refine ⟨_, rfl, rfl, ?_⟩
      simp only [nmC, upd, ↓reduceIte, Nat.reduceEqDiff, reduceCtorEq, hun, m5, m8, m7, m6, n10, ren_cond, okB_cond, lren_cond, lokB_cond, map_cond, all_cond, Bool.cond_self, cond_true, cond_false, List.map_append, List.all_append, List.map_cons, List.map_nil, Bool.and_true, List.nil_append, List.cons_append, simprocAttr]
      refine vcOp_sound ?_
      simp only [GA, ↓GB, GX, simprocAttr, hnt, hT, hc, hk, hd16]
      repeat' (refine and_mk ?_ ?_; (focus first | decide | omega | rfl | assumption))
      all_goals (refine Imp.le [0, 1] ?_; (refine LeR.of ?_ ?_ ?_ ?_ ?_ ?_ ?_ <;> first | (rw [hbl]; decide) | decide | (simp only [hc, hd16, hk, sufL, GA, ↓GB, GX, simprocAttr, GDs, ren_cond, okB_cond, lren_cond, lokB_cond, map_cond, all_cond, Bool.cond_self, cond_true, cond_false, List.map_append, List.all_append, List.map_cons, List.map_nil, Bool.and_true]; done)))
    · have m9 : M 9 = true := hd.dep _ rfl _ (Array.mem_of_getElem? (i := 0) rfl) rfl
      have m5 : M 5 = true := hd.cl 9 _ rfl m9 _ (Array.mem_of_getElem? (i := 0) rfl) rfl
      have m8 : M 8 = true := hd.cl 9 _ rfl m9 _ (Array.mem_of_getElem? (i := 1) rfl) rfl
      have m7 : M 7 = true := hd.cl 8 _ rfl m8 _ (Array.mem_of_getElem? (i := 0) rfl) rfl
      have m6 : M 6 = true := hd.cl 7 _ rfl m7 _ (Array.mem_of_getElem? (i := 0) rfl) rfl
      have hun := hd.un
      refine ⟨_, rfl, rfl, ?_⟩
      simp only [nmC, upd, ↓reduceIte, Nat.reduceEqDiff, reduceCtorEq, hun, m9, m5, m8, m7, m6, ren_cond, okB_cond, lren_cond, lokB_cond, map_cond, all_cond, Bool.cond_self, cond_true, cond_false, List.map_append, List.all_append, List.map_cons, List.map_nil, Bool.and_true, List.nil_append, List.cons_append, simprocAttr]
      refine vcOp_sound ?_
      simp only [GA, ↓GB, GX, simprocAttr, hnt, hT, hc, hk, hd16]
      repeat' (refine and_mk ?_ ?_; (focus first | decide | omega | rfl | assumption))
      all_goals (refine Imp.le [0, 1] ?_; (refine LeR.of ?_ ?_ ?_ ?_ ?_ ?_ ?_ <;> first | (rw [hbl]; decide) | decide | (simp only [hc, hd16, hk, sufL, GA, ↓GB, GX, simprocAttr, GDs, ren_cond, okB_cond, lren_cond, lokB_cond, map_cond, all_cond, Bool.cond_self, cond_true, cond_false, List.map_append, List.all_append, List.map_cons, List.map_nil, Bool.and_true]; done)))
  simp only [nmC, cond_true, GA, ↓GB, GX, simprocAttr, hnt, hT]
  repeat' (first
    | (refine SX.seqK ?_; intro N hN)
    | ((first | (refine SX.ops ?_)); simp only [GA, ↓GB, GX, simprocAttr, hnt, hT, hc, hk, hd16])
    | ((first | refine SX.skip ?_ | refine SX.exit ?_ | refine SX.label ?_); try simp only [GA, ↓GB, GX, simprocAttr])
    | (refine SX.cond rfl (fun hb => ?_) (fun hb => ?_) <;> ((first | cases hb | (simp only [HBs] at hb) | skip) <;> (first | (exfalso; omega) | skip)))
    | (refine SX.ret ?_; try simp only [GA, ↓GB, GX, simprocAttr])
    | (refine hN _ ?_; clear hN N)
    | ((first | refine hK _ _ (FinI.ret3 ?_) | refine hK _ _ (FinI.nrm3 ?_)); simp only [GA, ↓GB, GX, simprocAttr, finP_s, hnt, hT, hc, hk, hd16]; refine Done.out ?_)
    | (clear hN N; first | (refine hN _ ?_; clear hN N) | (clear hN N; first | (refine hN _ ?_; clear hN N) | (clear hN N; first | (refine hN _ ?_; clear hN N) | (clear hN N; first | (refine hN _ ?_; clear hN N) | (clear hN N; first | (refine hN _ ?_; clear hN N) | (refine hN _ ?_; clear hN N))))))
    | (refine bif2.mk (fun hb => ?_) (fun hb => ?_) <;> (try simp only [hb, GA, ↓GB, GX, simprocAttr, hnt, hT, hc, hk, hd16]) <;> ((first | cases hb | (simp only [HBs] at hb) | skip) <;> (first | (exfalso; omega) | skip)))
    | (refine SX.block ?_)
    | (refine and_mk ?_ ?_; (focus first | decide | omega | rfl | assumption | (simp only [List.length_append, List.length_cons, List.length_nil, B_size]; omega) | (simp; done)))
    | (refine And.intro ?_ ?_))
  all_goals (try refine Done.mk ?_)
  all_goals ((refine hN0 _ _ ⟨[], _, _, ?_, ?_, ?_, ⟨rfl, rfl⟩⟩; (focus exact LeR.of rfl trivial (by simp only [GA, ↓GB, GX, simprocAttr, GDs]) (by decide) rfl rfl rfl); rotate_left; (focus rfl)); rfl)
theorem name_1 (n : Nat) (hn : n < 256) (h : ¬ n % 16 = 15) (h3 : n / 16 % 3 = 1) : Ctr Tryd.prog [] 18 [] [vv (.int .u8 n)] (fun os v => os = [] ∧ v = vv (.string (B (UInt8.ofNat (97 + n % 12) :: sufL 1)))) := by
  have h16 : ((n : Int).tmod 16 == 15) = false := by rw [Int.tmod_eq_emod_of_nonneg (by omega)]; simp; omega
  obtain ⟨c, hcc⟩ : ∃ c, UInt8.ofNat (97 + n % 12) = c := ⟨_, rfl⟩
  have hc : IntKind.u8.wrap (97 + (n : Int).tmod 12) = (c.toNat : Int) := by
    rw [← hcc, Int.tmod_eq_emod_of_nonneg (by omega), UInt8.toNat_ofNat', wB8 (by omega) (by omega)]
    omega
  have hd16 : IntKind.u8.wrap ((n : Int).tdiv 16) = (n : Int).tdiv 16 := by
    exact wB8 (by rw [Int.tdiv_eq_ediv_of_nonneg (by omega)]; omega) (by rw [Int.tdiv_eq_ediv_of_nonneg (by omega)]; omega)
  have hk : ((n : Int).tdiv 16).tmod 3 = 1 := by
    rw [Int.tdiv_eq_ediv_of_nonneg (by omega), Int.tmod_eq_emod_of_nonneg (by omega)]
    omega
  rw [hcc]
  refine Ctr.less ?_
  intro X0 hP0 hG0 N0 hN0
  refine CallVC.inline (f := 18) (by rw [hP0]; exact Tryd.func18) rfl Tryd.ntmps18 rfl (by simp) ?_
  intro X K hU hnt hbl hK
  have hP : X.P = Tryd.prog := by rw [hU.P, hP0]
  have hG := hG0.under hU
  have hT : elemSz X.P 58 = some (5, 1) ∧ zeroCells X.P 5 = some [(Value.int IntKind.u8 0)] ∧ X.P.underlying 58 = some (TypeDesc.slice 5) ∧ X.P.underlying 9 = some TypeDesc.string ∧ isBytesT X.P 58 = true ∧ isStrT X.P 9 = true ∧ elemSz X.P 38 = some (9, 1) ∧ zeroCells X.P 9 = some [(Value.string { data := #[] })] ∧ aggOf X.P 9 = some false ∧ szOf X.P 9 = some 1 := by rw [hP]; exact ⟨Ty.el58, Ty.ze5, Tryd.underlying58, Tryd.underlying9, Ty.ib58, Ty.is9, Ty.el38, Ty.ze9, Ty.ag9, Ty.sz9⟩
  simp only [GA, ↓GB, GX, simprocAttr] at hbl ⊢
  repeat' (first
    | (refine SX.seqK ?_; intro N hN)
    | ((first | (refine SX.ops ?_)); simp only [GA, ↓GB, GX, simprocAttr, hnt, hT, h16, hc, hk, hd16])
    | ((first | refine SX.skip ?_ | refine SX.exit ?_ | refine SX.label ?_); try simp only [GA, ↓GB, GX, simprocAttr])
    | (refine SX.cond rfl (fun hb => ?_) (fun hb => ?_) <;> ((first | cases hb | (simp only [HBs] at hb) | skip) <;> (first | (exfalso; omega) | skip)))
    | (refine SX.ret ?_; try simp only [GA, ↓GB, GX, simprocAttr])
    | (refine hN _ ?_; clear hN N)
    | ((first | refine hK _ _ (FinI.ret3 ?_) | refine hK _ _ (FinI.nrm3 ?_)); simp only [GA, ↓GB, GX, simprocAttr, finP_s, hnt, hT, h16, hc, hk, hd16]; refine Done.out ?_)
    | (clear hN N; first | (refine hN _ ?_; clear hN N) | (clear hN N; first | (refine hN _ ?_; clear hN N) | (clear hN N; first | (refine hN _ ?_; clear hN N) | (clear hN N; first | (refine hN _ ?_; clear hN N) | (clear hN N; first | (refine hN _ ?_; clear hN N) | (refine hN _ ?_; clear hN N))))))
    | (refine bif2.mk (fun hb => ?_) (fun hb => ?_) <;> (try simp only [hb, GA, ↓GB, GX, simprocAttr, hnt, hT, h16, hc, hk, hd16]) <;> ((first | cases hb | (simp only [HBs] at hb) | skip) <;> (first | (exfalso; omega) | skip)))
    | (refine SX.block ?_)
    | (refine and_mk ?_ ?_; (focus first | decide | omega | rfl | assumption | (simp only [List.length_append, List.length_cons, List.length_nil, B_size]; omega) | (simp; done)))
    | (refine And.intro ?_ ?_))
  all_goals (try refine Done.mk ?_)
  refine SX.dia (id := 3) [0, 1, 2, 3, 4, 5, 6, 7, 8, 9, 10] (nmC n c 1) [.s 11, .s 12] (nmC n c 1 (fun _ => true)) ?_ ?_ ?_ ?_ rfl ?_
  · rw [hP]; kernel_rfl
  · kernel_rfl
  · refine Imp.trans (Imp.le [] (d := ⟨[(5, vv (.bool false)), (4, vv (.int .u8 ((n : Int).tmod 16))), (3, vv (.int .u8 n)), (2, vv (.string (B []))), (0, vv (.int .u8 n))], []⟩) (by (refine LeR.of ?_ ?_ ?_ ?_ ?_ ?_ ?_ <;> first | (rw [hbl]; decide) | decide | (simp only [GA, ↓GB, GX, simprocAttr, GDs]; done) | (simp only [GA, ↓GB, GX, simprocAttr, GDs]; rfl; done)))) ?_
    refine Imp.trans (Imp.dead (t := 6) (by rw [hnt]; decide)) ?_
    refine Imp.trans (Imp.dead (t := 7) (by rw [hnt]; decide)) ?_
    refine Imp.trans (Imp.dead (t := 8) (by rw [hnt]; decide)) ?_
    refine Imp.trans (Imp.dead (t := 9) (by rw [hnt]; decide)) ?_
    refine Imp.trans (Imp.dead (t := 10) (by rw [hnt]; decide)) ?_
    refine Imp.trans (Imp.dead (t := 11) (by rw [hnt]; decide)) ?_
    refine Imp.trans (Imp.dead (t := 12) (by rw [hnt]; decide)) ?_
    refine Imp.trans (Imp.dead (t := 13) (by rw [hnt]; decide)) ?_
    refine Imp.trans (Imp.dead (t := 14) (by rw [hnt]; decide)) ?_
    refine Imp.trans (Imp.dead (t := 15) (by rw [hnt]; decide)) ?_
    refine Imp.trans (Imp.dead (t := 16) (by rw [hnt]; decide)) ?_
    refine Imp.trans Imp.gone ?_
    refine Imp.trans Imp.gone ?_
    exact Imp.refl
  · rintro M i hi hd
    simp only [List.mem_cons, List.not_mem_nil, or_false] at hi
    rcases hi with rfl | rfl | rfl | rfl | rfl | rfl | rfl | rfl | rfl | rfl | rfl
    · have n1 : M 1 = false := dNot hd rfl (Array.mem_of_getElem? (i := 0) rfl) rfl hd.un
      have n2 : M 2 = false := dNot hd rfl (Array.mem_of_getElem? (i := 0) rfl) rfl n1
      have n3 : M 3 = false := dNot hd rfl (Array.mem_of_getElem? (i := 0) rfl) rfl n2
      have n4 : M 4 = false := dNot hd rfl (Array.mem_of_getElem? (i := 0) rfl) rfl n3
      have hun := hd.un
      refine ⟨_, rfl, rfl, ?_⟩
      simp only [nmC, upd, ↓reduceIte, Nat.reduceEqDiff, reduceCtorEq, hun, n1, n2, n3, n4, ren_cond, okB_cond, lren_cond, lokB_cond, map_cond, all_cond, Bool.cond_self, cond_true, cond_false, List.map_append, List.all_append, List.map_cons, List.map_nil, Bool.and_true, List.nil_append, List.cons_append, simprocAttr]
      refine vcOp_sound ?_
      simp only [GA, ↓GB, GX, simprocAttr, hnt, hT, hc, hk, hd16]
      repeat' (refine and_mk ?_ ?_; (focus first | decide | omega | rfl | assumption))
      all_goals (refine Imp.le [0, 1] ?_; (refine LeR.of ?_ ?_ ?_ ?_ ?_ ?_ ?_ <;> first | (rw [hbl]; decide) | decide | (simp only [hc, hd16, hk, sufL, GA, ↓GB, GX, simprocAttr, GDs, ren_cond, okB_cond, lren_cond, lokB_cond, map_cond, all_cond, Bool.cond_self, cond_true, cond_false, List.map_append, List.all_append, List.map_cons, List.map_nil, Bool.and_true]; done)))
    · have m0 : M 0 = true := hd.dep _ rfl _ (Array.mem_of_getElem? (i := 0) rfl) rfl
      have n2 : M 2 = false := dNot hd rfl (Array.mem_of_getElem? (i := 0) rfl) rfl hd.un
      have n3 : M 3 = false := dNot hd rfl (Array.mem_of_getElem? (i := 0) rfl) rfl n2
      have n4 : M 4 = false := dNot hd rfl (Array.mem_of_getElem? (i := 0) rfl) rfl n3
      have hun := hd.un
      refine ⟨_, rfl, rfl, ?_⟩
      simp only [nmC, upd, ↓reduceIte, Nat.reduceEqDiff, reduceCtorEq, hun, m0, n2, n3, n4, ren_cond, okB_cond, lren_cond, lokB_cond, map_cond, all_cond, Bool.cond_self, cond_true, cond_false, List.map_append, List.all_append, List.map_cons, List.map_nil, Bool.and_true, List.nil_append, List.cons_append, simprocAttr]
      refine vcOp_sound ?_
      simp only [GA, ↓GB, GX, simprocAttr, hnt, hT, hc, hk, hd16]
      repeat' (refine and_mk ?_ ?_; (focus first | decide | omega | rfl | assumption))
      all_goals (refine Imp.le [0, 1] ?_; (refine LeR.of ?_ ?_ ?_ ?_ ?_ ?_ ?_ <;> first | (rw [hbl]; decide) | decide | (simp only [hc, hd16, hk, sufL, GA, ↓GB, GX, simprocAttr, GDs, ren_cond, okB_cond, lren_cond, lokB_cond, map_cond, all_cond, Bool.cond_self, cond_true, cond_false, List.map_append, List.all_append, List.map_cons, List.map_nil, Bool.and_true]; done)))
    · have m1 : M 1 = true := hd.dep _ rfl _ (Array.mem_of_getElem? (i := 0) rfl) rfl
      have m0 : M 0 = true := hd.cl 1 _ rfl m1 _ (Array.mem_of_getElem? (i := 0) rfl) rfl
      have n3 : M 3 = false := dNot hd rfl (Array.mem_of_getElem? (i := 0) rfl) rfl hd.un
      have n4 : M 4 = false := dNot hd rfl (Array.mem_of_getElem? (i := 0) rfl) rfl n3
      have hun := hd.un
      refine ⟨_, rfl, rfl, ?_⟩
      simp only [nmC, upd, ↓reduceIte, Nat.reduceEqDiff, reduceCtorEq, hun, m1, m0, n3, n4, ren_cond, okB_cond, lren_cond, lokB_cond, map_cond, all_cond, Bool.cond_self, cond_true, cond_false, List.map_append, List.all_append, List.map_cons, List.map_nil, Bool.and_true, List.nil_append, List.cons_append, simprocAttr]
      refine vcOp_sound ?_
      simp only [GA, ↓GB, GX, simprocAttr, hnt, hT, hc, hk, hd16]
      repeat' (refine and_mk ?_ ?_; (focus first | decide | omega | rfl | assumption))
      all_goals (refine Imp.le [0, 1] ?_; (refine LeR.of ?_ ?_ ?_ ?_ ?_ ?_ ?_ <;> first | (rw [hbl]; decide) | decide | (simp only [hc, hd16, hk, sufL, GA, ↓GB, GX, simprocAttr, GDs, ren_cond, okB_cond, lren_cond, lokB_cond, map_cond, all_cond, Bool.cond_self, cond_true, cond_false, List.map_append, List.all_append, List.map_cons, List.map_nil, Bool.and_true]; done)))
    · have m2 : M 2 = true := hd.dep _ rfl _ (Array.mem_of_getElem? (i := 0) rfl) rfl
      have m1 : M 1 = true := hd.cl 2 _ rfl m2 _ (Array.mem_of_getElem? (i := 0) rfl) rfl
      have m0 : M 0 = true := hd.cl 1 _ rfl m1 _ (Array.mem_of_getElem? (i := 0) rfl) rfl
      have n4 : M 4 = false := dNot hd rfl (Array.mem_of_getElem? (i := 0) rfl) rfl hd.un
      have hun := hd.un
      refine ⟨_, rfl, rfl, ?_⟩
      simp only [nmC, upd, ↓reduceIte, Nat.reduceEqDiff, reduceCtorEq, hun, m2, m1, m0, n4, ren_cond, okB_cond, lren_cond, lokB_cond, map_cond, all_cond, Bool.cond_self, cond_true, cond_false, List.map_append, List.all_append, List.map_cons, List.map_nil, Bool.and_true, List.nil_append, List.cons_append, simprocAttr]
      refine vcOp_sound ?_
      simp only [GA, ↓GB, GX, simprocAttr, hnt, hT, hc, hk, hd16]
      repeat' (refine and_mk ?_ ?_; (focus first | decide | omega | rfl | assumption))
      all_goals (refine Imp.le [2, 1] ?_; (refine LeR.of ?_ ?_ ?_ ?_ ?_ ?_ ?_ <;> first | (rw [hbl]; decide) | decide | (simp only [hc, hd16, hk, sufL, GA, ↓GB, GX, simprocAttr, GDs, ren_cond, okB_cond, lren_cond, lokB_cond, map_cond, all_cond, Bool.cond_self, cond_true, cond_false, List.map_append, List.all_append, List.map_cons, List.map_nil, Bool.and_true]; done)))
    · have m3 : M 3 = true := hd.dep _ rfl _ (Array.mem_of_getElem? (i := 0) rfl) rfl
      have m2 : M 2 = true := hd.cl 3 _ rfl m3 _ (Array.mem_of_getElem? (i := 0) rfl) rfl
      have m1 : M 1 = true := hd.cl 2 _ rfl m2 _ (Array.mem_of_getElem? (i := 0) rfl) rfl
      have m0 : M 0 = true := hd.cl 1 _ rfl m1 _ (Array.mem_of_getElem? (i := 0) rfl) rfl
      have hun := hd.un
      refine ⟨_, rfl, rfl, ?_⟩
      simp only [nmC, upd, ↓reduceIte, Nat.reduceEqDiff, reduceCtorEq, hun, m3, m2, m1, m0, ren_cond, okB_cond, lren_cond, lokB_cond, map_cond, all_cond, Bool.cond_self, cond_true, cond_false, List.map_append, List.all_append, List.map_cons, List.map_nil, Bool.and_true, List.nil_append, List.cons_append, simprocAttr]
      refine VO.slString (e := 5) [c] rfl rfl rfl rfl (by rw [hP]; kernel_rfl) (by rw [hP]; kernel_rfl) (by rw [hP]; kernel_rfl) ?_
      simp only [GA, ↓GB, GX, simprocAttr, hnt, hT, hc, hk, hd16]
      refine Imp.le [0, 1] ?_
      refine LeR.of ?_ ?_ ?_ ?_ ?_ ?_ ?_ <;> first | (rw [hbl]; decide) | decide | (simp only [hc, hd16, hk, sufL, GA, ↓GB, GX, simprocAttr, GDs, ren_cond, okB_cond, lren_cond, lokB_cond, map_cond, all_cond, Bool.cond_self, cond_true, cond_false, List.map_append, List.all_append, List.map_cons, List.map_nil, Bool.and_true]; done)
    · have n9 : M 9 = false := dNot hd rfl (Array.mem_of_getElem? (i := 0) rfl) rfl hd.un
      have n10 : M 10 = false := dNot hd rfl (Array.mem_of_getElem? (i := 0) rfl) rfl n9
      have hun := hd.un
      refine ⟨_, rfl, rfl, ?_⟩
      simp only [nmC, upd, ↓reduceIte, Nat.reduceEqDiff, reduceCtorEq, hun, n9, n10, ren_cond, okB_cond, lren_cond, lokB_cond, map_cond, all_cond, Bool.cond_self, cond_true, cond_false, List.map_append, List.all_append, List.map_cons, List.map_nil, Bool.and_true, List.nil_append, List.cons_append, simprocAttr]
      refine vcOp_sound ?_
      simp only [GA, ↓GB, GX, simprocAttr, hnt, hT, hc, hk, hd16]
      repeat' (refine and_mk ?_ ?_; (focus first | decide | omega | rfl | assumption))
      all_goals (refine Imp.le [0, 2] ?_; (refine LeR.of ?_ ?_ ?_ ?_ ?_ ?_ ?_ <;> first | (rw [hbl]; decide) | decide | (simp only [hc, hd16, hk, sufL, GA, ↓GB, GX, simprocAttr, GDs, ren_cond, okB_cond, lren_cond, lokB_cond, map_cond, all_cond, Bool.cond_self, cond_true, cond_false, List.map_append, List.all_append, List.map_cons, List.map_nil, Bool.and_true]; done)))
    · have n7 : M 7 = false := dNot hd rfl (Array.mem_of_getElem? (i := 0) rfl) rfl hd.un
      have n8 : M 8 = false := dNot hd rfl (Array.mem_of_getElem? (i := 0) rfl) rfl n7
      have n9 : M 9 = false := dNot hd rfl (Array.mem_of_getElem? (i := 1) rfl) rfl n8
      have n10 : M 10 = false := dNot hd rfl (Array.mem_of_getElem? (i := 0) rfl) rfl n9
      have hun := hd.un
      refine ⟨_, rfl, rfl, ?_⟩
      simp only [nmC, upd, ↓reduceIte, Nat.reduceEqDiff, reduceCtorEq, hun, n7, n8, n9, n10, ren_cond, okB_cond, lren_cond, lokB_cond, map_cond, all_cond, Bool.cond_self, cond_true, cond_false, List.map_append, List.all_append, List.map_cons, List.map_nil, Bool.and_true, List.nil_append, List.cons_append, simprocAttr]
      refine vcOp_sound ?_
      simp only [GA, ↓GB, GX, simprocAttr, hnt, hT, hc, hk, hd16]
      repeat' (refine and_mk ?_ ?_; (focus first | decide | omega | rfl | assumption))
      all_goals (refine Imp.le [0, 1] ?_; (refine LeR.of ?_ ?_ ?_ ?_ ?_ ?_ ?_ <;> first | (rw [hbl]; decide) | decide | (simp only [hc, hd16, hk, sufL, GA, ↓GB, GX, simprocAttr, GDs, ren_cond, okB_cond, lren_cond, lokB_cond, map_cond, all_cond, Bool.cond_self, cond_true, cond_false, List.map_append, List.all_append, List.map_cons, List.map_nil, Bool.and_true]; done)))
    · have m6 : M 6 = true := hd.dep _ rfl _ (Array.mem_of_getElem? (i := 0) rfl) rfl
      have n8 : M 8 = false := dNot hd rfl (Array.mem_of_getElem? (i := 0) rfl) rfl hd.un
      have n9 : M 9 = false := dNot hd rfl (Array.mem_of_getElem? (i := 1) rfl) rfl n8
      have n10 : M 10 = false := dNot hd rfl (Array.mem_of_getElem? (i := 0) rfl) rfl n9
      have hun := hd.un
      refine ⟨_, rfl, rfl, ?_⟩
      simp only [nmC, upd, ↓reduceIte, Nat.reduceEqDiff, reduceCtorEq, hun, m6, n8, n9, n10, ren_cond, okB_cond, lren_cond, lokB_cond, map_cond, all_cond, Bool.cond_self, cond_true, cond_false, List.map_append, List.all_append, List.map_cons, List.map_nil, Bool.and_true, List.nil_append, List.cons_append, simprocAttr]
      refine vcOp_sound ?_
      simp only [GA, ↓GB, GX, simprocAttr, hnt, hT, hc, hk, hd16]
      repeat' (refine and_mk ?_ ?_; (focus first | decide | omega | rfl | assumption))
      all_goals (refine Imp.le [0, 1] ?_; (refine LeR.of ?_ ?_ ?_ ?_ ?_ ?_ ?_ <;> first | (rw [hbl]; decide) | decide | (simp only [hc, hd16, hk, sufL, GA, ↓GB, GX, simprocAttr, GDs, ren_cond, okB_cond, lren_cond, lokB_cond, map_cond, all_cond, Bool.cond_self, cond_true, cond_false, List.map_append, List.all_append, List.map_cons, List.map_nil, Bool.and_true]; done)))
    · have m7 : M 7 = true := hd.dep _ rfl _ (Array.mem_of_getElem? (i := 0) rfl) rfl
      have m6 : M 6 = true := hd.cl 7 _ rfl m7 _ (Array.mem_of_getElem? (i := 0) rfl) rfl
      have n9 : M 9 = false := dNot hd rfl (Array.mem_of_getElem? (i := 1) rfl) rfl hd.un
      have n10 : M 10 = false := dNot hd rfl (Array.mem_of_getElem? (i := 0) rfl) rfl n9
      have hun := hd.un
      refine ⟨_, rfl, rfl, ?_⟩
      simp only [nmC, upd, ↓reduceIte, Nat.reduceEqDiff, reduceCtorEq, hun, m7, m6, n9, n10, ren_cond, okB_cond, lren_cond, lokB_cond, map_cond, all_cond, Bool.cond_self, cond_true, cond_false, List.map_append, List.all_append, List.map_cons, List.map_nil, Bool.and_true, List.nil_append, List.cons_append, simprocAttr]
      refine vcOp_sound ?_
      simp only [GA, ↓GB, GX, simprocAttr, hnt, hT, hc, hk, hd16]
      repeat' (refine and_mk ?_ ?_; (focus first | decide | omega | rfl | assumption))
      all_goals (refine Imp.le [0, 1] ?_; (refine LeR.of ?_ ?_ ?_ ?_ ?_ ?_ ?_ <;> first | (rw [hbl]; decide) | decide | (simp only [hc, hd16, hk, sufL, GA, ↓GB, GX, simprocAttr, GDs, ren_cond, okB_cond, lren_cond, lokB_cond, map_cond, all_cond, Bool.cond_self, cond_true, cond_false, List.map_append, List.all_append, List.map_cons, List.map_nil, Bool.and_true]; done)))
    · have m5 : M 5 = true := hd.dep _ rfl _ (Array.mem_of_getElem? (i := 0) rfl) rfl
      have m8 : M 8 = true := hd.dep _ rfl _ (Array.mem_of_getElem? (i := 1) rfl) rfl
      have m7 : M 7 = true := hd.cl 8 _ rfl m8 _ (Array.mem_of_getElem? (i := 0) rfl) rfl
      have m6 : M 6 = true := hd.cl 7 _ rfl m7 _ (Array.mem_of_getElem? (i := 0) rfl) rfl
      have n10 : M 10 = false := dNot hd rfl (Array.mem_of_getElem? (i := 0) rfl) rfl hd.un
      have hun := hd.un
      refine ⟨_, rfl, rfl, ?_⟩
      simp only [nmC, upd, ↓reduceIte, Nat.reduceEqDiff, reduceCtorEq, hun, m5, m8, m7, m6, n10, ren_cond, okB_cond, lren_cond, lokB_cond, map_cond, all_cond, Bool.cond_self, cond_true, cond_false, List.map_append, List.all_append, List.map_cons, List.map_nil, Bool.and_true, List.nil_append, List.cons_append, simprocAttr]
      refine vcOp_sound ?_
      simp only [GA, ↓GB, GX, simprocAttr, hnt, hT, hc, hk, hd16]
      repeat' (refine and_mk ?_ ?_; (focus first | decide | omega | rfl | assumption))
      all_goals (refine Imp.le [0, 1] ?_; (refine LeR.of ?_ ?_ ?_ ?_ ?_ ?_ ?_ <;> first | (rw [hbl]; decide) | decide | (simp only [hc, hd16, hk, sufL, GA, ↓GB, GX, simprocAttr, GDs, ren_cond, okB_cond, lren_cond, lokB_cond, map_cond, all_cond, Bool.cond_self, cond_true, cond_false, List.map_append, List.all_append, List.map_cons, List.map_nil, Bool.and_true]; done)))
    · have m9 : M 9 = true := hd.dep _ rfl _ (Array.mem_of_getElem? (i := 0) rfl) rfl
      have m5 : M 5 = true := hd.cl 9 _ rfl m9 _ (Array.mem_of_getElem? (i := 0) rfl) rfl
      have m8 : M 8 = true := hd.cl 9 _ rfl m9 _ (Array.mem_of_getElem? (i := 1) rfl) rfl
      have m7 : M 7 = true := hd.cl 8 _ rfl m8 _ (Array.mem_of_getElem? (i := 0) rfl) rfl
      have m6 : M 6 = true := hd.cl 7 _ rfl m7 _ (Array.mem_of_getElem? (i := 0) rfl) rfl
      have hun := hd.un
      refine ⟨_, rfl, rfl, ?_⟩
      simp only [nmC, upd, ↓reduceIte, Nat.reduceEqDiff, reduceCtorEq, hun, m9, m5, m8, m7, m6, ren_cond, okB_cond, lren_cond, lokB_cond, map_cond, all_cond, Bool.cond_self, cond_true, cond_false, List.map_append, List.all_append, List.map_cons, List.map_nil, Bool.and_true, List.nil_append, List.cons_append, simprocAttr]
      refine vcOp_sound ?_
      simp only [GA, ↓GB, GX, simprocAttr, hnt, hT, hc, hk, hd16]
      repeat' (refine and_mk ?_ ?_; (focus first | decide | omega | rfl | assumption))
      all_goals (refine Imp.le [0, 1] ?_; (refine LeR.of ?_ ?_ ?_ ?_ ?_ ?_ ?_ <;> first | (rw [hbl]; decide) | decide | (simp only [hc, hd16, hk, sufL, GA, ↓GB, GX, simprocAttr, GDs, ren_cond, okB_cond, lren_cond, lokB_cond, map_cond, all_cond, Bool.cond_self, cond_true, cond_false, List.map_append, List.all_append, List.map_cons, List.map_nil, Bool.and_true]; done)))
  simp only [nmC, cond_true, GA, ↓GB, GX, simprocAttr, hnt, hT]
  repeat' (first
    | (refine SX.seqK ?_; intro N hN)
    | ((first | (refine SX.ops ?_)); simp only [GA, ↓GB, GX, simprocAttr, hnt, hT, hc, hk, hd16])
    | ((first | refine SX.skip ?_ | refine SX.exit ?_ | refine SX.label ?_); try simp only [GA, ↓GB, GX, simprocAttr])
    | (refine SX.cond rfl (fun hb => ?_) (fun hb => ?_) <;> ((first | cases hb | (simp only [HBs] at hb) | skip) <;> (first | (exfalso; omega) | skip)))
    | (refine SX.ret ?_; try simp only [GA, ↓GB, GX, simprocAttr])
    | (refine hN _ ?_; clear hN N)
    | ((first | refine hK _ _ (FinI.ret3 ?_) | refine hK _ _ (FinI.nrm3 ?_)); simp only [GA, ↓GB, GX, simprocAttr, finP_s, hnt, hT, hc, hk, hd16]; refine Done.out ?_)
    | (clear hN N; first | (refine hN _ ?_; clear hN N) | (clear hN N; first | (refine hN _ ?_; clear hN N) | (clear hN N; first | (refine hN _ ?_; clear hN N) | (clear hN N; first | (refine hN _ ?_; clear hN N) | (clear hN N; first | (refine hN _ ?_; clear hN N) | (refine hN _ ?_; clear hN N))))))
    | (refine bif2.mk (fun hb => ?_) (fun hb => ?_) <;> (try simp only [hb, GA, ↓GB, GX, simprocAttr, hnt, hT, hc, hk, hd16]) <;> ((first | cases hb | (simp only [HBs] at hb) | skip) <;> (first | (exfalso; omega) | skip)))
    | (refine SX.block ?_)
    | (refine and_mk ?_ ?_; (focus first | decide | omega | rfl | assumption | (simp only [List.length_append, List.length_cons, List.length_nil, B_size]; omega) | (simp; done)))
    | (refine And.intro ?_ ?_))
  all_goals (try refine Done.mk ?_)
  all_goals ((refine hN0 _ _ ⟨[], _, _, ?_, ?_, ?_, ⟨rfl, rfl⟩⟩; (focus exact LeR.of rfl trivial (by simp only [GA, ↓GB, GX, simprocAttr, GDs]) (by decide) rfl rfl rfl); rotate_left; (focus rfl)); rfl)
theorem name_2 (n : Nat) (hn : n < 256) (h : ¬ n % 16 = 15) (h3 : n / 16 % 3 = 2) : Ctr Tryd.prog [] 18 [] [vv (.int .u8 n)] (fun os v => os = [] ∧ v = vv (.string (B (UInt8.ofNat (97 + n % 12) :: sufL 2)))) := by
  have h16 : ((n : Int).tmod 16 == 15) = false := by rw [Int.tmod_eq_emod_of_nonneg (by omega)]; simp; omega
  obtain ⟨c, hcc⟩ : ∃ c, UInt8.ofNat (97 + n % 12) = c := ⟨_, rfl⟩
  have hc : IntKind.u8.wrap (97 + (n : Int).tmod 12) = (c.toNat : Int) := by
    rw [← hcc, Int.tmod_eq_emod_of_nonneg (by omega), UInt8.toNat_ofNat', wB8 (by omega) (by omega)]
    omega
  have hd16 : IntKind.u8.wrap ((n : Int).tdiv 16) = (n : Int).tdiv 16 := by
    exact wB8 (by rw [Int.tdiv_eq_ediv_of_nonneg (by omega)]; omega) (by rw [Int.tdiv_eq_ediv_of_nonneg (by omega)]; omega)
  have hk : ((n : Int).tdiv 16).tmod 3 = 2 := by
    rw [Int.tdiv_eq_ediv_of_nonneg (by omega), Int.tmod_eq_emod_of_nonneg (by omega)]
    omega
  rw [hcc]
  refine Ctr.less ?_
  intro X0 hP0 hG0 N0 hN0
  refine CallVC.inline (f := 18) (by rw [hP0]; exact Tryd.func18) rfl Tryd.ntmps18 rfl (by simp) ?_
  intro X K hU hnt hbl hK
  have hP : X.P = Tryd.prog := by rw [hU.P, hP0]
  have hG := hG0.under hU
  have hT : elemSz X.P 58 = some (5, 1) ∧ zeroCells X.P 5 = some [(Value.int IntKind.u8 0)] ∧ X.P.underlying 58 = some (TypeDesc.slice 5) ∧ X.P.underlying 9 = some TypeDesc.string ∧ isBytesT X.P 58 = true ∧ isStrT X.P 9 = true ∧ elemSz X.P 38 = some (9, 1) ∧ zeroCells X.P 9 = some [(Value.string { data := #[] })] ∧ aggOf X.P 9 = some false ∧ szOf X.P 9 = some 1 := by rw [hP]; exact ⟨Ty.el58, Ty.ze5, Tryd.underlying58, Tryd.underlying9, Ty.ib58, Ty.is9, Ty.el38, Ty.ze9, Ty.ag9, Ty.sz9⟩
  simp only [GA, ↓GB, GX, simprocAttr] at hbl ⊢
  repeat' (first
    | (refine SX.seqK ?_; intro N hN)
    | ((first | (refine SX.ops ?_)); simp only [GA, ↓GB, GX, simprocAttr, hnt, hT, h16, hc, hk, hd16])
    | ((first | refine SX.skip ?_ | refine SX.exit ?_ | refine SX.label ?_); try simp only [GA, ↓GB, GX, simprocAttr])
    | (refine SX.cond rfl (fun hb => ?_) (fun hb => ?_) <;> ((first | cases hb | (simp only [HBs] at hb) | skip) <;> (first | (exfalso; omega) | skip)))
    | (refine SX.ret ?_; try simp only [GA, ↓GB, GX, simprocAttr])
    | (refine hN _ ?_; clear hN N)
    | ((first | refine hK _ _ (FinI.ret3 ?_) | refine hK _ _ (FinI.nrm3 ?_)); simp only [GA, ↓GB, GX, simprocAttr, finP_s, hnt, hT, h16, hc, hk, hd16]; refine Done.out ?_)
    | (clear hN N; first | (refine hN _ ?_; clear hN N) | (clear hN N; first | (refine hN _ ?_; clear hN N) | (clear hN N; first | (refine hN _ ?_; clear hN N) | (clear hN N; first | (refine hN _ ?_; clear hN N) | (clear hN N; first | (refine hN _ ?_; clear hN N) | (refine hN _ ?_; clear hN N))))))
    | (refine bif2.mk (fun hb => ?_) (fun hb => ?_) <;> (try simp only [hb, GA, ↓GB, GX, simprocAttr, hnt, hT, h16, hc, hk, hd16]) <;> ((first | cases hb | (simp only [HBs] at hb) | skip) <;> (first | (exfalso; omega) | skip)))
    | (refine SX.block ?_)
    | (refine and_mk ?_ ?_; (focus first | decide | omega | rfl | assumption | (simp only [List.length_append, List.length_cons, List.length_nil, B_size]; omega) | (simp; done)))
    | (refine And.intro ?_ ?_))
  all_goals (try refine Done.mk ?_)
  refine SX.dia (id := 3) [0, 1, 2, 3, 4, 5, 6, 7, 8, 9, 10] (nmC n c 2) [.s 11, .s 12] (nmC n c 2 (fun _ => true)) ?_ ?_ ?_ ?_ rfl ?_
  · rw [hP]; kernel_rfl
  · kernel_rfl
  · refine Imp.trans (Imp.le [] (d := ⟨[(5, vv (.bool false)), (4, vv (.int .u8 ((n : Int).tmod 16))), (3, vv (.int .u8 n)), (2, vv (.string (B []))), (0, vv (.int .u8 n))], []⟩) (by (refine LeR.of ?_ ?_ ?_ ?_ ?_ ?_ ?_ <;> first | (rw [hbl]; decide) | decide | (simp only [GA, ↓GB, GX, simprocAttr, GDs]; done) | (simp only [GA, ↓GB, GX, simprocAttr, GDs]; rfl; done)))) ?_
    refine Imp.trans (Imp.dead (t := 6) (by rw [hnt]; decide)) ?_
    refine Imp.trans (Imp.dead (t := 7) (by rw [hnt]; decide)) ?_
    refine Imp.trans (Imp.dead (t := 8) (by rw [hnt]; decide)) ?_
    refine Imp.trans (Imp.dead (t := 9) (by rw [hnt]; decide)) ?_
    refine Imp.trans (Imp.dead (t := 10) (by rw [hnt]; decide)) ?_
    refine Imp.trans (Imp.dead (t := 11) (by rw [hnt]; decide)) ?_
    refine Imp.trans (Imp.dead (t := 12) (by rw [hnt]; decide)) ?_
    refine Imp.trans (Imp.dead (t := 13) (by rw [hnt]; decide)) ?_
    refine Imp.trans (Imp.dead (t := 14) (by rw [hnt]; decide)) ?_
    refine Imp.trans (Imp.dead (t := 15) (by rw [hnt]; decide)) ?_
    refine Imp.trans (Imp.dead (t := 16) (by rw [hnt]; decide)) ?_
    refine Imp.trans Imp.gone ?_
    refine Imp.trans Imp.gone ?_
    exact Imp.refl
  · rintro M i hi hd
    simp only [List.mem_cons, List.not_mem_nil, or_false] at hi
    rcases hi with rfl | rfl | rfl | rfl | rfl | rfl | rfl | rfl | rfl | rfl | rfl
    · have n1 : M 1 = false := dNot hd rfl (Array.mem_of_getElem? (i := 0) rfl) rfl hd.un
      have n2 : M 2 = false := dNot hd rfl (Array.mem_of_getElem? (i := 0) rfl) rfl n1
      have n3 : M 3 = false := dNot hd rfl (Array.mem_of_getElem? (i := 0) rfl) rfl n2
      have n4 : M 4 = false := dNot hd rfl (Array.mem_of_getElem? (i := 0) rfl) rfl n3
      have hun := hd.un
      refine ⟨_, rfl, rfl, ?_⟩
      simp only [nmC, upd, ↓reduceIte, Nat.reduceEqDiff, reduceCtorEq, hun, n1, n2, n3, n4, ren_cond, okB_cond, lren_cond, lokB_cond, map_cond, all_cond, Bool.cond_self, cond_true, cond_false, List.map_append, List.all_append, List.map_cons, List.map_nil, Bool.and_true, List.nil_append, List.cons_append, simprocAttr]
      refine vcOp_sound ?_
      simp only [GA, ↓GB, GX, simprocAttr, hnt, hT, hc, hk, hd16]
      repeat' (refine and_mk ?_ ?_; (focus first | decide | omega | rfl | assumption))
      all_goals (refine Imp.le [0, 1] ?_; (refine LeR.of ?_ ?_ ?_ ?_ ?_ ?_ ?_ <;> first | (rw [hbl]; decide) | decide | (simp only [hc, hd16, hk, sufL, GA, ↓GB, GX, simprocAttr, GDs, ren_cond, okB_cond, lren_cond, lokB_cond, map_cond, all_cond, Bool.cond_self, cond_true, cond_false, List.map_append, List.all_append, List.map_cons, List.map_nil, Bool.and_true]; done)))
    · have m0 : M 0 = true := hd.dep _ rfl _ (Array.mem_of_getElem? (i := 0) rfl) rfl
      have n2 : M 2 = false := dNot hd rfl (Array.mem_of_getElem? (i := 0) rfl) rfl hd.un
      have n3 : M 3 = false := dNot hd rfl (Array.mem_of_getElem? (i := 0) rfl) rfl n2
      have n4 : M 4 = false := dNot hd rfl (Array.mem_of_getElem? (i := 0) rfl) rfl n3
      have hun := hd.un
      refine ⟨_, rfl, rfl, ?_⟩
      simp only [nmC, upd, ↓reduceIte, Nat.reduceEqDiff, reduceCtorEq, hun, m0, n2, n3, n4, ren_cond, okB_cond, lren_cond, lokB_cond, map_cond, all_cond, Bool.cond_self, cond_true, cond_false, List.map_append, List.all_append, List.map_cons, List.map_nil, Bool.and_true, List.nil_append, List.cons_append, simprocAttr]
      refine vcOp_sound ?_
      simp only [GA, ↓GB, GX, simprocAttr, hnt, hT, hc, hk, hd16]
      repeat' (refine and_mk ?_ ?_; (focus first | decide | omega | rfl | assumption))
      all_goals (refine Imp.le [0, 1] ?_; (refine LeR.of ?_ ?_ ?_ ?_ ?_ ?_ ?_ <;> first | (rw [hbl]; decide) | decide | (simp only [hc, hd16, hk, sufL, GA, ↓GB, GX, simprocAttr, GDs, ren_cond, okB_cond, lren_cond, lokB_cond, map_cond, all_cond, Bool.cond_self, cond_true, cond_false, List.map_append, List.all_append, List.map_cons, List.map_nil, Bool.and_true]; done)))
    · have m1 : M 1 = true := hd.dep _ rfl _ (Array.mem_of_getElem? (i := 0) rfl) rfl
      have m0 : M 0 = true := hd.cl 1 _ rfl m1 _ (Array.mem_of_getElem? (i := 0) rfl) rfl
      have n3 : M 3 = false := dNot hd rfl (Array.mem_of_getElem? (i := 0) rfl) rfl hd.un
      have n4 : M 4 = false := dNot hd rfl (Array.mem_of_getElem? (i := 0) rfl) rfl n3
      have hun := hd.un
      refine ⟨_, rfl, rfl, ?_⟩
      simp only [nmC, upd, ↓reduceIte, Nat.reduceEqDiff, reduceCtorEq, hun, m1, m0, n3, n4, ren_cond, okB_cond, lren_cond, lokB_cond, map_cond, all_cond, Bool.cond_self, cond_true, cond_false, List.map_append, List.all_append, List.map_cons, List.map_nil, Bool.and_true, List.nil_append, List.cons_append, simprocAttr]
      refine vcOp_sound ?_
      simp only [GA, ↓GB, GX, simprocAttr, hnt, hT, hc, hk, hd16]
      repeat' (refine and_mk ?_ ?_; (focus first | decide | omega | rfl | assumption))
      all_goals (refine Imp.le [0, 1] ?_; (refine LeR.of ?_ ?_ ?_ ?_ ?_ ?_ ?_ <;> first | (rw [hbl]; decide) | decide | (simp only [hc, hd16, hk, sufL, GA, ↓GB, GX, simprocAttr, GDs, ren_cond, okB_cond, lren_cond, lokB_cond, map_cond, all_cond, Bool.cond_self, cond_true, cond_false, List.map_append, List.all_append, List.map_cons, List.map_nil, Bool.and_true]; done)))
    · have m2 : M 2 = true := hd.dep _ rfl _ (Array.mem_of_getElem? (i := 0) rfl) rfl
      have m1 : M 1 = true := hd.cl 2 _ rfl m2 _ (Array.mem_of_getElem? (i := 0) rfl) rfl
      have m0 : M 0 = true := hd.cl 1 _ rfl m1 _ (Array.mem_of_getElem? (i := 0) rfl) rfl
      have n4 : M 4 = false := dNot hd rfl (Array.mem_of_getElem? (i := 0) rfl) rfl hd.un
      have hun := hd.un
      refine ⟨_, rfl, rfl, ?_⟩
      simp only [nmC, upd, ↓reduceIte, Nat.reduceEqDiff, reduceCtorEq, hun, m2, m1, m0, n4, ren_cond, okB_cond, lren_cond, lokB_cond, map_cond, all_cond, Bool.cond_self, cond_true, cond_false, List.map_append, List.all_append, List.map_cons, List.map_nil, Bool.and_true, List.nil_append, List.cons_append, simprocAttr]
      refine vcOp_sound ?_
      simp only [GA, ↓GB, GX, simprocAttr, hnt, hT, hc, hk, hd16]
      repeat' (refine and_mk ?_ ?_; (focus first | decide | omega | rfl | assumption))
      all_goals (refine Imp.le [2, 1] ?_; (refine LeR.of ?_ ?_ ?_ ?_ ?_ ?_ ?_ <;> first | (rw [hbl]; decide) | decide | (simp only [hc, hd16, hk, sufL, GA, ↓GB, GX, simprocAttr, GDs, ren_cond, okB_cond, lren_cond, lokB_cond, map_cond, all_cond, Bool.cond_self, cond_true, cond_false, List.map_append, List.all_append, List.map_cons, List.map_nil, Bool.and_true]; done)))
    · have m3 : M 3 = true := hd.dep _ rfl _ (Array.mem_of_getElem? (i := 0) rfl) rfl
      have m2 : M 2 = true := hd.cl 3 _ rfl m3 _ (Array.mem_of_getElem? (i := 0) rfl) rfl
      have m1 : M 1 = true := hd.cl 2 _ rfl m2 _ (Array.mem_of_getElem? (i := 0) rfl) rfl
      have m0 : M 0 = true := hd.cl 1 _ rfl m1 _ (Array.mem_of_getElem? (i := 0) rfl) rfl
      have hun := hd.un
      refine ⟨_, rfl, rfl, ?_⟩
      simp only [nmC, upd, ↓reduceIte, Nat.reduceEqDiff, reduceCtorEq, hun, m3, m2, m1, m0, ren_cond, okB_cond, lren_cond, lokB_cond, map_cond, all_cond, Bool.cond_self, cond_true, cond_false, List.map_append, List.all_append, List.map_cons, List.map_nil, Bool.and_true, List.nil_append, List.cons_append, simprocAttr]
      refine VO.slString (e := 5) [c] rfl rfl rfl rfl (by rw [hP]; kernel_rfl) (by rw [hP]; kernel_rfl) (by rw [hP]; kernel_rfl) ?_
      simp only [GA, ↓GB, GX, simprocAttr, hnt, hT, hc, hk, hd16]
      refine Imp.le [0, 1] ?_
      refine LeR.of ?_ ?_ ?_ ?_ ?_ ?_ ?_ <;> first | (rw [hbl]; decide) | decide | (simp only [hc, hd16, hk, sufL, GA, ↓GB, GX, simprocAttr, GDs, ren_cond, okB_cond, lren_cond, lokB_cond, map_cond, all_cond, Bool.cond_self, cond_true, cond_false, List.map_append, List.all_append, List.map_cons, List.map_nil, Bool.and_true]; done)
    · have n9 : M 9 = false := dNot hd rfl (Array.mem_of_getElem? (i := 0) rfl) rfl hd.un
      have n10 : M 10 = false := dNot hd rfl (Array.mem_of_getElem? (i := 0) rfl) rfl n9
      have hun := hd.un
      refine ⟨_, rfl, rfl, ?_⟩
      simp only [nmC, upd, ↓reduceIte, Nat.reduceEqDiff, reduceCtorEq, hun, n9, n10, ren_cond, okB_cond, lren_cond, lokB_cond, map_cond, all_cond, Bool.cond_self, cond_true, cond_false, List.map_append, List.all_append, List.map_cons, List.map_nil, Bool.and_true, List.nil_append, List.cons_append, simprocAttr]
      refine vcOp_sound ?_
      simp only [GA, ↓GB, GX, simprocAttr, hnt, hT, hc, hk, hd16]
      repeat' (refine and_mk ?_ ?_; (focus first | decide | omega | rfl | assumption))
      all_goals (refine Imp.le [0, 2] ?_; (refine LeR.of ?_ ?_ ?_ ?_ ?_ ?_ ?_ <;> first | (rw [hbl]; decide) | decide | (simp only [hc, hd16, hk, sufL, GA, ↓GB, GX, simprocAttr, GDs, ren_cond, okB_cond, lren_cond, lokB_cond, map_cond, all_cond, Bool.cond_self, cond_true, cond_false, List.map_append, List.all_append, List.map_cons, List.map_nil, Bool.and_true]; done)))
    · have n7 : M 7 = false := dNot hd rfl (Array.mem_of_getElem? (i := 0) rfl) rfl hd.un
      have n8 : M 8 = false := dNot hd rfl (Array.mem_of_getElem? (i := 0) rfl) rfl n7
      have n9 : M 9 = false := dNot hd rfl (Array.mem_of_getElem? (i := 1) rfl) rfl n8
      have n10 : M 10 = false := dNot hd rfl (Array.mem_of_getElem? (i := 0) rfl) rfl n9
      have hun := hd.un
      refine ⟨_, rfl, rfl, ?_⟩
      simp only [nmC, upd, ↓reduceIte, Nat.reduceEqDiff, reduceCtorEq, hun, n7, n8, n9, n10, ren_cond, okB_cond, lren_cond, lokB_cond, map_cond, all_cond, Bool.cond_self, cond_true, cond_false, List.map_append, List.all_append, List.map_cons, List.map_nil, Bool.and_true, List.nil_append, List.cons_append, simprocAttr]
      refine vcOp_sound ?_
      simp only [GA, ↓GB, GX, simprocAttr, hnt, hT, hc, hk, hd16]
      repeat' (refine and_mk ?_ ?_; (focus first | decide | omega | rfl | assumption))
      all_goals (refine Imp.le [0, 1] ?_; (refine LeR.of ?_ ?_ ?_ ?_ ?_ ?_ ?_ <;> first | (rw [hbl]; decide) | decide | (simp only [hc, hd16, hk, sufL, GA, ↓GB, GX, simprocAttr, GDs, ren_cond, okB_cond, lren_cond, lokB_cond, map_cond, all_cond, Bool.cond_self, cond_true, cond_false, List.map_append, List.all_append, List.map_cons, List.map_nil, Bool.and_true]; done)))
    · have m6 : M 6 = true := hd.dep _ rfl _ (Array.mem_of_getElem? (i := 0) rfl) rfl
      have n8 : M 8 = false := dNot hd rfl (Array.mem_of_getElem? (i := 0) rfl) rfl hd.un
      have n9 : M 9 = false := dNot hd rfl (Array.mem_of_getElem? (i := 1) rfl) rfl n8
      have n10 : M 10 = false := dNot hd rfl (Array.mem_of_getElem? (i := 0) rfl) rfl n9
      have hun := hd.un
      refine ⟨_, rfl, rfl, ?_⟩
      simp only [nmC, upd, ↓reduceIte, Nat.reduceEqDiff, reduceCtorEq, hun, m6, n8, n9, n10, ren_cond, okB_cond, lren_cond, lokB_cond, map_cond, all_cond, Bool.cond_self, cond_true, cond_false, List.map_append, List.all_append, List.map_cons, List.map_nil, Bool.and_true, List.nil_append, List.cons_append, simprocAttr]
      refine vcOp_sound ?_
      simp only [GA, ↓GB, GX, simprocAttr, hnt, hT, hc, hk, hd16]
      repeat' (refine and_mk ?_ ?_; (focus first | decide | omega | rfl | assumption))
      all_goals (refine Imp.le [0, 1] ?_; (refine LeR.of ?_ ?_ ?_ ?_ ?_ ?_ ?_ <;> first | (rw [hbl]; decide) | decide | (simp only [hc, hd16, hk, sufL, GA, ↓GB, GX, simprocAttr, GDs, ren_cond, okB_cond, lren_cond, lokB_cond, map_cond, all_cond, Bool.cond_self, cond_true, cond_false, List.map_append, List.all_append, List.map_cons, List.map_nil, Bool.and_true]; done)))
    · have m7 : M 7 = true := hd.dep _ rfl _ (Array.mem_of_getElem? (i := 0) rfl) rfl
      have m6 : M 6 = true := hd.cl 7 _ rfl m7 _ (Array.mem_of_getElem? (i := 0) rfl) rfl
      have n9 : M 9 = false := dNot hd rfl (Array.mem_of_getElem? (i := 1) rfl) rfl hd.un
      have n10 : M 10 = false := dNot hd rfl (Array.mem_of_getElem? (i := 0) rfl) rfl n9
      have hun := hd.un
      refine ⟨_, rfl, rfl, ?_⟩
      simp only [nmC, upd, ↓reduceIte, Nat.reduceEqDiff, reduceCtorEq, hun, m7, m6, n9, n10, ren_cond, okB_cond, lren_cond, lokB_cond, map_cond, all_cond, Bool.cond_self, cond_true, cond_false, List.map_append, List.all_append, List.map_cons, List.map_nil, Bool.and_true, List.nil_append, List.cons_append, simprocAttr]
      refine vcOp_sound ?_
      simp only [GA, ↓GB, GX, simprocAttr, hnt, hT, hc, hk, hd16]
      repeat' (refine and_mk ?_ ?_; (focus first | decide | omega | rfl | assumption))
      all_goals (refine Imp.le [0, 1] ?_; (refine LeR.of ?_ ?_ ?_ ?_ ?_ ?_ ?_ <;> first | (rw [hbl]; decide) | decide | (simp only [hc, hd16, hk, sufL, GA, ↓GB, GX, simprocAttr, GDs, ren_cond, okB_cond, lren_cond, lokB_cond, map_cond, all_cond, Bool.cond_self, cond_true, cond_false, List.map_append, List.all_append, List.map_cons, List.map_nil, Bool.and_true]; done)))
    · have m5 : M 5 = true := hd.dep _ rfl _ (Array.mem_of_getElem? (i := 0) rfl) rfl
      have m8 : M 8 = true := hd.dep _ rfl _ (Array.mem_of_getElem? (i := 1) rfl) rfl
      have m7 : M 7 = true := hd.cl 8 _ rfl m8 _ (Array.mem_of_getElem? (i := 0) rfl) rfl
      have m6 : M 6 = true := hd.cl 7 _ rfl m7 _ (Array.mem_of_getElem? (i := 0) rfl) rfl
      have n10 : M 10 = false := dNot hd rfl (Array.mem_of_getElem? (i := 0) rfl) rfl hd.un
      have hun := hd.un
      refine ⟨_, rfl, rfl, ?_⟩
      simp only [nmC, upd, ↓reduceIte, Nat.reduceEqDiff, reduceCtorEq, hun, m5, m8, m7, m6, n10, ren_cond, okB_cond, lren_cond, lokB_cond, map_cond, all_cond, Bool.cond_self, cond_true, cond_false, List.map_append, List.all_append, List.map_cons, List.map_nil, Bool.and_true, List.nil_append, List.cons_append, simprocAttr]
      refine vcOp_sound ?_
      simp only [GA, ↓GB, GX, simprocAttr, hnt, hT, hc, hk, hd16]
      repeat' (refine and_mk ?_ ?_; (focus first | decide | omega | rfl | assumption))
      all_goals (refine Imp.le [0, 1] ?_; (refine LeR.of ?_ ?_ ?_ ?_ ?_ ?_ ?_ <;> first | (rw [hbl]; decide) | decide | (simp only [hc, hd16, hk, sufL, GA, ↓GB, GX, simprocAttr, GDs, ren_cond, okB_cond, lren_cond, lokB_cond, map_cond, all_cond, Bool.cond_self, cond_true, cond_false, List.map_append, List.all_append, List.map_cons, List.map_nil, Bool.and_true]; done)))
    · have m9 : M 9 = true := hd.dep _ rfl _ (Array.mem_of_getElem? (i := 0) rfl) rfl
      have m5 : M 5 = true := hd.cl 9 _ rfl m9 _ (Array.mem_of_getElem? (i := 0) rfl) rfl
      have m8 : M 8 = true := hd.cl 9 _ rfl m9 _ (Array.mem_of_getElem? (i := 1) rfl) rfl
      have m7 : M 7 = true := hd.cl 8 _ rfl m8 _ (Array.mem_of_getElem? (i := 0) rfl) rfl
      have m6 : M 6 = true := hd.cl 7 _ rfl m7 _ (Array.mem_of_getElem? (i := 0) rfl) rfl
      have hun := hd.un
      refine ⟨_, rfl, rfl, ?_⟩
      simp only [nmC, upd, ↓reduceIte, Nat.reduceEqDiff, reduceCtorEq, hun, m9, m5, m8, m7, m6, ren_cond, okB_cond, lren_cond, lokB_cond, map_cond, all_cond, Bool.cond_self, cond_true, cond_false, List.map_append, List.all_append, List.map_cons, List.map_nil, Bool.and_true, List.nil_append, List.cons_append, simprocAttr]
      refine vcOp_sound ?_
      simp only [GA, ↓GB, GX, simprocAttr, hnt, hT, hc, hk, hd16]
      repeat' (refine and_mk ?_ ?_; (focus first | decide | omega | rfl | assumption))
      all_goals (refine Imp.le [0, 1] ?_; (refine LeR.of ?_ ?_ ?_ ?_ ?_ ?_ ?_ <;> first | (rw [hbl]; decide) | decide | (simp only [hc, hd16, hk, sufL, GA, ↓GB, GX, simprocAttr, GDs, ren_cond, okB_cond, lren_cond, lokB_cond, map_cond, all_cond, Bool.cond_self, cond_true, cond_false, List.map_append, List.all_append, List.map_cons, List.map_nil, Bool.and_true]; done)))
  simp only [nmC, cond_true, GA, ↓GB, GX, simprocAttr, hnt, hT]
  repeat' (first
    | (refine SX.seqK ?_; intro N hN)
    | ((first | (refine SX.ops ?_)); simp only [GA, ↓GB, GX, simprocAttr, hnt, hT, hc, hk, hd16])
    | ((first | refine SX.skip ?_ | refine SX.exit ?_ | refine SX.label ?_); try simp only [GA, ↓GB, GX, simprocAttr])
    | (refine SX.cond rfl (fun hb => ?_) (fun hb => ?_) <;> ((first | cases hb | (simp only [HBs] at hb) | skip) <;> (first | (exfalso; omega) | skip)))
    | (refine SX.ret ?_; try simp only [GA, ↓GB, GX, simprocAttr])
    | (refine hN _ ?_; clear hN N)
    | ((first | refine hK _ _ (FinI.ret3 ?_) | refine hK _ _ (FinI.nrm3 ?_)); simp only [GA, ↓GB, GX, simprocAttr, finP_s, hnt, hT, hc, hk, hd16]; refine Done.out ?_)
    | (clear hN N; first | (refine hN _ ?_; clear hN N) | (clear hN N; first | (refine hN _ ?_; clear hN N) | (clear hN N; first | (refine hN _ ?_; clear hN N) | (clear hN N; first | (refine hN _ ?_; clear hN N) | (clear hN N; first | (refine hN _ ?_; clear hN N) | (refine hN _ ?_; clear hN N))))))
    | (refine bif2.mk (fun hb => ?_) (fun hb => ?_) <;> (try simp only [hb, GA, ↓GB, GX, simprocAttr, hnt, hT, hc, hk, hd16]) <;> ((first | cases hb | (simp only [HBs] at hb) | skip) <;> (first | (exfalso; omega) | skip)))
    | (refine SX.block ?_)
    | (refine and_mk ?_ ?_; (focus first | decide | omega | rfl | assumption | (simp only [List.length_append, List.length_cons, List.length_nil, B_size]; omega) | (simp; done)))
    | (refine And.intro ?_ ?_))
  all_goals (try refine Done.mk ?_)
  all_goals ((refine hN0 _ _ ⟨[], _, _, ?_, ?_, ?_, ⟨rfl, rfl⟩⟩; (focus exact LeR.of rfl trivial (by simp only [GA, ↓GB, GX, simprocAttr, GDs]) (by decide) rfl rfl rfl); rotate_left; (focus rfl)); rfl)
theorem name_ctr (n : Nat) (hn : n < 256) : Ctr Tryd.prog [] 18 [] [vv (.int .u8 n)] (fun os v => os = [] ∧ v = vv (.string (B (nameL n)))) := by
  unfold nameL
  split
  · rename_i h; exact name_star n hn h
  · rename_i h
    rcases (by omega : n / 16 % 3 = 0 ∨ n / 16 % 3 = 1 ∨ n / 16 % 3 = 2) with h3 | h3 | h3 <;> rw [h3]
    · exact name_0 n hn h h3
    · exact name_1 n hn h h3
    · exact name_2 n hn h h3
end Go.Proofs.YtbdacbcpniegiaaDoor
