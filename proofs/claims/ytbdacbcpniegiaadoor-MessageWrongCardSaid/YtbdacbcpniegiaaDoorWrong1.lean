/- Own work: a part of the symbolic executor and of the walks of the functions that the claim reaches. -/
import Derived.Test.YtbdacbcpniegiaaDoorBase5
import Derived.WalkKit
import Derived.ProofKit
import Derived.OpenShut
import Derived.ChangeSame
import Derived.Below
import Derived.ChangeSlices
import Derived.Test.YtbdacbcpniegiaaDoorProg
import Derived.Deep.Slices
import Derived.ChangeArms
import Derived.Test.YtbdacbcpniegiaaDoorRows
import Derived.LaidLaws
namespace Go.Proofs.YtbdacbcpniegiaaDoor
open Go Go.RowKit Go.ChangeShapes Go.WideShapes Go.ChangeAt
theorem u8_of {n : Int} (h : (Lit.int .u8 n).wf = true) : 0 ≤ n ∧ n < 256 := by
  simp only [Lit.wf, Bool.and_eq_true, decide_eq_true_eq] at h
  have e1 : IntKind.u8.min = 0 := rfl
  have e2 : IntKind.u8.max = 255 := rfl
  omega
theorem u64_of {n : Int} (h : (Lit.int .u64 n).wf = true) : 0 ≤ n ∧ n < 18446744073709551616 := by
  simp only [Lit.wf, Bool.and_eq_true, decide_eq_true_eq] at h
  have e1 : IntKind.u64.min = 0 := rfl
  have e2 : IntKind.u64.max = 18446744073709551615 := rfl
  omega
theorem u8row {H : Type} {enc : TypeId × Value → H} {P : Program} {W : World} {t e : TypeId} {a : Option Addr} {len cap : Nat} {d : DataW H} {p : List MemPlace} (ht : P.underlying t = some (.slice e)) (he : P.underlying e = some (.int .u8)) (hc : P.cellsOf e = 1)
    (h : DataW.Trod enc P W 0 (fun _ => true) true t (.slice a len cap) d p) :
    ∃ xs : List UInt8, len = xs.length ∧ ∀ i, i < xs.length → ∃ ad, a = some ad ∧ W.cell? (ad.add (i * 1)) = some (.int .u8 ((xs.getD i 0).toNat : Nat)) := by
  obtain ⟨fuel, hf⟩ := h
  rcases open_ints ht he hc hf with ⟨hcs, _⟩ | ⟨x, l, c, zs, hcs, _, hl, hm, hz, _, hcell, hwz⟩
  · simp [Value.cells] at hcs
    obtain ⟨rfl, rfl, rfl⟩ := hcs
    exact ⟨[], rfl, fun i hi => by simp at hi⟩
  · simp [Value.cells] at hcs
    obtain ⟨rfl, rfl, rfl⟩ := hcs
    have hz' : zs.length = cap := by simpa using hz
    refine ⟨(zs.take len).map fun z => UInt8.ofNat z.toNat, by simp; omega, fun i hi => ⟨x, rfl, ?_⟩⟩
    have hi' : i < len := by simp at hi; omega
    rw [Nat.mul_one, hcell i (by omega)]
    have hw := u8_of (hwz (zs[i]'(by omega)) (List.getElem_mem _))
    have e1 : zs.getD i 0 = zs[i]'(by omega) := by rw [List.getD_eq_getElem?_getD, List.getElem?_eq_getElem (by omega)]; rfl
    have e2 : ((zs.take len).map fun z => UInt8.ofNat z.toNat).getD i 0 = UInt8.ofNat (zs[i]'(by omega)).toNat := by
      rw [List.getD_eq_getElem?_getD, List.getElem?_map, List.getElem?_take, if_pos hi', List.getElem?_eq_getElem (by omega)]; rfl
    rw [e1, e2]
    simp only [UInt8.toNat_ofNat', Option.some.injEq, Value.int.injEq, true_and]
    omega
end Go.Proofs.YtbdacbcpniegiaaDoor
namespace Go.Proofs.YtbdacbcpniegiaaDoor
open Go Go.RowKit Go.ChangeShapes Go.WideShapes Go.ChangeAt Go.Sx
structure Dd where
  kd : Nat
  nm : Nat
  t : Int
  ks : List UInt8
  q : Nat
  ok : Bool
  s : List UInt8
deriving Inhabited
def Dd.cells (d : Dd) : List Value := [.int .u8 (d.kd : Int), .int .u8 (d.nm : Int), .int .i64 d.t, .string (B d.ks), .int .u64 (d.q : Int), .bool d.ok, .string (B d.s)]
structure Dd.Ok (d : Dd) : Prop where
  kd : d.kd < 256
  nm : d.nm < 256
  t0 : -9223372036854775808 ≤ d.t
  t1 : d.t < 9223372036854775808
  ks : d.ks.length ≤ 9223372036854775807
  q : d.q < 18446744073709551616
  s : d.s.length ≤ 9223372036854775807
theorem at1 {cs : List Value} {o : Nat} {v : Value} (h : (cs.drop o).take 1 = [v]) : cs[o]? = some v := by
  have := congrArg (·[0]?) h
  simpa using this
theorem B_data (s : ByteArray) : B s.data.toList = s := by cases s; simp [B]
end Go.Proofs.YtbdacbcpniegiaaDoor
namespace Go.Sx
open Go Go.RowKit
theorem SX.moveAt {X : Ctx} {c : Cfg} {code : Code} {K : Exit → Cfg → Prop} {j k i : Nat} {t e sz n : Nat} {l : List SC} {xs : List Value} (hj : c.loc[j]? = some (.cells l t)) (hk : l[k]? = some (.row i)) (hi : c.loc[i]? = some (.row e sz n xs))
    (h : SX X code ⟨c.env, (c.loc.set i .gone ++ [LO.row e sz n xs]).set j (.cells (l.set k (.row c.loc.length)) t)⟩ K) : SX X code c K := fun ρ σ a w hr => by
  obtain ⟨fp, hfp⟩ := hr.locAt hi
  obtain ⟨v, hdv⟩ := hr.hdl hfp
  obtain ⟨hd, hkk⟩ := hr.loc i _ fp _ hi hfp hdv
  have hR := hr.move (w' := w) (fp' := fp) (v' := v) (o' := .row e sz n xs) (List.getElem?_eq_some_iff.1 hi).1 hfp (Fr.refl _ _) (fun b hb => .inl hb) (hr.fpNodup hfp) ⟨hd, hkk⟩ (ownsRow_one hd)
  have hne : i ≠ j := fun e => by subst e; rw [hi] at hj; cases hj
  refine h _ _ a w (Rel.retell (l := l) hR (by rw [List.getElem?_append_left (by rw [List.length_set]; exact (List.getElem?_eq_some_iff.1 hj).1), List.getElem?_set_ne hne]; exact hj) (fun cs hcs => ?_))
  obtain ⟨u, hu, hdu⟩ := hcs.get hk
  have hdu : (σ ++ [v])[i]? = some u := hdu
  have hlt : i < σ.length := (List.getElem?_eq_some_iff.1 hdv).1
  rw [List.getElem?_append_left hlt, hdv] at hdu
  cases hdu
  have hs := hcs.set (i := k) (a := SC.row c.loc.length) (b := v) (by
    show (σ ++ [v])[c.loc.length]? = some v
    rw [← hr.lenS]; simp)
  obtain ⟨hlt, he⟩ := List.getElem?_eq_some_iff.1 hu
  have e3 : cs.set k v = cs := by rw [← he, List.set_getElem_self hlt]
  rw [e3] at hs
  exact hs
end Go.Sx
namespace Go.Proofs.YtbdacbcpniegiaaDoor
open Go Go.RowKit Go.Proofs Go.Sx
set_option maxHeartbeats 16000000
set_option maxRecDepth 100000
set_option linter.unusedSimpArgs false
set_option linter.unusedVariables false
def textsB (num : Nat) (xs : List (List UInt8)) : List UInt8 := xs.flatMap (textB num)
theorem textsB_snoc (num : Nat) (xs : List (List UInt8)) (s : List UInt8) : textsB num (xs ++ [s]) = textsB num xs ++ textB num s := by simp [textsB]
theorem take_snoc (xs : List (List UInt8)) (i : Nat) (h : i < xs.length) : xs.take (i + 1) = xs.take i ++ [xs.getD i []] := by
  rw [List.take_add_one, List.getElem?_eq_getElem h, List.getD_eq_getElem?_getD, List.getElem?_eq_getElem h]; rfl
theorem textsB_take (num : Nat) (xs : List (List UInt8)) (i : Nat) : (textsB num (xs.take i)).length ≤ (textsB num xs).length := by
  have e : textsB num xs = textsB num (xs.take i) ++ textsB num (xs.drop i) := by unfold textsB; rw [← List.flatMap_append, List.take_append_drop]
  rw [e, List.length_append]; omega
theorem wlist_ctr (l : List UInt8) (xs : List (List UInt8)) (num : Nat) (h1 : 1 ≤ num) (h2 : num < 536870912) (hx : xs.length ≤ 1099511627776) (hs : ∀ s ∈ xs, s.length < 4294967296) (hl : l.length + (textsB num xs).length ≤ 1148000000000) :
    Ctr Tryd.prog [] 67 (bldr l ++ [srow xs]) [.one (.c (.loc 0 0)), vv (.int .i64 num), .one (.c (.row 2))]
    (fun os r => os = [.cells [.loc 0 0, .row 3] 123, .gone, srow xs, .row 5 1 (l ++ textsB num xs).length (bcells (l ++ textsB num xs))] ∧ r = .tup []) := by
  have hget : ∀ i, i < xs.length → (xs.getD i []).length < 4294967296 := fun i h => by
    rw [List.getD_eq_getElem?_getD, List.getElem?_eq_getElem h]; exact hs _ (List.getElem_mem h)
  have htxt : ∀ i, i < xs.length → ∀ w : World, Calls Tryd.prog 104 #[.int .i64 num, .string (B (xs.getD i []))] w fun e w' => e = .returned (.string (B (textB num (xs.getD i [])))) ∧ Below w.heap.size w w' := fun i h w => text_any num (xs.getD i []) h1 h2 (by have := hget i h; omega) w
  have hlen : ∀ i, i < xs.length → (l ++ textsB num (xs.take i)).length + (textB num (xs.getD i [])).length ≤ 1152921504606 := fun i h => by
    have e := textsB_take num xs (i + 1)
    rw [take_snoc xs i h, textsB_snoc, List.length_append] at e
    rw [List.length_append]; omega
  refine Ctr.less ?_
  intro X0 hP0 hG0 N0 hN0
  refine CallVC.inline (f := 67) (by rw [hP0]; exact Tryd.func67) rfl Tryd.ntmps67 rfl (by simp) ?_
  intro X K hU hnt hbl hK
  have hP : X.P = Tryd.prog := by rw [hU.P, hP0]
  have hG := hG0.under hU
  have hT : X.P.underlying 38 = some (TypeDesc.slice 9) ∧ elemSz X.P 38 = some (9, 1) ∧ aggOf X.P 9 = some false ∧ szOf X.P 9 = some 1 ∧ fieldOff X.P 123 0 = some 0 ∧ calleeOk X.P 104 = true ∧ calleeOk X.P 123 = true := by rw [hP]; exact ⟨Tryd.underlying38, Ty.el38, Ty.ag9, Ty.sz9, Ty.fo123_0, Ty.co104, Ty.co123⟩
  simp only [GA, ↓GB, GX, simprocAttr] at hbl ⊢
  repeat' (first
    | (refine SX.seqK ?_; intro N hN)
    | ((first | (refine SX.ops ?_) | (refine SX.planT (id := 3) [.q [(0, [0]), (1, [14]), (2, [15]), (3, [1]), (4, [7]), (5, [17, 18])] none, .s 6] ?_ ?_ ?_; (focus first | (rw [hP]; kernel_rfl) | (rw [hU1P, hP]; kernel_rfl)); (focus kernel_rfl))); simp only [GA, ↓GB, GX, simprocAttr, hnt, hT])
    | ((first | refine SX.skip ?_ | refine SX.exit ?_ | refine SX.label ?_); try simp only [GA, ↓GB, GX, simprocAttr])
    | (refine SX.cond rfl (fun hb => ?_) (fun hb => ?_) <;> ((first | cases hb | (simp only [HBs] at hb) | skip) <;> (first | (exfalso; omega) | skip)))
    | (refine SX.ret ?_; try simp only [GA, ↓GB, GX, simprocAttr])
    | (refine hN _ ?_; clear hN N)
    | ((first | refine hK _ _ (FinI.ret3 ?_) | refine hK _ _ (FinI.nrm3 ?_)); simp only [GA, ↓GB, GX, simprocAttr, finP_s, hnt, hT]; refine Done.out ?_)
    | (clear hN N; first | (refine hN _ ?_; clear hN N) | (clear hN N; first | (refine hN _ ?_; clear hN N) | (clear hN N; first | (refine hN _ ?_; clear hN N) | (clear hN N; first | (refine hN _ ?_; clear hN N) | (clear hN N; first | (refine hN _ ?_; clear hN N) | (refine hN _ ?_; clear hN N))))))
    | (refine bif2.mk (fun hb => ?_) (fun hb => ?_) <;> (try simp only [hb, GA, ↓GB, GX, simprocAttr, hnt, hT]) <;> ((first | cases hb | (simp only [HBs] at hb) | skip) <;> (first | (exfalso; omega) | skip)))
    | ((first | (refine CallVC.pv hP (htxt i hlt) rfl ?_) | (refine CallQ.pv hP (htxt i hlt) rfl ?_) | (refine Ctr.use (writeString_ctr (l ++ textsB num (xs.take i)) (textB num (xs.getD i [])) (hlen i hlt)) hP ?_ [0,3] ?_ rfl rfl ?_; (focus (intro p hp; cases hp)); (focus (refine LeR.of rfl trivial ?_ ?_ ?_ ?_ ?_ <;> first | decide | (simp only [GA, ↓GB, GX, simprocAttr, GDs]; done))); intro os' s hR; obtain ⟨rfl, rfl⟩ := hR)); simp only [GA, ↓GB, GX, simprocAttr, hnt, hT])
    | (refine SX.moveAt (j := 0) (k := 1) (i := 1) rfl rfl rfl ?_ <;> refine SX.loop (ι := { i : Nat // i ≤ xs.length }) (fun i => ⟨[(0, .one (.c (.loc 0 0))), (1, vv (.int .i64 num)), (8, .one (.c (.row 2))), (9, vv (.int .i64 xs.length)), (10, vv (.int .i64 i.1))], [.cells [.loc 0 0, .row 3] 123, .gone, srow xs, .row 5 1 (l ++ textsB num (xs.take i.1)).length (bcells (l ++ textsB num (xs.take i.1)))]⟩) (fun i => xs.length - i.1) ⟨0, Nat.zero_le _⟩ ⟨[0, 1, 2, 3], by (refine LeR.of ?_ ?_ ?_ ?_ ?_ ?_ ?_ <;> first | (rw [hbl]; decide) | decide | (simp only [GA, ↓GB, GX, simprocAttr, GDs]; done) | (simp only [GA, ↓GB, GX, simprocAttr, GDs]; first | rfl | (rw [show l ++ textsB num [] = l from List.append_nil l]); done))⟩ ?_ <;> rintro ⟨i, hi⟩ <;> simp only [] at hi ⊢ <;> rcases Nat.lt_or_eq_of_le hi with hlt | rfl <;> (try simp only [List.take_length]))
    | (refine ⟨_, srow_at _ _ (by omega), ?_⟩ <;> (try simp only [GA, ↓GB, GX, simprocAttr, hnt, hT]))
    | (refine SX.block ?_)
    | (refine and_mk ?_ ?_; (focus first | decide | omega | rfl | assumption | (simp only [List.length_append, List.length_cons, List.length_nil, B_size]; omega) | (simp; done)))
    | (refine And.intro ?_ ?_))
  all_goals (try refine Done.mk ?_)
  · exact ⟨⟨i + 1, by omega⟩, [0, 1, 2, 4], by (refine LeR.of ?_ ?_ ?_ ?_ ?_ ?_ ?_ <;> first | (rw [hbl]; decide) | decide | (simp only [GA, ↓GB, GX, simprocAttr, GDs]; done) | (simp only [GA, ↓GB, GX, simprocAttr, GDs]; first | rfl | (rw [wI64 (by omega) (by omega)]; rfl) | (simp only [take_snoc xs i hlt, textsB_snoc, List.append_assoc]; done); done)), by show xs.length - (i + 1) < xs.length - i; omega⟩
  · (refine hN0 _ _ ⟨[0, 1, 2, 3], _, _, ?_, ?_, ?_, ⟨rfl, rfl⟩⟩; (focus exact LeR.of rfl trivial (by simp only [GA, ↓GB, GX, simprocAttr, GDs]) (by decide) rfl rfl rfl); rotate_left; (focus rfl))
    rfl
end Go.Proofs.YtbdacbcpniegiaaDoor
namespace Go.Sx
open Go Go.RowKit
theorem Ctr.moveBldr {P : Program} {G : List (Addr × Value)} {f : FuncId} {os : List LO} {args : List SV} {R : SV → Prop} {t e sz n : Nat} {xs : List Value}
    (h : Ctr P G f os args (fun os' r => os' = [.cells [.loc 0 0, .row 1] t, .row e sz n xs] ∧ R r)) : Ctr P G f os args (fun os' r => os' = [.cells [.loc 0 0, .row 2] t, .gone, .row e sz n xs] ∧ R r) := by
  intro X hP hG N hN ρ σ a w hr vals ha
  refine (h X hP hG (fun c s => c = ⟨[], [.cells [.loc 0 0, .row 1] t, .row e sz n xs]⟩ ∧ R s) (fun os' s hR => ⟨by rw [hR.1], hR.2⟩) ρ σ a w hr vals ha).mono ?_
  rintro ev w' ⟨v, c', ρ', σ', s, rfl, hr', hd, rfl, hR⟩
  have hi : ([.cells [.loc 0 0, .row 1] t, .row e sz n xs] : List LO)[1]? = some (.row e sz n xs) := rfl
  obtain ⟨fp, hfp⟩ := hr'.locAt hi
  obtain ⟨u, hu⟩ := hr'.hdl hfp
  obtain ⟨hd1, hk⟩ := hr'.loc 1 _ fp u hi hfp hu
  have hl2 : σ'.length = 2 := hr'.lenS
  have hR1 := hr'.move (w' := w') (fp' := fp) (v' := u) (o' := .row e sz n xs) (by simp) hfp (Fr.refl _ _) (fun b hb => .inl hb) (hr'.fpNodup hfp) ⟨hd1, hk⟩ (ownsRow_one hd1)
  have hR2 := Rel.retell (l' := [.loc 0 0, .row 2]) hR1 (i := 0) (l := [.loc 0 0, .row 1]) (t := t) rfl (fun cs hcs => by
    obtain ⟨u1, hu1, hd2⟩ := hcs.get (i := 1) (a := SC.row 1) rfl
    have h1 : (σ' ++ [u])[1]? = some u1 := hd2
    rw [List.getElem?_append_left (by omega), hu] at h1
    cases h1
    have hs := hcs.set (i := 1) (a := SC.row 2) (b := u) (by
      show (σ' ++ [u])[2]? = some u
      rw [← hl2]; simp)
    obtain ⟨hlt, he⟩ := List.getElem?_eq_some_iff.1 hu1
    have e3 : cs.set 1 u = cs := by rw [← he, List.set_getElem_self hlt]
    rw [e3] at hs
    exact hs)
  exact ⟨v, _, _, _, s, rfl, hR2, DV.mono (Up.append _ _) _ _ hd, hN _ _ ⟨rfl, hR⟩⟩
end Go.Sx
namespace Go.Proofs.YtbdacbcpniegiaaDoor
open Go Go.RowKit Go.Proofs Go.Sx
set_option maxHeartbeats 16000000
set_option maxRecDepth 100000
set_option linter.unusedSimpArgs false
set_option linter.unusedVariables false
def numZ (num n : Nat) : List UInt8 := if n = 0 then [] else numB num n
def flagZ (num : Nat) (b : Bool) : List UInt8 := if b then numB num 1 else []
theorem wnumberNo (l : List UInt8) (num : Nat) : Ctr Tryd.prog [] 66 (bldr l) [.one (.c (.loc 0 0)), vv (.int .i64 num), vv (.int .u64 0)] (fun os r => os = bldr l ∧ r = .tup []) := by
  intro X0 hP0 hG0 N0 hN0
  refine CallVC.inline (f := 66) (by rw [hP0]; exact Tryd.func66) rfl Tryd.ntmps66 rfl (by simp) ?_
  intro X K hU hnt hbl hK
  have hP : X.P = Tryd.prog := by rw [hU.P, hP0]
  have hG := hG0.under hU
  have hT : fieldOff X.P 123 0 = some 0 ∧ calleeOk X.P 23 = true ∧ calleeOk X.P 123 = true := by rw [hP]; exact ⟨Ty.fo123_0, Ty.co23, Ty.co123⟩
  simp only [GA, ↓GB, GX, simprocAttr] at hbl ⊢
  repeat' (first
    | (refine SX.seqK ?_; intro N hN)
    | ((first | (refine SX.ops ?_) | (refine SX.planT (id := 1) [.f 0, .f 1, .f 2, .q [(3, [1]), (4, [2])] none, .s 5, .s 6] ?_ ?_ ?_; (focus first | (rw [hP]; kernel_rfl) | (rw [hU1P, hP]; kernel_rfl)); (focus kernel_rfl))); simp only [GA, ↓GB, GX, simprocAttr, hnt, hT])
    | ((first | refine SX.skip ?_ | refine SX.exit ?_ | refine SX.label ?_); try simp only [GA, ↓GB, GX, simprocAttr])
    | (refine SX.cond rfl (fun hb => ?_) (fun hb => ?_) <;> ((first | cases hb | (simp only [HBs] at hb) | skip) <;> (first | (exfalso; omega) | skip)))
    | (refine SX.ret ?_; try simp only [GA, ↓GB, GX, simprocAttr])
    | (refine hN _ ?_; clear hN N)
    | ((first | refine hK _ _ (FinI.ret3 ?_) | refine hK _ _ (FinI.nrm3 ?_)); simp only [GA, ↓GB, GX, simprocAttr, finP_s, hnt, hT]; refine Done.out ?_)
    | (clear hN N; first | (refine hN _ ?_; clear hN N) | (clear hN N; first | (refine hN _ ?_; clear hN N) | (clear hN N; first | (refine hN _ ?_; clear hN N) | (clear hN N; first | (refine hN _ ?_; clear hN N) | (clear hN N; first | (refine hN _ ?_; clear hN N) | (refine hN _ ?_; clear hN N))))))
    | (refine bif2.mk (fun hb => ?_) (fun hb => ?_) <;> (try simp only [hb, GA, ↓GB, GX, simprocAttr, hnt, hT]) <;> ((first | cases hb | (simp only [HBs] at hb) | skip) <;> (first | (exfalso; omega) | skip)))
    | (refine SX.block ?_)
    | (refine and_mk ?_ ?_; (focus first | decide | omega | rfl | assumption | (simp only [List.length_append, List.length_cons, List.length_nil, B_size]; omega) | (simp; done)))
    | (refine And.intro ?_ ?_))
  all_goals (try refine Done.mk ?_)
  all_goals exact hN0 _ _ ⟨rfl, rfl⟩
theorem wnumZ (l : List UInt8) (num n : Nat) (h1 : 1 ≤ num) (h2 : num < 536870912) (hn : n < 18446744073709551616) (hl : l.length ≤ 1152921504000) :
    Ctr Tryd.prog [] 66 (bldr l) [.one (.c (.loc 0 0)), vv (.int .i64 num), vv (.int .u64 n)] (fun os r => os = bldr' (l ++ numZ num n) ∧ r = .tup []) := by
  unfold numZ
  split
  · subst n
    rw [List.append_nil]
    exact Ctr.moveBldr (R := fun r => r = .tup []) (wnumberNo l num)
  · exact wnumber_ctr l num n h1 h2 (by omega) hn hl
theorem wflagZ (l : List UInt8) (num : Nat) (b : Bool) (h1 : 1 ≤ num) (h2 : num < 536870912) (hl : l.length ≤ 1152921504000) :
    Ctr Tryd.prog [] 68 (bldr l) [.one (.c (.loc 0 0)), vv (.int .i64 num), vv (.bool b)] (fun os r => os = bldr' (l ++ flagZ num b) ∧ r = .tup []) := by
  unfold flagZ
  cases b with
  | false =>
    rw [show (if false = true then numB num 1 else []) = ([] : List UInt8) from rfl, List.append_nil]
    exact Ctr.moveBldr (R := fun r => r = .tup []) (wflag_no l num)
  | true => exact wflag_yes l num h1 h2 hl
end Go.Proofs.YtbdacbcpniegiaaDoor
namespace Go.Proofs.YtbdacbcpniegiaaDoor
open Go Go.RowKit Go.Proofs Go.Sx
set_option maxHeartbeats 16000000
set_option maxRecDepth 100000
set_option linter.unusedSimpArgs false
set_option linter.unusedVariables false
@[reducible] def bldr0 : LO := .cells [.v (.pointer none), .v (.slice none 0 0)] 123
theorem writeString0 (s : List UInt8) (hn : s.length ≤ 1152921504606) : Ctr Tryd.prog [] 123 [bldr0] [.one (.c (.loc 0 0)), vv (.string (B s))]
    (fun os r => os = bldr s ∧ r = .tup [.c (.v (.int .i64 s.length)), .c (.v .nilIface)]) := by
  refine Ctr.less ?_
  intro X0 hP0 hG0 N0 hN0
  refine CallVC.inline (f := 123) (by rw [hP0]; exact Tryd.func123) rfl Tryd.ntmps123 rfl (by simp) ?_
  intro X K hU hnt hbl hK
  have hP : X.P = Tryd.prog := by rw [hU.P, hP0]
  have hG := hG0.under hU
  have hT : calleeOk X.P 122 = true ∧ fieldOff X.P 121 1 = some 1 ∧ aggOf X.P 58 = some false ∧ szOf X.P 58 = some 1 ∧ elemInf X.P 58 = some (5, 1, 1, (Value.int IntKind.u8 0)) ∧ isStrT X.P 9 = true ∧ X.P.underlying 9 = some TypeDesc.string := by rw [hP]; exact ⟨Ty.co122, Ty.fo121_1, Ty.ag58, Ty.sz58, Ty.ei58, Ty.is9, Tryd.underlying9⟩
  simp only [GA, ↓GB, GX, simprocAttr] at hbl ⊢
  have hnt1 := True.intro; have hT1 := True.intro; have hU1P := True.intro
  repeat' (first
    | (refine SX.seqK ?_; intro N hN)
    | ((first | (refine SX.ops ?_)); simp only [GA, ↓GB, GX, simprocAttr, hnt, hT, hnt1, hT1, hU1P, Nat.zero_add])
    | ((first | refine SX.skip ?_ | refine SX.exit ?_ | refine SX.label ?_); try simp only [GA, ↓GB, GX, simprocAttr])
    | (refine SX.cond rfl (fun hb => ?_) (fun hb => ?_) <;> ((first | cases hb | (simp only [HBs] at hb) | skip) <;> (first | (exfalso; omega) | skip)))
    | (refine SX.ret ?_; try simp only [GA, ↓GB, GX, simprocAttr])
    | (refine hN _ ?_; clear hN N)
    | ((first | refine hK1 _ _ (FinI.ret3 ?_) | refine hK1 _ _ (FinI.nrm3 ?_)); (repeat (clear hN N)); clear hK1 K1; simp only [GA, ↓GB, GX, simprocAttr, finP_s, hnt, hT, hnt1, hT1, hU1P, Nat.zero_add])
    | ((first | refine hK _ _ (FinI.ret3 ?_) | refine hK _ _ (FinI.nrm3 ?_)); simp only [GA, ↓GB, GX, simprocAttr, finP_s, hnt, hT, hnt1, hT1, hU1P, Nat.zero_add]; refine Done.out ?_)
    | (clear hN N; first | (refine hN _ ?_; clear hN N) | (clear hN N; first | (refine hN _ ?_; clear hN N) | (clear hN N; first | (refine hN _ ?_; clear hN N) | (clear hN N; first | (refine hN _ ?_; clear hN N) | (clear hN N; first | (refine hN _ ?_; clear hN N) | (refine hN _ ?_; clear hN N))))))
    | (refine bif2.mk (fun hb => ?_) (fun hb => ?_) <;> (try simp only [hb, GA, ↓GB, GX, simprocAttr, hnt, hT, hnt1, hT1, hU1P, Nat.zero_add]) <;> ((first | cases hb | (simp only [HBs] at hb) | skip) <;> (first | (exfalso; omega) | skip)))
    | (refine CallVC.inline (f := 122) ?_ rfl Tryd.ntmps122 rfl ?_ ?_; (focus rw [hP]; exact Tryd.func122); (focus simp); have hT1 : fieldOff X.P 121 0 = some 0 ∧ aggOf X.P 119 = some false ∧ szOf X.P 119 = some 1 ∧ X.P.underlying 119 = some (TypeDesc.pointer 121) ∧ X.P.underlying 211 = some TypeDesc.unsafePointer ∧ isBytesT X.P 119 = false ∧ isStrT X.P 211 = false ∧ calleeOk X.P 150 = false ∧ isBytesT X.P 211 = false ∧ isStrT X.P 119 = false := (by rw [hP]; exact ⟨Ty.fo121_0, Ty.ag119, Ty.sz119, Tryd.underlying119, Tryd.underlying211, Ty.ib119, Ty.is211, Ty.cx150, Ty.ib211, Ty.is119⟩); intro X1 K1 hU1 hnt1 hbl1 hK1; have hU1P := hU1.P; simp only [GA, ↓GB, GX, simprocAttr] at hbl1 ⊢)
    | (refine VO.toUnsafe (src := 119) (t := 121) rfl (by rw [hU1P, hP]; kernel_rfl) (by rw [hU1P, hP]; kernel_rfl) (n := 1) (by rw [hU1P, hP]; kernel_rfl) rfl (by decide) ?_; simp only [GA, ↓GB, GX, simprocAttr, hnt, hnt1, hT, hT1, hU1P])
    | (refine VO.same rfl (noEscape_run (hU1P.trans hP)) ?_; simp only [GA, ↓GB, GX, simprocAttr, hnt, hnt1, hT, hT1, hU1P])
    | (refine VO.fromUnsafe (src := 211) (u := 121) rfl (by rw [hU1P, hP]; kernel_rfl) (by rw [hU1P, hP]; kernel_rfl) (n := 2) (by rw [hU1P, hP]; kernel_rfl) rfl (by rw [hU1P, hP]; kernel_rfl) ?_; simp only [GA, ↓GB, GX, simprocAttr, hnt, hnt1, hT, hT1, hU1P])
    | (refine VO.ptrNil (e := 121) rfl rfl (by rw [hU1P, hP]; kernel_rfl) ?_; simp only [GA, ↓GB, GX, simprocAttr, hnt, hnt1, hT, hT1, hU1P])
    | (refine VO.ptrSame (e := 121) (n := 2) rfl rfl (by rw [hU1P, hP]; kernel_rfl) (by rw [hU1P, hP]; kernel_rfl) ?_; simp only [GA, ↓GB, GX, simprocAttr, hnt, hnt1, hT, hT1, hU1P])
    | (refine SX.block ?_)
    | (refine and_mk ?_ ?_; (focus first | decide | omega | rfl | assumption | (simp only [List.length_append, List.length_cons, List.length_nil, B_size]; omega) | (simp; done)))
    | (refine And.intro ?_ ?_))
  all_goals (try refine Done.mk ?_)
  all_goals ((refine hN0 _ _ ⟨[0, 2], _, _, ?_, ?_, ?_, ⟨rfl, rfl⟩⟩; (focus exact LeR.of rfl trivial (by simp only [GA, ↓GB, GX, simprocAttr, GDs]) (by decide) rfl rfl rfl); rotate_left; (focus rfl)); rfl)
theorem wlist0 (s : List UInt8) (num : Nat) (h1 : 1 ≤ num) (h2 : num < 536870912) (hs : s.length < 4294967296) :
    Ctr Tryd.prog [] 67 [bldr0, .cells [.v (.string (B s))] 9] [.one (.c (.loc 0 0)), vv (.int .i64 num), .one (.c (.sl 1 0 1 1))]
    (fun os r => os = [.cells [.loc 0 0, .row 2] 123, .cells [.v (.string (B s))] 9, .row 5 1 (textB num s).length (bcells (textB num s))] ∧ r = .tup []) := by
  have hl1 := NW.varint_len10 (n := num * 8 + 2) (by omega)
  have hl2 := NW.varint_len10 (n := s.length) (by omega)
  have hlen : (textB num s).length ≤ 1152921504606 := by simp [textB]; omega
  refine Ctr.less ?_
  intro X0 hP0 hG0 N0 hN0
  refine CallVC.inline (f := 67) (by rw [hP0]; exact Tryd.func67) rfl Tryd.ntmps67 rfl (by simp) ?_
  intro X K hU hnt hbl hK
  have hP : X.P = Tryd.prog := by rw [hU.P, hP0]
  have hG := hG0.under hU
  have hT : X.P.underlying 38 = some (TypeDesc.slice 9) ∧ elemSz X.P 38 = some (9, 1) ∧ aggOf X.P 9 = some false ∧ szOf X.P 9 = some 1 ∧ fieldOff X.P 123 0 = some 0 ∧ calleeOk X.P 104 = true ∧ calleeOk X.P 123 = true := by rw [hP]; exact ⟨Tryd.underlying38, Ty.el38, Ty.ag9, Ty.sz9, Ty.fo123_0, Ty.co104, Ty.co123⟩
  simp only [GA, ↓GB, GX, simprocAttr] at hbl ⊢
  repeat' (first
    | (refine SX.seqK ?_; intro N hN)
    | ((first | (refine SX.ops ?_) | (refine SX.planT (id := 3) [.q [(0, [0]), (1, [14]), (2, [15]), (3, [1]), (4, [7]), (5, [17, 18])] none, .s 6] ?_ ?_ ?_; (focus first | (rw [hP]; kernel_rfl) | (rw [hU1P, hP]; kernel_rfl)); (focus kernel_rfl))); simp only [GA, ↓GB, GX, simprocAttr, hnt, hT])
    | ((first | refine SX.skip ?_ | refine SX.exit ?_ | refine SX.label ?_); try simp only [GA, ↓GB, GX, simprocAttr])
    | (refine SX.cond rfl (fun hb => ?_) (fun hb => ?_) <;> ((first | cases hb | (simp only [HBs] at hb) | skip) <;> (first | (exfalso; omega) | skip)))
    | (refine SX.ret ?_; try simp only [GA, ↓GB, GX, simprocAttr])
    | (refine hN _ ?_; clear hN N)
    | ((first | refine hK _ _ (FinI.ret3 ?_) | refine hK _ _ (FinI.nrm3 ?_)); simp only [GA, ↓GB, GX, simprocAttr, finP_s, hnt, hT]; refine Done.out ?_)
    | (clear hN N; first | (refine hN _ ?_; clear hN N) | (clear hN N; first | (refine hN _ ?_; clear hN N) | (clear hN N; first | (refine hN _ ?_; clear hN N) | (clear hN N; first | (refine hN _ ?_; clear hN N) | (clear hN N; first | (refine hN _ ?_; clear hN N) | (refine hN _ ?_; clear hN N))))))
    | (refine bif2.mk (fun hb => ?_) (fun hb => ?_) <;> (try simp only [hb, GA, ↓GB, GX, simprocAttr, hnt, hT]) <;> ((first | cases hb | (simp only [HBs] at hb) | skip) <;> (first | (exfalso; omega) | skip)))
    | ((first | (refine CallVC.pv hP (text_any num s h1 h2 (by omega)) rfl ?_) | (refine CallQ.pv hP (text_any num s h1 h2 (by omega)) rfl ?_) | (refine Ctr.use (writeString0 (textB num s) hlen) hP ?_ [0] ?_ rfl rfl ?_; (focus (intro p hp; cases hp)); (focus (refine LeR.of rfl trivial ?_ ?_ ?_ ?_ ?_ <;> first | decide | (simp only [GA, ↓GB, GX, simprocAttr, GDs]; done))); intro os' s hR; obtain ⟨rfl, rfl⟩ := hR)); simp only [GA, ↓GB, GX, simprocAttr, hnt, hT])
    | (refine SX.loopN 2 ?_)
    | (refine SXr.stepK ?_; intro N hN)
    | (refine SX.block ?_)
    | (refine and_mk ?_ ?_; (focus first | decide | omega | rfl | assumption | (simp only [List.length_append, List.length_cons, List.length_nil, B_size]; omega) | (simp; done)))
    | (refine And.intro ?_ ?_))
  all_goals (try refine Done.mk ?_)
  all_goals ((refine hN0 _ _ ⟨[0, 1, 2], _, _, ?_, ?_, ?_, ⟨rfl, rfl⟩⟩; (focus exact LeR.of rfl trivial (by simp only [GA, ↓GB, GX, simprocAttr, GDs]) (by decide) rfl rfl rfl); rotate_left; (focus rfl)); rfl)
end Go.Proofs.YtbdacbcpniegiaaDoor
namespace Go.Proofs.YtbdacbcpniegiaaDoor
open Go Go.RowKit Go.Proofs Go.Sx
set_option maxHeartbeats 32000000
set_option maxRecDepth 100000
set_option linter.unusedSimpArgs false
set_option linter.unusedVariables false
def haveB (h : HvS) : List UInt8 := textB 1 h.1 ++ numZ 2 h.2
def havesB (hv : List HvS) : List UInt8 := hv.flatMap fun h => textB 6 (haveB h)
theorem havesB_snoc (hv : List HvS) (h : HvS) : havesB (hv ++ [h]) = havesB hv ++ textB 6 (haveB h) := by simp [havesB]
theorem takeH_snoc (hv : List HvS) (i : Nat) (h : i < hv.length) : hv.take (i + 1) = hv.take i ++ [hv.getD i default] := by
  rw [List.take_add_one, List.getElem?_eq_getElem h, List.getD_eq_getElem?_getD, List.getElem?_eq_getElem h]; rfl
theorem havesB_take (hv : List HvS) (i : Nat) : (havesB (hv.take i)).length ≤ (havesB hv).length := by
  have e : havesB hv = havesB (hv.take i) ++ havesB (hv.drop i) := by unfold havesB; rw [← List.flatMap_append, List.take_append_drop]
  rw [e, List.length_append]; omega
def reqHead (t : Nat) (dl : Bool) (q : Nat) (sb un : List (List UInt8)) : List UInt8 := 1 :: (numZ 1 t ++ flagZ 2 dl ++ numZ 3 q ++ textsB 4 sb ++ textsB 5 un)
def reqBytes (t : Nat) (dl : Bool) (q : Nat) (sb un : List (List UInt8)) (hv : List HvS) (d : List UInt8) : List UInt8 :=
  reqHead t dl q sb un ++ havesB hv ++ (if d = [] then [] else textB 7 d)
theorem numZ_len (num n : Nat) (h1 : num < 536870912) (hn : n < 18446744073709551616) : (numZ num n).length ≤ 20 := by
  have := numB_len num n h1 hn
  unfold numZ; split <;> simp; omega
theorem flagZ_len (num : Nat) (b : Bool) (h1 : num < 536870912) : (flagZ num b).length ≤ 20 := by
  have := numB_len num 1 h1 (by decide)
  unfold flagZ; split <;> simp; omega
theorem putReq_no (t : Int) (dl : Bool) (q : Nat) (sb un : List (List UInt8)) (hv : List HvS) (d : List UInt8) (h1 : sb.length ≤ 1099511627776) (h2 : un.length ≤ 1099511627776) (h3 : hv.length ≤ 1048576)
    (b1 : ∀ s ∈ sb, s.length ≤ 9223372036854775807) (b2 : ∀ s ∈ un, s.length ≤ 9223372036854775807) (b3 : ∀ s ∈ hv.map (·.1), s.length ≤ 9223372036854775807) (h : reqB t dl q sb un hv d = false) :
    Ctr Tryd.prog [] 40 [srow sb, srow un, hrow hv] [.one (.agg [.v (.int .i64 t), .v (.bool dl), .v (.int .u64 q), .row 0, .row 1, .row 2, .v (.string (B d))])] (fun os v => os = [srow sb, srow un, hrow hv] ∧ v = .tup [.c (.v (.string (B []))), .c (.v (.bool false))]) := by
  have hr := rightReq_ctr t dl q sb un hv d h1 h2 h3 b1 b2 b3
  rw [h] at hr
  refine Ctr.less ?_
  intro X0 hP0 hG0 N0 hN0
  refine CallVC.inline (f := 40) (by rw [hP0]; exact Tryd.func40) rfl Tryd.ntmps40 rfl (by simp) ?_
  intro X K hU hnt hbl hK
  have hP : X.P = Tryd.prog := by rw [hU.P, hP0]
  have hG := hG0.under hU
  have hT : aggOf X.P 41 = some true ∧ szOf X.P 41 = some 7 ∧ calleeOk X.P 42 = true ∧ zeroCells X.P 123 = some [(Value.pointer none), (Value.slice none 0 0)] ∧ fieldOff X.P 123 0 = some 0 ∧ calleeOk X.P 65 = true ∧ fieldOff X.P 41 0 = some 0 ∧ aggOf X.P 3 = some false ∧ szOf X.P 3 = some 1 ∧ X.P.underlying 3 = some (TypeDesc.int IntKind.i64) ∧ X.P.underlying 22 = some (TypeDesc.int IntKind.u64) ∧ isBytesT X.P 3 = false ∧ isStrT X.P 22 = false ∧ calleeOk X.P 66 = true ∧ fieldOff X.P 41 1 = some 1 ∧ aggOf X.P 4 = some false ∧ szOf X.P 4 = some 1 ∧ calleeOk X.P 68 = true ∧ fieldOff X.P 41 2 = some 2 ∧ aggOf X.P 22 = some false ∧ szOf X.P 22 = some 1 ∧ fieldOff X.P 41 3 = some 3 ∧ aggOf X.P 38 = some false ∧ szOf X.P 38 = some 1 ∧ calleeOk X.P 67 = true ∧ fieldOff X.P 41 4 = some 4 ∧ fieldOff X.P 41 5 = some 5 ∧ aggOf X.P 39 = some false ∧ szOf X.P 39 = some 1 ∧ X.P.underlying 39 = some (TypeDesc.slice 87) ∧ elemSz X.P 39 = some (87, 2) ∧ aggOf X.P 87 = some true ∧ szOf X.P 87 = some 2 ∧ zeroCells X.P 87 = some [(Value.string { data := #[] }), (Value.int IntKind.u64 0)] ∧ fieldOff X.P 87 0 = some 0 ∧ aggOf X.P 9 = some false ∧ szOf X.P 9 = some 1 ∧ elemSz X.P 38 = some (9, 1) ∧ zeroCells X.P 9 = some [(Value.string { data := #[] })] ∧ fieldOff X.P 87 1 = some 1 ∧ calleeOk X.P 69 = true ∧ fieldOff X.P 41 6 = some 6 := by rw [hP]; exact ⟨Ty.ag41, Ty.sz41, Ty.co42, Ty.ze123, Ty.fo123_0, Ty.co65, Ty.fo41_0, Ty.ag3, Ty.sz3, Tryd.underlying3, Tryd.underlying22, Ty.ib3, Ty.is22, Ty.co66, Ty.fo41_1, Ty.ag4, Ty.sz4, Ty.co68, Ty.fo41_2, Ty.ag22, Ty.sz22, Ty.fo41_3, Ty.ag38, Ty.sz38, Ty.co67, Ty.fo41_4, Ty.fo41_5, Ty.ag39, Ty.sz39, Tryd.underlying39, Ty.el39, Ty.ag87, Ty.sz87, Ty.ze87, Ty.fo87_0, Ty.ag9, Ty.sz9, Ty.el38, Ty.ze9, Ty.fo87_1, Ty.co69, Ty.fo41_6⟩
  simp only [GA, ↓GB, GX, simprocAttr] at hbl ⊢
  repeat' (first
    | (refine SX.seqK ?_; intro N hN)
    | ((first | (refine SX.ops ?_)); simp only [GA, ↓GB, GX, simprocAttr, hnt, hT])
    | ((first | refine SX.skip ?_ | refine SX.exit ?_ | refine SX.label ?_); try simp only [GA, ↓GB, GX, simprocAttr])
    | (refine SX.cond rfl (fun hb => ?_) (fun hb => ?_) <;> ((first | cases hb | (simp only [HBs] at hb) | skip) <;> (first | (exfalso; omega) | skip)))
    | (refine SX.ret ?_; try simp only [GA, ↓GB, GX, simprocAttr])
    | (refine hN _ ?_; clear hN N)
    | ((first | refine hK _ _ (FinI.ret3 ?_) | refine hK _ _ (FinI.nrm3 ?_)); simp only [GA, ↓GB, GX, simprocAttr, finP_s, hnt, hT]; refine Done.out ?_)
    | (clear hN N; first | (refine hN _ ?_; clear hN N) | (clear hN N; first | (refine hN _ ?_; clear hN N) | (clear hN N; first | (refine hN _ ?_; clear hN N) | (clear hN N; first | (refine hN _ ?_; clear hN N) | (clear hN N; first | (refine hN _ ?_; clear hN N) | (refine hN _ ?_; clear hN N))))))
    | (refine bif2.mk (fun hb => ?_) (fun hb => ?_) <;> (try simp only [hb, GA, ↓GB, GX, simprocAttr, hnt, hT]) <;> ((first | cases hb | (simp only [HBs] at hb) | skip) <;> (first | (exfalso; omega) | skip)))
    | ((first | (refine Ctr.use (hr) hP ?_ [0,1,2] ?_ rfl rfl ?_; (focus (intro p hp; cases hp)); (focus (refine LeR.of rfl trivial ?_ ?_ ?_ ?_ ?_ <;> first | decide | (simp only [GA, ↓GB, GX, simprocAttr, GDs]; done))); intro os' s hR; obtain ⟨rfl, rfl⟩ := hR)); simp only [GA, ↓GB, GX, simprocAttr, hnt, hT])
    | (refine SX.loopN 1 ?_)
    | (refine SXr.stepK ?_; intro N hN)
    | (refine SX.block ?_)
    | (refine and_mk ?_ ?_; (focus first | decide | omega | rfl | assumption | (simp only [List.length_append, List.length_cons, List.length_nil, B_size]; omega) | (simp; done)))
    | (refine And.intro ?_ ?_))
  all_goals (try refine Done.mk ?_)
  all_goals ((refine hN0 _ _ ⟨[0, 1, 2], _, _, ?_, ?_, ?_, ⟨rfl, rfl⟩⟩; (focus exact LeR.of rfl trivial (by simp only [GA, ↓GB, GX, simprocAttr, GDs]) (by decide) rfl rfl rfl); rotate_left; (focus rfl)); rfl)
end Go.Proofs.YtbdacbcpniegiaaDoor
namespace Go.Proofs.YtbdacbcpniegiaaDoor
open Go Go.RowKit Go.Proofs Go.Sx
set_option maxHeartbeats 32000000
set_option maxRecDepth 100000
set_option linter.unusedSimpArgs false
set_option linter.unusedVariables false
theorem putReq_yes (t : Nat) (dl : Bool) (q : Nat) (sb un : List (List UInt8)) (hv : List HvS) (d : List UInt8) (ht : t < 18446744073709551616) (hq : q < 18446744073709551616) (h1 : sb.length ≤ 1099511627776) (h2 : un.length ≤ 1099511627776) (h3 : hv.length ≤ 1048576)
    (b1 : ∀ s ∈ sb, s.length < 4294967296) (b2 : ∀ s ∈ un, s.length < 4294967296) (b3 : ∀ h ∈ hv, h.1.length < 100000000 ∧ h.2 < 18446744073709551616)
    (c1 : (textsB 4 sb).length ≤ 100000000000) (c2 : (textsB 5 un).length ≤ 100000000000) (c3 : (havesB hv).length ≤ 100000000000) (hd : d.length < 4294967296) (h : reqB t dl q sb un hv d = true) :
    Ctr Tryd.prog [] 40 [srow sb, srow un, hrow hv] [.one (.agg [.v (.int .i64 t), .v (.bool dl), .v (.int .u64 q), .row 0, .row 1, .row 2, .v (.string (B d))])] (fun os v => os = [srow sb, srow un, hrow hv] ∧ v = .tup [.c (.v (.string (B (reqBytes t dl q sb un hv d)))), .c (.v (.bool true))]) := by
  have hr := rightReq_ctr t dl q sb un hv d h1 h2 h3 (fun s hs => by have := b1 s hs; omega) (fun s hs => by have := b2 s hs; omega) (fun s hs => by
    obtain ⟨x, hx, rfl⟩ := List.mem_map.1 hs
    have := (b3 x hx).1; omega)
  rw [h] at hr
  have e1 := numZ_len 1 t (by decide) ht
  have e2 := flagZ_len 2 dl (by decide)
  have e3 := numZ_len 3 q (by decide) hq
  have hH : (reqHead t dl q sb un).length ≤ 200000000100 := by simp only [reqHead, List.length_cons, List.length_append]; omega
  have hw : IntKind.u64.wrap (t : Int) = t := wU64 (by omega) (by omega)
  have hx : ∀ i, i < hv.length → (hv.getD i default).1.length < 100000000 ∧ (hv.getD i default).2 < 18446744073709551616 := fun i hi => by
    rw [List.getD_eq_getElem?_getD, List.getElem?_eq_getElem hi]; exact b3 _ (List.getElem_mem hi)
  have hx1 : ∀ i, i < hv.length → (hv.getD i default).1.length < 4294967296 := fun i hi => by have := (hx i hi).1; omega
  have hxl : ∀ i, i < hv.length → (textB 1 (hv.getD i default).1).length ≤ 100000100 := fun i hi => by
    have := (hx i hi).1
    have l1 := NW.varint_len10 (n := 1 * 8 + 2) (by omega)
    have l2 := NW.varint_len10 (n := (hv.getD i default).1.length) (by omega)
    simp only [textB, List.length_append]; omega
  have hxh : ∀ i, i < hv.length → (haveB (hv.getD i default)).length ≤ 100000200 := fun i hi => by
    have := hxl i hi
    have l1 := numZ_len 2 (hv.getD i default).2 (by decide) (hx i hi).2
    simp only [haveB, List.length_append]; omega
  have hx0 : ∀ i, i < hv.length → 0 < (haveB (hv.getD i default)).length := fun i hi => by
    have : 0 < (textB 1 (hv.getD i default).1).length := by
      simp only [textB, List.length_append]
      have : 0 < (NW.varint (1 * 8 + 2)).length := by rw [NW.varint_lt (by decide)]; decide
      omega
    simp only [haveB, List.length_append]; omega
  have hxs : ∀ i, i < hv.length → (textB 1 (hv.getD i default).1 ++ numZ 2 (hv.getD i default).2).length ≤ 1152921504606 := fun i hi => by have : (haveB (hv.getD i default)).length ≤ _ := hxh i hi; unfold haveB at this; omega
  have hxt : ∀ i, i < hv.length → (textB 1 (hv.getD i default).1 ++ numZ 2 (hv.getD i default).2).length < 4294967296 := fun i hi => by have : (haveB (hv.getD i default)).length ≤ _ := hxh i hi; unfold haveB at this; omega
  have hc0 : (reqHead t dl q sb un ++ havesB hv).length ≤ 400000000000 := by rw [List.length_append]; omega
  have hd7 : (textB 7 d).length ≤ 4294967396 := by
    have l1 := NW.varint_len10 (n := 7 * 8 + 2) (by omega)
    have l2 := NW.varint_len10 (n := d.length) (by omega)
    simp only [textB, List.length_append]; omega
  have f1 : d = [] → reqHead t dl q sb un ++ havesB hv = reqBytes t dl q sb un hv d := fun e => by rw [reqBytes, if_pos e, List.append_nil]
  have f2 : ¬ d = [] → reqHead t dl q sb un ++ havesB hv ++ textB 7 d = reqBytes t dl q sb un hv d := fun e => by rw [reqBytes, if_neg e]
  have hc : ∀ i, (reqHead t dl q sb un ++ havesB (hv.take i)).length ≤ 400000000000 := fun i => by
    have := havesB_take hv i
    rw [List.length_append]; omega
  have hfold : 1 :: (numZ 1 t ++ flagZ 2 dl ++ numZ 3 q ++ textsB 4 sb ++ textsB 5 un) = reqHead t dl q sb un := rfl
  have hz : 0 < (reqHead t dl q sb un).length := by simp [reqHead]
  refine Ctr.less ?_
  intro X0 hP0 hG0 N0 hN0
  refine CallVC.inline (f := 40) (by rw [hP0]; exact Tryd.func40) rfl Tryd.ntmps40 rfl (by simp) ?_
  intro X K hU hnt hbl hK
  have hP : X.P = Tryd.prog := by rw [hU.P, hP0]
  have hG := hG0.under hU
  have hT : aggOf X.P 41 = some true ∧ szOf X.P 41 = some 7 ∧ calleeOk X.P 42 = true ∧ zeroCells X.P 123 = some [(Value.pointer none), (Value.slice none 0 0)] ∧ fieldOff X.P 123 0 = some 0 ∧ calleeOk X.P 65 = true ∧ fieldOff X.P 41 0 = some 0 ∧ aggOf X.P 3 = some false ∧ szOf X.P 3 = some 1 ∧ X.P.underlying 3 = some (TypeDesc.int IntKind.i64) ∧ X.P.underlying 22 = some (TypeDesc.int IntKind.u64) ∧ isBytesT X.P 3 = false ∧ isStrT X.P 22 = false ∧ calleeOk X.P 66 = true ∧ fieldOff X.P 41 1 = some 1 ∧ aggOf X.P 4 = some false ∧ szOf X.P 4 = some 1 ∧ calleeOk X.P 68 = true ∧ fieldOff X.P 41 2 = some 2 ∧ aggOf X.P 22 = some false ∧ szOf X.P 22 = some 1 ∧ fieldOff X.P 41 3 = some 3 ∧ aggOf X.P 38 = some false ∧ szOf X.P 38 = some 1 ∧ calleeOk X.P 67 = true ∧ fieldOff X.P 41 4 = some 4 ∧ fieldOff X.P 41 5 = some 5 ∧ aggOf X.P 39 = some false ∧ szOf X.P 39 = some 1 ∧ X.P.underlying 39 = some (TypeDesc.slice 87) ∧ elemSz X.P 39 = some (87, 2) ∧ aggOf X.P 87 = some true ∧ szOf X.P 87 = some 2 ∧ zeroCells X.P 87 = some [(Value.string { data := #[] }), (Value.int IntKind.u64 0)] ∧ fieldOff X.P 87 0 = some 0 ∧ aggOf X.P 9 = some false ∧ szOf X.P 9 = some 1 ∧ elemSz X.P 38 = some (9, 1) ∧ zeroCells X.P 9 = some [(Value.string { data := #[] })] ∧ fieldOff X.P 87 1 = some 1 ∧ calleeOk X.P 69 = true ∧ fieldOff X.P 41 6 = some 6 := by rw [hP]; exact ⟨Ty.ag41, Ty.sz41, Ty.co42, Ty.ze123, Ty.fo123_0, Ty.co65, Ty.fo41_0, Ty.ag3, Ty.sz3, Tryd.underlying3, Tryd.underlying22, Ty.ib3, Ty.is22, Ty.co66, Ty.fo41_1, Ty.ag4, Ty.sz4, Ty.co68, Ty.fo41_2, Ty.ag22, Ty.sz22, Ty.fo41_3, Ty.ag38, Ty.sz38, Ty.co67, Ty.fo41_4, Ty.fo41_5, Ty.ag39, Ty.sz39, Tryd.underlying39, Ty.el39, Ty.ag87, Ty.sz87, Ty.ze87, Ty.fo87_0, Ty.ag9, Ty.sz9, Ty.el38, Ty.ze9, Ty.fo87_1, Ty.co69, Ty.fo41_6⟩
  simp only [GA, ↓GB, GX, simprocAttr] at hbl ⊢
  repeat' (first
    | (refine SX.seqK ?_; intro N hN)
    | ((first | (refine SX.ops ?_)); simp only [GA, ↓GB, GX, simprocAttr, hnt, hT, hw])
    | ((first | refine SX.skip ?_ | refine SX.exit ?_ | refine SX.label ?_); try simp only [GA, ↓GB, GX, simprocAttr])
    | (refine SX.cond rfl (fun hb => ?_) (fun hb => ?_) <;> ((first | cases hb | (simp only [HBs] at hb) | skip) <;> (first | (exfalso; omega) | skip)))
    | (refine SX.ret ?_; try simp only [GA, ↓GB, GX, simprocAttr])
    | (refine hN _ ?_; clear hN N)
    | ((first | refine hK _ _ (FinI.ret3 ?_) | refine hK _ _ (FinI.nrm3 ?_)); simp only [GA, ↓GB, GX, simprocAttr, finP_s, hnt, hT, hw]; refine Done.out ?_)
    | (clear hN N; first | (refine hN _ ?_; clear hN N) | (clear hN N; first | (refine hN _ ?_; clear hN N) | (clear hN N; first | (refine hN _ ?_; clear hN N) | (clear hN N; first | (refine hN _ ?_; clear hN N) | (clear hN N; first | (refine hN _ ?_; clear hN N) | (refine hN _ ?_; clear hN N))))))
    | (refine bif2.mk (fun hb => ?_) (fun hb => ?_) <;> (try simp only [hb, GA, ↓GB, GX, simprocAttr, hnt, hT, hw]) <;> ((first | cases hb | (simp only [HBs] at hb) | skip) <;> (first | (exfalso; omega) | skip)))
    | ((first | (refine Ctr.use (hr) hP ?_ [0,1,2] ?_ rfl rfl ?_; (focus (intro p hp; cases hp)); (focus (refine LeR.of rfl trivial ?_ ?_ ?_ ?_ ?_ <;> first | decide | (simp only [GA, ↓GB, GX, simprocAttr, GDs]; done))); intro os' s hR; obtain ⟨rfl, rfl⟩ := hR) | (refine Ctr.use (writeByte_ctr 1) hP ?_ [4] ?_ rfl rfl ?_; (focus (intro p hp; cases hp)); (focus (refine LeR.of rfl trivial ?_ ?_ ?_ ?_ ?_ <;> first | decide | (simp only [GA, ↓GB, GX, simprocAttr, GDs]; done))); intro os' s hR; obtain ⟨rfl, rfl⟩ := hR) | (refine Ctr.use (wnumZ [1] 1 t (by decide) (by decide) ht (by decide)) hP ?_ [4,7] ?_ rfl rfl ?_; (focus (intro p hp; cases hp)); (focus (refine LeR.of rfl trivial ?_ ?_ ?_ ?_ ?_ <;> first | decide | (simp only [GA, ↓GB, GX, simprocAttr, GDs]; done))); intro os' s hR; obtain ⟨rfl, rfl⟩ := hR) | (refine Ctr.use (wflagZ (1 :: numZ 1 t) 2 dl (by decide) (by decide) (by simp; omega)) hP ?_ [4,8] ?_ rfl rfl ?_; (focus (intro p hp; cases hp)); (focus (refine LeR.of rfl trivial ?_ ?_ ?_ ?_ ?_ <;> first | decide | (simp only [GA, ↓GB, GX, simprocAttr, GDs]; done))); intro os' s hR; obtain ⟨rfl, rfl⟩ := hR) | (refine Ctr.use (wnumZ (1 :: (numZ 1 t ++ flagZ 2 dl)) 3 q (by decide) (by decide) hq (by simp; omega)) hP ?_ [4,9] ?_ rfl rfl ?_; (focus (intro p hp; cases hp)); (focus (refine LeR.of rfl trivial ?_ ?_ ?_ ?_ ?_ <;> first | decide | (simp only [GA, ↓GB, GX, simprocAttr, GDs]; done))); intro os' s hR; obtain ⟨rfl, rfl⟩ := hR) | (refine Ctr.use (wlist_ctr (1 :: (numZ 1 t ++ flagZ 2 dl ++ numZ 3 q)) sb 4 (by decide) (by decide) h1 b1 (by simp; omega)) hP ?_ [4,10,0] ?_ rfl rfl ?_; (focus (intro p hp; cases hp)); (focus (refine LeR.of rfl trivial ?_ ?_ ?_ ?_ ?_ <;> first | decide | (simp only [GA, ↓GB, GX, simprocAttr, GDs]; done))); intro os' s hR; obtain ⟨rfl, rfl⟩ := hR) | (refine Ctr.use (wlist_ctr (1 :: (numZ 1 t ++ flagZ 2 dl ++ numZ 3 q ++ textsB 4 sb)) un 5 (by decide) (by decide) h2 b2 (by simp; omega)) hP ?_ [4,11,1] ?_ rfl rfl ?_; (focus (intro p hp; cases hp)); (focus (refine LeR.of rfl trivial ?_ ?_ ?_ ?_ ?_ <;> first | decide | (simp only [GA, ↓GB, GX, simprocAttr, GDs]; done))); intro os' s hR; obtain ⟨rfl, rfl⟩ := hR) | (refine Ctr.use (wlist0 (hv.getD i default).1 1 (by decide) (by decide) (hx1 i hlt)) hP ?_ [7,8] ?_ rfl rfl ?_; (focus (intro p hp; cases hp)); (focus (refine LeR.of rfl trivial ?_ ?_ ?_ ?_ ?_ <;> first | decide | (simp only [GA, ↓GB, GX, simprocAttr, GDs]; done))); intro os' s hR; obtain ⟨rfl, rfl⟩ := hR) | (refine Ctr.use (wnumZ (textB 1 (hv.getD i default).1) 2 (hv.getD i default).2 (by decide) (by decide) (hx i hlt).2 (by have := hxl i hlt; omega)) hP ?_ [7,9] ?_ rfl rfl ?_; (focus (intro p hp; cases hp)); (focus (refine LeR.of rfl trivial ?_ ?_ ?_ ?_ ?_ <;> first | decide | (simp only [GA, ↓GB, GX, simprocAttr, GDs]; done))); intro os' s hR; obtain ⟨rfl, rfl⟩ := hR) | (refine Ctr.use (string_ctr (textB 1 (hv.getD i default).1 ++ numZ 2 (hv.getD i default).2) (hx0 i hlt) (hxs i hlt)) hP ?_ [7,10] ?_ rfl rfl ?_; (focus (intro p hp; cases hp)); (focus (refine LeR.of rfl trivial ?_ ?_ ?_ ?_ ?_ <;> first | decide | (simp only [GA, ↓GB, GX, simprocAttr, GDs]; done))); intro os' s hR; obtain ⟨rfl, rfl⟩ := hR) | (refine Ctr.use (wlist1_ctr (reqHead t dl q sb un ++ havesB (hv.take i)) (textB 1 (hv.getD i default).1 ++ numZ 2 (hv.getD i default).2) 6 (by decide) (by decide) (hxt i hlt) (by have := hc i; omega)) hP ?_ [4,5,11] ?_ rfl rfl ?_; (focus (intro p hp; cases hp)); (focus (refine LeR.of rfl trivial ?_ ?_ ?_ ?_ ?_ <;> first | decide | (simp only [GA, ↓GB, GX, simprocAttr, GDs]; done))); intro os' s hR; obtain ⟨rfl, rfl⟩ := hR) | (refine Ctr.use (wlist1_ctr (reqHead t dl q sb un ++ havesB hv) d 7 (by decide) (by decide) hd (by omega)) hP ?_ [4,5,6] ?_ rfl rfl ?_; (focus (intro p hp; cases hp)); (focus (refine LeR.of rfl trivial ?_ ?_ ?_ ?_ ?_ <;> first | decide | (simp only [GA, ↓GB, GX, simprocAttr, GDs]; done))); intro os' s hR; obtain ⟨rfl, rfl⟩ := hR) | (refine Ctr.use (string_ctr (reqHead t dl q sb un ++ havesB hv ++ textB 7 d) (by rw [List.length_append, List.length_append]; omega) (by rw [List.length_append]; omega)) hP ?_ [4,7] ?_ rfl rfl ?_; (focus (intro p hp; cases hp)); (focus (refine LeR.of rfl trivial ?_ ?_ ?_ ?_ ?_ <;> first | decide | (simp only [GA, ↓GB, GX, simprocAttr, GDs]; done))); intro os' s hR; obtain ⟨rfl, rfl⟩ := hR) | (refine Ctr.use (string_ctr (reqHead t dl q sb un ++ havesB hv) (by rw [List.length_append]; omega) (by omega)) hP ?_ [4,5] ?_ rfl rfl ?_; (focus (intro p hp; cases hp)); (focus (refine LeR.of rfl trivial ?_ ?_ ?_ ?_ ?_ <;> first | decide | (simp only [GA, ↓GB, GX, simprocAttr, GDs]; done))); intro os' s hR; obtain ⟨rfl, rfl⟩ := hR)); simp only [GA, ↓GB, GX, simprocAttr, hnt, hT, hw])
    | ((try rw [hfold]) <;> refine SX.loop (ι := { i : Nat // i ≤ hv.length }) (fun i => ⟨[(1, .one (.c (.loc 3 0))), (2, vv (.string (B []))), (3, vv (.bool false)), (4, .one (.c (.loc 4 0))), (30, .one (.c (.row 2))), (31, vv (.int .i64 hv.length)), (32, vv (.int .i64 i.1))], [srow sb, srow un, hrow hv, .cells [.v (.int .i64 t), .v (.bool dl), .v (.int .u64 q), .row 0, .row 1, .row 2, .v (.string (B d))] 41, .cells [.loc 4 0, .row 5] 123, .row 5 1 (reqHead t dl q sb un ++ havesB (hv.take i.1)).length (bcells (reqHead t dl q sb un ++ havesB (hv.take i.1)))]⟩) (fun i => hv.length - i.1) ⟨0, Nat.zero_le _⟩ ⟨[0, 1, 2, 3, 4, 12], by (refine LeR.of ?_ ?_ ?_ ?_ ?_ ?_ ?_ <;> first | (rw [hbl]; decide) | decide | (simp only [GA, ↓GB, GX, simprocAttr, GDs]; done) | (simp only [GA, ↓GB, GX, simprocAttr, GDs]; first | rfl | (rw [show reqHead t dl q sb un ++ havesB [] = reqHead t dl q sb un from List.append_nil _]; rfl); done))⟩ ?_ <;> rintro ⟨i, hi⟩ <;> simp only [] at hi ⊢ <;> rcases Nat.lt_or_eq_of_le hi with hlt | rfl <;> (try simp only [List.take_length]))
    | (refine ⟨_, rfl, hcells_at _ _ (by omega), ?_⟩ <;> (try simp only [GA, ↓GB, GX, simprocAttr, hnt, hT]))
    | (refine SX.block ?_)
    | (refine and_mk ?_ ?_; (focus first | decide | omega | rfl | assumption | (simp only [List.length_append, List.length_cons, List.length_nil, B_size]; omega) | (simp; done)))
    | (refine And.intro ?_ ?_))
  all_goals (try refine Done.mk ?_)
  · exact ⟨⟨i + 1, by omega⟩, [0, 1, 2, 3, 4, 12], by (refine LeR.of ?_ ?_ ?_ ?_ ?_ ?_ ?_ <;> first | (rw [hbl]; decide) | decide | (simp only [GA, ↓GB, GX, simprocAttr, GDs]; done) | (simp only [GA, ↓GB, GX, simprocAttr, GDs]; first | rfl | (rw [wI64 (by omega) (by omega)]; rfl) | (simp only [takeH_snoc hv i hlt, havesB_snoc, haveB, List.append_assoc]; done); done)), by show hv.length - (i + 1) < hv.length - i; omega⟩
  · rw [f2 (by simpa using hb)]
    (refine hN0 _ _ ⟨[0, 1, 2], _, _, ?_, ?_, ?_, ⟨rfl, rfl⟩⟩; (focus exact LeR.of rfl trivial (by simp only [GA, ↓GB, GX, simprocAttr, GDs]) (by decide) rfl rfl rfl); rotate_left; (focus rfl))
    rfl
  · rw [f1 (by simpa using hb)]
    (refine hN0 _ _ ⟨[0, 1, 2], _, _, ?_, ?_, ?_, ⟨rfl, rfl⟩⟩; (focus exact LeR.of rfl trivial (by simp only [GA, ↓GB, GX, simprocAttr, GDs]) (by decide) rfl rfl rfl); rotate_left; (focus rfl))
    rfl
end Go.Proofs.YtbdacbcpniegiaaDoor
namespace Go.Proofs.YtbdacbcpniegiaaDoor
open Go Go.RowKit Go.Proofs Go.Sx
set_option maxHeartbeats 4000000
set_option maxRecDepth 100000
set_option linter.unusedSimpArgs false
set_option linter.unusedVariables false
theorem starB_len {s : List UInt8} (h : starB s = true) : s.length ≤ 64 := by
  simp only [starB, Bool.or_eq_true, beq_iff_eq] at h
  rcases h with h | h
  · subst h; decide
  · exact nameB_len h
theorem textB_le (num : Nat) (s : List UInt8) (h : num < 536870912) (hs : s.length < 4294967296) : (textB num s).length ≤ s.length + 20 := by
  have l1 := NW.varint_len10 (n := num * 8 + 2) (by omega)
  have l2 := NW.varint_len10 (n := s.length) (by omega)
  simp only [textB, List.length_append]; omega
theorem textsB_le (num : Nat) (h : num < 536870912) : ∀ xs : List (List UInt8), (∀ s ∈ xs, s.length ≤ 64) → (textsB num xs).length ≤ xs.length * 84
  | [], _ => by simp [textsB]
  | s :: xs, hs => by
    have h1 := textB_le num s h (by have := hs s (by simp); omega)
    have h2 := textsB_le num h xs (fun x hx => hs x (by simp [hx]))
    have h3 := hs s (by simp)
    have e : textsB num (s :: xs) = textB num s ++ textsB num xs := rfl
    rw [e, List.length_append, List.length_cons]; omega
theorem havesB_le : ∀ hv : List HvS, (∀ h ∈ hv, h.1.length ≤ 64 ∧ h.2 < 18446744073709551616) → (havesB hv).length ≤ hv.length * 124
  | [], _ => by simp [havesB]
  | x :: hv, hs => by
    have h0 := hs x (by simp)
    have h1 := textB_le 1 x.1 (by decide) (by omega)
    have h4 := numZ_len 2 x.2 (by decide) h0.2
    have h5 : (haveB x).length ≤ 104 := by simp only [haveB, List.length_append]; omega
    have h6 := textB_le 6 (haveB x) (by decide) (by omega)
    have h2 := havesB_le hv (fun y hy => hs y (by simp [hy]))
    have e : havesB (x :: hv) = textB 6 (haveB x) ++ havesB hv := rfl
    rw [e, List.length_append, List.length_cons]; omega
theorem reqB_spec {t : Int} {dl : Bool} {q : Nat} {sb un : List (List UInt8)} {hv : List HvS} {d : List UInt8} (h : reqB t dl q sb un hv d = true) :
    1 ≤ t ∧ t ≤ 5 ∧ sb.length ≤ 64 ∧ (∀ s ∈ sb, s.length ≤ 64) ∧ un.length ≤ 64 ∧ (∀ s ∈ un, s.length ≤ 64) ∧ hv.length ≤ 64 ∧ (∀ x ∈ hv, x.1.length ≤ 64) ∧ d.length ≤ 256 := by
  simp only [reqB, Bool.and_eq_true, decide_eq_true_eq, List.all_eq_true, List.length_map] at h
  obtain ⟨⟨h1, h2⟩, ⟨h3, h4⟩, ⟨h5, h6⟩, ⟨h7, h8⟩, h9, _⟩ := h
  refine ⟨h1, h2, by omega, fun s hs => starB_len (h4 s hs), by omega, fun s hs => starB_len (h6 s hs), by omega, fun x hx => nameB_len (h8 _ (List.mem_map_of_mem hx)), by omega⟩
theorem putReq_ctr (t : Int) (dl : Bool) (q : Nat) (sb un : List (List UInt8)) (hv : List HvS) (d : List UInt8) (hq : q < 18446744073709551616) (h1 : sb.length ≤ 1099511627776) (h2 : un.length ≤ 1099511627776) (h3 : hv.length ≤ 1048576)
    (b1 : ∀ s ∈ sb, s.length ≤ 9223372036854775807) (b2 : ∀ s ∈ un, s.length ≤ 9223372036854775807) (b3 : ∀ x ∈ hv, x.1.length ≤ 9223372036854775807 ∧ x.2 < 18446744073709551616) :
    Ctr Tryd.prog [] 40 [srow sb, srow un, hrow hv] [.one (.agg [.v (.int .i64 t), .v (.bool dl), .v (.int .u64 q), .row 0, .row 1, .row 2, .v (.string (B d))])]
      (fun os v => os = [srow sb, srow un, hrow hv] ∧ v = .tup [.c (.v (.string (B (if reqB t dl q sb un hv d then reqBytes t.toNat dl q sb un hv d else [])))), .c (.v (.bool (reqB t dl q sb un hv d)))]) := by
  cases h : reqB t dl q sb un hv d with
  | false =>
    exact putReq_no t dl q sb un hv d h1 h2 h3 b1 b2 (fun s hs => by
      obtain ⟨x, hx, rfl⟩ := List.mem_map.1 hs
      exact (b3 x hx).1) h
  | true =>
    obtain ⟨g1, g2, g3, g4, g5, g6, g7, g8, g9⟩ := reqB_spec h
    obtain ⟨n, rfl⟩ : ∃ n : Nat, t = n := ⟨t.toNat, by omega⟩
    have c1 := textsB_le 4 (by decide) sb g4
    have c2 := textsB_le 5 (by decide) un g6
    have c3 := havesB_le hv (fun x hx => ⟨g8 x hx, (b3 x hx).2⟩)
    exact putReq_yes n dl q sb un hv d (by omega) hq h1 h2 h3 (fun s hs => by have := g4 s hs; omega) (fun s hs => by have := g6 s hs; omega) (fun x hx => ⟨by have := g8 x hx; omega, (b3 x hx).2⟩) (by omega) (by omega) (by omega) (by omega) h
end Go.Proofs.YtbdacbcpniegiaaDoor
namespace Go.Proofs.YtbdacbcpniegiaaDoor
open Go Go.RowKit Go.Proofs Go.Sx
set_option maxHeartbeats 4000000
set_option maxRecDepth 100000
set_option linter.unusedSimpArgs false
set_option linter.unusedVariables false
def hF (hv : List HvS) : List NW.Fld := hv.map fun h => ⟨6, 2, 0, haveB h⟩
end Go.Proofs.YtbdacbcpniegiaaDoor
namespace Go.Sx
open Go Go.RowKit Go.MapKept
set_option linter.unusedVariables false
set_option linter.unusedSimpArgs false
open Classical in
section
variable {X : Ctx} {c : Cfg} {N : Cfg → Prop} {ty : TypeId} {pos : String} {af : Array Edge} {g : Option (Nat × Bool)}
end
end Go.Sx
namespace Go.Proofs.YtbdacbcpniegiaaDoor
open Go Go.RowKit Go.Proofs Go.Sx
set_option maxHeartbeats 4000000
set_option maxRecDepth 100000
set_option linter.unusedSimpArgs false
set_option linter.unusedVariables false
structure Rs where
  t : Int
  s : List UInt8
  q : Nat
  g : Bool
  b : List UInt8
deriving Inhabited, DecidableEq
def rightB (r : Rs) : Bool := keyB r.t r.s && !(r.s == [42]) && decide ((r.b.length : Int) ≤ 1024) && !(r.g && !(r.b == [])) && decide (0 < (r.q : Int)) && decide ((r.q : Int) ≤ 4611686018427387904)
def Rs.cells (r : Rs) : List Value := [.int .i64 r.t, .string (B r.s), .int .u64 r.q, .bool r.g, .string (B r.b)]
theorem right_any (r : Rs) (hs : r.s.length ≤ 9223372036854775807) (w : World) :
    Calls Tryd.prog 51 #[.agg #[.int .i64 r.t, .string (B r.s), .int .u64 r.q, .bool r.g, .string (B r.b)]] w fun e w' => e = .returned (.bool (rightB r)) ∧ Below w.heap.size w w' := by
  refine calls_pureK (args := [.agg #[.int .i64 r.t, .string (B r.s), .int .u64 r.q, .bool r.g, .string (B r.b)]]) w Tryd.func51 rfl Tryd.ntmps51 (by simp) ?_
  intro X K hX hK
  have hnt : X.nt = 38 := by rw [hX]
  have hwi : X.wi = w := by rw [hX]
  have hP : X.P = Tryd.prog := by rw [hX]
  have hown : X.own = [] := by rw [hX]
  have hbl : X.base.length = 0 := by rw [hX]; rfl
  clear hX
  have hT : fieldOff X.P 89 0 = some 0 ∧ aggOf X.P 26 = some true ∧ szOf X.P 26 = some 2 ∧ calleeOk X.P 78 = true ∧ fieldOff X.P 26 1 = some 1 ∧ aggOf X.P 9 = some false ∧ szOf X.P 9 = some 1 ∧ fieldOff X.P 89 3 = some 4 ∧ X.P.underlying 9 = some TypeDesc.string ∧ fieldOff X.P 89 2 = some 3 ∧ aggOf X.P 4 = some false ∧ szOf X.P 4 = some 1 ∧ fieldOff X.P 89 1 = some 2 ∧ aggOf X.P 22 = some false ∧ szOf X.P 22 = some 1 := by rw [hP]; exact ⟨Ty.fo89_0, Ty.ag26, Ty.sz26, Ty.co78, Ty.fo26_1, Ty.ag9, Ty.sz9, Ty.fo89_3, Tryd.underlying9, Ty.fo89_2, Ty.ag4, Ty.sz4, Ty.fo89_1, Ty.ag22, Ty.sz22⟩
  repeat' (first
    | (refine SX.seqK ?_; intro N hN)
    | ((first | (refine SX.ops ?_)); simp only [GA, ↓GB, GX, simprocAttr, hnt, hT])
    | ((first | refine SX.skip ?_ | refine SX.exit ?_ | refine SX.label ?_); try simp only [GA, ↓GB, GX, simprocAttr])
    | (refine SX.cond rfl (fun hb => ?_) (fun hb => ?_) <;> ((first | cases hb | (simp only [HBs] at hb) | skip) <;> (first | (exfalso; omega) | skip)))
    | (refine SX.ret ?_; try simp only [GA, ↓GB, GX, simprocAttr])
    | (refine hN _ ?_; clear hN N)
    | (refine hK _ _ (Fin.res rfl hown ?_); simp only [GA, ↓GB, GX, simprocAttr, f_a, f_b, f_n, f_c, f_B, f_v, f_g, f_0, f_1, f_2, hT, hwi]; intro w' hbel; refine Done.out ?_)
    | (clear hN N; first | (refine hN _ ?_; clear hN N) | (clear hN N; first | (refine hN _ ?_; clear hN N) | (clear hN N; first | (refine hN _ ?_; clear hN N) | (clear hN N; first | (refine hN _ ?_; clear hN N) | (clear hN N; first | (refine hN _ ?_; clear hN N) | (refine hN _ ?_; clear hN N))))))
    | (refine bif2.mk (fun hb => ?_) (fun hb => ?_) <;> (try simp only [hb, GA, ↓GB, GX, simprocAttr, hnt, hT]) <;> ((first | cases hb | (simp only [HBs] at hb) | skip) <;> (first | (exfalso; omega) | skip)))
    | ((first | (refine CallVC.pv hP (key_any _ _ hs) rfl ?_) | (refine CallQ.pv hP (key_any _ _ hs) rfl ?_)); simp only [GA, ↓GB, GX, simprocAttr, hnt, hT])
    | (refine SX.block ?_)
    | (refine and_mk ?_ ?_; (focus first | decide | omega | rfl | assumption | (simp only [List.length_append, List.length_cons, List.length_nil, B_size]; omega) | (simp; done)))
    | (refine And.intro ?_ ?_))
  all_goals (try refine Done.mk ?_)
  all_goals (refine ⟨?_, hbel⟩; clear hK hT hP hnt hwi hown hbl; simp_all [rightB] <;> (intros; omega))
def resB (r : Rs) (t : Nat) : List UInt8 := numB 1 t ++ textB 2 r.s ++ numB 3 r.q ++ (if r.g then numB 4 1 else []) ++ (if r.b = [] then [] else textB 5 r.b)
end Go.Proofs.YtbdacbcpniegiaaDoor
namespace Go.Proofs.YtbdacbcpniegiaaDoor
open Go Go.RowKit Go.Proofs Go.Sx
set_option maxHeartbeats 4000000
set_option maxRecDepth 100000
set_option linter.unusedSimpArgs false
set_option linter.unusedVariables false
end Go.Proofs.YtbdacbcpniegiaaDoor
namespace Go.Proofs.YtbdacbcpniegiaaDoor
open Go Go.RowKit Go.Proofs Go.Sx
set_option maxHeartbeats 4000000
set_option maxRecDepth 100000
set_option linter.unusedSimpArgs false
set_option linter.unusedVariables false
structure Mk where
  t : Int
  s : List UInt8
  q : Int
  st : Int
  d : List UInt8
deriving DecidableEq, Inhabited
def Mk.cells (m : Mk) : List Value := [.int .i64 m.t, .string (B m.s), .int .u64 m.q, .int .i64 m.st, .string (B m.d)]
def mks (ms : List Mk) : List Value := ms.flatMap Mk.cells
theorem mks_cons (m : Mk) (ms : List Mk) : mks (m :: ms) = m.cells ++ mks ms := rfl
theorem mks_append (a b : List Mk) : mks (a ++ b) = mks a ++ mks b := by simp [mks]
theorem mks_drop : ∀ (i : Nat) (ms : List Mk), (mks ms).drop (i * 5) = mks (ms.drop i)
  | 0, ms => by simp
  | i + 1, [] => by simp [mks]
  | i + 1, m :: ms => by
    rw [mks_cons, show (i + 1) * 5 = m.cells.length + i * 5 by simp [Mk.cells]; omega, List.drop_append, Nat.add_sub_cancel_left, mks_drop i ms, List.drop_of_length_le (by omega)]
    rfl
theorem mks_at (ms : List Mk) (i : Nat) (h : i < ms.length) : ((mks ms).drop (i * 5)).take 5 = (ms.getD i default).cells := by
  rw [mks_drop, List.drop_eq_getElem_cons h, mks_cons, List.getD_eq_getElem?_getD, List.getElem?_eq_getElem h]
  simp [Mk.cells]
@[reducible] def mrow (ms : List Mk) : LO := .row 62 5 ms.length (mks ms)
def idxI (p : Mk → Bool) (ms : List Mk) : Int := match ms.findIdx? p with | some i => i | none => -1
theorem idxN (p : Mk → Bool) (ms : List Mk) (i : Nat) (hi : i < ms.length) (hp : p (ms.getD i default) = true) (hn : ∀ j, j < i → p (ms.getD j default) = false) : idxI p ms = i := by
  have : ms.findIdx? p = some i := by
    rw [List.findIdx?_eq_some_iff_getElem]
    refine ⟨hi, by simpa [List.getD_eq_getElem?_getD, List.getElem?_eq_getElem hi] using hp, fun j hj => ?_⟩
    have := hn j hj
    rw [List.getD_eq_getElem?_getD, List.getElem?_eq_getElem (by omega)] at this
    simpa using this
  simp [idxI, this]
theorem idxNone (p : Mk → Bool) (ms : List Mk) (hn : ∀ j, j < ms.length → p (ms.getD j default) = false) : idxI p ms = -1 := by
  have : ms.findIdx? p = none := by
    rw [List.findIdx?_eq_none_iff]
    intro x hx
    obtain ⟨j, hj, rfl⟩ := List.mem_iff_getElem.1 hx
    have := hn j hj
    rw [List.getD_eq_getElem?_getD, List.getElem?_eq_getElem hj] at this
    simpa using this
  simp [idxI, this]
end Go.Proofs.YtbdacbcpniegiaaDoor
namespace Go.Proofs.YtbdacbcpniegiaaDoor
open Go Go.RowKit Go.Proofs Go.Sx
set_option maxHeartbeats 4000000
set_option maxRecDepth 100000
set_option linter.unusedSimpArgs false
set_option linter.unusedVariables false
end Go.Proofs.YtbdacbcpniegiaaDoor
namespace Go.Proofs.YtbdacbcpniegiaaDoor
open Go Go.RowKit Go.Proofs Go.Sx
set_option maxHeartbeats 4000000
set_option maxRecDepth 100000
set_option linter.unusedSimpArgs false
set_option linter.unusedVariables false
end Go.Proofs.YtbdacbcpniegiaaDoor
namespace Go.Proofs.YtbdacbcpniegiaaDoor
open Go Go.RowKit Go.Proofs Go.Sx
set_option maxHeartbeats 4000000
set_option maxRecDepth 100000
set_option linter.unusedSimpArgs false
set_option linter.unusedVariables false
end Go.Proofs.YtbdacbcpniegiaaDoor
namespace Go.Proofs.YtbdacbcpniegiaaDoor
open Go Go.RowKit Go.Proofs Go.Sx
set_option maxHeartbeats 4000000
set_option maxRecDepth 100000
set_option linter.unusedSimpArgs false
set_option linter.unusedVariables false
end Go.Proofs.YtbdacbcpniegiaaDoor
namespace Go.Proofs.YtbdacbcpniegiaaDoor.Q
open Go Go.RowKit Go.Proofs Go.Sx
set_option maxHeartbeats 4000000
set_option maxRecDepth 100000
set_option linter.unusedSimpArgs false
set_option linter.unusedVariables false
def isK (b : Int) (t : List UInt8) (m : Rs) : Bool := m.t == b && m.s == t
def isO (x m : Rs) : Bool := decide (0 < cmpKey m.t m.s x.t x.s)
end Go.Proofs.YtbdacbcpniegiaaDoor.Q
namespace Go.Proofs.YtbdacbcpniegiaaDoor.Q
open Go Go.RowKit Go.Proofs Go.Sx
set_option maxHeartbeats 4000000
set_option maxRecDepth 100000
set_option linter.unusedSimpArgs false
set_option linter.unusedVariables false
def mks (ms : List Rs) : List Value := ms.flatMap Rs.cells
theorem mks_cons (m : Rs) (ms : List Rs) : mks (m :: ms) = m.cells ++ mks ms := rfl
theorem mks_append (a b : List Rs) : mks (a ++ b) = mks a ++ mks b := by simp [mks]
theorem mks_drop : ∀ (i : Nat) (ms : List Rs), (mks ms).drop (i * 5) = mks (ms.drop i)
  | 0, ms => by simp
  | i + 1, [] => by simp [mks]
  | i + 1, m :: ms => by
    rw [mks_cons, show (i + 1) * 5 = m.cells.length + i * 5 by simp [Rs.cells]; omega, List.drop_append, Nat.add_sub_cancel_left, mks_drop i ms, List.drop_of_length_le (by omega)]
    rfl
theorem mks_at (ms : List Rs) (i : Nat) (h : i < ms.length) : ((mks ms).drop (i * 5)).take 5 = (ms.getD i default).cells := by
  rw [mks_drop, List.drop_eq_getElem_cons h, mks_cons, List.getD_eq_getElem?_getD, List.getElem?_eq_getElem h]
  simp [Rs.cells]
@[reducible] def mrow (ms : List Rs) : LO := .row 89 5 ms.length (mks ms)
def idxI (p : Rs → Bool) (ms : List Rs) : Int := match ms.findIdx? p with | some i => i | none => -1
theorem idxN (p : Rs → Bool) (ms : List Rs) (i : Nat) (hi : i < ms.length) (hp : p (ms.getD i default) = true) (hn : ∀ j, j < i → p (ms.getD j default) = false) : idxI p ms = i := by
  have : ms.findIdx? p = some i := by
    rw [List.findIdx?_eq_some_iff_getElem]
    refine ⟨hi, by simpa [List.getD_eq_getElem?_getD, List.getElem?_eq_getElem hi] using hp, fun j hj => ?_⟩
    have := hn j hj
    rw [List.getD_eq_getElem?_getD, List.getElem?_eq_getElem (by omega)] at this
    simpa using this
  simp [idxI, this]
theorem idxNone (p : Rs → Bool) (ms : List Rs) (hn : ∀ j, j < ms.length → p (ms.getD j default) = false) : idxI p ms = -1 := by
  have : ms.findIdx? p = none := by
    rw [List.findIdx?_eq_none_iff]
    intro x hx
    obtain ⟨j, hj, rfl⟩ := List.mem_iff_getElem.1 hx
    have := hn j hj
    rw [List.getD_eq_getElem?_getD, List.getElem?_eq_getElem hj] at this
    simpa using this
  simp [idxI, this]
end Go.Proofs.YtbdacbcpniegiaaDoor.Q
namespace Go.Proofs.YtbdacbcpniegiaaDoor.Q
open Go Go.RowKit Go.Proofs Go.Sx
set_option maxHeartbeats 8000000
set_option maxRecDepth 100000
set_option linter.unusedSimpArgs false
set_option linter.unusedVariables false
def wrongB (t : Int) (r : Rs) : Bool := !rightB r || (r.t != t || r.g)
theorem wrong1_ctr (r : Rs) (hs : r.s.length ≤ 9223372036854775807) (t : Int) (dl mo : Bool) (q v : Nat) (rs : List Rs) (rm : List (List UInt8)) :
    Ctr Tryd.prog [] 102 [.cells [.v (.int .i64 t), .v (.bool dl), .v (.bool mo), .v (.int .u64 q), .v (.int .u64 v), .row 1, .row 2] 81, mrow rs, srow rm] [.one (.agg [.v (.int .i64 r.t), .v (.string (B r.s)), .v (.int .u64 r.q), .v (.bool r.g), .v (.string (B r.b))]), .one (.c (.loc 0 0))]
      (fun os u => os = [.cells [.v (.int .i64 t), .v (.bool dl), .v (.bool mo), .v (.int .u64 q), .v (.int .u64 v), .row 1, .row 2] 81, mrow rs, srow rm] ∧ u = vv (.bool (wrongB t r))) := by
  have hr := right_any r hs
  refine Ctr.less ?_
  intro X0 hP0 hG0 N0 hN0
  refine CallVC.inline (f := 102) (by rw [hP0]; exact Tryd.func102) rfl Tryd.ntmps102 rfl (by simp) ?_
  intro X K hU hnt hbl hK
  have hP : X.P = Tryd.prog := by rw [hU.P, hP0]
  have hG := hG0.under hU
  have hT : aggOf X.P 89 = some true ∧ szOf X.P 89 = some 5 ∧ calleeOk X.P 51 = true ∧ fieldOff X.P 89 0 = some 0 ∧ fieldOff X.P 26 0 = some 0 ∧ aggOf X.P 3 = some false ∧ szOf X.P 3 = some 1 ∧ fieldOff X.P 81 0 = some 0 ∧ fieldOff X.P 89 2 = some 3 ∧ aggOf X.P 4 = some false ∧ szOf X.P 4 = some 1 := by rw [hP]; exact ⟨Ty.ag89, Ty.sz89, Ty.co51, Ty.fo89_0, Ty.fo26_0, Ty.ag3, Ty.sz3, Ty.fo81_0, Ty.fo89_2, Ty.ag4, Ty.sz4⟩
  simp only [GA, ↓GB, GX, simprocAttr] at hbl ⊢
  have key : ∀ (b : Bool) (os' : List LO), wrongB t r = b → LeR 3 [0, 1, 2] ⟨[], [.cells [.v (.int .i64 t), .v (.bool dl), .v (.bool mo), .v (.int .u64 q), .v (.int .u64 v), .row 1, .row 2] 81, mrow rs, srow rm]⟩ ⟨[], os'⟩ → N0 ⟨[], os'⟩ (vv (.bool b)) := fun b os' h hl => by
    subst h
    exact hN0 _ _ ⟨[0, 1, 2], _, _, hl, rfl, rfl, rfl, rfl⟩
  repeat' (first
    | (refine SX.seqK ?_; intro N hN)
    | ((first | (refine SX.ops ?_)); simp only [GA, ↓GB, GX, simprocAttr, hnt, hT])
    | ((first | refine SX.skip ?_ | refine SX.exit ?_ | refine SX.label ?_); try simp only [GA, ↓GB, GX, simprocAttr])
    | (refine SX.cond rfl (fun hb => ?_) (fun hb => ?_) <;> ((first | cases hb | (simp only [HBs] at hb) | skip) <;> (first | (exfalso; omega) | skip)))
    | (refine SX.ret ?_; try simp only [GA, ↓GB, GX, simprocAttr])
    | (refine hN _ ?_; clear hN N)
    | ((first | refine hK _ _ (FinI.ret3 ?_) | refine hK _ _ (FinI.nrm3 ?_)); simp only [GA, ↓GB, GX, simprocAttr, finP_s, hnt, hT]; refine Done.out ?_)
    | (clear hN N; first | (refine hN _ ?_; clear hN N) | (clear hN N; first | (refine hN _ ?_; clear hN N) | (clear hN N; first | (refine hN _ ?_; clear hN N) | (clear hN N; first | (refine hN _ ?_; clear hN N) | (clear hN N; first | (refine hN _ ?_; clear hN N) | (refine hN _ ?_; clear hN N))))))
    | (refine bif2.mk (fun hb => ?_) (fun hb => ?_) <;> (try simp only [hb, GA, ↓GB, GX, simprocAttr, hnt, hT]) <;> ((first | cases hb | (simp only [HBs] at hb) | skip) <;> (first | (exfalso; omega) | skip)))
    | ((first | (refine CallVC.pv hP (hr) rfl ?_) | (refine CallQ.pv hP (hr) rfl ?_)); simp only [GA, ↓GB, GX, simprocAttr, hnt, hT])
    | (refine SX.block ?_)
    | (refine and_mk ?_ ?_; (focus first | decide | omega | rfl | assumption | (simp only [List.length_append, List.length_cons, List.length_nil, B_size]; omega) | (simp; done)))
    | (refine And.intro ?_ ?_))
  all_goals (try refine Done.mk ?_)
  all_goals
    refine key _ _ ?_ ?_
    · clear hK hT hP hnt hN0 hG hG0 hbl key hP0 hr
      simp only [wrongB]
      generalize rightB r = A at *
      cases A <;> simp_all
    · exact LeR.of rfl trivial (by simp only [GA, ↓GB, GX, simprocAttr, GDs]) (by decide) rfl rfl rfl
end Go.Proofs.YtbdacbcpniegiaaDoor.Q
namespace Go.Proofs.YtbdacbcpniegiaaDoor.Q
open Go Go.RowKit Go.Proofs Go.Sx
set_option maxHeartbeats 16000000
set_option maxRecDepth 100000
set_option linter.unusedSimpArgs false
set_option linter.unusedVariables false
theorem indexFuncW (t : Int) (dl mo : Bool) (q v : Nat) (rs : List Rs) (rm : List (List UInt8)) (hms : rs.length ≤ 1099511627776) (hs : ∀ r ∈ rs, r.s.length ≤ 9223372036854775807) :
    Ctr Tryd.prog [] 112 [.cells [.v (.int .i64 t), .v (.bool dl), .v (.bool mo), .v (.int .u64 q), .v (.int .u64 v), .row 1, .row 2] 81, mrow rs, srow rm] [.one (.c (.row 1)), .one (.c (.clo 102 [] [.loc 0 0]))]
    (fun os u => os = [.cells [.v (.int .i64 t), .v (.bool dl), .v (.bool mo), .v (.int .u64 q), .v (.int .u64 v), .row 1, .row 2] 81, mrow rs, srow rm] ∧ u = vv (.int .i64 (idxI (wrongB t) rs))) := by
  have hrun : ∀ i, i < rs.length → Ctr Tryd.prog [] 102 [.cells [.v (.int .i64 t), .v (.bool dl), .v (.bool mo), .v (.int .u64 q), .v (.int .u64 v), .row 1, .row 2] 81, mrow rs, srow rm] [.one (.agg [.v (.int .i64 (rs.getD i default).t), .v (.string (B (rs.getD i default).s)), .v (.int .u64 (rs.getD i default).q), .v (.bool (rs.getD i default).g), .v (.string (B (rs.getD i default).b))]), .one (.c (.loc 0 0))]
    (fun os u => os = [.cells [.v (.int .i64 t), .v (.bool dl), .v (.bool mo), .v (.int .u64 q), .v (.int .u64 v), .row 1, .row 2] 81, mrow rs, srow rm] ∧ u = vv (.bool (wrongB t (rs.getD i default)))) := fun i hi =>
    wrong1_ctr (rs.getD i default) (by rw [List.getD_eq_getElem?_getD, List.getElem?_eq_getElem hi]; exact hs _ (List.getElem_mem hi)) t dl mo q v rs rm
  intro X0 hP0 hG0 N0 hN0
  refine CallVC.inline (f := 112) (by rw [hP0]; exact Tryd.func112) rfl Tryd.ntmps112 rfl (by simp) ?_
  intro X K hU hnt hbl hK
  have hP : X.P = Tryd.prog := by rw [hU.P, hP0]
  have hG := hG0.under hU
  have hT : X.P.underlying 79 = some (TypeDesc.slice 89) ∧ elemSz X.P 79 = some (89, 5) ∧ aggOf X.P 89 = some true ∧ szOf X.P 89 = some 5 := by rw [hP]; exact ⟨Tryd.underlying79, Ty.el79, Ty.ag89, Ty.sz89⟩
  simp only [GA, ↓GB, GX, simprocAttr] at hbl ⊢
  have hc : calleeOk X.P 102 = true := by rw [hP]; kernel_rfl
  repeat' (first
    | (refine SX.seqK ?_; intro N hN)
    | ((first | (refine SX.ops ?_)); simp only [GA, ↓GB, GX, simprocAttr, hnt, hT, hc])
    | ((first | refine SX.skip ?_ | refine SX.exit ?_ | refine SX.label ?_); try simp only [GA, ↓GB, GX, simprocAttr])
    | (refine SX.cond rfl (fun hb => ?_) (fun hb => ?_) <;> ((first | cases hb | (simp only [HBs] at hb) | skip) <;> (first | (exfalso; omega) | skip)))
    | (refine SX.ret ?_; try simp only [GA, ↓GB, GX, simprocAttr])
    | (refine hN _ ?_; clear hN N)
    | ((first | refine hK _ _ (FinI.ret3 ?_) | refine hK _ _ (FinI.nrm3 ?_)); simp only [GA, ↓GB, GX, simprocAttr, finP_s, hnt, hT, hc]; refine Done.out ?_)
    | (clear hN N; first | (refine hN _ ?_; clear hN N) | (clear hN N; first | (refine hN _ ?_; clear hN N) | (clear hN N; first | (refine hN _ ?_; clear hN N) | (clear hN N; first | (refine hN _ ?_; clear hN N) | (clear hN N; first | (refine hN _ ?_; clear hN N) | (refine hN _ ?_; clear hN N))))))
    | (refine bif2.mk (fun hb => ?_) (fun hb => ?_) <;> (try simp only [hb, GA, ↓GB, GX, simprocAttr, hnt, hT, hc]) <;> ((first | cases hb | (simp only [HBs] at hb) | skip) <;> (first | (exfalso; omega) | skip)))
    | ((first | (refine Ctr.use (hrun i (by omega)) hP ?_ [0,1,2] ?_ rfl rfl ?_; (focus (intro p hp; cases hp)); (focus (refine LeR.of rfl trivial ?_ ?_ ?_ ?_ ?_ <;> first | decide | (simp only [GA, ↓GB, GX, simprocAttr, GDs]; done))); intro os' s hR; obtain ⟨rfl, rfl⟩ := hR)); simp only [GA, ↓GB, GX, simprocAttr, hnt, hT, hc])
    | (refine SX.loop (ι := { i : Nat // i ≤ rs.length ∧ ∀ j, j < i → (wrongB t) (rs.getD j default) = false }) (fun i => ⟨[(0, .one (.c (.row 1))), (1, .one (.c (.clo 102 [] [.loc 0 0]))), (7, vv (.int .i64 rs.length)), (8, vv (.int .i64 i.1))], [.cells [.v (.int .i64 t), .v (.bool dl), .v (.bool mo), .v (.int .u64 q), .v (.int .u64 v), .row 1, .row 2] 81, mrow rs, srow rm]⟩) (fun i => rs.length - i.1) ⟨0, by omega, fun j hj => absurd hj (Nat.not_lt_zero j)⟩ ⟨[0, 1, 2], (LeR.of (by rw [hbl]; decide) (by simp only [GA, ↓GB, GX, simprocAttr, GDs]) (by simp only [GA, ↓GB, GX, simprocAttr, GDs]) (by decide) (by simp only [GA, ↓GB, GX, simprocAttr, GDs]) (by simp only [GA, ↓GB, GX, simprocAttr, GDs]) (by simp only [GA, ↓GB, GX, simprocAttr, GDs]))⟩ ?_ <;> rintro ⟨i, hi, hno⟩ <;> simp only [] at hi hno ⊢)
    | (refine ⟨(rs.getD i default).cells, rfl, mks_at _ _ (by omega), ?_⟩ <;> simp only [Rs.cells, GA, ↓GB, GX, simprocAttr, hnt, hT])
    | (refine SX.block ?_)
    | (refine and_mk ?_ ?_; (focus first | decide | omega | rfl | assumption | (simp only [List.length_append, List.length_cons, List.length_nil, B_size]; omega) | (simp; done)))
    | (refine And.intro ?_ ?_))
  all_goals (try refine Done.mk ?_)
  · exact hN0 _ _ ⟨rfl, by rw [idxN _ _ i (by omega) hb hno]; rfl⟩
  · refine ⟨⟨i + 1, by omega, fun j hj => ?_⟩, [0, 1, 2], (LeR.of (by rw [hbl]; decide) (by simp only [GA, ↓GB, GX, simprocAttr, GDs]; try (rw [wI64 (by omega) (by omega)]; simp)) (by simp only [GA, ↓GB, GX, simprocAttr, GDs]; try (rw [wI64 (by omega) (by omega)]; simp)) (by decide) (by simp only [GA, ↓GB, GX, simprocAttr, GDs]) (by simp only [GA, ↓GB, GX, simprocAttr, GDs]) (by simp only [GA, ↓GB, GX, simprocAttr, GDs])), by show rs.length - (i + 1) < rs.length - i; omega⟩
    rcases Nat.lt_or_eq_of_le (Nat.le_of_lt_succ hj) with h | h
    · exact hno j h
    · rw [h]; exact hb
  · exact hN0 _ _ ⟨rfl, by rw [idxNone _ _ (fun j hj => hno j (by omega))]; rfl⟩
end Go.Proofs.YtbdacbcpniegiaaDoor.Q
namespace Go.Proofs.YtbdacbcpniegiaaDoor.Q
open Go Go.RowKit Go.Proofs Go.Sx
set_option maxHeartbeats 8000000
set_option maxRecDepth 100000
set_option linter.unusedSimpArgs false
set_option linter.unusedVariables false
theorem containsW (t : Int) (dl mo : Bool) (q v : Nat) (rs : List Rs) (rm : List (List UInt8)) (hms : rs.length ≤ 1099511627776) (hs : ∀ r ∈ rs, r.s.length ≤ 9223372036854775807) :
    Ctr Tryd.prog [] 103 [.cells [.v (.int .i64 t), .v (.bool dl), .v (.bool mo), .v (.int .u64 q), .v (.int .u64 v), .row 1, .row 2] 81, mrow rs, srow rm] [.one (.c (.row 1)), .one (.c (.clo 102 [] [.loc 0 0]))]
    (fun os u => os = [.cells [.v (.int .i64 t), .v (.bool dl), .v (.bool mo), .v (.int .u64 q), .v (.int .u64 v), .row 1, .row 2] 81, mrow rs, srow rm] ∧ u = vv (.bool (decide (0 ≤ idxI (wrongB t) rs)))) := by
  intro X0 hP0 hG0 N0 hN0
  refine CallVC.inline (f := 103) (by rw [hP0]; exact Tryd.func103) rfl Tryd.ntmps103 rfl (by simp) ?_
  intro X K hU hnt hbl hK
  have hP : X.P = Tryd.prog := by rw [hU.P, hP0]
  have hG := hG0.under hU
  have hT : calleeOk X.P 112 = true := by rw [hP]; exact Ty.co112
  simp only [GA, ↓GB, GX, simprocAttr] at hbl ⊢
  repeat' (first
    | (refine SX.seqK ?_; intro N hN)
    | ((first | (refine SX.ops ?_)); simp only [GA, ↓GB, GX, simprocAttr, hnt, hT])
    | ((first | refine SX.skip ?_ | refine SX.exit ?_ | refine SX.label ?_); try simp only [GA, ↓GB, GX, simprocAttr])
    | (refine SX.cond rfl (fun hb => ?_) (fun hb => ?_) <;> ((first | cases hb | (simp only [HBs] at hb) | skip) <;> (first | (exfalso; omega) | skip)))
    | (refine SX.ret ?_; try simp only [GA, ↓GB, GX, simprocAttr])
    | (refine hN _ ?_; clear hN N)
    | ((first | refine hK _ _ (FinI.ret3 ?_) | refine hK _ _ (FinI.nrm3 ?_)); simp only [GA, ↓GB, GX, simprocAttr, finP_s, hnt, hT]; refine Done.out ?_)
    | (clear hN N; first | (refine hN _ ?_; clear hN N) | (clear hN N; first | (refine hN _ ?_; clear hN N) | (clear hN N; first | (refine hN _ ?_; clear hN N) | (clear hN N; first | (refine hN _ ?_; clear hN N) | (clear hN N; first | (refine hN _ ?_; clear hN N) | (refine hN _ ?_; clear hN N))))))
    | (refine bif2.mk (fun hb => ?_) (fun hb => ?_) <;> (try simp only [hb, GA, ↓GB, GX, simprocAttr, hnt, hT]) <;> ((first | cases hb | (simp only [HBs] at hb) | skip) <;> (first | (exfalso; omega) | skip)))
    | ((first | (refine Ctr.use (indexFuncW t dl mo q v rs rm hms hs) hP ?_ [0,1,2] ?_ rfl rfl ?_; (focus (intro p hp; cases hp)); (focus (refine LeR.of rfl trivial ?_ ?_ ?_ ?_ ?_ <;> first | decide | (simp only [GA, ↓GB, GX, simprocAttr, GDs]; done))); intro os' s hR; obtain ⟨rfl, rfl⟩ := hR)); simp only [GA, ↓GB, GX, simprocAttr, hnt, hT])
    | (refine SX.block ?_)
    | (refine and_mk ?_ ?_; (focus first | decide | omega | rfl | assumption | (simp only [List.length_append, List.length_cons, List.length_nil, B_size]; omega) | (simp; done)))
    | (refine And.intro ?_ ?_))
  all_goals (try refine Done.mk ?_)
  all_goals exact hN0 _ _ ⟨rfl, rfl⟩
end Go.Proofs.YtbdacbcpniegiaaDoor.Q
namespace Go.Proofs.YtbdacbcpniegiaaDoor.Q
open Go Go.RowKit Go.Proofs Go.Sx
set_option maxHeartbeats 16000000
set_option maxRecDepth 100000
set_option linter.unusedSimpArgs false
set_option linter.unusedVariables false
def respB (t : Int) (dl mo : Bool) (q : Nat) (rs : List Rs) (rm : List (List UInt8)) : Bool :=
  (decide (1 ≤ t) && decide (t ≤ 5)) && (decide (0 < (q : Int)) && (decide ((rs.length : Int) ≤ 64) && (!decide (0 ≤ idxI (wrongB t) rs) && ((decide ((rm.length : Int) ≤ 64) && rm.all nameB) && (dl || (((rm.length : Int) == 0) && !mo))))))
theorem rightResp_ctr (t : Int) (dl mo : Bool) (q v : Nat) (rs : List Rs) (rm : List (List UInt8)) (hms : rs.length ≤ 1099511627776) (hs : ∀ r ∈ rs, r.s.length ≤ 9223372036854775807) (h2 : rm.length ≤ 1099511627776) (b2 : ∀ s ∈ rm, s.length ≤ 9223372036854775807) :
    Ctr Tryd.prog [] 43 [mrow rs, srow rm] [.one (.agg [.v (.int .i64 t), .v (.bool dl), .v (.bool mo), .v (.int .u64 q), .v (.int .u64 v), .row 0, .row 1])] (fun os u => os = [mrow rs, srow rm] ∧ u = vv (.bool (respB t dl mo q rs rm))) := by
  have n3 := namedName rm h2 b2
  have hc := containsW t dl mo q v rs rm hms hs
  refine Ctr.less ?_
  intro X0 hP0 hG0 N0 hN0
  refine CallVC.inline (f := 43) (by rw [hP0]; exact Tryd.func43) rfl Tryd.ntmps43 rfl (by simp) ?_
  intro X K hU hnt hbl hK
  have hP : X.P = Tryd.prog := by rw [hU.P, hP0]
  have hG := hG0.under hU
  have hT : calleeOk X.P 102 = true ∧ fieldOff X.P 81 0 = some 0 ∧ aggOf X.P 3 = some false ∧ szOf X.P 3 = some 1 ∧ calleeOk X.P 98 = true ∧ fieldOff X.P 81 3 = some 3 ∧ aggOf X.P 22 = some false ∧ szOf X.P 22 = some 1 ∧ fieldOff X.P 81 5 = some 5 ∧ aggOf X.P 79 = some false ∧ szOf X.P 79 = some 1 ∧ X.P.underlying 79 = some (TypeDesc.slice 89) ∧ calleeOk X.P 103 = true ∧ fieldOff X.P 81 6 = some 6 ∧ aggOf X.P 38 = some false ∧ szOf X.P 38 = some 1 ∧ calleeOk X.P 99 = true ∧ fieldOff X.P 81 1 = some 1 ∧ aggOf X.P 4 = some false ∧ szOf X.P 4 = some 1 ∧ X.P.underlying 38 = some (TypeDesc.slice 9) ∧ fieldOff X.P 81 2 = some 2 := by rw [hP]; exact ⟨Ty.co102, Ty.fo81_0, Ty.ag3, Ty.sz3, Ty.co98, Ty.fo81_3, Ty.ag22, Ty.sz22, Ty.fo81_5, Ty.ag79, Ty.sz79, Tryd.underlying79, Ty.co103, Ty.fo81_6, Ty.ag38, Ty.sz38, Ty.co99, Ty.fo81_1, Ty.ag4, Ty.sz4, Tryd.underlying38, Ty.fo81_2⟩
  simp only [GA, ↓GB, GX, simprocAttr] at hbl ⊢
  have key : ∀ (b : Bool) (os' : List LO), respB t dl mo q rs rm = b → LeR 2 [0, 1] ⟨[], [mrow rs, srow rm]⟩ ⟨[], os'⟩ → N0 ⟨[], os'⟩ (vv (.bool b)) := fun b os' h hl => by
    subst h
    exact hN0 _ _ ⟨[0, 1], _, _, hl, rfl, rfl, rfl, rfl⟩
  repeat' (first
    | (refine SX.seqK ?_; intro N hN)
    | ((first | (refine SX.ops ?_)); simp only [GA, ↓GB, GX, simprocAttr, hnt, hT])
    | ((first | refine SX.skip ?_ | refine SX.exit ?_ | refine SX.label ?_); try simp only [GA, ↓GB, GX, simprocAttr])
    | (refine SX.cond rfl (fun hb => ?_) (fun hb => ?_) <;> ((first | cases hb | (simp only [HBs] at hb) | skip) <;> (first | (exfalso; omega) | skip)))
    | (refine SX.ret ?_; try simp only [GA, ↓GB, GX, simprocAttr])
    | (refine hN _ ?_; clear hN N)
    | ((first | refine hK _ _ (FinI.ret3 ?_) | refine hK _ _ (FinI.nrm3 ?_)); simp only [GA, ↓GB, GX, simprocAttr, finP_s, hnt, hT]; refine Done.out ?_)
    | (clear hN N; first | (refine hN _ ?_; clear hN N) | (clear hN N; first | (refine hN _ ?_; clear hN N) | (clear hN N; first | (refine hN _ ?_; clear hN N) | (clear hN N; first | (refine hN _ ?_; clear hN N) | (clear hN N; first | (refine hN _ ?_; clear hN N) | (refine hN _ ?_; clear hN N))))))
    | (refine bif2.mk (fun hb => ?_) (fun hb => ?_) <;> (try simp only [hb, GA, ↓GB, GX, simprocAttr, hnt, hT]) <;> ((first | cases hb | (simp only [HBs] at hb) | skip) <;> (first | (exfalso; omega) | skip)))
    | ((first | (refine CallVC.pv hP (typed_any t) rfl ?_) | (refine CallQ.pv hP (typed_any t) rfl ?_) | (refine Ctr.use (n3) hP ?_ [1] ?_ rfl rfl ?_; (focus (intro p hp; cases hp)); (focus (refine LeR.of rfl trivial ?_ ?_ ?_ ?_ ?_ <;> first | decide | (simp only [GA, ↓GB, GX, simprocAttr, GDs]; done))); intro os' s hR; obtain ⟨rfl, rfl⟩ := hR) | (refine Ctr.use (hc) hP ?_ [2,0,1] ?_ rfl rfl ?_; (focus (intro p hp; cases hp)); (focus (refine LeR.of rfl trivial ?_ ?_ ?_ ?_ ?_ <;> first | decide | (simp only [GA, ↓GB, GX, simprocAttr, GDs]; done))); intro os' s hR; obtain ⟨rfl, rfl⟩ := hR)); simp only [GA, ↓GB, GX, simprocAttr, hnt, hT])
    | (refine SX.block ?_)
    | (refine and_mk ?_ ?_; (focus first | decide | omega | rfl | assumption | (simp only [List.length_append, List.length_cons, List.length_nil, B_size]; omega) | (simp; done)))
    | (refine And.intro ?_ ?_))
  all_goals (try refine Done.mk ?_)
  all_goals
    refine key _ _ ?_ ?_
    · clear hK hT hP hnt hN0 hG hG0 hbl n3 key hP0 hc
      simp only [respB]
      generalize rm.all nameB = A2 at *
      generalize idxI (wrongB t) rs = W at *
      clear b2 hs
      first | (cases A2 <;> simp_all <;> done) | grind | (cases A2 <;> simp_all <;> first | omega | (intros; omega) | grind)
    · exact LeR.of rfl trivial (by simp only [GA, ↓GB, GX, simprocAttr, GDs]) (by decide) rfl rfl rfl
end Go.Proofs.YtbdacbcpniegiaaDoor.Q
namespace Go.Proofs.YtbdacbcpniegiaaDoor.Q
open Go Go.RowKit Go.Proofs Go.Sx
set_option maxHeartbeats 16000000
set_option maxRecDepth 100000
set_option linter.unusedSimpArgs false
set_option linter.unusedVariables false
theorem putResp_no (t : Int) (dl mo : Bool) (q v : Nat) (rs : List Rs) (rm : List (List UInt8)) (hms : rs.length ≤ 1099511627776) (hs : ∀ r ∈ rs, r.s.length ≤ 9223372036854775807) (h2 : rm.length ≤ 1099511627776) (b2 : ∀ s ∈ rm, s.length ≤ 9223372036854775807) (h : respB t dl mo q rs rm = false) :
    Ctr Tryd.prog [] 41 [mrow rs, srow rm] [.one (.agg [.v (.int .i64 t), .v (.bool dl), .v (.bool mo), .v (.int .u64 q), .v (.int .u64 v), .row 0, .row 1])] (fun os u => os = [mrow rs, srow rm] ∧ u = .tup [.c (.v (.string (B []))), .c (.v (.bool false))]) := by
  have hr := rightResp_ctr t dl mo q v rs rm hms hs h2 b2
  rw [h] at hr
  refine Ctr.less ?_
  intro X0 hP0 hG0 N0 hN0
  refine CallVC.inline (f := 41) (by rw [hP0]; exact Tryd.func41) rfl Tryd.ntmps41 rfl (by simp) ?_
  intro X K hU hnt hbl hK
  have hP : X.P = Tryd.prog := by rw [hU.P, hP0]
  have hG := hG0.under hU
  have hT : aggOf X.P 81 = some true ∧ szOf X.P 81 = some 7 ∧ calleeOk X.P 43 = true ∧ zeroCells X.P 123 = some [(Value.pointer none), (Value.slice none 0 0)] ∧ fieldOff X.P 123 0 = some 0 ∧ calleeOk X.P 65 = true ∧ fieldOff X.P 81 0 = some 0 ∧ aggOf X.P 3 = some false ∧ szOf X.P 3 = some 1 ∧ X.P.underlying 3 = some (TypeDesc.int IntKind.i64) ∧ X.P.underlying 22 = some (TypeDesc.int IntKind.u64) ∧ isBytesT X.P 3 = false ∧ isStrT X.P 22 = false ∧ calleeOk X.P 66 = true ∧ fieldOff X.P 81 1 = some 1 ∧ aggOf X.P 4 = some false ∧ szOf X.P 4 = some 1 ∧ calleeOk X.P 68 = true ∧ fieldOff X.P 81 3 = some 3 ∧ aggOf X.P 22 = some false ∧ szOf X.P 22 = some 1 ∧ fieldOff X.P 81 4 = some 4 ∧ fieldOff X.P 81 5 = some 5 ∧ aggOf X.P 79 = some false ∧ szOf X.P 79 = some 1 ∧ X.P.underlying 79 = some (TypeDesc.slice 89) ∧ elemSz X.P 79 = some (89, 5) ∧ aggOf X.P 89 = some true ∧ szOf X.P 89 = some 5 ∧ zeroCells X.P 89 = some [(Value.int IntKind.i64 0), (Value.string { data := #[] }), (Value.int IntKind.u64 0), (Value.bool false), (Value.string { data := #[] })] ∧ calleeOk X.P 45 = true ∧ elemSz X.P 38 = some (9, 1) ∧ zeroCells X.P 9 = some [(Value.string { data := #[] })] ∧ calleeOk X.P 67 = true ∧ fieldOff X.P 81 6 = some 6 ∧ aggOf X.P 38 = some false ∧ szOf X.P 38 = some 1 ∧ fieldOff X.P 81 2 = some 2 ∧ calleeOk X.P 69 = true := by rw [hP]; exact ⟨Ty.ag81, Ty.sz81, Ty.co43, Ty.ze123, Ty.fo123_0, Ty.co65, Ty.fo81_0, Ty.ag3, Ty.sz3, Tryd.underlying3, Tryd.underlying22, Ty.ib3, Ty.is22, Ty.co66, Ty.fo81_1, Ty.ag4, Ty.sz4, Ty.co68, Ty.fo81_3, Ty.ag22, Ty.sz22, Ty.fo81_4, Ty.fo81_5, Ty.ag79, Ty.sz79, Tryd.underlying79, Ty.el79, Ty.ag89, Ty.sz89, Ty.ze89, Ty.co45, Ty.el38, Ty.ze9, Ty.co67, Ty.fo81_6, Ty.ag38, Ty.sz38, Ty.fo81_2, Ty.co69⟩
  simp only [GA, ↓GB, GX, simprocAttr] at hbl ⊢
  repeat' (first
    | (refine SX.seqK ?_; intro N hN)
    | ((first | (refine SX.ops ?_)); simp only [GA, ↓GB, GX, simprocAttr, hnt, hT])
    | ((first | refine SX.skip ?_ | refine SX.exit ?_ | refine SX.label ?_); try simp only [GA, ↓GB, GX, simprocAttr])
    | (refine SX.cond rfl (fun hb => ?_) (fun hb => ?_) <;> ((first | cases hb | (simp only [HBs] at hb) | skip) <;> (first | (exfalso; omega) | skip)))
    | (refine SX.ret ?_; try simp only [GA, ↓GB, GX, simprocAttr])
    | (refine hN _ ?_; clear hN N)
    | ((first | refine hK _ _ (FinI.ret3 ?_) | refine hK _ _ (FinI.nrm3 ?_)); simp only [GA, ↓GB, GX, simprocAttr, finP_s, hnt, hT]; refine Done.out ?_)
    | (clear hN N; first | (refine hN _ ?_; clear hN N) | (clear hN N; first | (refine hN _ ?_; clear hN N) | (clear hN N; first | (refine hN _ ?_; clear hN N) | (clear hN N; first | (refine hN _ ?_; clear hN N) | (clear hN N; first | (refine hN _ ?_; clear hN N) | (refine hN _ ?_; clear hN N))))))
    | (refine bif2.mk (fun hb => ?_) (fun hb => ?_) <;> (try simp only [hb, GA, ↓GB, GX, simprocAttr, hnt, hT]) <;> ((first | cases hb | (simp only [HBs] at hb) | skip) <;> (first | (exfalso; omega) | skip)))
    | ((first | (refine Ctr.use (hr) hP ?_ [0,1] ?_ rfl rfl ?_; (focus (intro p hp; cases hp)); (focus (refine LeR.of rfl trivial ?_ ?_ ?_ ?_ ?_ <;> first | decide | (simp only [GA, ↓GB, GX, simprocAttr, GDs]; done))); intro os' s hR; obtain ⟨rfl, rfl⟩ := hR)); simp only [GA, ↓GB, GX, simprocAttr, hnt, hT])
    | (refine SX.loopN 1 ?_)
    | (refine SXr.stepK ?_; intro N hN)
    | (refine SX.block ?_)
    | (refine and_mk ?_ ?_; (focus first | decide | omega | rfl | assumption | (simp only [List.length_append, List.length_cons, List.length_nil, B_size]; omega) | (simp; done)))
    | (refine And.intro ?_ ?_))
  all_goals (try refine Done.mk ?_)
  all_goals ((refine hN0 _ _ ⟨[0, 1], _, _, ?_, ?_, ?_, ⟨rfl, rfl⟩⟩; (focus exact LeR.of rfl trivial (by simp only [GA, ↓GB, GX, simprocAttr, GDs]) (by decide) rfl rfl rfl); rotate_left; (focus rfl)); rfl)
end Go.Proofs.YtbdacbcpniegiaaDoor.Q
namespace Go.Proofs.YtbdacbcpniegiaaDoor.Q
open Go Go.RowKit Go.Proofs Go.Sx
set_option maxHeartbeats 32000000
set_option maxRecDepth 100000
set_option linter.unusedSimpArgs false
set_option linter.unusedVariables false
end Go.Proofs.YtbdacbcpniegiaaDoor.Q
namespace Go.Proofs.YtbdacbcpniegiaaDoor.Q
open Go Go.RowKit Go.Proofs Go.Sx
set_option maxHeartbeats 32000000
set_option maxRecDepth 100000
set_option linter.unusedSimpArgs false
set_option linter.unusedVariables false
end Go.Proofs.YtbdacbcpniegiaaDoor.Q
namespace Go.Proofs.YtbdacbcpniegiaaDoor.Q
open Go Go.RowKit Go.Proofs Go.Sx
set_option maxHeartbeats 4000000
set_option maxRecDepth 100000
set_option linter.unusedSimpArgs false
set_option linter.unusedVariables false
end Go.Proofs.YtbdacbcpniegiaaDoor.Q
namespace Go.Proofs.YtbdacbcpniegiaaDoor.Q
open Go Go.RowKit Go.Proofs Go.Sx
set_option maxHeartbeats 4000000
set_option maxRecDepth 100000
set_option linter.unusedSimpArgs false
set_option linter.unusedVariables false
end Go.Proofs.YtbdacbcpniegiaaDoor.Q
namespace Go.Proofs.YtbdacbcpniegiaaDoor.Q
open Go Go.RowKit Go.Proofs Go.Sx
set_option maxHeartbeats 4000000
set_option maxRecDepth 100000
set_option linter.unusedSimpArgs false
set_option linter.unusedVariables false
end Go.Proofs.YtbdacbcpniegiaaDoor.Q
namespace Go.Proofs.YtbdacbcpniegiaaDoor.Q
open Go Go.RowKit Go.Proofs Go.Sx
set_option maxHeartbeats 4000000
set_option maxRecDepth 100000
set_option linter.unusedSimpArgs false
set_option linter.unusedVariables false
end Go.Proofs.YtbdacbcpniegiaaDoor.Q
namespace Go.Proofs.YtbdacbcpniegiaaDoor.Q
open Go Go.RowKit Go.Proofs Go.Sx
set_option maxHeartbeats 4000000
set_option maxRecDepth 100000
set_option linter.unusedSimpArgs false
set_option linter.unusedVariables false
def cutL (x : Rs) (ms : List Rs) : List Rs := ms.filter fun m => !isK x.t x.s m
def setL (ms : List Rs) (x : Rs) : List Rs := match (cutL x ms).findIdx? (isO x) with
  | some k => (cutL x ms).take k ++ x :: (cutL x ms).drop k
  | none => cutL x ms ++ [x]
end Go.Proofs.YtbdacbcpniegiaaDoor.Q
namespace Go.Sx
open Go Go.RowKit
set_option linter.unusedVariables false
set_option linter.unusedSimpArgs false
def PA (X : Ctx) (o1 o2 : Oper) (c : Cfg) (N : Cfg → Prop) : Prop :=
  ∀ (ops : Array Oper) (rest : List Oper) (M : Cfg → Prop), (∀ c', N c' → OX X ops rest c' M) → OX X ops (o1 :: o2 :: rest) c M
section
variable {X : Ctx} {c : Cfg} {N : Cfg → Prop} {d : Option Tmp} {ty ty1 : TypeId} {pos pos1 : String} {af af1 : Array Edge} {g : Option (Nat × Bool)}
theorem PA.nil {o1 o2 : Oper} {t : Tmp} (e sz : Nat) (hx : c.ev (.tmp t) = vv (.slice none 0 0)) (hl : ∃ s, c.env.lookup t = some s)
    (h : PA X o1 o2 { env := (t, .one (.c (.row c.loc.length))) :: c.env, loc := c.loc ++ [.row e sz 0 []] } N) : PA X o1 o2 c N := fun ops rest M hM Q hQ ρ σ a w hr => by
  refine h ops rest M hM Q hQ (ρ ++ [[]]) (σ ++ [Value.slice none 0 0]) a w ?_
  have h1 := hr.nilRow e sz
  refine ⟨fun t' s' he => ?_, h1.len, h1.lenS, h1.loc, h1.inj, h1.lt, h1.fresh, h1.low, h1.defers, h1.size, h1.one, h1.pin⟩
  simp only [List.lookup_cons] at he
  by_cases e : t' = t
  · subst e
    simp at he; subst he
    obtain ⟨s, hs⟩ := hl
    obtain ⟨v, hv, hd⟩ := hr.env t' s hs
    simp only [Cfg.ev, Cfg.get, hs, Option.getD_some] at hx
    subst hx
    obtain rfl : v = .slice none 0 0 := hd
    refine ⟨_, hv, ?_⟩
    show (σ ++ [_])[c.loc.length]? = _
    rw [← hr.lenS]; simp
  · have hb : (t' == t) = false := by simpa using e
    rw [hb] at he
    exact h1.env t' s' he
theorem SX.asRow {code : Code} {K : Exit → Cfg → Prop} {t : Tmp} (e sz : Nat) (hx : c.ev (.tmp t) = vv (.slice none 0 0)) (hl : ∃ s, c.env.lookup t = some s)
    (h : SX X code { env := (t, .one (.c (.row c.loc.length))) :: c.env, loc := c.loc ++ [.row e sz 0 []] } K) : SX X code c K := fun ρ σ a w hr => by
  refine h (ρ ++ [[]]) (σ ++ [Value.slice none 0 0]) a w ?_
  have h1 := hr.nilRow e sz
  refine ⟨fun t' s' he => ?_, h1.len, h1.lenS, h1.loc, h1.inj, h1.lt, h1.fresh, h1.low, h1.defers, h1.size, h1.one, h1.pin⟩
  simp only [List.lookup_cons] at he
  by_cases e : t' = t
  · subst e
    simp at he; subst he
    obtain ⟨s, hs⟩ := hl
    obtain ⟨v, hv, hd⟩ := hr.env t' s hs
    simp only [Cfg.ev, Cfg.get, hs, Option.getD_some] at hx
    subst hx
    obtain rfl : v = .slice none 0 0 := hd
    refine ⟨_, hv, ?_⟩
    show (σ ++ [_])[c.loc.length]? = _
    rw [← hr.lenS]; simp
  · have hb : (t' == t) = false := by simpa using e
    rw [hb] at he
    exact h1.env t' s' he
theorem PA.part {x0 x : Operand} {lo hi : Option Operand} {t e e' i j m sz n k by_ : Nat} {t1 : Tmp} {xs ys : List Value} {z : Value} {l h : Option Int} (news : List Value)
    (hx : c.ev x = .one (.c (.row j))) (hlo : optI c lo = some l) (hhi : optI c hi = some h) (hx0 : (c.put (some t1) (.one (.c .dead))).ev x0 = .one (.c (.row i)))
    (hi0 : c.loc[i]? = some (.row e sz n xs)) (hj0 : c.loc[j]? = some (.row e' sz m ys)) (ht : elemInf X.P t = some (e, sz, by_, z)) (hes : elemSz X.P t = some (e, sz))
    (h0 : 0 ≤ l.getD 0) (h1 : l.getD 0 ≤ h.getD m) (h2 : h.getD m ≤ m) (hk : k = (h.getD m).toNat - (l.getD 0).toNat) (hnw : news = (ys.drop ((l.getD 0).toNat * sz)).take (k * sz))
    (hone : ∀ u ∈ news, u.oneCell' = true) (h63 : n + k ≤ maxLen) (hby : (n + k) * by_ ≤ 140737488355328) (hd1 : dOk (some t1) X.nt = true)
    (hN : nxt X d N { (c.put (some t1) (.one (.c .dead))) with loc := c.loc.set i .gone ++ [.row e sz (n + k) (xs ++ news)] } (.one (.c (.row c.loc.length)))) :
    PA X ⟨some t1, .slice t x lo hi none, ty1, pos1, af1, none⟩ ⟨d, .call { callee := .builtin .append, args := #[x0, .tmp t1], argTypes := #[t, t] }, ty, pos, af, none⟩ c N := fun ops rest M hM Q hQ ρ σ a w hr => by
  have e1 := hr.ev x
  rw [hx] at e1
  have e1 : σ[j]? = some (a.eval x) := e1
  obtain ⟨hu, ti, hti, hz, hsz, hby', hzs, hs0⟩ := elemInf_spec ht
  obtain ⟨fq, hfq⟩ := hr.locAt hj0
  have hdj := hr.loc j _ fq _ hj0 hfq e1
  have hlb : BoundIs (lo.map a.eval) 0 (l.getD 0).toNat := optI_bound (n := 0) hr hlo (by simpa using h0)
  have hhb := optI_bound (n := m) hr hhi (by omega)
  have hsz' : ∀ w, (Go.sizeOf e).run X.P w = .ok sz w := by
    unfold elemSz at hes
    rw [hu] at hes
    cases hz2 : szOf X.P e with
    | none => simp [hz2] at hes
    | some r => simp [hz2] at hes; subst hes; exact sizeOf_run hz2
  have hyl : ys.length = m * sz := hdj.1.1
  obtain ⟨L, hL⟩ : ∃ L, L = (l.getD 0).toNat := ⟨_, rfl⟩
  obtain ⟨H, hH⟩ : ∃ H, H = (h.getD m).toNat := ⟨_, rfl⟩
  rw [← hL] at hlb hk hnw
  rw [← hH] at hhb hk
  have hLH : L ≤ H := by omega
  have hHm : H ≤ m := by omega
  have hnl : news.length = k * sz := by
    rw [hnw, List.length_take, List.length_drop, hyl, ← Nat.sub_mul]
    exact Nat.min_eq_left (Nat.mul_le_mul_right _ (by omega))
  have hget : ∀ q u, news[q]? = some u → ys[L * sz + q]? = some u := by
    intro q u hq
    rw [hnw, List.getElem?_take] at hq
    split at hq
    · rwa [List.getElem?_drop] at hq
    · cases hq
  obtain ⟨v1, hrun1, hv1⟩ : ∃ v1, (execOp a.eval ⟨some t1, .slice t x lo hi none, ty1, pos1, af1, none⟩).run X.P w = .ok (.value v1) w ∧
      ((v1 = .slice none 0 0 ∧ k = 0) ∨ ∃ ad cap, v1 = .slice (some ad) k cap ∧ ∀ q u, news[q]? = some u → w.cell? (ad.add q) = some u) := by
    rcases hdj.1.2 with ⟨e3, hm0⟩ | ⟨gg, cap, cur, e3, _, _, hnc, _⟩
    · subst hm0
      obtain rfl : L = 0 := by omega
      obtain rfl : H = 0 := by omega
      have hrun := run_sliceSl (P := X.P) w hu hsz' none 0 0 _ _ _ _ hlb hhb (Nat.le_refl _) (Nat.le_refl _)
      exact ⟨_, by simp only [execOp, e3, Option.map_none, Sem.run_bind]; rw [hrun]; rfl, .inl ⟨by simp, by omega⟩⟩
    · have hrun := run_sliceSl (P := X.P) w hu hsz' (some ⟨gg, 0, none⟩) m cap _ _ _ _ hlb hhb hLH (by omega)
      refine ⟨_, by simp only [execOp, e3, Option.map_none, Sem.run_bind]; rw [hrun]; rfl, .inr ?_⟩
      by_cases hc : cap = L
      · rw [if_pos hc]
        refine ⟨_, _, by rw [show H - L = k by omega], fun q u hq => ?_⟩
        have : q < news.length := (List.getElem?_eq_some_iff.1 hq).1
        rw [hnl, show k = 0 by omega] at this
        simp at this
      · rw [if_neg hc]
        refine ⟨_, _, by rw [show H - L = k by omega]; rfl, fun q u hq => ?_⟩
        have := hr.rowCell hj0 (by rw [e1, e3]) _ _ (hget q u hq)
        simp only [add_add] at this ⊢
        rw [← this]
        congr 2
        omega
  have hr1 := hr.put (d := some t1) (s := .one (.c .dead)) (v := v1) hd1 trivial
  have hr2 := hr.put (d := some t1) (s := vv v1) (v := v1) hd1 rfl
  have ey : (a.put (some t1) v1).eval (.tmp t1) = v1 := by
    have := hr2.ev (.tmp t1)
    rw [show (c.put (some t1) (vv v1)).ev (.tmp t1) = vv v1 by simp [Cfg.put, Cfg.ev, Cfg.get]] at this
    exact this
  have ex := hr1.ev x0
  rw [hx0] at ex
  have ex : σ[i]? = some ((a.put (some t1) v1).eval x0) := ex
  have hi1 : (c.put (some t1) (.one (.c .dead))).loc[i]? = some (.row e sz n xs) := hi0
  obtain ⟨fp, hfp⟩ := hr1.locAt hi1
  have hd := hr1.loc i _ fp _ hi1 hfp ex
  unfold wpList
  rw [if_pos (by simp [Region.wanted])]
  left
  unfold Oper.wp
  rw [hrun1]
  show wpList X.P ops Q (_ :: rest) (a.put (some t1) v1) w
  generalize a.put (some t1) v1 = a1 at hr1 ey ex hd
  have key : ∃ v' w', (Builtin.append_ #[t, t] ty #[a1.eval x0, v1]).run X.P w = .ok v' w' ∧ w'.ownsRow 0 e sz v' (n + k) (xs ++ news) ∧ w.grownBy w' (a1.eval x0).ownBlock ∧ (∀ k, v'.ownBlock = some k → (a1.eval x0).ownBlock = some k ∨ w.heap.size ≤ k) := by
    rcases hv1 with ⟨rfl, hk0⟩ | ⟨ad, cap, rfl, hc⟩
    · subst hk0
      obtain rfl : news = [] := by simpa using hnl
      have := append_cases (P := X.P) w 0 t ty e ti z sz by_ hu hti hz hsz hby' hzs hs0 (a1.eval x0) n xs hd.1 ⟨0, 0, none⟩ 0 0 [] (by simp) (by simp) (by simp) h63 hby (Nat.zero_le _)
      have hrun : (Builtin.append_ #[t, t] ty #[a1.eval x0, .slice (some ⟨0, 0, none⟩) 0 0]).run X.P w = (Builtin.append_ #[t, t] ty #[a1.eval x0, .slice none 0 0]).run X.P w := by
        have hl : ∀ (ad : Addr), (loadCells ad 0).run X.P w = .ok #[] w := fun ad => by simpa using run_loadCells_list (P := X.P) w ad [] (by simp)
        rcases hd.1.2 with ⟨e4, hn0⟩ | ⟨g4, c4, u4, e4, _, _, hn4, _⟩
        · rw [e4]; simp [Builtin.append_, run_underlying hu, Builtin.lenOf, Builtin.firstCells, sizeOf, typeInfo, hti, hl, storeCells]
        · rw [e4]; simp [Builtin.append_, run_underlying hu, Builtin.lenOf, Builtin.firstCells, sizeOf, typeInfo, hti, hn4, hl, storeCells]
      rw [hrun] at this
      exact this
    · exact append_cases (P := X.P) w 0 t ty e ti z sz by_ hu hti hz hsz hby' hzs hs0 (a1.eval x0) n xs hd.1 ad k cap news hnl hc hone h63 hby (Nat.zero_le _)
  obtain ⟨v', w', hrun, hown, hgr, hkk⟩ := key
  obtain ⟨ρ', hR⟩ := hr1.reRow hi1 ex hgr hown hkk
  unfold wpList
  rw [if_pos (by simp [Region.wanted])]
  left
  unfold Oper.wp
  have hrun2 : (execOp a1.eval ⟨d, .call { callee := .builtin .append, args := #[x0, .tmp t1], argTypes := #[t, t] }, ty, pos, af, none⟩).run X.P w = .ok (.value v') w' := by
    simp only [execOp, resolve, invoke, builtin, Sem.run_bind, Sem.run_pure, Result.andThen_ok, List.map_toArray, List.map_cons, List.map_nil, ey]
    rw [hrun]; rfl
  rw [hrun2]
  have hs2 : DV (σ ++ [v']) (.one (.c (.row c.loc.length))) v' := by
    show (σ ++ [v'])[c.loc.length]? = some v'
    have := hr1.lenS
    rw [show c.loc.length = σ.length from this.symm]; simp
  exact hM _ hN.2 Q hQ _ _ _ _ (hR.put hN.1 hs2)
end
end Go.Sx
namespace Go.Proofs.YtbdacbcpniegiaaDoor.Q
open Go Go.RowKit Go.Proofs Go.Sx
set_option maxHeartbeats 4000000
set_option maxRecDepth 100000
set_option linter.unusedSimpArgs false
set_option linter.unusedVariables false
end Go.Proofs.YtbdacbcpniegiaaDoor.Q
namespace Go.Proofs.YtbdacbcpniegiaaDoor
open Go Go.RowKit Go.Proofs Go.Sx
set_option maxHeartbeats 4000000
set_option maxRecDepth 100000
set_option linter.unusedSimpArgs false
set_option linter.unusedVariables false
end Go.Proofs.YtbdacbcpniegiaaDoor
namespace Go.Proofs.YtbdacbcpniegiaaDoor
open Go Go.RowKit Go.Proofs Go.Sx
set_option maxHeartbeats 8000000
set_option maxRecDepth 100000
set_option linter.unusedSimpArgs false
set_option linter.unusedVariables false
end Go.Proofs.YtbdacbcpniegiaaDoor
namespace Go.Proofs.YtbdacbcpniegiaaDoor
open Go Go.RowKit Go.Proofs Go.Sx
set_option maxHeartbeats 8000000
set_option maxRecDepth 100000
set_option linter.unusedSimpArgs false
set_option linter.unusedVariables false
end Go.Proofs.YtbdacbcpniegiaaDoor
namespace Go.Proofs.YtbdacbcpniegiaaDoor
open Go Go.RowKit Go.Proofs Go.Sx
set_option maxHeartbeats 8000000
set_option maxRecDepth 100000
set_option linter.unusedSimpArgs false
set_option linter.unusedVariables false
end Go.Proofs.YtbdacbcpniegiaaDoor
namespace Go.Proofs.YtbdacbcpniegiaaDoor.Q
open Go Go.RowKit Go.Proofs Go.Sx
set_option maxHeartbeats 4000000
set_option maxRecDepth 100000
set_option linter.unusedSimpArgs false
set_option linter.unusedVariables false
end Go.Proofs.YtbdacbcpniegiaaDoor.Q
namespace Go.Proofs.YtbdacbcpniegiaaDoor.Q
open Go Go.RowKit Go.Proofs Go.Sx
set_option maxHeartbeats 4000000
set_option maxRecDepth 100000
set_option linter.unusedSimpArgs false
set_option linter.unusedVariables false
end Go.Proofs.YtbdacbcpniegiaaDoor.Q
namespace Go.Proofs.YtbdacbcpniegiaaDoor.Q
open Go Go.RowKit Go.Proofs Go.Sx
set_option maxHeartbeats 4000000
set_option maxRecDepth 100000
set_option linter.unusedSimpArgs false
set_option linter.unusedVariables false
@[reducible] def r0 : Rs := ⟨2, [97], 3, false, [120]⟩
end Go.Proofs.YtbdacbcpniegiaaDoor.Q
namespace Go.Proofs.YtbdacbcpniegiaaDoor.Q
open Go Go.RowKit Go.Proofs Go.Sx
set_option maxHeartbeats 4000000
set_option maxRecDepth 100000
set_option linter.unusedSimpArgs false
set_option linter.unusedVariables false
structure Th where
  r : Rs
  own : Bool
  nm : Nat
deriving Inhabited
def tN (t : Int) : Nat := 1 + ((t % 18446744073709551616) % 5).toNat
end Go.Proofs.YtbdacbcpniegiaaDoor.Q
namespace Go.Proofs.YtbdacbcpniegiaaDoor.Q
open Go Go.RowKit Go.Proofs Go.Sx
set_option maxHeartbeats 4000000
set_option maxRecDepth 100000
set_option linter.unusedSimpArgs false
set_option linter.unusedVariables false
end Go.Proofs.YtbdacbcpniegiaaDoor.Q
namespace Go.Proofs.YtbdacbcpniegiaaDoor.Q
open Go Go.RowKit Go.Proofs Go.Sx
set_option maxHeartbeats 4000000
set_option maxRecDepth 100000
set_option linter.unusedSimpArgs false
set_option linter.unusedVariables false
end Go.Proofs.YtbdacbcpniegiaaDoor.Q
namespace Go.Proofs.YtbdacbcpniegiaaDoor.Q
open Go Go.RowKit Go.Proofs Go.Sx Go.ChangeShapes
set_option maxRecDepth 100000
set_option linter.unusedSimpArgs false
set_option linter.unusedVariables false
theorem star : "*" ++ "errors.errorString" = "*errors.errorString" := by decide
theorem row253 (u : TypeId) (h : Tryd.prog.typeName? 3 u = some "*errors.errorString") : u = 253 :=
  typeName_ptr_named (nm := "errors.errorString") (by rw [star]; kernel_rfl) (by kernel_rfl) (by decide) u (by rw [star]; exact h)
theorem nShort : Tryd.prog.globalNamed "noria/wire.errShort" = some 2 := by kernel_rfl
theorem nWrong : Tryd.prog.globalNamed "noria/wire.errWrong" = some 3 := by kernel_rfl
theorem tShort : (Tryd.prog.globals[2]?).map (·.type) = some 125 := by kernel_rfl
theorem tWrong : (Tryd.prog.globals[3]?).map (·.type) = some 125 := by kernel_rfl
theorem c277 : Tryd.prog.cellsOf 277 = 1 := by kernel_rfl
theorem c9 : Tryd.prog.cellsOf 9 = 1 := by kernel_rfl
end Go.Proofs.YtbdacbcpniegiaaDoor.Q
namespace Go.Proofs.YtbdacbcpniegiaaDoor.Q
open Go Go.RowKit Go.Proofs Go.Sx
set_option maxRecDepth 100000
set_option linter.unusedSimpArgs false
set_option linter.unusedVariables false
theorem ctr_calls {P : Program} {G : List (Addr × Value)} {f : FuncId} {args : List SV} {R : List LO → SV → Prop} (h : Ctr P G f [] args R) (w : World) (hG : ∀ p ∈ G, w.cell? p.1 = some p.2 ∧ loneStr w p) {vals : List Value} (ha : All2 (DV []) args vals) :
    Calls P f vals.toArray w fun e w' => ∃ v os' s σ', e = .returned v ∧ R os' s ∧ DV σ' s v ∧ Below w.heap.size w w' := by
  have hr : Rel ⟨P, w, [], 0, []⟩ ⟨[], []⟩ [] [] { tmps := #[], defers := [] } w :=
    ⟨fun t s h => by simp at h, rfl, rfl, fun i o fp v h => by simp at h, by simp, fun b h => by simp at h, fun b h => by simp at h, Fr.refl _ _, rfl, rfl, fun v h => by simp at h, fun i v h => by simp at h⟩
  refine (h ⟨P, w, [], 0, []⟩ rfl (fun p hp => ⟨(hG p hp).1, by simp, (hG p hp).2⟩) (fun c s => ∃ os', c = ⟨[], os'⟩ ∧ R os' s) (fun os' s hR => ⟨os', rfl, hR⟩) _ _ _ _ hr vals ha).mono ?_
  rintro e w' ⟨v, c', ρ', σ', s, rfl, hr', hd, os', rfl, hR⟩
  exact ⟨v, os', s, σ', rfl, hR, hd, hr'.low.below (by simp)⟩
end Go.Proofs.YtbdacbcpniegiaaDoor.Q
namespace Go.Proofs.YtbdacbcpniegiaaDoor.Q
open Go Go.RowKit Go.ChangeShapes Go.WideShapes Go.ChangeAt Go.Sx Go.Proofs.YtbdacbcpniegiaaDoor
set_option linter.unusedSimpArgs false
set_option linter.unusedVariables false
set_option maxRecDepth 100000
structure RsOk (r : Rs) : Prop where
  t0 : -9223372036854775808 ≤ r.t
  t1 : r.t < 9223372036854775808
  s : r.s.length ≤ 9223372036854775807
  q : r.q < 18446744073709551616
  b : r.b.length ≤ 9223372036854775807
def Th.cells (x : Th) : List Value := x.r.cells ++ [.bool x.own, .int .u8 (x.nm : Int)]
structure Th.Ok (x : Th) : Prop where
  r : RsOk x.r
  nm : x.nm < 256
end Go.Proofs.YtbdacbcpniegiaaDoor.Q
namespace Go.Sx
open Go Go.RowKit
def CtrF (P : Program) (F : Ctx → Prop) (f : FuncId) (os : List LO) (args : List SV) (R : List LO → SV → Prop) : Prop :=
  ∀ X : Ctx, X.P = P → F X → ∀ N : Cfg → SV → Prop, (∀ os' s, R os' s → N ⟨[], os'⟩ s) → CallVC X ⟨[], os⟩ f args N
theorem CtrF.use {X : Ctx} {c : Cfg} {P : Program} {F : Ctx → Prop} {f : FuncId} {os : List LO} {args args' : List SV} {R : List LO → SV → Prop} {N : Cfg → SV → Prop} (h : CtrF P F f os args R) (hP : X.P = P) (hF : ∀ X', Under X X' → F X') (sel : List Nat)
    (hle : LeR 0 sel ⟨[], os⟩ c) (ha' : args' = args.map (SV.ren sel)) (hok : (args.all fun s => s.okB sel.length) = true)
    (hN : ∀ os' s, R os' s → N { env := c.env, loc := patchL c.loc sel (selN c.loc.length sel os') os' } (s.ren (selN c.loc.length sel os'))) : CallVC X c f args' N := by
  refine CallVC.frame sel (Q := fun c' s => R c'.loc s) (fun X' hU => h X' (by rw [hU.P, hP]) (hF X' hU) _ (fun os s hr => hr)) hle ha' hok (fun c' s hq => ?_)
  have := hN c'.loc s hq
  rw [selN_eq] at this
  exact this
theorem CtrF.less {P : Program} {F : Ctx → Prop} {f : FuncId} {os : List LO} {args : List SV} {R : List LO → SV → Prop}
    (h : CtrF P F f os args (fun os' r => ∃ sel os2 s2, LeR os.length sel ⟨[], os2⟩ ⟨[], os'⟩ ∧ r = s2.ren sel ∧ s2.okB sel.length = true ∧ R os2 s2)) : CtrF P F f os args R := by
  intro X hP hF N hN ρ σ a w hr vals ha
  have hb : X.base.length ≤ os.length := by
    have hl : σ.length = os.length := hr.lenS
    rcases Nat.lt_or_ge os.length X.base.length with h0 | h0
    · have := hr.pin os.length X.base[os.length] (by simp [h0])
      rw [List.getElem?_eq_none (by omega)] at this; cases this
    · exact h0
  refine (h X hP hF (fun c s => ∃ sel os2 s2, LeR os.length sel ⟨[], os2⟩ c ∧ s = s2.ren sel ∧ s2.okB sel.length = true ∧ R os2 s2) (fun os' s hR => hR) ρ σ a w hr vals ha).mono ?_
  rintro e w' ⟨v, c', ρ', σ', s, rfl, hr', hd, sel, os2, s2, hl, rfl, hok, hR⟩
  exact ⟨v, ⟨[], os2⟩, _, _, s2, rfl, Rel.leR ⟨fun i hi => hl.pin i (by omega), hl.env, hl.len, hl.loc, hl.nd, hl.lt, hl.okE, hl.okL⟩ hr', DV.ren hok hd, hN _ _ hR⟩
end Go.Sx
namespace Go.Proofs.YtbdacbcpniegiaaDoor.Q
open Go Go.RowKit Go.Proofs Go.Sx
set_option maxHeartbeats 8000000
set_option maxRecDepth 100000
set_option linter.unusedSimpArgs false
set_option linter.unusedVariables false
theorem add_block (ad : Addr) (i : Nat) : (ad.add i).block = ad.block := by unfold Addr.add; split <;> rfl
def FarT (X : Ctx) (q : Option Addr) (xs : List Th) : Prop := ∀ i, i < xs.length → ∃ ad : Addr, q = some ad ∧ ad.block ∉ X.own ∧ ∀ j v, (xs.getD i default).cells[j]? = some v → X.wi.cell? ((ad.add (i * 7)).add j) = some v
theorem FarT.under {X X' : Ctx} {q : Option Addr} {xs : List Th} (h : FarT X q xs) (hU : Under X X') : FarT X' q xs := fun i hi => by
  obtain ⟨ad, e, ho, hc⟩ := h i hi
  have hb : ∀ j, ((ad.add (i * 7)).add j).block = ad.block := fun j => by rw [add_block, add_block]
  have h0 : ∃ v, (xs.getD i default).cells[0]? = some v := ⟨_, rfl⟩
  obtain ⟨v, hv⟩ := h0
  refine ⟨ad, e, ?_, fun j v hj => (hU.cell (hc j v hj) (by rw [hb]; exact ho)).1⟩
  have := (hU.cell (hc 0 v hv) (by rw [hb]; exact ho)).2
  rwa [hb] at this
theorem mrow_snoc (ms : List Rs) (r : Rs) : LO.row 89 5 (ms.length + 1) (mks ms ++ [.int .i64 r.t, .string (B r.s), .int .u64 r.q, .bool r.g, .string (B r.b)]) = mrow (ms ++ [r]) := by
  simp only [mrow, List.length_append, List.length_cons, List.length_nil, mks_append]; rfl
end Go.Proofs.YtbdacbcpniegiaaDoor.Q
namespace Go.Proofs.YtbdacbcpniegiaaDoor.Q
open Go Go.RowKit Go.Proofs Go.Sx
set_option maxHeartbeats 16000000
set_option maxRecDepth 100000
set_option linter.unusedSimpArgs false
set_option linter.unusedVariables false
def FarU (X : Ctx) (q : Option Addr) (xs : List UInt8) : Prop := ∀ i, i < xs.length → ∃ ad : Addr, q = some ad ∧ ad.block ∉ X.own ∧ X.wi.cell? (ad.add (i * 1)) = some (.int .u8 (xs.getD i 0).toNat)
theorem FarU.under {X X' : Ctx} {q : Option Addr} {xs : List UInt8} (h : FarU X q xs) (hU : Under X X') : FarU X' q xs := fun i hi => by
  obtain ⟨ad, e, ho, hc⟩ := h i hi
  have := hU.cell hc (by rw [add_block]; exact ho)
  exact ⟨ad, e, by have h2 := this.2; rwa [add_block] at h2, this.1⟩
structure UIn (X : Ctx) (ad : Addr) (i : Nat) (x : UInt8) : Prop where
  own : ad.block ∉ X.own
  cell : X.wi.cell? (ad.add (i * 1)) = some (.int .u8 x.toNat)
theorem uBlk {X : Ctx} {code : Code} {c : Cfg} {K : Exit → Cfg → Prop} {id i : Nat} {q : Option Addr} {xs : List UInt8} (h : FarU X q xs) (hi : i < xs.length)
    (h1 : ∀ ad, q = some ad → UIn X ad i (xs.getD i 0) → SX X code c (bx id K)) : SX X (.block id code) c K := by
  refine SX.block ?_
  obtain ⟨ad, e, ho, hv⟩ := h i hi
  exact h1 ad e ⟨ho, hv⟩
def nmV (x : UInt8) : List UInt8 := nameL x.toNat
theorem nm_take {xs : List UInt8} {i : Nat} (hi : i < xs.length) : (xs.take (i + 1)).map nmV = (xs.take i).map nmV ++ [nmV (xs.getD i 0)] := by
  rw [List.take_add_one, List.getElem?_eq_getElem hi, List.getD_eq_getElem?_getD, List.getElem?_eq_getElem hi, List.map_append]; rfl
theorem nameList_ctr (xs : List UInt8) (q : Option Addr) (cap most : Nat) (hm : most ≤ 100) : CtrF Tryd.prog (fun X => FarU X q xs) 97 [] [vv (.slice q xs.length cap), vv (.int .i64 most)] (fun os v => os = [srow ((xs.take most).map nmV)] ∧ v = .one (.c (.row 0))) := by
  have hn : ∀ i, Ctr Tryd.prog [] 18 [] [vv (.int .u8 (xs.getD i 0).toNat)] (fun os v => os = [] ∧ v = vv (.string (B (nmV (xs.getD i 0))))) := fun i => name_ctr (xs.getD i 0).toNat (by have := (xs.getD i 0).toNat_lt; omega)
  refine CtrF.less ?_
  intro X0 hP0 hG0 N0 hN0
  refine CallVC.inline (f := 97) (by rw [hP0]; exact Tryd.func97) rfl Tryd.ntmps97 rfl (by simp) ?_
  intro X K hU hnt hbl hK
  have hP : X.P = Tryd.prog := by rw [hU.P, hP0]
  have hG := hG0.under hU
  have hT : X.P.underlying 58 = some (TypeDesc.slice 5) ∧ elemSz X.P 58 = some (5, 1) ∧ aggOf X.P 5 = some false ∧ szOf X.P 5 = some 1 ∧ calleeOk X.P 18 = true ∧ elemSz X.P 38 = some (9, 1) ∧ zeroCells X.P 9 = some [(Value.string { data := #[] })] ∧ elemInf X.P 38 = some (9, 1, 16, (Value.string { data := #[] })) ∧ isStrT X.P 38 = false := by rw [hP]; exact ⟨Tryd.underlying58, Ty.el58, Ty.ag5, Ty.sz5, Ty.co18, Ty.el38, Ty.ze9, Ty.ei38, Ty.is38⟩
  simp only [GA, ↓GB, GX, simprocAttr] at hbl ⊢
  repeat' (first
    | (refine SX.asRow (t := 5) 9 1 rfl ⟨_, rfl⟩ ?_)
    | (refine uBlk (id := 1) (i := i) hG (by omega) (fun ad hE D => ?_) <;> subst hE)
    | (refine SX.seqK ?_; intro N hN)
    | ((first | (refine SX.ops ?_)); simp only [GA, ↓GB, GX, simprocAttr, hnt, hT])
    | ((first | refine SX.skip ?_ | refine SX.exit ?_ | refine SX.label ?_); try simp only [GA, ↓GB, GX, simprocAttr])
    | (refine SX.cond rfl (fun hb => ?_) (fun hb => ?_) <;> ((first | cases hb | (simp only [HBs] at hb) | skip) <;> (first | (exfalso; omega) | skip)))
    | (refine SX.ret ?_; try simp only [GA, ↓GB, GX, simprocAttr])
    | (refine hN _ ?_; clear hN N)
    | ((first | refine hK _ _ (FinI.ret3 ?_) | refine hK _ _ (FinI.nrm3 ?_)); simp only [GA, ↓GB, GX, simprocAttr, finP_s, hnt, hT]; refine Done.out ?_)
    | (clear hN N; first | (refine hN _ ?_; clear hN N) | (clear hN N; first | (refine hN _ ?_; clear hN N) | (clear hN N; first | (refine hN _ ?_; clear hN N) | (clear hN N; first | (refine hN _ ?_; clear hN N) | (clear hN N; first | (refine hN _ ?_; clear hN N) | (refine hN _ ?_; clear hN N))))))
    | (refine bif2.mk (fun hb => ?_) (fun hb => ?_) <;> (try simp only [hb, GA, ↓GB, GX, simprocAttr, hnt, hT]) <;> ((first | cases hb | (simp only [HBs] at hb) | skip) <;> (first | (exfalso; omega) | skip)))
    | ((first | (refine Ctr.use (hn i) hP ?_ [] ?_ rfl rfl ?_; (focus (intro p hp; cases hp)); (focus (refine LeR.of rfl trivial ?_ ?_ ?_ ?_ ?_ <;> first | decide | (simp only [GA, ↓GB, GX, simprocAttr, GDs]; done))); intro os' s hR; obtain ⟨rfl, rfl⟩ := hR)); simp only [GA, ↓GB, GX, simprocAttr, hnt, hT])
    | (refine ⟨_, D.cell, ?_⟩ <;> (try simp only [GA, ↓GB, GX, simprocAttr, hnt, hT]))
    | (exact D.own)
    | (refine SX.loop (ι := { i : Nat // i ≤ xs.length ∧ i ≤ most }) (fun i => ⟨[(0, vv (.slice q xs.length cap)), (1, vv (.int .i64 most)), (4, vv (.slice none 0 0)), (5, .one (.c (.row 0))), (6, vv (.int .i64 i.1))], [srow ((xs.take i.1).map nmV)]⟩) (fun i => xs.length - i.1) ⟨0, Nat.zero_le _, Nat.zero_le _⟩ ⟨[0], by (refine LeR.of ?_ ?_ ?_ ?_ ?_ ?_ ?_ <;> first | (rw [hbl]; decide) | decide | (simp only [GA, ↓GB, GX, simprocAttr, GDs]; done) | (simp only [GA, ↓GB, GX, simprocAttr, GDs]; rfl; done))⟩ ?_ <;> rintro ⟨i, hi, hi2⟩ <;> simp only [] at hi hi2 ⊢)
    | (refine SX.block ?_)
    | (refine and_mk ?_ ?_; (focus first | decide | omega | rfl | assumption | (simp only [List.length_append, List.length_cons, List.length_nil, B_size]; omega) | (simp; done)))
    | (refine And.intro ?_ ?_))
  all_goals (try refine Done.mk ?_)
  · rw [add_block]; exact D.own
  · simp only [List.length_map, List.length_take]; omega
  · have e := srow_snoc ((xs.take i).map nmV) (nmV (xs.getD i 0))
    rw [← nm_take (by omega)] at e
    rw [e]
    exact ⟨⟨i + 1, by omega, by omega⟩, [2], by (refine LeR.of ?_ ?_ ?_ ?_ ?_ ?_ ?_ <;> first | (rw [hbl]; decide) | decide | (simp only [GA, ↓GB, GX, simprocAttr, GDs]; done) | (simp only [GA, ↓GB, GX, simprocAttr, GDs]; first | (rw [wI64 (by omega) (by omega)]; rfl) | rfl; done)), by show xs.length - (i + 1) < xs.length - i; omega⟩
  all_goals
    have e : xs.take most = xs.take i := by
      first | (rw [show most = i by omega]) | (rw [List.take_of_length_le (i := i) (by omega), List.take_of_length_le (i := most) (by omega)])
    rw [e] at hN0
    (refine hN0 _ _ ⟨[0], _, _, ?_, ?_, ?_, ⟨rfl, rfl⟩⟩; (focus exact LeR.of rfl trivial (by simp only [GA, ↓GB, GX, simprocAttr, GDs]) (by decide) rfl rfl rfl); rotate_left; (focus rfl))
    rfl
end Go.Proofs.YtbdacbcpniegiaaDoor.Q
namespace Go.Proofs.YtbdacbcpniegiaaDoor
open Go Go.RowKit Go.Proofs Go.Sx
set_option maxHeartbeats 16000000
set_option maxRecDepth 100000
set_option linter.unusedSimpArgs false
set_option linter.unusedVariables false
end Go.Proofs.YtbdacbcpniegiaaDoor
namespace Go.Proofs.YtbdacbcpniegiaaDoor
open Go Go.RowKit Go.Proofs Go.Sx
set_option maxHeartbeats 16000000
set_option maxRecDepth 100000
set_option linter.unusedSimpArgs false
set_option linter.unusedVariables false
theorem nameL_right : ∀ n : Fin 256, ¬ n.val % 16 = 15 → nameB (nameL n.val) = true := by decide +kernel
theorem nameL_star : ∀ n : Fin 256, (nameL n.val == [42]) = decide (n.val % 16 = 15) := by decide +kernel
theorem nameL_len : ∀ n : Fin 256, (nameL n.val).length ≤ 4 := by decide +kernel
end Go.Proofs.YtbdacbcpniegiaaDoor
namespace Go.Proofs.YtbdacbcpniegiaaDoor.Q
open Go Go.RowKit Go.Proofs Go.Sx
set_option maxHeartbeats 8000000
set_option maxRecDepth 100000
set_option linter.unusedSimpArgs false
set_option linter.unusedVariables false
def nmK (x : UInt8) : Bool := !decide (x.toNat % 16 = 15)
def hvN (x : UInt8) : HvS := (nmV x, x.toNat / 4)
def askSb (l : List UInt8) : List (List UInt8) := (l.take 12).map nmV
def askUn (dl : Bool) (m : List UInt8) : List (List UInt8) := if dl then (m.take 6).map nmV else []
def askHv (dl : Bool) (m : List UInt8) : List HvS := if dl then ((m.take 4).filter nmK).map hvN else []
def askDet (q : Nat) (d : List UInt8) : List UInt8 := if 0 < q % 6 then d.take 40 else []
def rsN (t : Int) (x : UInt8) : Rs := ⟨t, nmV x, 1 + x.toNat / 8, false, [98]⟩
def tellRs (t : Int) (l : List UInt8) : List Rs := ((l.take 12).filter nmK).map (rsN t)
def tellRm (dl : Bool) (m : List UInt8) : List (List UInt8) := if dl then ((m.take 6).filter nmK).map nmV else []
theorem nmV_star (x : UInt8) : starB (nmV x) = true := by
  have h : x.toNat < 256 := x.toNat_lt
  have h3 := nameL_star ⟨x.toNat, h⟩
  simp only at h3
  unfold nmV
  by_cases hx : x.toNat % 16 = 15
  · rw [starB, h3]; simp [hx]
  · have h4 := nameL_right ⟨x.toNat, h⟩ hx
    simp only at h4
    rw [starB, h4]; simp
theorem nmV_name (x : UInt8) (hx : nmK x = true) : nameB (nmV x) = true := by
  have h : x.toNat < 256 := x.toNat_lt
  exact nameL_right ⟨x.toNat, h⟩ (by simpa [nmK] using hx)
theorem nmV_len (x : UInt8) : (nmV x).length ≤ 4 := nameL_len ⟨x.toNat, x.toNat_lt⟩
theorem tN_1 (t : Int) : 1 ≤ (tN t : Int) ∧ (tN t : Int) ≤ 5 := by unfold tN; omega
theorem askSb_len (l : List UInt8) : (askSb l).length ≤ 12 := by simp [askSb]; omega
theorem askUn_len (dl : Bool) (l : List UInt8) : (askUn dl l).length ≤ 6 := by cases dl <;> simp [askUn]; omega
theorem filter_le {α : Type} (p : α → Bool) (l : List α) : (l.filter p).length ≤ l.length := List.length_filter_le p l
theorem askHv_len (dl : Bool) (l : List UInt8) : (askHv dl l).length ≤ 4 := by
  cases dl <;> simp [askHv]
  have := filter_le nmK (l.take 4); rw [List.length_take] at this; omega
theorem tellRs_len (t : Int) (l : List UInt8) : (tellRs t l).length ≤ 12 := by
  simp only [tellRs, List.length_map]
  have := filter_le nmK (l.take 12); rw [List.length_take] at this; omega
theorem tellRm_len (dl : Bool) (l : List UInt8) : (tellRm dl l).length ≤ 6 := by
  cases dl <;> simp [tellRm]
  have := filter_le nmK (l.take 6); rw [List.length_take] at this; omega
theorem askDet_len (q : Nat) (d : List UInt8) : (askDet q d).length ≤ 40 := by unfold askDet; split <;> simp; omega
theorem askSb_ok (l : List UInt8) : (askSb l).all starB = true := by
  simp only [askSb, List.all_eq_true, List.mem_map]
  rintro s ⟨x, _, rfl⟩; exact nmV_star x
theorem askUn_ok (dl : Bool) (l : List UInt8) : (askUn dl l).all starB = true := by
  cases dl
  · rfl
  · simp only [askUn, if_true, List.all_eq_true, List.mem_map]
    rintro s ⟨x, _, rfl⟩; exact nmV_star x
theorem askHv_ok (dl : Bool) (l : List UInt8) : ((askHv dl l).map (·.1)).all nameB = true := by
  cases dl
  · rfl
  · simp only [askHv, if_true, List.all_eq_true, List.mem_map, List.mem_filter]
    rintro s ⟨h, ⟨x, ⟨_, hx⟩, rfl⟩, rfl⟩; exact nmV_name x hx
theorem idxI_some {p : Rs → Bool} {l : List Rs} {x : Rs} (hx : x ∈ l) (h : p x = true) : 0 ≤ idxI p l := by
  unfold idxI
  cases e : l.findIdx? p with
  | none =>
    rw [List.findIdx?_eq_none_iff] at e
    have := e x hx
    rw [h] at this; cases this
  | some i => simp
theorem ask_right (t : Int) (dl : Bool) (q : Nat) (d l m : List UInt8) : reqB (tN t) dl (q % 6) (askSb l) (askUn dl m) (askHv dl m) (askDet q d) = true := by
  have h0 := tN_1 t
  have h1 := askSb_len l
  have h2 := askUn_len dl m
  have h3 := askHv_len dl m
  have h4 := askDet_len q d
  have e1 : ((askSb l).length : Int) ≤ 64 := by omega
  have e2 : ((askUn dl m).length : Int) ≤ 64 := by omega
  have e3 : (((askHv dl m).map (·.1)).length : Int) ≤ 64 := by rw [List.length_map]; omega
  have e4 : ((askDet q d).length : Int) ≤ 256 := by omega
  have e5 : (decide (0 < ((q % 6 : Nat) : Int)) || askDet q d == []) = true := by
    by_cases h : 0 < q % 6
    · have : (0 : Int) < ((q % 6 : Nat) : Int) := by omega
      simp only [this, decide_true, Bool.true_or]
    · simp [askDet, h]
  have e6 : (dl || (((askUn dl m).length : Int) + ((askHv dl m).length : Int) == 0)) = true := by cases dl <;> simp [askUn, askHv]
  simp only [reqB, h0.1, h0.2, e1, e2, e3, e4, e5, e6, askSb_ok, askUn_ok, askHv_ok, decide_true, Bool.true_and, Bool.and_true]
theorem no_nonce (t : Int) (dl : Bool) (sb un : List (List UInt8)) (hv : List HvS) (c : UInt8) (d : List UInt8) : reqB t dl 0 sb un hv (c :: d) = false := by simp [reqB]
theorem no_sub (t : Int) (dl : Bool) (q : Nat) (sb un : List (List UInt8)) (hv : List HvS) (d : List UInt8) : reqB t dl q (sb ++ [[65]]) un hv d = false := by
  have : starB [65] = false := by decide +kernel
  simp [reqB, this]
theorem no_type (dl : Bool) (q : Nat) (sb un : List (List UInt8)) (hv : List HvS) (d : List UInt8) : reqB 6 dl q sb un hv d = false := by simp [reqB]
theorem no_unsub (t : Int) (q : Nat) (sb un : List (List UInt8)) (hv : List HvS) (d s : List UInt8) : reqB t false q sb (s :: un) hv d = false := by
  have : ¬ ((s :: un).length : Int) + (hv.length : Int) = 0 := by simp only [List.length_cons]; omega
  simp only [reqB, Bool.false_or, beq_false_of_ne this, Bool.and_false]
theorem no_have (t : Int) (dl : Bool) (q : Nat) (sb un : List (List UInt8)) (hv : List HvS) (d : List UInt8) (n : Nat) : reqB t dl q sb un (hv ++ [([42], n)]) d = false := by
  have : nameB [42] = false := by decide +kernel
  simp [reqB, this]
theorem no_detail (t : Int) (dl : Bool) (q : Nat) (sb un : List (List UInt8)) (hv : List HvS) (d : List UInt8) (h : 256 < d.length) : reqB t dl q sb un hv d = false := by
  have : ¬ (d.length : Int) ≤ 256 := by omega
  simp only [reqB, this, decide_false, Bool.false_and, Bool.and_false]
theorem no_rnonce (t : Int) (dl mo : Bool) (rs : List Rs) (rm : List (List UInt8)) : respB t dl mo 0 rs rm = false := by simp [respB]
theorem no_removed (t : Int) (dl mo : Bool) (q : Nat) (rs : List Rs) (rm : List (List UInt8)) : respB t dl mo q rs (rm ++ [[42]]) = false := by
  have : nameB [42] = false := by decide +kernel
  simp [respB, this]
theorem no_more (t : Int) (q : Nat) (rs : List Rs) (rm : List (List UInt8)) : respB t false true q rs rm = false := by simp [respB]
theorem no_rm (t : Int) (mo : Bool) (q : Nat) (rs : List Rs) (rm : List (List UInt8)) (s : List UInt8) : respB t false mo q rs (s :: rm) = false := by
  have : ¬ ((s :: rm).length : Int) = 0 := by simp only [List.length_cons]; omega
  simp only [respB, Bool.false_or, beq_false_of_ne this, Bool.false_and, Bool.and_false]
theorem no_res (t : Int) (dl mo : Bool) (q : Nat) (rs : List Rs) (r : Rs) (rm : List (List UInt8)) (h : wrongB t r = true) : respB t dl mo q (rs ++ [r]) rm = false := by
  have : 0 ≤ idxI (wrongB t) (rs ++ [r]) := idxI_some (x := r) (by simp) h
  simp only [respB, this, decide_true, Bool.not_true, Bool.false_and, Bool.and_false]
theorem wrong_type (t u : Int) (h : u ≠ t) (s b : List UInt8) (q : Nat) (g : Bool) : wrongB t ⟨u, s, q, g, b⟩ = true := by simp [wrongB, h]
theorem wrong_gone (t u : Int) (s b : List UInt8) (q : Nat) : wrongB t ⟨u, s, q, true, b⟩ = true := by simp [wrongB]
end Go.Proofs.YtbdacbcpniegiaaDoor.Q
namespace Go.Proofs.YtbdacbcpniegiaaDoor.Q
open Go Go.RowKit Go.Proofs Go.Sx
set_option maxHeartbeats 32000000
set_option maxRecDepth 100000
set_option linter.unusedSimpArgs false
set_option linter.unusedVariables false
theorem name_any (n : Nat) (hn : n < 256) (w : World) : Calls Tryd.prog 18 #[.int .u8 n] w fun x w' => x = .returned (.string (B (nameL n))) ∧ Below w.heap.size w w' := by
  refine (ctr_calls (name_ctr n hn) w (fun p hp => by cases hp) (vals := [.int .u8 n]) ⟨rfl, trivial⟩).mono ?_
  rintro x w' ⟨v, os', s, σ', rfl, ⟨rfl, rfl⟩, hd, hb⟩
  have hd : v = .string (B (nameL n)) := hd
  subst hd
  exact ⟨rfl, hb⟩
structure FarLM (X : Ctx) (qL : Option Addr) (L : List UInt8) (qM : Option Addr) (M : List UInt8) : Prop where
  l : FarU X qL L
  m : FarU X qM M
theorem FarLM.under {X X' : Ctx} {qL qM : Option Addr} {L M : List UInt8} (h : FarLM X qL L qM M) (hU : Under X X') : FarLM X' qL L qM M := ⟨h.l.under hU, h.m.under hU⟩
def askC (t : Int) (dl : Bool) (q : Nat) (d : List UInt8) (a0 : Option Addr) (n0 c0 : Nat) (a1 : Option Addr) (n1 c1 : Nat) (a2 : Option Addr) (n2 c2 : Nat) (qL : Option Addr) (L : List UInt8) (cL : Nat) (qM : Option Addr) (MM : List UInt8) (cM : Nat) (u m tn q6 : Int) (M : Nat → Bool) : Cfg :=
  ⟨[(3, bif M 18 then .one (.c (.loc 3 0)) else ddd), (27, bif M 17 then .one (.agg [.v (.int .i64 tn), .v (.bool dl), .v (.int .u64 q6), .row 2, .v (.slice none 0 0), .v (.slice none 0 0), .v (.string (B []))]) else ddd), (26, bif M 16 then .one (.c (.row 2)) else ddd), (25, bif M 15 then vv (.slice qL L.length cL) else ddd), (24, bif M 14 then .one (.c (.loc 0 8)) else ddd), (23, bif M 13 then vv (.int .u64 q6) else ddd), (22, bif M 12 then vv (.int .u64 q) else ddd), (21, bif M 11 then .one (.c (.loc 0 2)) else ddd), (20, bif M 10 then .one (.c (.loc 0 0)) else ddd), (19, bif M 9 then vv (.bool dl) else ddd), (18, bif M 8 then .one (.c (.loc 0 1)) else ddd), (17, bif M 7 then .one (.c (.loc 0 0)) else ddd), (16, bif M 6 then vv (.int .i64 tn) else ddd), (15, bif M 5 then vv (.int .i64 m) else ddd), (14, bif M 4 then vv (.int .u64 m) else ddd), (13, bif M 3 then vv (.int .u64 u) else ddd), (12, bif M 2 then vv (.int .i64 t) else ddd), (11, bif M 1 then .one (.c (.loc 0 0)) else ddd), (10, bif M 0 then .one (.c (.loc 0 0)) else ddd), (1, .one (.c (.loc 0 0))), (2, .one (.c (.loc 1 0)))],
   [.cells [.v (.int .i64 t), .v (.bool dl), .v (.int .u64 q), .v (.slice a0 n0 c0), .v (.slice a1 n1 c1), .v (.slice a2 n2 c2), .v (.string (B d)), .v (.bool true), .v (.slice qL L.length cL), .v (.slice qM MM.length cM)] 78, .cells [.v (.int .i64 0), .v (.bool false), .v (.int .u64 0), .v (.slice none 0 0), .v (.slice none 0 0), .v (.slice none 0 0), .v (.string (B []))] 41, bif M 16 then srow (askSb L) else .gone, bif M 18 then .cells [.v (.int .i64 0), .v (.bool false), .v (.int .u64 0), .v (.slice none 0 0), .v (.slice none 0 0), .v (.slice none 0 0), .v (.string (B []))] 41 else .gone]⟩
theorem ask_ctr (t : Int) (dl : Bool) (q : Nat) (hq : q < 18446744073709551616) (d : List UInt8) (hd : d.length ≤ 9223372036854775807) (a0 : Option Addr) (n0 c0 : Nat) (a1 : Option Addr) (n1 c1 : Nat) (a2 : Option Addr) (n2 c2 : Nat) (qL : Option Addr) (L : List UInt8) (cL : Nat) (qM : Option Addr) (M : List UInt8) (cM : Nat) :
    CtrF Tryd.prog (fun X => FarLM X qL L qM M) 38 [] [.one (.agg [.v (.int .i64 t), .v (.bool dl), .v (.int .u64 q), .v (.slice a0 n0 c0), .v (.slice a1 n1 c1), .v (.slice a2 n2 c2), .v (.string (B d)), .v (.bool true), .v (.slice qL L.length cL), .v (.slice qM M.length cM)])]
      (fun os v => os = [srow (askSb L), srow (askUn dl M), hrow (askHv dl M)] ∧ v = .one (.agg [.v (.int .i64 (tN t)), .v (.bool dl), .v (.int .u64 (q % 6 : Nat)), .row 0, .row 1, .row 2, .v (.string (B (askDet q d)))])) := by
  have hn : ∀ i, ∀ w, Calls Tryd.prog 18 #[.int .u8 (M.getD i 0).toNat] w _ := fun i w => name_any (M.getD i 0).toNat (M.getD i 0).toNat_lt w
  obtain ⟨u, hu⟩ : ∃ u : Int, IntKind.u64.wrap t = u := ⟨_, rfl⟩
  have hu2 : u = t % 18446744073709551616 := by rw [← hu, IntKind.wrap_u64]
  have m0 : 0 ≤ u := by rw [hu2]; omega
  obtain ⟨m, hm⟩ : ∃ m : Int, u.tmod 5 = m := ⟨_, rfl⟩
  have hm2 : m = u % 5 := by rw [← hm, Int.tmod_eq_emod_of_nonneg m0]
  have hm5 : IntKind.i64.wrap m = m := wI64 (by omega) (by omega)
  obtain ⟨tn, htn0⟩ : ∃ tn : Int, (tN t : Int) = tn := ⟨_, rfl⟩
  have htn : IntKind.i64.wrap (1 + m) = tn := by rw [wI64 (by omega) (by omega), ← htn0, tN, hm2, hu2]; omega
  obtain ⟨q6, hq60⟩ : ∃ q6 : Int, ((q % 6 : Nat) : Int) = q6 := ⟨_, rfl⟩
  have hq6 : (q : Int).tmod 6 = q6 := by rw [Int.tmod_eq_emod_of_nonneg (by omega), ← hq60]; omega
  rw [htn0, hq60]
  have hNL : CtrF Tryd.prog (fun X => FarU X qL L) 97 [] [vv (.slice qL L.length cL), vv (.int .i64 12)] (fun os v => os = [srow (askSb L)] ∧ v = .one (.c (.row 0))) := nameList_ctr L qL cL 12 (by decide)
  have hNM : CtrF Tryd.prog (fun X => FarU X qM M) 97 [] [vv (.slice qM M.length cM), vv (.int .i64 6)] (fun os v => os = [srow (askUn true M)] ∧ v = .one (.c (.row 0))) := nameList_ctr M qM cM 6 (by decide)
  have h16 : ∀ i, ((((M.getD i 0).toNat : Int).tmod 16 != 15) = nmK (M.getD i 0)) := fun i => by
    rw [Int.tmod_eq_emod_of_nonneg (by omega), nmK]
    generalize (M.getD i 0).toNat = x
    by_cases h : x % 16 = 15
    · have : (x : Int) % 16 = 15 := by omega
      simp only [h, this]; rfl
    · have : ¬ (x : Int) % 16 = 15 := by omega
      simp only [h, decide_false, Bool.not_false, bne_iff_ne, ne_eq, this, not_false_iff]
  have h4 : ∀ i, IntKind.u8.wrap (((M.getD i 0).toNat : Int).tdiv 4) = (((M.getD i 0).toNat / 4 : Nat) : Int) := fun i => by
    have := (M.getD i 0).toNat_lt
    rw [Int.tdiv_eq_ediv_of_nonneg (by omega), wB8 (by omega) (by omega)]; omega
  have h64 : ∀ i, IntKind.u64.wrap (((M.getD i 0).toNat / 4 : Nat) : Int) = (((M.getD i 0).toNat / 4 : Nat) : Int) := fun i => by
    have := (M.getD i 0).toNat_lt
    exact wU64 (by omega) (by omega)
  have ed : 0 < q6 → askDet q d = d.take ((if 40 < (d.length : Int) then 40 else (d.length : Int)).toNat - 0) := fun h => by
    rw [askDet, if_pos (by omega), Nat.sub_zero]
    split
    · rfl
    · rw [List.take_of_length_le (by omega), List.take_of_length_le (by omega)]
  have ed0 : q6 ≤ 0 → askDet q d = [] := fun h => by rw [askDet, if_neg (by omega)]
  have ehv : ∀ i, (i = 4 ∨ M.length ≤ i) ∧ i ≤ 4 → askHv true M = ((M.take i).filter nmK).map hvN := fun i h => by
    rw [askHv, if_pos rfl]
    rcases h with ⟨rfl | h, h2⟩
    · rfl
    · rw [List.take_of_length_le (i := 4) (by omega), List.take_of_length_le h]
  have hfl : ∀ i, i ≤ 4 → (((M.take i).filter nmK).map hvN).length ≤ 4 := fun i h => by
    rw [List.length_map]
    have := filter_le nmK (M.take i)
    rw [List.length_take] at this
    omega
  have hs1 : ∀ i, i < M.length → nmK (M.getD i 0) = true → hrow (((M.take i).filter nmK).map hvN ++ [hvN (M.getD i 0)]) = hrow (((M.take (i + 1)).filter nmK).map hvN) := fun i hi h => by
    rw [List.take_add_one, List.getElem?_eq_getElem hi, List.filter_append, List.map_append]
    rw [List.getD_eq_getElem?_getD, List.getElem?_eq_getElem hi] at h ⊢
    simp only [Option.getD_some] at h
    simp only [Option.toList_some, List.filter_cons, h, if_true, List.filter_nil, List.map_cons, List.map_nil, Option.getD_some]
  have hs0 : ∀ i, i < M.length → nmK (M.getD i 0) = false → (M.take i).filter nmK = (M.take (i + 1)).filter nmK := fun i hi h => by
    rw [List.take_add_one, List.getElem?_eq_getElem hi, List.filter_append]
    rw [List.getD_eq_getElem?_getD, List.getElem?_eq_getElem hi] at h
    simp only [Option.getD_some] at h
    simp [h]
  refine CtrF.less ?_
  intro X0 hP0 hG0 N0 hN0
  refine CallVC.inline (f := 38) (by rw [hP0]; exact Tryd.func38) rfl Tryd.ntmps38 rfl (by simp) ?_
  intro X K hU hnt hbl hK
  have hP : X.P = Tryd.prog := by rw [hU.P, hP0]
  have hG := hG0.under hU
  have hT : zeroCells X.P 41 = some [(Value.int IntKind.i64 0), (Value.bool false), (Value.int IntKind.u64 0), (Value.slice none 0 0), (Value.slice none 0 0), (Value.slice none 0 0), (Value.string { data := #[] })] ∧ fieldOff X.P 78 1 = some 7 ∧ aggOf X.P 4 = some false ∧ szOf X.P 4 = some 1 ∧ fieldOff X.P 78 0 = some 0 ∧ aggOf X.P 41 = some true ∧ szOf X.P 41 = some 7 ∧ fieldOff X.P 41 0 = some 0 ∧ aggOf X.P 3 = some false ∧ szOf X.P 3 = some 1 ∧ X.P.underlying 3 = some (TypeDesc.int IntKind.i64) ∧ X.P.underlying 164 = some (TypeDesc.int IntKind.u64) ∧ isBytesT X.P 3 = false ∧ isStrT X.P 164 = false ∧ isBytesT X.P 164 = false ∧ isStrT X.P 3 = false ∧ fieldOff X.P 41 1 = some 1 ∧ fieldOff X.P 41 2 = some 2 ∧ aggOf X.P 22 = some false ∧ szOf X.P 22 = some 1 ∧ fieldOff X.P 78 2 = some 8 ∧ aggOf X.P 58 = some false ∧ szOf X.P 58 = some 1 ∧ calleeOk X.P 97 = true ∧ fieldsOf X.P 41 = some [(0, 1), (1, 1), (2, 1), (3, 1), (4, 1), (5, 1), (6, 1)] ∧ fieldOff X.P 78 3 = some 9 ∧ fieldOff X.P 41 4 = some 4 ∧ szOf X.P 38 = some 1 ∧ X.P.underlying 58 = some (TypeDesc.slice 5) ∧ elemSz X.P 58 = some (5, 1) ∧ aggOf X.P 5 = some false ∧ szOf X.P 5 = some 1 ∧ fieldOff X.P 41 5 = some 5 ∧ aggOf X.P 39 = some false ∧ szOf X.P 39 = some 1 ∧ calleeOk X.P 18 = true ∧ X.P.underlying 5 = some (TypeDesc.int IntKind.u8) ∧ X.P.underlying 22 = some (TypeDesc.int IntKind.u64) ∧ isBytesT X.P 5 = false ∧ isStrT X.P 22 = false ∧ fieldsOf X.P 87 = some [(0, 1), (1, 1)] ∧ zeroCells X.P 87 = some [(Value.string { data := #[] }), (Value.int IntKind.u64 0)] ∧ elemSz X.P 39 = some (87, 2) ∧ elemInf X.P 39 = some (87, 2, 24, (Value.agg #[(Value.string { data := #[] }), (Value.int IntKind.u64 0)])) ∧ isStrT X.P 39 = false ∧ fieldOff X.P 41 6 = some 6 ∧ aggOf X.P 9 = some false ∧ szOf X.P 9 = some 1 ∧ X.P.underlying 9 = some TypeDesc.string ∧ isStrT X.P 9 = true := by rw [hP]; exact ⟨Ty.ze41, Ty.fo78_1, Ty.ag4, Ty.sz4, Ty.fo78_0, Ty.ag41, Ty.sz41, Ty.fo41_0, Ty.ag3, Ty.sz3, Tryd.underlying3, Tryd.underlying164, Ty.ib3, Ty.is164, Ty.ib164, Ty.is3, Ty.fo41_1, Ty.fo41_2, Ty.ag22, Ty.sz22, Ty.fo78_2, Ty.ag58, Ty.sz58, Ty.co97, Ty.fs41, Ty.fo78_3, Ty.fo41_4, Ty.sz38, Tryd.underlying58, Ty.el58, Ty.ag5, Ty.sz5, Ty.fo41_5, Ty.ag39, Ty.sz39, Ty.co18, Tryd.underlying5, Tryd.underlying22, Ty.ib5, Ty.is22, Ty.fs87, Ty.ze87, Ty.el39, Ty.ei39, Ty.is39, Ty.fo41_6, Ty.ag9, Ty.sz9, Tryd.underlying9, Ty.is9⟩
  simp only [GA, ↓GB, GX, simprocAttr] at hbl ⊢
  have hGL := hG.l
  have hGM := hG.m
  repeat' (first
    | (refine SX.seqK ?_; intro N hN)
    | ((first | (refine SX.ops ?_)); simp only [GA, ↓GB, GX, simprocAttr, hnt, hT])
    | ((first | refine SX.skip ?_ | refine SX.exit ?_ | refine SX.label ?_); try simp only [GA, ↓GB, GX, simprocAttr])
    | (refine SX.cond rfl (fun hb => ?_) (fun hb => ?_) <;> ((first | cases hb | (simp only [HBs] at hb) | skip) <;> (first | (exfalso; omega) | skip)))
    | (refine SX.ret ?_; try simp only [GA, ↓GB, GX, simprocAttr])
    | (refine hN _ ?_; clear hN N)
    | ((first | refine hK _ _ (FinI.ret3 ?_) | refine hK _ _ (FinI.nrm3 ?_)); simp only [GA, ↓GB, GX, simprocAttr, finP_s, hnt, hT]; refine Done.out ?_)
    | (clear hN N; first | (refine hN _ ?_; clear hN N) | (clear hN N; first | (refine hN _ ?_; clear hN N) | (clear hN N; first | (refine hN _ ?_; clear hN N) | (clear hN N; first | (refine hN _ ?_; clear hN N) | (clear hN N; first | (refine hN _ ?_; clear hN N) | (refine hN _ ?_; clear hN N))))))
    | (refine bif2.mk (fun hb => ?_) (fun hb => ?_) <;> (try simp only [hb, GA, ↓GB, GX, simprocAttr, hnt, hT]) <;> ((first | cases hb | (simp only [HBs] at hb) | skip) <;> (first | (exfalso; omega) | skip)))
    | (refine SX.block ?_)
    | (refine and_mk ?_ ?_; (focus first | decide | omega | rfl | assumption | (simp only [List.length_append, List.length_cons, List.length_nil, B_size]; omega) | (simp; done)))
    | (refine And.intro ?_ ?_))
  all_goals (try refine Done.mk ?_)
  refine SX.dia (id := 3) [0, 1, 2, 3, 4, 5, 6, 7, 8, 9, 10, 11, 12, 13, 14, 15, 16, 17, 18] (askC t dl q d a0 n0 c0 a1 n1 c1 a2 n2 c2 qL L cL qM M cM u m tn q6) [.s 19] (askC t dl q d a0 n0 c0 a1 n1 c1 a2 n2 c2 qL L cL qM M cM u m tn q6 (fun _ => true)) ?_ ?_ ?_ ?_ rfl ?_
  · rw [hP]; kernel_rfl
  · kernel_rfl
  · refine Imp.trans (Imp.le [0, 1] (d := ⟨[(1, .one (.c (.loc 0 0))), (2, .one (.c (.loc 1 0)))], [.cells [.v (.int .i64 t), .v (.bool dl), .v (.int .u64 q), .v (.slice a0 n0 c0), .v (.slice a1 n1 c1), .v (.slice a2 n2 c2), .v (.string (B d)), .v (.bool true), .v (.slice qL L.length cL), .v (.slice qM M.length cM)] 78, .cells [.v (.int .i64 0), .v (.bool false), .v (.int .u64 0), .v (.slice none 0 0), .v (.slice none 0 0), .v (.slice none 0 0), .v (.string (B []))] 41]⟩) (by (refine LeR.of ?_ ?_ ?_ ?_ ?_ ?_ ?_ <;> first | (rw [hbl]; decide) | decide | (simp only [GA, ↓GB, GX, simprocAttr, GDs]; done) | (simp only [GA, ↓GB, GX, simprocAttr, GDs]; rfl; done)))) ?_
    refine Imp.trans (Imp.dead (t := 10) (by rw [hnt]; decide)) ?_
    refine Imp.trans (Imp.dead (t := 11) (by rw [hnt]; decide)) ?_
    refine Imp.trans (Imp.dead (t := 12) (by rw [hnt]; decide)) ?_
    refine Imp.trans (Imp.dead (t := 13) (by rw [hnt]; decide)) ?_
    refine Imp.trans (Imp.dead (t := 14) (by rw [hnt]; decide)) ?_
    refine Imp.trans (Imp.dead (t := 15) (by rw [hnt]; decide)) ?_
    refine Imp.trans (Imp.dead (t := 16) (by rw [hnt]; decide)) ?_
    refine Imp.trans (Imp.dead (t := 17) (by rw [hnt]; decide)) ?_
    refine Imp.trans (Imp.dead (t := 18) (by rw [hnt]; decide)) ?_
    refine Imp.trans (Imp.dead (t := 19) (by rw [hnt]; decide)) ?_
    refine Imp.trans (Imp.dead (t := 20) (by rw [hnt]; decide)) ?_
    refine Imp.trans (Imp.dead (t := 21) (by rw [hnt]; decide)) ?_
    refine Imp.trans (Imp.dead (t := 22) (by rw [hnt]; decide)) ?_
    refine Imp.trans (Imp.dead (t := 23) (by rw [hnt]; decide)) ?_
    refine Imp.trans (Imp.dead (t := 24) (by rw [hnt]; decide)) ?_
    refine Imp.trans (Imp.dead (t := 25) (by rw [hnt]; decide)) ?_
    refine Imp.trans (Imp.dead (t := 26) (by rw [hnt]; decide)) ?_
    refine Imp.trans (Imp.dead (t := 27) (by rw [hnt]; decide)) ?_
    refine Imp.trans (Imp.dead (t := 3) (by rw [hnt]; decide)) ?_
    refine Imp.trans Imp.gone ?_
    refine Imp.trans Imp.gone ?_
    exact Imp.refl
  · rintro M i hi hd
    simp only [List.mem_cons, List.not_mem_nil, or_false] at hi
    rcases hi with rfl | rfl | rfl | rfl | rfl | rfl | rfl | rfl | rfl | rfl | rfl | rfl | rfl | rfl | rfl | rfl | rfl | rfl | rfl
    · have n1 : M 1 = false := dNot hd rfl (Array.mem_of_getElem? (i := 0) rfl) rfl hd.un
      have n2 : M 2 = false := dNot hd rfl (Array.mem_of_getElem? (i := 0) rfl) rfl n1
      have n3 : M 3 = false := dNot hd rfl (Array.mem_of_getElem? (i := 0) rfl) rfl n2
      have n4 : M 4 = false := dNot hd rfl (Array.mem_of_getElem? (i := 0) rfl) rfl n3
      have n5 : M 5 = false := dNot hd rfl (Array.mem_of_getElem? (i := 0) rfl) rfl n4
      have n6 : M 6 = false := dNot hd rfl (Array.mem_of_getElem? (i := 0) rfl) rfl n5
      have n17 : M 17 = false := dNot hd rfl (Array.mem_of_getElem? (i := 0) rfl) rfl n6
      have hun := hd.un
      refine ⟨_, rfl, rfl, ?_⟩
      simp only [askC, upd, ↓reduceIte, Nat.reduceEqDiff, reduceCtorEq, hun, n1, n2, n3, n4, n5, n6, n17, ren_cond, okB_cond, lren_cond, lokB_cond, map_cond, all_cond, Bool.cond_self, cond_true, cond_false, List.map_append, List.all_append, List.map_cons, List.map_nil, Bool.and_true, List.nil_append, List.cons_append, simprocAttr]
      refine vcOp_sound ?_
      simp only [GA, ↓GB, GX, simprocAttr, hnt, hT, hu, hm, hm5, htn, hq6]
      repeat' (refine and_mk ?_ ?_; (focus first | decide | omega | rfl | assumption))
      all_goals (refine Imp.le [0, 1, 2, 3] ?_; (refine LeR.of ?_ ?_ ?_ ?_ ?_ ?_ ?_ <;> first | (rw [hbl]; decide) | decide | (simp only [GA, ↓GB, GX, simprocAttr, GDs, ren_cond, okB_cond, lren_cond, lokB_cond, map_cond, all_cond, Bool.cond_self, cond_true, cond_false, List.map_append, List.all_append, List.map_cons, List.map_nil, Bool.and_true]; done)))
    · have m0 : M 0 = true := hd.dep _ rfl _ (Array.mem_of_getElem? (i := 0) rfl) rfl
      have n2 : M 2 = false := dNot hd rfl (Array.mem_of_getElem? (i := 0) rfl) rfl hd.un
      have n3 : M 3 = false := dNot hd rfl (Array.mem_of_getElem? (i := 0) rfl) rfl n2
      have n4 : M 4 = false := dNot hd rfl (Array.mem_of_getElem? (i := 0) rfl) rfl n3
      have n5 : M 5 = false := dNot hd rfl (Array.mem_of_getElem? (i := 0) rfl) rfl n4
      have n6 : M 6 = false := dNot hd rfl (Array.mem_of_getElem? (i := 0) rfl) rfl n5
      have n17 : M 17 = false := dNot hd rfl (Array.mem_of_getElem? (i := 0) rfl) rfl n6
      have hun := hd.un
      refine ⟨_, rfl, rfl, ?_⟩
      simp only [askC, upd, ↓reduceIte, Nat.reduceEqDiff, reduceCtorEq, hun, m0, n2, n3, n4, n5, n6, n17, ren_cond, okB_cond, lren_cond, lokB_cond, map_cond, all_cond, Bool.cond_self, cond_true, cond_false, List.map_append, List.all_append, List.map_cons, List.map_nil, Bool.and_true, List.nil_append, List.cons_append, simprocAttr]
      refine vcOp_sound ?_
      simp only [GA, ↓GB, GX, simprocAttr, hnt, hT, hu, hm, hm5, htn, hq6]
      repeat' (refine and_mk ?_ ?_; (focus first | decide | omega | rfl | assumption))
      all_goals (refine Imp.le [0, 1, 2, 3] ?_; (refine LeR.of ?_ ?_ ?_ ?_ ?_ ?_ ?_ <;> first | (rw [hbl]; decide) | decide | (simp only [GA, ↓GB, GX, simprocAttr, GDs, ren_cond, okB_cond, lren_cond, lokB_cond, map_cond, all_cond, Bool.cond_self, cond_true, cond_false, List.map_append, List.all_append, List.map_cons, List.map_nil, Bool.and_true]; done)))
    · have m1 : M 1 = true := hd.dep _ rfl _ (Array.mem_of_getElem? (i := 0) rfl) rfl
      have m0 : M 0 = true := hd.cl 1 _ rfl m1 _ (Array.mem_of_getElem? (i := 0) rfl) rfl
      have n3 : M 3 = false := dNot hd rfl (Array.mem_of_getElem? (i := 0) rfl) rfl hd.un
      have n4 : M 4 = false := dNot hd rfl (Array.mem_of_getElem? (i := 0) rfl) rfl n3
      have n5 : M 5 = false := dNot hd rfl (Array.mem_of_getElem? (i := 0) rfl) rfl n4
      have n6 : M 6 = false := dNot hd rfl (Array.mem_of_getElem? (i := 0) rfl) rfl n5
      have n17 : M 17 = false := dNot hd rfl (Array.mem_of_getElem? (i := 0) rfl) rfl n6
      have hun := hd.un
      refine ⟨_, rfl, rfl, ?_⟩
      simp only [askC, upd, ↓reduceIte, Nat.reduceEqDiff, reduceCtorEq, hun, m1, m0, n3, n4, n5, n6, n17, ren_cond, okB_cond, lren_cond, lokB_cond, map_cond, all_cond, Bool.cond_self, cond_true, cond_false, List.map_append, List.all_append, List.map_cons, List.map_nil, Bool.and_true, List.nil_append, List.cons_append, simprocAttr]
      refine vcOp_sound ?_
      simp only [GA, ↓GB, GX, simprocAttr, hnt, hT, hu, hm, hm5, htn, hq6]
      repeat' (refine and_mk ?_ ?_; (focus first | decide | omega | rfl | assumption))
      all_goals (refine Imp.le [0, 1, 2, 3] ?_; (refine LeR.of ?_ ?_ ?_ ?_ ?_ ?_ ?_ <;> first | (rw [hbl]; decide) | decide | (simp only [GA, ↓GB, GX, simprocAttr, GDs, ren_cond, okB_cond, lren_cond, lokB_cond, map_cond, all_cond, Bool.cond_self, cond_true, cond_false, List.map_append, List.all_append, List.map_cons, List.map_nil, Bool.and_true]; done)))
    · have m2 : M 2 = true := hd.dep _ rfl _ (Array.mem_of_getElem? (i := 0) rfl) rfl
      have m1 : M 1 = true := hd.cl 2 _ rfl m2 _ (Array.mem_of_getElem? (i := 0) rfl) rfl
      have m0 : M 0 = true := hd.cl 1 _ rfl m1 _ (Array.mem_of_getElem? (i := 0) rfl) rfl
      have n4 : M 4 = false := dNot hd rfl (Array.mem_of_getElem? (i := 0) rfl) rfl hd.un
      have n5 : M 5 = false := dNot hd rfl (Array.mem_of_getElem? (i := 0) rfl) rfl n4
      have n6 : M 6 = false := dNot hd rfl (Array.mem_of_getElem? (i := 0) rfl) rfl n5
      have n17 : M 17 = false := dNot hd rfl (Array.mem_of_getElem? (i := 0) rfl) rfl n6
      have hun := hd.un
      refine ⟨_, rfl, rfl, ?_⟩
      simp only [askC, upd, ↓reduceIte, Nat.reduceEqDiff, reduceCtorEq, hun, m2, m1, m0, n4, n5, n6, n17, ren_cond, okB_cond, lren_cond, lokB_cond, map_cond, all_cond, Bool.cond_self, cond_true, cond_false, List.map_append, List.all_append, List.map_cons, List.map_nil, Bool.and_true, List.nil_append, List.cons_append, simprocAttr]
      refine vcOp_sound ?_
      simp only [GA, ↓GB, GX, simprocAttr, hnt, hT, hu, hm, hm5, htn, hq6]
      repeat' (refine and_mk ?_ ?_; (focus first | decide | omega | rfl | assumption))
      all_goals (refine Imp.le [0, 1, 2, 3] ?_; (refine LeR.of ?_ ?_ ?_ ?_ ?_ ?_ ?_ <;> first | (rw [hbl]; decide) | decide | (simp only [GA, ↓GB, GX, simprocAttr, GDs, ren_cond, okB_cond, lren_cond, lokB_cond, map_cond, all_cond, Bool.cond_self, cond_true, cond_false, List.map_append, List.all_append, List.map_cons, List.map_nil, Bool.and_true]; done)))
    · have m3 : M 3 = true := hd.dep _ rfl _ (Array.mem_of_getElem? (i := 0) rfl) rfl
      have m2 : M 2 = true := hd.cl 3 _ rfl m3 _ (Array.mem_of_getElem? (i := 0) rfl) rfl
      have m1 : M 1 = true := hd.cl 2 _ rfl m2 _ (Array.mem_of_getElem? (i := 0) rfl) rfl
      have m0 : M 0 = true := hd.cl 1 _ rfl m1 _ (Array.mem_of_getElem? (i := 0) rfl) rfl
      have n5 : M 5 = false := dNot hd rfl (Array.mem_of_getElem? (i := 0) rfl) rfl hd.un
      have n6 : M 6 = false := dNot hd rfl (Array.mem_of_getElem? (i := 0) rfl) rfl n5
      have n17 : M 17 = false := dNot hd rfl (Array.mem_of_getElem? (i := 0) rfl) rfl n6
      have hun := hd.un
      refine ⟨_, rfl, rfl, ?_⟩
      simp only [askC, upd, ↓reduceIte, Nat.reduceEqDiff, reduceCtorEq, hun, m3, m2, m1, m0, n5, n6, n17, ren_cond, okB_cond, lren_cond, lokB_cond, map_cond, all_cond, Bool.cond_self, cond_true, cond_false, List.map_append, List.all_append, List.map_cons, List.map_nil, Bool.and_true, List.nil_append, List.cons_append, simprocAttr]
      refine vcOp_sound ?_
      simp only [GA, ↓GB, GX, simprocAttr, hnt, hT, hu, hm, hm5, htn, hq6]
      repeat' (refine and_mk ?_ ?_; (focus first | decide | omega | rfl | assumption))
      all_goals (refine Imp.le [0, 1, 2, 3] ?_; (refine LeR.of ?_ ?_ ?_ ?_ ?_ ?_ ?_ <;> first | (rw [hbl]; decide) | decide | (simp only [GA, ↓GB, GX, simprocAttr, GDs, ren_cond, okB_cond, lren_cond, lokB_cond, map_cond, all_cond, Bool.cond_self, cond_true, cond_false, List.map_append, List.all_append, List.map_cons, List.map_nil, Bool.and_true]; done)))
    · have m4 : M 4 = true := hd.dep _ rfl _ (Array.mem_of_getElem? (i := 0) rfl) rfl
      have m3 : M 3 = true := hd.cl 4 _ rfl m4 _ (Array.mem_of_getElem? (i := 0) rfl) rfl
      have m2 : M 2 = true := hd.cl 3 _ rfl m3 _ (Array.mem_of_getElem? (i := 0) rfl) rfl
      have m1 : M 1 = true := hd.cl 2 _ rfl m2 _ (Array.mem_of_getElem? (i := 0) rfl) rfl
      have m0 : M 0 = true := hd.cl 1 _ rfl m1 _ (Array.mem_of_getElem? (i := 0) rfl) rfl
      have n6 : M 6 = false := dNot hd rfl (Array.mem_of_getElem? (i := 0) rfl) rfl hd.un
      have n17 : M 17 = false := dNot hd rfl (Array.mem_of_getElem? (i := 0) rfl) rfl n6
      have hun := hd.un
      refine ⟨_, rfl, rfl, ?_⟩
      simp only [askC, upd, ↓reduceIte, Nat.reduceEqDiff, reduceCtorEq, hun, m4, m3, m2, m1, m0, n6, n17, ren_cond, okB_cond, lren_cond, lokB_cond, map_cond, all_cond, Bool.cond_self, cond_true, cond_false, List.map_append, List.all_append, List.map_cons, List.map_nil, Bool.and_true, List.nil_append, List.cons_append, simprocAttr]
      refine vcOp_sound ?_
      simp only [GA, ↓GB, GX, simprocAttr, hnt, hT, hu, hm, hm5, htn, hq6]
      repeat' (refine and_mk ?_ ?_; (focus first | decide | omega | rfl | assumption))
      all_goals (refine Imp.le [0, 1, 2, 3] ?_; (refine LeR.of ?_ ?_ ?_ ?_ ?_ ?_ ?_ <;> first | (rw [hbl]; decide) | decide | (simp only [GA, ↓GB, GX, simprocAttr, GDs, ren_cond, okB_cond, lren_cond, lokB_cond, map_cond, all_cond, Bool.cond_self, cond_true, cond_false, List.map_append, List.all_append, List.map_cons, List.map_nil, Bool.and_true]; done)))
    · have m5 : M 5 = true := hd.dep _ rfl _ (Array.mem_of_getElem? (i := 0) rfl) rfl
      have m4 : M 4 = true := hd.cl 5 _ rfl m5 _ (Array.mem_of_getElem? (i := 0) rfl) rfl
      have m3 : M 3 = true := hd.cl 4 _ rfl m4 _ (Array.mem_of_getElem? (i := 0) rfl) rfl
      have m2 : M 2 = true := hd.cl 3 _ rfl m3 _ (Array.mem_of_getElem? (i := 0) rfl) rfl
      have m1 : M 1 = true := hd.cl 2 _ rfl m2 _ (Array.mem_of_getElem? (i := 0) rfl) rfl
      have m0 : M 0 = true := hd.cl 1 _ rfl m1 _ (Array.mem_of_getElem? (i := 0) rfl) rfl
      have n17 : M 17 = false := dNot hd rfl (Array.mem_of_getElem? (i := 0) rfl) rfl hd.un
      have hun := hd.un
      refine ⟨_, rfl, rfl, ?_⟩
      simp only [askC, upd, ↓reduceIte, Nat.reduceEqDiff, reduceCtorEq, hun, m5, m4, m3, m2, m1, m0, n17, ren_cond, okB_cond, lren_cond, lokB_cond, map_cond, all_cond, Bool.cond_self, cond_true, cond_false, List.map_append, List.all_append, List.map_cons, List.map_nil, Bool.and_true, List.nil_append, List.cons_append, simprocAttr]
      refine vcOp_sound ?_
      simp only [GA, ↓GB, GX, simprocAttr, hnt, hT, hu, hm, hm5, htn, hq6]
      repeat' (refine and_mk ?_ ?_; (focus first | decide | omega | rfl | assumption))
      all_goals (refine Imp.le [0, 1, 2, 3] ?_; (refine LeR.of ?_ ?_ ?_ ?_ ?_ ?_ ?_ <;> first | (rw [hbl]; decide) | decide | (simp only [GA, ↓GB, GX, simprocAttr, GDs, ren_cond, okB_cond, lren_cond, lokB_cond, map_cond, all_cond, Bool.cond_self, cond_true, cond_false, List.map_append, List.all_append, List.map_cons, List.map_nil, Bool.and_true]; done)))
    · have n8 : M 8 = false := dNot hd rfl (Array.mem_of_getElem? (i := 0) rfl) rfl hd.un
      have n9 : M 9 = false := dNot hd rfl (Array.mem_of_getElem? (i := 0) rfl) rfl n8
      have n17 : M 17 = false := dNot hd rfl (Array.mem_of_getElem? (i := 1) rfl) rfl n9
      have hun := hd.un
      refine ⟨_, rfl, rfl, ?_⟩
      simp only [askC, upd, ↓reduceIte, Nat.reduceEqDiff, reduceCtorEq, hun, n8, n9, n17, ren_cond, okB_cond, lren_cond, lokB_cond, map_cond, all_cond, Bool.cond_self, cond_true, cond_false, List.map_append, List.all_append, List.map_cons, List.map_nil, Bool.and_true, List.nil_append, List.cons_append, simprocAttr]
      refine vcOp_sound ?_
      simp only [GA, ↓GB, GX, simprocAttr, hnt, hT, hu, hm, hm5, htn, hq6]
      repeat' (refine and_mk ?_ ?_; (focus first | decide | omega | rfl | assumption))
      all_goals (refine Imp.le [0, 1, 2, 3] ?_; (refine LeR.of ?_ ?_ ?_ ?_ ?_ ?_ ?_ <;> first | (rw [hbl]; decide) | decide | (simp only [GA, ↓GB, GX, simprocAttr, GDs, ren_cond, okB_cond, lren_cond, lokB_cond, map_cond, all_cond, Bool.cond_self, cond_true, cond_false, List.map_append, List.all_append, List.map_cons, List.map_nil, Bool.and_true]; done)))
    · have m7 : M 7 = true := hd.dep _ rfl _ (Array.mem_of_getElem? (i := 0) rfl) rfl
      have n9 : M 9 = false := dNot hd rfl (Array.mem_of_getElem? (i := 0) rfl) rfl hd.un
      have n17 : M 17 = false := dNot hd rfl (Array.mem_of_getElem? (i := 1) rfl) rfl n9
      have hun := hd.un
      refine ⟨_, rfl, rfl, ?_⟩
      simp only [askC, upd, ↓reduceIte, Nat.reduceEqDiff, reduceCtorEq, hun, m7, n9, n17, ren_cond, okB_cond, lren_cond, lokB_cond, map_cond, all_cond, Bool.cond_self, cond_true, cond_false, List.map_append, List.all_append, List.map_cons, List.map_nil, Bool.and_true, List.nil_append, List.cons_append, simprocAttr]
      refine vcOp_sound ?_
      simp only [GA, ↓GB, GX, simprocAttr, hnt, hT, hu, hm, hm5, htn, hq6]
      repeat' (refine and_mk ?_ ?_; (focus first | decide | omega | rfl | assumption))
      all_goals (refine Imp.le [0, 1, 2, 3] ?_; (refine LeR.of ?_ ?_ ?_ ?_ ?_ ?_ ?_ <;> first | (rw [hbl]; decide) | decide | (simp only [GA, ↓GB, GX, simprocAttr, GDs, ren_cond, okB_cond, lren_cond, lokB_cond, map_cond, all_cond, Bool.cond_self, cond_true, cond_false, List.map_append, List.all_append, List.map_cons, List.map_nil, Bool.and_true]; done)))
    · have m8 : M 8 = true := hd.dep _ rfl _ (Array.mem_of_getElem? (i := 0) rfl) rfl
      have m7 : M 7 = true := hd.cl 8 _ rfl m8 _ (Array.mem_of_getElem? (i := 0) rfl) rfl
      have n17 : M 17 = false := dNot hd rfl (Array.mem_of_getElem? (i := 1) rfl) rfl hd.un
      have hun := hd.un
      refine ⟨_, rfl, rfl, ?_⟩
      simp only [askC, upd, ↓reduceIte, Nat.reduceEqDiff, reduceCtorEq, hun, m8, m7, n17, ren_cond, okB_cond, lren_cond, lokB_cond, map_cond, all_cond, Bool.cond_self, cond_true, cond_false, List.map_append, List.all_append, List.map_cons, List.map_nil, Bool.and_true, List.nil_append, List.cons_append, simprocAttr]
      refine vcOp_sound ?_
      simp only [GA, ↓GB, GX, simprocAttr, hnt, hT, hu, hm, hm5, htn, hq6]
      repeat' (refine and_mk ?_ ?_; (focus first | decide | omega | rfl | assumption))
      all_goals (refine Imp.le [0, 1, 2, 3] ?_; (refine LeR.of ?_ ?_ ?_ ?_ ?_ ?_ ?_ <;> first | (rw [hbl]; decide) | decide | (simp only [GA, ↓GB, GX, simprocAttr, GDs, ren_cond, okB_cond, lren_cond, lokB_cond, map_cond, all_cond, Bool.cond_self, cond_true, cond_false, List.map_append, List.all_append, List.map_cons, List.map_nil, Bool.and_true]; done)))
    · have n11 : M 11 = false := dNot hd rfl (Array.mem_of_getElem? (i := 0) rfl) rfl hd.un
      have n12 : M 12 = false := dNot hd rfl (Array.mem_of_getElem? (i := 0) rfl) rfl n11
      have n13 : M 13 = false := dNot hd rfl (Array.mem_of_getElem? (i := 0) rfl) rfl n12
      have n17 : M 17 = false := dNot hd rfl (Array.mem_of_getElem? (i := 2) rfl) rfl n13
      have hun := hd.un
      refine ⟨_, rfl, rfl, ?_⟩
      simp only [askC, upd, ↓reduceIte, Nat.reduceEqDiff, reduceCtorEq, hun, n11, n12, n13, n17, ren_cond, okB_cond, lren_cond, lokB_cond, map_cond, all_cond, Bool.cond_self, cond_true, cond_false, List.map_append, List.all_append, List.map_cons, List.map_nil, Bool.and_true, List.nil_append, List.cons_append, simprocAttr]
      refine vcOp_sound ?_
      simp only [GA, ↓GB, GX, simprocAttr, hnt, hT, hu, hm, hm5, htn, hq6]
      repeat' (refine and_mk ?_ ?_; (focus first | decide | omega | rfl | assumption))
      all_goals (refine Imp.le [0, 1, 2, 3] ?_; (refine LeR.of ?_ ?_ ?_ ?_ ?_ ?_ ?_ <;> first | (rw [hbl]; decide) | decide | (simp only [GA, ↓GB, GX, simprocAttr, GDs, ren_cond, okB_cond, lren_cond, lokB_cond, map_cond, all_cond, Bool.cond_self, cond_true, cond_false, List.map_append, List.all_append, List.map_cons, List.map_nil, Bool.and_true]; done)))
    · have m10 : M 10 = true := hd.dep _ rfl _ (Array.mem_of_getElem? (i := 0) rfl) rfl
      have n12 : M 12 = false := dNot hd rfl (Array.mem_of_getElem? (i := 0) rfl) rfl hd.un
      have n13 : M 13 = false := dNot hd rfl (Array.mem_of_getElem? (i := 0) rfl) rfl n12
      have n17 : M 17 = false := dNot hd rfl (Array.mem_of_getElem? (i := 2) rfl) rfl n13
      have hun := hd.un
      refine ⟨_, rfl, rfl, ?_⟩
      simp only [askC, upd, ↓reduceIte, Nat.reduceEqDiff, reduceCtorEq, hun, m10, n12, n13, n17, ren_cond, okB_cond, lren_cond, lokB_cond, map_cond, all_cond, Bool.cond_self, cond_true, cond_false, List.map_append, List.all_append, List.map_cons, List.map_nil, Bool.and_true, List.nil_append, List.cons_append, simprocAttr]
      refine vcOp_sound ?_
      simp only [GA, ↓GB, GX, simprocAttr, hnt, hT, hu, hm, hm5, htn, hq6]
      repeat' (refine and_mk ?_ ?_; (focus first | decide | omega | rfl | assumption))
      all_goals (refine Imp.le [0, 1, 2, 3] ?_; (refine LeR.of ?_ ?_ ?_ ?_ ?_ ?_ ?_ <;> first | (rw [hbl]; decide) | decide | (simp only [GA, ↓GB, GX, simprocAttr, GDs, ren_cond, okB_cond, lren_cond, lokB_cond, map_cond, all_cond, Bool.cond_self, cond_true, cond_false, List.map_append, List.all_append, List.map_cons, List.map_nil, Bool.and_true]; done)))
    · have m11 : M 11 = true := hd.dep _ rfl _ (Array.mem_of_getElem? (i := 0) rfl) rfl
      have m10 : M 10 = true := hd.cl 11 _ rfl m11 _ (Array.mem_of_getElem? (i := 0) rfl) rfl
      have n13 : M 13 = false := dNot hd rfl (Array.mem_of_getElem? (i := 0) rfl) rfl hd.un
      have n17 : M 17 = false := dNot hd rfl (Array.mem_of_getElem? (i := 2) rfl) rfl n13
      have hun := hd.un
      refine ⟨_, rfl, rfl, ?_⟩
      simp only [askC, upd, ↓reduceIte, Nat.reduceEqDiff, reduceCtorEq, hun, m11, m10, n13, n17, ren_cond, okB_cond, lren_cond, lokB_cond, map_cond, all_cond, Bool.cond_self, cond_true, cond_false, List.map_append, List.all_append, List.map_cons, List.map_nil, Bool.and_true, List.nil_append, List.cons_append, simprocAttr]
      refine vcOp_sound ?_
      simp only [GA, ↓GB, GX, simprocAttr, hnt, hT, hu, hm, hm5, htn, hq6]
      repeat' (refine and_mk ?_ ?_; (focus first | decide | omega | rfl | assumption))
      all_goals (refine Imp.le [0, 1, 2, 3] ?_; (refine LeR.of ?_ ?_ ?_ ?_ ?_ ?_ ?_ <;> first | (rw [hbl]; decide) | decide | (simp only [GA, ↓GB, GX, simprocAttr, GDs, ren_cond, okB_cond, lren_cond, lokB_cond, map_cond, all_cond, Bool.cond_self, cond_true, cond_false, List.map_append, List.all_append, List.map_cons, List.map_nil, Bool.and_true]; done)))
    · have m12 : M 12 = true := hd.dep _ rfl _ (Array.mem_of_getElem? (i := 0) rfl) rfl
      have m11 : M 11 = true := hd.cl 12 _ rfl m12 _ (Array.mem_of_getElem? (i := 0) rfl) rfl
      have m10 : M 10 = true := hd.cl 11 _ rfl m11 _ (Array.mem_of_getElem? (i := 0) rfl) rfl
      have n17 : M 17 = false := dNot hd rfl (Array.mem_of_getElem? (i := 2) rfl) rfl hd.un
      have hun := hd.un
      refine ⟨_, rfl, rfl, ?_⟩
      simp only [askC, upd, ↓reduceIte, Nat.reduceEqDiff, reduceCtorEq, hun, m12, m11, m10, n17, ren_cond, okB_cond, lren_cond, lokB_cond, map_cond, all_cond, Bool.cond_self, cond_true, cond_false, List.map_append, List.all_append, List.map_cons, List.map_nil, Bool.and_true, List.nil_append, List.cons_append, simprocAttr]
      refine vcOp_sound ?_
      simp only [GA, ↓GB, GX, simprocAttr, hnt, hT, hu, hm, hm5, htn, hq6]
      repeat' (refine and_mk ?_ ?_; (focus first | decide | omega | rfl | assumption))
      all_goals (refine Imp.le [0, 1, 2, 3] ?_; (refine LeR.of ?_ ?_ ?_ ?_ ?_ ?_ ?_ <;> first | (rw [hbl]; decide) | decide | (simp only [GA, ↓GB, GX, simprocAttr, GDs, ren_cond, okB_cond, lren_cond, lokB_cond, map_cond, all_cond, Bool.cond_self, cond_true, cond_false, List.map_append, List.all_append, List.map_cons, List.map_nil, Bool.and_true]; done)))
    · have n15 : M 15 = false := dNot hd rfl (Array.mem_of_getElem? (i := 0) rfl) rfl hd.un
      have n16 : M 16 = false := dNot hd rfl (Array.mem_of_getElem? (i := 0) rfl) rfl n15
      have n17 : M 17 = false := dNot hd rfl (Array.mem_of_getElem? (i := 3) rfl) rfl n16
      have hun := hd.un
      refine ⟨_, rfl, rfl, ?_⟩
      simp only [askC, upd, ↓reduceIte, Nat.reduceEqDiff, reduceCtorEq, hun, n15, n16, n17, ren_cond, okB_cond, lren_cond, lokB_cond, map_cond, all_cond, Bool.cond_self, cond_true, cond_false, List.map_append, List.all_append, List.map_cons, List.map_nil, Bool.and_true, List.nil_append, List.cons_append, simprocAttr]
      refine vcOp_sound ?_
      simp only [GA, ↓GB, GX, simprocAttr, hnt, hT, hu, hm, hm5, htn, hq6]
      repeat' (refine and_mk ?_ ?_; (focus first | decide | omega | rfl | assumption))
      all_goals (refine Imp.le [0, 1, 2, 3] ?_; (refine LeR.of ?_ ?_ ?_ ?_ ?_ ?_ ?_ <;> first | (rw [hbl]; decide) | decide | (simp only [GA, ↓GB, GX, simprocAttr, GDs, ren_cond, okB_cond, lren_cond, lokB_cond, map_cond, all_cond, Bool.cond_self, cond_true, cond_false, List.map_append, List.all_append, List.map_cons, List.map_nil, Bool.and_true]; done)))
    · have m14 : M 14 = true := hd.dep _ rfl _ (Array.mem_of_getElem? (i := 0) rfl) rfl
      have n16 : M 16 = false := dNot hd rfl (Array.mem_of_getElem? (i := 0) rfl) rfl hd.un
      have n17 : M 17 = false := dNot hd rfl (Array.mem_of_getElem? (i := 3) rfl) rfl n16
      have hun := hd.un
      refine ⟨_, rfl, rfl, ?_⟩
      simp only [askC, upd, ↓reduceIte, Nat.reduceEqDiff, reduceCtorEq, hun, m14, n16, n17, ren_cond, okB_cond, lren_cond, lokB_cond, map_cond, all_cond, Bool.cond_self, cond_true, cond_false, List.map_append, List.all_append, List.map_cons, List.map_nil, Bool.and_true, List.nil_append, List.cons_append, simprocAttr]
      refine vcOp_sound ?_
      simp only [GA, ↓GB, GX, simprocAttr, hnt, hT, hu, hm, hm5, htn, hq6]
      repeat' (refine and_mk ?_ ?_; (focus first | decide | omega | rfl | assumption))
      all_goals (refine Imp.le [0, 1, 2, 3] ?_; (refine LeR.of ?_ ?_ ?_ ?_ ?_ ?_ ?_ <;> first | (rw [hbl]; decide) | decide | (simp only [GA, ↓GB, GX, simprocAttr, GDs, ren_cond, okB_cond, lren_cond, lokB_cond, map_cond, all_cond, Bool.cond_self, cond_true, cond_false, List.map_append, List.all_append, List.map_cons, List.map_nil, Bool.and_true]; done)))
    · have m15 : M 15 = true := hd.dep _ rfl _ (Array.mem_of_getElem? (i := 0) rfl) rfl
      have m14 : M 14 = true := hd.cl 15 _ rfl m15 _ (Array.mem_of_getElem? (i := 0) rfl) rfl
      have n17 : M 17 = false := dNot hd rfl (Array.mem_of_getElem? (i := 3) rfl) rfl hd.un
      have hun := hd.un
      refine ⟨_, rfl, rfl, ?_⟩
      simp only [askC, upd, ↓reduceIte, Nat.reduceEqDiff, reduceCtorEq, hun, m15, m14, n17, ren_cond, okB_cond, lren_cond, lokB_cond, map_cond, all_cond, Bool.cond_self, cond_true, cond_false, List.map_append, List.all_append, List.map_cons, List.map_nil, Bool.and_true, List.nil_append, List.cons_append, simprocAttr]
      refine vcOp_sound ?_
      simp only [GA, ↓GB, GX, simprocAttr, hnt, hT, hu, hm, hm5, htn, hq6]
      repeat' (first
        | (refine SX.seqK ?_; intro N hN)
        | ((first | (refine SX.ops ?_)); simp only [GA, ↓GB, GX, simprocAttr, hnt, hT, hu, hm, hm5, htn, hq6])
        | ((first | refine SX.skip ?_ | refine SX.exit ?_ | refine SX.label ?_); try simp only [GA, ↓GB, GX, simprocAttr])
        | (refine SX.cond rfl (fun hb => ?_) (fun hb => ?_) <;> ((first | cases hb | (simp only [HBs] at hb) | skip) <;> (first | (exfalso; omega) | skip)))
        | (refine SX.ret ?_; try simp only [GA, ↓GB, GX, simprocAttr])
        | (refine hN _ ?_; clear hN N)
        | ((first | refine hK _ _ (FinI.ret3 ?_) | refine hK _ _ (FinI.nrm3 ?_)); simp only [GA, ↓GB, GX, simprocAttr, finP_s, hnt, hT, hu, hm, hm5, htn, hq6]; refine Done.out ?_)
        | (clear hN N; first | (refine hN _ ?_; clear hN N) | (clear hN N; first | (refine hN _ ?_; clear hN N) | (clear hN N; first | (refine hN _ ?_; clear hN N) | (clear hN N; first | (refine hN _ ?_; clear hN N) | (clear hN N; first | (refine hN _ ?_; clear hN N) | (refine hN _ ?_; clear hN N))))))
        | (refine bif2.mk (fun hb => ?_) (fun hb => ?_) <;> (try simp only [hb, GA, ↓GB, GX, simprocAttr, hnt, hT, hu, hm, hm5, htn, hq6]) <;> ((first | cases hb | (simp only [HBs] at hb) | skip) <;> (first | (exfalso; omega) | skip)))
        | ((first | (refine CtrF.use (hNL) hP (fun X' hU => hGL.under hU) [] ?_ rfl rfl ?_; (focus (refine LeR.of rfl trivial ?_ ?_ ?_ ?_ ?_ <;> first | decide | (simp only [GA, ↓GB, GX, simprocAttr, GDs]; done))); intro os' s hR; obtain ⟨rfl, rfl⟩ := hR)); simp only [GA, ↓GB, GX, simprocAttr, hnt, hT, hu, hm, hm5, htn, hq6])
        | (refine SX.block ?_)
        | (refine and_mk ?_ ?_; (focus first | decide | omega | rfl | assumption | (simp only [List.length_append, List.length_cons, List.length_nil, B_size]; omega) | (simp; done)))
        | (refine And.intro ?_ ?_))
      all_goals (try refine Done.mk ?_)
      all_goals (refine Imp.le [0, 1, 4, 3] ?_; (refine LeR.of ?_ ?_ ?_ ?_ ?_ ?_ ?_ <;> first | (rw [hbl]; decide) | decide | (simp only [GA, ↓GB, GX, simprocAttr, GDs, ren_cond, okB_cond, lren_cond, lokB_cond, map_cond, all_cond, Bool.cond_self, cond_true, cond_false, List.map_append, List.all_append, List.map_cons, List.map_nil, Bool.and_true]; done)))
    · have m6 : M 6 = true := hd.dep _ rfl _ (Array.mem_of_getElem? (i := 0) rfl) rfl
      have m9 : M 9 = true := hd.dep _ rfl _ (Array.mem_of_getElem? (i := 1) rfl) rfl
      have m13 : M 13 = true := hd.dep _ rfl _ (Array.mem_of_getElem? (i := 2) rfl) rfl
      have m16 : M 16 = true := hd.dep _ rfl _ (Array.mem_of_getElem? (i := 3) rfl) rfl
      have m5 : M 5 = true := hd.cl 6 _ rfl m6 _ (Array.mem_of_getElem? (i := 0) rfl) rfl
      have m8 : M 8 = true := hd.cl 9 _ rfl m9 _ (Array.mem_of_getElem? (i := 0) rfl) rfl
      have m12 : M 12 = true := hd.cl 13 _ rfl m13 _ (Array.mem_of_getElem? (i := 0) rfl) rfl
      have m15 : M 15 = true := hd.cl 16 _ rfl m16 _ (Array.mem_of_getElem? (i := 0) rfl) rfl
      have m4 : M 4 = true := hd.cl 5 _ rfl m5 _ (Array.mem_of_getElem? (i := 0) rfl) rfl
      have m7 : M 7 = true := hd.cl 8 _ rfl m8 _ (Array.mem_of_getElem? (i := 0) rfl) rfl
      have m11 : M 11 = true := hd.cl 12 _ rfl m12 _ (Array.mem_of_getElem? (i := 0) rfl) rfl
      have m14 : M 14 = true := hd.cl 15 _ rfl m15 _ (Array.mem_of_getElem? (i := 0) rfl) rfl
      have m3 : M 3 = true := hd.cl 4 _ rfl m4 _ (Array.mem_of_getElem? (i := 0) rfl) rfl
      have m10 : M 10 = true := hd.cl 11 _ rfl m11 _ (Array.mem_of_getElem? (i := 0) rfl) rfl
      have m2 : M 2 = true := hd.cl 3 _ rfl m3 _ (Array.mem_of_getElem? (i := 0) rfl) rfl
      have m1 : M 1 = true := hd.cl 2 _ rfl m2 _ (Array.mem_of_getElem? (i := 0) rfl) rfl
      have m0 : M 0 = true := hd.cl 1 _ rfl m1 _ (Array.mem_of_getElem? (i := 0) rfl) rfl
      have hun := hd.un
      refine ⟨_, rfl, rfl, ?_⟩
      simp only [askC, upd, ↓reduceIte, Nat.reduceEqDiff, reduceCtorEq, hun, m6, m9, m13, m16, m5, m8, m12, m15, m4, m7, m11, m14, m3, m10, m2, m1, m0, ren_cond, okB_cond, lren_cond, lokB_cond, map_cond, all_cond, Bool.cond_self, cond_true, cond_false, List.map_append, List.all_append, List.map_cons, List.map_nil, Bool.and_true, List.nil_append, List.cons_append, simprocAttr]
      refine vcOp_sound ?_
      simp only [GA, ↓GB, GX, simprocAttr, hnt, hT, hu, hm, hm5, htn, hq6]
      repeat' (refine and_mk ?_ ?_; (focus first | decide | omega | rfl | assumption))
      all_goals (refine Imp.le [0, 1, 2, 3] ?_; (refine LeR.of ?_ ?_ ?_ ?_ ?_ ?_ ?_ <;> first | (rw [hbl]; decide) | decide | (simp only [GA, ↓GB, GX, simprocAttr, GDs, ren_cond, okB_cond, lren_cond, lokB_cond, map_cond, all_cond, Bool.cond_self, cond_true, cond_false, List.map_append, List.all_append, List.map_cons, List.map_nil, Bool.and_true]; done)))
    · skip
      have hun := hd.un
      refine ⟨_, rfl, rfl, ?_⟩
      simp only [askC, upd, ↓reduceIte, Nat.reduceEqDiff, reduceCtorEq, hun, ren_cond, okB_cond, lren_cond, lokB_cond, map_cond, all_cond, Bool.cond_self, cond_true, cond_false, List.map_append, List.all_append, List.map_cons, List.map_nil, Bool.and_true, List.nil_append, List.cons_append, simprocAttr]
      refine vcOp_sound ?_
      simp only [GA, ↓GB, GX, simprocAttr, hnt, hT, hu, hm, hm5, htn, hq6]
      repeat' (refine and_mk ?_ ?_; (focus first | decide | omega | rfl | assumption))
      all_goals (refine Imp.le [0, 1, 2, 4] ?_; (refine LeR.of ?_ ?_ ?_ ?_ ?_ ?_ ?_ <;> first | (rw [hbl]; decide) | decide | (simp only [GA, ↓GB, GX, simprocAttr, GDs, ren_cond, okB_cond, lren_cond, lokB_cond, map_cond, all_cond, Bool.cond_self, cond_true, cond_false, List.map_append, List.all_append, List.map_cons, List.map_nil, Bool.and_true]; done)))
  simp only [askC, cond_true, GA, ↓GB, GX, simprocAttr, hnt, hT]
  repeat' (first
    | (refine SX.nilAt (j := 3) (k := 4) 9 1 rfl rfl ?_)
    | (refine SX.nilAt (j := 3) (k := 5) 87 2 rfl rfl ?_)
    | (refine uBlk (id := 1) (i := i) hGM (by omega) (fun ad hE D => ?_) <;> subst hE)
    | (refine SX.seqK ?_; intro N hN)
    | ((first | (refine SX.ops ?_) | (refine SX.planT (id := 10) [.q [(0, [3]), (1, [52]), (2, [1]), (3, [54]), (4, [4]), (5, [55, 56]), (6, [57]), (7, [58]), (8, [1]), (9, [60]), (10, [4]), (11, [61, 62]), (12, [63]), (13, [64]), (14, [65]), (15, [59, 66])] (some (16, [67])), .s 17, .s 18, .s 19] ?_ ?_ ?_; (focus first | (rw [hP]; kernel_rfl) | (rw [hU1P, hP]; kernel_rfl)); (focus kernel_rfl))); simp only [GA, ↓GB, GX, simprocAttr, hnt, hT, h16, h4, h64])
    | ((first | refine SX.skip ?_ | refine SX.exit ?_ | refine SX.label ?_); try simp only [GA, ↓GB, GX, simprocAttr])
    | (refine SX.cond rfl (fun hb => ?_) (fun hb => ?_) <;> ((first | cases hb | (simp only [HBs] at hb) | skip) <;> (first | (exfalso; omega) | skip)))
    | (refine SX.ret ?_; try simp only [GA, ↓GB, GX, simprocAttr])
    | (refine hN _ ?_; clear hN N)
    | ((first | refine hK _ _ (FinI.ret3 ?_) | refine hK _ _ (FinI.nrm3 ?_)); simp only [GA, ↓GB, GX, simprocAttr, finP_s, hnt, hT, h16, h4, h64]; refine Done.out ?_)
    | (clear hN N; first | (refine hN _ ?_; clear hN N) | (clear hN N; first | (refine hN _ ?_; clear hN N) | (clear hN N; first | (refine hN _ ?_; clear hN N) | (clear hN N; first | (refine hN _ ?_; clear hN N) | (clear hN N; first | (refine hN _ ?_; clear hN N) | (refine hN _ ?_; clear hN N))))))
    | (refine bif2.mk (fun hb => ?_) (fun hb => ?_) <;> (try simp only [hb, GA, ↓GB, GX, simprocAttr, hnt, hT, h16, h4, h64]) <;> ((first | cases hb | (simp only [HBs] at hb) | skip) <;> (first | (exfalso; omega) | skip)))
    | ((first | (refine CtrF.use (hNM) hP (fun X' hU => hGM.under hU) [] ?_ rfl rfl ?_; (focus (refine LeR.of rfl trivial ?_ ?_ ?_ ?_ ?_ <;> first | decide | (simp only [GA, ↓GB, GX, simprocAttr, GDs]; done))); intro os' s hR; obtain ⟨rfl, rfl⟩ := hR) | (refine CallVC.pv hP (hn i) rfl ?_) | (refine CallQ.pv hP (hn i) rfl ?_)); simp only [GA, ↓GB, GX, simprocAttr, hnt, hT, h16, h4, h64])
    | (refine ⟨_, D.cell, ?_⟩ <;> (try simp only [GA, ↓GB, GX, simprocAttr, hnt, hT]))
    | (rw [add_block] <;> exact D.own)
    | (refine SX.loop (ι := { i : Nat // i ≤ M.length ∧ i ≤ 4 }) (fun i => ⟨[(1, .one (.c (.loc 0 0))), (2, .one (.c (.loc 1 0))), (3, .one (.c (.loc 3 0))), (4, vv (.int .i64 i.1))], [.cells [.v (.int .i64 t), .v (.bool true), .v (.int .u64 q), .v (.slice a0 n0 c0), .v (.slice a1 n1 c1), .v (.slice a2 n2 c2), .v (.string (B d)), .v (.bool true), .v (.slice qL L.length cL), .v (.slice qM M.length cM)] 78, .cells [.v (.int .i64 0), .v (.bool false), .v (.int .u64 0), .v (.slice none 0 0), .v (.slice none 0 0), .v (.slice none 0 0), .v (.string (B []))] 41, srow (askSb L), .cells [.v (.int .i64 tn), .v (.bool true), .v (.int .u64 q6), .row 2, .row 4, .row 5, .v (.string (B []))] 41, srow (askUn true M), hrow (((M.take i.1).filter nmK).map hvN)]⟩) (fun i => M.length - i.1) ⟨0, Nat.zero_le _, Nat.zero_le _⟩ ⟨[0, 1, 2, 3, 6, 5], by (refine LeR.of ?_ ?_ ?_ ?_ ?_ ?_ ?_ <;> first | (rw [hbl]; decide) | decide | (simp only [GA, ↓GB, GX, simprocAttr, GDs]; done) | (simp only [GA, ↓GB, GX, simprocAttr, GDs]; rfl; done))⟩ ?_ <;> rintro ⟨i, hi, hi2⟩ <;> simp only [] at hi hi2 ⊢)
    | (refine SX.block ?_)
    | (refine and_mk ?_ ?_; (focus first | decide | omega | rfl | assumption | (simp only [List.length_append, List.length_cons, List.length_nil, B_size]; omega) | (simp; done)))
    | (refine And.intro ?_ ?_))
  all_goals (try refine Done.mk ?_)
  · have := hfl i (by omega)
    omega
  · have hn2 : nmK (M.getD i 0) = true := by rw [← h16 i]; simpa using hb
    have e := hrow_snoc (((M.take i).filter nmK).map hvN) (hvN (M.getD i 0))
    rw [hs1 i (by omega) hn2] at e
    exact ⟨⟨i + 1, by omega, by omega⟩, [0, 1, 2, 3, 4, 7], by (refine LeR.of ?_ ?_ ?_ ?_ ?_ ?_ ?_ <;> first | (rw [hbl]; decide) | decide | (simp only [GA, ↓GB, GX, simprocAttr, GDs]; done) | (simp only [GA, ↓GB, GX, simprocAttr, GDs]; first | (rw [wI64 (by omega) (by omega)]; rfl) | exact e | (refine ⟨e, ?_⟩; rfl) | rfl; done)), by show M.length - (i + 1) < M.length - i; omega⟩
  · have hn2 : nmK (M.getD i 0) = false := by rw [← h16 i]; exact hb
    have e := hs0 i (by omega) hn2
    exact ⟨⟨i + 1, by omega, by omega⟩, [0, 1, 2, 3, 4, 5], by (refine LeR.of ?_ ?_ ?_ ?_ ?_ ?_ ?_ <;> first | (rw [hbl]; decide) | decide | (simp only [GA, ↓GB, GX, simprocAttr, GDs]; done) | (simp only [GA, ↓GB, GX, simprocAttr, GDs]; first | (rw [wI64 (by omega) (by omega)]; rfl) | (rw [e]; done) | (rw [← e]; rfl) | rfl; done)), by show M.length - (i + 1) < M.length - i; omega⟩
  all_goals
    first
      | rw [ed hb] at hN0
      | rw [ed0 hb] at hN0
    first
      | (rw [ehv i (by omega)] at hN0; (refine hN0 _ _ ⟨[2, 4, 5], _, _, ?_, ?_, ?_, ⟨rfl, rfl⟩⟩; (focus exact LeR.of rfl trivial (by simp only [GA, ↓GB, GX, simprocAttr, GDs]) (by decide) rfl rfl rfl); rotate_left; (focus rfl)); rfl)
      | (rw [show askUn false M = [] from rfl, show askHv false M = [] from rfl, show hrow [] = LO.row 87 2 0 [] from rfl] at hN0; (refine hN0 _ _ ⟨[2, 4, 5], _, _, ?_, ?_, ?_, ⟨rfl, rfl⟩⟩; (focus exact LeR.of rfl trivial (by simp only [GA, ↓GB, GX, simprocAttr, GDs]) (by decide) rfl rfl rfl); rotate_left; (focus rfl)); rfl)
end Go.Proofs.YtbdacbcpniegiaaDoor.Q
namespace Go.Proofs.YtbdacbcpniegiaaDoor.Q
open Go Go.RowKit Go.Proofs Go.Sx
set_option maxHeartbeats 32000000
set_option maxRecDepth 100000
set_option linter.unusedSimpArgs false
set_option linter.unusedVariables false
theorem tell_t (t : Int) (dl : Bool) (q v : Nat) (hq : q < 18446744073709551616) (a0 : Option Addr) (n0 c0 : Nat) (a1 : Option Addr) (n1 c1 : Nat) (qL : Option Addr) (L : List UInt8) (cL : Nat) (qM : Option Addr) (M : List UInt8) (cM : Nat) :
    CtrF Tryd.prog (fun X => FarLM X qL L qM M) 39 [] [.one (.agg [.v (.int .i64 t), .v (.bool dl), .v (.bool true), .v (.int .u64 q), .v (.int .u64 v), .v (.slice a0 n0 c0), .v (.slice a1 n1 c1), .v (.bool true), .v (.slice qL L.length cL), .v (.slice qM M.length cM)])]
      (fun os u => os = [mrow (tellRs (tN t) L), srow (tellRm dl M)] ∧ u = .one (.agg [.v (.int .i64 (tN t)), .v (.bool dl), .v (.bool dl), .v (.int .u64 (1 + q % 6 : Nat)), .v (.int .u64 v), .row 0, .row 1])) := by
  have hn1 : ∀ i, ∀ w, Calls Tryd.prog 18 #[.int .u8 (L.getD i 0).toNat] w _ := fun i w => name_any (L.getD i 0).toNat (L.getD i 0).toNat_lt w
  have hn : ∀ i, ∀ w, Calls Tryd.prog 18 #[.int .u8 (M.getD i 0).toNat] w _ := fun i w => name_any (M.getD i 0).toNat (M.getD i 0).toNat_lt w
  obtain ⟨u, hu⟩ : ∃ u : Int, IntKind.u64.wrap t = u := ⟨_, rfl⟩
  have hu2 : u = t % 18446744073709551616 := by rw [← hu, IntKind.wrap_u64]
  have m0 : 0 ≤ u := by rw [hu2]; omega
  obtain ⟨m, hm⟩ : ∃ m : Int, u.tmod 5 = m := ⟨_, rfl⟩
  have hm2 : m = u % 5 := by rw [← hm, Int.tmod_eq_emod_of_nonneg m0]
  have hm5 : IntKind.i64.wrap m = m := wI64 (by omega) (by omega)
  obtain ⟨tn, htn0⟩ : ∃ tn : Int, (tN t : Int) = tn := ⟨_, rfl⟩
  have htn : IntKind.i64.wrap (1 + m) = tn := by rw [wI64 (by omega) (by omega), ← htn0, tN, hm2, hu2]; omega
  obtain ⟨q7, hq70⟩ : ∃ q7 : Int, ((1 + q % 6 : Nat) : Int) = q7 := ⟨_, rfl⟩
  have hq6 : (q : Int).tmod 6 = ((q % 6 : Nat) : Int) := by rw [Int.tmod_eq_emod_of_nonneg (by omega)]; omega
  have hq7 : IntKind.u64.wrap (1 + ((q % 6 : Nat) : Int)) = q7 := by rw [wU64 (by omega) (by omega), ← hq70]; omega
  rw [htn0, hq70]
  have k16 : ∀ x : UInt8, (((x.toNat : Int).tmod 16 != 15) = nmK x) := fun x => by
    rw [Int.tmod_eq_emod_of_nonneg (by omega), nmK]
    generalize x.toNat = x
    by_cases h : x % 16 = 15
    · have : (x : Int) % 16 = 15 := by omega
      simp only [h, this]; rfl
    · have : ¬ (x : Int) % 16 = 15 := by omega
      simp only [h, decide_false, Bool.not_false, bne_iff_ne, ne_eq, this, not_false_iff]
  have hL16 : ∀ i, (((L.getD i 0).toNat : Int).tmod 16 != 15) = nmK (L.getD i 0) := fun i => k16 _
  have h16 : ∀ i, (((M.getD i 0).toNat : Int).tmod 16 != 15) = nmK (M.getD i 0) := fun i => k16 _
  have h8 : ∀ i, IntKind.u8.wrap (((L.getD i 0).toNat : Int).tdiv 8) = (((L.getD i 0).toNat / 8 : Nat) : Int) := fun i => by
    have := (L.getD i 0).toNat_lt
    rw [Int.tdiv_eq_ediv_of_nonneg (by omega), wB8 (by omega) (by omega)]; omega
  have h64 : ∀ i, IntKind.u64.wrap (((L.getD i 0).toNat / 8 : Nat) : Int) = (((L.getD i 0).toNat / 8 : Nat) : Int) := fun i => by
    have := (L.getD i 0).toNat_lt
    exact wU64 (by omega) (by omega)
  have h65 : ∀ i, IntKind.u64.wrap (1 + (((L.getD i 0).toNat / 8 : Nat) : Int)) = ((1 + (L.getD i 0).toNat / 8 : Nat) : Int) := fun i => by
    have := (L.getD i 0).toNat_lt
    rw [wU64 (by omega) (by omega)]; omega
  have tk : ∀ (M : List UInt8) i, i < M.length → nmK (M.getD i 0) = true → (M.take (i + 1)).filter nmK = (M.take i).filter nmK ++ [M.getD i 0] := fun M i hi h => by
    rw [List.take_add_one, List.getElem?_eq_getElem hi, List.filter_append]
    rw [List.getD_eq_getElem?_getD, List.getElem?_eq_getElem hi] at h ⊢
    simp only [Option.getD_some] at h
    simp only [Option.toList_some, List.filter_cons, h, if_true, List.filter_nil, Option.getD_some]
  have tk0 : ∀ (M : List UInt8) i, i < M.length → nmK (M.getD i 0) = false → (M.take i).filter nmK = (M.take (i + 1)).filter nmK := fun M i hi h => by
    rw [List.take_add_one, List.getElem?_eq_getElem hi, List.filter_append]
    rw [List.getD_eq_getElem?_getD, List.getElem?_eq_getElem hi] at h
    simp only [Option.getD_some] at h
    simp [h]
  have hfl : ∀ (M : List UInt8) i k, i ≤ k → ((M.take i).filter nmK).length ≤ k := fun M i k h => by
    have := filter_le nmK (M.take i)
    rw [List.length_take] at this
    omega
  have ers : ∀ i, (i = 12 ∨ L.length ≤ i) ∧ i ≤ 12 → tellRs tn L = ((L.take i).filter nmK).map (rsN tn) := fun i h => by
    rw [tellRs]
    rcases h with ⟨rfl | h, h2⟩
    · rfl
    · rw [List.take_of_length_le (i := 12) (by omega), List.take_of_length_le h]
  have erm : ∀ i, (dl = false → i = 0) → (dl = false ∨ i = 6 ∨ M.length ≤ i) → i ≤ 6 → tellRm dl M = ((M.take i).filter nmK).map nmV := fun i h0 h h2 => by
    cases dl with
    | false => rw [h0 rfl]; rfl
    | true =>
      rcases h with h | rfl | h
      · cases h
      · rfl
      · rw [tellRm, if_pos rfl, List.take_of_length_le (i := 6) (by omega), List.take_of_length_le h]
  refine CtrF.less ?_
  intro X0 hP0 hG0 N0 hN0
  refine CallVC.inline (f := 39) (by rw [hP0]; exact Tryd.func39) rfl Tryd.ntmps39 rfl (by simp) ?_
  intro X K hU hnt hbl hK
  have hP : X.P = Tryd.prog := by rw [hU.P, hP0]
  have hG := hG0.under hU
  have hT : zeroCells X.P 81 = some [(Value.int IntKind.i64 0), (Value.bool false), (Value.bool false), (Value.int IntKind.u64 0), (Value.int IntKind.u64 0), (Value.slice none 0 0), (Value.slice none 0 0)] ∧ fieldOff X.P 83 1 = some 7 ∧ aggOf X.P 4 = some false ∧ szOf X.P 4 = some 1 ∧ fieldOff X.P 83 0 = some 0 ∧ aggOf X.P 81 = some true ∧ szOf X.P 81 = some 7 ∧ fieldOff X.P 81 0 = some 0 ∧ aggOf X.P 3 = some false ∧ szOf X.P 3 = some 1 ∧ X.P.underlying 3 = some (TypeDesc.int IntKind.i64) ∧ X.P.underlying 164 = some (TypeDesc.int IntKind.u64) ∧ isBytesT X.P 3 = false ∧ isStrT X.P 164 = false ∧ isBytesT X.P 164 = false ∧ isStrT X.P 3 = false ∧ fieldOff X.P 81 1 = some 1 ∧ fieldOff X.P 81 3 = some 3 ∧ aggOf X.P 22 = some false ∧ szOf X.P 22 = some 1 ∧ fieldOff X.P 81 4 = some 4 ∧ fieldOff X.P 81 2 = some 2 ∧ fieldsOf X.P 81 = some [(0, 1), (1, 1), (2, 1), (3, 1), (4, 1), (5, 1), (6, 1)] ∧ fieldOff X.P 83 2 = some 8 ∧ aggOf X.P 58 = some false ∧ szOf X.P 58 = some 1 ∧ X.P.underlying 58 = some (TypeDesc.slice 5) ∧ elemSz X.P 58 = some (5, 1) ∧ aggOf X.P 5 = some false ∧ szOf X.P 5 = some 1 ∧ fieldOff X.P 81 5 = some 5 ∧ aggOf X.P 79 = some false ∧ szOf X.P 79 = some 1 ∧ calleeOk X.P 18 = true ∧ fieldsOf X.P 26 = some [(0, 1), (1, 1)] ∧ zeroCells X.P 26 = some [(Value.int IntKind.i64 0), (Value.string { data := #[] })] ∧ X.P.underlying 5 = some (TypeDesc.int IntKind.u8) ∧ X.P.underlying 22 = some (TypeDesc.int IntKind.u64) ∧ isBytesT X.P 5 = false ∧ isStrT X.P 22 = false ∧ fieldsOf X.P 89 = some [(0, 2), (2, 1), (3, 1), (4, 1)] ∧ zeroCells X.P 89 = some [(Value.int IntKind.i64 0), (Value.string { data := #[] }), (Value.int IntKind.u64 0), (Value.bool false), (Value.string { data := #[] })] ∧ elemSz X.P 79 = some (89, 5) ∧ elemInf X.P 79 = some (89, 5, 56, (Value.agg #[(Value.int IntKind.i64 0), (Value.string { data := #[] }), (Value.int IntKind.u64 0), (Value.bool false), (Value.string { data := #[] })])) ∧ isStrT X.P 79 = false ∧ fieldOff X.P 83 3 = some 9 ∧ fieldOff X.P 81 6 = some 6 ∧ aggOf X.P 38 = some false ∧ szOf X.P 38 = some 1 ∧ elemSz X.P 38 = some (9, 1) ∧ zeroCells X.P 9 = some [(Value.string { data := #[] })] ∧ elemInf X.P 38 = some (9, 1, 16, (Value.string { data := #[] })) ∧ isStrT X.P 38 = false := by rw [hP]; exact ⟨Ty.ze81, Ty.fo83_1, Ty.ag4, Ty.sz4, Ty.fo83_0, Ty.ag81, Ty.sz81, Ty.fo81_0, Ty.ag3, Ty.sz3, Tryd.underlying3, Tryd.underlying164, Ty.ib3, Ty.is164, Ty.ib164, Ty.is3, Ty.fo81_1, Ty.fo81_3, Ty.ag22, Ty.sz22, Ty.fo81_4, Ty.fo81_2, Ty.fs81, Ty.fo83_2, Ty.ag58, Ty.sz58, Tryd.underlying58, Ty.el58, Ty.ag5, Ty.sz5, Ty.fo81_5, Ty.ag79, Ty.sz79, Ty.co18, Ty.fs26, Ty.ze26, Tryd.underlying5, Tryd.underlying22, Ty.ib5, Ty.is22, Ty.fs89, Ty.ze89, Ty.el79, Ty.ei79, Ty.is79, Ty.fo83_3, Ty.fo81_6, Ty.ag38, Ty.sz38, Ty.el38, Ty.ze9, Ty.ei38, Ty.is38⟩
  simp only [GA, ↓GB, GX, simprocAttr] at hbl ⊢
  have hGL := hG.l
  have hGM := hG.m
  have hk3 := True.intro
  repeat' (first
    | (refine SX.nilAt (j := 2) (k := 5) 89 5 rfl rfl ?_)
    | (refine SX.nilAt (j := 2) (k := 6) 9 1 rfl rfl ?_)
    | (refine uBlk (id := 1) (i := i) hGL (by omega) (fun ad hE D => ?_) <;> subst hE)
    | (refine uBlk (id := 3) (i := j) hGM (by omega) (fun ad hE D => ?_) <;> subst hE)
    | (refine SX.seqK ?_; intro N hN)
    | ((first | (refine SX.ops ?_) | (refine SX.planT (id := 8) [.q [(0, [3]), (1, [56]), (2, [3]), (3, [58]), (4, [1]), (5, [60]), (6, [4]), (7, [61, 62]), (8, [63]), (9, [64]), (10, [59, 65]), (11, [1]), (12, [67]), (13, [4]), (14, [68, 69]), (15, [70]), (16, [71]), (17, [72]), (18, [73]), (19, [66, 74])] (some (20, [75])), .s 21, .s 22, .s 23] ?_ ?_ ?_; (focus first | (rw [hP]; kernel_rfl) | (rw [hU1P, hP]; kernel_rfl)); (focus kernel_rfl)) | (refine SX.planT (id := 13) [.q [(0, [3]), (1, [101]), (2, [1]), (3, [103]), (4, [5]), (5, [104, 105]), (6, [106]), (7, [107])] (some (8, [108])), .s 9, .s 10, .s 11] ?_ ?_ ?_; (focus first | (rw [hP]; kernel_rfl) | (rw [hU1P, hP]; kernel_rfl)); (focus kernel_rfl))); simp only [GA, ↓GB, GX, simprocAttr, hnt, hT, hu, hm, hm5, htn, hq6, hq7, hL16, h16, h8, h64, h65])
    | ((first | refine SX.skip ?_ | refine SX.exit ?_ | refine SX.label ?_); try simp only [GA, ↓GB, GX, simprocAttr])
    | (refine SX.cond rfl (fun hb => ?_) (fun hb => ?_) <;> ((first | cases hb | (simp only [HBs] at hb) | skip) <;> (first | (exfalso; omega) | skip)))
    | (refine SX.ret ?_; try simp only [GA, ↓GB, GX, simprocAttr])
    | (refine hN _ ?_; clear hN N)
    | ((first | refine hK _ _ (FinI.ret3 ?_) | refine hK _ _ (FinI.nrm3 ?_)); simp only [GA, ↓GB, GX, simprocAttr, finP_s, hnt, hT, hu, hm, hm5, htn, hq6, hq7, hL16, h16, h8, h64, h65]; refine Done.out ?_)
    | (clear hN N; first | (refine hN _ ?_; clear hN N) | (clear hN N; first | (refine hN _ ?_; clear hN N) | (clear hN N; first | (refine hN _ ?_; clear hN N) | (clear hN N; first | (refine hN _ ?_; clear hN N) | (clear hN N; first | (refine hN _ ?_; clear hN N) | (refine hN _ ?_; clear hN N))))))
    | (refine bif2.mk (fun hb => ?_) (fun hb => ?_) <;> (try simp only [hb, GA, ↓GB, GX, simprocAttr, hnt, hT, hu, hm, hm5, htn, hq6, hq7, hL16, h16, h8, h64, h65]) <;> ((first | cases hb | (simp only [HBs] at hb) | skip) <;> (first | (exfalso; omega) | skip)))
    | ((first | (refine CallVC.pv hP (hn1 i) rfl ?_) | (refine CallQ.pv hP (hn1 i) rfl ?_) | (refine CallVC.pv hP (hn j) rfl ?_) | (refine CallQ.pv hP (hn j) rfl ?_)); simp only [GA, ↓GB, GX, simprocAttr, hnt, hT, hu, hm, hm5, htn, hq6, hq7, hL16, h16, h8, h64, h65])
    | (refine ⟨_, D.cell, ?_⟩ <;> (try simp only [GA, ↓GB, GX, simprocAttr, hnt, hT]))
    | (rw [add_block] <;> exact D.own)
    | (have hers := ers i (by omega) <;> refine SX.loop (ι := { i : Nat // (i ≤ M.length ∧ i ≤ 6) ∧ (dl = false → i = 0) }) (fun i => ⟨[(1, .one (.c (.loc 0 0))), (2, .one (.c (.loc 1 0))), (3, .one (.c (.loc 2 0))), (5, vv (.int .i64 i.1))], [.cells [.v (.int .i64 t), .v (.bool dl), .v (.bool true), .v (.int .u64 q), .v (.int .u64 v), .v (.slice a0 n0 c0), .v (.slice a1 n1 c1), .v (.bool true), .v (.slice qL L.length cL), .v (.slice qM M.length cM)] 83, .cells [.v (.int .i64 0), .v (.bool false), .v (.bool false), .v (.int .u64 0), .v (.int .u64 0), .v (.slice none 0 0), .v (.slice none 0 0)] 81, .cells [.v (.int .i64 tn), .v (.bool dl), .v (.bool dl), .v (.int .u64 q7), .v (.int .u64 v), .row 3, .row 4] 81, mrow (tellRs tn L), srow (((M.take i.1).filter nmK).map nmV)]⟩) (fun i => M.length - i.1) ⟨0, ⟨Nat.zero_le _, Nat.zero_le _⟩, fun _ => rfl⟩ ⟨[0, 1, 2, 3, 4], by (refine LeR.of ?_ ?_ ?_ ?_ ?_ ?_ ?_ <;> first | (rw [hbl]; decide) | decide | (simp only [GA, ↓GB, GX, simprocAttr, GDs]; done) | (simp only [GA, ↓GB, GX, simprocAttr, GDs]; first | (rw [hers]; exact ⟨rfl, rfl⟩) | (rw [hers]; rfl) | rfl; done))⟩ ?_ <;> rintro ⟨j, ⟨hi, hi2⟩, hj⟩ <;> simp only [] at hi hi2 hj ⊢)
    | (refine SX.loop (ι := { i : Nat // i ≤ L.length ∧ i ≤ 12 }) (fun i => ⟨[(1, .one (.c (.loc 0 0))), (2, .one (.c (.loc 1 0))), (3, .one (.c (.loc 2 0))), (4, vv (.int .i64 i.1))], [.cells [.v (.int .i64 t), .v (.bool dl), .v (.bool true), .v (.int .u64 q), .v (.int .u64 v), .v (.slice a0 n0 c0), .v (.slice a1 n1 c1), .v (.bool true), .v (.slice qL L.length cL), .v (.slice qM M.length cM)] 83, .cells [.v (.int .i64 0), .v (.bool false), .v (.bool false), .v (.int .u64 0), .v (.int .u64 0), .v (.slice none 0 0), .v (.slice none 0 0)] 81, .cells [.v (.int .i64 tn), .v (.bool dl), .v (.bool dl), .v (.int .u64 q7), .v (.int .u64 v), .row 3, .row 4] 81, mrow (((L.take i.1).filter nmK).map (rsN tn)), .row 9 1 0 []]⟩) (fun i => L.length - i.1) ⟨0, Nat.zero_le _, Nat.zero_le _⟩ ⟨[0, 1, 2, 3, 4], by (refine LeR.of ?_ ?_ ?_ ?_ ?_ ?_ ?_ <;> first | (rw [hbl]; decide) | decide | (simp only [GA, ↓GB, GX, simprocAttr, GDs]; done) | (simp only [GA, ↓GB, GX, simprocAttr, GDs]; rfl; done))⟩ ?_ <;> rintro ⟨i, hi, hi2⟩ <;> simp only [] at hi hi2 ⊢)
    | (refine SX.block ?_)
    | (refine and_mk ?_ ?_; (focus first | decide | omega | rfl | assumption | (simp only [List.length_append, List.length_cons, List.length_nil, B_size]; omega) | (simp; done)))
    | (refine And.intro ?_ ?_))
  all_goals (try refine Done.mk ?_)
  · have := hfl L i 12 (by omega)
    rw [List.length_map]
    omega
  · have hn2 : nmK (L.getD i 0) = true := by rw [← hL16 i]; simpa using hb
    have e := mrow_snoc (((L.take i).filter nmK).map (rsN tn)) (rsN tn (L.getD i 0))
    have e2 : ((L.take i).filter nmK).map (rsN tn) ++ [rsN tn (L.getD i 0)] = ((L.take (i + 1)).filter nmK).map (rsN tn) := by rw [tk L i (by omega) hn2, List.map_append]; rfl
    rw [e2] at e
    exact ⟨⟨i + 1, by omega, by omega⟩, [0, 1, 2, 6, 4], by (refine LeR.of ?_ ?_ ?_ ?_ ?_ ?_ ?_ <;> first | (rw [hbl]; decide) | decide | (simp only [GA, ↓GB, GX, simprocAttr, GDs]; done) | (simp only [GA, ↓GB, GX, simprocAttr, GDs]; first | (rw [wI64 (by omega) (by omega)]; rfl) | exact e | exact ⟨e, rfl⟩ | rfl; done)), by show L.length - (i + 1) < L.length - i; omega⟩
  · have hn2 : nmK (L.getD i 0) = false := by rw [← hL16 i]; exact hb
    have e := tk0 L i (by omega) hn2
    exact ⟨⟨i + 1, by omega, by omega⟩, [0, 1, 2, 3, 4], by (refine LeR.of ?_ ?_ ?_ ?_ ?_ ?_ ?_ <;> first | (rw [hbl]; decide) | decide | (simp only [GA, ↓GB, GX, simprocAttr, GDs]; done) | (simp only [GA, ↓GB, GX, simprocAttr, GDs]; first | (rw [wI64 (by omega) (by omega)]; rfl) | (rw [e]; done) | (rw [← e]; exact ⟨rfl, rfl⟩) | (rw [← e]; rfl) | rfl; done)), by show L.length - (i + 1) < L.length - i; omega⟩
  · have := hfl M j 6 (by omega)
    rw [List.length_map]
    omega
  · have hn2 : nmK (M.getD j 0) = true := by rw [← h16 j]; simpa using hb
    have e := srow_snoc (((M.take j).filter nmK).map nmV) (nmV (M.getD j 0))
    have e2 : ((M.take j).filter nmK).map nmV ++ [nmV (M.getD j 0)] = ((M.take (j + 1)).filter nmK).map nmV := by rw [tk M j (by omega) hn2, List.map_append]; rfl
    rw [e2] at e
    exact ⟨⟨j + 1, ⟨by omega, by omega⟩, fun h => by cases h⟩, [0, 1, 2, 3, 6], by (refine LeR.of ?_ ?_ ?_ ?_ ?_ ?_ ?_ <;> first | (rw [hbl]; decide) | decide | (simp only [GA, ↓GB, GX, simprocAttr, GDs]; done) | (simp only [GA, ↓GB, GX, simprocAttr, GDs]; first | (rw [wI64 (by omega) (by omega)]; rfl) | exact e | exact ⟨e, rfl⟩ | exact ⟨rfl, e⟩ | rfl; done)), by show M.length - (j + 1) < M.length - j; omega⟩
  · have hn2 : nmK (M.getD j 0) = false := by rw [← h16 j]; exact hb
    have e := tk0 M j (by omega) hn2
    exact ⟨⟨j + 1, ⟨by omega, by omega⟩, fun h => by cases h⟩, [0, 1, 2, 3, 4], by (refine LeR.of ?_ ?_ ?_ ?_ ?_ ?_ ?_ <;> first | (rw [hbl]; decide) | decide | (simp only [GA, ↓GB, GX, simprocAttr, GDs]; done) | (simp only [GA, ↓GB, GX, simprocAttr, GDs]; first | (rw [wI64 (by omega) (by omega)]; rfl) | (rw [e]; done) | (rw [← e]; exact ⟨rfl, rfl⟩) | (rw [← e]; rfl) | rfl; done)), by show M.length - (j + 1) < M.length - j; omega⟩
  · rw [erm j hj (by first | exact .inl rfl | exact .inr (by omega)) (by omega)] at hN0
    (refine hN0 _ _ ⟨[3, 4], _, _, ?_, ?_, ?_, ⟨rfl, rfl⟩⟩; (focus exact LeR.of rfl trivial (by simp only [GA, ↓GB, GX, simprocAttr, GDs]) (by decide) rfl rfl rfl); rotate_left; (focus rfl))
    rfl
  · rw [erm j hj (by first | exact .inl rfl | exact .inr (by omega)) (by omega)] at hN0
    (refine hN0 _ _ ⟨[3, 4], _, _, ?_, ?_, ?_, ⟨rfl, rfl⟩⟩; (focus exact LeR.of rfl trivial (by simp only [GA, ↓GB, GX, simprocAttr, GDs]) (by decide) rfl rfl rfl); rotate_left; (focus rfl))
    rfl
  · rw [erm j hj (by first | exact .inl rfl | exact .inr (by omega)) (by omega)] at hN0
    (refine hN0 _ _ ⟨[3, 4], _, _, ?_, ?_, ?_, ⟨rfl, rfl⟩⟩; (focus exact LeR.of rfl trivial (by simp only [GA, ↓GB, GX, simprocAttr, GDs]) (by decide) rfl rfl rfl); rotate_left; (focus rfl))
    rfl
  · have := hfl M j 6 (by omega)
    rw [List.length_map]
    omega
  · have hn2 : nmK (M.getD j 0) = true := by rw [← h16 j]; simpa using hb
    have e := srow_snoc (((M.take j).filter nmK).map nmV) (nmV (M.getD j 0))
    have e2 : ((M.take j).filter nmK).map nmV ++ [nmV (M.getD j 0)] = ((M.take (j + 1)).filter nmK).map nmV := by rw [tk M j (by omega) hn2, List.map_append]; rfl
    rw [e2] at e
    exact ⟨⟨j + 1, ⟨by omega, by omega⟩, fun h => by cases h⟩, [0, 1, 2, 3, 6], by (refine LeR.of ?_ ?_ ?_ ?_ ?_ ?_ ?_ <;> first | (rw [hbl]; decide) | decide | (simp only [GA, ↓GB, GX, simprocAttr, GDs]; done) | (simp only [GA, ↓GB, GX, simprocAttr, GDs]; first | (rw [wI64 (by omega) (by omega)]; rfl) | exact e | exact ⟨e, rfl⟩ | exact ⟨rfl, e⟩ | rfl; done)), by show M.length - (j + 1) < M.length - j; omega⟩
  · have hn2 : nmK (M.getD j 0) = false := by rw [← h16 j]; exact hb
    have e := tk0 M j (by omega) hn2
    exact ⟨⟨j + 1, ⟨by omega, by omega⟩, fun h => by cases h⟩, [0, 1, 2, 3, 4], by (refine LeR.of ?_ ?_ ?_ ?_ ?_ ?_ ?_ <;> first | (rw [hbl]; decide) | decide | (simp only [GA, ↓GB, GX, simprocAttr, GDs]; done) | (simp only [GA, ↓GB, GX, simprocAttr, GDs]; first | (rw [wI64 (by omega) (by omega)]; rfl) | (rw [e]; done) | (rw [← e]; exact ⟨rfl, rfl⟩) | (rw [← e]; rfl) | rfl; done)), by show M.length - (j + 1) < M.length - j; omega⟩
  · rw [erm j hj (by first | exact .inl rfl | exact .inr (by omega)) (by omega)] at hN0
    (refine hN0 _ _ ⟨[3, 4], _, _, ?_, ?_, ?_, ⟨rfl, rfl⟩⟩; (focus exact LeR.of rfl trivial (by simp only [GA, ↓GB, GX, simprocAttr, GDs]) (by decide) rfl rfl rfl); rotate_left; (focus rfl))
    rfl
  · rw [erm j hj (by first | exact .inl rfl | exact .inr (by omega)) (by omega)] at hN0
    (refine hN0 _ _ ⟨[3, 4], _, _, ?_, ?_, ?_, ⟨rfl, rfl⟩⟩; (focus exact LeR.of rfl trivial (by simp only [GA, ↓GB, GX, simprocAttr, GDs]) (by decide) rfl rfl rfl); rotate_left; (focus rfl))
    rfl
  · rw [erm j hj (by first | exact .inl rfl | exact .inr (by omega)) (by omega)] at hN0
    (refine hN0 _ _ ⟨[3, 4], _, _, ?_, ?_, ?_, ⟨rfl, rfl⟩⟩; (focus exact LeR.of rfl trivial (by simp only [GA, ↓GB, GX, simprocAttr, GDs]) (by decide) rfl rfl rfl); rotate_left; (focus rfl))
    rfl
theorem tell_f (t : Int) (dl : Bool) (q v : Nat) (hq : q < 18446744073709551616) (a0 : Option Addr) (n0 c0 : Nat) (a1 : Option Addr) (n1 c1 : Nat) (qL : Option Addr) (L : List UInt8) (cL : Nat) (qM : Option Addr) (M : List UInt8) (cM : Nat) :
    CtrF Tryd.prog (fun X => FarLM X qL L qM M) 39 [] [.one (.agg [.v (.int .i64 t), .v (.bool dl), .v (.bool false), .v (.int .u64 q), .v (.int .u64 v), .v (.slice a0 n0 c0), .v (.slice a1 n1 c1), .v (.bool true), .v (.slice qL L.length cL), .v (.slice qM M.length cM)])]
      (fun os u => os = [mrow (tellRs (tN t) L), srow (tellRm dl M)] ∧ u = .one (.agg [.v (.int .i64 (tN t)), .v (.bool dl), .v (.bool false), .v (.int .u64 (1 + q % 6 : Nat)), .v (.int .u64 v), .row 0, .row 1])) := by
  have hn1 : ∀ i, ∀ w, Calls Tryd.prog 18 #[.int .u8 (L.getD i 0).toNat] w _ := fun i w => name_any (L.getD i 0).toNat (L.getD i 0).toNat_lt w
  have hn : ∀ i, ∀ w, Calls Tryd.prog 18 #[.int .u8 (M.getD i 0).toNat] w _ := fun i w => name_any (M.getD i 0).toNat (M.getD i 0).toNat_lt w
  obtain ⟨u, hu⟩ : ∃ u : Int, IntKind.u64.wrap t = u := ⟨_, rfl⟩
  have hu2 : u = t % 18446744073709551616 := by rw [← hu, IntKind.wrap_u64]
  have m0 : 0 ≤ u := by rw [hu2]; omega
  obtain ⟨m, hm⟩ : ∃ m : Int, u.tmod 5 = m := ⟨_, rfl⟩
  have hm2 : m = u % 5 := by rw [← hm, Int.tmod_eq_emod_of_nonneg m0]
  have hm5 : IntKind.i64.wrap m = m := wI64 (by omega) (by omega)
  obtain ⟨tn, htn0⟩ : ∃ tn : Int, (tN t : Int) = tn := ⟨_, rfl⟩
  have htn : IntKind.i64.wrap (1 + m) = tn := by rw [wI64 (by omega) (by omega), ← htn0, tN, hm2, hu2]; omega
  obtain ⟨q7, hq70⟩ : ∃ q7 : Int, ((1 + q % 6 : Nat) : Int) = q7 := ⟨_, rfl⟩
  have hq6 : (q : Int).tmod 6 = ((q % 6 : Nat) : Int) := by rw [Int.tmod_eq_emod_of_nonneg (by omega)]; omega
  have hq7 : IntKind.u64.wrap (1 + ((q % 6 : Nat) : Int)) = q7 := by rw [wU64 (by omega) (by omega), ← hq70]; omega
  rw [htn0, hq70]
  have k16 : ∀ x : UInt8, (((x.toNat : Int).tmod 16 != 15) = nmK x) := fun x => by
    rw [Int.tmod_eq_emod_of_nonneg (by omega), nmK]
    generalize x.toNat = x
    by_cases h : x % 16 = 15
    · have : (x : Int) % 16 = 15 := by omega
      simp only [h, this]; rfl
    · have : ¬ (x : Int) % 16 = 15 := by omega
      simp only [h, decide_false, Bool.not_false, bne_iff_ne, ne_eq, this, not_false_iff]
  have hL16 : ∀ i, (((L.getD i 0).toNat : Int).tmod 16 != 15) = nmK (L.getD i 0) := fun i => k16 _
  have h16 : ∀ i, (((M.getD i 0).toNat : Int).tmod 16 != 15) = nmK (M.getD i 0) := fun i => k16 _
  have h8 : ∀ i, IntKind.u8.wrap (((L.getD i 0).toNat : Int).tdiv 8) = (((L.getD i 0).toNat / 8 : Nat) : Int) := fun i => by
    have := (L.getD i 0).toNat_lt
    rw [Int.tdiv_eq_ediv_of_nonneg (by omega), wB8 (by omega) (by omega)]; omega
  have h64 : ∀ i, IntKind.u64.wrap (((L.getD i 0).toNat / 8 : Nat) : Int) = (((L.getD i 0).toNat / 8 : Nat) : Int) := fun i => by
    have := (L.getD i 0).toNat_lt
    exact wU64 (by omega) (by omega)
  have h65 : ∀ i, IntKind.u64.wrap (1 + (((L.getD i 0).toNat / 8 : Nat) : Int)) = ((1 + (L.getD i 0).toNat / 8 : Nat) : Int) := fun i => by
    have := (L.getD i 0).toNat_lt
    rw [wU64 (by omega) (by omega)]; omega
  have tk : ∀ (M : List UInt8) i, i < M.length → nmK (M.getD i 0) = true → (M.take (i + 1)).filter nmK = (M.take i).filter nmK ++ [M.getD i 0] := fun M i hi h => by
    rw [List.take_add_one, List.getElem?_eq_getElem hi, List.filter_append]
    rw [List.getD_eq_getElem?_getD, List.getElem?_eq_getElem hi] at h ⊢
    simp only [Option.getD_some] at h
    simp only [Option.toList_some, List.filter_cons, h, if_true, List.filter_nil, Option.getD_some]
  have tk0 : ∀ (M : List UInt8) i, i < M.length → nmK (M.getD i 0) = false → (M.take i).filter nmK = (M.take (i + 1)).filter nmK := fun M i hi h => by
    rw [List.take_add_one, List.getElem?_eq_getElem hi, List.filter_append]
    rw [List.getD_eq_getElem?_getD, List.getElem?_eq_getElem hi] at h
    simp only [Option.getD_some] at h
    simp [h]
  have hfl : ∀ (M : List UInt8) i k, i ≤ k → ((M.take i).filter nmK).length ≤ k := fun M i k h => by
    have := filter_le nmK (M.take i)
    rw [List.length_take] at this
    omega
  have ers : ∀ i, (i = 12 ∨ L.length ≤ i) ∧ i ≤ 12 → tellRs tn L = ((L.take i).filter nmK).map (rsN tn) := fun i h => by
    rw [tellRs]
    rcases h with ⟨rfl | h, h2⟩
    · rfl
    · rw [List.take_of_length_le (i := 12) (by omega), List.take_of_length_le h]
  have erm : ∀ i, (dl = false → i = 0) → (dl = false ∨ i = 6 ∨ M.length ≤ i) → i ≤ 6 → tellRm dl M = ((M.take i).filter nmK).map nmV := fun i h0 h h2 => by
    cases dl with
    | false => rw [h0 rfl]; rfl
    | true =>
      rcases h with h | rfl | h
      · cases h
      · rfl
      · rw [tellRm, if_pos rfl, List.take_of_length_le (i := 6) (by omega), List.take_of_length_le h]
  refine CtrF.less ?_
  intro X0 hP0 hG0 N0 hN0
  refine CallVC.inline (f := 39) (by rw [hP0]; exact Tryd.func39) rfl Tryd.ntmps39 rfl (by simp) ?_
  intro X K hU hnt hbl hK
  have hP : X.P = Tryd.prog := by rw [hU.P, hP0]
  have hG := hG0.under hU
  have hT : zeroCells X.P 81 = some [(Value.int IntKind.i64 0), (Value.bool false), (Value.bool false), (Value.int IntKind.u64 0), (Value.int IntKind.u64 0), (Value.slice none 0 0), (Value.slice none 0 0)] ∧ fieldOff X.P 83 1 = some 7 ∧ aggOf X.P 4 = some false ∧ szOf X.P 4 = some 1 ∧ fieldOff X.P 83 0 = some 0 ∧ aggOf X.P 81 = some true ∧ szOf X.P 81 = some 7 ∧ fieldOff X.P 81 0 = some 0 ∧ aggOf X.P 3 = some false ∧ szOf X.P 3 = some 1 ∧ X.P.underlying 3 = some (TypeDesc.int IntKind.i64) ∧ X.P.underlying 164 = some (TypeDesc.int IntKind.u64) ∧ isBytesT X.P 3 = false ∧ isStrT X.P 164 = false ∧ isBytesT X.P 164 = false ∧ isStrT X.P 3 = false ∧ fieldOff X.P 81 1 = some 1 ∧ fieldOff X.P 81 3 = some 3 ∧ aggOf X.P 22 = some false ∧ szOf X.P 22 = some 1 ∧ fieldOff X.P 81 4 = some 4 ∧ fieldOff X.P 81 2 = some 2 ∧ fieldsOf X.P 81 = some [(0, 1), (1, 1), (2, 1), (3, 1), (4, 1), (5, 1), (6, 1)] ∧ fieldOff X.P 83 2 = some 8 ∧ aggOf X.P 58 = some false ∧ szOf X.P 58 = some 1 ∧ X.P.underlying 58 = some (TypeDesc.slice 5) ∧ elemSz X.P 58 = some (5, 1) ∧ aggOf X.P 5 = some false ∧ szOf X.P 5 = some 1 ∧ fieldOff X.P 81 5 = some 5 ∧ aggOf X.P 79 = some false ∧ szOf X.P 79 = some 1 ∧ calleeOk X.P 18 = true ∧ fieldsOf X.P 26 = some [(0, 1), (1, 1)] ∧ zeroCells X.P 26 = some [(Value.int IntKind.i64 0), (Value.string { data := #[] })] ∧ X.P.underlying 5 = some (TypeDesc.int IntKind.u8) ∧ X.P.underlying 22 = some (TypeDesc.int IntKind.u64) ∧ isBytesT X.P 5 = false ∧ isStrT X.P 22 = false ∧ fieldsOf X.P 89 = some [(0, 2), (2, 1), (3, 1), (4, 1)] ∧ zeroCells X.P 89 = some [(Value.int IntKind.i64 0), (Value.string { data := #[] }), (Value.int IntKind.u64 0), (Value.bool false), (Value.string { data := #[] })] ∧ elemSz X.P 79 = some (89, 5) ∧ elemInf X.P 79 = some (89, 5, 56, (Value.agg #[(Value.int IntKind.i64 0), (Value.string { data := #[] }), (Value.int IntKind.u64 0), (Value.bool false), (Value.string { data := #[] })])) ∧ isStrT X.P 79 = false ∧ fieldOff X.P 83 3 = some 9 ∧ fieldOff X.P 81 6 = some 6 ∧ aggOf X.P 38 = some false ∧ szOf X.P 38 = some 1 ∧ elemSz X.P 38 = some (9, 1) ∧ zeroCells X.P 9 = some [(Value.string { data := #[] })] ∧ elemInf X.P 38 = some (9, 1, 16, (Value.string { data := #[] })) ∧ isStrT X.P 38 = false := by rw [hP]; exact ⟨Ty.ze81, Ty.fo83_1, Ty.ag4, Ty.sz4, Ty.fo83_0, Ty.ag81, Ty.sz81, Ty.fo81_0, Ty.ag3, Ty.sz3, Tryd.underlying3, Tryd.underlying164, Ty.ib3, Ty.is164, Ty.ib164, Ty.is3, Ty.fo81_1, Ty.fo81_3, Ty.ag22, Ty.sz22, Ty.fo81_4, Ty.fo81_2, Ty.fs81, Ty.fo83_2, Ty.ag58, Ty.sz58, Tryd.underlying58, Ty.el58, Ty.ag5, Ty.sz5, Ty.fo81_5, Ty.ag79, Ty.sz79, Ty.co18, Ty.fs26, Ty.ze26, Tryd.underlying5, Tryd.underlying22, Ty.ib5, Ty.is22, Ty.fs89, Ty.ze89, Ty.el79, Ty.ei79, Ty.is79, Ty.fo83_3, Ty.fo81_6, Ty.ag38, Ty.sz38, Ty.el38, Ty.ze9, Ty.ei38, Ty.is38⟩
  simp only [GA, ↓GB, GX, simprocAttr] at hbl ⊢
  have hGL := hG.l
  have hGM := hG.m
  have hk3 := True.intro
  repeat' (first
    | (refine SX.nilAt (j := 2) (k := 5) 89 5 rfl rfl ?_)
    | (refine SX.nilAt (j := 2) (k := 6) 9 1 rfl rfl ?_)
    | (refine uBlk (id := 1) (i := i) hGL (by omega) (fun ad hE D => ?_) <;> subst hE)
    | (refine uBlk (id := 3) (i := j) hGM (by omega) (fun ad hE D => ?_) <;> subst hE)
    | (refine SX.seqK ?_; intro N hN)
    | ((first | (refine SX.ops ?_) | (refine SX.planT (id := 8) [.q [(0, [3]), (1, [56]), (2, [3]), (3, [58]), (4, [1]), (5, [60]), (6, [4]), (7, [61, 62]), (8, [63]), (9, [64]), (10, [59, 65]), (11, [1]), (12, [67]), (13, [4]), (14, [68, 69]), (15, [70]), (16, [71]), (17, [72]), (18, [73]), (19, [66, 74])] (some (20, [75])), .s 21, .s 22, .s 23] ?_ ?_ ?_; (focus first | (rw [hP]; kernel_rfl) | (rw [hU1P, hP]; kernel_rfl)); (focus kernel_rfl)) | (refine SX.planT (id := 13) [.q [(0, [3]), (1, [101]), (2, [1]), (3, [103]), (4, [5]), (5, [104, 105]), (6, [106]), (7, [107])] (some (8, [108])), .s 9, .s 10, .s 11] ?_ ?_ ?_; (focus first | (rw [hP]; kernel_rfl) | (rw [hU1P, hP]; kernel_rfl)); (focus kernel_rfl))); simp only [GA, ↓GB, GX, simprocAttr, hnt, hT, hu, hm, hm5, htn, hq6, hq7, hL16, h16, h8, h64, h65])
    | ((first | refine SX.skip ?_ | refine SX.exit ?_ | refine SX.label ?_); try simp only [GA, ↓GB, GX, simprocAttr])
    | (refine SX.cond rfl (fun hb => ?_) (fun hb => ?_) <;> ((first | cases hb | (simp only [HBs] at hb) | skip) <;> (first | (exfalso; omega) | skip)))
    | (refine SX.ret ?_; try simp only [GA, ↓GB, GX, simprocAttr])
    | (refine hN _ ?_; clear hN N)
    | ((first | refine hK _ _ (FinI.ret3 ?_) | refine hK _ _ (FinI.nrm3 ?_)); simp only [GA, ↓GB, GX, simprocAttr, finP_s, hnt, hT, hu, hm, hm5, htn, hq6, hq7, hL16, h16, h8, h64, h65]; refine Done.out ?_)
    | (clear hN N; first | (refine hN _ ?_; clear hN N) | (clear hN N; first | (refine hN _ ?_; clear hN N) | (clear hN N; first | (refine hN _ ?_; clear hN N) | (clear hN N; first | (refine hN _ ?_; clear hN N) | (clear hN N; first | (refine hN _ ?_; clear hN N) | (refine hN _ ?_; clear hN N))))))
    | (refine bif2.mk (fun hb => ?_) (fun hb => ?_) <;> (try simp only [hb, GA, ↓GB, GX, simprocAttr, hnt, hT, hu, hm, hm5, htn, hq6, hq7, hL16, h16, h8, h64, h65]) <;> ((first | cases hb | (simp only [HBs] at hb) | skip) <;> (first | (exfalso; omega) | skip)))
    | ((first | (refine CallVC.pv hP (hn1 i) rfl ?_) | (refine CallQ.pv hP (hn1 i) rfl ?_) | (refine CallVC.pv hP (hn j) rfl ?_) | (refine CallQ.pv hP (hn j) rfl ?_)); simp only [GA, ↓GB, GX, simprocAttr, hnt, hT, hu, hm, hm5, htn, hq6, hq7, hL16, h16, h8, h64, h65])
    | (refine ⟨_, D.cell, ?_⟩ <;> (try simp only [GA, ↓GB, GX, simprocAttr, hnt, hT]))
    | (rw [add_block] <;> exact D.own)
    | (have hers := ers i (by omega) <;> refine SX.loop (ι := { i : Nat // (i ≤ M.length ∧ i ≤ 6) ∧ (dl = false → i = 0) }) (fun i => ⟨[(1, .one (.c (.loc 0 0))), (2, .one (.c (.loc 1 0))), (3, .one (.c (.loc 2 0))), (5, vv (.int .i64 i.1))], [.cells [.v (.int .i64 t), .v (.bool dl), .v (.bool false), .v (.int .u64 q), .v (.int .u64 v), .v (.slice a0 n0 c0), .v (.slice a1 n1 c1), .v (.bool true), .v (.slice qL L.length cL), .v (.slice qM M.length cM)] 83, .cells [.v (.int .i64 0), .v (.bool false), .v (.bool false), .v (.int .u64 0), .v (.int .u64 0), .v (.slice none 0 0), .v (.slice none 0 0)] 81, .cells [.v (.int .i64 tn), .v (.bool dl), .v (.bool false), .v (.int .u64 q7), .v (.int .u64 v), .row 3, .row 4] 81, mrow (tellRs tn L), srow (((M.take i.1).filter nmK).map nmV)]⟩) (fun i => M.length - i.1) ⟨0, ⟨Nat.zero_le _, Nat.zero_le _⟩, fun _ => rfl⟩ ⟨[0, 1, 2, 3, 4], by (refine LeR.of ?_ ?_ ?_ ?_ ?_ ?_ ?_ <;> first | (rw [hbl]; decide) | decide | (simp only [GA, ↓GB, GX, simprocAttr, GDs]; done) | (simp only [GA, ↓GB, GX, simprocAttr, GDs]; first | (rw [hers]; exact ⟨rfl, rfl⟩) | (rw [hers]; rfl) | rfl; done))⟩ ?_ <;> rintro ⟨j, ⟨hi, hi2⟩, hj⟩ <;> simp only [] at hi hi2 hj ⊢)
    | (refine SX.loop (ι := { i : Nat // i ≤ L.length ∧ i ≤ 12 }) (fun i => ⟨[(1, .one (.c (.loc 0 0))), (2, .one (.c (.loc 1 0))), (3, .one (.c (.loc 2 0))), (4, vv (.int .i64 i.1))], [.cells [.v (.int .i64 t), .v (.bool dl), .v (.bool false), .v (.int .u64 q), .v (.int .u64 v), .v (.slice a0 n0 c0), .v (.slice a1 n1 c1), .v (.bool true), .v (.slice qL L.length cL), .v (.slice qM M.length cM)] 83, .cells [.v (.int .i64 0), .v (.bool false), .v (.bool false), .v (.int .u64 0), .v (.int .u64 0), .v (.slice none 0 0), .v (.slice none 0 0)] 81, .cells [.v (.int .i64 tn), .v (.bool dl), .v (.bool false), .v (.int .u64 q7), .v (.int .u64 v), .row 3, .row 4] 81, mrow (((L.take i.1).filter nmK).map (rsN tn)), .row 9 1 0 []]⟩) (fun i => L.length - i.1) ⟨0, Nat.zero_le _, Nat.zero_le _⟩ ⟨[0, 1, 2, 3, 4], by (refine LeR.of ?_ ?_ ?_ ?_ ?_ ?_ ?_ <;> first | (rw [hbl]; decide) | decide | (simp only [GA, ↓GB, GX, simprocAttr, GDs]; done) | (simp only [GA, ↓GB, GX, simprocAttr, GDs]; rfl; done))⟩ ?_ <;> rintro ⟨i, hi, hi2⟩ <;> simp only [] at hi hi2 ⊢)
    | (refine SX.block ?_)
    | (refine and_mk ?_ ?_; (focus first | decide | omega | rfl | assumption | (simp only [List.length_append, List.length_cons, List.length_nil, B_size]; omega) | (simp; done)))
    | (refine And.intro ?_ ?_))
  all_goals (try refine Done.mk ?_)
  · have := hfl L i 12 (by omega)
    rw [List.length_map]
    omega
  · have hn2 : nmK (L.getD i 0) = true := by rw [← hL16 i]; simpa using hb
    have e := mrow_snoc (((L.take i).filter nmK).map (rsN tn)) (rsN tn (L.getD i 0))
    have e2 : ((L.take i).filter nmK).map (rsN tn) ++ [rsN tn (L.getD i 0)] = ((L.take (i + 1)).filter nmK).map (rsN tn) := by rw [tk L i (by omega) hn2, List.map_append]; rfl
    rw [e2] at e
    exact ⟨⟨i + 1, by omega, by omega⟩, [0, 1, 2, 6, 4], by (refine LeR.of ?_ ?_ ?_ ?_ ?_ ?_ ?_ <;> first | (rw [hbl]; decide) | decide | (simp only [GA, ↓GB, GX, simprocAttr, GDs]; done) | (simp only [GA, ↓GB, GX, simprocAttr, GDs]; first | (rw [wI64 (by omega) (by omega)]; rfl) | exact e | exact ⟨e, rfl⟩ | rfl; done)), by show L.length - (i + 1) < L.length - i; omega⟩
  · have hn2 : nmK (L.getD i 0) = false := by rw [← hL16 i]; exact hb
    have e := tk0 L i (by omega) hn2
    exact ⟨⟨i + 1, by omega, by omega⟩, [0, 1, 2, 3, 4], by (refine LeR.of ?_ ?_ ?_ ?_ ?_ ?_ ?_ <;> first | (rw [hbl]; decide) | decide | (simp only [GA, ↓GB, GX, simprocAttr, GDs]; done) | (simp only [GA, ↓GB, GX, simprocAttr, GDs]; first | (rw [wI64 (by omega) (by omega)]; rfl) | (rw [e]; done) | (rw [← e]; exact ⟨rfl, rfl⟩) | (rw [← e]; rfl) | rfl; done)), by show L.length - (i + 1) < L.length - i; omega⟩
  · have := hfl M j 6 (by omega)
    rw [List.length_map]
    omega
  · have hn2 : nmK (M.getD j 0) = true := by rw [← h16 j]; simpa using hb
    have e := srow_snoc (((M.take j).filter nmK).map nmV) (nmV (M.getD j 0))
    have e2 : ((M.take j).filter nmK).map nmV ++ [nmV (M.getD j 0)] = ((M.take (j + 1)).filter nmK).map nmV := by rw [tk M j (by omega) hn2, List.map_append]; rfl
    rw [e2] at e
    exact ⟨⟨j + 1, ⟨by omega, by omega⟩, fun h => by cases h⟩, [0, 1, 2, 3, 6], by (refine LeR.of ?_ ?_ ?_ ?_ ?_ ?_ ?_ <;> first | (rw [hbl]; decide) | decide | (simp only [GA, ↓GB, GX, simprocAttr, GDs]; done) | (simp only [GA, ↓GB, GX, simprocAttr, GDs]; first | (rw [wI64 (by omega) (by omega)]; rfl) | exact e | exact ⟨e, rfl⟩ | exact ⟨rfl, e⟩ | rfl; done)), by show M.length - (j + 1) < M.length - j; omega⟩
  · have hn2 : nmK (M.getD j 0) = false := by rw [← h16 j]; exact hb
    have e := tk0 M j (by omega) hn2
    exact ⟨⟨j + 1, ⟨by omega, by omega⟩, fun h => by cases h⟩, [0, 1, 2, 3, 4], by (refine LeR.of ?_ ?_ ?_ ?_ ?_ ?_ ?_ <;> first | (rw [hbl]; decide) | decide | (simp only [GA, ↓GB, GX, simprocAttr, GDs]; done) | (simp only [GA, ↓GB, GX, simprocAttr, GDs]; first | (rw [wI64 (by omega) (by omega)]; rfl) | (rw [e]; done) | (rw [← e]; exact ⟨rfl, rfl⟩) | (rw [← e]; rfl) | rfl; done)), by show M.length - (j + 1) < M.length - j; omega⟩
  · rw [erm j hj (by first | exact .inl rfl | exact .inr (by omega)) (by omega)] at hN0
    (refine hN0 _ _ ⟨[3, 4], _, _, ?_, ?_, ?_, ⟨rfl, rfl⟩⟩; (focus exact LeR.of rfl trivial (by simp only [GA, ↓GB, GX, simprocAttr, GDs]) (by decide) rfl rfl rfl); rotate_left; (focus rfl))
    rfl
  · rw [erm j hj (by first | exact .inl rfl | exact .inr (by omega)) (by omega)] at hN0
    (refine hN0 _ _ ⟨[3, 4], _, _, ?_, ?_, ?_, ⟨rfl, rfl⟩⟩; (focus exact LeR.of rfl trivial (by simp only [GA, ↓GB, GX, simprocAttr, GDs]) (by decide) rfl rfl rfl); rotate_left; (focus rfl))
    rfl
  · rw [erm j hj (by first | exact .inl rfl | exact .inr (by omega)) (by omega)] at hN0
    (refine hN0 _ _ ⟨[3, 4], _, _, ?_, ?_, ?_, ⟨rfl, rfl⟩⟩; (focus exact LeR.of rfl trivial (by simp only [GA, ↓GB, GX, simprocAttr, GDs]) (by decide) rfl rfl rfl); rotate_left; (focus rfl))
    rfl
  · have := hfl M j 6 (by omega)
    rw [List.length_map]
    omega
  · have hn2 : nmK (M.getD j 0) = true := by rw [← h16 j]; simpa using hb
    have e := srow_snoc (((M.take j).filter nmK).map nmV) (nmV (M.getD j 0))
    have e2 : ((M.take j).filter nmK).map nmV ++ [nmV (M.getD j 0)] = ((M.take (j + 1)).filter nmK).map nmV := by rw [tk M j (by omega) hn2, List.map_append]; rfl
    rw [e2] at e
    exact ⟨⟨j + 1, ⟨by omega, by omega⟩, fun h => by cases h⟩, [0, 1, 2, 3, 6], by (refine LeR.of ?_ ?_ ?_ ?_ ?_ ?_ ?_ <;> first | (rw [hbl]; decide) | decide | (simp only [GA, ↓GB, GX, simprocAttr, GDs]; done) | (simp only [GA, ↓GB, GX, simprocAttr, GDs]; first | (rw [wI64 (by omega) (by omega)]; rfl) | exact e | exact ⟨e, rfl⟩ | exact ⟨rfl, e⟩ | rfl; done)), by show M.length - (j + 1) < M.length - j; omega⟩
  · have hn2 : nmK (M.getD j 0) = false := by rw [← h16 j]; exact hb
    have e := tk0 M j (by omega) hn2
    exact ⟨⟨j + 1, ⟨by omega, by omega⟩, fun h => by cases h⟩, [0, 1, 2, 3, 4], by (refine LeR.of ?_ ?_ ?_ ?_ ?_ ?_ ?_ <;> first | (rw [hbl]; decide) | decide | (simp only [GA, ↓GB, GX, simprocAttr, GDs]; done) | (simp only [GA, ↓GB, GX, simprocAttr, GDs]; first | (rw [wI64 (by omega) (by omega)]; rfl) | (rw [e]; done) | (rw [← e]; exact ⟨rfl, rfl⟩) | (rw [← e]; rfl) | rfl; done)), by show M.length - (j + 1) < M.length - j; omega⟩
  · rw [erm j hj (by first | exact .inl rfl | exact .inr (by omega)) (by omega)] at hN0
    (refine hN0 _ _ ⟨[3, 4], _, _, ?_, ?_, ?_, ⟨rfl, rfl⟩⟩; (focus exact LeR.of rfl trivial (by simp only [GA, ↓GB, GX, simprocAttr, GDs]) (by decide) rfl rfl rfl); rotate_left; (focus rfl))
    rfl
  · rw [erm j hj (by first | exact .inl rfl | exact .inr (by omega)) (by omega)] at hN0
    (refine hN0 _ _ ⟨[3, 4], _, _, ?_, ?_, ?_, ⟨rfl, rfl⟩⟩; (focus exact LeR.of rfl trivial (by simp only [GA, ↓GB, GX, simprocAttr, GDs]) (by decide) rfl rfl rfl); rotate_left; (focus rfl))
    rfl
  · rw [erm j hj (by first | exact .inl rfl | exact .inr (by omega)) (by omega)] at hN0
    (refine hN0 _ _ ⟨[3, 4], _, _, ?_, ?_, ?_, ⟨rfl, rfl⟩⟩; (focus exact LeR.of rfl trivial (by simp only [GA, ↓GB, GX, simprocAttr, GDs]) (by decide) rfl rfl rfl); rotate_left; (focus rfl))
    rfl
theorem tell_ctr (t : Int) (dl mo : Bool) (q v : Nat) (hq : q < 18446744073709551616) (a0 : Option Addr) (n0 c0 : Nat) (a1 : Option Addr) (n1 c1 : Nat) (qL : Option Addr) (L : List UInt8) (cL : Nat) (qM : Option Addr) (M : List UInt8) (cM : Nat) :
    CtrF Tryd.prog (fun X => FarLM X qL L qM M) 39 [] [.one (.agg [.v (.int .i64 t), .v (.bool dl), .v (.bool mo), .v (.int .u64 q), .v (.int .u64 v), .v (.slice a0 n0 c0), .v (.slice a1 n1 c1), .v (.bool true), .v (.slice qL L.length cL), .v (.slice qM M.length cM)])]
      (fun os u => os = [mrow (tellRs (tN t) L), srow (tellRm dl M)] ∧ u = .one (.agg [.v (.int .i64 (tN t)), .v (.bool dl), .v (.bool (mo && dl)), .v (.int .u64 (1 + q % 6 : Nat)), .v (.int .u64 v), .row 0, .row 1])) := by
  cases mo with
  | true => exact tell_t t dl q v hq a0 n0 c0 a1 n1 c1 qL L cL qM M cM
  | false => exact tell_f t dl q v hq a0 n0 c0 a1 n1 c1 qL L cL qM M cM
end Go.Proofs.YtbdacbcpniegiaaDoor.Q
namespace Go.Proofs.YtbdacbcpniegiaaDoor.Q
open Go Go.RowKit Go.Proofs Go.Sx Go.ChangeShapes
set_option maxRecDepth 100000
set_option linter.unusedSimpArgs false
set_option linter.unusedVariables false
theorem nKind : Tryd.prog.globalNamed "noria/message.errKind" = some 0 := by kernel_rfl
theorem nForm : Tryd.prog.globalNamed "noria/message.errForm" = some 1 := by kernel_rfl
theorem tKind : (Tryd.prog.globals[0]?).map (·.type) = some 125 := by kernel_rfl
theorem tForm : (Tryd.prog.globals[1]?).map (·.type) = some 125 := by kernel_rfl
theorem ge_of_laid {W : World} {n0 n3 : String} {d0 d3 : DataW Unit} (h : laidMet Tryd.prog [(n0, d0), ("noria/wire.errShort", Rows.laid_noria_wire_errShort), ("noria/wire.errWrong", Rows.laid_noria_wire_errWrong), ("noria/message.errKind", Rows.laid_noria_message_errKind), ("noria/message.errForm", Rows.laid_noria_message_errForm), (n3, d3)] W) :
    ∃ e : EA, e.Ok ∧ ∀ p ∈ GE e, W.cell? p.1 = some p.2 ∧ loneStr W p := by
  obtain ⟨ps, ⟨gx, tx, csx, fx, px, qx, hgx, htx, hvx, hdx, ⟨gz, tz, csz, fz, pz, qz, hgz, htz, hvz, hdz, ⟨gw, tw, csw, fw, pw, qw, hgw, htw, hvw, hdw, ⟨gk, tk, csk, fk, pk, qk, hgk, htk, hvk, hdk, ⟨gf, tf, csf, ff, pf, qf, hgf, htf, hvf, hdf, hq9, ef⟩, ek⟩, ew⟩, ez⟩, ex⟩, hnd, hrows⟩ := h
  obtain rfl := Option.some.inj (nShort.symm.trans hgz)
  obtain rfl := Option.some.inj (tShort.symm.trans htz)
  obtain rfl := Option.some.inj (nWrong.symm.trans hgw)
  obtain rfl := Option.some.inj (tWrong.symm.trans htw)
  obtain rfl := Option.some.inj (nKind.symm.trans hgk)
  obtain rfl := Option.some.inj (tKind.symm.trans htk)
  obtain rfl := Option.some.inj (nForm.symm.trans hgf)
  obtain rfl := Option.some.inj (tForm.symm.trans htf)
  subst ef
  subst ek
  subst ew
  subst ez
  subst ex
  obtain ⟨lz⟩ := csz
  obtain ⟨lw⟩ := csw
  obtain ⟨lk⟩ := csk
  obtain ⟨lf⟩ := csf
  have okz : ∀ u v, lz = [.iface u v] → Value.okWide Tryd.prog W .any 0 u v := fun u v e => by
    subst e
    exact (hrows 2 0 (by simp [MemPlace.row])).2 u v (by simpa using World.var?_cell hgz hvz 0)
  have okw : ∀ u v, lw = [.iface u v] → Value.okWide Tryd.prog W .any 0 u v := fun u v e => by
    subst e
    exact (hrows 3 0 (by simp [MemPlace.row])).2 u v (by simpa using World.var?_cell hgw hvw 0)
  have okk : ∀ u v, lk = [.iface u v] → Value.okWide Tryd.prog W .any 0 u v := fun u v e => by
    subst e
    exact (hrows 0 0 (by simp [MemPlace.row])).2 u v (by simpa using World.var?_cell hgk hvk 0)
  have okf : ∀ u v, lf = [.iface u v] → Value.okWide Tryd.prog W .any 0 u v := fun u v e => by
    subst e
    exact (hrows 1 0 (by simp [MemPlace.row])).2 u v (by simpa using World.var?_cell hgf hvf 0)
  obtain ⟨az, sz, rfl, hcz, hsz, hzz, rfl⟩ := errorString_of_trod Tryd.underlying125 row253 Tryd.underlying253 Tryd.underlying277 rfl rfl Tryd.underlying9 c277 c9 hdz okz
  obtain ⟨aw, sw, rfl, hcw, hsw, hzw, rfl⟩ := errorString_of_trod Tryd.underlying125 row253 Tryd.underlying253 Tryd.underlying277 rfl rfl Tryd.underlying9 c277 c9 hdw okw
  obtain ⟨ak, sk, rfl, hck, hsk, hzk, rfl⟩ := errorString_of_trod Tryd.underlying125 row253 Tryd.underlying253 Tryd.underlying277 rfl rfl Tryd.underlying9 c277 c9 hdk okk
  obtain ⟨af, sf, rfl, hcf, hsf, hzf, rfl⟩ := errorString_of_trod Tryd.underlying125 row253 Tryd.underlying253 Tryd.underlying277 rfl rfl Tryd.underlying9 c277 c9 hdf okf
  obtain ⟨bz, uz, hbz⟩ := (hrows az.block az.off (by simp [MemPlace.row])).1
  have hxz : W.cell? ⟨2, 0, none⟩ = some (errV az) := by simpa using World.var?_cell hgz hvz 0
  obtain ⟨bw, uw, hbw⟩ := (hrows aw.block aw.off (by simp [MemPlace.row])).1
  have hxw : W.cell? ⟨3, 0, none⟩ = some (errV aw) := by simpa using World.var?_cell hgw hvw 0
  obtain ⟨bk, uk, hbk⟩ := (hrows ak.block ak.off (by simp [MemPlace.row])).1
  have hxk : W.cell? ⟨0, 0, none⟩ = some (errV ak) := by simpa using World.var?_cell hgk hvk 0
  obtain ⟨bf, uf, hbf⟩ := (hrows af.block af.off (by simp [MemPlace.row])).1
  have hxf : W.cell? ⟨1, 0, none⟩ = some (errV af) := by simpa using World.var?_cell hgf hvf 0
  have key : ∀ (s : ByteArray) (l : List UInt8), s.data.toList = l → s = B l := fun s l h => by
    obtain ⟨⟨x⟩⟩ := s
    have h : x = l := h
    rw [h]; rfl
  have esz : sz = B tS := key _ _ hsz
  rw [esz] at hcz
  have esw : sw = B tW := key _ _ hsw
  rw [esw] at hcw
  have esk : sk = B tK := key _ _ hsk
  rw [esk] at hck
  have esf : sf = B tF := key _ _ hsf
  rw [esf] at hcf
  refine ⟨⟨ak, af, az, aw⟩, ?_, ?_⟩
  · have h2 := hnd
    simp [MemPlace.row, List.nodup_append] at h2
    constructor <;> simp only [ne_eq] <;> rintro rfl <;> simp at h2
  · intro p hp
    simp only [GE, List.mem_cons, List.not_mem_nil, or_false] at hp
    rcases hp with rfl | rfl | rfl | rfl | rfl | rfl | rfl | rfl
    · exact ⟨hxk, trivial⟩
    · exact ⟨hxf, trivial⟩
    · exact ⟨hxz, trivial⟩
    · exact ⟨hxw, trivial⟩
    · exact ⟨hck, _, _, hbk⟩
    · exact ⟨hcf, _, _, hbf⟩
    · exact ⟨hcz, _, _, hbz⟩
    · exact ⟨hcw, _, _, hbw⟩
end Go.Proofs.YtbdacbcpniegiaaDoor.Q
namespace Go.Sx
open Go Go.RowKit
section
variable {X : Ctx} {c : Cfg} {N : Cfg → Prop} {d : Option Tmp} {ty : TypeId} {pos : String} {af : Array Edge} {g : Option (Nat × Bool)}
theorem SX.joinI {ι : Type} (S : ι → Cfg) {x y : Code} {K : Exit → Cfg → Prop} (hx : SX X x c (nx (fun c' => ∃ j, Imp X c' (S j)) K)) (hy : ∀ i, SX X y (S i) K) : SX X (.seq x y) c K :=
  .seq (SX.mono (fun e c' h => by
    cases e with
    | normal =>
      obtain ⟨j, hi⟩ := h
      intro ρ σ a w hr
      obtain ⟨ρ', σ', hr'⟩ := hi ρ σ a w hr
      exact hy j ρ' σ' a w hr'
    | exit id => exact h
    | goto l => exact h
    | ret => exact h
    | panic ch => exact h
    | outgrown => exact h) hx)
theorem Imp.closeAt {j k i : Nat} {t e sz n cap : Nat} {l : List SC} {us : List Value} (hj : c.loc[j]? = some (.cells l t)) (hk : l[k]? = some (.sl i 0 n cap)) (hi : c.loc[i]? = some (plain us e)) (hne : i ≠ j) (hl : us.length = cap * sz) (hn : n ≤ cap) (hcm : cap ≤ maxLen) :
    Imp X c ⟨c.env, (c.loc.set i .gone ++ [LO.row e sz n (us.take (n * sz))]).set j (.cells (l.set k (.row c.loc.length)) t)⟩ := fun ρ σ a w hr => by
  obtain ⟨fpj, hfpj⟩ := hr.locAt hj
  obtain ⟨hdj, hdvj⟩ := hr.hdl hfpj
  obtain ⟨bj, cs, rfl, hmj, hwj, hcs⟩ := hr.loc j _ fpj _ hj hfpj hdvj
  obtain ⟨u, hu, hdu⟩ := hcs.get hk
  obtain ⟨b, hb, rfl⟩ := hdu
  obtain ⟨hw, fp, hfp, hm⟩ := hr.plainAt hi hb
  have hns : n * sz ≤ cap * sz := Nat.mul_le_mul_right _ hn
  have hR := hr.move (w' := w) (fp' := [b]) (v' := .slice (some ⟨b, 0, none⟩) n cap) (o' := .row e sz n (us.take (n * sz))) (List.getElem?_eq_some_iff.1 hi).1 hfp (Fr.refl _ _) (fun k hk => by simp at hk; subst hk; exact .inl hm) (by simp)
    ⟨⟨by simp; omega, .inr ⟨b, cap, us.toArray, rfl, Nat.zero_le _, hw, hn, hcm, by simpa using hl, by simp⟩⟩, fun k hk => by simp [Value.ownBlock] at hk; simp [hk]⟩ rfl
  refine ⟨_, _, Rel.retell (l := l) hR (by rw [List.getElem?_append_left (by rw [List.length_set]; exact (List.getElem?_eq_some_iff.1 hj).1), List.getElem?_set_ne hne]; exact hj) (fun cs' hcs' => ?_)⟩
  obtain ⟨u2, hu2, hdu2⟩ := hcs'.get hk
  obtain ⟨b2, hb2, rfl⟩ := hdu2
  have hlt : i < σ.length := (List.getElem?_eq_some_iff.1 hb).1
  rw [List.getElem?_append_left hlt, hb] at hb2
  cases hb2
  have hs := hcs'.set (i := k) (a := SC.row c.loc.length) (b := Value.slice (some ⟨b, 0, none⟩) n cap) (by
    show (σ ++ [_])[c.loc.length]? = some _
    rw [← hr.lenS]; simp)
  obtain ⟨hlt2, he⟩ := List.getElem?_eq_some_iff.1 hu2
  have e3 : cs'.set k (Value.slice (some ⟨b, 0, none⟩) n cap) = cs' := by rw [← he, List.set_getElem_self hlt2]
  rw [e3] at hs
  exact hs
theorem VO.makeFull {t e sz by_ : Nat} {x y : Operand} {kl kc : IntKind} {n : Nat} {z : Value} (xs : List Value) (hx : c.ev x = vv (.int kl (n : Int))) (hy : c.ev y = vv (.int kc (n : Int))) (ht : elemInf X.P t = some (e, sz, by_, z))
    (h1 : n * sz ≤ 16777216) (h2 : by_ * n ≤ 281474976710656) (h3 : n ≤ maxLen) (hxs : (madeCells z.cells (n * sz)).toList = xs)
    (h : nxt X d N { c with loc := c.loc ++ [.row e sz n xs] } (.one (.c (.row c.loc.length)))) : VO X ⟨d, .makeSlice t x y, ty, pos, af, g⟩ c N := by
  obtain ⟨hu, i, hi, hz, rfl, rfl, _, _⟩ := elemInf_spec ht
  exact .of_value fun ρ σ a w hr => by
    have e1 := hr.ev x
    rw [hx] at e1
    have e1 : a.eval x = .int kl n := e1
    have e2 := hr.ev y
    rw [hy] at e2
    have e2 : a.eval y = .int kc n := e2
    obtain ⟨w', hrun, ho, hg⟩ := run_makeSlice_full (P := X.P) w w.heap.size t e i z i.size hu hi hz rfl kl kc n h1 h2 h3 (Nat.le_refl _)
    rw [hxs] at ho
    have hB : Below w.heap.size w w' := ⟨hg.os, hg.tape, hg.output, hg.size, fun k hk => hg.block k hk (by simp)⟩
    obtain ⟨ρ', hR⟩ := hr.newRow hB ho
    refine ⟨.slice (some ⟨w.heap.size, 0, none⟩) n n, w', _, _, _, .one (.c (.row c.loc.length)), ?_, hR, ?_, h.1, h.2⟩
    · simp only [execOp, e1, e2, Sem.run_bind, hrun, Result.andThen, Sem.run_pure]
    · show (σ ++ [_])[c.loc.length]? = _
      rw [← hr.lenS]; simp
end
end Go.Sx
namespace Go.Proofs.YtbdacbcpniegiaaDoor.Q
open Go Go.RowKit Go.Proofs Go.Sx
set_option maxHeartbeats 32000000
set_option maxRecDepth 100000
set_option linter.unusedSimpArgs false
set_option linter.unusedVariables false
structure RqW (b : Bool) where
  t : Int
  dl : Bool
  q : Nat
  sb : List (List UInt8)
  un : List (List UInt8)
  hv : List HvS
  d : List UInt8
  hB : reqB t dl q sb un hv d = b
  hq : q < 18446744073709551616
  h1 : sb.length ≤ 1000
  h2 : un.length ≤ 1000
  h3 : hv.length ≤ 1000
  b1 : ∀ s ∈ sb, s.length ≤ 1000
  b2 : ∀ s ∈ un, s.length ≤ 1000
  b3 : ∀ x ∈ hv, x.1.length ≤ 1000 ∧ x.2 < 18446744073709551616
def RqW.st {b : Bool} (i : RqW b) : List UInt8 := if b then reqBytes i.t.toNat i.dl i.q i.sb i.un i.hv i.d else []
theorem RqW.st_b {b : Bool} (i : RqW b) : (i.st != []) = b := by
  unfold RqW.st; cases b
  · rfl
  · simp [reqBytes, reqHead]
theorem RqW.put {b : Bool} (i : RqW b) : Ctr Tryd.prog [] 40 [srow i.sb, srow i.un, hrow i.hv] [.one (.agg [.v (.int .i64 i.t), .v (.bool i.dl), .v (.int .u64 i.q), .row 0, .row 1, .row 2, .v (.string (B i.d))])]
      (fun os v => os = [srow i.sb, srow i.un, hrow i.hv] ∧ v = .tup [.c (.v (.string (B i.st))), .c (.v (.bool b))]) := by
  have h := putReq_ctr i.t i.dl i.q i.sb i.un i.hv i.d i.hq (by have := i.h1; omega) (by have := i.h2; omega) (by have := i.h3; omega) (fun s hs => by have := i.b1 s hs; omega) (fun s hs => by have := i.b2 s hs; omega) (fun x hx => ⟨by have := (i.b3 x hx).1; omega, (i.b3 x hx).2⟩)
  simp only [i.hB] at h
  exact h
theorem RqW.right {b : Bool} (i : RqW b) : Ctr Tryd.prog [] 42 [srow i.sb, srow i.un, hrow i.hv] [.one (.agg [.v (.int .i64 i.t), .v (.bool i.dl), .v (.int .u64 i.q), .row 0, .row 1, .row 2, .v (.string (B i.d))])] (fun os v => os = [srow i.sb, srow i.un, hrow i.hv] ∧ v = vv (.bool b)) := by
  have h := rightReq_ctr i.t i.dl i.q i.sb i.un i.hv i.d (by have := i.h1; omega) (by have := i.h2; omega) (by have := i.h3; omega) (fun s hs => by have := i.b1 s hs; omega) (fun s hs => by have := i.b2 s hs; omega) (fun s hs => by
    obtain ⟨x, hx, rfl⟩ := List.mem_map.1 hs
    have := (i.b3 x hx).1; omega)
  rw [i.hB] at h
  exact h
structure RsW where
  t : Int
  dl : Bool
  mo : Bool
  q : Nat
  v : Nat
  rs : List Rs
  rm : List (List UInt8)
  hB : respB t dl mo q rs rm = false
  h1 : rs.length ≤ 1000
  h2 : rm.length ≤ 1000
  b1 : ∀ r ∈ rs, r.s.length ≤ 1000
  b2 : ∀ s ∈ rm, s.length ≤ 1000
theorem RsW.put (i : RsW) : Ctr Tryd.prog [] 41 [mrow i.rs, srow i.rm] [.one (.agg [.v (.int .i64 i.t), .v (.bool i.dl), .v (.bool i.mo), .v (.int .u64 i.q), .v (.int .u64 i.v), .row 0, .row 1])] (fun os u => os = [mrow i.rs, srow i.rm] ∧ u = .tup [.c (.v (.string (B []))), .c (.v (.bool false))]) :=
  putResp_no i.t i.dl i.mo i.q i.v i.rs i.rm (by have := i.h1; omega) (fun r hr => by have := i.b1 r hr; omega) (by have := i.h2; omega) (fun s hs => by have := i.b2 s hs; omega) i.hB
theorem RsW.right (i : RsW) : Ctr Tryd.prog [] 43 [mrow i.rs, srow i.rm] [.one (.agg [.v (.int .i64 i.t), .v (.bool i.dl), .v (.bool i.mo), .v (.int .u64 i.q), .v (.int .u64 i.v), .row 0, .row 1])] (fun os u => os = [mrow i.rs, srow i.rm] ∧ u = vv (.bool false)) := by
  have h := rightResp_ctr i.t i.dl i.mo i.q i.v i.rs i.rm (by have := i.h1; omega) (fun r hr => by have := i.b1 r hr; omega) (by have := i.h2; omega) (fun s hs => by have := i.b2 s hs; omega)
  rw [i.hB] at h
  exact h
end Go.Proofs.YtbdacbcpniegiaaDoor.Q
namespace Go.Proofs.YtbdacbcpniegiaaDoor.Q
open Go Go.RowKit Go.Proofs Go.Sx
set_option maxHeartbeats 64000000
set_option maxRecDepth 100000
set_option linter.unusedSimpArgs false
set_option linter.unusedVariables false
structure WrongF (X : Ctx) (e : EA) (qL : Option Addr) (L : List UInt8) (qM : Option Addr) (M : List UInt8) (qL' : Option Addr) (L' : List UInt8) (qM' : Option Addr) (M' : List UInt8) : Prop where
  k : Known X (GE e)
  a : FarLM X qL L qM M
  b : FarLM X qL' L' qM' M'
theorem WrongF.under {X X' : Ctx} {e : EA} {qL qM qL' qM' : Option Addr} {L M L' M' : List UInt8} (h : WrongF X e qL L qM M qL' L' qM' M') (hU : Under X X') : WrongF X' e qL L qM M qL' L' qM' M' := ⟨h.k.under hU, h.a.under hU, h.b.under hU⟩
@[irreducible] def z257 : List UInt8 := List.replicate 257 0
theorem z257_len : z257.length = 257 := by unfold z257; exact List.length_replicate
theorem z257_made : (madeCells (Value.int .u8 0).cells (257 * 1)).toList = bcells z257 := by unfold z257; kernel_rfl
theorem nmV_len' (x : UInt8) : (nmV x).length ≤ 1000 := by have := nmV_len x; omega
theorem askSb_b (L : List UInt8) : ∀ s ∈ askSb L, s.length ≤ 1000 := by
  simp only [askSb, List.mem_map]; rintro s ⟨x, _, rfl⟩; exact nmV_len' x
theorem askUn_b (dl : Bool) (M : List UInt8) : ∀ s ∈ askUn dl M, s.length ≤ 1000 := by
  cases dl
  · intro s hs; cases hs
  · simp only [askUn, if_true, List.mem_map]; rintro s ⟨x, _, rfl⟩; exact nmV_len' x
theorem askHv_b (dl : Bool) (M : List UInt8) : ∀ x ∈ askHv dl M, x.1.length ≤ 1000 ∧ x.2 < 18446744073709551616 := by
  cases dl
  · intro s hs; cases hs
  · simp only [askHv, if_true, List.mem_map]; rintro s ⟨x, _, rfl⟩
    have := x.toNat_lt
    exact ⟨nmV_len' x, by show x.toNat / 4 < _; omega⟩
theorem tellRs_b (t : Int) (L : List UInt8) : ∀ r ∈ tellRs t L, r.s.length ≤ 1000 := by
  simp only [tellRs, List.mem_map]; rintro s ⟨x, _, rfl⟩; exact nmV_len' x
theorem tellRm_b (dl : Bool) (M : List UInt8) : ∀ s ∈ tellRm dl M, s.length ≤ 1000 := by
  cases dl
  · intro s hs; cases hs
  · simp only [tellRm, if_true, List.mem_map]; rintro s ⟨x, _, rfl⟩; exact nmV_len' x
theorem snoc_b {α : Type} {p : α → Prop} {l : List α} {x : α} (h : ∀ y ∈ l, p y) (hx : p x) : ∀ y ∈ l ++ [x], p y := by
  intro y hy
  rcases List.mem_append.1 hy with h' | h'
  · exact h y h'
  · rw [List.mem_singleton.1 h']; exact hx
theorem wrong_ctr {e : EA} (he : e.Ok) (t : Int) (dl : Bool) (q : Nat) (hq : q < 18446744073709551616) (d : List UInt8) (hd : d.length ≤ 9223372036854775807) (a0 : Option Addr) (n0 c0 : Nat) (a1 : Option Addr) (n1 c1 : Nat) (a2 : Option Addr) (n2 c2 : Nat) (o1 : Bool) (qL : Option Addr) (L : List UInt8) (cL : Nat) (qM : Option Addr) (M : List UInt8) (cM : Nat)
    (t' : Int) (dl' mo' : Bool) (q' v' : Nat) (hq' : q' < 18446744073709551616) (a0' : Option Addr) (n0' c0' : Nat) (a1' : Option Addr) (n1' c1' : Nat) (o2 : Bool) (qL' : Option Addr) (L' : List UInt8) (cL' : Nat) (qM' : Option Addr) (M' : List UInt8) (cM' : Nat)
    (n : Nat) (hn : n < 256) (s : List UInt8) (hs : s.length ≤ 9223372036854775807) :
    CtrF Tryd.prog (fun X => WrongF X e qL L qM M qL' L' qM' M') 10 [] [.one (.agg [.v (.int .i64 t), .v (.bool dl), .v (.int .u64 q), .v (.slice a0 n0 c0), .v (.slice a1 n1 c1), .v (.slice a2 n2 c2), .v (.string (B d)), .v (.bool o1), .v (.slice qL L.length cL), .v (.slice qM M.length cM)]), .one (.agg [.v (.int .i64 t'), .v (.bool dl'), .v (.bool mo'), .v (.int .u64 q'), .v (.int .u64 v'), .v (.slice a0' n0' c0'), .v (.slice a1' n1' c1'), .v (.bool o2), .v (.slice qL' L'.length cL'), .v (.slice qM' M'.length cM')]), vv (.int .u8 n), vv (.string (B s))] (fun os u => os = [] ∧ u = vv (.bool true)) := by
  have hask := ask_ctr t dl q hq d hd a0 n0 c0 a1 n1 c1 a2 n2 c2 qL L cL qM M cM
  have htell := tell_ctr t' dl' mo' q' v' hq' a0' n0' c0' a1' n1' c1' qL' L' cL' qM' M' cM'
  have hex := ex05_ctr he
  have hm12 : (n : Int).tmod 12 = ((n % 12 : Nat) : Int) := by rw [Int.tmod_eq_emod_of_nonneg (by omega)]; omega
  have hm6 : (n : Int).tmod 6 = ((n % 12 % 6 : Nat) : Int) := by rw [Int.tmod_eq_emod_of_nonneg (by omega)]; omega
  have hk12 : n % 12 < 12 := by omega
  generalize n % 12 = k at hm12 hm6 hk12
  obtain ⟨b, hb0⟩ : ∃ b, decide (5 < k) = b := ⟨_, rfl⟩
  have hb5 : decide ((5 : Int) < (k : Int)) = b := by rw [← hb0]; apply decide_eq_decide.2; omega
  have hx20 : (List.take ((if 20 < (s.length : Int) then 20 else (s.length : Int)).toNat - 0) s).length ≤ 20 := by
    rw [List.length_take]; split <;> omega
  have htt : IntKind.i64.wrap (1 + ((tN t' : Nat) : Int).tmod 5) ≠ (tN t' : Int) := by
    have h0 := tN_1 t'
    rw [Int.tmod_eq_emod_of_nonneg (by omega), wI64 (by omega) (by omega)]; omega
  obtain ⟨u5, hu5⟩ : ∃ u5, IntKind.i64.wrap (1 + ((tN t' : Nat) : Int).tmod 5) = u5 := ⟨_, rfl⟩
  rw [hu5] at htt
  have l1 := askSb_len L
  have l2 := askUn_len dl M
  have l3 := askHv_len dl M
  have l4 := tellRs_len (tN t') L'
  have l5 := tellRm_len dl' M'
  refine CtrF.less ?_
  intro X0 hP0 hG0 N0 hN0
  refine CallVC.inline (f := 10) (by rw [hP0]; exact Tryd.func10) rfl Tryd.ntmps10 rfl (by simp) ?_
  intro X K hU hnt hbl hK
  have hP : X.P = Tryd.prog := by rw [hU.P, hP0]
  have hG := hG0.under hU
  have hT : calleeOk X.P 17 = true ∧ fieldOff X.P 78 1 = some 7 ∧ szOf X.P 4 = some 1 ∧ fieldOff X.P 83 1 = some 7 ∧ aggOf X.P 78 = some true ∧ szOf X.P 78 = some 10 ∧ calleeOk X.P 38 = true ∧ zeroCells X.P 41 = some [(Value.int IntKind.i64 0), (Value.bool false), (Value.int IntKind.u64 0), (Value.slice none 0 0), (Value.slice none 0 0), (Value.slice none 0 0), (Value.string { data := #[] })] ∧ szOf X.P 41 = some 7 ∧ aggOf X.P 83 = some true ∧ szOf X.P 83 = some 10 ∧ calleeOk X.P 39 = true ∧ zeroCells X.P 81 = some [(Value.int IntKind.i64 0), (Value.bool false), (Value.bool false), (Value.int IntKind.u64 0), (Value.int IntKind.u64 0), (Value.slice none 0 0), (Value.slice none 0 0)] ∧ szOf X.P 81 = some 7 ∧ fieldOff X.P 41 2 = some 2 ∧ szOf X.P 22 = some 1 ∧ X.P.underlying 9 = some TypeDesc.string ∧ isStrT X.P 9 = true ∧ fieldOff X.P 41 6 = some 6 ∧ szOf X.P 9 = some 1 ∧ fieldOff X.P 41 3 = some 3 ∧ aggOf X.P 38 = some false ∧ szOf X.P 38 = some 1 ∧ elemSz X.P 38 = some (9, 1) ∧ zeroCells X.P 9 = some [(Value.string { data := #[] })] ∧ elemInf X.P 38 = some (9, 1, 16, (Value.string { data := #[] })) ∧ isStrT X.P 38 = false ∧ fieldOff X.P 41 0 = some 0 ∧ szOf X.P 3 = some 1 ∧ fieldOff X.P 41 1 = some 1 ∧ fieldOff X.P 41 4 = some 4 ∧ fieldOff X.P 41 5 = some 5 ∧ aggOf X.P 39 = some false ∧ szOf X.P 39 = some 1 ∧ fieldsOf X.P 87 = some [(0, 1), (1, 1)] ∧ zeroCells X.P 87 = some [(Value.string { data := #[] }), (Value.int IntKind.u64 0)] ∧ elemSz X.P 39 = some (87, 2) ∧ elemInf X.P 39 = some (87, 2, 24, (Value.agg #[(Value.string { data := #[] }), (Value.int IntKind.u64 0)])) ∧ isStrT X.P 39 = false ∧ elemInf X.P 58 = some (5, 1, 1, (Value.int IntKind.u8 0)) ∧ X.P.underlying 58 = some (TypeDesc.slice 5) ∧ isBytesT X.P 58 = true ∧ fieldOff X.P 81 3 = some 3 ∧ fieldOff X.P 81 6 = some 6 ∧ fieldOff X.P 81 1 = some 1 ∧ fieldOff X.P 81 2 = some 2 ∧ fieldOff X.P 81 5 = some 5 ∧ aggOf X.P 79 = some false ∧ szOf X.P 79 = some 1 ∧ fieldOff X.P 81 0 = some 0 ∧ aggOf X.P 3 = some false ∧ fieldsOf X.P 26 = some [(0, 1), (1, 1)] ∧ zeroCells X.P 26 = some [(Value.int IntKind.i64 0), (Value.string { data := #[] })] ∧ fieldsOf X.P 89 = some [(0, 2), (2, 1), (3, 1), (4, 1)] ∧ zeroCells X.P 89 = some [(Value.int IntKind.i64 0), (Value.string { data := #[] }), (Value.int IntKind.u64 0), (Value.bool false), (Value.string { data := #[] })] ∧ elemSz X.P 79 = some (89, 5) ∧ elemInf X.P 79 = some (89, 5, 56, (Value.agg #[(Value.int IntKind.i64 0), (Value.string { data := #[] }), (Value.int IntKind.u64 0), (Value.bool false), (Value.string { data := #[] })])) ∧ isStrT X.P 79 = false ∧ aggOf X.P 41 = some true ∧ calleeOk X.P 40 = true ∧ aggOf X.P 81 = some true ∧ calleeOk X.P 41 = true ∧ X.P.underlying 4 = some TypeDesc.bool ∧ calleeOk X.P 42 = true ∧ calleeOk X.P 43 = true := by rw [hP]; exact ⟨Ty.co17, Ty.fo78_1, Ty.sz4, Ty.fo83_1, Ty.ag78, Ty.sz78, Ty.co38, Ty.ze41, Ty.sz41, Ty.ag83, Ty.sz83, Ty.co39, Ty.ze81, Ty.sz81, Ty.fo41_2, Ty.sz22, Tryd.underlying9, Ty.is9, Ty.fo41_6, Ty.sz9, Ty.fo41_3, Ty.ag38, Ty.sz38, Ty.el38, Ty.ze9, Ty.ei38, Ty.is38, Ty.fo41_0, Ty.sz3, Ty.fo41_1, Ty.fo41_4, Ty.fo41_5, Ty.ag39, Ty.sz39, Ty.fs87, Ty.ze87, Ty.el39, Ty.ei39, Ty.is39, Ty.ei58, Tryd.underlying58, Ty.ib58, Ty.fo81_3, Ty.fo81_6, Ty.fo81_1, Ty.fo81_2, Ty.fo81_5, Ty.ag79, Ty.sz79, Ty.fo81_0, Ty.ag3, Ty.fs26, Ty.ze26, Ty.fs89, Ty.ze89, Ty.el79, Ty.ei79, Ty.is79, Ty.ag41, Ty.co40, Ty.ag81, Ty.co41, Tryd.underlying4, Ty.co42, Ty.co43⟩
  simp only [GA, ↓GB, GX, simprocAttr] at hbl ⊢
  have hGA := hG.a
  have hGB := hG.b
  replace hG := hG.k
  have hei : elemInf X.P 58 = some (5, 1, 1, .int .u8 0) := by rw [hP]; exact Ty.ei58
  repeat' (first
    | (refine SX.joinI (x := .seq (.region 8 _ _) (.block 0 _)) (fun i : RqW b => ⟨[(2, vv (.int .u8 n)), (8, vv (.bool false)), (9, vv (.bool true)), (10, .one (.c (.loc 3 0))), (11, .one (.c (.loc 6 0)))], [srow i.sb, srow i.un, hrow i.hv, .cells [.v (.int .i64 i.t), .v (.bool i.dl), .v (.int .u64 i.q), .row 0, .row 1, .row 2, .v (.string (B i.d))] 41, mrow (tellRs (tN t') L'), srow (tellRm dl' M'), .cells [.v (.int .i64 (tN t')), .v (.bool dl'), .v (.bool (mo' && dl')), .v (.int .u64 (1 + q' % 6 : Nat)), .v (.int .u64 v'), .row 4, .row 5] 81]⟩) ?_ (fun i => ?_))
    | (refine SX.joinI (x := .seq (.region 24 _ _) (.block 1 _)) (fun j : RsW => ⟨[(2, vv (.int .u8 n)), (8, vv (.bool false)), (9, vv (.bool true)), (10, .one (.c (.loc 3 0))), (11, .one (.c (.loc 6 0)))], [srow i.sb, srow i.un, hrow i.hv, .cells [.v (.int .i64 i.t), .v (.bool i.dl), .v (.int .u64 i.q), .row 0, .row 1, .row 2, .v (.string (B i.d))] 41, mrow j.rs, srow j.rm, .cells [.v (.int .i64 j.t), .v (.bool j.dl), .v (.bool j.mo), .v (.int .u64 j.q), .v (.int .u64 j.v), .row 4, .row 5] 81]⟩) ?_ (fun j => ?_))
    | (refine SX.seqK ?_; intro N hN)
    | ((first | (refine SX.ops ?_)); simp only [GA, ↓GB, GX, simprocAttr, hnt, hT, hm12, hm6, hu5])
    | ((first | refine SX.skip ?_ | refine SX.exit ?_ | refine SX.label ?_); try simp only [GA, ↓GB, GX, simprocAttr])
    | (refine SX.cond rfl (fun hb => ?_) (fun hb => ?_) <;> ((first | cases hb | (simp only [HBs] at hb) | skip) <;> (first | (exfalso; omega) | skip)))
    | (refine SX.ret ?_; try simp only [GA, ↓GB, GX, simprocAttr])
    | (refine hN _ ?_; clear hN N)
    | ((first | refine hK _ _ (FinI.ret3 ?_) | refine hK _ _ (FinI.nrm3 ?_)); simp only [GA, ↓GB, GX, simprocAttr, finP_s, hnt, hT, hm12, hm6, hu5]; refine Done.out ?_)
    | (clear hN N; first | (refine hN _ ?_; clear hN N) | (clear hN N; first | (refine hN _ ?_; clear hN N) | (clear hN N; first | (refine hN _ ?_; clear hN N) | (clear hN N; first | (refine hN _ ?_; clear hN N) | (clear hN N; first | (refine hN _ ?_; clear hN N) | (refine hN _ ?_; clear hN N))))))
    | (refine bif2.mk (fun hb => ?_) (fun hb => ?_) <;> (try simp only [hb, GA, ↓GB, GX, simprocAttr, hnt, hT, hm12, hm6, hu5]) <;> ((first | cases hb | (simp only [HBs] at hb) | skip) <;> (first | (exfalso; omega) | skip)))
    | ((first | (refine Ctr.use (hex) hP hG [] ?_ rfl rfl ?_; (focus (refine LeR.of rfl trivial ?_ ?_ ?_ ?_ ?_ <;> first | decide | (simp only [GA, ↓GB, GX, simprocAttr, GDs]; done))); intro os' s hR; obtain ⟨rfl, rfl⟩ := hR) | (refine CtrF.use (hask) hP (fun X' hU => hGA.under hU) [] ?_ rfl rfl ?_; (focus (refine LeR.of rfl trivial ?_ ?_ ?_ ?_ ?_ <;> first | decide | (simp only [GA, ↓GB, GX, simprocAttr, GDs]; done))); intro os' s hR; obtain ⟨rfl, rfl⟩ := hR) | (refine CtrF.use (htell) hP (fun X' hU => hGB.under hU) [] ?_ rfl rfl ?_; (focus (refine LeR.of rfl trivial ?_ ?_ ?_ ?_ ?_ <;> first | decide | (simp only [GA, ↓GB, GX, simprocAttr, GDs]; done))); intro os' s hR; obtain ⟨rfl, rfl⟩ := hR) | (refine Ctr.use (i.put) hP ?_ [0,1,2] ?_ rfl rfl ?_; (focus (intro p hp; cases hp)); (focus (refine LeR.of rfl trivial ?_ ?_ ?_ ?_ ?_ <;> first | decide | (simp only [GA, ↓GB, GX, simprocAttr, GDs]; done))); intro os' s hR; obtain ⟨rfl, rfl⟩ := hR) | (refine Ctr.use (j.put) hP ?_ [4,5] ?_ rfl rfl ?_; (focus (intro p hp; cases hp)); (focus (refine LeR.of rfl trivial ?_ ?_ ?_ ?_ ?_ <;> first | decide | (simp only [GA, ↓GB, GX, simprocAttr, GDs]; done))); intro os' s hR; obtain ⟨rfl, rfl⟩ := hR) | (refine Ctr.use (i.right) hP ?_ [0,1,2] ?_ rfl rfl ?_; (focus (intro p hp; cases hp)); (focus (refine LeR.of rfl trivial ?_ ?_ ?_ ?_ ?_ <;> first | decide | (simp only [GA, ↓GB, GX, simprocAttr, GDs]; done))); intro os' s hR; obtain ⟨rfl, rfl⟩ := hR) | (refine Ctr.use (j.right) hP ?_ [4,5] ?_ rfl rfl ?_; (focus (intro p hp; cases hp)); (focus (refine LeR.of rfl trivial ?_ ?_ ?_ ?_ ?_ <;> first | decide | (simp only [GA, ↓GB, GX, simprocAttr, GDs]; done))); intro os' s hR; obtain ⟨rfl, rfl⟩ := hR)); simp only [GA, ↓GB, GX, simprocAttr, hnt, hT, hm12, hm6, hu5])
    | (refine VO.makeFull (n := 257) (bcells z257) rfl rfl hei (by decide) (by decide) (by decide) z257_made ?_; simp only [GA, ↓GB, GX, simprocAttr, hnt, hT])
    | (refine ⟨z257, rfl, ?_⟩)
    | (refine SX.block ?_)
    | (refine and_mk ?_ ?_; (focus first | decide | omega | rfl | assumption | (simp only [List.length_append, List.length_cons, List.length_nil, B_size]; omega) | (simp; done)))
    | (refine And.intro ?_ ?_))
  all_goals (try refine Done.mk ?_)
  · have hbf : b = false := by rw [← hb0]; exact decide_eq_false (by omega)
    refine ⟨⟨(tN t : Int), dl, 0, askSb L, askUn dl M, askHv dl M, (120 :: List.take ((if 20 < (s.length : Int) then 20 else (s.length : Int)).toNat - 0) s), by rw [hbf]; exact no_nonce _ _ _ _ _ _ _, by omega, by omega, by omega, by omega, askSb_b L, askUn_b _ M, askHv_b _ M⟩, Imp.le [2, 3, 4, 5, 6, 7, 8] ?_⟩
    (refine LeR.of ?_ ?_ ?_ ?_ ?_ ?_ ?_ <;> first | (rw [hbl]; decide) | decide | (simp only [GA, ↓GB, GX, simprocAttr, GDs]; done) | (simp only [GA, ↓GB, GX, simprocAttr, GDs]; first | exact srow_snoc _ _ | exact hrow_snoc _ ([42], 0) | rfl; done))
  · have hbf : b = false := by rw [← hb0]; exact decide_eq_false (by omega)
    refine ⟨⟨(tN t : Int), dl, (q % 6), (askSb L ++ [[65]]), askUn dl M, askHv dl M, askDet q d, by rw [hbf]; exact no_sub _ _ _ _ _ _ _, by omega, by rw [List.length_append, List.length_singleton]; omega, by omega, by omega, snoc_b (askSb_b L) (by decide), askUn_b _ M, askHv_b _ M⟩, Imp.le [10, 3, 4, 5, 6, 7, 8] ?_⟩
    (refine LeR.of ?_ ?_ ?_ ?_ ?_ ?_ ?_ <;> first | (rw [hbl]; decide) | decide | (simp only [GA, ↓GB, GX, simprocAttr, GDs]; done) | (simp only [GA, ↓GB, GX, simprocAttr, GDs]; first | exact srow_snoc _ _ | exact hrow_snoc _ ([42], 0) | rfl; done))
  · have hbf : b = false := by rw [← hb0]; exact decide_eq_false (by omega)
    refine ⟨⟨6, dl, (q % 6), askSb L, askUn dl M, askHv dl M, askDet q d, by rw [hbf]; exact no_type _ _ _ _ _ _, by omega, by omega, by omega, by omega, askSb_b L, askUn_b _ M, askHv_b _ M⟩, Imp.le [2, 3, 4, 5, 6, 7, 8] ?_⟩
    (refine LeR.of ?_ ?_ ?_ ?_ ?_ ?_ ?_ <;> first | (rw [hbl]; decide) | decide | (simp only [GA, ↓GB, GX, simprocAttr, GDs]; done) | (simp only [GA, ↓GB, GX, simprocAttr, GDs]; first | exact srow_snoc _ _ | exact hrow_snoc _ ([42], 0) | rfl; done))
  · have hbf : b = false := by rw [← hb0]; exact decide_eq_false (by omega)
    refine ⟨⟨(tN t : Int), false, (q % 6), askSb L, [[97]], askHv dl M, askDet q d, by rw [hbf]; exact no_unsub _ _ _ _ _ _ _, by omega, by omega, by decide, by omega, askSb_b L, snoc_b (l := []) (by simp) (by decide), askHv_b _ M⟩, (Imp.closeAt (j := 5) (k := 4) (i := 9) (us := [.string (B [97])]) (e := 9) (sz := 1) rfl rfl rfl (by decide) rfl (by decide) (by decide)).trans (Imp.le [2, 10, 4, 5, 6, 7, 8] ?_)⟩
    (refine LeR.of ?_ ?_ ?_ ?_ ?_ ?_ ?_ <;> first | (rw [hbl]; decide) | decide | (simp only [GA, ↓GB, GX, simprocAttr, GDs]; done) | (simp only [GA, ↓GB, GX, simprocAttr, GDs]; first | exact srow_snoc _ _ | exact hrow_snoc _ ([42], 0) | rfl; done))
  · have hbf : b = false := by rw [← hb0]; exact decide_eq_false (by omega)
    refine ⟨⟨(tN t : Int), dl, (q % 6), askSb L, askUn dl M, (askHv dl M ++ [([42], 0)]), askDet q d, by rw [hbf]; exact no_have _ _ _ _ _ _ _ _, by omega, by omega, by omega, by rw [List.length_append, List.length_singleton]; omega, askSb_b L, askUn_b _ M, snoc_b (askHv_b _ M) (by decide)⟩, Imp.le [2, 3, 10, 5, 6, 7, 8] ?_⟩
    (refine LeR.of ?_ ?_ ?_ ?_ ?_ ?_ ?_ <;> first | (rw [hbl]; decide) | decide | (simp only [GA, ↓GB, GX, simprocAttr, GDs]; done) | (simp only [GA, ↓GB, GX, simprocAttr, GDs]; first | exact srow_snoc _ _ | exact hrow_snoc _ ([42], 0) | rfl; done))
  · have hbf : b = false := by rw [← hb0]; exact decide_eq_false (by omega)
    refine ⟨⟨(tN t : Int), dl, 1, askSb L, askUn dl M, askHv dl M, z257, by rw [hbf]; exact no_detail _ _ _ _ _ _ _ (by rw [z257_len]; decide), by omega, by omega, by omega, by omega, askSb_b L, askUn_b _ M, askHv_b _ M⟩, Imp.le [2, 3, 4, 5, 6, 7, 8] ?_⟩
    (refine LeR.of ?_ ?_ ?_ ?_ ?_ ?_ ?_ <;> first | (rw [hbl]; decide) | decide | (simp only [GA, ↓GB, GX, simprocAttr, GDs]; done) | (simp only [GA, ↓GB, GX, simprocAttr, GDs]; first | exact srow_snoc _ _ | exact hrow_snoc _ ([42], 0) | rfl; done))
  · have hbt : b = true := by rw [← hb0]; exact decide_eq_true (by omega)
    refine ⟨⟨(tN t : Int), dl, (q % 6), askSb L, askUn dl M, askHv dl M, askDet q d, by rw [hbt]; exact ask_right t dl q d L M, by omega, by omega, by omega, by omega, askSb_b L, askUn_b _ M, askHv_b _ M⟩, Imp.le [2, 3, 4, 5, 6, 7, 8] ?_⟩
    (refine LeR.of ?_ ?_ ?_ ?_ ?_ ?_ ?_ <;> first | (rw [hbl]; decide) | decide | (simp only [GA, ↓GB, GX, simprocAttr, GDs]; done) | (simp only [GA, ↓GB, GX, simprocAttr, GDs]; first | exact srow_snoc _ _ | exact hrow_snoc _ ([42], 0) | rfl; done))
  · refine ⟨⟨(tN t' : Int), dl', (mo' && dl'), 0, v', tellRs (tN t') L', tellRm dl' M', no_rnonce _ _ _ _ _, by omega, by omega, tellRs_b _ L', tellRm_b _ M'⟩, Imp.le [0, 1, 2, 3, 4, 5, 6] ?_⟩
    (refine LeR.of ?_ ?_ ?_ ?_ ?_ ?_ ?_ <;> first | (rw [hbl]; decide) | decide | (simp only [GA, ↓GB, GX, simprocAttr, GDs]; done) | (simp only [GA, ↓GB, GX, simprocAttr, GDs]; first | exact srow_snoc _ _ | exact mrow_snoc _ ⟨_, [97], 1, _, []⟩ | rfl; done))
  · refine ⟨⟨(tN t' : Int), dl', (mo' && dl'), (1 + q' % 6), v', tellRs (tN t') L', (tellRm dl' M' ++ [[42]]), no_removed _ _ _ _ _ _, by omega, by rw [List.length_append, List.length_singleton]; omega, tellRs_b _ L', snoc_b (tellRm_b _ M') (by decide)⟩, Imp.le [0, 1, 2, 3, 4, 8, 6] ?_⟩
    (refine LeR.of ?_ ?_ ?_ ?_ ?_ ?_ ?_ <;> first | (rw [hbl]; decide) | decide | (simp only [GA, ↓GB, GX, simprocAttr, GDs]; done) | (simp only [GA, ↓GB, GX, simprocAttr, GDs]; first | exact srow_snoc _ _ | exact mrow_snoc _ ⟨_, [97], 1, _, []⟩ | rfl; done))
  · refine ⟨⟨(tN t' : Int), false, true, (1 + q' % 6), v', tellRs (tN t') L', tellRm dl' M', no_more _ _ _ _, by omega, by omega, tellRs_b _ L', tellRm_b _ M'⟩, Imp.le [0, 1, 2, 3, 4, 5, 6] ?_⟩
    (refine LeR.of ?_ ?_ ?_ ?_ ?_ ?_ ?_ <;> first | (rw [hbl]; decide) | decide | (simp only [GA, ↓GB, GX, simprocAttr, GDs]; done) | (simp only [GA, ↓GB, GX, simprocAttr, GDs]; first | exact srow_snoc _ _ | exact mrow_snoc _ ⟨_, [97], 1, _, []⟩ | rfl; done))
  · refine ⟨⟨(tN t' : Int), false, (mo' && dl'), (1 + q' % 6), v', tellRs (tN t') L', [[97]], no_rm _ _ _ _ _ _, by omega, by decide, tellRs_b _ L', snoc_b (l := []) (by simp) (by decide)⟩, (Imp.closeAt (j := 6) (k := 6) (i := 7) (us := [.string (B [97])]) (e := 9) (sz := 1) rfl rfl rfl (by decide) rfl (by decide) (by decide)).trans (Imp.le [0, 1, 2, 3, 4, 8, 6] ?_)⟩
    (refine LeR.of ?_ ?_ ?_ ?_ ?_ ?_ ?_ <;> first | (rw [hbl]; decide) | decide | (simp only [GA, ↓GB, GX, simprocAttr, GDs]; done) | (simp only [GA, ↓GB, GX, simprocAttr, GDs]; first | exact srow_snoc _ _ | exact mrow_snoc _ ⟨_, [97], 1, _, []⟩ | rfl; done))
  · refine ⟨⟨(tN t' : Int), dl', (mo' && dl'), (1 + q' % 6), v', (tellRs (tN t') L' ++ [⟨u5, [97], 1, false, []⟩]), tellRm dl' M', no_res _ _ _ _ _ _ _ (wrong_type _ _ htt _ _ _ _), by rw [List.length_append, List.length_singleton]; omega, by omega, snoc_b (tellRs_b _ L') (by show ([97] : List UInt8).length ≤ 1000; decide), tellRm_b _ M'⟩, Imp.le [0, 1, 2, 3, 8, 5, 6] ?_⟩
    (refine LeR.of ?_ ?_ ?_ ?_ ?_ ?_ ?_ <;> first | (rw [hbl]; decide) | decide | (simp only [GA, ↓GB, GX, simprocAttr, GDs]; done) | (simp only [GA, ↓GB, GX, simprocAttr, GDs]; first | exact srow_snoc _ _ | exact mrow_snoc _ ⟨_, [97], 1, _, []⟩ | rfl; done))
  · refine ⟨⟨(tN t' : Int), dl', (mo' && dl'), (1 + q' % 6), v', (tellRs (tN t') L' ++ [⟨(tN t' : Int), [97], 1, true, []⟩]), tellRm dl' M', no_res _ _ _ _ _ _ _ (wrong_gone _ _ _ _ _), by rw [List.length_append, List.length_singleton]; omega, by omega, snoc_b (tellRs_b _ L') (by show ([97] : List UInt8).length ≤ 1000; decide), tellRm_b _ M'⟩, Imp.le [0, 1, 2, 3, 8, 5, 6] ?_⟩
    (refine LeR.of ?_ ?_ ?_ ?_ ?_ ?_ ?_ <;> first | (rw [hbl]; decide) | decide | (simp only [GA, ↓GB, GX, simprocAttr, GDs]; done) | (simp only [GA, ↓GB, GX, simprocAttr, GDs]; first | exact srow_snoc _ _ | exact mrow_snoc _ ⟨_, [97], 1, _, []⟩ | rfl; done))
  · (refine hN0 _ _ ⟨[], _, _, ?_, ?_, ?_, ⟨rfl, rfl⟩⟩; (focus exact LeR.of rfl trivial (by simp only [GA, ↓GB, GX, simprocAttr, GDs]) (by decide) rfl rfl rfl); rotate_left; (focus rfl))
    rfl
  · exact absurd i.st_b hb
  · exact absurd hb5.symm hb
end Go.Proofs.YtbdacbcpniegiaaDoor.Q
namespace Go.Proofs.YtbdacbcpniegiaaDoor.Q
open Go Go.RowKit Go.Proofs Go.Sx
set_option maxRecDepth 100000
set_option linter.unusedSimpArgs false
set_option linter.unusedVariables false
end Go.Proofs.YtbdacbcpniegiaaDoor.Q
namespace Go.Proofs.YtbdacbcpniegiaaDoor.Q
open Go Go.RowKit Go.Proofs Go.Sx
set_option maxHeartbeats 8000000
set_option maxRecDepth 100000
set_option linter.unusedSimpArgs false
set_option linter.unusedVariables false
def z0 : Rs := ⟨0, [], 0, false, []⟩
end Go.Proofs.YtbdacbcpniegiaaDoor.Q
namespace Go.Proofs.YtbdacbcpniegiaaDoor.Q
open Go Go.RowKit Go.Proofs Go.Sx
set_option maxHeartbeats 16000000
set_option maxRecDepth 100000
set_option linter.unusedSimpArgs false
set_option linter.unusedVariables false
structure KnF (X : Ctx) (e : EA) (q : Option Addr) (xs : List Th) : Prop where
  g : Known X (GW e)
  f : FarT X q xs
theorem KnF.under {X X' : Ctx} {e : EA} {q : Option Addr} {xs : List Th} (h : KnF X e q xs) (hU : Under X X') : KnF X' e q xs := ⟨h.g.under hU, h.f.under hU⟩
end Go.Proofs.YtbdacbcpniegiaaDoor.Q
namespace Go.Proofs.YtbdacbcpniegiaaDoor.Q
open Go Go.RowKit Go.Proofs Go.Sx
set_option maxHeartbeats 4000000
set_option maxRecDepth 100000
set_option linter.unusedSimpArgs false
set_option linter.unusedVariables false
theorem ctrF_calls {P : Program} {F : Ctx → Prop} {f : FuncId} {args : List SV} {R : List LO → SV → Prop} (h : CtrF P F f [] args R) (w : World) (hF : F ⟨P, w, [], 0, []⟩) {vals : List Value} (ha : All2 (DV []) args vals) :
    Calls P f vals.toArray w fun e w' => ∃ v os' s σ', e = .returned v ∧ R os' s ∧ DV σ' s v ∧ Below w.heap.size w w' := by
  have hr : Rel ⟨P, w, [], 0, []⟩ ⟨[], []⟩ [] [] { tmps := #[], defers := [] } w :=
    ⟨fun t s h => by simp at h, rfl, rfl, fun i o fp v h => by simp at h, by simp, fun b h => by simp at h, fun b h => by simp at h, Fr.refl _ _, rfl, rfl, fun v h => by simp at h, fun i v h => by simp at h⟩
  refine (h ⟨P, w, [], 0, []⟩ rfl hF (fun c s => ∃ os', c = ⟨[], os'⟩ ∧ R os' s) (fun os' s hR => ⟨os', rfl, hR⟩) _ _ _ _ hr vals ha).mono ?_
  rintro e w' ⟨v, c', ρ', σ', s, rfl, hr', hd, os', rfl, hR⟩
  exact ⟨v, os', s, σ', rfl, hR, hd, hr'.low.below (by simp)⟩
end Go.Proofs.YtbdacbcpniegiaaDoor.Q
namespace Go.Proofs.YtbdacbcpniegiaaDoor.Q
open Go Go.RowKit Go.ChangeShapes Go.WideShapes Go.ChangeAt Go.Sx Go.Proofs Go.Proofs.YtbdacbcpniegiaaDoor
set_option linter.unusedSimpArgs false
set_option linter.unusedVariables false
set_option maxRecDepth 100000
theorem sl_cell {H : Type} {enc : TypeId × Value → H} {P : Program} {W : World} {sp : Nat → Bool} {held : Bool} {n base t e : Nat} {cs : List Value} {x : DataW H × List MemPlace} (ht : P.underlying t = some (.slice e))
    (h : DataW.trod enc P W base sp held n t cs = some x) : ∃ a l c, cs = [.slice a l c] := by
  rcases Go.Deep.open_slice ht h with ⟨hcs, _⟩ | ⟨a, l, c, m, k, D, Pl, hcs, _⟩
  · exact ⟨_, _, _, hcs⟩
  · exact ⟨_, _, _, hcs⟩
theorem c41 : Tryd.prog.cellsOf 41 = 7 := by kernel_rfl
theorem c81 : Tryd.prog.cellsOf 81 = 7 := by kernel_rfl
theorem c78 : Tryd.prog.cellsOf 78 = 10 := by kernel_rfl
theorem c83 : Tryd.prog.cellsOf 83 = 10 := by kernel_rfl
theorem k3 : Tryd.prog.cellsOf 3 = 1 := by kernel_rfl
theorem k4 : Tryd.prog.cellsOf 4 = 1 := by kernel_rfl
theorem k9 : Tryd.prog.cellsOf 9 = 1 := by kernel_rfl
theorem k22 : Tryd.prog.cellsOf 22 = 1 := by kernel_rfl
theorem k38 : Tryd.prog.cellsOf 38 = 1 := by kernel_rfl
theorem k39 : Tryd.prog.cellsOf 39 = 1 := by kernel_rfl
theorem k58 : Tryd.prog.cellsOf 58 = 1 := by kernel_rfl
theorem k79 : Tryd.prog.cellsOf 79 = 1 := by kernel_rfl
theorem req_cells {H : Type} {enc : TypeId × Value → H} {W : World} {sp : Nat → Bool} {held : Bool} {n base : Nat} {cs : List Value} {x : DataW H × List MemPlace}
    (h : DataW.trod enc Tryd.prog W base sp held n 41 cs = some x) : ∃ (t : Int) (dl : Bool) (q : Nat) (a0 : Option Addr) (n0 c0 : Nat) (a1 : Option Addr) (n1 c1 : Nat) (a2 : Option Addr) (n2 c2 : Nat) (d : List UInt8), q < 18446744073709551616 ∧ d.length ≤ 9223372036854775807 ∧
      cs = [.int .i64 t, .bool dl, .int .u64 q, .slice a0 n0 c0, .slice a1 n1 c1, .slice a2 n2 c2, .string (B d)] := by
  obtain ⟨ys, m, rfl, _, hl, hys, hf⟩ := DataW.trod_struct Tryd.underlying41 h
  rw [c41] at hl
  have g0 : DataW.trod enc Tryd.prog W base sp held m 3 ((cs.drop 0).take (Tryd.prog.cellsOf 3)) = ys[0]? := hf 0 _ rfl
  have g1 : DataW.trod enc Tryd.prog W base sp held m 4 ((cs.drop 1).take (Tryd.prog.cellsOf 4)) = ys[1]? := hf 1 _ rfl
  have g2 : DataW.trod enc Tryd.prog W base sp held m 22 ((cs.drop 2).take (Tryd.prog.cellsOf 22)) = ys[2]? := hf 2 _ rfl
  have g3 : DataW.trod enc Tryd.prog W base sp held m 38 ((cs.drop 3).take (Tryd.prog.cellsOf 38)) = ys[3]? := hf 3 _ rfl
  have g4 : DataW.trod enc Tryd.prog W base sp held m 38 ((cs.drop 4).take (Tryd.prog.cellsOf 38)) = ys[4]? := hf 4 _ rfl
  have g5 : DataW.trod enc Tryd.prog W base sp held m 39 ((cs.drop 5).take (Tryd.prog.cellsOf 39)) = ys[5]? := hf 5 _ rfl
  have g6 : DataW.trod enc Tryd.prog W base sp held m 9 ((cs.drop 6).take (Tryd.prog.cellsOf 9)) = ys[6]? := hf 6 _ rfl
  have hy : ys.length = 7 := hys
  rw [k3, List.getElem?_eq_getElem (by omega)] at g0
  rw [k4, List.getElem?_eq_getElem (by omega)] at g1
  rw [k22, List.getElem?_eq_getElem (by omega)] at g2
  rw [k38, List.getElem?_eq_getElem (by omega)] at g3
  rw [k38, List.getElem?_eq_getElem (by omega)] at g4
  rw [k39, List.getElem?_eq_getElem (by omega)] at g5
  rw [k9, List.getElem?_eq_getElem (by omega)] at g6
  obtain ⟨t, e0, _, w0⟩ := DataW.trod_int Tryd.underlying3 g0
  obtain ⟨dl, e1, _⟩ := DataW.trod_bool Tryd.underlying4 g1
  obtain ⟨q, e2, _, w2⟩ := DataW.trod_int Tryd.underlying22 g2
  obtain ⟨a0, n0, c0, e3⟩ := sl_cell Tryd.underlying38 g3
  obtain ⟨a1, n1, c1, e4⟩ := sl_cell Tryd.underlying38 g4
  obtain ⟨a2, n2, c2, e5⟩ := sl_cell Tryd.underlying39 g5
  obtain ⟨d, e6, _, w6⟩ := DataW.trod_string Tryd.underlying9 g6
  have f0 := at1 e0
  have f1 := at1 e1
  have f2 := at1 e2
  have f3 := at1 e3
  have f4 := at1 e4
  have f5 := at1 e5
  have f6 := at1 e6
  have b2 := u64_of w2
  have r2 : ((q.toNat : Nat) : Int) = q := by omega
  refine ⟨t, dl, q.toNat, a0, n0, c0, a1, n1, c1, a2, n2, c2, d.data.toList, by omega, by simpa [maxLen] using w6, ?_⟩
  match cs, hl with
  | [x0, x1, x2, x3, x4, x5, x6], _ =>
    simp only [List.getElem?_cons_zero, List.getElem?_cons_succ, Option.some.injEq] at f0 f1 f2 f3 f4 f5 f6
    subst f0 f1 f2 f3 f4 f5 f6
    simp only [B_data, r2]
theorem resp_cells {H : Type} {enc : TypeId × Value → H} {W : World} {sp : Nat → Bool} {held : Bool} {n base : Nat} {cs : List Value} {x : DataW H × List MemPlace}
    (h : DataW.trod enc Tryd.prog W base sp held n 81 cs = some x) : ∃ (t : Int) (dl mo : Bool) (q v : Nat) (a0 : Option Addr) (n0 c0 : Nat) (a1 : Option Addr) (n1 c1 : Nat), q < 18446744073709551616 ∧ v < 18446744073709551616 ∧
      cs = [.int .i64 t, .bool dl, .bool mo, .int .u64 q, .int .u64 v, .slice a0 n0 c0, .slice a1 n1 c1] := by
  obtain ⟨ys, m, rfl, _, hl, hys, hf⟩ := DataW.trod_struct Tryd.underlying81 h
  rw [c81] at hl
  have g0 : DataW.trod enc Tryd.prog W base sp held m 3 ((cs.drop 0).take (Tryd.prog.cellsOf 3)) = ys[0]? := hf 0 _ rfl
  have g1 : DataW.trod enc Tryd.prog W base sp held m 4 ((cs.drop 1).take (Tryd.prog.cellsOf 4)) = ys[1]? := hf 1 _ rfl
  have g2 : DataW.trod enc Tryd.prog W base sp held m 4 ((cs.drop 2).take (Tryd.prog.cellsOf 4)) = ys[2]? := hf 2 _ rfl
  have g3 : DataW.trod enc Tryd.prog W base sp held m 22 ((cs.drop 3).take (Tryd.prog.cellsOf 22)) = ys[3]? := hf 3 _ rfl
  have g4 : DataW.trod enc Tryd.prog W base sp held m 22 ((cs.drop 4).take (Tryd.prog.cellsOf 22)) = ys[4]? := hf 4 _ rfl
  have g5 : DataW.trod enc Tryd.prog W base sp held m 79 ((cs.drop 5).take (Tryd.prog.cellsOf 79)) = ys[5]? := hf 5 _ rfl
  have g6 : DataW.trod enc Tryd.prog W base sp held m 38 ((cs.drop 6).take (Tryd.prog.cellsOf 38)) = ys[6]? := hf 6 _ rfl
  have hy : ys.length = 7 := hys
  rw [k3, List.getElem?_eq_getElem (by omega)] at g0
  rw [k4, List.getElem?_eq_getElem (by omega)] at g1
  rw [k4, List.getElem?_eq_getElem (by omega)] at g2
  rw [k22, List.getElem?_eq_getElem (by omega)] at g3
  rw [k22, List.getElem?_eq_getElem (by omega)] at g4
  rw [k79, List.getElem?_eq_getElem (by omega)] at g5
  rw [k38, List.getElem?_eq_getElem (by omega)] at g6
  obtain ⟨t, e0, _, w0⟩ := DataW.trod_int Tryd.underlying3 g0
  obtain ⟨dl, e1, _⟩ := DataW.trod_bool Tryd.underlying4 g1
  obtain ⟨mo, e2, _⟩ := DataW.trod_bool Tryd.underlying4 g2
  obtain ⟨q, e3, _, w3⟩ := DataW.trod_int Tryd.underlying22 g3
  obtain ⟨v, e4, _, w4⟩ := DataW.trod_int Tryd.underlying22 g4
  obtain ⟨a0, n0, c0, e5⟩ := sl_cell Tryd.underlying79 g5
  obtain ⟨a1, n1, c1, e6⟩ := sl_cell Tryd.underlying38 g6
  have f0 := at1 e0
  have f1 := at1 e1
  have f2 := at1 e2
  have f3 := at1 e3
  have f4 := at1 e4
  have f5 := at1 e5
  have f6 := at1 e6
  have b3 := u64_of w3
  have b4 := u64_of w4
  have r3 : ((q.toNat : Nat) : Int) = q := by omega
  have r4 : ((v.toNat : Nat) : Int) = v := by omega
  refine ⟨t, dl, mo, q.toNat, v.toNat, a0, n0, c0, a1, n1, c1, by omega, by omega, ?_⟩
  match cs, hl with
  | [x0, x1, x2, x3, x4, x5, x6], _ =>
    simp only [List.getElem?_cons_zero, List.getElem?_cons_succ, Option.some.injEq] at f0 f1 f2 f3 f4 f5 f6
    subst f0 f1 f2 f3 f4 f5 f6
    simp only [r3, r4]
theorem lm_cells {H : Type} {enc : TypeId × Value → H} {W : World} {n : Nat} {cs : List Value} {x : DataW H × List MemPlace}
    (h : DataW.trod enc Tryd.prog W 0 (fun _ => true) true n 58 cs = some x) : ∃ (q : Option Addr) (L : List UInt8) (c : Nat), cs = [.slice q L.length c] ∧ ∀ i, i < L.length → ∃ ad, q = some ad ∧ W.cell? (ad.add (i * 1)) = some (.int .u8 ((L.getD i 0).toNat : Nat)) := by
  obtain ⟨a, l, c, rfl⟩ := sl_cell Tryd.underlying58 h
  obtain ⟨xs, rfl, hc⟩ := u8row (a := a) (len := l) (cap := c) (d := x.1) (p := x.2) Tryd.underlying58 Tryd.underlying5 (by kernel_rfl) ⟨n, h⟩
  exact ⟨a, xs, c, rfl, hc⟩
structure Ak where
  t : Int
  dl : Bool
  q : Nat
  a0 : Option Addr
  n0 : Nat
  c0 : Nat
  a1 : Option Addr
  n1 : Nat
  c1 : Nat
  a2 : Option Addr
  n2 : Nat
  c2 : Nat
  d : List UInt8
  o : Bool
  qL : Option Addr
  L : List UInt8
  cL : Nat
  qM : Option Addr
  M : List UInt8
  cM : Nat
def Ak.cells (x : Ak) : List Value := [.int .i64 x.t, .bool x.dl, .int .u64 x.q, .slice x.a0 x.n0 x.c0, .slice x.a1 x.n1 x.c1, .slice x.a2 x.n2 x.c2, .string (B x.d), .bool x.o, .slice x.qL x.L.length x.cL, .slice x.qM x.M.length x.cM]
def FarW (W : World) (q : Option Addr) (L : List UInt8) : Prop := ∀ i, i < L.length → ∃ ad, q = some ad ∧ W.cell? (ad.add (i * 1)) = some (.int .u8 ((L.getD i 0).toNat : Nat))
theorem FarW.far {P : Program} {w : World} {q : Option Addr} {L : List UInt8} (h : FarW w q L) : FarU ⟨P, w, [], 0, []⟩ q L := fun i hi => by
  obtain ⟨ad, e, hc⟩ := h i hi
  exact ⟨ad, e, by simp, hc⟩
structure Ak.Ok (x : Ak) (W : World) : Prop where
  q : x.q < 18446744073709551616
  d : x.d.length ≤ 9223372036854775807
  l : FarW W x.qL x.L
  m : FarW W x.qM x.M
theorem ask_in {H : Type} {enc : TypeId × Value → H} {W : World} {cs : Array Value} {d : DataW H} {p : List MemPlace} (h : DataW.Trod enc Tryd.prog W 0 (fun _ => true) true 78 (.agg cs) d p) : ∃ y : Ak, y.Ok W ∧ cs = y.cells.toArray := by
  obtain ⟨n, hn⟩ := h
  have hn : DataW.trod enc Tryd.prog W 0 (fun _ => true) true n 78 cs.toList = some (d, p) := hn
  obtain ⟨ys, m, _, _, hl, hys, hf⟩ := DataW.trod_struct Tryd.underlying78 hn
  rw [c78] at hl
  have g0 : DataW.trod enc Tryd.prog W 0 (fun _ => true) true m 41 ((cs.toList.drop 0).take (Tryd.prog.cellsOf 41)) = ys[0]? := hf 0 _ rfl
  have g1 : DataW.trod enc Tryd.prog W 0 (fun _ => true) true m 4 ((cs.toList.drop 7).take (Tryd.prog.cellsOf 4)) = ys[1]? := hf 1 _ rfl
  have g2 : DataW.trod enc Tryd.prog W 0 (fun _ => true) true m 58 ((cs.toList.drop 8).take (Tryd.prog.cellsOf 58)) = ys[2]? := hf 2 _ rfl
  have g3 : DataW.trod enc Tryd.prog W 0 (fun _ => true) true m 58 ((cs.toList.drop 9).take (Tryd.prog.cellsOf 58)) = ys[3]? := hf 3 _ rfl
  have hy : ys.length = 4 := hys
  rw [c41, List.getElem?_eq_getElem (by omega)] at g0
  rw [k4, List.getElem?_eq_getElem (by omega)] at g1
  rw [k58, List.getElem?_eq_getElem (by omega)] at g2
  rw [k58, List.getElem?_eq_getElem (by omega)] at g3
  obtain ⟨t, dl, q, a0, n0, c0, a1, n1, c1, a2, n2, c2, s, hq, hd, e0⟩ := req_cells g0
  obtain ⟨o, e1, _⟩ := DataW.trod_bool Tryd.underlying4 g1
  obtain ⟨qL, L, cL, e2, hL⟩ := lm_cells g2
  obtain ⟨qM, M, cM, e3, hM⟩ := lm_cells g3
  have f1 := at1 e1
  have f2 := at1 e2
  have f3 := at1 e3
  refine ⟨⟨t, dl, q, a0, n0, c0, a1, n1, c1, a2, n2, c2, s, o, qL, L, cL, qM, M, cM⟩, ⟨hq, hd, hL, hM⟩, ?_⟩
  rw [← Array.toArray_toList (xs := cs)]
  congr 1
  revert hl f1 f2 f3 e0
  generalize cs.toList = l
  intro hl e0 f1 f2 f3
  match l, hl with
  | [x0, x1, x2, x3, x4, x5, x6, x7, x8, x9], _ =>
    simp only [List.getElem?_cons_zero, List.getElem?_cons_succ, Option.some.injEq] at f1 f2 f3
    subst f1 f2 f3
    have e0 : [x0, x1, x2, x3, x4, x5, x6] = _ := e0
    simp only [List.cons.injEq, and_true] at e0
    obtain ⟨rfl, rfl, rfl, rfl, rfl, rfl, rfl⟩ := e0
    rfl
structure Tk where
  t : Int
  dl : Bool
  mo : Bool
  q : Nat
  v : Nat
  a0 : Option Addr
  n0 : Nat
  c0 : Nat
  a1 : Option Addr
  n1 : Nat
  c1 : Nat
  o : Bool
  qL : Option Addr
  L : List UInt8
  cL : Nat
  qM : Option Addr
  M : List UInt8
  cM : Nat
def Tk.cells (x : Tk) : List Value := [.int .i64 x.t, .bool x.dl, .bool x.mo, .int .u64 x.q, .int .u64 x.v, .slice x.a0 x.n0 x.c0, .slice x.a1 x.n1 x.c1, .bool x.o, .slice x.qL x.L.length x.cL, .slice x.qM x.M.length x.cM]
structure Tk.Ok (x : Tk) (W : World) : Prop where
  q : x.q < 18446744073709551616
  v : x.v < 18446744073709551616
  l : FarW W x.qL x.L
  m : FarW W x.qM x.M
theorem tell_in {H : Type} {enc : TypeId × Value → H} {W : World} {cs : Array Value} {d : DataW H} {p : List MemPlace} (h : DataW.Trod enc Tryd.prog W 0 (fun _ => true) true 83 (.agg cs) d p) : ∃ y : Tk, y.Ok W ∧ cs = y.cells.toArray := by
  obtain ⟨n, hn⟩ := h
  have hn : DataW.trod enc Tryd.prog W 0 (fun _ => true) true n 83 cs.toList = some (d, p) := hn
  obtain ⟨ys, m, _, _, hl, hys, hf⟩ := DataW.trod_struct Tryd.underlying83 hn
  rw [c83] at hl
  have g0 : DataW.trod enc Tryd.prog W 0 (fun _ => true) true m 81 ((cs.toList.drop 0).take (Tryd.prog.cellsOf 81)) = ys[0]? := hf 0 _ rfl
  have g1 : DataW.trod enc Tryd.prog W 0 (fun _ => true) true m 4 ((cs.toList.drop 7).take (Tryd.prog.cellsOf 4)) = ys[1]? := hf 1 _ rfl
  have g2 : DataW.trod enc Tryd.prog W 0 (fun _ => true) true m 58 ((cs.toList.drop 8).take (Tryd.prog.cellsOf 58)) = ys[2]? := hf 2 _ rfl
  have g3 : DataW.trod enc Tryd.prog W 0 (fun _ => true) true m 58 ((cs.toList.drop 9).take (Tryd.prog.cellsOf 58)) = ys[3]? := hf 3 _ rfl
  have hy : ys.length = 4 := hys
  rw [c81, List.getElem?_eq_getElem (by omega)] at g0
  rw [k4, List.getElem?_eq_getElem (by omega)] at g1
  rw [k58, List.getElem?_eq_getElem (by omega)] at g2
  rw [k58, List.getElem?_eq_getElem (by omega)] at g3
  obtain ⟨t, dl, mo, q, v, a0, n0, c0, a1, n1, c1, hq, hv, e0⟩ := resp_cells g0
  obtain ⟨o, e1, _⟩ := DataW.trod_bool Tryd.underlying4 g1
  obtain ⟨qL, L, cL, e2, hL⟩ := lm_cells g2
  obtain ⟨qM, M, cM, e3, hM⟩ := lm_cells g3
  have f1 := at1 e1
  have f2 := at1 e2
  have f3 := at1 e3
  refine ⟨⟨t, dl, mo, q, v, a0, n0, c0, a1, n1, c1, o, qL, L, cL, qM, M, cM⟩, ⟨hq, hv, hL, hM⟩, ?_⟩
  rw [← Array.toArray_toList (xs := cs)]
  congr 1
  revert hl f1 f2 f3 e0
  generalize cs.toList = l
  intro hl e0 f1 f2 f3
  match l, hl with
  | [x0, x1, x2, x3, x4, x5, x6, x7, x8, x9], _ =>
    simp only [List.getElem?_cons_zero, List.getElem?_cons_succ, Option.some.injEq] at f1 f2 f3
    subst f1 f2 f3
    have e0 : [x0, x1, x2, x3, x4, x5, x6] = _ := e0
    simp only [List.cons.injEq, and_true] at e0
    obtain ⟨rfl, rfl, rfl, rfl, rfl, rfl, rfl⟩ := e0
    rfl
theorem wrong_any (x : Ak) (y : Tk) (n : Nat) (hn : n < 256) (s : List UInt8) (hs : s.length ≤ 9223372036854775807) (w : World) (hx : x.Ok w) (hy : y.Ok w) {e : EA} (he : e.Ok) (hG : ∀ p ∈ GE e, w.cell? p.1 = some p.2 ∧ loneStr w p) :
    Calls Tryd.prog 10 #[.agg x.cells.toArray, .agg y.cells.toArray, .int .u8 n, .string (B s)] w fun x w' => x = .returned (.bool true) ∧ Below w.heap.size w w' := by
  refine (ctrF_calls (wrong_ctr he x.t x.dl x.q hx.q x.d hx.d x.a0 x.n0 x.c0 x.a1 x.n1 x.c1 x.a2 x.n2 x.c2 x.o x.qL x.L x.cL x.qM x.M x.cM y.t y.dl y.mo y.q y.v hy.q y.a0 y.n0 y.c0 y.a1 y.n1 y.c1 y.o y.qL y.L y.cL y.qM y.M y.cM n hn s hs) w
    ⟨fun p hp => ⟨(hG p hp).1, by simp, (hG p hp).2⟩, ⟨hx.l.far, hx.m.far⟩, ⟨hy.l.far, hy.m.far⟩⟩ (vals := [.agg x.cells.toArray, .agg y.cells.toArray, .int .u8 n, .string (B s)])
    ⟨⟨_, rfl, rfl, rfl, rfl, rfl, rfl, rfl, rfl, rfl, rfl, rfl, trivial⟩, ⟨_, rfl, rfl, rfl, rfl, rfl, rfl, rfl, rfl, rfl, rfl, rfl, trivial⟩, rfl, rfl, trivial⟩).mono ?_
  rintro x w' ⟨v, os', s, σ', rfl, ⟨rfl, rfl⟩, hd, hb⟩
  have hd : v = .bool true := hd
  subst hd
  exact ⟨rfl, hb⟩
end Go.Proofs.YtbdacbcpniegiaaDoor.Q
