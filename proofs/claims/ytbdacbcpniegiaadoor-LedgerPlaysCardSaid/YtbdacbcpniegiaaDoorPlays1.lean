/- Own work: a part of the symbolic executor and of the walks of the functions that the claim reaches. -/
import Derived.Test.YtbdacbcpniegiaaDoorBase4
import Derived.WalkKit
import Derived.ProofKit
import Derived.OpenShut
import Derived.ChangeSame
import Derived.Below
import Derived.ChangeSlices
import Derived.Test.YtbdacbcpniegiaaDoorProg
import Derived.Deep.Slices
import Derived.ChangeArms
namespace Go.Proofs.YtbdacbcpniegiaaDoor
open Go Go.RowKit Go.ChangeShapes Go.WideShapes Go.ChangeAt
theorem post_of_below {H : Type} {enc : TypeId × Value → H} {P : Program} {f : Func} {s : ChangeSpec} {apart fresh handsOn again : Bool} {W W' : World} {args : Array Value} {v : Value} {ds gs : List (DataW H)} {before pa pv : List MemPlace}
    (hW : DataW.Whole enc P f.params.toList s.vars apart W args.toList ds gs before)
    (hres : ∀ (b : Nat) (sp : Nat → Bool) (hd : Bool), DataW.TrodAll enc P W' b sp hd f.resultTypes.toList (v.resultList f.resultTypes.size) (s.fn H (ds ++ gs)).results [])
    (hargs : ∀ sp : Nat → Bool, (∀ p ∈ before, sp p.block = true) → DataW.TrodAll enc P W' 0 sp true f.params.toList args.toList (s.fn H (ds ++ gs)).args pa)
    (hvars : ∀ sp : Nat → Bool, (∀ p ∈ before, sp p.block = true) → DataW.TrodVars enc P W' sp s.vars (s.fn H (ds ++ gs)).vars pv)
    (hps : before = pa ++ pv) (hb : Below W.heap.size W W')
    (hok : ∀ (j : Nat) (t : TypeId) (r : Value), f.resultTypes[j]? = some t → (v.resultList f.resultTypes.size)[j]? = some r → Value.okWide P W' .any 0 t r) :
    s.post enc P f apart fresh handsOn again W args v W' := by
  have hk : W.keptBut W' (· ∈ before) := hb.frame _
  have hold : ∀ p ∈ before, (fun b => decide (b < W.heap.size)) p.block = true := fun p hp => by simpa using hW.lt p hp
  have hlt := hW.lt
  refine ⟨ds, gs, before, [], pa, pv, hW, hres _ _ _, hargs _ hold, hvars _ hold, World.keptBut_mono (fun p hp => ⟨hp, ?_⟩) hk, fun _ => ?_⟩
  · rw [hps, List.mem_append] at hp
    exact Or.inr hp
  · obtain ⟨_, _, _, _, _, hz, hn⟩ := hW
    refine ⟨hok, _, _, ([] ++ pa) ++ pv, ⟨[] ++ pa, pv, trodAll_append (hargs _ (fun _ _ => rfl)) (hres _ _ _), hvars _ (fun _ _ => rfl), rfl, ?_, ?_⟩, ?_⟩
    · intro b off hp
      have hp' : MemPlace.cell b off ∈ before := by rw [hps]; simpa using hp
      rw [hb.frozen (p := ⟨b, off, none⟩) (hlt _ hp')]
      exact hz b off hp'
    · intro ha
      have := hn ha
      rw [hps] at this
      simpa using this
    · intro p hp _
      rw [hps]
      simpa using hp
theorem u8_of {n : Int} (h : (Lit.int .u8 n).wf = true) : 0 ≤ n ∧ n < 256 := by
  simp only [Lit.wf, Bool.and_eq_true, decide_eq_true_eq] at h
  have e1 : IntKind.u8.min = 0 := rfl
  have e2 : IntKind.u8.max = 255 := rfl
  omega
theorem u64_of {n : Int} (h : (Lit.int .u64 n).wf = true) : 0 ≤ n ∧ n < 18446744073709551616 := by
  simp only [Lit.wf, Bool.and_eq_true, decide_eq_true_eq] at h
  have e1 : IntKind.u64.min = 0 := rfl
  have e2 : IntKind.u64.max = 18446744073709551615 := rfl
  omega
theorem i64_of {n : Int} (h : (Lit.int .i64 n).wf = true) : -9223372036854775808 ≤ n ∧ n < 9223372036854775808 := by
  simp only [Lit.wf, Bool.and_eq_true, decide_eq_true_eq] at h
  have e1 : IntKind.i64.min = -9223372036854775808 := rfl
  have e2 : IntKind.i64.max = 9223372036854775807 := rfl
  omega
theorem u8row {H : Type} {enc : TypeId × Value → H} {P : Program} {W : World} {t e : TypeId} {a : Option Addr} {len cap : Nat} {d : DataW H} {p : List MemPlace} (ht : P.underlying t = some (.slice e)) (he : P.underlying e = some (.int .u8)) (hc : P.cellsOf e = 1)
    (h : DataW.Trod enc P W 0 (fun _ => true) true t (.slice a len cap) d p) :
    ∃ xs : List UInt8, len = xs.length ∧ ∀ i, i < xs.length → ∃ ad, a = some ad ∧ W.cell? (ad.add (i * 1)) = some (.int .u8 ((xs.getD i 0).toNat : Nat)) := by
  obtain ⟨fuel, hf⟩ := h
  rcases open_ints ht he hc hf with ⟨hcs, _⟩ | ⟨x, l, c, zs, hcs, _, hl, hm, hz, _, hcell, hwz⟩
  · simp [Value.cells] at hcs
    obtain ⟨rfl, rfl, rfl⟩ := hcs
    exact ⟨[], rfl, fun i hi => by simp at hi⟩
  · simp [Value.cells] at hcs
    obtain ⟨rfl, rfl, rfl⟩ := hcs
    have hz' : zs.length = cap := by simpa using hz
    refine ⟨(zs.take len).map fun z => UInt8.ofNat z.toNat, by simp; omega, fun i hi => ⟨x, rfl, ?_⟩⟩
    have hi' : i < len := by simp at hi; omega
    rw [Nat.mul_one, hcell i (by omega)]
    have hw := u8_of (hwz (zs[i]'(by omega)) (List.getElem_mem _))
    have e1 : zs.getD i 0 = zs[i]'(by omega) := by rw [List.getD_eq_getElem?_getD, List.getElem?_eq_getElem (by omega)]; rfl
    have e2 : ((zs.take len).map fun z => UInt8.ofNat z.toNat).getD i 0 = UInt8.ofNat (zs[i]'(by omega)).toNat := by
      rw [List.getD_eq_getElem?_getD, List.getElem?_map, List.getElem?_take, if_pos hi', List.getElem?_eq_getElem (by omega)]; rfl
    rw [e1, e2]
    simp only [UInt8.toNat_ofNat', Option.some.injEq, Value.int.injEq, true_and]
    omega
end Go.Proofs.YtbdacbcpniegiaaDoor
namespace Go.Sx
open Go Go.RowKit
set_option linter.unusedVariables false
set_option linter.unusedSimpArgs false
def sub : List Bool → Code → Code
  | [], c => c
  | false :: p, .seq a _ => sub p a
  | true :: p, .seq _ b => sub p b
  | _ :: p, .block _ a => sub p a
  | _ :: p, .loop a => sub p a
  | false :: p, .cond _ a _ => sub p a
  | true :: p, .cond _ _ b => sub p b
  | _ :: _, c => c
section
variable {X : Ctx} {c : Cfg} {N : Cfg → Prop} {d : Option Tmp} {ty : TypeId} {pos : String} {af : Array Edge} {g : Option (Nat × Bool)}
theorem PO.slString {src dst e t n : Nat} {x : Operand} {j : Nat} {l : List SC} (bs : List UInt8) (hx : c.ev x = .one (.c (.sl j 0 n n))) (hj : c.loc[j]? = some (.cells l t)) (hl : l = (bcells bs).map SC.v) (hn : n = bs.length)
    (hs : X.P.underlying src = some (.slice e)) (he : X.P.underlying e = some (.int .u8)) (hd : X.P.underlying dst = some .string) :
    PO X ⟨d, .convert src dst x, ty, pos, af, g⟩ c (vv (.string (B bs))) := fun ρ σ a w hr => by
  subst hl
  have ex := hr.ev x
  rw [hx] at ex
  obtain ⟨b, hb, ex⟩ := ex
  obtain ⟨hw, -⟩ := hr.plainAt hj hb
  refine ⟨_, ?_, rfl⟩
  simp only [execOp, ex, Sem.run_bind, hn]
  rw [run_convert_bytes_back w src dst e ⟨b, 0, none⟩ _ bs hs he hd (fun i hi => by
    by_cases e0 : i = 0
    · subst e0
      simp only [World.cell?, Addr.add, hw]
      simp [bcells, hi, hw]
    · simp only [World.cell?, Addr.add, if_neg e0, hw]
      simp [bcells, hi, hw])]
  rfl
theorem VO.slString {src dst e t n : Nat} {x : Operand} {j : Nat} {l : List SC} (bs : List UInt8) (hx : c.ev x = .one (.c (.sl j 0 n n))) (hj : c.loc[j]? = some (.cells l t)) (hl : l = (bcells bs).map SC.v) (hn : n = bs.length)
    (hs : X.P.underlying src = some (.slice e)) (he : X.P.underlying e = some (.int .u8)) (hd : X.P.underlying dst = some .string) (h : nxt X d N c (vv (.string (B bs)))) :
    VO X ⟨d, .convert src dst x, ty, pos, af, g⟩ c N := .of_po (PO.slString bs hx hj hl hn hs he hd) h
theorem VO.makeRow {t e : TypeId} {x y : Operand} {kl kc : IntKind} {n : Nat} {by_ : Nat} {z : Value} (hx : c.ev x = vv (.int kl (n : Int))) (hy : c.ev y = vv (.int kc (n : Int))) (ht : elemInf X.P t = some (e, 1, by_, z)) (h1 : n ≤ 1048576) (h2 : by_ ≤ 1048576) (hzc : z.cells = #[z])
    (h : nxt X d N { c with loc := c.loc ++ [.row e 1 n (List.replicate n z)] } (.one (.c (.row c.loc.length)))) : VO X ⟨d, .makeSlice t x y, ty, pos, af, g⟩ c N :=
  .of_value fun ρ σ a w hr => by
    obtain ⟨hu, ti, hti, hz, hsz, rfl, hzs, h0⟩ := elemInf_spec ht
    have e1 := hr.ev x
    rw [hx] at e1
    have e1 : a.eval x = .int kl (n : Int) := e1
    have e2 := hr.ev y
    rw [hy] at e2
    have e2 : a.eval y = .int kc (n : Int) := e2
    have hb : ti.bytes * n ≤ 1048576 * 1048576 := Nat.mul_le_mul h2 h1
    have hb' : (ti.bytes : Int) * (n : Int) ≤ 281474976710656 := by
      have : ((ti.bytes * n : Nat) : Int) ≤ 281474976710656 := by omega
      rwa [Int.natCast_mul] at this
    have hrun := run_make (P := X.P) w t e ti z hu hti hz kl kc n n (by omega) (Int.le_refl _) hb' (by omega)
    have hcur : (madeCells z.cells (n * ti.size)).toList = List.replicate n z := by
      rw [hzc, hsz, Nat.mul_one]
      apply List.ext_getElem
      · simp [madeCells]
      · intro i h1 h2
        simp [madeCells, Nat.mod_one]
    rw [show ((n : Int)).toNat = n from rfl] at hrun
    have ho : (w.alloc (.cells (madeCells z.cells (n * ti.size)) e)).ownsRow w.heap.size e 1 (.slice (some ⟨w.heap.size, 0, none⟩) n n) n (List.replicate n z) :=
      ⟨by simp, .inr ⟨w.heap.size, n, _, rfl, Nat.le_refl _, (MapKept.heap_alloc w _).1, Nat.le_refl _, by simp only [maxLen]; omega, by rw [size_madeCells, hsz], by rw [hcur, Nat.mul_one, List.take_of_length_le (by simp)]⟩⟩
    obtain ⟨ρ', hR⟩ := hr.newRow ((Below.refl w.heap.size w).alloc (Nat.le_refl _) _) ho
    refine ⟨.slice (some ⟨w.heap.size, 0, none⟩) n n, _, _, _, _, .one (.c (.row c.loc.length)), ?_, hR, ?_, h.1, h.2⟩
    · simp only [execOp, e1, e2, Sem.run_bind, hrun, Result.andThen, Sem.run_pure]
    · show (σ ++ [_])[c.loc.length]? = _
      rw [← hr.lenS]; simp
end
end Go.Sx
namespace Go.Proofs.YtbdacbcpniegiaaDoor
open Go Go.RowKit Go.ChangeShapes Go.WideShapes Go.ChangeAt Go.Sx
structure Dd where
  kd : Nat
  nm : Nat
  t : Int
  ks : List UInt8
  q : Nat
  ok : Bool
  s : List UInt8
deriving Inhabited
def Dd.cells (d : Dd) : List Value := [.int .u8 (d.kd : Int), .int .u8 (d.nm : Int), .int .i64 d.t, .string (B d.ks), .int .u64 (d.q : Int), .bool d.ok, .string (B d.s)]
structure Dd.Ok (d : Dd) : Prop where
  kd : d.kd < 256
  nm : d.nm < 256
  t0 : -9223372036854775808 ≤ d.t
  t1 : d.t < 9223372036854775808
  ks : d.ks.length ≤ 9223372036854775807
  q : d.q < 18446744073709551616
  s : d.s.length ≤ 9223372036854775807
theorem at1 {cs : List Value} {o : Nat} {v : Value} (h : (cs.drop o).take 1 = [v]) : cs[o]? = some v := by
  have := congrArg (·[0]?) h
  simpa using this
theorem B_data (s : ByteArray) : B s.data.toList = s := by cases s; simp [B]
theorem deed_cells {H : Type} {enc : TypeId × Value → H} {W : World} {sp : Nat → Bool} {held : Bool} {n base : Nat} {cs : List Value} {x : DataW H × List MemPlace}
    (h : DataW.trod enc Tryd.prog W base sp held n 53 cs = some x) : ∃ d : Dd, d.Ok ∧ cs = d.cells := by
  obtain ⟨ys, m, rfl, _, hl, hys, hf⟩ := DataW.trod_struct Tryd.underlying53 h
  have c53 : Tryd.prog.cellsOf 53 = 7 := by kernel_rfl
  have c5 : Tryd.prog.cellsOf 5 = 1 := by kernel_rfl
  have c26 : Tryd.prog.cellsOf 26 = 2 := by kernel_rfl
  have c3 : Tryd.prog.cellsOf 3 = 1 := by kernel_rfl
  have c9 : Tryd.prog.cellsOf 9 = 1 := by kernel_rfl
  have c22 : Tryd.prog.cellsOf 22 = 1 := by kernel_rfl
  have c4 : Tryd.prog.cellsOf 4 = 1 := by kernel_rfl
  rw [c53] at hl
  have g0 : DataW.trod enc Tryd.prog W base sp held m 5 ((cs.drop 0).take (Tryd.prog.cellsOf 5)) = ys[0]? := hf 0 _ rfl
  have g1 : DataW.trod enc Tryd.prog W base sp held m 5 ((cs.drop 1).take (Tryd.prog.cellsOf 5)) = ys[1]? := hf 1 _ rfl
  have g2 : DataW.trod enc Tryd.prog W base sp held m 26 ((cs.drop 2).take (Tryd.prog.cellsOf 26)) = ys[2]? := hf 2 _ rfl
  have g3 : DataW.trod enc Tryd.prog W base sp held m 22 ((cs.drop 4).take (Tryd.prog.cellsOf 22)) = ys[3]? := hf 3 _ rfl
  have g4 : DataW.trod enc Tryd.prog W base sp held m 4 ((cs.drop 5).take (Tryd.prog.cellsOf 4)) = ys[4]? := hf 4 _ rfl
  have g5 : DataW.trod enc Tryd.prog W base sp held m 9 ((cs.drop 6).take (Tryd.prog.cellsOf 9)) = ys[5]? := hf 5 _ rfl
  have hy6 : ys.length = 6 := hys
  rw [c5, List.getElem?_eq_getElem (by omega)] at g0
  rw [c5, List.getElem?_eq_getElem (by omega)] at g1
  rw [c26, List.getElem?_eq_getElem (by omega)] at g2
  rw [c22, List.getElem?_eq_getElem (by omega)] at g3
  rw [c4, List.getElem?_eq_getElem (by omega)] at g4
  rw [c9, List.getElem?_eq_getElem (by omega)] at g5
  obtain ⟨a0, e0, _, w0⟩ := DataW.trod_int Tryd.underlying5 g0
  obtain ⟨a1, e1, _, w1⟩ := DataW.trod_int Tryd.underlying5 g1
  obtain ⟨zs, m2, rfl, _, hl2, hzs, hf2⟩ := DataW.trod_struct Tryd.underlying26 g2
  have k0 : DataW.trod enc Tryd.prog W base sp held m2 3 ((((cs.drop 2).take 2).drop 0).take (Tryd.prog.cellsOf 3)) = zs[0]? := hf2 0 _ rfl
  have k1 : DataW.trod enc Tryd.prog W base sp held m2 9 ((((cs.drop 2).take 2).drop 1).take (Tryd.prog.cellsOf 9)) = zs[1]? := hf2 1 _ rfl
  have hz2 : zs.length = 2 := hzs
  rw [c3, List.getElem?_eq_getElem (by omega)] at k0
  rw [c9, List.getElem?_eq_getElem (by omega)] at k1
  obtain ⟨a2, e2, _, w2⟩ := DataW.trod_int Tryd.underlying3 k0
  obtain ⟨a3, e3, _, w3⟩ := DataW.trod_string Tryd.underlying9 k1
  obtain ⟨a4, e4, _, w4⟩ := DataW.trod_int Tryd.underlying22 g3
  obtain ⟨a5, e5, _⟩ := DataW.trod_bool Tryd.underlying4 g4
  obtain ⟨a6, e6, _, w6⟩ := DataW.trod_string Tryd.underlying9 g5
  have f0 := at1 e0
  have f1 := at1 e1
  have f2 := at1 e2
  have f3 := at1 e3
  have f4 := at1 e4
  have f5 := at1 e5
  have f6 := at1 e6
  rw [List.getElem?_take_of_lt (by decide), List.getElem?_drop] at f2 f3
  have b0 := u8_of w0
  have b1 := u8_of w1
  have b2 := i64_of w2
  have b4 := u64_of w4
  refine ⟨⟨a0.toNat, a1.toNat, a2, a3.data.toList, a4.toNat, a5, a6.data.toList⟩, ⟨by show a0.toNat < 256; omega, by show a1.toNat < 256; omega, b2.1, b2.2, by simpa [maxLen] using w3, by show a4.toNat < 18446744073709551616; omega, by simpa [maxLen] using w6⟩, ?_⟩
  have r0 : ((a0.toNat : Nat) : Int) = a0 := by omega
  have r1 : ((a1.toNat : Nat) : Int) = a1 := by omega
  have r4 : ((a4.toNat : Nat) : Int) = a4 := by omega
  simp only [Dd.cells, r0, r1, r4, B_data]
  apply List.ext_getElem?
  intro i
  rcases (by omega : i = 0 ∨ i = 1 ∨ i = 2 ∨ i = 3 ∨ i = 4 ∨ i = 5 ∨ i = 6 ∨ 7 ≤ i) with rfl | rfl | rfl | rfl | rfl | rfl | rfl | h7
  · exact f0
  · exact f1
  · exact f2
  · exact f3
  · exact f4
  · exact f5
  · exact f6
  · rw [List.getElem?_eq_none (by omega), List.getElem?_eq_none (by simpa using h7)]
theorem deedRow {H : Type} {enc : TypeId × Value → H} {W : World} {a : Option Addr} {len cap : Nat} {d : DataW H} {p : List MemPlace} (h : DataW.Trod enc Tryd.prog W 0 (fun _ => true) true 46 (.slice a len cap) d p) :
    ∃ xs : List Dd, len = xs.length ∧ (∀ x ∈ xs, x.Ok) ∧ ∀ i, i < xs.length → ∃ ad, a = some ad ∧ ∀ j v, (xs.getD i default).cells[j]? = some v → W.cell? (ad.add (i * 7 + j)) = some v := by
  obtain ⟨fuel, hf⟩ := h
  have c53 : Tryd.prog.cellsOf 53 = 7 := by kernel_rfl
  rcases Go.Deep.open_slice Tryd.underlying46 hf with ⟨hcs, _⟩ | ⟨x, l, c, m, n, D, Pl, hcs, _, hl, hm, em, _, hel⟩
  · simp [Value.cells] at hcs
    obtain ⟨rfl, rfl, rfl⟩ := hcs
    exact ⟨[], rfl, fun x hx => (by cases hx), fun i hi => by simp at hi⟩
  · simp [Value.cells] at hcs
    obtain ⟨rfl, rfl, rfl⟩ := hcs
    have em' : m = cap := by simpa using em
    subst em'
    have hel2 : ∀ i, i < len → ∃ dd : Dd, dd.Ok ∧ ∀ j v, dd.cells[j]? = some v → W.cell? (x.add (i * 7 + j)) = some v := fun i hi => by
      obtain ⟨cs', h1, h2⟩ := hel i (by omega)
      obtain ⟨dd, hd, rfl⟩ := deed_cells h2
      refine ⟨dd, hd, fun j v hj => ?_⟩
      rw [c53] at h1
      unfold World.cells? at h1
      rw [if_pos (Nat.zero_le _)] at h1
      have hlt : j < 7 := by
        have := (List.getElem?_eq_some_iff.1 hj).1
        simpa [Dd.cells] using this
      have := mapM_some_get h1 j j (List.getElem?_range hlt)
      rw [hj, Deep.add_add] at this
      exact this
    obtain ⟨f, hf⟩ := Classical.axiomOfChoice (fun i : { i : Nat // i < len } => hel2 i.1 i.2)
    refine ⟨(List.range len).map fun i => if h : i < len then f ⟨i, h⟩ else default, by simp, fun y hy => ?_, fun i hi => ⟨x, rfl, fun j v hj => ?_⟩⟩
    · obtain ⟨i, hi, rfl⟩ := List.mem_map.1 hy
      have hi' : i < len := List.mem_range.1 hi
      rw [dif_pos hi']
      exact (hf ⟨i, hi'⟩).1
    · have hi' : i < len := by simpa using hi
      have e : ((List.range len).map fun i => if h : i < len then f ⟨i, h⟩ else default).getD i default = f ⟨i, hi'⟩ := by
        rw [List.getD_eq_getElem?_getD, List.getElem?_map, List.getElem?_range hi']
        simp [hi']
      rw [e] at hj
      exact (hf ⟨i, hi'⟩).2 j v hj
theorem ldRowD {X : Ctx} {w : World} {ad : Addr} {v : Value} {N : Value → Prop} (hown : X.own = []) (hwi : X.wi = w) (hc : w.cell? ad = some v) (h : N v) : ad.block ∉ X.own ∧ ∃ v, X.wi.cell? ad = some v ∧ N v :=
  ⟨by rw [hown]; simp, v, by rw [hwi]; exact hc, h⟩
end Go.Proofs.YtbdacbcpniegiaaDoor
namespace Go.Sx
open Go Go.RowKit
set_option linter.unusedVariables false
set_option linter.unusedSimpArgs false
def PA (X : Ctx) (o1 o2 : Oper) (c : Cfg) (N : Cfg → Prop) : Prop :=
  ∀ (ops : Array Oper) (rest : List Oper) (M : Cfg → Prop), (∀ c', N c' → OX X ops rest c' M) → OX X ops (o1 :: o2 :: rest) c M
def vcPre (X : Ctx) : List Oper → Cfg → (Cfg → Prop) → Prop
  | [], c, N => N c
  | o :: rest, c, N => o.guard = none ∧ vcOp X o c (fun c' => vcPre X rest c' N)
theorem vcPre_n {X : Ctx} {c : Cfg} {N : Cfg → Prop} : vcPre X [] c N = N c := rfl
theorem vcPre_s {X : Ctx} {d : Option Tmp} {op : Op} {ty : TypeId} {pos : String} {af : Array Edge} {rest : List Oper} {c : Cfg} {N : Cfg → Prop} :
    vcPre X (⟨d, op, ty, pos, af, none⟩ :: rest) c N = vcOp X ⟨d, op, ty, pos, af, none⟩ c (fun c' => vcPre X rest c' N) := propext ⟨fun h => h.2, fun h => ⟨rfl, h⟩⟩
theorem vcPre_sound {X : Ctx} : ∀ {pre : List Oper} {c : Cfg} {N : Cfg → Prop}, vcPre X pre c N → ∀ (ops : Array Oper) (rest : List Oper) (M : Cfg → Prop), (∀ c', N c' → OX X ops rest c' M) → OX X ops (pre ++ rest) c M
  | [], c, N, h, ops, rest, M, hM => hM c h
  | o :: pre, c, N, h, ops, rest, M, hM => .cons h.1 (vcOp_sound h.2) (fun c' hc => vcPre_sound hc ops rest M hM)
theorem SX.partApp {X : Ctx} {c : Cfg} {K : Exit → Cfg → Prop} {id : Nat} {l pre post : List Oper} {o1 o2 : Oper} (hl : l = pre ++ o1 :: o2 :: post)
    (h : vcPre X pre c (fun c1 => PA X o1 o2 c1 (fun c2 => vc X l.toArray post c2 (K .normal)))) : SX X (.region id l.toArray false) c K := by
  have h1 : OX X l.toArray (pre ++ o1 :: o2 :: post) c (K .normal) := vcPre_sound h l.toArray (o1 :: o2 :: post) (K .normal) (fun c1 h1 => h1 _ _ _ (fun c2 h2 => vc_sound h2))
  rw [← hl] at h1
  exact .region (by simpa using h1)
section
variable {X : Ctx} {c : Cfg} {N : Cfg → Prop} {d : Option Tmp} {ty ty1 : TypeId} {pos pos1 : String} {af af1 : Array Edge} {g : Option (Nat × Bool)}
theorem PA.nil {o1 o2 : Oper} {t : Tmp} (e sz : Nat) (hx : c.ev (.tmp t) = vv (.slice none 0 0)) (hl : ∃ s, c.env.lookup t = some s)
    (h : PA X o1 o2 { env := (t, .one (.c (.row c.loc.length))) :: c.env, loc := c.loc ++ [.row e sz 0 []] } N) : PA X o1 o2 c N := fun ops rest M hM Q hQ ρ σ a w hr => by
  refine h ops rest M hM Q hQ (ρ ++ [[]]) (σ ++ [Value.slice none 0 0]) a w ?_
  have h1 := hr.nilRow e sz
  refine ⟨fun t' s' he => ?_, h1.len, h1.lenS, h1.loc, h1.inj, h1.lt, h1.fresh, h1.low, h1.defers, h1.size, h1.one, h1.pin⟩
  simp only [List.lookup_cons] at he
  by_cases e : t' = t
  · subst e
    simp at he; subst he
    obtain ⟨s, hs⟩ := hl
    obtain ⟨v, hv, hd⟩ := hr.env t' s hs
    simp only [Cfg.ev, Cfg.get, hs, Option.getD_some] at hx
    subst hx
    obtain rfl : v = .slice none 0 0 := hd
    refine ⟨_, hv, ?_⟩
    show (σ ++ [_])[c.loc.length]? = _
    rw [← hr.lenS]; simp
  · have hb : (t' == t) = false := by simpa using e
    rw [hb] at he
    exact h1.env t' s' he
theorem SX.asRow {code : Code} {K : Exit → Cfg → Prop} {t : Tmp} (e sz : Nat) (hx : c.ev (.tmp t) = vv (.slice none 0 0)) (hl : ∃ s, c.env.lookup t = some s)
    (h : SX X code { env := (t, .one (.c (.row c.loc.length))) :: c.env, loc := c.loc ++ [.row e sz 0 []] } K) : SX X code c K := fun ρ σ a w hr => by
  refine h (ρ ++ [[]]) (σ ++ [Value.slice none 0 0]) a w ?_
  have h1 := hr.nilRow e sz
  refine ⟨fun t' s' he => ?_, h1.len, h1.lenS, h1.loc, h1.inj, h1.lt, h1.fresh, h1.low, h1.defers, h1.size, h1.one, h1.pin⟩
  simp only [List.lookup_cons] at he
  by_cases e : t' = t
  · subst e
    simp at he; subst he
    obtain ⟨s, hs⟩ := hl
    obtain ⟨v, hv, hd⟩ := hr.env t' s hs
    simp only [Cfg.ev, Cfg.get, hs, Option.getD_some] at hx
    subst hx
    obtain rfl : v = .slice none 0 0 := hd
    refine ⟨_, hv, ?_⟩
    show (σ ++ [_])[c.loc.length]? = _
    rw [← hr.lenS]; simp
  · have hb : (t' == t) = false := by simpa using e
    rw [hb] at he
    exact h1.env t' s' he
theorem PA.part {x0 x : Operand} {lo hi : Option Operand} {t e e' i j m sz n k by_ : Nat} {t1 : Tmp} {xs ys : List Value} {z : Value} {l h : Option Int} (news : List Value)
    (hx : c.ev x = .one (.c (.row j))) (hlo : optI c lo = some l) (hhi : optI c hi = some h) (hx0 : (c.put (some t1) (.one (.c .dead))).ev x0 = .one (.c (.row i)))
    (hi0 : c.loc[i]? = some (.row e sz n xs)) (hj0 : c.loc[j]? = some (.row e' sz m ys)) (ht : elemInf X.P t = some (e, sz, by_, z)) (hes : elemSz X.P t = some (e, sz))
    (h0 : 0 ≤ l.getD 0) (h1 : l.getD 0 ≤ h.getD m) (h2 : h.getD m ≤ m) (hk : k = (h.getD m).toNat - (l.getD 0).toNat) (hnw : news = (ys.drop ((l.getD 0).toNat * sz)).take (k * sz))
    (hone : ∀ u ∈ news, u.oneCell' = true) (h63 : n + k ≤ maxLen) (hby : (n + k) * by_ ≤ 140737488355328) (hd1 : dOk (some t1) X.nt = true)
    (hN : nxt X d N { (c.put (some t1) (.one (.c .dead))) with loc := c.loc.set i .gone ++ [.row e sz (n + k) (xs ++ news)] } (.one (.c (.row c.loc.length)))) :
    PA X ⟨some t1, .slice t x lo hi none, ty1, pos1, af1, none⟩ ⟨d, .call { callee := .builtin .append, args := #[x0, .tmp t1], argTypes := #[t, t] }, ty, pos, af, none⟩ c N := fun ops rest M hM Q hQ ρ σ a w hr => by
  have e1 := hr.ev x
  rw [hx] at e1
  have e1 : σ[j]? = some (a.eval x) := e1
  obtain ⟨hu, ti, hti, hz, hsz, hby', hzs, hs0⟩ := elemInf_spec ht
  obtain ⟨fq, hfq⟩ := hr.locAt hj0
  have hdj := hr.loc j _ fq _ hj0 hfq e1
  have hlb : BoundIs (lo.map a.eval) 0 (l.getD 0).toNat := optI_bound (n := 0) hr hlo (by simpa using h0)
  have hhb := optI_bound (n := m) hr hhi (by omega)
  have hsz' : ∀ w, (Go.sizeOf e).run X.P w = .ok sz w := by
    unfold elemSz at hes
    rw [hu] at hes
    cases hz2 : szOf X.P e with
    | none => simp [hz2] at hes
    | some r => simp [hz2] at hes; subst hes; exact sizeOf_run hz2
  have hyl : ys.length = m * sz := hdj.1.1
  obtain ⟨L, hL⟩ : ∃ L, L = (l.getD 0).toNat := ⟨_, rfl⟩
  obtain ⟨H, hH⟩ : ∃ H, H = (h.getD m).toNat := ⟨_, rfl⟩
  rw [← hL] at hlb hk hnw
  rw [← hH] at hhb hk
  have hLH : L ≤ H := by omega
  have hHm : H ≤ m := by omega
  have hnl : news.length = k * sz := by
    rw [hnw, List.length_take, List.length_drop, hyl, ← Nat.sub_mul]
    exact Nat.min_eq_left (Nat.mul_le_mul_right _ (by omega))
  have hget : ∀ q u, news[q]? = some u → ys[L * sz + q]? = some u := by
    intro q u hq
    rw [hnw, List.getElem?_take] at hq
    split at hq
    · rwa [List.getElem?_drop] at hq
    · cases hq
  obtain ⟨v1, hrun1, hv1⟩ : ∃ v1, (execOp a.eval ⟨some t1, .slice t x lo hi none, ty1, pos1, af1, none⟩).run X.P w = .ok (.value v1) w ∧
      ((v1 = .slice none 0 0 ∧ k = 0) ∨ ∃ ad cap, v1 = .slice (some ad) k cap ∧ ∀ q u, news[q]? = some u → w.cell? (ad.add q) = some u) := by
    rcases hdj.1.2 with ⟨e3, hm0⟩ | ⟨gg, cap, cur, e3, _, _, hnc, _⟩
    · subst hm0
      obtain rfl : L = 0 := by omega
      obtain rfl : H = 0 := by omega
      have hrun := run_sliceSl (P := X.P) w hu hsz' none 0 0 _ _ _ _ hlb hhb (Nat.le_refl _) (Nat.le_refl _)
      exact ⟨_, by simp only [execOp, e3, Option.map_none, Sem.run_bind]; rw [hrun]; rfl, .inl ⟨by simp, by omega⟩⟩
    · have hrun := run_sliceSl (P := X.P) w hu hsz' (some ⟨gg, 0, none⟩) m cap _ _ _ _ hlb hhb hLH (by omega)
      refine ⟨_, by simp only [execOp, e3, Option.map_none, Sem.run_bind]; rw [hrun]; rfl, .inr ?_⟩
      by_cases hc : cap = L
      · rw [if_pos hc]
        refine ⟨_, _, by rw [show H - L = k by omega], fun q u hq => ?_⟩
        have : q < news.length := (List.getElem?_eq_some_iff.1 hq).1
        rw [hnl, show k = 0 by omega] at this
        simp at this
      · rw [if_neg hc]
        refine ⟨_, _, by rw [show H - L = k by omega]; rfl, fun q u hq => ?_⟩
        have := hr.rowCell hj0 (by rw [e1, e3]) _ _ (hget q u hq)
        simp only [add_add] at this ⊢
        rw [← this]
        congr 2
        omega
  have hr1 := hr.put (d := some t1) (s := .one (.c .dead)) (v := v1) hd1 trivial
  have hr2 := hr.put (d := some t1) (s := vv v1) (v := v1) hd1 rfl
  have ey : (a.put (some t1) v1).eval (.tmp t1) = v1 := by
    have := hr2.ev (.tmp t1)
    rw [show (c.put (some t1) (vv v1)).ev (.tmp t1) = vv v1 by simp [Cfg.put, Cfg.ev, Cfg.get]] at this
    exact this
  have ex := hr1.ev x0
  rw [hx0] at ex
  have ex : σ[i]? = some ((a.put (some t1) v1).eval x0) := ex
  have hi1 : (c.put (some t1) (.one (.c .dead))).loc[i]? = some (.row e sz n xs) := hi0
  obtain ⟨fp, hfp⟩ := hr1.locAt hi1
  have hd := hr1.loc i _ fp _ hi1 hfp ex
  unfold wpList
  rw [if_pos (by simp [Region.wanted])]
  left
  unfold Oper.wp
  rw [hrun1]
  show wpList X.P ops Q (_ :: rest) (a.put (some t1) v1) w
  generalize a.put (some t1) v1 = a1 at hr1 ey ex hd
  have key : ∃ v' w', (Builtin.append_ #[t, t] ty #[a1.eval x0, v1]).run X.P w = .ok v' w' ∧ w'.ownsRow 0 e sz v' (n + k) (xs ++ news) ∧ w.grownBy w' (a1.eval x0).ownBlock ∧ (∀ k, v'.ownBlock = some k → (a1.eval x0).ownBlock = some k ∨ w.heap.size ≤ k) := by
    rcases hv1 with ⟨rfl, hk0⟩ | ⟨ad, cap, rfl, hc⟩
    · subst hk0
      obtain rfl : news = [] := by simpa using hnl
      have := append_cases (P := X.P) w 0 t ty e ti z sz by_ hu hti hz hsz hby' hzs hs0 (a1.eval x0) n xs hd.1 ⟨0, 0, none⟩ 0 0 [] (by simp) (by simp) (by simp) h63 hby (Nat.zero_le _)
      have hrun : (Builtin.append_ #[t, t] ty #[a1.eval x0, .slice (some ⟨0, 0, none⟩) 0 0]).run X.P w = (Builtin.append_ #[t, t] ty #[a1.eval x0, .slice none 0 0]).run X.P w := by
        have hl : ∀ (ad : Addr), (loadCells ad 0).run X.P w = .ok #[] w := fun ad => by simpa using run_loadCells_list (P := X.P) w ad [] (by simp)
        rcases hd.1.2 with ⟨e4, hn0⟩ | ⟨g4, c4, u4, e4, _, _, hn4, _⟩
        · rw [e4]; simp [Builtin.append_, run_underlying hu, Builtin.lenOf, Builtin.firstCells, sizeOf, typeInfo, hti, hl, storeCells]
        · rw [e4]; simp [Builtin.append_, run_underlying hu, Builtin.lenOf, Builtin.firstCells, sizeOf, typeInfo, hti, hn4, hl, storeCells]
      rw [hrun] at this
      exact this
    · exact append_cases (P := X.P) w 0 t ty e ti z sz by_ hu hti hz hsz hby' hzs hs0 (a1.eval x0) n xs hd.1 ad k cap news hnl hc hone h63 hby (Nat.zero_le _)
  obtain ⟨v', w', hrun, hown, hgr, hkk⟩ := key
  obtain ⟨ρ', hR⟩ := hr1.reRow hi1 ex hgr hown hkk
  unfold wpList
  rw [if_pos (by simp [Region.wanted])]
  left
  unfold Oper.wp
  have hrun2 : (execOp a1.eval ⟨d, .call { callee := .builtin .append, args := #[x0, .tmp t1], argTypes := #[t, t] }, ty, pos, af, none⟩).run X.P w = .ok (.value v') w' := by
    simp only [execOp, resolve, invoke, builtin, Sem.run_bind, Sem.run_pure, Result.andThen_ok, List.map_toArray, List.map_cons, List.map_nil, ey]
    rw [hrun]; rfl
  rw [hrun2]
  have hs2 : DV (σ ++ [v']) (.one (.c (.row c.loc.length))) v' := by
    show (σ ++ [v'])[c.loc.length]? = some v'
    have := hr1.lenS
    rw [show c.loc.length = σ.length from this.symm]; simp
  exact hM _ hN.2 Q hQ _ _ _ _ (hR.put hN.1 hs2)
end
end Go.Sx
namespace Go.Proofs.YtbdacbcpniegiaaDoor
open Go Go.RowKit Go.Proofs Go.Sx
set_option maxHeartbeats 4000000
set_option maxRecDepth 100000
set_option linter.unusedSimpArgs false
set_option linter.unusedVariables false
theorem rv8a (m : Nat) : IntKind.u8.wrap (IntKind.u64.wrap ((m : Int).tmod 128 + 128)) = ((UInt8.ofNat (m % 128 + 128)).toNat : Int) := by
  rw [show ((m : Int).tmod 128) = ((m % 128 : Nat) : Int) from rfl, wU64 (by omega) (by omega), IntKind.wrap_u8]
  simp [UInt8.toNat_ofNat']
theorem rv8b (m : Nat) : IntKind.u8.wrap (m : Int) = ((UInt8.ofNat m).toNat : Int) := by rw [IntKind.wrap_u8]; simp [UInt8.toNat_ofNat']
theorem rv8c (m : Nat) (h : m < 18446744073709551616) : IntKind.u64.wrap ((m : Int).tdiv 128) = ((m / 128 : Nat) : Int) := by
  rw [show ((m : Int).tdiv 128) = ((m / 128 : Nat) : Int) from rfl, wU64 (by omega) (by omega)]
theorem rVarint_any (n : Nat) (hn : n < 18446744073709551616) (w : World) :
    Calls Tryd.prog 162 #[.int .u64 n] w fun e w' => e = .returned (.string (B (NW.varint n))) ∧ Below w.heap.size w w' := by
  have hlen := NW.varint_len10 (n := n) (by omega)
  refine calls_pureK (args := [.int .u64 n]) w Tryd.func162 rfl Tryd.ntmps162 (by simp) ?_
  intro X K hX hK
  have hnt : X.nt = 21 := by rw [hX]
  have hwi : X.wi = w := by rw [hX]
  have hP : X.P = Tryd.prog := by rw [hX]
  have hown : X.own = [] := by rw [hX]
  have hbl : X.base.length = 0 := by rw [hX]; rfl
  clear hX
  have hT : X.P.underlying 22 = some (TypeDesc.int IntKind.u64) ∧ X.P.underlying 5 = some (TypeDesc.int IntKind.u8) ∧ isBytesT X.P 22 = false ∧ isStrT X.P 5 = false ∧ elemSz X.P 58 = some (5, 1) ∧ zeroCells X.P 5 = some [(Value.int IntKind.u8 0)] ∧ elemInf X.P 58 = some (5, 1, 1, (Value.int IntKind.u8 0)) ∧ isStrT X.P 58 = false ∧ X.P.underlying 58 = some (TypeDesc.slice 5) ∧ X.P.underlying 9 = some TypeDesc.string ∧ isBytesT X.P 58 = true ∧ isStrT X.P 9 = true := by rw [hP]; exact ⟨Tryd.underlying22, Tryd.underlying5, Ty.ib22, Ty.is5, Ty.el58, Ty.ze5, Ty.ei58, Ty.is58, Tryd.underlying58, Tryd.underlying9, Ty.ib58, Ty.is9⟩
  repeat' (first
    | (refine SX.asRow (t := 3) 5 1 rfl ⟨_, rfl⟩ ?_)
    | (refine SX.seqK ?_; intro N hN)
    | ((first | (refine SX.ops ?_)); simp only [GA, ↓GB, List.filterMap_cons, eq_self, BEq.rfl, simprocAttr, hnt, hT, rv8a, rv8b])
    | ((first | refine SX.skip ?_ | refine SX.exit ?_ | refine SX.label ?_); try simp only [GA, ↓GB, List.filterMap_cons, eq_self, BEq.rfl, simprocAttr])
    | (refine SX.cond rfl (fun hb => ?_) (fun hb => ?_) <;> ((first | cases hb | (simp only [decide_eq_true_eq, decide_eq_false_iff_not, beq_iff_eq, beq_eq_false_iff_ne, bne_iff_ne, Bool.and_eq_true, Bool.or_eq_true, Bool.not_eq_true', Bool.not_eq_false', Bool.and_eq_false_iff, Bool.or_eq_false_iff, Int.not_lt, Int.not_le] at hb) | skip) <;> (first | (exfalso; omega) | skip)))
    | (refine SX.ret ?_; try simp only [GA, ↓GB, List.filterMap_cons, eq_self, BEq.rfl, simprocAttr])
    | (refine hN _ ?_; clear hN N)
    | (refine hK _ _ (Fin.res rfl hown ?_); simp only [GA, ↓GB, List.filterMap_cons, eq_self, BEq.rfl, simprocAttr, f_a, f_b, f_n, f_c, f_B, f_v, f_g, f_0, f_1, f_2, hT, hwi, rv8a, rv8b]; intro w' hbel; refine Done.out ?_)
    | (clear hN N; first | (refine hN _ ?_; clear hN N) | (clear hN N; first | (refine hN _ ?_; clear hN N) | (clear hN N; first | (refine hN _ ?_; clear hN N) | (clear hN N; first | (refine hN _ ?_; clear hN N) | (clear hN N; first | (refine hN _ ?_; clear hN N) | (refine hN _ ?_; clear hN N))))))
    | (refine bif2.mk (fun hb => ?_) (fun hb => ?_) <;> (try simp only [hb, GA, ↓GB, List.filterMap_cons, eq_self, BEq.rfl, simprocAttr, hnt, hT, rv8a, rv8b]) <;> ((first | cases hb | (simp only [decide_eq_true_eq, decide_eq_false_iff_not, beq_iff_eq, beq_eq_false_iff_ne, bne_iff_ne, Bool.and_eq_true, Bool.or_eq_true, Bool.not_eq_true', Bool.not_eq_false', Bool.and_eq_false_iff, Bool.or_eq_false_iff, Int.not_lt, Int.not_le] at hb) | skip) <;> (first | (exfalso; omega) | skip)))
    | (refine SX.loop (ι := { p : Nat × List UInt8 // p.2 ++ NW.varint p.1 = NW.varint n ∧ p.1 < 18446744073709551616 }) (fun i => ⟨[(0, vv (.int .u64 i.1.1)), (3, .one (.c (.row 0)))], [.row 5 1 i.1.2.length (bcells i.1.2)]⟩) (fun i => i.1.1) ⟨(n, []), by simp, hn⟩ ⟨[0], (LeR.of (by rw [hbl]; decide) (by simp only [GA, ↓GB, List.filterMap_cons, eq_self, BEq.rfl, simprocAttr, List.getD_cons_zero, List.getD_cons_succ, or_false, false_or, or_self, or_true, true_or, decide_true]; try (rfl)) (by simp only [GA, ↓GB, List.filterMap_cons, eq_self, BEq.rfl, simprocAttr, List.getD_cons_zero, List.getD_cons_succ, or_false, false_or, or_self, or_true, true_or, decide_true]; try (rfl)) (by decide) (by simp only [GA, ↓GB, List.filterMap_cons, eq_self, BEq.rfl, simprocAttr, List.getD_cons_zero, List.getD_cons_succ, or_false, false_or, or_self, or_true, true_or, decide_true]) (by simp only [GA, ↓GB, List.filterMap_cons, eq_self, BEq.rfl, simprocAttr, List.getD_cons_zero, List.getD_cons_succ, or_false, false_or, or_self, or_true, true_or, decide_true]) (by simp only [GA, ↓GB, List.filterMap_cons, eq_self, BEq.rfl, simprocAttr, List.getD_cons_zero, List.getD_cons_succ, or_false, false_or, or_self, or_true, true_or, decide_true]))⟩ ?_ <;> rintro ⟨⟨m, l⟩, hml, hm⟩ <;> simp only [] at hml hm ⊢)
    | (refine ⟨l ++ [UInt8.ofNat m], by simp [bcells], ?_⟩)
    | (refine SX.block ?_)
    | (refine and_mk ?_ ?_; (focus first | decide | omega | rfl | assumption | (simp only [List.length_append, List.length_cons, List.length_nil, B_size]; omega) | (simp; done)))
    | (refine And.intro ?_ ?_))
  all_goals (try refine Done.mk ?_)
  · have := congrArg List.length hml; simp at this; omega
  · refine ⟨⟨(m / 128, l ++ [UInt8.ofNat (m % 128 + 128)]), ?_, by omega⟩, [2], (LeR.of (by rw [hbl]; decide) (by simp only [GA, ↓GB, List.filterMap_cons, eq_self, BEq.rfl, simprocAttr, List.getD_cons_zero, List.getD_cons_succ, or_false, false_or, or_self, or_true, true_or, decide_true]; try (first | (rw [wU64 (by omega) (by omega)]; rfl) | (simp [bcells]; done) | (have := rv8c m hm; simp_all))) (by simp only [GA, ↓GB, List.filterMap_cons, eq_self, BEq.rfl, simprocAttr, List.getD_cons_zero, List.getD_cons_succ, or_false, false_or, or_self, or_true, true_or, decide_true]; try (first | (rw [wU64 (by omega) (by omega)]; rfl) | (simp [bcells]; done) | (have := rv8c m hm; simp_all))) (by decide) (by simp only [GA, ↓GB, List.filterMap_cons, eq_self, BEq.rfl, simprocAttr, List.getD_cons_zero, List.getD_cons_succ, or_false, false_or, or_self, or_true, true_or, decide_true]) (by simp only [GA, ↓GB, List.filterMap_cons, eq_self, BEq.rfl, simprocAttr, List.getD_cons_zero, List.getD_cons_succ, or_false, false_or, or_self, or_true, true_or, decide_true]) (by simp only [GA, ↓GB, List.filterMap_cons, eq_self, BEq.rfl, simprocAttr, List.getD_cons_zero, List.getD_cons_succ, or_false, false_or, or_self, or_true, true_or, decide_true])), by show m / 128 < m; omega⟩
    rw [← hml, NW.varint_ge (by omega : ¬ m < 128)]; simp
  · have := congrArg List.length hml; simp at this; omega
  · refine ⟨?_, hbel⟩
    rw [← hml, NW.varint_lt (by omega)]
theorem rPut_num (num n : Nat) (h1 : 1 ≤ num) (h2 : num < 536870912) (hn : n < 18446744073709551616) (w : World) :
    Calls Tryd.prog 141 #[.agg #[.int .i64 num, .int .i64 0, .int .u64 n, .string (B [])]] w fun e w' => e = .returned (.tuple #[.string (B (numB num n)), .bool true]) ∧ Below w.heap.size w w' := by
  have g1 : decide ((num : Int) < 1) = false := by simp; omega
  have g2 : decide ((536870912 : Int) ≤ num) = false := by simp; omega
  have hl1 := NW.varint_len10 (n := num * 8) (by omega)
  have hl2 := NW.varint_len10 (n := n) (by omega)
  have e1 : IntKind.u64.wrap (IntKind.u64.wrap (IntKind.u64.wrap (num : Int) * 8) + 0) = ((num * 8 : Nat) : Int) := by
    rw [wU64 (x := (num : Int)) (by omega) (by omega), wU64 (x := (num : Int) * 8) (by omega) (by omega), wU64 (by omega) (by omega)]; omega
  refine calls_pureK (args := [.agg #[.int .i64 num, .int .i64 0, .int .u64 n, .string (B [])]]) w Tryd.func141 rfl Tryd.ntmps141 (by simp) ?_
  intro X K hX hK
  have hnt : X.nt = 83 := by rw [hX]
  have hwi : X.wi = w := by rw [hX]
  have hP : X.P = Tryd.prog := by rw [hX]
  have hown : X.own = [] := by rw [hX]
  have hbl : X.base.length = 0 := by rw [hX]; rfl
  clear hX
  have hT : fieldOff X.P 179 0 = some 0 ∧ aggOf X.P 3 = some false ∧ szOf X.P 3 = some 1 ∧ fieldOff X.P 179 1 = some 1 ∧ fieldOff X.P 179 2 = some 2 ∧ aggOf X.P 22 = some false ∧ szOf X.P 22 = some 1 ∧ X.P.underlying 3 = some (TypeDesc.int IntKind.i64) ∧ X.P.underlying 22 = some (TypeDesc.int IntKind.u64) ∧ isBytesT X.P 3 = false ∧ isStrT X.P 22 = false ∧ calleeOk X.P 162 = true ∧ fieldOff X.P 179 3 = some 3 ∧ aggOf X.P 9 = some false ∧ szOf X.P 9 = some 1 ∧ X.P.underlying 9 = some TypeDesc.string := by rw [hP]; exact ⟨Ty.fo179_0, Ty.ag3, Ty.sz3, Ty.fo179_1, Ty.fo179_2, Ty.ag22, Ty.sz22, Tryd.underlying3, Tryd.underlying22, Ty.ib3, Ty.is22, Ty.co162, Ty.fo179_3, Ty.ag9, Ty.sz9, Tryd.underlying9⟩
  repeat' (first
    | (refine SX.seqK ?_; intro N hN)
    | ((first | (refine SX.ops ?_) | (refine SX.planT (id := 10) [.q [(0, [4]), (1, [1]), (2, [74]), (3, [75]), (4, [76]), (5, [77]), (6, [73, 78]), (7, [1]), (8, [80]), (9, [79, 81]), (10, [82]), (11, [])] none] ?_ ?_ ?_; (focus first | (rw [hP]; kernel_rfl) | (rw [hU1P, hP]; kernel_rfl)); (focus kernel_rfl))); simp only [GA, ↓GB, List.filterMap_cons, eq_self, BEq.rfl, simprocAttr, hnt, hT, g1, g2, e1])
    | ((first | refine SX.skip ?_ | refine SX.exit ?_ | refine SX.label ?_); try simp only [GA, ↓GB, List.filterMap_cons, eq_self, BEq.rfl, simprocAttr])
    | (refine SX.cond rfl (fun hb => ?_) (fun hb => ?_) <;> ((first | cases hb | (simp only [decide_eq_true_eq, decide_eq_false_iff_not, beq_iff_eq, beq_eq_false_iff_ne, bne_iff_ne, Bool.and_eq_true, Bool.or_eq_true, Bool.not_eq_true', Bool.not_eq_false', Bool.and_eq_false_iff, Bool.or_eq_false_iff, Int.not_lt, Int.not_le] at hb) | skip) <;> (first | (exfalso; omega) | skip)))
    | (refine SX.ret ?_; try simp only [GA, ↓GB, List.filterMap_cons, eq_self, BEq.rfl, simprocAttr])
    | (refine hN _ ?_; clear hN N)
    | (refine hK _ _ (Fin.res rfl hown ?_); simp only [GA, ↓GB, List.filterMap_cons, eq_self, BEq.rfl, simprocAttr, f_a, f_b, f_n, f_c, f_B, f_v, f_g, f_0, f_1, f_2, hT, hwi, g1, g2, e1]; intro w' hbel; refine Done.out ?_)
    | (clear hN N; first | (refine hN _ ?_; clear hN N) | (clear hN N; first | (refine hN _ ?_; clear hN N) | (clear hN N; first | (refine hN _ ?_; clear hN N) | (clear hN N; first | (refine hN _ ?_; clear hN N) | (clear hN N; first | (refine hN _ ?_; clear hN N) | (refine hN _ ?_; clear hN N))))))
    | (refine bif2.mk (fun hb => ?_) (fun hb => ?_) <;> (try simp only [hb, GA, ↓GB, List.filterMap_cons, eq_self, BEq.rfl, simprocAttr, hnt, hT, g1, g2, e1]) <;> ((first | cases hb | (simp only [decide_eq_true_eq, decide_eq_false_iff_not, beq_iff_eq, beq_eq_false_iff_ne, bne_iff_ne, Bool.and_eq_true, Bool.or_eq_true, Bool.not_eq_true', Bool.not_eq_false', Bool.and_eq_false_iff, Bool.or_eq_false_iff, Int.not_lt, Int.not_le] at hb) | skip) <;> (first | (exfalso; omega) | skip)))
    | ((first | (refine CallVC.pv hP (rVarint_any (num * 8) (by omega)) rfl ?_) | (refine CallQ.pv hP (rVarint_any (num * 8) (by omega)) rfl ?_) | (refine CallVC.pv hP (rVarint_any n hn) rfl ?_) | (refine CallQ.pv hP (rVarint_any n hn) rfl ?_)); simp only [GA, ↓GB, List.filterMap_cons, eq_self, BEq.rfl, simprocAttr, hnt, hT, g1, g2, e1])
    | (refine SX.block ?_)
    | (refine and_mk ?_ ?_; (focus first | decide | omega | rfl | assumption | (simp only [List.length_append, List.length_cons, List.length_nil, B_size]; omega) | (simp; done)))
    | (refine And.intro ?_ ?_))
  all_goals (try refine Done.mk ?_)
  all_goals first | exact hbel | exact ⟨by simp [numB], hbel⟩ | trace_state
theorem rPut_text (num : Nat) (s : List UInt8) (h1 : 1 ≤ num) (h2 : num < 536870912) (hs : s.length < 1152921504606846976) (w : World) :
    Calls Tryd.prog 141 #[.agg #[.int .i64 num, .int .i64 2, .int .u64 0, .string (B s)]] w fun e w' => e = .returned (.tuple #[.string (B (textB num s)), .bool true]) ∧ Below w.heap.size w w' := by
  have g1 : decide ((num : Int) < 1) = false := by simp; omega
  have g2 : decide ((536870912 : Int) ≤ num) = false := by simp; omega
  have hl1 := NW.varint_len10 (n := num * 8 + 2) (by omega)
  have hl2 := NW.varint_len10 (n := s.length) (by omega)
  have e1 : IntKind.u64.wrap (IntKind.u64.wrap (IntKind.u64.wrap (num : Int) * 8) + 2) = ((num * 8 + 2 : Nat) : Int) := by
    rw [wU64 (x := (num : Int)) (by omega) (by omega), wU64 (x := (num : Int) * 8) (by omega) (by omega), wU64 (by omega) (by omega)]; omega
  have e2 : IntKind.u64.wrap (s.length : Int) = (s.length : Int) := wU64 (by omega) (by omega)
  refine calls_pureK (args := [.agg #[.int .i64 num, .int .i64 2, .int .u64 0, .string (B s)]]) w Tryd.func141 rfl Tryd.ntmps141 (by simp) ?_
  intro X K hX hK
  have hnt : X.nt = 83 := by rw [hX]
  have hwi : X.wi = w := by rw [hX]
  have hP : X.P = Tryd.prog := by rw [hX]
  have hown : X.own = [] := by rw [hX]
  have hbl : X.base.length = 0 := by rw [hX]; rfl
  clear hX
  have hT : fieldOff X.P 179 0 = some 0 ∧ aggOf X.P 3 = some false ∧ szOf X.P 3 = some 1 ∧ fieldOff X.P 179 1 = some 1 ∧ fieldOff X.P 179 2 = some 2 ∧ aggOf X.P 22 = some false ∧ szOf X.P 22 = some 1 ∧ X.P.underlying 3 = some (TypeDesc.int IntKind.i64) ∧ X.P.underlying 22 = some (TypeDesc.int IntKind.u64) ∧ isBytesT X.P 3 = false ∧ isStrT X.P 22 = false ∧ calleeOk X.P 162 = true ∧ fieldOff X.P 179 3 = some 3 ∧ aggOf X.P 9 = some false ∧ szOf X.P 9 = some 1 ∧ X.P.underlying 9 = some TypeDesc.string := by rw [hP]; exact ⟨Ty.fo179_0, Ty.ag3, Ty.sz3, Ty.fo179_1, Ty.fo179_2, Ty.ag22, Ty.sz22, Tryd.underlying3, Tryd.underlying22, Ty.ib3, Ty.is22, Ty.co162, Ty.fo179_3, Ty.ag9, Ty.sz9, Tryd.underlying9⟩
  repeat' (first
    | (refine SX.seqK ?_; intro N hN)
    | ((first | (refine SX.ops ?_) | (refine SX.planT (id := 10) [.q [(0, [4]), (1, [1]), (2, [74]), (3, [75]), (4, [76]), (5, [77]), (6, [73, 78]), (7, [1]), (8, [80]), (9, [79, 81]), (10, [82]), (11, [])] none] ?_ ?_ ?_; (focus first | (rw [hP]; kernel_rfl) | (rw [hU1P, hP]; kernel_rfl)); (focus kernel_rfl))); simp only [GA, ↓GB, List.filterMap_cons, eq_self, BEq.rfl, simprocAttr, hnt, hT, g1, g2, e1, e2])
    | ((first | refine SX.skip ?_ | refine SX.exit ?_ | refine SX.label ?_); try simp only [GA, ↓GB, List.filterMap_cons, eq_self, BEq.rfl, simprocAttr])
    | (refine SX.cond rfl (fun hb => ?_) (fun hb => ?_) <;> ((first | cases hb | (simp only [decide_eq_true_eq, decide_eq_false_iff_not, beq_iff_eq, beq_eq_false_iff_ne, bne_iff_ne, Bool.and_eq_true, Bool.or_eq_true, Bool.not_eq_true', Bool.not_eq_false', Bool.and_eq_false_iff, Bool.or_eq_false_iff, Int.not_lt, Int.not_le] at hb) | skip) <;> (first | (exfalso; omega) | skip)))
    | (refine SX.ret ?_; try simp only [GA, ↓GB, List.filterMap_cons, eq_self, BEq.rfl, simprocAttr])
    | (refine hN _ ?_; clear hN N)
    | (refine hK _ _ (Fin.res rfl hown ?_); simp only [GA, ↓GB, List.filterMap_cons, eq_self, BEq.rfl, simprocAttr, f_a, f_b, f_n, f_c, f_B, f_v, f_g, f_0, f_1, f_2, hT, hwi, g1, g2, e1, e2]; intro w' hbel; refine Done.out ?_)
    | (clear hN N; first | (refine hN _ ?_; clear hN N) | (clear hN N; first | (refine hN _ ?_; clear hN N) | (clear hN N; first | (refine hN _ ?_; clear hN N) | (clear hN N; first | (refine hN _ ?_; clear hN N) | (clear hN N; first | (refine hN _ ?_; clear hN N) | (refine hN _ ?_; clear hN N))))))
    | (refine bif2.mk (fun hb => ?_) (fun hb => ?_) <;> (try simp only [hb, GA, ↓GB, List.filterMap_cons, eq_self, BEq.rfl, simprocAttr, hnt, hT, g1, g2, e1, e2]) <;> ((first | cases hb | (simp only [decide_eq_true_eq, decide_eq_false_iff_not, beq_iff_eq, beq_eq_false_iff_ne, bne_iff_ne, Bool.and_eq_true, Bool.or_eq_true, Bool.not_eq_true', Bool.not_eq_false', Bool.and_eq_false_iff, Bool.or_eq_false_iff, Int.not_lt, Int.not_le] at hb) | skip) <;> (first | (exfalso; omega) | skip)))
    | ((first | (refine CallVC.pv hP (rVarint_any (num * 8 + 2) (by omega)) rfl ?_) | (refine CallQ.pv hP (rVarint_any (num * 8 + 2) (by omega)) rfl ?_) | (refine CallVC.pv hP (rVarint_any s.length (by omega)) rfl ?_) | (refine CallQ.pv hP (rVarint_any s.length (by omega)) rfl ?_)); simp only [GA, ↓GB, List.filterMap_cons, eq_self, BEq.rfl, simprocAttr, hnt, hT, g1, g2, e1, e2])
    | (refine SX.block ?_)
    | (refine and_mk ?_ ?_; (focus first | decide | omega | rfl | assumption | (simp only [List.length_append, List.length_cons, List.length_nil, B_size]; omega) | (simp; done)))
    | (refine And.intro ?_ ?_))
  all_goals (try refine Done.mk ?_)
  all_goals first | exact hbel | exact ⟨by simp [textB], hbel⟩ | trace_state
theorem rNumber_any (num n : Nat) (h1 : 1 ≤ num) (h2 : num < 536870912) (hn : n < 18446744073709551616) (w : World) :
    Calls Tryd.prog 107 #[.int .i64 num, .int .u64 n] w fun e w' => e = .returned (.string (B (numB num n))) ∧ Below w.heap.size w w' := by
  refine calls_pureK (args := [.int .i64 num, .int .u64 n]) w Tryd.func107 rfl Tryd.ntmps107 (by simp) ?_
  intro X K hX hK
  have hnt : X.nt = 15 := by rw [hX]
  have hwi : X.wi = w := by rw [hX]
  have hP : X.P = Tryd.prog := by rw [hX]
  have hown : X.own = [] := by rw [hX]
  have hbl : X.base.length = 0 := by rw [hX]; rfl
  clear hX
  have hT : fieldsOf X.P 179 = some [(0, 1), (1, 1), (2, 1), (3, 1)] ∧ zeroCells X.P 179 = some [(Value.int IntKind.i64 0), (Value.int IntKind.i64 0), (Value.int IntKind.u64 0), (Value.string { data := #[] })] ∧ calleeOk X.P 141 = true := by rw [hP]; exact ⟨Ty.fs179, Ty.ze179, Ty.co141⟩
  repeat' (first
    | (refine SX.seqK ?_; intro N hN)
    | ((first | (refine SX.ops ?_)); simp only [GA, ↓GB, List.filterMap_cons, eq_self, BEq.rfl, simprocAttr, hnt, hT])
    | ((first | refine SX.skip ?_ | refine SX.exit ?_ | refine SX.label ?_); try simp only [GA, ↓GB, List.filterMap_cons, eq_self, BEq.rfl, simprocAttr])
    | (refine SX.cond rfl (fun hb => ?_) (fun hb => ?_) <;> ((first | cases hb | (simp only [decide_eq_true_eq, decide_eq_false_iff_not, beq_iff_eq, beq_eq_false_iff_ne, bne_iff_ne, Bool.and_eq_true, Bool.or_eq_true, Bool.not_eq_true', Bool.not_eq_false', Bool.and_eq_false_iff, Bool.or_eq_false_iff, Int.not_lt, Int.not_le] at hb) | skip) <;> (first | (exfalso; omega) | skip)))
    | (refine SX.ret ?_; try simp only [GA, ↓GB, List.filterMap_cons, eq_self, BEq.rfl, simprocAttr])
    | (refine hN _ ?_; clear hN N)
    | (refine hK _ _ (Fin.res rfl hown ?_); simp only [GA, ↓GB, List.filterMap_cons, eq_self, BEq.rfl, simprocAttr, f_a, f_b, f_n, f_c, f_B, f_v, f_g, f_0, f_1, f_2, hT, hwi]; intro w' hbel; refine Done.out ?_)
    | (clear hN N; first | (refine hN _ ?_; clear hN N) | (clear hN N; first | (refine hN _ ?_; clear hN N) | (clear hN N; first | (refine hN _ ?_; clear hN N) | (clear hN N; first | (refine hN _ ?_; clear hN N) | (clear hN N; first | (refine hN _ ?_; clear hN N) | (refine hN _ ?_; clear hN N))))))
    | (refine bif2.mk (fun hb => ?_) (fun hb => ?_) <;> (try simp only [hb, GA, ↓GB, List.filterMap_cons, eq_self, BEq.rfl, simprocAttr, hnt, hT]) <;> ((first | cases hb | (simp only [decide_eq_true_eq, decide_eq_false_iff_not, beq_iff_eq, beq_eq_false_iff_ne, bne_iff_ne, Bool.and_eq_true, Bool.or_eq_true, Bool.not_eq_true', Bool.not_eq_false', Bool.and_eq_false_iff, Bool.or_eq_false_iff, Int.not_lt, Int.not_le] at hb) | skip) <;> (first | (exfalso; omega) | skip)))
    | ((first | (refine CallVC.pt (l := [_, _]) hP (rPut_num num n h1 h2 hn) rfl ?_) | (refine CallQ.pt (l := [_, _]) hP (rPut_num num n h1 h2 hn) rfl ?_)); simp only [GA, ↓GB, List.filterMap_cons, eq_self, BEq.rfl, simprocAttr, hnt, hT])
    | (refine SX.block ?_)
    | (refine and_mk ?_ ?_; (focus first | decide | omega | rfl | assumption | (simp only [List.length_append, List.length_cons, List.length_nil, B_size]; omega) | (simp; done)))
    | (refine And.intro ?_ ?_))
  all_goals (try refine Done.mk ?_)
  all_goals first | exact hbel | exact ⟨rfl, hbel⟩
theorem rText_any (num : Nat) (s : List UInt8) (h1 : 1 ≤ num) (h2 : num < 536870912) (hs : s.length < 1152921504606846976) (w : World) :
    Calls Tryd.prog 108 #[.int .i64 num, .string (B s)] w fun e w' => e = .returned (.string (B (textB num s))) ∧ Below w.heap.size w w' := by
  refine calls_pureK (args := [.int .i64 num, .string (B s)]) w Tryd.func108 rfl Tryd.ntmps108 (by simp) ?_
  intro X K hX hK
  have hnt : X.nt = 15 := by rw [hX]
  have hwi : X.wi = w := by rw [hX]
  have hP : X.P = Tryd.prog := by rw [hX]
  have hown : X.own = [] := by rw [hX]
  have hbl : X.base.length = 0 := by rw [hX]; rfl
  clear hX
  have hT : fieldsOf X.P 179 = some [(0, 1), (1, 1), (2, 1), (3, 1)] ∧ zeroCells X.P 179 = some [(Value.int IntKind.i64 0), (Value.int IntKind.i64 0), (Value.int IntKind.u64 0), (Value.string { data := #[] })] ∧ calleeOk X.P 141 = true := by rw [hP]; exact ⟨Ty.fs179, Ty.ze179, Ty.co141⟩
  repeat' (first
    | (refine SX.seqK ?_; intro N hN)
    | ((first | (refine SX.ops ?_)); simp only [GA, ↓GB, List.filterMap_cons, eq_self, BEq.rfl, simprocAttr, hnt, hT])
    | ((first | refine SX.skip ?_ | refine SX.exit ?_ | refine SX.label ?_); try simp only [GA, ↓GB, List.filterMap_cons, eq_self, BEq.rfl, simprocAttr])
    | (refine SX.cond rfl (fun hb => ?_) (fun hb => ?_) <;> ((first | cases hb | (simp only [decide_eq_true_eq, decide_eq_false_iff_not, beq_iff_eq, beq_eq_false_iff_ne, bne_iff_ne, Bool.and_eq_true, Bool.or_eq_true, Bool.not_eq_true', Bool.not_eq_false', Bool.and_eq_false_iff, Bool.or_eq_false_iff, Int.not_lt, Int.not_le] at hb) | skip) <;> (first | (exfalso; omega) | skip)))
    | (refine SX.ret ?_; try simp only [GA, ↓GB, List.filterMap_cons, eq_self, BEq.rfl, simprocAttr])
    | (refine hN _ ?_; clear hN N)
    | (refine hK _ _ (Fin.res rfl hown ?_); simp only [GA, ↓GB, List.filterMap_cons, eq_self, BEq.rfl, simprocAttr, f_a, f_b, f_n, f_c, f_B, f_v, f_g, f_0, f_1, f_2, hT, hwi]; intro w' hbel; refine Done.out ?_)
    | (clear hN N; first | (refine hN _ ?_; clear hN N) | (clear hN N; first | (refine hN _ ?_; clear hN N) | (clear hN N; first | (refine hN _ ?_; clear hN N) | (clear hN N; first | (refine hN _ ?_; clear hN N) | (clear hN N; first | (refine hN _ ?_; clear hN N) | (refine hN _ ?_; clear hN N))))))
    | (refine bif2.mk (fun hb => ?_) (fun hb => ?_) <;> (try simp only [hb, GA, ↓GB, List.filterMap_cons, eq_self, BEq.rfl, simprocAttr, hnt, hT]) <;> ((first | cases hb | (simp only [decide_eq_true_eq, decide_eq_false_iff_not, beq_iff_eq, beq_eq_false_iff_ne, bne_iff_ne, Bool.and_eq_true, Bool.or_eq_true, Bool.not_eq_true', Bool.not_eq_false', Bool.and_eq_false_iff, Bool.or_eq_false_iff, Int.not_lt, Int.not_le] at hb) | skip) <;> (first | (exfalso; omega) | skip)))
    | ((first | (refine CallVC.pt (l := [_, _]) hP (rPut_text num s h1 h2 hs) rfl ?_) | (refine CallQ.pt (l := [_, _]) hP (rPut_text num s h1 h2 hs) rfl ?_)); simp only [GA, ↓GB, List.filterMap_cons, eq_self, BEq.rfl, simprocAttr, hnt, hT])
    | (refine SX.block ?_)
    | (refine and_mk ?_ ?_; (focus first | decide | omega | rfl | assumption | (simp only [List.length_append, List.length_cons, List.length_nil, B_size]; omega) | (simp; done)))
    | (refine And.intro ?_ ?_))
  all_goals (try refine Done.mk ?_)
  all_goals first | exact hbel | exact ⟨rfl, hbel⟩
end Go.Proofs.YtbdacbcpniegiaaDoor
namespace Go.Proofs.YtbdacbcpniegiaaDoor
open Go Go.RowKit Go.Proofs Go.Sx
set_option maxHeartbeats 4000000
set_option maxRecDepth 100000
set_option linter.unusedSimpArgs false
set_option linter.unusedVariables false
theorem rOrder_any (a b : Int) (s t : List UInt8) (w : World) : Calls Tryd.prog 95 #[.agg #[.int .i64 a, .string (B s)], .agg #[.int .i64 b, .string (B t)]] w fun e w' => e = .returned (.int .i64 (cmpKey a s b t)) ∧ Below w.heap.size w w' := by
  refine calls_pureK (args := [.agg #[.int .i64 a, .string (B s)], .agg #[.int .i64 b, .string (B t)]]) w Tryd.func95 rfl Tryd.ntmps95 (by simp) ?_
  intro X K hX hK
  have hnt : X.nt = 29 := by rw [hX]
  have hwi : X.wi = w := by rw [hX]
  have hP : X.P = Tryd.prog := by rw [hX]
  have hown : X.own = [] := by rw [hX]
  have hbl : X.base.length = 0 := by rw [hX]; rfl
  clear hX
  have hT : aggOf X.P 26 = some true ∧ szOf X.P 26 = some 2 ∧ fieldOff X.P 26 0 = some 0 ∧ aggOf X.P 3 = some false ∧ szOf X.P 3 = some 1 ∧ fieldOff X.P 26 1 = some 1 ∧ aggOf X.P 9 = some false ∧ szOf X.P 9 = some 1 := by rw [hP]; exact ⟨Ty.ag26, Ty.sz26, Ty.fo26_0, Ty.ag3, Ty.sz3, Ty.fo26_1, Ty.ag9, Ty.sz9⟩
  repeat' (first
    | (refine SX.seqK ?_; intro N hN)
    | ((first | (refine SX.ops ?_)); simp only [GA, ↓GB, List.filterMap_cons, eq_self, BEq.rfl, simprocAttr, hnt, hT, hnt])
    | ((first | refine SX.skip ?_ | refine SX.exit ?_ | refine SX.label ?_); try simp only [GA, ↓GB, List.filterMap_cons, eq_self, BEq.rfl, simprocAttr])
    | (refine SX.cond rfl (fun hb => ?_) (fun hb => ?_) <;> ((first | cases hb | (simp only [decide_eq_true_eq, decide_eq_false_iff_not, beq_iff_eq, beq_eq_false_iff_ne, bne_iff_ne, Bool.and_eq_true, Bool.or_eq_true, Bool.not_eq_true', Bool.not_eq_false', Bool.and_eq_false_iff, Bool.or_eq_false_iff, Int.not_lt, Int.not_le] at hb) | skip) <;> (first | (exfalso; omega) | skip)))
    | (refine SX.ret ?_; try simp only [GA, ↓GB, List.filterMap_cons, eq_self, BEq.rfl, simprocAttr])
    | (refine hN _ ?_; clear hN N)
    | (refine hK _ _ (Fin.res rfl hown ?_); simp only [GA, ↓GB, List.filterMap_cons, eq_self, BEq.rfl, simprocAttr, f_a, f_b, f_n, f_c, f_B, f_v, f_g, f_0, f_1, f_2, hT, hwi, hnt]; intro w' hbel; refine Done.out ?_)
    | (clear hN N; first | (refine hN _ ?_; clear hN N) | (clear hN N; first | (refine hN _ ?_; clear hN N) | (clear hN N; first | (refine hN _ ?_; clear hN N) | (clear hN N; first | (refine hN _ ?_; clear hN N) | (clear hN N; first | (refine hN _ ?_; clear hN N) | (refine hN _ ?_; clear hN N))))))
    | (refine bif2.mk (fun hb => ?_) (fun hb => ?_) <;> (try simp only [hb, GA, ↓GB, List.filterMap_cons, eq_self, BEq.rfl, simprocAttr, hnt, hT, hnt]) <;> ((first | cases hb | (simp only [decide_eq_true_eq, decide_eq_false_iff_not, beq_iff_eq, beq_eq_false_iff_ne, bne_iff_ne, Bool.and_eq_true, Bool.or_eq_true, Bool.not_eq_true', Bool.not_eq_false', Bool.and_eq_false_iff, Bool.or_eq_false_iff, Int.not_lt, Int.not_le] at hb) | skip) <;> (first | (exfalso; omega) | skip)))
    | (refine ⟨_, strEq_to hP (Ty.eqS26 _ _ _ _), ?_⟩ <;> (try simp only [GA, ↓GB, List.filterMap_cons, eq_self, BEq.rfl, simprocAttr, hnt, hT]))
    | (refine SX.block ?_)
    | (refine and_mk ?_ ?_; (focus first | decide | omega | rfl | assumption | (simp only [List.length_append, List.length_cons, List.length_nil, B_size]; omega) | (simp; done)))
    | (refine And.intro ?_ ?_))
  all_goals (try refine Done.mk ?_)
  · obtain ⟨rfl, rfl⟩ := hb
    exact ⟨by simp [cmpKey, cmpI_eq.2 rfl, cmpS_eq.2 rfl], hbel⟩
  · rename_i h0
    exact ⟨by simp [cmpKey, cmpI, hb], hbel⟩
  · rename_i h0 h1 h2
    subst h2
    exact ⟨by simp [cmpKey, cmpI_eq.2 rfl, cmpS, hb], hbel⟩
  · rename_i h0 h1 h2
    subst h2
    have hn : ¬ cmpS s t = 0 := fun e => by
      have := cmpS_eq.1 e
      rcases h0 with h0 | h0 <;> contradiction
    have : cmpS s t = 1 := by
      unfold cmpS at hn ⊢
      rw [hb] at hn ⊢
      simp only [Bool.false_eq_true, if_false] at hn ⊢
      split
      · rfl
      · rename_i h3; rw [if_neg h3] at hn; exact absurd rfl hn
    exact ⟨by simp [cmpKey, cmpI_eq.2 rfl, this], hbel⟩
  · rename_i h0 h1
    have : cmpI a b = 1 := by unfold cmpI; rw [if_neg (by omega), if_pos (by omega)]
    exact ⟨by simp [cmpKey, this], hbel⟩
theorem dropWhile_nil {p : UInt8 → Bool} : ∀ {l : List UInt8}, l.dropWhile p = [] ↔ ∀ c ∈ l, p c = true
  | [] => by simp
  | a :: l => by
    rw [List.dropWhile_cons]
    cases h : p a with
    | true => simp [h, dropWhile_nil (l := l)]
    | false => simp [h]
theorem trimS_nil {s cs : List UInt8} : Lib.trimS s cs = [] ↔ ∀ c ∈ s, cs.contains c = true := by
  rw [show Lib.trimS s cs = ((s.reverse.dropWhile (cs.contains ·)).reverse.dropWhile (cs.contains ·)) from rfl, dropWhile_nil]
  constructor
  · intro h
    have hd := List.head?_dropWhile_not (cs.contains ·) s.reverse
    cases e : s.reverse.dropWhile (cs.contains ·) with
    | nil =>
      have := dropWhile_nil.1 e
      intro c hc
      exact this c (List.mem_reverse.2 hc)
    | cons a r =>
      rw [e] at hd h
      have := h a (by simp)
      simp only [List.head?_cons] at hd
      rw [this] at hd; cases hd
  · intro h x hx
    rw [List.mem_reverse] at hx
    exact h x (List.mem_reverse.1 ((List.dropWhile_sublist _).subset hx))
def okC (c : UInt8) : Bool := (decide (97 ≤ (c.toNat : Int)) && decide ((c.toNat : Int) ≤ 122)) || (decide (48 ≤ (c.toNat : Int)) && decide ((c.toNat : Int) ≤ 57)) || decide ((c.toNat : Int) = 45) || decide ((c.toNat : Int) = 46) || decide ((c.toNat : Int) = 47)
theorem okC_eq (c : UInt8) : nameCs.contains c = okC c := by
  have := (by decide : ∀ x : Fin 256, nameCs.contains (UInt8.ofNat x.val) = okC (UInt8.ofNat x.val)) ⟨c.toNat, UInt8.toNat_lt c⟩
  simpa using this
theorem nameB_all {s : List UInt8} (h : ∀ j, j < s.length → okC (s.getD j 0) = true) : nameB s = (!(s == []) && decide ((s.length : Int) ≤ 64)) := by
  have : Lib.trimS s nameCs = [] := trimS_nil.2 fun c hc => by
    obtain ⟨j, hj, rfl⟩ := List.getElem_of_mem hc
    have := h j hj
    rw [okC_eq]
    rwa [List.getD_eq_getElem?_getD, List.getElem?_eq_getElem hj] at this
  unfold nameB
  rw [this]; simp
theorem nameB_bad {s : List UInt8} {j : Nat} (hj : j < s.length) (h : okC (s.getD j 0) = false) : nameB s = false := by
  have : ¬ Lib.trimS s nameCs = [] := fun e => by
    have := trimS_nil.1 e (s.getD j 0) (by rw [List.getD_eq_getElem?_getD, List.getElem?_eq_getElem hj]; exact List.getElem_mem hj)
    rw [okC_eq, h] at this; cases this
  unfold nameB
  have e : (Lib.trimS s nameCs == []) = false := by
    rw [Bool.eq_false_iff]; intro h; exact this (by simpa using h)
  rw [e]; simp
theorem rName_any (s : List UInt8) (hs : s.length ≤ 9223372036854775807) (w : World) : Calls Tryd.prog 137 #[.string (B s)] w fun e w' => e = .returned (.bool (nameB s)) ∧ Below w.heap.size w w' := by
  refine calls_pureK (args := [.string (B s)]) w Tryd.func137 rfl Tryd.ntmps137 (by simp) ?_
  intro X K hX hK
  have hnt : X.nt = 49 := by rw [hX]
  have hwi : X.wi = w := by rw [hX]
  have hP : X.P = Tryd.prog := by rw [hX]
  have hown : X.own = [] := by rw [hX]
  have hbl : X.base.length = 0 := by rw [hX]; rfl
  clear hX
  have hT : X.P.underlying 9 = some TypeDesc.string ∧ isStrT X.P 9 = true := by rw [hP]; exact ⟨Tryd.underlying9, Ty.is9⟩
  repeat' (first
    | (refine SX.seqK ?_; intro N hN)
    | ((first | (refine SX.ops ?_)); simp only [GA, ↓GB, List.filterMap_cons, eq_self, BEq.rfl, simprocAttr, hnt, hT, hnt])
    | ((first | refine SX.skip ?_ | refine SX.exit ?_ | refine SX.label ?_); try simp only [GA, ↓GB, List.filterMap_cons, eq_self, BEq.rfl, simprocAttr])
    | (refine SX.cond rfl (fun hb => ?_) (fun hb => ?_) <;> ((first | cases hb | (simp only [decide_eq_true_eq, decide_eq_false_iff_not, beq_iff_eq, beq_eq_false_iff_ne, bne_iff_ne, Bool.and_eq_true, Bool.or_eq_true, Bool.not_eq_true', Bool.not_eq_false', Bool.and_eq_false_iff, Bool.or_eq_false_iff, Int.not_lt, Int.not_le] at hb) | skip) <;> (first | (exfalso; omega) | skip)))
    | (refine SX.ret ?_; try simp only [GA, ↓GB, List.filterMap_cons, eq_self, BEq.rfl, simprocAttr])
    | (refine hN _ ?_; clear hN N)
    | (refine hK _ _ (Fin.res rfl hown ?_); simp only [GA, ↓GB, List.filterMap_cons, eq_self, BEq.rfl, simprocAttr, f_a, f_b, f_n, f_c, f_B, f_v, f_g, f_0, f_1, f_2, hT, hwi, hnt]; intro w' hbel; refine Done.out ?_)
    | (clear hN N; first | (refine hN _ ?_; clear hN N) | (clear hN N; first | (refine hN _ ?_; clear hN N) | (clear hN N; first | (refine hN _ ?_; clear hN N) | (clear hN N; first | (refine hN _ ?_; clear hN N) | (clear hN N; first | (refine hN _ ?_; clear hN N) | (refine hN _ ?_; clear hN N))))))
    | (refine bif2.mk (fun hb => ?_) (fun hb => ?_) <;> (try simp only [hb, GA, ↓GB, List.filterMap_cons, eq_self, BEq.rfl, simprocAttr, hnt, hT, hnt]) <;> ((first | cases hb | (simp only [decide_eq_true_eq, decide_eq_false_iff_not, beq_iff_eq, beq_eq_false_iff_ne, bne_iff_ne, Bool.and_eq_true, Bool.or_eq_true, Bool.not_eq_true', Bool.not_eq_false', Bool.and_eq_false_iff, Bool.or_eq_false_iff, Int.not_lt, Int.not_le] at hb) | skip) <;> (first | (exfalso; omega) | skip)))
    | (refine SX.loop (ι := { i : Nat // i ≤ s.length ∧ ∀ j, j < i → okC (s.getD j 0) = true }) (fun i => ⟨[(0, vv (.string (B s))), (3, vv (.int .i64 i.1))], []⟩) (fun i => s.length - i.1) ⟨0, Nat.zero_le _, fun j hj => absurd hj (Nat.not_lt_zero j)⟩ ⟨[], (LeR.of (by rw [hbl]; decide) (by simp only [GA, ↓GB, List.filterMap_cons, eq_self, BEq.rfl, simprocAttr, List.getD_cons_zero, List.getD_cons_succ, or_false, false_or, or_self, or_true, true_or, decide_true]; try (rfl)) (by simp only [GA, ↓GB, List.filterMap_cons, eq_self, BEq.rfl, simprocAttr, List.getD_cons_zero, List.getD_cons_succ, or_false, false_or, or_self, or_true, true_or, decide_true]; try (rfl)) (by decide) (by simp only [GA, ↓GB, List.filterMap_cons, eq_self, BEq.rfl, simprocAttr, List.getD_cons_zero, List.getD_cons_succ, or_false, false_or, or_self, or_true, true_or, decide_true]) (by simp only [GA, ↓GB, List.filterMap_cons, eq_self, BEq.rfl, simprocAttr, List.getD_cons_zero, List.getD_cons_succ, or_false, false_or, or_self, or_true, true_or, decide_true]) (by simp only [GA, ↓GB, List.filterMap_cons, eq_self, BEq.rfl, simprocAttr, List.getD_cons_zero, List.getD_cons_succ, or_false, false_or, or_self, or_true, true_or, decide_true]))⟩ ?_ <;> rintro ⟨i, hi, hno⟩ <;> simp only [] at hi hno ⊢)
    | (refine SX.block ?_)
    | (refine and_mk ?_ ?_; (focus first | decide | omega | rfl | assumption | (simp only [List.length_append, List.length_cons, List.length_nil, B_size]; omega) | (simp; done)))
    | (refine And.intro ?_ ?_))
  all_goals (try refine Done.mk ?_)
  all_goals first
    | exact ⟨by rw [nameB_bad (j := i) (by omega) (by unfold okC; simp only [Bool.or_eq_false_iff, Bool.and_eq_false_iff, decide_eq_false_iff_not]; omega)], hbel⟩
    | (refine ⟨⟨i + 1, by omega, fun j hj => ?_⟩, [], (LeR.of (by rw [hbl]; decide) (by simp only [GA, ↓GB, List.filterMap_cons, eq_self, BEq.rfl, simprocAttr, List.getD_cons_zero, List.getD_cons_succ, or_false, false_or, or_self, or_true, true_or, decide_true]; try (first | (rw [wI64 (by omega) (by omega)]; rfl) | rfl)) (by simp only [GA, ↓GB, List.filterMap_cons, eq_self, BEq.rfl, simprocAttr, List.getD_cons_zero, List.getD_cons_succ, or_false, false_or, or_self, or_true, true_or, decide_true]; try (first | (rw [wI64 (by omega) (by omega)]; rfl) | rfl)) (by decide) (by simp only [GA, ↓GB, List.filterMap_cons, eq_self, BEq.rfl, simprocAttr, List.getD_cons_zero, List.getD_cons_succ, or_false, false_or, or_self, or_true, true_or, decide_true]) (by simp only [GA, ↓GB, List.filterMap_cons, eq_self, BEq.rfl, simprocAttr, List.getD_cons_zero, List.getD_cons_succ, or_false, false_or, or_self, or_true, true_or, decide_true]) (by simp only [GA, ↓GB, List.filterMap_cons, eq_self, BEq.rfl, simprocAttr, List.getD_cons_zero, List.getD_cons_succ, or_false, false_or, or_self, or_true, true_or, decide_true])), by show s.length - (i + 1) < s.length - i; omega⟩
       rcases Nat.lt_or_eq_of_le (Nat.le_of_lt_succ hj) with h | h
       · exact hno j h
       · subst h; unfold okC; simp only [Bool.or_eq_true, Bool.and_eq_true, decide_eq_true_eq]; omega)
    | (obtain rfl : i = s.length := by omega
       refine ⟨?_, hbel⟩
       rw [nameB_all hno]
       cases s <;> simp_all <;> omega)
    | trace_state
theorem rKey_any (t : Int) (s : List UInt8) (hs : s.length ≤ 9223372036854775807) (w : World) : Calls Tryd.prog 94 #[.agg #[.int .i64 t, .string (B s)]] w fun e w' => e = .returned (.bool (keyB t s)) ∧ Below w.heap.size w w' := by
  refine calls_pureK (args := [.agg #[.int .i64 t, .string (B s)]]) w Tryd.func94 rfl Tryd.ntmps94 (by simp) ?_
  intro X K hX hK
  have hnt : X.nt = 23 := by rw [hX]
  have hwi : X.wi = w := by rw [hX]
  have hP : X.P = Tryd.prog := by rw [hX]
  have hown : X.own = [] := by rw [hX]
  have hbl : X.base.length = 0 := by rw [hX]; rfl
  clear hX
  have hT : fieldOff X.P 26 1 = some 1 ∧ aggOf X.P 9 = some false ∧ szOf X.P 9 = some 1 ∧ calleeOk X.P 137 = true ∧ fieldOff X.P 26 0 = some 0 ∧ aggOf X.P 3 = some false ∧ szOf X.P 3 = some 1 := by rw [hP]; exact ⟨Ty.fo26_1, Ty.ag9, Ty.sz9, Ty.co137, Ty.fo26_0, Ty.ag3, Ty.sz3⟩
  repeat' (first
    | (refine SX.seqK ?_; intro N hN)
    | ((first | (refine SX.ops ?_)); simp only [GA, ↓GB, List.filterMap_cons, eq_self, BEq.rfl, simprocAttr, hnt, hT])
    | ((first | refine SX.skip ?_ | refine SX.exit ?_ | refine SX.label ?_); try simp only [GA, ↓GB, List.filterMap_cons, eq_self, BEq.rfl, simprocAttr])
    | (refine SX.cond rfl (fun hb => ?_) (fun hb => ?_) <;> ((first | cases hb | (simp only [decide_eq_true_eq, decide_eq_false_iff_not, beq_iff_eq, beq_eq_false_iff_ne, bne_iff_ne, Bool.and_eq_true, Bool.or_eq_true, Bool.not_eq_true', Bool.not_eq_false', Bool.and_eq_false_iff, Bool.or_eq_false_iff, Int.not_lt, Int.not_le] at hb) | skip) <;> (first | (exfalso; omega) | skip)))
    | (refine SX.ret ?_; try simp only [GA, ↓GB, List.filterMap_cons, eq_self, BEq.rfl, simprocAttr])
    | (refine hN _ ?_; clear hN N)
    | (refine hK _ _ (Fin.res rfl hown ?_); simp only [GA, ↓GB, List.filterMap_cons, eq_self, BEq.rfl, simprocAttr, f_a, f_b, f_n, f_c, f_B, f_v, f_g, f_0, f_1, f_2, hT, hwi]; intro w' hbel; refine Done.out ?_)
    | (clear hN N; first | (refine hN _ ?_; clear hN N) | (clear hN N; first | (refine hN _ ?_; clear hN N) | (clear hN N; first | (refine hN _ ?_; clear hN N) | (clear hN N; first | (refine hN _ ?_; clear hN N) | (clear hN N; first | (refine hN _ ?_; clear hN N) | (refine hN _ ?_; clear hN N))))))
    | (refine bif2.mk (fun hb => ?_) (fun hb => ?_) <;> (try simp only [hb, GA, ↓GB, List.filterMap_cons, eq_self, BEq.rfl, simprocAttr, hnt, hT]) <;> ((first | cases hb | (simp only [decide_eq_true_eq, decide_eq_false_iff_not, beq_iff_eq, beq_eq_false_iff_ne, bne_iff_ne, Bool.and_eq_true, Bool.or_eq_true, Bool.not_eq_true', Bool.not_eq_false', Bool.and_eq_false_iff, Bool.or_eq_false_iff, Int.not_lt, Int.not_le] at hb) | skip) <;> (first | (exfalso; omega) | skip)))
    | ((first | (refine CallVC.pv hP (rName_any _ hs) rfl ?_) | (refine CallQ.pv hP (rName_any _ hs) rfl ?_)); simp only [GA, ↓GB, List.filterMap_cons, eq_self, BEq.rfl, simprocAttr, hnt, hT])
    | (refine SX.block ?_)
    | (refine and_mk ?_ ?_; (focus first | decide | omega | rfl | assumption | (simp only [List.length_append, List.length_cons, List.length_nil, B_size]; omega) | (simp; done)))
    | (refine And.intro ?_ ?_))
  all_goals (try refine Done.mk ?_)
  all_goals (refine ⟨?_, hbel⟩; simp_all [keyB] <;> (intros; omega))
theorem rRight_any (t : Int) (s : List UInt8) (q : Int) (ok : Bool) (d : List UInt8) (hs : s.length ≤ 9223372036854775807) (w : World) :
    Calls Tryd.prog 134 #[.agg #[.int .i64 t, .string (B s), .int .u64 q, .bool ok, .string (B d)]] w fun e w' => e = .returned (.bool (statusB t s q ok d)) ∧ Below w.heap.size w w' := by
  refine calls_pureK (args := [.agg #[.int .i64 t, .string (B s), .int .u64 q, .bool ok, .string (B d)]]) w Tryd.func134 rfl Tryd.ntmps134 (by simp) ?_
  intro X K hX hK
  have hnt : X.nt = 35 := by rw [hX]
  have hwi : X.wi = w := by rw [hX]
  have hP : X.P = Tryd.prog := by rw [hX]
  have hown : X.own = [] := by rw [hX]
  have hbl : X.base.length = 0 := by rw [hX]; rfl
  clear hX
  have hT : fieldOff X.P 72 0 = some 0 ∧ aggOf X.P 26 = some true ∧ szOf X.P 26 = some 2 ∧ calleeOk X.P 94 = true ∧ fieldOff X.P 26 1 = some 1 ∧ aggOf X.P 9 = some false ∧ szOf X.P 9 = some 1 ∧ fieldOff X.P 72 1 = some 2 ∧ aggOf X.P 22 = some false ∧ szOf X.P 22 = some 1 ∧ fieldOff X.P 72 3 = some 4 ∧ X.P.underlying 9 = some TypeDesc.string ∧ fieldOff X.P 72 2 = some 3 ∧ aggOf X.P 4 = some false ∧ szOf X.P 4 = some 1 := by rw [hP]; exact ⟨Ty.fo72_0, Ty.ag26, Ty.sz26, Ty.co94, Ty.fo26_1, Ty.ag9, Ty.sz9, Ty.fo72_1, Ty.ag22, Ty.sz22, Ty.fo72_3, Tryd.underlying9, Ty.fo72_2, Ty.ag4, Ty.sz4⟩
  repeat' (first
    | (refine SX.seqK ?_; intro N hN)
    | ((first | (refine SX.ops ?_)); simp only [GA, ↓GB, List.filterMap_cons, eq_self, BEq.rfl, simprocAttr, hnt, hT])
    | ((first | refine SX.skip ?_ | refine SX.exit ?_ | refine SX.label ?_); try simp only [GA, ↓GB, List.filterMap_cons, eq_self, BEq.rfl, simprocAttr])
    | (refine SX.cond rfl (fun hb => ?_) (fun hb => ?_) <;> ((first | cases hb | (simp only [decide_eq_true_eq, decide_eq_false_iff_not, beq_iff_eq, beq_eq_false_iff_ne, bne_iff_ne, Bool.and_eq_true, Bool.or_eq_true, Bool.not_eq_true', Bool.not_eq_false', Bool.and_eq_false_iff, Bool.or_eq_false_iff, Int.not_lt, Int.not_le] at hb) | skip) <;> (first | (exfalso; omega) | skip)))
    | (refine SX.ret ?_; try simp only [GA, ↓GB, List.filterMap_cons, eq_self, BEq.rfl, simprocAttr])
    | (refine hN _ ?_; clear hN N)
    | (refine hK _ _ (Fin.res rfl hown ?_); simp only [GA, ↓GB, List.filterMap_cons, eq_self, BEq.rfl, simprocAttr, f_a, f_b, f_n, f_c, f_B, f_v, f_g, f_0, f_1, f_2, hT, hwi]; intro w' hbel; refine Done.out ?_)
    | (clear hN N; first | (refine hN _ ?_; clear hN N) | (clear hN N; first | (refine hN _ ?_; clear hN N) | (clear hN N; first | (refine hN _ ?_; clear hN N) | (clear hN N; first | (refine hN _ ?_; clear hN N) | (clear hN N; first | (refine hN _ ?_; clear hN N) | (refine hN _ ?_; clear hN N))))))
    | (refine bif2.mk (fun hb => ?_) (fun hb => ?_) <;> (try simp only [hb, GA, ↓GB, List.filterMap_cons, eq_self, BEq.rfl, simprocAttr, hnt, hT]) <;> ((first | cases hb | (simp only [decide_eq_true_eq, decide_eq_false_iff_not, beq_iff_eq, beq_eq_false_iff_ne, bne_iff_ne, Bool.and_eq_true, Bool.or_eq_true, Bool.not_eq_true', Bool.not_eq_false', Bool.and_eq_false_iff, Bool.or_eq_false_iff, Int.not_lt, Int.not_le] at hb) | skip) <;> (first | (exfalso; omega) | skip)))
    | ((first | (refine CallVC.pv hP (rKey_any _ _ hs) rfl ?_) | (refine CallQ.pv hP (rKey_any _ _ hs) rfl ?_)); simp only [GA, ↓GB, List.filterMap_cons, eq_self, BEq.rfl, simprocAttr, hnt, hT])
    | (refine SX.block ?_)
    | (refine and_mk ?_ ?_; (focus first | decide | omega | rfl | assumption | (simp only [List.length_append, List.length_cons, List.length_nil, B_size]; omega) | (simp; done)))
    | (refine And.intro ?_ ?_))
  all_goals (try refine Done.mk ?_)
  all_goals (refine ⟨?_, hbel⟩; simp_all [statusB] <;> (intros; omega))
end Go.Proofs.YtbdacbcpniegiaaDoor
namespace Go.Proofs.YtbdacbcpniegiaaDoor
open Go Go.RowKit Go.Proofs Go.Sx
set_option linter.unusedSimpArgs false
set_option linter.unusedVariables false
set_option maxRecDepth 100000
def rng (n : Nat) : List Mk := (List.range n).map fun (j : Nat) => ⟨2, [107], ((j + 1 : Nat) : Int), 1, []⟩
def tkn (n m : Nat) : List Mk := (noteL (rng n) 2 [107] m true []).1
def wantE (n e : Nat) : Int := if e = 0 then 1 else if e ≤ n then 6 else 0
theorem rng_ok : ∀ i : Nat, i < 10 → beginL (rng i) 2 [107] ((i + 1 : Nat) : Int) = (rng (i + 1), 0) := by decide +kernel
theorem ers_ok : ∀ n : Nat, n < 11 → ∀ m : Nat, m < n + 1 → ∀ e : Nat, e < 20 → (beginL (tkn n m) 2 [107] (e : Int)).2 = wantE n e ∧ (eraseL (beginL (tkn n m) 2 [107] (e : Int)).1).length = m := by decide +kernel
theorem rng_inv : ∀ i, i ≤ 10 → Inv (rng i)
  | 0, _ => Inv.nil
  | i + 1, h => by
    have := (rng_inv i (by omega)).begin 2 [107] ((i + 1 : Nat) : Int)
    rw [rng_ok i (by omega)] at this
    exact this
theorem star_bad (ms : List Mk) : beginL ms 2 [42] 5 = (ms, 1) := by simp [beginL, badB]
end Go.Proofs.YtbdacbcpniegiaaDoor
namespace Go.Proofs.YtbdacbcpniegiaaDoor
open Go Go.RowKit Go.Proofs Go.Sx
set_option linter.unusedSimpArgs false
set_option linter.unusedVariables false
set_option maxRecDepth 100000
theorem find_of_mem {ms : List Mk} (h : Srt ms) {x : Mk} (hx : x ∈ ms) {t : Int} {s : List UInt8} {q : Int} (hk : x.t = t ∧ x.s = s ∧ x.q = q) : ms.find? (kk t s q) = some x := by
  cases hf : ms.find? (kk t s q) with
  | none =>
    rw [List.find?_eq_none] at hf
    exact absurd (kk_iff.2 hk) (hf x hx)
  | some y =>
    have h1 := kk_iff.1 (List.find?_some hf)
    have := h.uniq (List.mem_of_find?_eq_some hf) hx (by rw [cmpM_eq]; exact ⟨h1.1.trans hk.1.symm, h1.2.1.trans hk.2.1.symm, h1.2.2.trans hk.2.2.symm⟩)
    rw [this]
def lst (n : Nat) (f : Nat → Int × List UInt8) : List Mk := (List.range n).map fun (j : Nat) => ⟨4, [107], ((2 * (j + 1) : Nat) : Int), (f (j + 1)).1, (f (j + 1)).2⟩
theorem lst_len (n : Nat) (f : Nat → Int × List UInt8) : (lst n f).length = n := by simp [lst]
theorem lst_mem {n : Nat} {f : Nat → Int × List UInt8} {x : Mk} : x ∈ lst n f ↔ ∃ j, j < n ∧ x = ⟨4, [107], ((2 * (j + 1) : Nat) : Int), (f (j + 1)).1, (f (j + 1)).2⟩ := by
  simp only [lst, List.mem_map, List.mem_range]
  constructor
  · rintro ⟨j, hj, e⟩; exact ⟨j, hj, e.symm⟩
  · rintro ⟨j, hj, e⟩; exact ⟨j, hj, e.symm⟩
theorem lst_srt (n : Nat) (f : Nat → Int × List UInt8) : Srt (lst n f) := by
  rw [Srt, lst, List.pairwise_map]
  refine List.pairwise_lt_range.imp fun {a b} hab => ?_
  rw [cmpM_lt]
  refine .inr ⟨rfl, .inr ⟨rfl, ?_⟩⟩
  show ((2 * (a + 1) : Nat) : Int) < ((2 * (b + 1) : Nat) : Int)
  omega
theorem lst_inv {n : Nat} (hn : n ≤ 10) (f : Nat → Int × List UInt8) : Inv (lst n f) := ⟨lst_srt n f, by rw [lst_len]; omega⟩
def pend (_ : Nat) : Int × List UInt8 := (1, [])
theorem lst_begin : ∀ i : Nat, i < 10 → beginL (lst i pend) 4 [107] ((2 * (i + 1) : Nat) : Int) = (lst (i + 1) pend, 0) := by decide +kernel
theorem lst_find {n : Nat} (f : Nat → Int × List UInt8) {j : Nat} (h1 : 1 ≤ j) (h2 : j ≤ n) : (lst n f).find? (kk 4 [107] ((2 * j : Nat) : Int)) = some ⟨4, [107], ((2 * j : Nat) : Int), (f j).1, (f j).2⟩ := by
  obtain ⟨i, rfl⟩ : ∃ i, j = i + 1 := ⟨j - 1, by omega⟩
  exact find_of_mem (lst_srt n f) (lst_mem.2 ⟨i, by omega, rfl⟩) ⟨rfl, rfl, rfl⟩
theorem lst_state {n : Nat} (hn : n ≤ 10) (f : Nat → Int × List UInt8) {j : Nat} (h1 : 1 ≤ j) (h2 : j ≤ n) : stateL (lst n f) 4 [107] ((2 * j : Nat) : Int) = f j := by
  rw [stateL_eq (lst_inv hn f), lst_find f h1 h2]
theorem lst_odd {n : Nat} (f : Nat → Int × List UInt8) (j : Nat) : (lst n f).find? (kk 4 [107] ((2 * j + 1 : Nat) : Int)) = none := by
  rw [List.find?_eq_none]
  intro x hx hk
  obtain ⟨i, hi, rfl⟩ := lst_mem.1 hx
  have := (kk_iff.1 hk).2.2
  simp only [] at this
  omega
theorem status4 {q : Int} {ok : Bool} {d : List UInt8} (hq : 0 < q) (hd : d.length ≤ 256) (ho : ok = true → d = []) : statusB 4 [107] q ok d = true := by
  have hk : keyB 4 [107] = true := by decide +kernel
  simp only [statusB, hk, Bool.true_and, Bool.and_eq_true, decide_eq_true_eq, Bool.or_eq_true, Bool.not_eq_true', beq_iff_eq]
  refine ⟨⟨⟨rfl, hq⟩, by omega⟩, ?_⟩
  cases ok with
  | true => exact .inr (ho rfl)
  | false => exact .inl rfl
theorem lst_none {n : Nat} (hn : n ≤ 10) (f : Nat → Int × List UInt8) (j : Nat) : noteL (lst n f) 4 [107] (2 * j + 1) true [] = (lst n f, 5) := by
  rw [noteL_eq (lst_inv hn f), status4 (by omega) (by simp) (fun _ => rfl), lst_odd]
  rfl
def upd (a : Nat) (ok : Bool) (d : List UInt8) (f : Nat → Int × List UInt8) (j : Nat) : Int × List UInt8 :=
  if (f j).1 = 1 then (if ok then (if j ≤ a then (2, (f j).2) else f j) else if j = a then (3, d) else f j) else f j
theorem lst_note {n : Nat} (hn : n ≤ 10) (f : Nat → Int × List UInt8) {a : Nat} (h1 : 1 ≤ a) (h2 : a ≤ n) (ok : Bool) (d : List UInt8) (hd : d.length ≤ 256) (ho : ok = true → d = []) :
    noteL (lst n f) 4 [107] (2 * a) ok d = (lst n (upd a ok d f), 0) := by
  rw [noteL_eq (lst_inv hn f), status4 (by omega) hd ho, lst_find f h1 h2]
  cases ok with
  | true =>
    simp only [Bool.not_true, Bool.false_eq_true, if_false, if_true, Prod.mk.injEq, and_true]
    rw [lst, lst, List.map_map]
    refine List.map_congr_left fun j hj => ?_
    simp only [Function.comp, tkM, isTk, upd, beq_self_eq_true, Bool.true_and, if_true, Bool.and_eq_true, decide_eq_true_eq, beq_iff_eq]
    by_cases e1 : (f (j + 1)).1 = 1
    · by_cases e2 : j + 1 ≤ a
      · have : ((2 * (j + 1) : Nat) : Int) ≤ ((2 * a : Nat) : Int) := by omega
        simp [e1, e2, this] <;> omega
      · have : ¬ ((2 * (j + 1) : Nat) : Int) ≤ ((2 * a : Nat) : Int) := by omega
        simp [e1, e2, this] <;> omega
    · simp [e1]
  | false =>
    simp only [Bool.not_true, Bool.false_eq_true, if_false]
    by_cases e : (f a).1 = 1
    · simp only [e, if_true, Prod.mk.injEq, and_true]
      rw [lst, lst, List.map_map]
      refine List.map_congr_left fun j hj => ?_
      simp only [Function.comp, rfM, kk, upd, beq_self_eq_true, Bool.true_and, Bool.and_eq_true, beq_iff_eq, Bool.false_eq_true, if_false]
      by_cases e2 : j + 1 = a
      · subst e2; simp [e]
      · have : ((2 * (j + 1) : Nat) : Int) ≠ ((2 * a : Nat) : Int) := by omega
        simp only [this, e2, if_false]
        split <;> rfl
    · simp only [e, if_false, Prod.mk.injEq, and_true]
      rw [lst, lst]
      refine List.map_congr_left fun j hj => ?_
      simp only [upd, Bool.false_eq_true, if_false]
      by_cases e2 : j + 1 = a
      · subst e2; simp [e]
      · simp only [e2, if_false, ite_self]
end Go.Proofs.YtbdacbcpniegiaaDoor
namespace Go.Proofs.YtbdacbcpniegiaaDoor
open Go Go.RowKit Go.Proofs Go.Sx
set_option linter.unusedSimpArgs false
set_option linter.unusedVariables false
set_option maxRecDepth 100000
structure Keys (ms : List Mk) (q : Nat → Nat) : Prop where
  inv : Inv ms
  all : ∀ x ∈ ms, ∃ k, k < 3 ∧ x.t = ((1 + k : Nat) : Int) ∧ x.s = [107] ∧ x.st = 1 ∧ 1 ≤ x.q ∧ x.q ≤ (q k : Int)
  last : ∀ k, k < 3 → 0 < q k → ∃ x ∈ ms, x.t = ((1 + k : Nat) : Int) ∧ x.s = [107] ∧ x.q = (q k : Int)
theorem Keys.nil : Keys [] (fun _ => 0) := ⟨Inv.nil, fun x hx => (by cases hx), fun k _ h => absurd h (by decide)⟩
theorem key3 : ∀ k : Nat, k < 3 → keyB ((1 + k : Nat) : Int) [107] = true := by decide +kernel
def put (q : Nat → Nat) (k n : Nat) (j : Nat) : Nat := if j = k then n else q j
theorem Keys.begin {ms : List Mk} {q : Nat → Nat} (h : Keys ms q) (hl : ms.length < 1024) {k n : Nat} (hk : k < 3) (hn : q k < n) :
    ∃ ms', beginL ms ((1 + k : Nat) : Int) [107] (n : Int) = (ms', 0) ∧ ms'.length = ms.length + 1 ∧ Keys ms' (put q k n) := by
  have hb : badB ((1 + k : Nat) : Int) [107] (n : Int) = false := by
    simp only [badB, key3 k hk, Bool.not_true, Bool.false_or, Bool.or_eq_false_iff, beq_eq_false_iff_ne]
    exact ⟨by simp, by omega⟩
  have hlt : decide (0 ≤ idxI (isAt ((1 + k : Nat) : Int) [107] (n : Int)) ms) = false := by
    rw [← Bool.not_eq_true, late_iff]
    rintro ⟨x, hx, h1, h2, h3⟩
    obtain ⟨j, hj, e1, e2, e3, e4, e5⟩ := h.all x hx
    obtain rfl : j = k := by omega
    omega
  have e : beginL ms ((1 + k : Nat) : Int) [107] (n : Int) = (insM ms (newM ((1 + k : Nat) : Int) [107] n), 0) := by unfold beginL; rw [hb, hlt]; simp [hl]
  have hi := h.inv.begin ((1 + k : Nat) : Int) [107] n
  rw [e] at hi
  refine ⟨_, e, insM_len _ _, hi, fun x hx => ?_, fun j hj h0 => ?_⟩
  · rcases mem_insM.1 hx with rfl | hx
    · exact ⟨k, hk, rfl, rfl, rfl, by show (1 : Int) ≤ (n : Int); omega, by simp [put, newM]⟩
    · obtain ⟨j, hj, e1, e2, e3, e4, e5⟩ := h.all x hx
      refine ⟨j, hj, e1, e2, e3, e4, ?_⟩
      unfold put
      split
      · rename_i e; subst e; omega
      · exact e5
  · unfold put at h0 ⊢
    split
    · rename_i e; subst e
      exact ⟨_, mem_insM.2 (.inl rfl), rfl, rfl, rfl⟩
    · rename_i e
      rw [if_neg e] at h0
      obtain ⟨x, hx, h1⟩ := h.last j hj h0
      exact ⟨x, mem_insM.2 (.inr hx), h1⟩
structure KeysT (ms : List Mk) (w : Nat) : Prop where
  srt : Srt ms
  st : ∀ x ∈ ms, (x.st = 2 ↔ x.t = ((1 + w : Nat) : Int))
theorem Keys.note {ms : List Mk} {q : Nat → Nat} (h : Keys ms q) {w : Nat} (hw : w < 3) :
    ∃ ms' e, noteL ms ((1 + w : Nat) : Int) [107] (q w) true [] = (ms', e) ∧ ms'.length = ms.length ∧ Inv ms' ∧ KeysT ms' w := by
  by_cases h0 : q w = 0
  · have hs : statusB ((1 + w : Nat) : Int) [107] ((q w : Nat) : Int) true [] = false := by
      simp [statusB, h0]
    refine ⟨ms, 1, by rw [noteL_eq h.inv, hs]; rfl, rfl, h.inv, h.inv.srt, fun x hx => ?_⟩
    obtain ⟨j, hj, e1, e2, e3, e4, e5⟩ := h.all x hx
    constructor
    · intro e; omega
    · intro e
      obtain rfl : j = w := by omega
      omega
  · have hs : statusB ((1 + w : Nat) : Int) [107] ((q w : Nat) : Int) true [] = true := by
      simp only [statusB, key3 w hw, Bool.true_and, Bool.and_eq_true, decide_eq_true_eq, Bool.or_eq_true, Bool.not_eq_true', beq_iff_eq]
      exact ⟨⟨⟨rfl, by omega⟩, by simp⟩, .inr trivial⟩
    obtain ⟨x, hx, h1, h2, h3⟩ := h.last w hw (by omega)
    have e : noteL ms ((1 + w : Nat) : Int) [107] (q w) true [] = (ms.map (tkM ((1 + w : Nat) : Int) [107] (q w)), 0) := by
      rw [noteL_eq h.inv, hs, find_of_mem h.inv.srt hx ⟨h1, h2, h3⟩]; rfl
    have hi := h.inv.note ((1 + w : Nat) : Int) [107] (q w) true []
    rw [e] at hi
    refine ⟨_, 0, e, by simp, hi, hi.srt, fun y hy => ?_⟩
    obtain ⟨z, hz, rfl⟩ := List.mem_map.1 hy
    obtain ⟨j, hj, e1, e2, e3, e4, e5⟩ := h.all z hz
    by_cases ej : j = w
    · subst ej
      have : isTk ((1 + j : Nat) : Int) [107] (q j) z = true := by simp [isTk, e1, e2, e3, e5]
      rw [tkM, if_pos this]
      simp [e1]
    · have : isTk ((1 + w : Nat) : Int) [107] (q w) z = false := by
        simp only [isTk, Bool.and_eq_false_iff, beq_eq_false_iff_ne]
        exact .inl (.inl (.inl (by omega)))
      rw [tkM, this, if_neg (by simp)]
      constructor <;> intro <;> omega
theorem srt_next {ms : List Mk} (h : Srt ms) {i : Nat} (hi : i + 1 < ms.length) :
    (ms.getD i default).t ≤ (ms.getD (i + 1) default).t ∧ ((ms.getD i default).t = (ms.getD (i + 1) default).t → (ms.getD i default).s = (ms.getD (i + 1) default).s → (ms.getD i default).q < (ms.getD (i + 1) default).q) := by
  have := List.pairwise_iff_getElem.1 h i (i + 1) (by omega) hi (by omega)
  rw [List.getD_eq_getElem?_getD, List.getElem?_eq_getElem (by omega), List.getD_eq_getElem?_getD, List.getElem?_eq_getElem hi]
  rw [cmpM_lt] at this
  simp only [Option.getD_some]
  rcases this with h1 | ⟨h1, h2 | ⟨h2, h3⟩⟩
  · exact ⟨by omega, fun e => by omega⟩
  · refine ⟨by omega, fun _ e => ?_⟩
    rw [e, bytesLess_irrefl] at h2; cases h2
  · exact ⟨by omega, fun _ _ => h3⟩
end Go.Proofs.YtbdacbcpniegiaaDoor
namespace Go.Proofs.YtbdacbcpniegiaaDoor
open Go Go.RowKit Go.Proofs Go.Sx
set_option linter.unusedSimpArgs false
set_option linter.unusedVariables false
set_option maxRecDepth 100000
def nm3 (i : Nat) : List UInt8 := [UInt8.ofNat (97 + i % 26), UInt8.ofNat (97 + i / 26 % 26), UInt8.ofNat (97 + i / 676)]
theorem nm3_key : ∀ i : Nat, i < 1034 → keyB ((1 + i % 5 : Nat) : Int) (nm3 i) = true ∧ (nm3 i == [42]) = false := by decide +kernel
structure Room (ms : List Mk) (i : Nat) : Prop where
  inv : Inv ms
  len : ms.length = min i 1024
  le : ∀ x ∈ ms, ((i - 1024 : Nat) : Int) < x.q ∧ x.q ≤ (i : Int)
  uniq : ∀ x ∈ ms, ∀ y ∈ ms, x.q = y.q → x = y
  has : ∀ k : Nat, i - 1024 < k → k ≤ i → ∃ x ∈ ms, x.q = (k : Int)
theorem Room.nil : Room [] 0 := ⟨Inv.nil, rfl, fun x hx => (by cases hx), fun x hx => (by cases hx), fun k h1 h2 => by omega⟩
theorem Room.begin {ms : List Mk} {i : Nat} (h : Room ms i) (hi : i < 1033) :
    ∃ ms', beginL ms ((1 + (i + 1) % 5 : Nat) : Int) (nm3 (i + 1)) ((i + 1 : Nat) : Int) = (ms', 0) ∧ Room ms' (i + 1) := by
  obtain ⟨k1, k2⟩ := nm3_key (i + 1) (by omega)
  have hb : badB ((1 + (i + 1) % 5 : Nat) : Int) (nm3 (i + 1)) ((i + 1 : Nat) : Int) = false := by
    simp only [badB, k1, k2, Bool.not_true, Bool.false_or, beq_eq_false_iff_ne]
    omega
  have hlt : decide (0 ≤ idxI (isAt ((1 + (i + 1) % 5 : Nat) : Int) (nm3 (i + 1)) ((i + 1 : Nat) : Int)) ms) = false := by
    rw [← Bool.not_eq_true, late_iff]
    rintro ⟨x, hx, h1, h2, h3⟩
    have := h.le x hx
    omega
  have hv := h.inv.begin ((1 + (i + 1) % 5 : Nat) : Int) (nm3 (i + 1)) ((i + 1 : Nat) : Int)
  have hlen := h.len
  have hins := insM_len ms (newM ((1 + (i + 1) % 5 : Nat) : Int) (nm3 (i + 1)) ((i + 1 : Nat) : Int))
  have hmem : ∀ x, x ∈ insM ms (newM ((1 + (i + 1) % 5 : Nat) : Int) (nm3 (i + 1)) ((i + 1 : Nat) : Int)) ↔ x = newM ((1 + (i + 1) % 5 : Nat) : Int) (nm3 (i + 1)) ((i + 1 : Nat) : Int) ∨ x ∈ ms := fun x => mem_insM
  have hq : (newM ((1 + (i + 1) % 5 : Nat) : Int) (nm3 (i + 1)) ((i + 1 : Nat) : Int)).q = ((i + 1 : Nat) : Int) := rfl
  have hsrt : Srt (insM ms (newM ((1 + (i + 1) % 5 : Nat) : Int) (nm3 (i + 1)) ((i + 1 : Nat) : Int))) := h.inv.srt.ins _ (late_ins hlt)
  have e : beginL ms ((1 + (i + 1) % 5 : Nat) : Int) (nm3 (i + 1)) ((i + 1 : Nat) : Int) = if ms.length < 1024 then (insM ms (newM ((1 + (i + 1) % 5 : Nat) : Int) (nm3 (i + 1)) ((i + 1 : Nat) : Int)), 0) else (fullM ms (newM ((1 + (i + 1) % 5 : Nat) : Int) (nm3 (i + 1)) ((i + 1 : Nat) : Int)), 0) := by
    unfold beginL; rw [hb, hlt]; simp
  generalize newM ((1 + (i + 1) % 5 : Nat) : Int) (nm3 (i + 1)) ((i + 1 : Nat) : Int) = m at *
  generalize beginL ms ((1 + (i + 1) % 5 : Nat) : Int) (nm3 (i + 1)) ((i + 1 : Nat) : Int) = b at *
  have hu : ∀ x ∈ insM ms m, ∀ y ∈ insM ms m, x.q = y.q → x = y := fun x hx y hy e => by
    rcases (hmem x).1 hx with e1 | hx1 <;> rcases (hmem y).1 hy with e2 | hy1
    · rw [e1, e2]
    · have := h.le y hy1; rw [e1] at e; omega
    · have := h.le x hx1; rw [e2] at e; omega
    · exact h.uniq x hx1 y hy1 e
  by_cases hr : ms.length < 1024
  · rw [if_pos hr] at e
    subst e
    refine ⟨_, rfl, hv, by omega, fun x hx => ?_, hu, fun k h1 h2 => ?_⟩
    · rcases (hmem x).1 hx with rfl | hx
      · omega
      · have := h.le x hx; omega
    · by_cases ek : k = i + 1
      · subst ek; exact ⟨m, (hmem m).2 (.inl rfl), hq⟩
      · obtain ⟨x, hx, e⟩ := h.has k (by omega) (by omega)
        exact ⟨x, (hmem x).2 (.inr hx), e⟩
  · rw [if_neg hr] at e
    subst e
    have hl : ms.length = 1024 := by omega
    have h0 : 0 < (insM ms m).length := by omega
    obtain ⟨m1, m2⟩ := minQ_le h0
    refine ⟨_, rfl, hv, ?_, fun x hx => ?_, fun x hx y hy => ?_, fun k h1 h2 => ?_⟩
    · have := dropM_len hsrt m1
      show (dropM _ _).length = _
      omega
    · have hx' : x ∈ dropM (insM ms m) (minQ (insM ms m) ((insM ms m).length - 1)) := hx
      obtain ⟨hx1, hx2⟩ := dropM_mem.1 hx'
      have h4 : x.q ≠ (minQ (insM ms m) ((insM ms m).length - 1)).q := fun e => hx2 (hu _ hx1 _ m1 e)
      have h5 := m2 x hx1
      obtain ⟨y, hy, ey⟩ := h.has (i - 1024 + 1) (by omega) (by omega)
      have h6 := m2 y ((hmem y).2 (.inr hy))
      have h7 : ((i - 1024 : Nat) : Int) < (minQ (insM ms m) ((insM ms m).length - 1)).q := by
        rcases (hmem _).1 m1 with e | hm
        · rw [e, hq]; omega
        · exact (h.le _ hm).1
      refine ⟨by omega, ?_⟩
      rcases (hmem x).1 hx1 with rfl | hx
      · omega
      · have := h.le x hx; omega
    · have hx' : x ∈ dropM (insM ms m) (minQ (insM ms m) ((insM ms m).length - 1)) := hx
      have hy' : y ∈ dropM (insM ms m) (minQ (insM ms m) ((insM ms m).length - 1)) := hy
      exact hu x (dropM_mem.1 hx').1 y (dropM_mem.1 hy').1
    · obtain ⟨z, hz, ez⟩ := h.has (i - 1024 + 1) (by omega) (by omega)
      have h6 := m2 z ((hmem z).2 (.inr hz))
      obtain ⟨x, hx, ex⟩ : ∃ x ∈ insM ms m, x.q = (k : Int) := by
        by_cases ek : k = i + 1
        · subst ek; exact ⟨m, (hmem m).2 (.inl rfl), hq⟩
        · obtain ⟨x, hx, e⟩ := h.has k (by omega) (by omega)
          exact ⟨x, (hmem x).2 (.inr hx), e⟩
      refine ⟨x, ?_, ex⟩
      show x ∈ dropM _ _
      rw [dropM_mem]
      refine ⟨hx, fun e => ?_⟩
      rw [← e] at h6
      omega
def leastQ (ms : List Mk) (n : Nat) : Int := (ms.take n).foldl (fun a x => if x.q < a then x.q else a) 9223372036854775807
theorem leastQ_succ {ms : List Mk} {n : Nat} (h : n < ms.length) : leastQ ms (n + 1) = if (ms.getD n default).q < leastQ ms n then (ms.getD n default).q else leastQ ms n := by
  rw [leastQ, List.take_succ_eq_append_getElem h, List.foldl_append, List.getD_eq_getElem?_getD, List.getElem?_eq_getElem h]
  rfl
theorem leastQ_spec (ms : List Mk) : ∀ n, n ≤ ms.length → (∀ k, k < n → leastQ ms n ≤ (ms.getD k default).q) ∧ (leastQ ms n = 9223372036854775807 ∨ ∃ x ∈ ms, leastQ ms n = x.q)
  | 0, _ => ⟨fun k h => by omega, .inl rfl⟩
  | n + 1, h => by
    obtain ⟨h1, h2⟩ := leastQ_spec ms n (by omega)
    rw [leastQ_succ (by omega)]
    have hm : ms.getD n default ∈ ms := by rw [List.getD_eq_getElem?_getD, List.getElem?_eq_getElem (by omega)]; exact List.getElem_mem _
    split
    · refine ⟨fun k hk => ?_, .inr ⟨_, hm, rfl⟩⟩
      rcases Nat.lt_or_eq_of_le (Nat.le_of_lt_succ hk) with hk | rfl
      · have := h1 k hk; omega
      · exact Int.le_refl _
    · refine ⟨fun k hk => ?_, h2⟩
      rcases Nat.lt_or_eq_of_le (Nat.le_of_lt_succ hk) with hk | rfl
      · exact h1 k hk
      · omega
theorem Room.least {ms : List Mk} {i : Nat} (h : Room ms i) (h1 : 1024 ≤ i) (h2 : i ≤ 1033) : ms.length = 1024 ∧ leastQ ms 1024 = ((i - 1023 : Nat) : Int) := by
  have hl := h.len
  have hl2 : ms.length = 1024 := by omega
  refine ⟨hl2, ?_⟩
  obtain ⟨s1, s2⟩ := leastQ_spec ms 1024 (by omega)
  obtain ⟨x, hx, ex⟩ := h.has (i - 1023) (by omega) (by omega)
  obtain ⟨j, hj, rfl⟩ := List.mem_iff_getElem.1 hx
  have h3 := s1 j (by omega)
  rw [List.getD_eq_getElem?_getD, List.getElem?_eq_getElem hj] at h3
  simp only [Option.getD_some] at h3
  rcases s2 with e | ⟨y, hy, e⟩
  · omega
  · have := h.le y hy; omega
end Go.Proofs.YtbdacbcpniegiaaDoor
namespace Go.Proofs.YtbdacbcpniegiaaDoor
open Go Go.RowKit Go.Proofs Go.Sx
set_option linter.unusedSimpArgs false
set_option linter.unusedVariables false
set_option maxRecDepth 100000
def refAt (L : List Mk) (t : Int) (s : List UInt8) : Nat → Nat
  | 0 => 0
  | i + 1 => if cmpKey (L.getD i default).t (L.getD i default).s t s ≤ 0 then i + 1 else refAt L t s i
theorem cmpKey_le {a b : Int} {s t : List UInt8} {q r : Int} (h : ¬ (a = b ∧ s = t ∧ r ≤ q)) : cmpKey a s b t ≤ 0 ↔ cmpMark a s q b t r < 0 := by
  unfold cmpMark
  by_cases e : cmpKey a s b t = 0
  · have hk : a = b ∧ s = t := by
      unfold cmpKey at e
      by_cases h1 : cmpI a b = 0
      · simp only [h1, ne_eq, not_true_eq_false, if_false] at e
        exact ⟨cmpI_eq.1 h1, cmpS_eq.1 e⟩
      · rw [if_pos h1] at e; exact absurd e h1
    have : q < r := by
      rcases Int.lt_or_le q r with h2 | h2
      · exact h2
      · exact absurd ⟨hk.1, hk.2, h2⟩ h
    simp only [e, ne_eq, not_true_eq_false, if_false, cmpI_lt]
    constructor
    · intro _; exact this
    · intro _; exact Int.le_refl _
  · rw [if_pos e]; omega
theorem refAt_eq {L : List Mk} (h : Srt L) {t q : Int} {s : List UInt8} (hl : decide (0 ≤ idxI (isAt t s q) L) = false) : ∀ i, i ≤ L.length → refAt L t s i = min i (bsN L (newM t s q))
  | 0, _ => by simp [refAt]
  | i + 1, hi => by
    have hi' : i < L.length := by omega
    have hg : L.getD i default = L[i] := by rw [List.getD_eq_getElem?_getD, List.getElem?_eq_getElem hi']; rfl
    have hn : ¬ (L[i].t = t ∧ L[i].s = s ∧ q ≤ L[i].q) := fun hx => by
      have := late_iff.2 ⟨L[i], List.getElem_mem hi', hx.1, hx.2.1, hx.2.2⟩
      rw [hl] at this; cases this
    have hk := cmpKey_le (a := L[i].t) (b := t) (s := L[i].s) (t := s) (q := L[i].q) (r := q) hn
    rw [refAt, hg, refAt_eq h hl i (by omega)]
    have hm : cmpMark L[i].t L[i].s L[i].q t s q = cmpM L[i] (newM t s q) := rfl
    rw [hm] at hk
    by_cases hlt : i < bsN L (newM t s q)
    · have : cmpM L[i] (newM t s q) < 0 := bs_take L (newM t s q) _ (by
        rw [List.mem_take_iff_getElem]
        exact ⟨i, by omega, rfl⟩)
      rw [if_pos (hk.2 this)]; omega
    · have : ¬ cmpM L[i] (newM t s q) < 0 := bs_drop h (newM t s q) _ (by
        rw [List.mem_drop_iff_getElem]
        exact ⟨i - bsN L (newM t s q), by omega, by congr 1; omega⟩)
      rw [if_neg (fun e => this (hk.1 e))]; omega
def cutAt (L : List Mk) : Nat → Nat
  | 0 => 0
  | i + 1 => if (L.getD i default).q < (L.getD (cutAt L i) default).q then i else cutAt L i
theorem cutAt_lt (L : List Mk) : ∀ i, 0 < L.length → i ≤ L.length → cutAt L i < L.length
  | 0, h, _ => h
  | i + 1, h, h2 => by
    rw [cutAt]
    split
    · omega
    · exact cutAt_lt L i h (by omega)
theorem cutAt_min (L : List Mk) : ∀ i, L.getD (cutAt L (i + 1)) default = minQ L i
  | 0 => by simp [cutAt, minQ]
  | i + 1 => by
    rw [cutAt, minQ, cutAt_min L i]
    by_cases h : (L.getD (i + 1) default).q < (minQ L i).q
    · rw [if_pos h, if_pos (cmpI_lt.2 h)]
    · rw [if_neg h, if_neg (fun e => h (cmpI_lt.1 e)), cutAt_min L i]
theorem dropM_at {L : List Mk} (h : Srt L) {i : Nat} (hi : i < L.length) : dropM L L[i] = L.take i ++ L.drop (i + 1) := by
  have e : L = L.take i ++ L[i] :: L.drop (i + 1) := by rw [← List.drop_eq_getElem_cons hi, List.take_append_drop]
  have hs : (L.take i ++ L[i] :: L.drop (i + 1)).Pairwise fun a b => cmpM a b < 0 := by rw [← e]; exact h
  rw [List.pairwise_append] at hs
  have h1 : (L.take i).filter (fun x => !isMk L[i].t L[i].s L[i].q L[i].st L[i].d x) = L.take i := by
    rw [List.filter_eq_self]
    intro x hx
    rw [Bool.not_eq_true', ← Bool.not_eq_true, isMk_iff]
    intro ex
    have := hs.2.2 x hx L[i] (List.mem_cons_self ..)
    rw [ex] at this
    exact cmpM_irrefl _ this
  have h2 : (L.drop (i + 1)).filter (fun x => !isMk L[i].t L[i].s L[i].q L[i].st L[i].d x) = L.drop (i + 1) := by
    rw [List.filter_eq_self]
    intro x hx
    rw [Bool.not_eq_true', ← Bool.not_eq_true, isMk_iff]
    intro ex
    have := (List.pairwise_cons.1 hs.2.1).1 x hx
    rw [ex] at this
    exact cmpM_irrefl _ this
  have h3 : (L.take i ++ L[i] :: L.drop (i + 1)).filter (fun x => !isMk L[i].t L[i].s L[i].q L[i].st L[i].d x) = L.take i ++ L.drop (i + 1) := by
    rw [List.filter_append, h1, List.filter_cons_of_neg (by rw [Bool.not_eq_true, Bool.not_eq_false']; exact isMk_iff.2 rfl), h2]
  rw [← e] at h3
  exact h3
def cutR (L : List Mk) : List Mk := L.take (cutAt L L.length) ++ L.drop (cutAt L L.length + 1)
theorem cutR_eq {L : List Mk} (h : Srt L) (h0 : 0 < L.length) : cutR L = dropM L (minQ L (L.length - 1)) := by
  obtain ⟨n, hn⟩ : ∃ n, L.length = n + 1 := ⟨L.length - 1, by omega⟩
  have hlt := cutAt_lt L L.length h0 (Nat.le_refl _)
  have hm : minQ L (L.length - 1) = L[cutAt L L.length] := by
    have := cutAt_min L n
    rw [← hn, List.getD_eq_getElem?_getD, List.getElem?_eq_getElem hlt] at this
    rw [show L.length - 1 = n by omega]
    exact this.symm
  rw [hm, dropM_at h hlt]; rfl
def putR (L : List Mk) (t : Int) (s : List UInt8) (q : Int) : List Mk := L.take (refAt L t s L.length) ++ newM t s q :: L.drop (refAt L t s L.length)
def beginR (L : List Mk) (t : Int) (s : List UInt8) (q : Int) : List Mk × Int :=
  if badB t s q then (L, 1) else if decide (0 ≤ idxI (isAt t s q) L) then (L, 6) else if (putR L t s q).length ≤ 1024 then (putR L t s q, 0) else (cutR (putR L t s q), 0)
theorem beginR_eq {L : List Mk} (h : Inv L) (t : Int) (s : List UInt8) (q : Int) : beginR L t s q = beginL L t s q := by
  unfold beginR beginL
  cases hb : badB t s q with
  | true => rfl
  | false =>
    cases hl : decide (0 ≤ idxI (isAt t s q) L) with
    | true => rfl
    | false =>
      have e : putR L t s q = insM L (newM t s q) := by
        have hle := bsN_le L (newM t s q)
        rw [putR, refAt_eq h.srt hl _ (Nat.le_refl _), Nat.min_eq_right hle]; rfl
      have hl2 := insM_len L (newM t s q)
      rw [e]
      simp only [Bool.false_eq_true, if_false]
      by_cases hr : L.length < 1024
      · rw [if_pos hr, if_pos (by omega)]
      · rw [if_neg hr, if_neg (by omega), cutR_eq (h.srt.ins _ (late_ins hl)) (by omega)]; rfl
def noteR (L : List Mk) (t : Int) (s : List UInt8) (q : Nat) (ok : Bool) (d : List UInt8) : List Mk × Int :=
  if !statusB t s q ok d then (L, 1) else if idxI (kk t s q) L < 0 then (L, 5) else
    if ok then (L.map (tkM t s q), 0) else
    if (L.getD (idxI (kk t s q) L).toNat default).st = 1 then (L.set (idxI (kk t s q) L).toNat { L.getD (idxI (kk t s q) L).toNat default with st := 3, d := d }, 0) else (L, 0)
theorem idx_find (L : List Mk) (p : Mk → Bool) : (idxI p L < 0 ∧ L.find? p = none) ∨ (∃ (i : Nat) (hi : i < L.length), idxI p L = i ∧ p L[i] = true ∧ L.find? p = some L[i]) := by
  unfold idxI
  cases h : L.findIdx? p with
  | none =>
    rw [List.findIdx?_eq_none_iff] at h
    refine .inl ⟨by decide, ?_⟩
    rw [List.find?_eq_none]
    intro x hx; rw [h x hx]; decide
  | some i =>
    obtain ⟨hi, hp, hj⟩ := List.findIdx?_eq_some_iff_getElem.1 h
    refine .inr ⟨i, hi, rfl, hp, ?_⟩
    rw [List.find?_eq_some_iff_getElem]
    exact ⟨hp, i, hi, rfl, fun j hj' => by have := hj j hj'; simpa using this⟩
theorem set_rfM {L : List Mk} (h : Srt L) {t : Int} {s : List UInt8} {q : Int} {i : Nat} (hi : i < L.length) (hk : kk t s q L[i] = true) (d : List UInt8) : L.set i { L[i] with st := 3, d := d } = L.map (rfM t s q d) := by
  refine List.ext_getElem (by simp) fun j h1 h2 => ?_
  have hj : j < L.length := by simpa using h1
  rw [List.getElem_map, List.getElem_set]
  by_cases e : i = j
  · subst e; rw [if_pos rfl, rfM, if_pos hk]
  · rw [if_neg e, rfM, if_neg]
    intro hk2
    have k1 := kk_iff.1 hk2
    have k2 := kk_iff.1 hk
    have e0 : cmpM L[j] L[i] = 0 := cmpM_eq.2 ⟨k1.1.trans k2.1.symm, k1.2.1.trans k2.2.1.symm, k1.2.2.trans k2.2.2.symm⟩
    have e1 : cmpM L[i] L[j] = 0 := cmpM_eq.2 ⟨k2.1.trans k1.1.symm, k2.2.1.trans k1.2.1.symm, k2.2.2.trans k1.2.2.symm⟩
    have hp := List.pairwise_iff_getElem.1 h
    rcases Nat.lt_or_ge i j with hij | hij
    · have := hp i j hi hj hij; omega
    · have := hp j i hj hi (by omega); omega
theorem noteR_eq {L : List Mk} (h : Inv L) (t : Int) (s : List UInt8) (q : Nat) (ok : Bool) (d : List UInt8) : noteR L t s q ok d = noteL L t s q ok d := by
  rw [noteL_eq h]
  unfold noteR
  cases hs : statusB t s q ok d with
  | false => rfl
  | true =>
    simp only [Bool.not_true, Bool.false_eq_true, if_false]
    rcases idx_find L (kk t s q) with ⟨h1, h2⟩ | ⟨i, hi, h1, h2, h3⟩
    · rw [if_pos h1, h2]
    · have hg : L.getD i default = L[i] := by rw [List.getD_eq_getElem?_getD, List.getElem?_eq_getElem hi]; rfl
      rw [h1, if_neg (by omega), h3, Int.toNat_natCast, hg, set_rfM h.srt hi h2 d]
def stateR (L : List Mk) (t : Int) (s : List UInt8) (q : Int) : Int × List UInt8 :=
  if idxI (kk t s q) L < 0 then (0, []) else ((L.getD (idxI (kk t s q) L).toNat default).st, (L.getD (idxI (kk t s q) L).toNat default).d)
theorem stateR_eq {L : List Mk} (h : Inv L) (t : Int) (s : List UInt8) (q : Int) : stateR L t s q = stateL L t s q := by
  rw [stateL_eq h]
  unfold stateR
  rcases idx_find L (kk t s q) with ⟨h1, h2⟩ | ⟨i, hi, h1, h2, h3⟩
  · rw [if_pos h1, h2]
  · have hg : L.getD i default = L[i] := by rw [List.getD_eq_getElem?_getD, List.getElem?_eq_getElem hi]; rfl
    rw [h1, if_neg (by omega), h3, Int.toNat_natCast, hg]
end Go.Proofs.YtbdacbcpniegiaaDoor
namespace Go.Proofs.YtbdacbcpniegiaaDoor
open Go Go.RowKit Go.Proofs Go.Sx
set_option maxHeartbeats 4000000
set_option maxRecDepth 100000
set_option linter.unusedSimpArgs false
set_option linter.unusedVariables false
theorem rnumber_any (num n : Nat) (h1 : 1 ≤ num) (h2 : num < 536870912) (h0 : 0 < n) (hn : n < 18446744073709551616) (w : World) :
    Calls Tryd.prog 135 #[.int .i64 num, .int .u64 n] w fun e w' => e = .returned (.string (B (numB num n))) ∧ Below w.heap.size w w' := by
  refine calls_pureK (args := [.int .i64 num, .int .u64 n]) w Tryd.func135 rfl Tryd.ntmps135 (by simp) ?_
  intro X K hX hK
  have hnt : X.nt = 10 := by rw [hX]
  have hwi : X.wi = w := by rw [hX]
  have hP : X.P = Tryd.prog := by rw [hX]
  have hown : X.own = [] := by rw [hX]
  have hbl : X.base.length = 0 := by rw [hX]; rfl
  clear hX
  have hT : calleeOk X.P 107 = true := by rw [hP]; exact Ty.co107
  repeat' (first
    | (refine SX.seqK ?_; intro N hN)
    | ((first | (refine SX.ops ?_)); simp only [GA, ↓GB, List.filterMap_cons, eq_self, BEq.rfl, simprocAttr, hnt, hT])
    | ((first | refine SX.skip ?_ | refine SX.exit ?_ | refine SX.label ?_); try simp only [GA, ↓GB, List.filterMap_cons, eq_self, BEq.rfl, simprocAttr])
    | (refine SX.cond rfl (fun hb => ?_) (fun hb => ?_) <;> ((first | cases hb | (simp only [decide_eq_true_eq, decide_eq_false_iff_not, beq_iff_eq, beq_eq_false_iff_ne, bne_iff_ne, Bool.and_eq_true, Bool.or_eq_true, Bool.not_eq_true', Bool.not_eq_false', Bool.and_eq_false_iff, Bool.or_eq_false_iff, Int.not_lt, Int.not_le] at hb) | skip) <;> (first | (exfalso; omega) | skip)))
    | (refine SX.ret ?_; try simp only [GA, ↓GB, List.filterMap_cons, eq_self, BEq.rfl, simprocAttr])
    | (refine hN _ ?_; clear hN N)
    | (refine hK _ _ (Fin.res rfl hown ?_); simp only [GA, ↓GB, List.filterMap_cons, eq_self, BEq.rfl, simprocAttr, f_a, f_b, f_n, f_c, f_B, f_v, f_g, f_0, f_1, f_2, hT, hwi]; intro w' hbel; refine Done.out ?_)
    | (clear hN N; first | (refine hN _ ?_; clear hN N) | (clear hN N; first | (refine hN _ ?_; clear hN N) | (clear hN N; first | (refine hN _ ?_; clear hN N) | (clear hN N; first | (refine hN _ ?_; clear hN N) | (clear hN N; first | (refine hN _ ?_; clear hN N) | (refine hN _ ?_; clear hN N))))))
    | (refine bif2.mk (fun hb => ?_) (fun hb => ?_) <;> (try simp only [hb, GA, ↓GB, List.filterMap_cons, eq_self, BEq.rfl, simprocAttr, hnt, hT]) <;> ((first | cases hb | (simp only [decide_eq_true_eq, decide_eq_false_iff_not, beq_iff_eq, beq_eq_false_iff_ne, bne_iff_ne, Bool.and_eq_true, Bool.or_eq_true, Bool.not_eq_true', Bool.not_eq_false', Bool.and_eq_false_iff, Bool.or_eq_false_iff, Int.not_lt, Int.not_le] at hb) | skip) <;> (first | (exfalso; omega) | skip)))
    | ((first | (refine CallVC.pv hP (rNumber_any num n h1 h2 hn) rfl ?_) | (refine CallQ.pv hP (rNumber_any num n h1 h2 hn) rfl ?_)); simp only [GA, ↓GB, List.filterMap_cons, eq_self, BEq.rfl, simprocAttr, hnt, hT])
    | (refine SX.block ?_)
    | (refine and_mk ?_ ?_; (focus first | decide | omega | rfl | assumption | (simp only [List.length_append, List.length_cons, List.length_nil, B_size]; omega) | (simp; done)))
    | (refine And.intro ?_ ?_))
  all_goals (try refine Done.mk ?_)
  all_goals first | exact hbel | exact ⟨rfl, hbel⟩ | (exfalso; omega)
theorem rflag_any (num : Nat) (ok : Bool) (h1 : 1 ≤ num) (h2 : num < 536870912) (w : World) :
    Calls Tryd.prog 136 #[.int .i64 num, .bool ok] w fun e w' => e = .returned (.string (B (if ok then numB num 1 else []))) ∧ Below w.heap.size w w' := by
  cases ok
  · refine calls_pureK (args := [.int .i64 num, .bool false]) w Tryd.func136 rfl Tryd.ntmps136 (by simp) ?_
    intro X K hX hK
    have hnt : X.nt = 8 := by rw [hX]
    have hwi : X.wi = w := by rw [hX]
    have hP : X.P = Tryd.prog := by rw [hX]
    have hown : X.own = [] := by rw [hX]
    have hbl : X.base.length = 0 := by rw [hX]; rfl
    clear hX
    have hT : calleeOk X.P 107 = true := by rw [hP]; exact Ty.co107
    repeat' (first
      | (refine SX.seqK ?_; intro N hN)
      | ((first | (refine SX.ops ?_)); simp only [GA, ↓GB, List.filterMap_cons, eq_self, BEq.rfl, simprocAttr, hnt, hT])
      | ((first | refine SX.skip ?_ | refine SX.exit ?_ | refine SX.label ?_); try simp only [GA, ↓GB, List.filterMap_cons, eq_self, BEq.rfl, simprocAttr])
      | (refine SX.cond rfl (fun hb => ?_) (fun hb => ?_) <;> ((first | cases hb | (simp only [decide_eq_true_eq, decide_eq_false_iff_not, beq_iff_eq, beq_eq_false_iff_ne, bne_iff_ne, Bool.and_eq_true, Bool.or_eq_true, Bool.not_eq_true', Bool.not_eq_false', Bool.and_eq_false_iff, Bool.or_eq_false_iff, Int.not_lt, Int.not_le] at hb) | skip) <;> (first | (exfalso; omega) | skip)))
      | (refine SX.ret ?_; try simp only [GA, ↓GB, List.filterMap_cons, eq_self, BEq.rfl, simprocAttr])
      | (refine hN _ ?_; clear hN N)
      | (refine hK _ _ (Fin.res rfl hown ?_); simp only [GA, ↓GB, List.filterMap_cons, eq_self, BEq.rfl, simprocAttr, f_a, f_b, f_n, f_c, f_B, f_v, f_g, f_0, f_1, f_2, hT, hwi]; intro w' hbel; refine Done.out ?_)
      | (clear hN N; first | (refine hN _ ?_; clear hN N) | (clear hN N; first | (refine hN _ ?_; clear hN N) | (clear hN N; first | (refine hN _ ?_; clear hN N) | (clear hN N; first | (refine hN _ ?_; clear hN N) | (clear hN N; first | (refine hN _ ?_; clear hN N) | (refine hN _ ?_; clear hN N))))))
      | (refine bif2.mk (fun hb => ?_) (fun hb => ?_) <;> (try simp only [hb, GA, ↓GB, List.filterMap_cons, eq_self, BEq.rfl, simprocAttr, hnt, hT]) <;> ((first | cases hb | (simp only [decide_eq_true_eq, decide_eq_false_iff_not, beq_iff_eq, beq_eq_false_iff_ne, bne_iff_ne, Bool.and_eq_true, Bool.or_eq_true, Bool.not_eq_true', Bool.not_eq_false', Bool.and_eq_false_iff, Bool.or_eq_false_iff, Int.not_lt, Int.not_le] at hb) | skip) <;> (first | (exfalso; omega) | skip)))
      | ((first | (refine CallVC.pv hP (rNumber_any num 1 h1 h2 (by decide)) rfl ?_) | (refine CallQ.pv hP (rNumber_any num 1 h1 h2 (by decide)) rfl ?_)); simp only [GA, ↓GB, List.filterMap_cons, eq_self, BEq.rfl, simprocAttr, hnt, hT])
      | (refine SX.block ?_)
      | (refine and_mk ?_ ?_; (focus first | decide | omega | rfl | assumption | (simp only [List.length_append, List.length_cons, List.length_nil, B_size]; omega) | (simp; done)))
      | (refine And.intro ?_ ?_))
    all_goals (try refine Done.mk ?_)
    all_goals first | exact hbel | exact ⟨rfl, hbel⟩
  · refine calls_pureK (args := [.int .i64 num, .bool true]) w Tryd.func136 rfl Tryd.ntmps136 (by simp) ?_
    intro X K hX hK
    have hnt : X.nt = 8 := by rw [hX]
    have hwi : X.wi = w := by rw [hX]
    have hP : X.P = Tryd.prog := by rw [hX]
    have hown : X.own = [] := by rw [hX]
    have hbl : X.base.length = 0 := by rw [hX]; rfl
    clear hX
    have hT : calleeOk X.P 107 = true := by rw [hP]; exact Ty.co107
    repeat' (first
      | (refine SX.seqK ?_; intro N hN)
      | ((first | (refine SX.ops ?_)); simp only [GA, ↓GB, List.filterMap_cons, eq_self, BEq.rfl, simprocAttr, hnt, hT])
      | ((first | refine SX.skip ?_ | refine SX.exit ?_ | refine SX.label ?_); try simp only [GA, ↓GB, List.filterMap_cons, eq_self, BEq.rfl, simprocAttr])
      | (refine SX.cond rfl (fun hb => ?_) (fun hb => ?_) <;> ((first | cases hb | (simp only [decide_eq_true_eq, decide_eq_false_iff_not, beq_iff_eq, beq_eq_false_iff_ne, bne_iff_ne, Bool.and_eq_true, Bool.or_eq_true, Bool.not_eq_true', Bool.not_eq_false', Bool.and_eq_false_iff, Bool.or_eq_false_iff, Int.not_lt, Int.not_le] at hb) | skip) <;> (first | (exfalso; omega) | skip)))
      | (refine SX.ret ?_; try simp only [GA, ↓GB, List.filterMap_cons, eq_self, BEq.rfl, simprocAttr])
      | (refine hN _ ?_; clear hN N)
      | (refine hK _ _ (Fin.res rfl hown ?_); simp only [GA, ↓GB, List.filterMap_cons, eq_self, BEq.rfl, simprocAttr, f_a, f_b, f_n, f_c, f_B, f_v, f_g, f_0, f_1, f_2, hT, hwi]; intro w' hbel; refine Done.out ?_)
      | (clear hN N; first | (refine hN _ ?_; clear hN N) | (clear hN N; first | (refine hN _ ?_; clear hN N) | (clear hN N; first | (refine hN _ ?_; clear hN N) | (clear hN N; first | (refine hN _ ?_; clear hN N) | (clear hN N; first | (refine hN _ ?_; clear hN N) | (refine hN _ ?_; clear hN N))))))
      | (refine bif2.mk (fun hb => ?_) (fun hb => ?_) <;> (try simp only [hb, GA, ↓GB, List.filterMap_cons, eq_self, BEq.rfl, simprocAttr, hnt, hT]) <;> ((first | cases hb | (simp only [decide_eq_true_eq, decide_eq_false_iff_not, beq_iff_eq, beq_eq_false_iff_ne, bne_iff_ne, Bool.and_eq_true, Bool.or_eq_true, Bool.not_eq_true', Bool.not_eq_false', Bool.and_eq_false_iff, Bool.or_eq_false_iff, Int.not_lt, Int.not_le] at hb) | skip) <;> (first | (exfalso; omega) | skip)))
      | ((first | (refine CallVC.pv hP (rNumber_any num 1 h1 h2 (by decide)) rfl ?_) | (refine CallQ.pv hP (rNumber_any num 1 h1 h2 (by decide)) rfl ?_)); simp only [GA, ↓GB, List.filterMap_cons, eq_self, BEq.rfl, simprocAttr, hnt, hT])
      | (refine SX.block ?_)
      | (refine and_mk ?_ ?_; (focus first | decide | omega | rfl | assumption | (simp only [List.length_append, List.length_cons, List.length_nil, B_size]; omega) | (simp; done)))
      | (refine And.intro ?_ ?_))
    all_goals (try refine Done.mk ?_)
    all_goals first | exact hbel | exact ⟨rfl, hbel⟩
theorem rPutStatus_no (t : Int) (s : List UInt8) (q : Int) (ok : Bool) (d : List UInt8) (hs : s.length ≤ 9223372036854775807) (h : statusB t s q ok d = false) (w : World) :
    Calls Tryd.prog 91 #[.agg #[.int .i64 t, .string (B s), .int .u64 q, .bool ok, .string (B d)]] w fun e w' => e = .returned (.tuple #[.string (B []), .bool false]) ∧ Below w.heap.size w w' := by
  refine calls_pureK (args := [.agg #[.int .i64 t, .string (B s), .int .u64 q, .bool ok, .string (B d)]]) w Tryd.func91 rfl Tryd.ntmps91 (by simp) ?_
  intro X K hX hK
  have hnt : X.nt = 38 := by rw [hX]
  have hwi : X.wi = w := by rw [hX]
  have hP : X.P = Tryd.prog := by rw [hX]
  have hown : X.own = [] := by rw [hX]
  have hbl : X.base.length = 0 := by rw [hX]; rfl
  clear hX
  have hT : aggOf X.P 72 = some true ∧ szOf X.P 72 = some 5 ∧ calleeOk X.P 134 = true ∧ fieldOff X.P 72 0 = some 0 ∧ fieldOff X.P 26 0 = some 0 ∧ aggOf X.P 3 = some false ∧ szOf X.P 3 = some 1 ∧ X.P.underlying 3 = some (TypeDesc.int IntKind.i64) ∧ X.P.underlying 22 = some (TypeDesc.int IntKind.u64) ∧ isBytesT X.P 3 = false ∧ isStrT X.P 22 = false ∧ calleeOk X.P 135 = true ∧ fieldOff X.P 26 1 = some 1 ∧ aggOf X.P 9 = some false ∧ szOf X.P 9 = some 1 ∧ calleeOk X.P 108 = true ∧ fieldOff X.P 72 1 = some 2 ∧ aggOf X.P 22 = some false ∧ szOf X.P 22 = some 1 ∧ fieldOff X.P 72 2 = some 3 ∧ aggOf X.P 4 = some false ∧ szOf X.P 4 = some 1 ∧ calleeOk X.P 136 = true ∧ fieldOff X.P 72 3 = some 4 := by rw [hP]; exact ⟨Ty.ag72, Ty.sz72, Ty.co134, Ty.fo72_0, Ty.fo26_0, Ty.ag3, Ty.sz3, Tryd.underlying3, Tryd.underlying22, Ty.ib3, Ty.is22, Ty.co135, Ty.fo26_1, Ty.ag9, Ty.sz9, Ty.co108, Ty.fo72_1, Ty.ag22, Ty.sz22, Ty.fo72_2, Ty.ag4, Ty.sz4, Ty.co136, Ty.fo72_3⟩
  repeat' (first
    | (refine SX.seqK ?_; intro N hN)
    | ((first | (refine SX.ops ?_)); simp only [GA, ↓GB, List.filterMap_cons, eq_self, BEq.rfl, simprocAttr, hnt, hT, h])
    | ((first | refine SX.skip ?_ | refine SX.exit ?_ | refine SX.label ?_); try simp only [GA, ↓GB, List.filterMap_cons, eq_self, BEq.rfl, simprocAttr])
    | (refine SX.cond rfl (fun hb => ?_) (fun hb => ?_) <;> ((first | cases hb | (simp only [decide_eq_true_eq, decide_eq_false_iff_not, beq_iff_eq, beq_eq_false_iff_ne, bne_iff_ne, Bool.and_eq_true, Bool.or_eq_true, Bool.not_eq_true', Bool.not_eq_false', Bool.and_eq_false_iff, Bool.or_eq_false_iff, Int.not_lt, Int.not_le] at hb) | skip) <;> (first | (exfalso; omega) | skip)))
    | (refine SX.ret ?_; try simp only [GA, ↓GB, List.filterMap_cons, eq_self, BEq.rfl, simprocAttr])
    | (refine hN _ ?_; clear hN N)
    | (refine hK _ _ (Fin.res rfl hown ?_); simp only [GA, ↓GB, List.filterMap_cons, eq_self, BEq.rfl, simprocAttr, f_a, f_b, f_n, f_c, f_B, f_v, f_g, f_0, f_1, f_2, hT, hwi, h]; intro w' hbel; refine Done.out ?_)
    | (clear hN N; first | (refine hN _ ?_; clear hN N) | (clear hN N; first | (refine hN _ ?_; clear hN N) | (clear hN N; first | (refine hN _ ?_; clear hN N) | (clear hN N; first | (refine hN _ ?_; clear hN N) | (clear hN N; first | (refine hN _ ?_; clear hN N) | (refine hN _ ?_; clear hN N))))))
    | (refine bif2.mk (fun hb => ?_) (fun hb => ?_) <;> (try simp only [hb, GA, ↓GB, List.filterMap_cons, eq_self, BEq.rfl, simprocAttr, hnt, hT, h]) <;> ((first | cases hb | (simp only [decide_eq_true_eq, decide_eq_false_iff_not, beq_iff_eq, beq_eq_false_iff_ne, bne_iff_ne, Bool.and_eq_true, Bool.or_eq_true, Bool.not_eq_true', Bool.not_eq_false', Bool.and_eq_false_iff, Bool.or_eq_false_iff, Int.not_lt, Int.not_le] at hb) | skip) <;> (first | (exfalso; omega) | skip)))
    | ((first | (refine CallVC.pv hP (rRight_any _ _ _ _ _ hs) rfl ?_) | (refine CallQ.pv hP (rRight_any _ _ _ _ _ hs) rfl ?_)); simp only [GA, ↓GB, List.filterMap_cons, eq_self, BEq.rfl, simprocAttr, hnt, hT, h])
    | (refine SX.block ?_)
    | (refine and_mk ?_ ?_; (focus first | decide | omega | rfl | assumption | (simp only [List.length_append, List.length_cons, List.length_nil, B_size]; omega) | (simp; done)))
    | (refine And.intro ?_ ?_))
  all_goals (try refine Done.mk ?_)
  all_goals exact hbel
theorem rPutStatus_yes (t : Nat) (s : List UInt8) (q : Nat) (ok : Bool) (d : List UInt8) (hs : s.length < 4294967296) (hq : q < 18446744073709551616) (ht : t ≤ 5) (ht1 : 1 ≤ t) (hq1 : 0 < q) (hd : d.length < 4294967296) (h : statusB t s q ok d = true) (w : World) :
    Calls Tryd.prog 91 #[.agg #[.int .i64 t, .string (B s), .int .u64 q, .bool ok, .string (B d)]] w fun e w' => e = .returned (.tuple #[.string (B (statusBytes t s q ok d)), .bool true]) ∧ Below w.heap.size w w' := by
  have e1 : IntKind.u64.wrap (t : Int) = (t : Int) := wU64 (by omega) (by omega)
  have n1 := numB_len 1 t (by decide) (by omega)
  have n2 := textB_len 2 s (by decide) hs
  have n3 := numB_len 3 q (by decide) hq
  have n4 : (if ok then numB 4 1 else []).length ≤ 20 := by
    cases ok
    · simp
    · exact numB_len 4 1 (by decide) (by decide)
  have n5 := textB_len 5 d (by decide) hd
  refine calls_pureK (args := [.agg #[.int .i64 t, .string (B s), .int .u64 q, .bool ok, .string (B d)]]) w Tryd.func91 rfl Tryd.ntmps91 (by simp) ?_
  intro X K hX hK
  have hnt : X.nt = 38 := by rw [hX]
  have hwi : X.wi = w := by rw [hX]
  have hP : X.P = Tryd.prog := by rw [hX]
  have hown : X.own = [] := by rw [hX]
  have hbl : X.base.length = 0 := by rw [hX]; rfl
  clear hX
  have hT : aggOf X.P 72 = some true ∧ szOf X.P 72 = some 5 ∧ calleeOk X.P 134 = true ∧ fieldOff X.P 72 0 = some 0 ∧ fieldOff X.P 26 0 = some 0 ∧ aggOf X.P 3 = some false ∧ szOf X.P 3 = some 1 ∧ X.P.underlying 3 = some (TypeDesc.int IntKind.i64) ∧ X.P.underlying 22 = some (TypeDesc.int IntKind.u64) ∧ isBytesT X.P 3 = false ∧ isStrT X.P 22 = false ∧ calleeOk X.P 135 = true ∧ fieldOff X.P 26 1 = some 1 ∧ aggOf X.P 9 = some false ∧ szOf X.P 9 = some 1 ∧ calleeOk X.P 108 = true ∧ fieldOff X.P 72 1 = some 2 ∧ aggOf X.P 22 = some false ∧ szOf X.P 22 = some 1 ∧ fieldOff X.P 72 2 = some 3 ∧ aggOf X.P 4 = some false ∧ szOf X.P 4 = some 1 ∧ calleeOk X.P 136 = true ∧ fieldOff X.P 72 3 = some 4 := by rw [hP]; exact ⟨Ty.ag72, Ty.sz72, Ty.co134, Ty.fo72_0, Ty.fo26_0, Ty.ag3, Ty.sz3, Tryd.underlying3, Tryd.underlying22, Ty.ib3, Ty.is22, Ty.co135, Ty.fo26_1, Ty.ag9, Ty.sz9, Ty.co108, Ty.fo72_1, Ty.ag22, Ty.sz22, Ty.fo72_2, Ty.ag4, Ty.sz4, Ty.co136, Ty.fo72_3⟩
  repeat' (first
    | (refine SX.seqK ?_; intro N hN)
    | ((first | (refine SX.ops ?_) | (refine SX.planT (id := 4) [.q [(0, [1]), (1, [10]), (2, [11]), (3, [12]), (4, [13]), (5, [14]), (6, [1]), (7, [16]), (8, [17]), (9, [18]), (10, [15, 19]), (11, [1]), (12, [21]), (13, [22]), (14, [20, 23]), (15, [1]), (16, [25]), (17, [26]), (18, [24, 27]), (19, [28])] none] ?_ ?_ ?_; (focus first | (rw [hP]; kernel_rfl) | (rw [hU1P, hP]; kernel_rfl)); (focus kernel_rfl))); simp only [GA, ↓GB, List.filterMap_cons, eq_self, BEq.rfl, simprocAttr, hnt, hT, h, e1])
    | ((first | refine SX.skip ?_ | refine SX.exit ?_ | refine SX.label ?_); try simp only [GA, ↓GB, List.filterMap_cons, eq_self, BEq.rfl, simprocAttr])
    | (refine SX.cond rfl (fun hb => ?_) (fun hb => ?_) <;> ((first | cases hb | (simp only [decide_eq_true_eq, decide_eq_false_iff_not, beq_iff_eq, beq_eq_false_iff_ne, bne_iff_ne, Bool.and_eq_true, Bool.or_eq_true, Bool.not_eq_true', Bool.not_eq_false', Bool.and_eq_false_iff, Bool.or_eq_false_iff, Int.not_lt, Int.not_le] at hb) | skip) <;> (first | (exfalso; omega) | skip)))
    | (refine SX.ret ?_; try simp only [GA, ↓GB, List.filterMap_cons, eq_self, BEq.rfl, simprocAttr])
    | (refine hN _ ?_; clear hN N)
    | (refine hK _ _ (Fin.res rfl hown ?_); simp only [GA, ↓GB, List.filterMap_cons, eq_self, BEq.rfl, simprocAttr, f_a, f_b, f_n, f_c, f_B, f_v, f_g, f_0, f_1, f_2, hT, hwi, h, e1]; intro w' hbel; refine Done.out ?_)
    | (clear hN N; first | (refine hN _ ?_; clear hN N) | (clear hN N; first | (refine hN _ ?_; clear hN N) | (clear hN N; first | (refine hN _ ?_; clear hN N) | (clear hN N; first | (refine hN _ ?_; clear hN N) | (clear hN N; first | (refine hN _ ?_; clear hN N) | (refine hN _ ?_; clear hN N))))))
    | (refine bif2.mk (fun hb => ?_) (fun hb => ?_) <;> (try simp only [hb, GA, ↓GB, List.filterMap_cons, eq_self, BEq.rfl, simprocAttr, hnt, hT, h, e1]) <;> ((first | cases hb | (simp only [decide_eq_true_eq, decide_eq_false_iff_not, beq_iff_eq, beq_eq_false_iff_ne, bne_iff_ne, Bool.and_eq_true, Bool.or_eq_true, Bool.not_eq_true', Bool.not_eq_false', Bool.and_eq_false_iff, Bool.or_eq_false_iff, Int.not_lt, Int.not_le] at hb) | skip) <;> (first | (exfalso; omega) | skip)))
    | ((first | (refine CallVC.pv hP (rRight_any _ _ _ _ _ (by omega)) rfl ?_) | (refine CallQ.pv hP (rRight_any _ _ _ _ _ (by omega)) rfl ?_) | (refine CallVC.pv hP (rnumber_any 1 t (by decide) (by decide) (by omega) (by omega)) rfl ?_) | (refine CallQ.pv hP (rnumber_any 1 t (by decide) (by decide) (by omega) (by omega)) rfl ?_) | (refine CallVC.pv hP (rText_any 2 s (by decide) (by decide) (by omega)) rfl ?_) | (refine CallQ.pv hP (rText_any 2 s (by decide) (by decide) (by omega)) rfl ?_) | (refine CallVC.pv hP (rnumber_any 3 q (by decide) (by decide) hq1 hq) rfl ?_) | (refine CallQ.pv hP (rnumber_any 3 q (by decide) (by decide) hq1 hq) rfl ?_) | (refine CallVC.pv hP (rflag_any 4 ok (by decide) (by decide)) rfl ?_) | (refine CallQ.pv hP (rflag_any 4 ok (by decide) (by decide)) rfl ?_) | (refine CallVC.pv hP (rText_any 5 d (by decide) (by decide) (by omega)) rfl ?_) | (refine CallQ.pv hP (rText_any 5 d (by decide) (by decide) (by omega)) rfl ?_)); simp only [GA, ↓GB, List.filterMap_cons, eq_self, BEq.rfl, simprocAttr, hnt, hT, h, e1])
    | (refine SX.block ?_)
    | (refine and_mk ?_ ?_; (focus first | decide | omega | rfl | assumption | (simp only [List.length_append, List.length_cons, List.length_nil, B_size]; omega) | (simp; done)))
    | (refine And.intro ?_ ?_))
  all_goals (try refine Done.mk ?_)
  all_goals first | exact hbel | (refine ⟨?_, hbel⟩; simp_all [statusBytes]; done) | trace_state
theorem rPutStatus_any (t : Int) (s : List UInt8) (q : Nat) (ok : Bool) (d : List UInt8) (hs : s.length ≤ 9223372036854775807) (hq : q < 18446744073709551616) (w : World) :
    Calls Tryd.prog 91 #[.agg #[.int .i64 t, .string (B s), .int .u64 q, .bool ok, .string (B d)]] w fun e w' => e = .returned (.tuple #[.string (B (if statusB t s q ok d then statusBytes t.toNat s q ok d else [])), .bool (statusB t s q ok d)]) ∧ Below w.heap.size w w' := by
  cases h : statusB t s q ok d with
  | false => simpa using rPutStatus_no t s q ok d hs h w
  | true =>
    obtain ⟨h1, h2, h3, h4, h5, h6⟩ := statusB_spec h
    obtain ⟨n, rfl⟩ : ∃ n : Nat, t = n := ⟨t.toNat, by omega⟩
    simp only [if_true, Int.toNat_natCast]
    exact rPutStatus_yes n s q ok d (by omega) hq (by omega) (by omega) (by omega) (by omega) h w
@[reducible] def rrow (ms : List Mk) : LO := .row 74 5 ms.length (mks ms)
theorem rfind_ctr (ms : List Mk) (hms : ms.length ≤ 1000000) (t : Int) (s : List UInt8) (q : Int) : Ctr Tryd.prog [] 92 [.cells [.row 1] 69, rrow ms] [.one (.c (.loc 0 0)), .one (.agg [.v (.int .i64 t), .v (.string (B s))]), vv (.int .u64 q)]
    (fun os v => os = [.cells [.row 1] 69, rrow ms] ∧ v = vv (.int .i64 (idxI (kk t s q) ms))) := by
  refine Ctr.less ?_
  have hj1 := True.intro
  intro X0 hP0 hG0 N0 hN0
  refine CallVC.inline (f := 92) (by rw [hP0]; exact Tryd.func92) rfl Tryd.ntmps92 rfl (by simp) ?_
  intro X K hU hnt hbl hK
  have hP : X.P = Tryd.prog := by rw [hU.P, hP0]
  have hG := hG0.under hU
  have hT : fieldOff X.P 69 0 = some 0 ∧ aggOf X.P 67 = some false ∧ szOf X.P 67 = some 1 ∧ X.P.underlying 67 = some (TypeDesc.slice 74) ∧ elemSz X.P 67 = some (74, 5) ∧ fieldOff X.P 74 0 = some 0 ∧ aggOf X.P 26 = some true ∧ szOf X.P 26 = some 2 ∧ fieldOff X.P 74 1 = some 2 ∧ aggOf X.P 22 = some false ∧ szOf X.P 22 = some 1 := by rw [hP]; exact ⟨Ty.fo69_0, Ty.ag67, Ty.sz67, Tryd.underlying67, Ty.el67, Ty.fo74_0, Ty.ag26, Ty.sz26, Ty.fo74_1, Ty.ag22, Ty.sz22⟩
  simp only [GA, ↓GB, List.filterMap_cons, eq_self, BEq.rfl, simprocAttr] at hbl ⊢
  repeat' (first
    | (refine SX.seqK ?_; intro N hN)
    | ((first | (refine SX.ops ?_) | (refine SX.planT (id := 4) [.q [(0, [0]), (1, [17]), (2, [18]), (3, [19]), (4, [7]), (5, [20, 21]), (6, [22]), (7, [23]), (8, [4]), (9, [24, 25]), (10, [26]), (11, [0, 27]), (12, [28, 27]), (13, [29, 27]), (14, [30, 27]), (15, [7, 27]), (16, [31, 32, 27]), (17, [33, 27]), (18, [34, 27]), (19, [2, 27]), (20, [35, 36, 27]), (21, [27, 37])] none] ?_ ?_ ?_; (focus first | (rw [hP]; kernel_rfl) | (rw [hU1P, hP]; kernel_rfl)); (focus kernel_rfl))); simp only [GA, ↓GB, List.filterMap_cons, eq_self, BEq.rfl, simprocAttr, hnt, hT, hj1])
    | ((first | refine SX.skip ?_ | refine SX.exit ?_ | refine SX.label ?_); try simp only [GA, ↓GB, List.filterMap_cons, eq_self, BEq.rfl, simprocAttr])
    | (refine SX.cond rfl (fun hb => ?_) (fun hb => ?_) <;> ((first | cases hb | (simp only [decide_eq_true_eq, decide_eq_false_iff_not, beq_iff_eq, beq_eq_false_iff_ne, bne_iff_ne, Bool.and_eq_true, Bool.or_eq_true, Bool.not_eq_true', Bool.not_eq_false', Bool.and_eq_false_iff, Bool.or_eq_false_iff, Int.not_lt, Int.not_le] at hb) | skip) <;> (first | (exfalso; omega) | skip)))
    | (refine SX.ret ?_; try simp only [GA, ↓GB, List.filterMap_cons, eq_self, BEq.rfl, simprocAttr])
    | (refine hN _ ?_; clear hN N)
    | ((first | refine hK _ _ (FinI.ret3 ?_) | refine hK _ _ (FinI.nrm3 ?_)); simp only [GA, ↓GB, List.filterMap_cons, eq_self, BEq.rfl, simprocAttr, finP_s, hnt, hT, hj1]; refine Done.out ?_)
    | (clear hN N; first | (refine hN _ ?_; clear hN N) | (clear hN N; first | (refine hN _ ?_; clear hN N) | (clear hN N; first | (refine hN _ ?_; clear hN N) | (clear hN N; first | (refine hN _ ?_; clear hN N) | (clear hN N; first | (refine hN _ ?_; clear hN N) | (refine hN _ ?_; clear hN N))))))
    | (refine bif2.mk (fun hb => ?_) (fun hb => ?_) <;> (try simp only [hb, GA, ↓GB, List.filterMap_cons, eq_self, BEq.rfl, simprocAttr, hnt, hT, hj1]) <;> ((first | cases hb | (simp only [decide_eq_true_eq, decide_eq_false_iff_not, beq_iff_eq, beq_eq_false_iff_ne, bne_iff_ne, Bool.and_eq_true, Bool.or_eq_true, Bool.not_eq_true', Bool.not_eq_false', Bool.and_eq_false_iff, Bool.or_eq_false_iff, Int.not_lt, Int.not_le] at hb) | skip) <;> (first | (exfalso; omega) | skip)))
    | (refine SX.loop (ι := { i : Nat // i ≤ ms.length ∧ ∀ j, j < i → kk t s q (ms.getD j default) = false }) (fun i => ⟨[(0, .one (.c (.loc 0 0))), (2, vv (.int .u64 q)), (4, .one (.c (.loc 2 0))), (7, vv (.int .i64 i.1))], [.cells [.row 1] 69, rrow ms, .cells [.v (.int .i64 t), .v (.string (B s))] 26]⟩) (fun i => ms.length - i.1) ⟨0, Nat.zero_le _, fun j hj => absurd hj (Nat.not_lt_zero j)⟩ ⟨[0, 1, 2], (LeR.of (by rw [hbl]; decide) (by simp only [GA, ↓GB, List.filterMap_cons, eq_self, BEq.rfl, simprocAttr, List.getD_cons_zero, List.getD_cons_succ, or_false, false_or, or_self, or_true, true_or, decide_true]; try (rfl)) (by simp only [GA, ↓GB, List.filterMap_cons, eq_self, BEq.rfl, simprocAttr, List.getD_cons_zero, List.getD_cons_succ, or_false, false_or, or_self, or_true, true_or, decide_true]; try (rfl)) (by decide) (by simp only [GA, ↓GB, List.filterMap_cons, eq_self, BEq.rfl, simprocAttr, List.getD_cons_zero, List.getD_cons_succ, or_false, false_or, or_self, or_true, true_or, decide_true]) (by simp only [GA, ↓GB, List.filterMap_cons, eq_self, BEq.rfl, simprocAttr, List.getD_cons_zero, List.getD_cons_succ, or_false, false_or, or_self, or_true, true_or, decide_true]) (by simp only [GA, ↓GB, List.filterMap_cons, eq_self, BEq.rfl, simprocAttr, List.getD_cons_zero, List.getD_cons_succ, or_false, false_or, or_self, or_true, true_or, decide_true]))⟩ ?_ <;> rintro ⟨i, hi, hno⟩ <;> simp only [] at hi hno ⊢)
    | (refine ⟨_, rfl, mks_key _ _ (by omega), ?_⟩ <;> (try simp only [GA, ↓GB, List.filterMap_cons, eq_self, BEq.rfl, simprocAttr, hnt, hT]))
    | (refine ⟨_, mks_q _ _ (by omega), ?_⟩ <;> (try simp only [GA, ↓GB, List.filterMap_cons, eq_self, BEq.rfl, simprocAttr, hnt, hT]))
    | (refine ⟨_, strEq_to hP (Ty.eqS26 _ _ _ _), ?_⟩ <;> (try simp only [GA, ↓GB, List.filterMap_cons, eq_self, BEq.rfl, simprocAttr, hnt, hT]))
    | (refine SX.block ?_)
    | (refine and_mk ?_ ?_; (focus first | decide | omega | rfl | assumption | (simp only [List.length_append, List.length_cons, List.length_nil, B_size]; omega) | (simp; done)))
    | (refine And.intro ?_ ?_))
  all_goals (try refine Done.mk ?_)
  · (refine hN0 _ _ ⟨[0, 1], _, _, ?_, ?_, ?_, ⟨rfl, rfl⟩⟩; (focus exact LeR.of rfl trivial (by simp only [GA, ↓GB, List.filterMap_cons, eq_self, BEq.rfl, simprocAttr, List.getD_cons_zero, List.getD_cons_succ, or_false, false_or, or_self, or_true, true_or, decide_true]) (by decide) rfl rfl rfl); rotate_left; (focus rfl))
    rw [idxN _ _ i (by omega) (kk_iff.2 (by simp_all)) hno]
    rfl
  · refine ⟨⟨i + 1, by omega, fun j hj => ?_⟩, [0, 1, 2], (LeR.of (by rw [hbl]; decide) (by simp only [GA, ↓GB, List.filterMap_cons, eq_self, BEq.rfl, simprocAttr, List.getD_cons_zero, List.getD_cons_succ, or_false, false_or, or_self, or_true, true_or, decide_true]; try (first | (rw [wI64 (by omega) (by omega)]; rfl) | rfl)) (by simp only [GA, ↓GB, List.filterMap_cons, eq_self, BEq.rfl, simprocAttr, List.getD_cons_zero, List.getD_cons_succ, or_false, false_or, or_self, or_true, true_or, decide_true]; try (first | (rw [wI64 (by omega) (by omega)]; rfl) | rfl)) (by decide) (by simp only [GA, ↓GB, List.filterMap_cons, eq_self, BEq.rfl, simprocAttr, List.getD_cons_zero, List.getD_cons_succ, or_false, false_or, or_self, or_true, true_or, decide_true]) (by simp only [GA, ↓GB, List.filterMap_cons, eq_self, BEq.rfl, simprocAttr, List.getD_cons_zero, List.getD_cons_succ, or_false, false_or, or_self, or_true, true_or, decide_true]) (by simp only [GA, ↓GB, List.filterMap_cons, eq_self, BEq.rfl, simprocAttr, List.getD_cons_zero, List.getD_cons_succ, or_false, false_or, or_self, or_true, true_or, decide_true])), by show ms.length - (i + 1) < ms.length - i; omega⟩
    rcases Nat.lt_or_eq_of_le (Nat.le_of_lt_succ hj) with h | h
    · exact hno j h
    · subst h; rw [← Bool.not_eq_true, kk_iff]; intro hx; simp_all
  · refine ⟨⟨i + 1, by omega, fun j hj => ?_⟩, [0, 1, 2], (LeR.of (by rw [hbl]; decide) (by simp only [GA, ↓GB, List.filterMap_cons, eq_self, BEq.rfl, simprocAttr, List.getD_cons_zero, List.getD_cons_succ, or_false, false_or, or_self, or_true, true_or, decide_true]; try (first | (rw [wI64 (by omega) (by omega)]; rfl) | rfl)) (by simp only [GA, ↓GB, List.filterMap_cons, eq_self, BEq.rfl, simprocAttr, List.getD_cons_zero, List.getD_cons_succ, or_false, false_or, or_self, or_true, true_or, decide_true]; try (first | (rw [wI64 (by omega) (by omega)]; rfl) | rfl)) (by decide) (by simp only [GA, ↓GB, List.filterMap_cons, eq_self, BEq.rfl, simprocAttr, List.getD_cons_zero, List.getD_cons_succ, or_false, false_or, or_self, or_true, true_or, decide_true]) (by simp only [GA, ↓GB, List.filterMap_cons, eq_self, BEq.rfl, simprocAttr, List.getD_cons_zero, List.getD_cons_succ, or_false, false_or, or_self, or_true, true_or, decide_true]) (by simp only [GA, ↓GB, List.filterMap_cons, eq_self, BEq.rfl, simprocAttr, List.getD_cons_zero, List.getD_cons_succ, or_false, false_or, or_self, or_true, true_or, decide_true])), by show ms.length - (i + 1) < ms.length - i; omega⟩
    rcases Nat.lt_or_eq_of_le (Nat.le_of_lt_succ hj) with h | h
    · exact hno j h
    · subst h; rw [← Bool.not_eq_true, kk_iff]; intro hx; simp_all
  · (refine hN0 _ _ ⟨[0, 1], _, _, ?_, ?_, ?_, ⟨rfl, rfl⟩⟩; (focus exact LeR.of rfl trivial (by simp only [GA, ↓GB, List.filterMap_cons, eq_self, BEq.rfl, simprocAttr, List.getD_cons_zero, List.getD_cons_succ, or_false, false_or, or_self, or_true, true_or, decide_true]) (by decide) rfl rfl rfl); rotate_left; (focus rfl))
    rw [idxNone _ _ (fun j hj => hno j (by omega))]
    rfl
theorem rstate_ctr (ms : List Mk) (hms : ms.length ≤ 1000000) (t : Int) (s : List UInt8) (q : Int) : Ctr Tryd.prog [] 37 [.cells [.row 1] 69, rrow ms] [.one (.c (.loc 0 0)), .one (.agg [.v (.int .i64 t), .v (.string (B s))]), vv (.int .u64 q)]
    (fun os v => os = [.cells [.row 1] 69, rrow ms] ∧ v = .tup [.c (.v (.int .i64 (stateR ms t s q).1)), .c (.v (.string (B (stateR ms t s q).2)))]) := by
  refine Ctr.less ?_
  rcases idx_find ms (kk t s q) with ⟨h1, _⟩ | ⟨i, hi, h1, _⟩
  · have e : stateR ms t s q = (0, []) := by unfold stateR; rw [if_pos h1]
    rw [e]
    intro X0 hP0 hG0 N0 hN0
    refine CallVC.inline (f := 37) (by rw [hP0]; exact Tryd.func37) rfl Tryd.ntmps37 rfl (by simp) ?_
    intro X K hU hnt hbl hK
    have hP : X.P = Tryd.prog := by rw [hU.P, hP0]
    have hG := hG0.under hU
    have hT : aggOf X.P 26 = some true ∧ szOf X.P 26 = some 2 ∧ calleeOk X.P 92 = true ∧ fieldOff X.P 69 0 = some 0 ∧ aggOf X.P 67 = some false ∧ szOf X.P 67 = some 1 ∧ elemSz X.P 67 = some (74, 5) ∧ fieldOff X.P 74 2 = some 3 ∧ aggOf X.P 3 = some false ∧ szOf X.P 3 = some 1 ∧ fieldOff X.P 74 3 = some 4 ∧ aggOf X.P 9 = some false ∧ szOf X.P 9 = some 1 := by rw [hP]; exact ⟨Ty.ag26, Ty.sz26, Ty.co92, Ty.fo69_0, Ty.ag67, Ty.sz67, Ty.el67, Ty.fo74_2, Ty.ag3, Ty.sz3, Ty.fo74_3, Ty.ag9, Ty.sz9⟩
    simp only [GA, ↓GB, List.filterMap_cons, eq_self, BEq.rfl, simprocAttr] at hbl ⊢
    repeat' (first
      | (refine SX.seqK ?_; intro N hN)
      | ((first | (refine SX.ops ?_) | (refine SX.planT (id := 4) [.q [(0, [0]), (1, [15]), (2, [16]), (3, [17]), (4, [8]), (5, [18, 19]), (6, [20]), (7, [21]), (8, [0]), (9, [23]), (10, [24]), (11, [25]), (12, [8]), (13, [26, 27]), (14, [28]), (15, [29]), (16, [22]), (17, [30])] none] ?_ ?_ ?_; (focus first | (rw [hP]; kernel_rfl) | (rw [hU1P, hP]; kernel_rfl)); (focus kernel_rfl))); simp only [GA, ↓GB, List.filterMap_cons, eq_self, BEq.rfl, simprocAttr, hnt, hT, h1])
      | ((first | refine SX.skip ?_ | refine SX.exit ?_ | refine SX.label ?_); try simp only [GA, ↓GB, List.filterMap_cons, eq_self, BEq.rfl, simprocAttr])
      | (refine SX.cond rfl (fun hb => ?_) (fun hb => ?_) <;> ((first | cases hb | (simp only [decide_eq_true_eq, decide_eq_false_iff_not, beq_iff_eq, beq_eq_false_iff_ne, bne_iff_ne, Bool.and_eq_true, Bool.or_eq_true, Bool.not_eq_true', Bool.not_eq_false', Bool.and_eq_false_iff, Bool.or_eq_false_iff, Int.not_lt, Int.not_le] at hb) | skip) <;> (first | (exfalso; omega) | skip)))
      | (refine SX.ret ?_; try simp only [GA, ↓GB, List.filterMap_cons, eq_self, BEq.rfl, simprocAttr])
      | (refine hN _ ?_; clear hN N)
      | ((first | refine hK _ _ (FinI.ret3 ?_) | refine hK _ _ (FinI.nrm3 ?_)); simp only [GA, ↓GB, List.filterMap_cons, eq_self, BEq.rfl, simprocAttr, finP_s, hnt, hT, h1]; refine Done.out ?_)
      | (clear hN N; first | (refine hN _ ?_; clear hN N) | (clear hN N; first | (refine hN _ ?_; clear hN N) | (clear hN N; first | (refine hN _ ?_; clear hN N) | (clear hN N; first | (refine hN _ ?_; clear hN N) | (clear hN N; first | (refine hN _ ?_; clear hN N) | (refine hN _ ?_; clear hN N))))))
      | (refine bif2.mk (fun hb => ?_) (fun hb => ?_) <;> (try simp only [hb, GA, ↓GB, List.filterMap_cons, eq_self, BEq.rfl, simprocAttr, hnt, hT, h1]) <;> ((first | cases hb | (simp only [decide_eq_true_eq, decide_eq_false_iff_not, beq_iff_eq, beq_eq_false_iff_ne, bne_iff_ne, Bool.and_eq_true, Bool.or_eq_true, Bool.not_eq_true', Bool.not_eq_false', Bool.and_eq_false_iff, Bool.or_eq_false_iff, Int.not_lt, Int.not_le] at hb) | skip) <;> (first | (exfalso; omega) | skip)))
      | ((first | (refine Ctr.use (rfind_ctr ms hms t s q) hP ?_ [0,1] ?_ rfl rfl ?_; (focus (intro p hp; cases hp)); (focus (refine LeR.of rfl trivial ?_ ?_ ?_ ?_ ?_ <;> first | decide | (simp only [GA, ↓GB, List.filterMap_cons, eq_self, BEq.rfl, simprocAttr, List.getD_cons_zero, List.getD_cons_succ, or_false, false_or, or_self, or_true, true_or, decide_true]; done))); intro os' s hR; obtain ⟨rfl, rfl⟩ := hR)); simp only [GA, ↓GB, List.filterMap_cons, eq_self, BEq.rfl, simprocAttr, hnt, hT, h1])
      | (refine SX.block ?_)
      | (refine and_mk ?_ ?_; (focus first | decide | omega | rfl | assumption | (simp only [List.length_append, List.length_cons, List.length_nil, B_size]; omega) | (simp; done)))
      | (refine And.intro ?_ ?_))
    all_goals (try refine Done.mk ?_)
    · have e : LO.row 74 5 ms.length (mks ms) = rrow ms := rfl
      rw [e]
      (refine hN0 _ _ ⟨[0, 1], _, _, ?_, ?_, ?_, ⟨rfl, rfl⟩⟩; (focus exact LeR.of rfl trivial (by simp only [GA, ↓GB, List.filterMap_cons, eq_self, BEq.rfl, simprocAttr, List.getD_cons_zero, List.getD_cons_succ, or_false, false_or, or_self, or_true, true_or, decide_true]) (by decide) rfl rfl rfl); rotate_left; (focus rfl))
      rfl
  · have e : stateR ms t s q = ((ms.getD i default).st, (ms.getD i default).d) := by unfold stateR; rw [h1, if_neg (by omega)]; rfl
    rw [e]
    intro X0 hP0 hG0 N0 hN0
    refine CallVC.inline (f := 37) (by rw [hP0]; exact Tryd.func37) rfl Tryd.ntmps37 rfl (by simp) ?_
    intro X K hU hnt hbl hK
    have hP : X.P = Tryd.prog := by rw [hU.P, hP0]
    have hG := hG0.under hU
    have hT : aggOf X.P 26 = some true ∧ szOf X.P 26 = some 2 ∧ calleeOk X.P 92 = true ∧ fieldOff X.P 69 0 = some 0 ∧ aggOf X.P 67 = some false ∧ szOf X.P 67 = some 1 ∧ elemSz X.P 67 = some (74, 5) ∧ fieldOff X.P 74 2 = some 3 ∧ aggOf X.P 3 = some false ∧ szOf X.P 3 = some 1 ∧ fieldOff X.P 74 3 = some 4 ∧ aggOf X.P 9 = some false ∧ szOf X.P 9 = some 1 := by rw [hP]; exact ⟨Ty.ag26, Ty.sz26, Ty.co92, Ty.fo69_0, Ty.ag67, Ty.sz67, Ty.el67, Ty.fo74_2, Ty.ag3, Ty.sz3, Ty.fo74_3, Ty.ag9, Ty.sz9⟩
    simp only [GA, ↓GB, List.filterMap_cons, eq_self, BEq.rfl, simprocAttr] at hbl ⊢
    repeat' (first
      | (refine SX.seqK ?_; intro N hN)
      | ((first | (refine SX.ops ?_) | (refine SX.planT (id := 4) [.q [(0, [0]), (1, [15]), (2, [16]), (3, [17]), (4, [8]), (5, [18, 19]), (6, [20]), (7, [21]), (8, [0]), (9, [23]), (10, [24]), (11, [25]), (12, [8]), (13, [26, 27]), (14, [28]), (15, [29]), (16, [22]), (17, [30])] none] ?_ ?_ ?_; (focus first | (rw [hP]; kernel_rfl) | (rw [hU1P, hP]; kernel_rfl)); (focus kernel_rfl))); simp only [GA, ↓GB, List.filterMap_cons, eq_self, BEq.rfl, simprocAttr, hnt, hT, h1])
      | ((first | refine SX.skip ?_ | refine SX.exit ?_ | refine SX.label ?_); try simp only [GA, ↓GB, List.filterMap_cons, eq_self, BEq.rfl, simprocAttr])
      | (refine SX.cond rfl (fun hb => ?_) (fun hb => ?_) <;> ((first | cases hb | (simp only [decide_eq_true_eq, decide_eq_false_iff_not, beq_iff_eq, beq_eq_false_iff_ne, bne_iff_ne, Bool.and_eq_true, Bool.or_eq_true, Bool.not_eq_true', Bool.not_eq_false', Bool.and_eq_false_iff, Bool.or_eq_false_iff, Int.not_lt, Int.not_le] at hb) | skip) <;> (first | (exfalso; omega) | skip)))
      | (refine SX.ret ?_; try simp only [GA, ↓GB, List.filterMap_cons, eq_self, BEq.rfl, simprocAttr])
      | (refine hN _ ?_; clear hN N)
      | ((first | refine hK _ _ (FinI.ret3 ?_) | refine hK _ _ (FinI.nrm3 ?_)); simp only [GA, ↓GB, List.filterMap_cons, eq_self, BEq.rfl, simprocAttr, finP_s, hnt, hT, h1]; refine Done.out ?_)
      | (clear hN N; first | (refine hN _ ?_; clear hN N) | (clear hN N; first | (refine hN _ ?_; clear hN N) | (clear hN N; first | (refine hN _ ?_; clear hN N) | (clear hN N; first | (refine hN _ ?_; clear hN N) | (clear hN N; first | (refine hN _ ?_; clear hN N) | (refine hN _ ?_; clear hN N))))))
      | (refine bif2.mk (fun hb => ?_) (fun hb => ?_) <;> (try simp only [hb, GA, ↓GB, List.filterMap_cons, eq_self, BEq.rfl, simprocAttr, hnt, hT, h1]) <;> ((first | cases hb | (simp only [decide_eq_true_eq, decide_eq_false_iff_not, beq_iff_eq, beq_eq_false_iff_ne, bne_iff_ne, Bool.and_eq_true, Bool.or_eq_true, Bool.not_eq_true', Bool.not_eq_false', Bool.and_eq_false_iff, Bool.or_eq_false_iff, Int.not_lt, Int.not_le] at hb) | skip) <;> (first | (exfalso; omega) | skip)))
      | ((first | (refine Ctr.use (rfind_ctr ms hms t s q) hP ?_ [0,1] ?_ rfl rfl ?_; (focus (intro p hp; cases hp)); (focus (refine LeR.of rfl trivial ?_ ?_ ?_ ?_ ?_ <;> first | decide | (simp only [GA, ↓GB, List.filterMap_cons, eq_self, BEq.rfl, simprocAttr, List.getD_cons_zero, List.getD_cons_succ, or_false, false_or, or_self, or_true, true_or, decide_true]; done))); intro os' s hR; obtain ⟨rfl, rfl⟩ := hR)); simp only [GA, ↓GB, List.filterMap_cons, eq_self, BEq.rfl, simprocAttr, hnt, hT, h1])
      | (refine ⟨_, mks_st _ _ (by omega), ?_⟩ <;> (try simp only [GA, ↓GB, List.filterMap_cons, eq_self, BEq.rfl, simprocAttr, hnt, hT]))
      | (refine ⟨_, mks_d _ _ (by omega), ?_⟩ <;> (try simp only [GA, ↓GB, List.filterMap_cons, eq_self, BEq.rfl, simprocAttr, hnt, hT]))
      | (refine SX.block ?_)
      | (refine and_mk ?_ ?_; (focus first | decide | omega | rfl | assumption | (simp only [List.length_append, List.length_cons, List.length_nil, B_size]; omega) | (simp; done)))
      | (refine And.intro ?_ ?_))
    all_goals (try refine Done.mk ?_)
    · have e : LO.row 74 5 ms.length (mks ms) = rrow ms := rfl
      rw [e]
      (refine hN0 _ _ ⟨[0, 1], _, _, ?_, ?_, ?_, ⟨rfl, rfl⟩⟩; (focus exact LeR.of rfl trivial (by simp only [GA, ↓GB, List.filterMap_cons, eq_self, BEq.rfl, simprocAttr, List.getD_cons_zero, List.getD_cons_succ, or_false, false_or, or_self, or_true, true_or, decide_true]) (by decide) rfl rfl rfl); rotate_left; (focus rfl))
      rfl
end Go.Proofs.YtbdacbcpniegiaaDoor
namespace Go.Proofs.YtbdacbcpniegiaaDoor
open Go Go.RowKit Go.Proofs Go.Sx
set_option maxHeartbeats 4000000
set_option maxRecDepth 100000
set_option linter.unusedSimpArgs false
set_option linter.unusedVariables false
theorem filter_step (ms : List Mk) (p : Mk → Bool) (i : Nat) (h : i < ms.length) : (ms.take (i + 1)).filter p = (ms.take i).filter p ++ (if p (ms.getD i default) then [ms.getD i default] else []) := by
  rw [List.take_add_one, List.getElem?_eq_getElem h, List.filter_append]
  congr 1
  rw [List.getD_eq_getElem?_getD, List.getElem?_eq_getElem h]
  simp [List.filter_cons]
theorem rrow_snoc (l : List Mk) (m : Mk) : LO.row 74 5 (l.length + 1) (mks l ++ [.int .i64 m.t, .string (B m.s), .int .u64 m.q, .int .i64 m.st, .string (B m.d)]) = rrow (l ++ [m]) := by simp [rrow, mks_append, mks, Mk.cells]
theorem pend_step (ms : List Mk) (i : Nat) (h : i < ms.length) (hp : (ms.getD i default).st ≠ 1) : (ms.take (i + 1)).filter (fun m => !isPend m) = (ms.take i).filter (fun m => !isPend m) ++ [ms.getD i default] := by
  rw [filter_step _ _ _ h, if_pos (by simp only [isPend, Bool.not_eq_true', decide_eq_false_iff_not]; exact hp)]
theorem pend_skip (ms : List Mk) (i : Nat) (h : i < ms.length) (hp : ((ms.getD i default).st != 1) = false) : (ms.take (i + 1)).filter (fun m => !isPend m) = (ms.take i).filter (fun m => !isPend m) := by
  rw [filter_step _ _ _ h, if_neg (by simp only [isPend, Bool.not_eq_true', decide_eq_false_iff_not]; simpa using hp), List.append_nil]
theorem rerase_ctr (ms : List Mk) (hms : ms.length ≤ 1000000) : Ctr Tryd.prog [] 35 [.cells [.row 1] 69, rrow ms] [.one (.c (.loc 0 0))]
    (fun os v => os = [.cells [.row 2] 69, .gone, rrow (eraseL ms)] ∧ v = .tup []) := by
  refine Ctr.less ?_
  intro X0 hP0 hG0 N0 hN0
  refine CallVC.inline (f := 35) (by rw [hP0]; exact Tryd.func35) rfl Tryd.ntmps35 rfl (by simp) ?_
  intro X K hU hnt hbl hK
  have hP : X.P = Tryd.prog := by rw [hU.P, hP0]
  have hG := hG0.under hU
  have hT : fieldOff X.P 69 0 = some 0 ∧ aggOf X.P 67 = some false ∧ szOf X.P 67 = some 1 ∧ X.P.underlying 67 = some (TypeDesc.slice 74) ∧ elemSz X.P 67 = some (74, 5) ∧ fieldOff X.P 74 2 = some 3 ∧ aggOf X.P 3 = some false ∧ szOf X.P 3 = some 1 ∧ aggOf X.P 74 = some true ∧ szOf X.P 74 = some 5 ∧ zeroCells X.P 74 = some [(Value.int IntKind.i64 0), (Value.string { data := #[] }), (Value.int IntKind.u64 0), (Value.int IntKind.i64 0), (Value.string { data := #[] })] ∧ elemInf X.P 67 = some (74, 5, 56, (Value.agg #[(Value.int IntKind.i64 0), (Value.string { data := #[] }), (Value.int IntKind.u64 0), (Value.int IntKind.i64 0), (Value.string { data := #[] })])) ∧ isStrT X.P 67 = false := by rw [hP]; exact ⟨Ty.fo69_0, Ty.ag67, Ty.sz67, Tryd.underlying67, Ty.el67, Ty.fo74_2, Ty.ag3, Ty.sz3, Ty.ag74, Ty.sz74, Ty.ze74, Ty.ei67, Ty.is67⟩
  simp only [GA, ↓GB, List.filterMap_cons, eq_self, BEq.rfl, simprocAttr] at hbl ⊢
  repeat' (first
    | (refine SX.asRow (t := 2) 74 5 rfl ⟨_, rfl⟩ ?_)
    | (refine SX.seqK ?_; intro N hN)
    | ((first | (refine SX.ops ?_)); simp only [GA, ↓GB, List.filterMap_cons, eq_self, BEq.rfl, simprocAttr, hnt, hT, hnt])
    | ((first | refine SX.skip ?_ | refine SX.exit ?_ | refine SX.label ?_); try simp only [GA, ↓GB, List.filterMap_cons, eq_self, BEq.rfl, simprocAttr])
    | (refine SX.cond rfl (fun hb => ?_) (fun hb => ?_) <;> ((first | cases hb | (simp only [decide_eq_true_eq, decide_eq_false_iff_not, beq_iff_eq, beq_eq_false_iff_ne, bne_iff_ne, Bool.and_eq_true, Bool.or_eq_true, Bool.not_eq_true', Bool.not_eq_false', Bool.and_eq_false_iff, Bool.or_eq_false_iff, Int.not_lt, Int.not_le] at hb) | skip) <;> (first | (exfalso; omega) | skip)))
    | (refine SX.ret ?_; try simp only [GA, ↓GB, List.filterMap_cons, eq_self, BEq.rfl, simprocAttr])
    | (refine hN _ ?_; clear hN N)
    | ((first | refine hK _ _ (FinI.ret3 ?_) | refine hK _ _ (FinI.nrm3 ?_)); simp only [GA, ↓GB, List.filterMap_cons, eq_self, BEq.rfl, simprocAttr, finP_s, hnt, hT, hnt]; refine Done.out ?_)
    | (clear hN N; first | (refine hN _ ?_; clear hN N) | (clear hN N; first | (refine hN _ ?_; clear hN N) | (clear hN N; first | (refine hN _ ?_; clear hN N) | (clear hN N; first | (refine hN _ ?_; clear hN N) | (clear hN N; first | (refine hN _ ?_; clear hN N) | (refine hN _ ?_; clear hN N))))))
    | (refine bif2.mk (fun hb => ?_) (fun hb => ?_) <;> (try simp only [hb, GA, ↓GB, List.filterMap_cons, eq_self, BEq.rfl, simprocAttr, hnt, hT, hnt]) <;> ((first | cases hb | (simp only [decide_eq_true_eq, decide_eq_false_iff_not, beq_iff_eq, beq_eq_false_iff_ne, bne_iff_ne, Bool.and_eq_true, Bool.or_eq_true, Bool.not_eq_true', Bool.not_eq_false', Bool.and_eq_false_iff, Bool.or_eq_false_iff, Int.not_lt, Int.not_le] at hb) | skip) <;> (first | (exfalso; omega) | skip)))
    | (refine SX.loop (ι := { i : Nat // i ≤ ms.length }) (fun i => ⟨[(0, .one (.c (.loc 0 0))), (2, .one (.c (.row 2))), (3, vv (.int .i64 i.1))], [.cells [.row 1] 69, rrow ms, rrow ((ms.take i.1).filter fun m => !isPend m)]⟩) (fun i => ms.length - i.1) ⟨0, Nat.zero_le _⟩ ⟨[0, 1, 2], (LeR.of (by rw [hbl]; decide) (by simp only [GA, ↓GB, List.filterMap_cons, eq_self, BEq.rfl, simprocAttr, List.getD_cons_zero, List.getD_cons_succ, or_false, false_or, or_self, or_true, true_or, decide_true]; try (rfl)) (by simp only [GA, ↓GB, List.filterMap_cons, eq_self, BEq.rfl, simprocAttr, List.getD_cons_zero, List.getD_cons_succ, or_false, false_or, or_self, or_true, true_or, decide_true]; try (rfl)) (by decide) (by simp only [GA, ↓GB, List.filterMap_cons, eq_self, BEq.rfl, simprocAttr, List.getD_cons_zero, List.getD_cons_succ, or_false, false_or, or_self, or_true, true_or, decide_true]) (by simp only [GA, ↓GB, List.filterMap_cons, eq_self, BEq.rfl, simprocAttr, List.getD_cons_zero, List.getD_cons_succ, or_false, false_or, or_self, or_true, true_or, decide_true]) (by simp only [GA, ↓GB, List.filterMap_cons, eq_self, BEq.rfl, simprocAttr, List.getD_cons_zero, List.getD_cons_succ, or_false, false_or, or_self, or_true, true_or, decide_true]))⟩ ?_ <;> rintro ⟨i, hi⟩ <;> simp only [] at hi ⊢)
    | (refine ⟨_, mks_st _ _ (by omega), ?_⟩ <;> (try simp only [GA, ↓GB, List.filterMap_cons, eq_self, BEq.rfl, simprocAttr, hnt, hT]))
    | (refine ⟨(ms.getD i default).cells, rfl, mks_at _ _ (by omega), ?_⟩ <;> simp only [Mk.cells, GA, ↓GB, List.filterMap_cons, eq_self, BEq.rfl, simprocAttr, hnt, hT])
    | (refine SX.block ?_)
    | (refine and_mk ?_ ?_; (focus first | decide | omega | rfl | assumption | (simp only [List.length_append, List.length_cons, List.length_nil, B_size]; omega) | (simp; done)))
    | (refine And.intro ?_ ?_))
  all_goals (try refine Done.mk ?_)
  · have := List.length_filter_le (fun m => !isPend m) (ms.take i)
    rw [List.length_take] at this
    omega
  · refine ⟨⟨i + 1, by omega⟩, [0, 1, 4], (LeR.of (by rw [hbl]; decide) (by simp only [GA, ↓GB, List.filterMap_cons, eq_self, BEq.rfl, simprocAttr, List.getD_cons_zero, List.getD_cons_succ, or_false, false_or, or_self, or_true, true_or, decide_true]; try (first | (rw [wI64 (by omega) (by omega)]; rfl) | (rw [rrow_snoc, pend_step _ _ (by omega) hb]) | rfl)) (by simp only [GA, ↓GB, List.filterMap_cons, eq_self, BEq.rfl, simprocAttr, List.getD_cons_zero, List.getD_cons_succ, or_false, false_or, or_self, or_true, true_or, decide_true]; try (first | (rw [wI64 (by omega) (by omega)]; rfl) | (rw [rrow_snoc, pend_step _ _ (by omega) hb]) | rfl)) (by decide) (by simp only [GA, ↓GB, List.filterMap_cons, eq_self, BEq.rfl, simprocAttr, List.getD_cons_zero, List.getD_cons_succ, or_false, false_or, or_self, or_true, true_or, decide_true]) (by simp only [GA, ↓GB, List.filterMap_cons, eq_self, BEq.rfl, simprocAttr, List.getD_cons_zero, List.getD_cons_succ, or_false, false_or, or_self, or_true, true_or, decide_true]) (by simp only [GA, ↓GB, List.filterMap_cons, eq_self, BEq.rfl, simprocAttr, List.getD_cons_zero, List.getD_cons_succ, or_false, false_or, or_self, or_true, true_or, decide_true])), by show ms.length - (i + 1) < ms.length - i; omega⟩
  · refine ⟨⟨i + 1, by omega⟩, [0, 1, 2], (LeR.of (by rw [hbl]; decide) (by simp only [GA, ↓GB, List.filterMap_cons, eq_self, BEq.rfl, simprocAttr, List.getD_cons_zero, List.getD_cons_succ, or_false, false_or, or_self, or_true, true_or, decide_true]; try (first | (rw [wI64 (by omega) (by omega)]; rfl) | (rw [pend_skip _ _ (by omega) hb]) | rfl)) (by simp only [GA, ↓GB, List.filterMap_cons, eq_self, BEq.rfl, simprocAttr, List.getD_cons_zero, List.getD_cons_succ, or_false, false_or, or_self, or_true, true_or, decide_true]; try (first | (rw [wI64 (by omega) (by omega)]; rfl) | (rw [pend_skip _ _ (by omega) hb]) | rfl)) (by decide) (by simp only [GA, ↓GB, List.filterMap_cons, eq_self, BEq.rfl, simprocAttr, List.getD_cons_zero, List.getD_cons_succ, or_false, false_or, or_self, or_true, true_or, decide_true]) (by simp only [GA, ↓GB, List.filterMap_cons, eq_self, BEq.rfl, simprocAttr, List.getD_cons_zero, List.getD_cons_succ, or_false, false_or, or_self, or_true, true_or, decide_true]) (by simp only [GA, ↓GB, List.filterMap_cons, eq_self, BEq.rfl, simprocAttr, List.getD_cons_zero, List.getD_cons_succ, or_false, false_or, or_self, or_true, true_or, decide_true])), by show ms.length - (i + 1) < ms.length - i; omega⟩
  · obtain rfl : i = ms.length := by omega
    rw [List.take_length, show ms.filter (fun m => !isPend m) = eraseL ms from rfl]
    (refine hN0 _ _ ⟨[0, 1, 2], _, _, ?_, ?_, ?_, ⟨rfl, rfl⟩⟩; (focus exact LeR.of rfl trivial (by simp only [GA, ↓GB, List.filterMap_cons, eq_self, BEq.rfl, simprocAttr, List.getD_cons_zero, List.getD_cons_succ, or_false, false_or, or_self, or_true, true_or, decide_true]) (by decide) rfl rfl rfl); rotate_left; (focus rfl))
    rfl
section
variable {X : Ctx} {c : Cfg} {N : Cfg → Prop} {d : Option Tmp} {ty ty1 : TypeId} {pos pos1 : String} {af af1 : Array Edge} {g : Option (Nat × Bool)}
theorem PA.marks {x0 x : Operand} {lo hi : Option Operand} {i j l h : Nat} {t1 : Tmp} {l' h' : Option Int} (L0 ms R : List Mk) (hR : R = L0 ++ (ms.drop l).take (h - l)) (hP : X.P = Tryd.prog)
    (hx : c.ev x = .one (.c (.row j))) (hlo : optI c lo = some l') (hl : l'.getD 0 = (l : Int)) (hhi : optI c hi = some h') (hh : h'.getD ms.length = (h : Int)) (hlh : l ≤ h) (hhm : h ≤ ms.length)
    (hx0 : (c.put (some t1) (.one (.c .dead))).ev x0 = .one (.c (.row i))) (hi0 : c.loc[i]? = some (rrow L0)) (hj0 : c.loc[j]? = some (rrow ms)) (hms : L0.length + ms.length ≤ 3000000) (hd1 : dOk (some t1) X.nt = true)
    (hN : nxt X d N { (c.put (some t1) (.one (.c .dead))) with loc := c.loc.set i .gone ++ [rrow R] } (.one (.c (.row c.loc.length)))) :
    PA X ⟨some t1, .slice 67 x lo hi none, ty1, pos1, af1, none⟩ ⟨d, .call { callee := .builtin .append, args := #[x0, .tmp t1], argTypes := #[67, 67] }, ty, pos, af, none⟩ c N := by
  subst hR
  have hlen : ((ms.drop l).take (h - l)).length = h - l := by rw [List.length_take, List.length_drop]; omega
  have e : rrow (L0 ++ (ms.drop l).take (h - l)) = LO.row 74 5 (L0.length + (h - l)) (mks L0 ++ mks ((ms.drop l).take (h - l))) := by
    show LO.row 74 5 _ _ = _
    rw [List.length_append, hlen, mks_append]
  rw [e] at hN
  refine PA.part (mks ((ms.drop l).take (h - l))) hx hlo hhi hx0 hi0 hj0 (by rw [hP]; exact Ty.ei67) (by rw [hP]; exact Ty.el67) (by omega) (by omega) (by omega) (by rw [hl, hh]; simp) (by rw [hl, Int.toNat_natCast, mks_drop, mks_take]) (mks_one _) ?_ ?_ hd1 hN
  · simp only [maxLen]; omega
  · omega
end
theorem tail_part (ms L : List Mk) (k : Nat) : L ++ ms.drop k = L ++ (ms.drop k).take (ms.length - k) := by rw [List.take_of_length_le (l := ms.drop k) (Nat.le_of_eq List.length_drop)]
theorem rcut_ctr (ms : List Mk) (h0 : 0 < ms.length) (hms : ms.length ≤ 1000000) : Ctr Tryd.prog [] 96 [.cells [.row 1] 69, rrow ms] [.one (.c (.loc 0 0))]
    (fun os v => os = [.cells [.row 2] 69, .gone, rrow (cutR ms)] ∧ v = .tup []) := by
  refine Ctr.less ?_
  intro X0 hP0 hG0 N0 hN0
  refine CallVC.inline (f := 96) (by rw [hP0]; exact Tryd.func96) rfl Tryd.ntmps96 rfl (by simp) ?_
  intro X K hU hnt hbl hK
  have hP : X.P = Tryd.prog := by rw [hU.P, hP0]
  have hG := hG0.under hU
  have hT : fieldOff X.P 69 0 = some 0 ∧ aggOf X.P 67 = some false ∧ szOf X.P 67 = some 1 ∧ X.P.underlying 67 = some (TypeDesc.slice 74) ∧ elemSz X.P 67 = some (74, 5) ∧ fieldOff X.P 74 1 = some 2 ∧ aggOf X.P 22 = some false ∧ szOf X.P 22 = some 1 ∧ isStrT X.P 67 = false ∧ elemInf X.P 67 = some (74, 5, 56, (Value.agg #[(Value.int IntKind.i64 0), (Value.string { data := #[] }), (Value.int IntKind.u64 0), (Value.int IntKind.i64 0), (Value.string { data := #[] })])) := by rw [hP]; exact ⟨Ty.fo69_0, Ty.ag67, Ty.sz67, Tryd.underlying67, Ty.el67, Ty.fo74_1, Ty.ag22, Ty.sz22, Ty.is67, Ty.ei67⟩
  simp only [GA, ↓GB, List.filterMap_cons, eq_self, BEq.rfl, simprocAttr] at hbl ⊢
  have hj1 := True.intro
  repeat' (first
    | (refine SX.asRow (t := 4) 74 5 rfl ⟨_, rfl⟩ ?_)
    | (refine SX.partApp (id := 7) (pre := [_, _, _, _, _, _]) rfl ?_ <;> (simp only [GA, ↓GB, List.filterMap_cons, eq_self, BEq.rfl, simprocAttr, hnt, hT, vcPre_n, vcPre_s]))
    | (refine SX.partApp (id := 8) (pre := [_, _, _, _, _, _, _, _]) rfl ?_ <;> (simp only [GA, ↓GB, List.filterMap_cons, eq_self, BEq.rfl, simprocAttr, hnt, hT, vcPre_n, vcPre_s, hj1]))
    | (refine SX.seqK ?_; intro N hN)
    | ((first | (refine SX.ops ?_) | (refine SX.planT (id := 4) [.q [(0, [0]), (1, [14]), (2, [15]), (3, [16]), (4, [3]), (5, [17, 18]), (6, [19]), (7, [20]), (8, [0]), (9, [22]), (10, [23]), (11, [24]), (12, [2]), (13, [25, 26]), (14, [27]), (15, [28]), (16, [21, 29])] none] ?_ ?_ ?_; (focus first | (rw [hP]; kernel_rfl) | (rw [hU1P, hP]; kernel_rfl)); (focus kernel_rfl))); simp only [GA, ↓GB, List.filterMap_cons, eq_self, BEq.rfl, simprocAttr, hnt, hT, hnt, vcPre_n, vcPre_s, hj1])
    | ((first | refine SX.skip ?_ | refine SX.exit ?_ | refine SX.label ?_); try simp only [GA, ↓GB, List.filterMap_cons, eq_self, BEq.rfl, simprocAttr])
    | (refine SX.cond rfl (fun hb => ?_) (fun hb => ?_) <;> ((first | cases hb | (simp only [decide_eq_true_eq, decide_eq_false_iff_not, beq_iff_eq, beq_eq_false_iff_ne, bne_iff_ne, Bool.and_eq_true, Bool.or_eq_true, Bool.not_eq_true', Bool.not_eq_false', Bool.and_eq_false_iff, Bool.or_eq_false_iff, Int.not_lt, Int.not_le] at hb) | skip) <;> (first | (exfalso; omega) | skip)))
    | (refine SX.ret ?_; try simp only [GA, ↓GB, List.filterMap_cons, eq_self, BEq.rfl, simprocAttr])
    | (refine hN _ ?_; clear hN N)
    | ((first | refine hK _ _ (FinI.ret3 ?_) | refine hK _ _ (FinI.nrm3 ?_)); simp only [GA, ↓GB, List.filterMap_cons, eq_self, BEq.rfl, simprocAttr, finP_s, hnt, hT, hnt, vcPre_n, vcPre_s, hj1]; refine Done.out ?_)
    | (clear hN N; first | (refine hN _ ?_; clear hN N) | (clear hN N; first | (refine hN _ ?_; clear hN N) | (clear hN N; first | (refine hN _ ?_; clear hN N) | (clear hN N; first | (refine hN _ ?_; clear hN N) | (clear hN N; first | (refine hN _ ?_; clear hN N) | (refine hN _ ?_; clear hN N))))))
    | (refine bif2.mk (fun hb => ?_) (fun hb => ?_) <;> (try simp only [hb, GA, ↓GB, List.filterMap_cons, eq_self, BEq.rfl, simprocAttr, hnt, hT, hnt, vcPre_n, vcPre_s, hj1]) <;> ((first | cases hb | (simp only [decide_eq_true_eq, decide_eq_false_iff_not, beq_iff_eq, beq_eq_false_iff_ne, bne_iff_ne, Bool.and_eq_true, Bool.or_eq_true, Bool.not_eq_true', Bool.not_eq_false', Bool.and_eq_false_iff, Bool.or_eq_false_iff, Int.not_lt, Int.not_le] at hb) | skip) <;> (first | (exfalso; omega) | skip)))
    | (refine SX.loop (ι := { i : Nat // i ≤ ms.length }) (fun i => ⟨[(0, .one (.c (.loc 0 0))), (2, vv (.int .i64 (cutAt ms i.1))), (3, vv (.int .i64 i.1))], [.cells [.row 1] 69, rrow ms]⟩) (fun i => ms.length - i.1) ⟨0, Nat.zero_le _⟩ ⟨[0, 1], (LeR.of (by rw [hbl]; decide) (by simp only [GA, ↓GB, List.filterMap_cons, eq_self, BEq.rfl, simprocAttr, List.getD_cons_zero, List.getD_cons_succ, or_false, false_or, or_self, or_true, true_or, decide_true]; try (rfl)) (by simp only [GA, ↓GB, List.filterMap_cons, eq_self, BEq.rfl, simprocAttr, List.getD_cons_zero, List.getD_cons_succ, or_false, false_or, or_self, or_true, true_or, decide_true]; try (rfl)) (by decide) (by simp only [GA, ↓GB, List.filterMap_cons, eq_self, BEq.rfl, simprocAttr, List.getD_cons_zero, List.getD_cons_succ, or_false, false_or, or_self, or_true, true_or, decide_true]) (by simp only [GA, ↓GB, List.filterMap_cons, eq_self, BEq.rfl, simprocAttr, List.getD_cons_zero, List.getD_cons_succ, or_false, false_or, or_self, or_true, true_or, decide_true]) (by simp only [GA, ↓GB, List.filterMap_cons, eq_self, BEq.rfl, simprocAttr, List.getD_cons_zero, List.getD_cons_succ, or_false, false_or, or_self, or_true, true_or, decide_true]))⟩ ?_ <;> rintro ⟨i, hi⟩ <;> simp only [] at hi ⊢ <;> have hlt := cutAt_lt ms i h0 hi <;> have hj1 : IntKind.i64.wrap (((cutAt ms i : Nat) : Int) + 1) = ((cutAt ms i + 1 : Nat) : Int) := (by rw [wI64 (by omega) (by omega)]; rfl))
    | (refine PA.marks [] ms (ms.take (cutAt ms i)) (l := 0) (h := cutAt ms i) (by simp) hP rfl rfl rfl rfl rfl (by omega) (by omega) rfl rfl rfl (by simp; omega) (by rw [hnt]; rfl) ?_ <;> (try simp only [GA, ↓GB, List.filterMap_cons, eq_self, BEq.rfl, simprocAttr, hnt, hT, hj1]))
    | (refine PA.marks (ms.take (cutAt ms i)) ms (ms.take (cutAt ms i) ++ ms.drop (cutAt ms i + 1)) (l := cutAt ms i + 1) (h := ms.length) (tail_part ms _ _) hP rfl rfl rfl rfl rfl (by omega) (by omega) rfl rfl rfl (by rw [List.length_take]; omega) (by rw [hnt]; rfl) ?_ <;> (try simp only [GA, ↓GB, List.filterMap_cons, eq_self, BEq.rfl, simprocAttr, hnt, hT, hj1]))
    | (refine ⟨_, mks_q _ _ (by omega), ?_⟩ <;> (try simp only [GA, ↓GB, List.filterMap_cons, eq_self, BEq.rfl, simprocAttr, hnt, hT]))
    | (refine SX.block ?_)
    | (refine and_mk ?_ ?_; (focus first | decide | omega | rfl | assumption | (simp only [List.length_append, List.length_cons, List.length_nil, B_size]; omega) | (simp; done)))
    | (refine And.intro ?_ ?_))
  all_goals (try refine Done.mk ?_)
  · refine ⟨⟨i + 1, by omega⟩, [0, 1], (LeR.of (by rw [hbl]; decide) (by simp only [GA, ↓GB, List.filterMap_cons, eq_self, BEq.rfl, simprocAttr, List.getD_cons_zero, List.getD_cons_succ, or_false, false_or, or_self, or_true, true_or, decide_true]; try (first | (rw [wI64 (by omega) (by omega)]; rfl) | (rw [cutAt, if_pos hb, wI64 (by omega) (by omega)]; exact ⟨rfl, rfl⟩) | rfl)) (by simp only [GA, ↓GB, List.filterMap_cons, eq_self, BEq.rfl, simprocAttr, List.getD_cons_zero, List.getD_cons_succ, or_false, false_or, or_self, or_true, true_or, decide_true]; try (first | (rw [wI64 (by omega) (by omega)]; rfl) | (rw [cutAt, if_pos hb, wI64 (by omega) (by omega)]; exact ⟨rfl, rfl⟩) | rfl)) (by decide) (by simp only [GA, ↓GB, List.filterMap_cons, eq_self, BEq.rfl, simprocAttr, List.getD_cons_zero, List.getD_cons_succ, or_false, false_or, or_self, or_true, true_or, decide_true]) (by simp only [GA, ↓GB, List.filterMap_cons, eq_self, BEq.rfl, simprocAttr, List.getD_cons_zero, List.getD_cons_succ, or_false, false_or, or_self, or_true, true_or, decide_true]) (by simp only [GA, ↓GB, List.filterMap_cons, eq_self, BEq.rfl, simprocAttr, List.getD_cons_zero, List.getD_cons_succ, or_false, false_or, or_self, or_true, true_or, decide_true])), by show ms.length - (i + 1) < ms.length - i; omega⟩
  · refine ⟨⟨i + 1, by omega⟩, [0, 1], (LeR.of (by rw [hbl]; decide) (by simp only [GA, ↓GB, List.filterMap_cons, eq_self, BEq.rfl, simprocAttr, List.getD_cons_zero, List.getD_cons_succ, or_false, false_or, or_self, or_true, true_or, decide_true]; try (first | (rw [wI64 (by omega) (by omega)]; rfl) | (rw [cutAt, if_neg (by omega), wI64 (by omega) (by omega)]; exact ⟨rfl, rfl⟩) | rfl)) (by simp only [GA, ↓GB, List.filterMap_cons, eq_self, BEq.rfl, simprocAttr, List.getD_cons_zero, List.getD_cons_succ, or_false, false_or, or_self, or_true, true_or, decide_true]; try (first | (rw [wI64 (by omega) (by omega)]; rfl) | (rw [cutAt, if_neg (by omega), wI64 (by omega) (by omega)]; exact ⟨rfl, rfl⟩) | rfl)) (by decide) (by simp only [GA, ↓GB, List.filterMap_cons, eq_self, BEq.rfl, simprocAttr, List.getD_cons_zero, List.getD_cons_succ, or_false, false_or, or_self, or_true, true_or, decide_true]) (by simp only [GA, ↓GB, List.filterMap_cons, eq_self, BEq.rfl, simprocAttr, List.getD_cons_zero, List.getD_cons_succ, or_false, false_or, or_self, or_true, true_or, decide_true]) (by simp only [GA, ↓GB, List.filterMap_cons, eq_self, BEq.rfl, simprocAttr, List.getD_cons_zero, List.getD_cons_succ, or_false, false_or, or_self, or_true, true_or, decide_true])), by show ms.length - (i + 1) < ms.length - i; omega⟩
  · obtain rfl : i = ms.length := by omega
    rw [show ms.take (cutAt ms ms.length) ++ ms.drop (cutAt ms ms.length + 1) = cutR ms from rfl]
    (refine hN0 _ _ ⟨[0, 1, 4], _, _, ?_, ?_, ?_, ⟨rfl, rfl⟩⟩; (focus exact LeR.of rfl trivial (by simp only [GA, ↓GB, List.filterMap_cons, eq_self, BEq.rfl, simprocAttr, List.getD_cons_zero, List.getD_cons_succ, or_false, false_or, or_self, or_true, true_or, decide_true]) (by decide) rfl rfl rfl); rotate_left; (focus rfl))
    rfl
end Go.Proofs.YtbdacbcpniegiaaDoor
namespace Go.Proofs.YtbdacbcpniegiaaDoor
open Go Go.RowKit Go.Proofs Go.Sx
set_option maxHeartbeats 4000000
set_option maxRecDepth 100000
set_option linter.unusedSimpArgs false
set_option linter.unusedVariables false
theorem statusB_len {t : Int} {s : List UInt8} {q : Int} {ok : Bool} {d : List UInt8} (h : statusB t s q ok d = true) : s.length ≤ 64 := (statusB_spec h).2.2.1
theorem rnote_wrong (ms : List Mk) (t : Int) (s : List UInt8) (q : Nat) (ok : Bool) (d : List UInt8) (hsl : s.length ≤ 9223372036854775807) (hq : q < 18446744073709551616) (h : statusB t s q ok d = false) : Ctr Tryd.prog [] 33 [.cells [.row 1] 69, rrow ms] [.one (.c (.loc 0 0)), .one (.agg [.v (.int .i64 t), .v (.string (B s)), .v (.int .u64 q), .v (.bool ok), .v (.string (B d))])]
    (fun os v => os = [.cells [.row 1] 69, rrow ms] ∧ v = vv (.int .i64 1)) := by
  refine Ctr.less ?_
  intro X0 hP0 hG0 N0 hN0
  refine CallVC.inline (f := 33) (by rw [hP0]; exact Tryd.func33) rfl Tryd.ntmps33 rfl (by simp) ?_
  intro X K hU hnt hbl hK
  have hP : X.P = Tryd.prog := by rw [hU.P, hP0]
  have hG := hG0.under hU
  have hT : aggOf X.P 72 = some true ∧ szOf X.P 72 = some 5 ∧ calleeOk X.P 91 = true ∧ fieldOff X.P 72 0 = some 0 ∧ aggOf X.P 26 = some true ∧ szOf X.P 26 = some 2 ∧ fieldOff X.P 72 1 = some 2 ∧ aggOf X.P 22 = some false ∧ szOf X.P 22 = some 1 ∧ calleeOk X.P 92 = true ∧ fieldOff X.P 69 0 = some 0 ∧ aggOf X.P 67 = some false ∧ szOf X.P 67 = some 1 ∧ X.P.underlying 67 = some (TypeDesc.slice 74) ∧ fieldOff X.P 72 2 = some 3 ∧ aggOf X.P 4 = some false ∧ szOf X.P 4 = some 1 ∧ elemSz X.P 67 = some (74, 5) ∧ fieldOff X.P 74 0 = some 0 ∧ fieldOff X.P 74 1 = some 2 ∧ fieldOff X.P 74 2 = some 3 ∧ aggOf X.P 3 = some false ∧ szOf X.P 3 = some 1 ∧ fieldOff X.P 72 3 = some 4 ∧ aggOf X.P 9 = some false ∧ szOf X.P 9 = some 1 ∧ fieldOff X.P 74 3 = some 4 := by rw [hP]; exact ⟨Ty.ag72, Ty.sz72, Ty.co91, Ty.fo72_0, Ty.ag26, Ty.sz26, Ty.fo72_1, Ty.ag22, Ty.sz22, Ty.co92, Ty.fo69_0, Ty.ag67, Ty.sz67, Tryd.underlying67, Ty.fo72_2, Ty.ag4, Ty.sz4, Ty.el67, Ty.fo74_0, Ty.fo74_1, Ty.fo74_2, Ty.ag3, Ty.sz3, Ty.fo72_3, Ty.ag9, Ty.sz9, Ty.fo74_3⟩
  simp only [GA, ↓GB, List.filterMap_cons, eq_self, BEq.rfl, simprocAttr] at hbl ⊢
  repeat' (first
    | (refine SX.seqK ?_; intro N hN)
    | ((first | (refine SX.ops ?_) | (refine SX.planT (id := 10) [.s 0, .s 1, .s 2, .q [(3, [0, 35]), (4, [36, 35]), (5, [37, 35]), (6, [38, 35]), (7, [8, 35]), (8, [39, 40, 35]), (9, [41, 35]), (10, [42, 35]), (11, [3, 35]), (12, [44, 35]), (13, [43, 45, 35]), (14, [35, 46]), (15, [47]), (16, [0, 48]), (17, [49, 48]), (18, [50, 48]), (19, [51, 48]), (20, [8, 48]), (21, [52, 53, 48]), (22, [54, 48]), (23, [55, 48]), (24, [3, 48]), (25, [57, 48]), (26, [56, 58, 48]), (27, [48, 59]), (28, [60]), (29, [0, 61]), (30, [62, 61]), (31, [63, 61]), (32, [64, 61]), (33, [8, 61]), (34, [65, 66, 61]), (35, [67, 61]), (36, [68, 61]), (37, [69, 61]), (38, [61, 70])] none] ?_ ?_ ?_; (focus first | (rw [hP]; kernel_rfl) | (rw [hU1P, hP]; kernel_rfl)); (focus kernel_rfl)) | (refine SX.planT (id := 14) [.q [(0, [0]), (1, [100]), (2, [101]), (3, [102]), (4, [7]), (5, [3]), (6, [105]), (7, [103, 104]), (8, [107])] none, .s 9] ?_ ?_ ?_; (focus first | (rw [hP]; kernel_rfl) | (rw [hU1P, hP]; kernel_rfl)); (focus kernel_rfl))); simp only [GA, ↓GB, List.filterMap_cons, eq_self, BEq.rfl, simprocAttr, hnt, hT, h])
    | ((first | refine SX.skip ?_ | refine SX.exit ?_ | refine SX.label ?_); try simp only [GA, ↓GB, List.filterMap_cons, eq_self, BEq.rfl, simprocAttr])
    | (refine SX.cond rfl (fun hb => ?_) (fun hb => ?_) <;> ((first | cases hb | (simp only [decide_eq_true_eq, decide_eq_false_iff_not, beq_iff_eq, beq_eq_false_iff_ne, bne_iff_ne, Bool.and_eq_true, Bool.or_eq_true, Bool.not_eq_true', Bool.not_eq_false', Bool.and_eq_false_iff, Bool.or_eq_false_iff, Int.not_lt, Int.not_le] at hb) | skip) <;> (first | (exfalso; omega) | skip)))
    | (refine SX.ret ?_; try simp only [GA, ↓GB, List.filterMap_cons, eq_self, BEq.rfl, simprocAttr])
    | (refine hN _ ?_; clear hN N)
    | ((first | refine hK _ _ (FinI.ret3 ?_) | refine hK _ _ (FinI.nrm3 ?_)); simp only [GA, ↓GB, List.filterMap_cons, eq_self, BEq.rfl, simprocAttr, finP_s, hnt, hT, h]; refine Done.out ?_)
    | (clear hN N; first | (refine hN _ ?_; clear hN N) | (clear hN N; first | (refine hN _ ?_; clear hN N) | (clear hN N; first | (refine hN _ ?_; clear hN N) | (clear hN N; first | (refine hN _ ?_; clear hN N) | (clear hN N; first | (refine hN _ ?_; clear hN N) | (refine hN _ ?_; clear hN N))))))
    | (refine bif2.mk (fun hb => ?_) (fun hb => ?_) <;> (try simp only [hb, GA, ↓GB, List.filterMap_cons, eq_self, BEq.rfl, simprocAttr, hnt, hT, h]) <;> ((first | cases hb | (simp only [decide_eq_true_eq, decide_eq_false_iff_not, beq_iff_eq, beq_eq_false_iff_ne, bne_iff_ne, Bool.and_eq_true, Bool.or_eq_true, Bool.not_eq_true', Bool.not_eq_false', Bool.and_eq_false_iff, Bool.or_eq_false_iff, Int.not_lt, Int.not_le] at hb) | skip) <;> (first | (exfalso; omega) | skip)))
    | ((first | (refine CallVC.pt (l := [_, _]) hP (rPutStatus_any t s q ok d hsl hq) rfl ?_) | (refine CallQ.pt (l := [_, _]) hP (rPutStatus_any t s q ok d hsl hq) rfl ?_)); simp only [GA, ↓GB, List.filterMap_cons, eq_self, BEq.rfl, simprocAttr, hnt, hT, h])
    | (refine SX.block ?_)
    | (refine and_mk ?_ ?_; (focus first | decide | omega | rfl | assumption | (simp only [List.length_append, List.length_cons, List.length_nil, B_size]; omega) | (simp; done)))
    | (refine And.intro ?_ ?_))
  all_goals (try refine Done.mk ?_)
  all_goals ((refine hN0 _ _ ⟨[0, 1], _, _, ?_, ?_, ?_, ⟨rfl, rfl⟩⟩; (focus exact LeR.of rfl trivial (by simp only [GA, ↓GB, List.filterMap_cons, eq_self, BEq.rfl, simprocAttr, List.getD_cons_zero, List.getD_cons_succ, or_false, false_or, or_self, or_true, true_or, decide_true]) (by decide) rfl rfl rfl); rotate_left; (focus rfl)); rfl)
theorem rnote_none (ms : List Mk) (hms : ms.length ≤ 1000000) (t : Int) (s : List UInt8) (q : Nat) (ok : Bool) (d : List UInt8) (hsl : s.length ≤ 9223372036854775807) (hq : q < 18446744073709551616) (h : statusB t s q ok d = true) (h1 : idxI (kk t s q) ms < 0) : Ctr Tryd.prog [] 33 [.cells [.row 1] 69, rrow ms] [.one (.c (.loc 0 0)), .one (.agg [.v (.int .i64 t), .v (.string (B s)), .v (.int .u64 q), .v (.bool ok), .v (.string (B d))])]
    (fun os v => os = [.cells [.row 1] 69, rrow ms] ∧ v = vv (.int .i64 5)) := by
  refine Ctr.less ?_
  intro X0 hP0 hG0 N0 hN0
  refine CallVC.inline (f := 33) (by rw [hP0]; exact Tryd.func33) rfl Tryd.ntmps33 rfl (by simp) ?_
  intro X K hU hnt hbl hK
  have hP : X.P = Tryd.prog := by rw [hU.P, hP0]
  have hG := hG0.under hU
  have hT : aggOf X.P 72 = some true ∧ szOf X.P 72 = some 5 ∧ calleeOk X.P 91 = true ∧ fieldOff X.P 72 0 = some 0 ∧ aggOf X.P 26 = some true ∧ szOf X.P 26 = some 2 ∧ fieldOff X.P 72 1 = some 2 ∧ aggOf X.P 22 = some false ∧ szOf X.P 22 = some 1 ∧ calleeOk X.P 92 = true ∧ fieldOff X.P 69 0 = some 0 ∧ aggOf X.P 67 = some false ∧ szOf X.P 67 = some 1 ∧ X.P.underlying 67 = some (TypeDesc.slice 74) ∧ fieldOff X.P 72 2 = some 3 ∧ aggOf X.P 4 = some false ∧ szOf X.P 4 = some 1 ∧ elemSz X.P 67 = some (74, 5) ∧ fieldOff X.P 74 0 = some 0 ∧ fieldOff X.P 74 1 = some 2 ∧ fieldOff X.P 74 2 = some 3 ∧ aggOf X.P 3 = some false ∧ szOf X.P 3 = some 1 ∧ fieldOff X.P 72 3 = some 4 ∧ aggOf X.P 9 = some false ∧ szOf X.P 9 = some 1 ∧ fieldOff X.P 74 3 = some 4 := by rw [hP]; exact ⟨Ty.ag72, Ty.sz72, Ty.co91, Ty.fo72_0, Ty.ag26, Ty.sz26, Ty.fo72_1, Ty.ag22, Ty.sz22, Ty.co92, Ty.fo69_0, Ty.ag67, Ty.sz67, Tryd.underlying67, Ty.fo72_2, Ty.ag4, Ty.sz4, Ty.el67, Ty.fo74_0, Ty.fo74_1, Ty.fo74_2, Ty.ag3, Ty.sz3, Ty.fo72_3, Ty.ag9, Ty.sz9, Ty.fo74_3⟩
  simp only [GA, ↓GB, List.filterMap_cons, eq_self, BEq.rfl, simprocAttr] at hbl ⊢
  repeat' (first
    | (refine SX.seqK ?_; intro N hN)
    | ((first | (refine SX.ops ?_) | (refine SX.planT (id := 10) [.s 0, .s 1, .s 2, .q [(3, [0, 35]), (4, [36, 35]), (5, [37, 35]), (6, [38, 35]), (7, [8, 35]), (8, [39, 40, 35]), (9, [41, 35]), (10, [42, 35]), (11, [3, 35]), (12, [44, 35]), (13, [43, 45, 35]), (14, [35, 46]), (15, [47]), (16, [0, 48]), (17, [49, 48]), (18, [50, 48]), (19, [51, 48]), (20, [8, 48]), (21, [52, 53, 48]), (22, [54, 48]), (23, [55, 48]), (24, [3, 48]), (25, [57, 48]), (26, [56, 58, 48]), (27, [48, 59]), (28, [60]), (29, [0, 61]), (30, [62, 61]), (31, [63, 61]), (32, [64, 61]), (33, [8, 61]), (34, [65, 66, 61]), (35, [67, 61]), (36, [68, 61]), (37, [69, 61]), (38, [61, 70])] none] ?_ ?_ ?_; (focus first | (rw [hP]; kernel_rfl) | (rw [hU1P, hP]; kernel_rfl)); (focus kernel_rfl)) | (refine SX.planT (id := 14) [.q [(0, [0]), (1, [100]), (2, [101]), (3, [102]), (4, [7]), (5, [3]), (6, [105]), (7, [103, 104]), (8, [107])] none, .s 9] ?_ ?_ ?_; (focus first | (rw [hP]; kernel_rfl) | (rw [hU1P, hP]; kernel_rfl)); (focus kernel_rfl))); simp only [GA, ↓GB, List.filterMap_cons, eq_self, BEq.rfl, simprocAttr, hnt, hT, h, h1])
    | ((first | refine SX.skip ?_ | refine SX.exit ?_ | refine SX.label ?_); try simp only [GA, ↓GB, List.filterMap_cons, eq_self, BEq.rfl, simprocAttr])
    | (refine SX.cond rfl (fun hb => ?_) (fun hb => ?_) <;> ((first | cases hb | (simp only [decide_eq_true_eq, decide_eq_false_iff_not, beq_iff_eq, beq_eq_false_iff_ne, bne_iff_ne, Bool.and_eq_true, Bool.or_eq_true, Bool.not_eq_true', Bool.not_eq_false', Bool.and_eq_false_iff, Bool.or_eq_false_iff, Int.not_lt, Int.not_le] at hb) | skip) <;> (first | (exfalso; omega) | skip)))
    | (refine SX.ret ?_; try simp only [GA, ↓GB, List.filterMap_cons, eq_self, BEq.rfl, simprocAttr])
    | (refine hN _ ?_; clear hN N)
    | ((first | refine hK _ _ (FinI.ret3 ?_) | refine hK _ _ (FinI.nrm3 ?_)); simp only [GA, ↓GB, List.filterMap_cons, eq_self, BEq.rfl, simprocAttr, finP_s, hnt, hT, h, h1]; refine Done.out ?_)
    | (clear hN N; first | (refine hN _ ?_; clear hN N) | (clear hN N; first | (refine hN _ ?_; clear hN N) | (clear hN N; first | (refine hN _ ?_; clear hN N) | (clear hN N; first | (refine hN _ ?_; clear hN N) | (clear hN N; first | (refine hN _ ?_; clear hN N) | (refine hN _ ?_; clear hN N))))))
    | (refine bif2.mk (fun hb => ?_) (fun hb => ?_) <;> (try simp only [hb, GA, ↓GB, List.filterMap_cons, eq_self, BEq.rfl, simprocAttr, hnt, hT, h, h1]) <;> ((first | cases hb | (simp only [decide_eq_true_eq, decide_eq_false_iff_not, beq_iff_eq, beq_eq_false_iff_ne, bne_iff_ne, Bool.and_eq_true, Bool.or_eq_true, Bool.not_eq_true', Bool.not_eq_false', Bool.and_eq_false_iff, Bool.or_eq_false_iff, Int.not_lt, Int.not_le] at hb) | skip) <;> (first | (exfalso; omega) | skip)))
    | ((first | (refine CallVC.pt (l := [_, _]) hP (rPutStatus_any t s q ok d hsl hq) rfl ?_) | (refine CallQ.pt (l := [_, _]) hP (rPutStatus_any t s q ok d hsl hq) rfl ?_) | (refine Ctr.use (rfind_ctr ms hms t s q) hP ?_ [0,1] ?_ rfl rfl ?_; (focus (intro p hp; cases hp)); (focus (refine LeR.of rfl trivial ?_ ?_ ?_ ?_ ?_ <;> first | decide | (simp only [GA, ↓GB, List.filterMap_cons, eq_self, BEq.rfl, simprocAttr, List.getD_cons_zero, List.getD_cons_succ, or_false, false_or, or_self, or_true, true_or, decide_true]; done))); intro os' s hR; obtain ⟨rfl, rfl⟩ := hR)); simp only [GA, ↓GB, List.filterMap_cons, eq_self, BEq.rfl, simprocAttr, hnt, hT, h, h1])
    | (refine SX.block ?_)
    | (refine and_mk ?_ ?_; (focus first | decide | omega | rfl | assumption | (simp only [List.length_append, List.length_cons, List.length_nil, B_size]; omega) | (simp; done)))
    | (refine And.intro ?_ ?_))
  all_goals (try refine Done.mk ?_)
  all_goals ((refine hN0 _ _ ⟨[0, 1], _, _, ?_, ?_, ?_, ⟨rfl, rfl⟩⟩; (focus exact LeR.of rfl trivial (by simp only [GA, ↓GB, List.filterMap_cons, eq_self, BEq.rfl, simprocAttr, List.getD_cons_zero, List.getD_cons_succ, or_false, false_or, or_self, or_true, true_or, decide_true]) (by decide) rfl rfl rfl); rotate_left; (focus rfl)); rfl)
theorem tk_yes74 (t : Int) (s : List UInt8) (q : Int) (ms : List Mk) (i : Nat) (h : i < ms.length) (n : Nat) (hp : isTk t s q ((tkTo t s q ms i).getD i default) = true) :
    LO.row 74 5 n ((mks (tkTo t s q ms i)).take (i * 5 + 3) ++ [Value.int .i64 2] ++ (mks (tkTo t s q ms i)).drop (i * 5 + 3 + 1)) = LO.row 74 5 n (mks (tkTo t s q ms (i + 1))) := by
  have := tk_yes t s q ms i h n hp
  injection this with _ _ _ e
  rw [e]
theorem ref_at (ms : List Mk) (i : Nat) (d : List UInt8) (hlt : i < ms.length) :
    ((mks ms).take (i * 5 + 3) ++ [Value.int .i64 3] ++ (mks ms).drop (i * 5 + 3 + 1)).take (i * 5 + 4) ++ [Value.string (B d)] ++
      ((mks ms).take (i * 5 + 3) ++ [Value.int .i64 3] ++ (mks ms).drop (i * 5 + 3 + 1)).drop (i * 5 + 4 + 1) = mks (ms.set i { ms.getD i default with st := 3, d := d }) := by
  rw [mks_set3 ms i 3 hlt, mks_set4 _ _ d (by rw [List.length_set]; exact hlt), List.set_set]
  rw [List.getD_eq_getElem?_getD, List.getElem?_set_self hlt]
  rfl
theorem rnote_ok (ms : List Mk) (hms : ms.length ≤ 1000000) (t : Int) (s : List UInt8) (q : Nat) (d : List UInt8) (hsl : s.length ≤ 9223372036854775807) (hq : q < 18446744073709551616) (h : statusB t s q true d = true) (i0 : Nat) (hlt : i0 < ms.length) (h1 : idxI (kk t s q) ms = i0) : Ctr Tryd.prog [] 33 [.cells [.row 1] 69, rrow ms] [.one (.c (.loc 0 0)), .one (.agg [.v (.int .i64 t), .v (.string (B s)), .v (.int .u64 q), .v (.bool true), .v (.string (B d))])]
    (fun os v => os = [.cells [.row 1] 69, rrow (ms.map (tkM t s q))] ∧ v = vv (.int .i64 0)) := by
  refine Ctr.less ?_
  intro X0 hP0 hG0 N0 hN0
  refine CallVC.inline (f := 33) (by rw [hP0]; exact Tryd.func33) rfl Tryd.ntmps33 rfl (by simp) ?_
  intro X K hU hnt hbl hK
  have hP : X.P = Tryd.prog := by rw [hU.P, hP0]
  have hG := hG0.under hU
  have hT : aggOf X.P 72 = some true ∧ szOf X.P 72 = some 5 ∧ calleeOk X.P 91 = true ∧ fieldOff X.P 72 0 = some 0 ∧ aggOf X.P 26 = some true ∧ szOf X.P 26 = some 2 ∧ fieldOff X.P 72 1 = some 2 ∧ aggOf X.P 22 = some false ∧ szOf X.P 22 = some 1 ∧ calleeOk X.P 92 = true ∧ fieldOff X.P 69 0 = some 0 ∧ aggOf X.P 67 = some false ∧ szOf X.P 67 = some 1 ∧ X.P.underlying 67 = some (TypeDesc.slice 74) ∧ fieldOff X.P 72 2 = some 3 ∧ aggOf X.P 4 = some false ∧ szOf X.P 4 = some 1 ∧ elemSz X.P 67 = some (74, 5) ∧ fieldOff X.P 74 0 = some 0 ∧ fieldOff X.P 74 1 = some 2 ∧ fieldOff X.P 74 2 = some 3 ∧ aggOf X.P 3 = some false ∧ szOf X.P 3 = some 1 ∧ fieldOff X.P 72 3 = some 4 ∧ aggOf X.P 9 = some false ∧ szOf X.P 9 = some 1 ∧ fieldOff X.P 74 3 = some 4 := by rw [hP]; exact ⟨Ty.ag72, Ty.sz72, Ty.co91, Ty.fo72_0, Ty.ag26, Ty.sz26, Ty.fo72_1, Ty.ag22, Ty.sz22, Ty.co92, Ty.fo69_0, Ty.ag67, Ty.sz67, Tryd.underlying67, Ty.fo72_2, Ty.ag4, Ty.sz4, Ty.el67, Ty.fo74_0, Ty.fo74_1, Ty.fo74_2, Ty.ag3, Ty.sz3, Ty.fo72_3, Ty.ag9, Ty.sz9, Ty.fo74_3⟩
  simp only [GA, ↓GB, List.filterMap_cons, eq_self, BEq.rfl, simprocAttr] at hbl ⊢
  repeat' (first
    | (refine SX.seqK ?_; intro N hN)
    | ((first | (refine SX.ops ?_) | (refine SX.planT (id := 10) [.s 0, .s 1, .s 2, .q [(3, [0, 35]), (4, [36, 35]), (5, [37, 35]), (6, [38, 35]), (7, [8, 35]), (8, [39, 40, 35]), (9, [41, 35]), (10, [42, 35]), (11, [3, 35]), (12, [44, 35]), (13, [43, 45, 35]), (14, [35, 46]), (15, [47]), (16, [0, 48]), (17, [49, 48]), (18, [50, 48]), (19, [51, 48]), (20, [8, 48]), (21, [52, 53, 48]), (22, [54, 48]), (23, [55, 48]), (24, [3, 48]), (25, [57, 48]), (26, [56, 58, 48]), (27, [48, 59]), (28, [60]), (29, [0, 61]), (30, [62, 61]), (31, [63, 61]), (32, [64, 61]), (33, [8, 61]), (34, [65, 66, 61]), (35, [67, 61]), (36, [68, 61]), (37, [69, 61]), (38, [61, 70])] none] ?_ ?_ ?_; (focus first | (rw [hP]; kernel_rfl) | (rw [hU1P, hP]; kernel_rfl)); (focus kernel_rfl)) | (refine SX.planT (id := 14) [.q [(0, [0]), (1, [100]), (2, [101]), (3, [102]), (4, [7]), (5, [3]), (6, [105]), (7, [103, 104]), (8, [107])] none, .s 9] ?_ ?_ ?_; (focus first | (rw [hP]; kernel_rfl) | (rw [hU1P, hP]; kernel_rfl)); (focus kernel_rfl))); simp only [GA, ↓GB, List.filterMap_cons, eq_self, BEq.rfl, simprocAttr, hnt, hT, h, h1])
    | ((first | refine SX.skip ?_ | refine SX.exit ?_ | refine SX.label ?_); try simp only [GA, ↓GB, List.filterMap_cons, eq_self, BEq.rfl, simprocAttr])
    | (refine SX.cond rfl (fun hb => ?_) (fun hb => ?_) <;> ((first | cases hb | (simp only [decide_eq_true_eq, decide_eq_false_iff_not, beq_iff_eq, beq_eq_false_iff_ne, bne_iff_ne, Bool.and_eq_true, Bool.or_eq_true, Bool.not_eq_true', Bool.not_eq_false', Bool.and_eq_false_iff, Bool.or_eq_false_iff, Int.not_lt, Int.not_le] at hb) | skip) <;> (first | (exfalso; omega) | skip)))
    | (refine SX.ret ?_; try simp only [GA, ↓GB, List.filterMap_cons, eq_self, BEq.rfl, simprocAttr])
    | (refine hN _ ?_; clear hN N)
    | ((first | refine hK _ _ (FinI.ret3 ?_) | refine hK _ _ (FinI.nrm3 ?_)); simp only [GA, ↓GB, List.filterMap_cons, eq_self, BEq.rfl, simprocAttr, finP_s, hnt, hT, h, h1]; refine Done.out ?_)
    | (clear hN N; first | (refine hN _ ?_; clear hN N) | (clear hN N; first | (refine hN _ ?_; clear hN N) | (clear hN N; first | (refine hN _ ?_; clear hN N) | (clear hN N; first | (refine hN _ ?_; clear hN N) | (clear hN N; first | (refine hN _ ?_; clear hN N) | (refine hN _ ?_; clear hN N))))))
    | (refine bif2.mk (fun hb => ?_) (fun hb => ?_) <;> (try simp only [hb, GA, ↓GB, List.filterMap_cons, eq_self, BEq.rfl, simprocAttr, hnt, hT, h, h1]) <;> ((first | cases hb | (simp only [decide_eq_true_eq, decide_eq_false_iff_not, beq_iff_eq, beq_eq_false_iff_ne, bne_iff_ne, Bool.and_eq_true, Bool.or_eq_true, Bool.not_eq_true', Bool.not_eq_false', Bool.and_eq_false_iff, Bool.or_eq_false_iff, Int.not_lt, Int.not_le] at hb) | skip) <;> (first | (exfalso; omega) | skip)))
    | ((first | (refine CallVC.pt (l := [_, _]) hP (rPutStatus_any t s q true d hsl hq) rfl ?_) | (refine CallQ.pt (l := [_, _]) hP (rPutStatus_any t s q true d hsl hq) rfl ?_) | (refine Ctr.use (rfind_ctr ms hms t s q) hP ?_ [0,1] ?_ rfl rfl ?_; (focus (intro p hp; cases hp)); (focus (refine LeR.of rfl trivial ?_ ?_ ?_ ?_ ?_ <;> first | decide | (simp only [GA, ↓GB, List.filterMap_cons, eq_self, BEq.rfl, simprocAttr, List.getD_cons_zero, List.getD_cons_succ, or_false, false_or, or_self, or_true, true_or, decide_true]; done))); intro os' s hR; obtain ⟨rfl, rfl⟩ := hR)); simp only [GA, ↓GB, List.filterMap_cons, eq_self, BEq.rfl, simprocAttr, hnt, hT, h, h1])
    | (refine SX.loop (ι := { i : Nat // i ≤ ms.length }) (fun j => ⟨[(0, .one (.c (.loc 0 0))), (3, .one (.c (.loc 2 0))), (7, vv (.int .i64 i0)), (8, vv (.int .i64 j.1))], [.cells [.row 1] 69, .row 74 5 ms.length (mks (tkTo t s q ms j.1)), .cells [.v (.int .i64 t), .v (.string (B s)), .v (.int .u64 q), .v (.bool true), .v (.string (B d))] 72]⟩) (fun j => ms.length - j.1) ⟨0, Nat.zero_le _⟩ ⟨[0, 1, 2], (LeR.of (by rw [hbl]; decide) (by simp only [GA, ↓GB, List.filterMap_cons, eq_self, BEq.rfl, simprocAttr, List.getD_cons_zero, List.getD_cons_succ, or_false, false_or, or_self, or_true, true_or, decide_true]; try (rfl)) (by simp only [GA, ↓GB, List.filterMap_cons, eq_self, BEq.rfl, simprocAttr, List.getD_cons_zero, List.getD_cons_succ, or_false, false_or, or_self, or_true, true_or, decide_true]; try (rfl)) (by decide) (by simp only [GA, ↓GB, List.filterMap_cons, eq_self, BEq.rfl, simprocAttr, List.getD_cons_zero, List.getD_cons_succ, or_false, false_or, or_self, or_true, true_or, decide_true]) (by simp only [GA, ↓GB, List.filterMap_cons, eq_self, BEq.rfl, simprocAttr, List.getD_cons_zero, List.getD_cons_succ, or_false, false_or, or_self, or_true, true_or, decide_true]) (by simp only [GA, ↓GB, List.filterMap_cons, eq_self, BEq.rfl, simprocAttr, List.getD_cons_zero, List.getD_cons_succ, or_false, false_or, or_self, or_true, true_or, decide_true]))⟩ ?_ <;> rintro ⟨i, hi⟩ <;> simp only [] at hi ⊢)
    | (refine ⟨_, rfl, mks_key _ i (by rw [tkTo_len _ _ _ _ _ hi]; omega), ?_⟩ <;> simp only [GA, ↓GB, List.filterMap_cons, eq_self, BEq.rfl, simprocAttr, hnt, hT])
    | (refine ⟨_, mks_q _ i (by rw [tkTo_len _ _ _ _ _ hi]; omega), ?_⟩)
    | (refine ⟨_, mks_st _ i (by rw [tkTo_len _ _ _ _ _ hi]; omega), ?_⟩)
    | (refine ⟨_, strEq_to hP (Ty.eqS26 _ _ _ _), ?_⟩)
    | (refine ⟨by rw [mks_length, tkTo_len _ _ _ _ _ hi]; omega, ?_⟩)
    | (refine SX.block ?_)
    | (refine and_mk ?_ ?_; (focus first | decide | omega | rfl | assumption | (simp only [List.length_append, List.length_cons, List.length_nil, B_size]; omega) | (simp; done)))
    | (refine And.intro ?_ ?_))
  all_goals (try refine Done.mk ?_)
  · refine ⟨⟨i + 1, by omega⟩, [0, 1, 2], (LeR.of (by rw [hbl]; decide) (by simp only [GA, ↓GB, List.filterMap_cons, eq_self, BEq.rfl, simprocAttr, List.getD_cons_zero, List.getD_cons_succ, or_false, false_or, or_self, or_true, true_or, decide_true]; try (first | (rw [wI64 (by omega) (by omega)]; rfl) | exact tk_yes74 t s q ms i (by omega) _ (by simp_all [isTk]))) (by simp only [GA, ↓GB, List.filterMap_cons, eq_self, BEq.rfl, simprocAttr, List.getD_cons_zero, List.getD_cons_succ, or_false, false_or, or_self, or_true, true_or, decide_true]; try (first | (rw [wI64 (by omega) (by omega)]; rfl) | exact tk_yes74 t s q ms i (by omega) _ (by simp_all [isTk]))) (by decide) (by simp only [GA, ↓GB, List.filterMap_cons, eq_self, BEq.rfl, simprocAttr, List.getD_cons_zero, List.getD_cons_succ, or_false, false_or, or_self, or_true, true_or, decide_true]) (by simp only [GA, ↓GB, List.filterMap_cons, eq_self, BEq.rfl, simprocAttr, List.getD_cons_zero, List.getD_cons_succ, or_false, false_or, or_self, or_true, true_or, decide_true]) (by simp only [GA, ↓GB, List.filterMap_cons, eq_self, BEq.rfl, simprocAttr, List.getD_cons_zero, List.getD_cons_succ, or_false, false_or, or_self, or_true, true_or, decide_true])), by show ms.length - (i + 1) < ms.length - i; omega⟩
  · refine ⟨⟨i + 1, by omega⟩, [0, 1, 2], (LeR.of (by rw [hbl]; decide) (by simp only [GA, ↓GB, List.filterMap_cons, eq_self, BEq.rfl, simprocAttr, List.getD_cons_zero, List.getD_cons_succ, or_false, false_or, or_self, or_true, true_or, decide_true]; try (first | (rw [wI64 (by omega) (by omega)]; rfl) | rw [tk_no t s q ms i (by omega) (by simp_all [isTk] <;> intros <;> first | omega | (rcases hb with hb | hb <;> exact absurd (by assumption) hb))])) (by simp only [GA, ↓GB, List.filterMap_cons, eq_self, BEq.rfl, simprocAttr, List.getD_cons_zero, List.getD_cons_succ, or_false, false_or, or_self, or_true, true_or, decide_true]; try (first | (rw [wI64 (by omega) (by omega)]; rfl) | rw [tk_no t s q ms i (by omega) (by simp_all [isTk] <;> intros <;> first | omega | (rcases hb with hb | hb <;> exact absurd (by assumption) hb))])) (by decide) (by simp only [GA, ↓GB, List.filterMap_cons, eq_self, BEq.rfl, simprocAttr, List.getD_cons_zero, List.getD_cons_succ, or_false, false_or, or_self, or_true, true_or, decide_true]) (by simp only [GA, ↓GB, List.filterMap_cons, eq_self, BEq.rfl, simprocAttr, List.getD_cons_zero, List.getD_cons_succ, or_false, false_or, or_self, or_true, true_or, decide_true]) (by simp only [GA, ↓GB, List.filterMap_cons, eq_self, BEq.rfl, simprocAttr, List.getD_cons_zero, List.getD_cons_succ, or_false, false_or, or_self, or_true, true_or, decide_true])), by show ms.length - (i + 1) < ms.length - i; omega⟩
  · refine ⟨⟨i + 1, by omega⟩, [0, 1, 2], (LeR.of (by rw [hbl]; decide) (by simp only [GA, ↓GB, List.filterMap_cons, eq_self, BEq.rfl, simprocAttr, List.getD_cons_zero, List.getD_cons_succ, or_false, false_or, or_self, or_true, true_or, decide_true]; try (first | (rw [wI64 (by omega) (by omega)]; rfl) | rw [tk_no t s q ms i (by omega) (by simp_all [isTk] <;> intros <;> first | omega | (rcases hb with hb | hb <;> exact absurd (by assumption) hb))])) (by simp only [GA, ↓GB, List.filterMap_cons, eq_self, BEq.rfl, simprocAttr, List.getD_cons_zero, List.getD_cons_succ, or_false, false_or, or_self, or_true, true_or, decide_true]; try (first | (rw [wI64 (by omega) (by omega)]; rfl) | rw [tk_no t s q ms i (by omega) (by simp_all [isTk] <;> intros <;> first | omega | (rcases hb with hb | hb <;> exact absurd (by assumption) hb))])) (by decide) (by simp only [GA, ↓GB, List.filterMap_cons, eq_self, BEq.rfl, simprocAttr, List.getD_cons_zero, List.getD_cons_succ, or_false, false_or, or_self, or_true, true_or, decide_true]) (by simp only [GA, ↓GB, List.filterMap_cons, eq_self, BEq.rfl, simprocAttr, List.getD_cons_zero, List.getD_cons_succ, or_false, false_or, or_self, or_true, true_or, decide_true]) (by simp only [GA, ↓GB, List.filterMap_cons, eq_self, BEq.rfl, simprocAttr, List.getD_cons_zero, List.getD_cons_succ, or_false, false_or, or_self, or_true, true_or, decide_true])), by show ms.length - (i + 1) < ms.length - i; omega⟩
  · refine ⟨⟨i + 1, by omega⟩, [0, 1, 2], (LeR.of (by rw [hbl]; decide) (by simp only [GA, ↓GB, List.filterMap_cons, eq_self, BEq.rfl, simprocAttr, List.getD_cons_zero, List.getD_cons_succ, or_false, false_or, or_self, or_true, true_or, decide_true]; try (first | (rw [wI64 (by omega) (by omega)]; rfl) | rw [tk_no t s q ms i (by omega) (by simp_all [isTk] <;> intros <;> first | omega | (rcases hb with hb | hb <;> exact absurd (by assumption) hb))])) (by simp only [GA, ↓GB, List.filterMap_cons, eq_self, BEq.rfl, simprocAttr, List.getD_cons_zero, List.getD_cons_succ, or_false, false_or, or_self, or_true, true_or, decide_true]; try (first | (rw [wI64 (by omega) (by omega)]; rfl) | rw [tk_no t s q ms i (by omega) (by simp_all [isTk] <;> intros <;> first | omega | (rcases hb with hb | hb <;> exact absurd (by assumption) hb))])) (by decide) (by simp only [GA, ↓GB, List.filterMap_cons, eq_self, BEq.rfl, simprocAttr, List.getD_cons_zero, List.getD_cons_succ, or_false, false_or, or_self, or_true, true_or, decide_true]) (by simp only [GA, ↓GB, List.filterMap_cons, eq_self, BEq.rfl, simprocAttr, List.getD_cons_zero, List.getD_cons_succ, or_false, false_or, or_self, or_true, true_or, decide_true]) (by simp only [GA, ↓GB, List.filterMap_cons, eq_self, BEq.rfl, simprocAttr, List.getD_cons_zero, List.getD_cons_succ, or_false, false_or, or_self, or_true, true_or, decide_true])), by show ms.length - (i + 1) < ms.length - i; omega⟩
  · have e : LO.row 74 5 ms.length (mks (tkTo t s q ms i)) = LO.row 74 5 (ms.map (tkM t s q)).length (mks (ms.map (tkM t s q))) := by
      rw [tkTo, List.take_of_length_le (by omega), List.drop_of_length_le (by omega), List.append_nil]; simp
    rw [e]
    (refine hN0 _ _ ⟨[0, 1], _, _, ?_, ?_, ?_, ⟨rfl, rfl⟩⟩; (focus exact LeR.of rfl trivial (by simp only [GA, ↓GB, List.filterMap_cons, eq_self, BEq.rfl, simprocAttr, List.getD_cons_zero, List.getD_cons_succ, or_false, false_or, or_self, or_true, true_or, decide_true]) (by decide) rfl rfl rfl); rotate_left; (focus rfl))
    rfl
theorem rnote_refused (ms : List Mk) (hms : ms.length ≤ 1000000) (t : Int) (s : List UInt8) (q : Nat) (d : List UInt8) (hsl : s.length ≤ 9223372036854775807) (hq : q < 18446744073709551616) (h : statusB t s q false d = true) (i : Nat) (hlt : i < ms.length) (h1 : idxI (kk t s q) ms = i) (hp : (ms.getD i default).st = 1) : Ctr Tryd.prog [] 33 [.cells [.row 1] 69, rrow ms] [.one (.c (.loc 0 0)), .one (.agg [.v (.int .i64 t), .v (.string (B s)), .v (.int .u64 q), .v (.bool false), .v (.string (B d))])]
    (fun os v => os = [.cells [.row 1] 69, rrow (ms.set i { ms.getD i default with st := 3, d := d })] ∧ v = vv (.int .i64 0)) := by
  refine Ctr.less ?_
  intro X0 hP0 hG0 N0 hN0
  refine CallVC.inline (f := 33) (by rw [hP0]; exact Tryd.func33) rfl Tryd.ntmps33 rfl (by simp) ?_
  intro X K hU hnt hbl hK
  have hP : X.P = Tryd.prog := by rw [hU.P, hP0]
  have hG := hG0.under hU
  have hT : aggOf X.P 72 = some true ∧ szOf X.P 72 = some 5 ∧ calleeOk X.P 91 = true ∧ fieldOff X.P 72 0 = some 0 ∧ aggOf X.P 26 = some true ∧ szOf X.P 26 = some 2 ∧ fieldOff X.P 72 1 = some 2 ∧ aggOf X.P 22 = some false ∧ szOf X.P 22 = some 1 ∧ calleeOk X.P 92 = true ∧ fieldOff X.P 69 0 = some 0 ∧ aggOf X.P 67 = some false ∧ szOf X.P 67 = some 1 ∧ X.P.underlying 67 = some (TypeDesc.slice 74) ∧ fieldOff X.P 72 2 = some 3 ∧ aggOf X.P 4 = some false ∧ szOf X.P 4 = some 1 ∧ elemSz X.P 67 = some (74, 5) ∧ fieldOff X.P 74 0 = some 0 ∧ fieldOff X.P 74 1 = some 2 ∧ fieldOff X.P 74 2 = some 3 ∧ aggOf X.P 3 = some false ∧ szOf X.P 3 = some 1 ∧ fieldOff X.P 72 3 = some 4 ∧ aggOf X.P 9 = some false ∧ szOf X.P 9 = some 1 ∧ fieldOff X.P 74 3 = some 4 := by rw [hP]; exact ⟨Ty.ag72, Ty.sz72, Ty.co91, Ty.fo72_0, Ty.ag26, Ty.sz26, Ty.fo72_1, Ty.ag22, Ty.sz22, Ty.co92, Ty.fo69_0, Ty.ag67, Ty.sz67, Tryd.underlying67, Ty.fo72_2, Ty.ag4, Ty.sz4, Ty.el67, Ty.fo74_0, Ty.fo74_1, Ty.fo74_2, Ty.ag3, Ty.sz3, Ty.fo72_3, Ty.ag9, Ty.sz9, Ty.fo74_3⟩
  simp only [GA, ↓GB, List.filterMap_cons, eq_self, BEq.rfl, simprocAttr] at hbl ⊢
  repeat' (first
    | (refine SX.seqK ?_; intro N hN)
    | ((first | (refine SX.ops ?_) | (refine SX.planT (id := 10) [.s 0, .s 1, .s 2, .q [(3, [0, 35]), (4, [36, 35]), (5, [37, 35]), (6, [38, 35]), (7, [8, 35]), (8, [39, 40, 35]), (9, [41, 35]), (10, [42, 35]), (11, [3, 35]), (12, [44, 35]), (13, [43, 45, 35]), (14, [35, 46]), (15, [47]), (16, [0, 48]), (17, [49, 48]), (18, [50, 48]), (19, [51, 48]), (20, [8, 48]), (21, [52, 53, 48]), (22, [54, 48]), (23, [55, 48]), (24, [3, 48]), (25, [57, 48]), (26, [56, 58, 48]), (27, [48, 59]), (28, [60]), (29, [0, 61]), (30, [62, 61]), (31, [63, 61]), (32, [64, 61]), (33, [8, 61]), (34, [65, 66, 61]), (35, [67, 61]), (36, [68, 61]), (37, [69, 61]), (38, [61, 70])] none] ?_ ?_ ?_; (focus first | (rw [hP]; kernel_rfl) | (rw [hU1P, hP]; kernel_rfl)); (focus kernel_rfl)) | (refine SX.planT (id := 14) [.q [(0, [0]), (1, [100]), (2, [101]), (3, [102]), (4, [7]), (5, [3]), (6, [105]), (7, [103, 104]), (8, [107])] none, .s 9] ?_ ?_ ?_; (focus first | (rw [hP]; kernel_rfl) | (rw [hU1P, hP]; kernel_rfl)); (focus kernel_rfl))); simp only [GA, ↓GB, List.filterMap_cons, eq_self, BEq.rfl, simprocAttr, hnt, hT, h, h1, hp])
    | ((first | refine SX.skip ?_ | refine SX.exit ?_ | refine SX.label ?_); try simp only [GA, ↓GB, List.filterMap_cons, eq_self, BEq.rfl, simprocAttr])
    | (refine SX.cond rfl (fun hb => ?_) (fun hb => ?_) <;> ((first | cases hb | (simp only [decide_eq_true_eq, decide_eq_false_iff_not, beq_iff_eq, beq_eq_false_iff_ne, bne_iff_ne, Bool.and_eq_true, Bool.or_eq_true, Bool.not_eq_true', Bool.not_eq_false', Bool.and_eq_false_iff, Bool.or_eq_false_iff, Int.not_lt, Int.not_le] at hb) | skip) <;> (first | (exfalso; omega) | skip)))
    | (refine SX.ret ?_; try simp only [GA, ↓GB, List.filterMap_cons, eq_self, BEq.rfl, simprocAttr])
    | (refine hN _ ?_; clear hN N)
    | ((first | refine hK _ _ (FinI.ret3 ?_) | refine hK _ _ (FinI.nrm3 ?_)); simp only [GA, ↓GB, List.filterMap_cons, eq_self, BEq.rfl, simprocAttr, finP_s, hnt, hT, h, h1, hp]; refine Done.out ?_)
    | (clear hN N; first | (refine hN _ ?_; clear hN N) | (clear hN N; first | (refine hN _ ?_; clear hN N) | (clear hN N; first | (refine hN _ ?_; clear hN N) | (clear hN N; first | (refine hN _ ?_; clear hN N) | (clear hN N; first | (refine hN _ ?_; clear hN N) | (refine hN _ ?_; clear hN N))))))
    | (refine bif2.mk (fun hb => ?_) (fun hb => ?_) <;> (try simp only [hb, GA, ↓GB, List.filterMap_cons, eq_self, BEq.rfl, simprocAttr, hnt, hT, h, h1, hp]) <;> ((first | cases hb | (simp only [decide_eq_true_eq, decide_eq_false_iff_not, beq_iff_eq, beq_eq_false_iff_ne, bne_iff_ne, Bool.and_eq_true, Bool.or_eq_true, Bool.not_eq_true', Bool.not_eq_false', Bool.and_eq_false_iff, Bool.or_eq_false_iff, Int.not_lt, Int.not_le] at hb) | skip) <;> (first | (exfalso; omega) | skip)))
    | ((first | (refine CallVC.pt (l := [_, _]) hP (rPutStatus_any t s q false d hsl hq) rfl ?_) | (refine CallQ.pt (l := [_, _]) hP (rPutStatus_any t s q false d hsl hq) rfl ?_) | (refine Ctr.use (rfind_ctr ms hms t s q) hP ?_ [0,1] ?_ rfl rfl ?_; (focus (intro p hp; cases hp)); (focus (refine LeR.of rfl trivial ?_ ?_ ?_ ?_ ?_ <;> first | decide | (simp only [GA, ↓GB, List.filterMap_cons, eq_self, BEq.rfl, simprocAttr, List.getD_cons_zero, List.getD_cons_succ, or_false, false_or, or_self, or_true, true_or, decide_true]; done))); intro os' s hR; obtain ⟨rfl, rfl⟩ := hR)); simp only [GA, ↓GB, List.filterMap_cons, eq_self, BEq.rfl, simprocAttr, hnt, hT, h, h1, hp])
    | (refine SX.loop (ι := { i : Nat // i ≤ ms.length }) (fun j => ⟨[(0, .one (.c (.loc 0 0))), (3, .one (.c (.loc 2 0))), (7, vv (.int .i64 i)), (8, vv (.int .i64 j.1))], [.cells [.row 1] 69, rrow ms, .cells [.v (.int .i64 t), .v (.string (B s)), .v (.int .u64 q), .v (.bool false), .v (.string (B d))] 72]⟩) (fun j => ms.length - j.1) ⟨0, Nat.zero_le _⟩ ⟨[0, 1, 2], (LeR.of (by rw [hbl]; decide) (by simp only [GA, ↓GB, List.filterMap_cons, eq_self, BEq.rfl, simprocAttr, List.getD_cons_zero, List.getD_cons_succ, or_false, false_or, or_self, or_true, true_or, decide_true]; try (rfl)) (by simp only [GA, ↓GB, List.filterMap_cons, eq_self, BEq.rfl, simprocAttr, List.getD_cons_zero, List.getD_cons_succ, or_false, false_or, or_self, or_true, true_or, decide_true]; try (rfl)) (by decide) (by simp only [GA, ↓GB, List.filterMap_cons, eq_self, BEq.rfl, simprocAttr, List.getD_cons_zero, List.getD_cons_succ, or_false, false_or, or_self, or_true, true_or, decide_true]) (by simp only [GA, ↓GB, List.filterMap_cons, eq_self, BEq.rfl, simprocAttr, List.getD_cons_zero, List.getD_cons_succ, or_false, false_or, or_self, or_true, true_or, decide_true]) (by simp only [GA, ↓GB, List.filterMap_cons, eq_self, BEq.rfl, simprocAttr, List.getD_cons_zero, List.getD_cons_succ, or_false, false_or, or_self, or_true, true_or, decide_true]))⟩ ?_ <;> rintro ⟨j, hj⟩ <;> simp only [] at hj ⊢)
    | (refine ⟨_, mks_st ms _ hlt, ?_⟩)
    | (refine ⟨by simp only [mks_length, List.length_append, List.length_take, List.length_drop, List.length_cons, List.length_nil]; omega, ?_⟩)
    | (refine SX.block ?_)
    | (refine and_mk ?_ ?_; (focus first | decide | omega | rfl | assumption | (simp only [List.length_append, List.length_cons, List.length_nil, B_size]; omega) | (simp; done)))
    | (refine And.intro ?_ ?_))
  all_goals (try refine Done.mk ?_)
  · refine ⟨⟨j + 1, by omega⟩, [0, 1, 2], (LeR.of (by rw [hbl]; decide) (by simp only [GA, ↓GB, List.filterMap_cons, eq_self, BEq.rfl, simprocAttr, List.getD_cons_zero, List.getD_cons_succ, or_false, false_or, or_self, or_true, true_or, decide_true]; try (first | (rw [wI64 (by omega) (by omega)]; rfl) | rfl)) (by simp only [GA, ↓GB, List.filterMap_cons, eq_self, BEq.rfl, simprocAttr, List.getD_cons_zero, List.getD_cons_succ, or_false, false_or, or_self, or_true, true_or, decide_true]; try (first | (rw [wI64 (by omega) (by omega)]; rfl) | rfl)) (by decide) (by simp only [GA, ↓GB, List.filterMap_cons, eq_self, BEq.rfl, simprocAttr, List.getD_cons_zero, List.getD_cons_succ, or_false, false_or, or_self, or_true, true_or, decide_true]) (by simp only [GA, ↓GB, List.filterMap_cons, eq_self, BEq.rfl, simprocAttr, List.getD_cons_zero, List.getD_cons_succ, or_false, false_or, or_self, or_true, true_or, decide_true]) (by simp only [GA, ↓GB, List.filterMap_cons, eq_self, BEq.rfl, simprocAttr, List.getD_cons_zero, List.getD_cons_succ, or_false, false_or, or_self, or_true, true_or, decide_true])), by show ms.length - (j + 1) < ms.length - j; omega⟩
  · rw [ref_at ms i d hlt]
    have e : LO.row 74 5 ms.length (mks (ms.set i { ms.getD i default with st := 3, d := d })) = LO.row 74 5 (ms.set i { ms.getD i default with st := 3, d := d }).length (mks (ms.set i { ms.getD i default with st := 3, d := d })) := by rw [List.length_set]
    rw [e]
    (refine hN0 _ _ ⟨[0, 1], _, _, ?_, ?_, ?_, ⟨rfl, rfl⟩⟩; (focus exact LeR.of rfl trivial (by simp only [GA, ↓GB, List.filterMap_cons, eq_self, BEq.rfl, simprocAttr, List.getD_cons_zero, List.getD_cons_succ, or_false, false_or, or_self, or_true, true_or, decide_true]) (by decide) rfl rfl rfl); rotate_left; (focus rfl))
    rfl
theorem rnote_keep (ms : List Mk) (hms : ms.length ≤ 1000000) (t : Int) (s : List UInt8) (q : Nat) (d : List UInt8) (hsl : s.length ≤ 9223372036854775807) (hq : q < 18446744073709551616) (h : statusB t s q false d = true) (i : Nat) (hlt : i < ms.length) (h1 : idxI (kk t s q) ms = i) (hp : (ms.getD i default).st ≠ 1) : Ctr Tryd.prog [] 33 [.cells [.row 1] 69, rrow ms] [.one (.c (.loc 0 0)), .one (.agg [.v (.int .i64 t), .v (.string (B s)), .v (.int .u64 q), .v (.bool false), .v (.string (B d))])]
    (fun os v => os = [.cells [.row 1] 69, rrow ms] ∧ v = vv (.int .i64 0)) := by
  refine Ctr.less ?_
  have hp' : ((ms.getD i default).st == 1) = false := by simpa using hp
  intro X0 hP0 hG0 N0 hN0
  refine CallVC.inline (f := 33) (by rw [hP0]; exact Tryd.func33) rfl Tryd.ntmps33 rfl (by simp) ?_
  intro X K hU hnt hbl hK
  have hP : X.P = Tryd.prog := by rw [hU.P, hP0]
  have hG := hG0.under hU
  have hT : aggOf X.P 72 = some true ∧ szOf X.P 72 = some 5 ∧ calleeOk X.P 91 = true ∧ fieldOff X.P 72 0 = some 0 ∧ aggOf X.P 26 = some true ∧ szOf X.P 26 = some 2 ∧ fieldOff X.P 72 1 = some 2 ∧ aggOf X.P 22 = some false ∧ szOf X.P 22 = some 1 ∧ calleeOk X.P 92 = true ∧ fieldOff X.P 69 0 = some 0 ∧ aggOf X.P 67 = some false ∧ szOf X.P 67 = some 1 ∧ X.P.underlying 67 = some (TypeDesc.slice 74) ∧ fieldOff X.P 72 2 = some 3 ∧ aggOf X.P 4 = some false ∧ szOf X.P 4 = some 1 ∧ elemSz X.P 67 = some (74, 5) ∧ fieldOff X.P 74 0 = some 0 ∧ fieldOff X.P 74 1 = some 2 ∧ fieldOff X.P 74 2 = some 3 ∧ aggOf X.P 3 = some false ∧ szOf X.P 3 = some 1 ∧ fieldOff X.P 72 3 = some 4 ∧ aggOf X.P 9 = some false ∧ szOf X.P 9 = some 1 ∧ fieldOff X.P 74 3 = some 4 := by rw [hP]; exact ⟨Ty.ag72, Ty.sz72, Ty.co91, Ty.fo72_0, Ty.ag26, Ty.sz26, Ty.fo72_1, Ty.ag22, Ty.sz22, Ty.co92, Ty.fo69_0, Ty.ag67, Ty.sz67, Tryd.underlying67, Ty.fo72_2, Ty.ag4, Ty.sz4, Ty.el67, Ty.fo74_0, Ty.fo74_1, Ty.fo74_2, Ty.ag3, Ty.sz3, Ty.fo72_3, Ty.ag9, Ty.sz9, Ty.fo74_3⟩
  simp only [GA, ↓GB, List.filterMap_cons, eq_self, BEq.rfl, simprocAttr] at hbl ⊢
  repeat' (first
    | (refine SX.seqK ?_; intro N hN)
    | ((first | (refine SX.ops ?_) | (refine SX.planT (id := 10) [.s 0, .s 1, .s 2, .q [(3, [0, 35]), (4, [36, 35]), (5, [37, 35]), (6, [38, 35]), (7, [8, 35]), (8, [39, 40, 35]), (9, [41, 35]), (10, [42, 35]), (11, [3, 35]), (12, [44, 35]), (13, [43, 45, 35]), (14, [35, 46]), (15, [47]), (16, [0, 48]), (17, [49, 48]), (18, [50, 48]), (19, [51, 48]), (20, [8, 48]), (21, [52, 53, 48]), (22, [54, 48]), (23, [55, 48]), (24, [3, 48]), (25, [57, 48]), (26, [56, 58, 48]), (27, [48, 59]), (28, [60]), (29, [0, 61]), (30, [62, 61]), (31, [63, 61]), (32, [64, 61]), (33, [8, 61]), (34, [65, 66, 61]), (35, [67, 61]), (36, [68, 61]), (37, [69, 61]), (38, [61, 70])] none] ?_ ?_ ?_; (focus first | (rw [hP]; kernel_rfl) | (rw [hU1P, hP]; kernel_rfl)); (focus kernel_rfl)) | (refine SX.planT (id := 14) [.q [(0, [0]), (1, [100]), (2, [101]), (3, [102]), (4, [7]), (5, [3]), (6, [105]), (7, [103, 104]), (8, [107])] none, .s 9] ?_ ?_ ?_; (focus first | (rw [hP]; kernel_rfl) | (rw [hU1P, hP]; kernel_rfl)); (focus kernel_rfl))); simp only [GA, ↓GB, List.filterMap_cons, eq_self, BEq.rfl, simprocAttr, hnt, hT, h, h1, hp'])
    | ((first | refine SX.skip ?_ | refine SX.exit ?_ | refine SX.label ?_); try simp only [GA, ↓GB, List.filterMap_cons, eq_self, BEq.rfl, simprocAttr])
    | (refine SX.cond rfl (fun hb => ?_) (fun hb => ?_) <;> ((first | cases hb | (simp only [decide_eq_true_eq, decide_eq_false_iff_not, beq_iff_eq, beq_eq_false_iff_ne, bne_iff_ne, Bool.and_eq_true, Bool.or_eq_true, Bool.not_eq_true', Bool.not_eq_false', Bool.and_eq_false_iff, Bool.or_eq_false_iff, Int.not_lt, Int.not_le] at hb) | skip) <;> (first | (exfalso; omega) | skip)))
    | (refine SX.ret ?_; try simp only [GA, ↓GB, List.filterMap_cons, eq_self, BEq.rfl, simprocAttr])
    | (refine hN _ ?_; clear hN N)
    | ((first | refine hK _ _ (FinI.ret3 ?_) | refine hK _ _ (FinI.nrm3 ?_)); simp only [GA, ↓GB, List.filterMap_cons, eq_self, BEq.rfl, simprocAttr, finP_s, hnt, hT, h, h1, hp']; refine Done.out ?_)
    | (clear hN N; first | (refine hN _ ?_; clear hN N) | (clear hN N; first | (refine hN _ ?_; clear hN N) | (clear hN N; first | (refine hN _ ?_; clear hN N) | (clear hN N; first | (refine hN _ ?_; clear hN N) | (clear hN N; first | (refine hN _ ?_; clear hN N) | (refine hN _ ?_; clear hN N))))))
    | (refine bif2.mk (fun hb => ?_) (fun hb => ?_) <;> (try simp only [hb, GA, ↓GB, List.filterMap_cons, eq_self, BEq.rfl, simprocAttr, hnt, hT, h, h1, hp']) <;> ((first | cases hb | (simp only [decide_eq_true_eq, decide_eq_false_iff_not, beq_iff_eq, beq_eq_false_iff_ne, bne_iff_ne, Bool.and_eq_true, Bool.or_eq_true, Bool.not_eq_true', Bool.not_eq_false', Bool.and_eq_false_iff, Bool.or_eq_false_iff, Int.not_lt, Int.not_le] at hb) | skip) <;> (first | (exfalso; omega) | skip)))
    | ((first | (refine CallVC.pt (l := [_, _]) hP (rPutStatus_any t s q false d hsl hq) rfl ?_) | (refine CallQ.pt (l := [_, _]) hP (rPutStatus_any t s q false d hsl hq) rfl ?_) | (refine Ctr.use (rfind_ctr ms hms t s q) hP ?_ [0,1] ?_ rfl rfl ?_; (focus (intro p hp; cases hp)); (focus (refine LeR.of rfl trivial ?_ ?_ ?_ ?_ ?_ <;> first | decide | (simp only [GA, ↓GB, List.filterMap_cons, eq_self, BEq.rfl, simprocAttr, List.getD_cons_zero, List.getD_cons_succ, or_false, false_or, or_self, or_true, true_or, decide_true]; done))); intro os' s hR; obtain ⟨rfl, rfl⟩ := hR)); simp only [GA, ↓GB, List.filterMap_cons, eq_self, BEq.rfl, simprocAttr, hnt, hT, h, h1, hp'])
    | (refine SX.loop (ι := { i : Nat // i ≤ ms.length }) (fun j => ⟨[(0, .one (.c (.loc 0 0))), (3, .one (.c (.loc 2 0))), (7, vv (.int .i64 i)), (8, vv (.int .i64 j.1))], [.cells [.row 1] 69, rrow ms, .cells [.v (.int .i64 t), .v (.string (B s)), .v (.int .u64 q), .v (.bool false), .v (.string (B d))] 72]⟩) (fun j => ms.length - j.1) ⟨0, Nat.zero_le _⟩ ⟨[0, 1, 2], (LeR.of (by rw [hbl]; decide) (by simp only [GA, ↓GB, List.filterMap_cons, eq_self, BEq.rfl, simprocAttr, List.getD_cons_zero, List.getD_cons_succ, or_false, false_or, or_self, or_true, true_or, decide_true]; try (rfl)) (by simp only [GA, ↓GB, List.filterMap_cons, eq_self, BEq.rfl, simprocAttr, List.getD_cons_zero, List.getD_cons_succ, or_false, false_or, or_self, or_true, true_or, decide_true]; try (rfl)) (by decide) (by simp only [GA, ↓GB, List.filterMap_cons, eq_self, BEq.rfl, simprocAttr, List.getD_cons_zero, List.getD_cons_succ, or_false, false_or, or_self, or_true, true_or, decide_true]) (by simp only [GA, ↓GB, List.filterMap_cons, eq_self, BEq.rfl, simprocAttr, List.getD_cons_zero, List.getD_cons_succ, or_false, false_or, or_self, or_true, true_or, decide_true]) (by simp only [GA, ↓GB, List.filterMap_cons, eq_self, BEq.rfl, simprocAttr, List.getD_cons_zero, List.getD_cons_succ, or_false, false_or, or_self, or_true, true_or, decide_true]))⟩ ?_ <;> rintro ⟨j, hj⟩ <;> simp only [] at hj ⊢)
    | (refine ⟨_, mks_st ms _ hlt, ?_⟩)
    | (refine SX.block ?_)
    | (refine and_mk ?_ ?_; (focus first | decide | omega | rfl | assumption | (simp only [List.length_append, List.length_cons, List.length_nil, B_size]; omega) | (simp; done)))
    | (refine And.intro ?_ ?_))
  all_goals (try refine Done.mk ?_)
  · refine ⟨⟨j + 1, by omega⟩, [0, 1, 2], (LeR.of (by rw [hbl]; decide) (by simp only [GA, ↓GB, List.filterMap_cons, eq_self, BEq.rfl, simprocAttr, List.getD_cons_zero, List.getD_cons_succ, or_false, false_or, or_self, or_true, true_or, decide_true]; try (first | (rw [wI64 (by omega) (by omega)]; rfl) | rfl)) (by simp only [GA, ↓GB, List.filterMap_cons, eq_self, BEq.rfl, simprocAttr, List.getD_cons_zero, List.getD_cons_succ, or_false, false_or, or_self, or_true, true_or, decide_true]; try (first | (rw [wI64 (by omega) (by omega)]; rfl) | rfl)) (by decide) (by simp only [GA, ↓GB, List.filterMap_cons, eq_self, BEq.rfl, simprocAttr, List.getD_cons_zero, List.getD_cons_succ, or_false, false_or, or_self, or_true, true_or, decide_true]) (by simp only [GA, ↓GB, List.filterMap_cons, eq_self, BEq.rfl, simprocAttr, List.getD_cons_zero, List.getD_cons_succ, or_false, false_or, or_self, or_true, true_or, decide_true]) (by simp only [GA, ↓GB, List.filterMap_cons, eq_self, BEq.rfl, simprocAttr, List.getD_cons_zero, List.getD_cons_succ, or_false, false_or, or_self, or_true, true_or, decide_true])), by show ms.length - (j + 1) < ms.length - j; omega⟩
  · (refine hN0 _ _ ⟨[0, 1], _, _, ?_, ?_, ?_, ⟨rfl, rfl⟩⟩; (focus exact LeR.of rfl trivial (by simp only [GA, ↓GB, List.filterMap_cons, eq_self, BEq.rfl, simprocAttr, List.getD_cons_zero, List.getD_cons_succ, or_false, false_or, or_self, or_true, true_or, decide_true]) (by decide) rfl rfl rfl); rotate_left; (focus rfl))
    rfl
theorem rnote_ctr (ms : List Mk) (hms : ms.length ≤ 1000000) (t : Int) (s : List UInt8) (q : Nat) (ok : Bool) (d : List UInt8) (hsl : s.length ≤ 9223372036854775807) (hq : q < 18446744073709551616) : Ctr Tryd.prog [] 33 [.cells [.row 1] 69, rrow ms] [.one (.c (.loc 0 0)), .one (.agg [.v (.int .i64 t), .v (.string (B s)), .v (.int .u64 q), .v (.bool ok), .v (.string (B d))])]
    (fun os v => os = [.cells [.row 1] 69, rrow (noteR ms t s q ok d).1] ∧ v = vv (.int .i64 (noteR ms t s q ok d).2)) := by
  cases h : statusB t s q ok d with
  | false =>
    have e : noteR ms t s q ok d = (ms, 1) := by simp [noteR, h]
    rw [e]
    exact rnote_wrong ms t s q ok d hsl hq h
  | true =>
    rcases idx_find ms (kk t s q) with ⟨h1, _⟩ | ⟨i, hi, h1, _⟩
    · have e : noteR ms t s q ok d = (ms, 5) := by simp [noteR, h, h1]
      rw [e]
      exact rnote_none ms hms t s q ok d hsl hq h h1
    · have hn : ¬ idxI (kk t s q) ms < 0 := by omega
      cases ok with
      | true =>
        have e : noteR ms t s q true d = (ms.map (tkM t s q), 0) := by simp [noteR, h, hn]
        rw [e]
        exact rnote_ok ms hms t s q d hsl hq h i hi h1
      | false =>
        by_cases hp : (ms.getD i default).st = 1
        · have e : noteR ms t s q false d = (ms.set i { ms.getD i default with st := 3, d := d }, 0) := by
            unfold noteR
            rw [h, h1, if_neg (by decide), if_neg (by omega), if_neg (by decide), Int.toNat_natCast, if_pos hp]
          rw [e]
          exact rnote_refused ms hms t s q d hsl hq h i hi h1 hp
        · have e : noteR ms t s q false d = (ms, 0) := by
            unfold noteR
            rw [h, h1, if_neg (by decide), if_neg (by omega), if_neg (by decide), Int.toNat_natCast, if_neg hp]
          rw [e]
          exact rnote_keep ms hms t s q d hsl hq h i hi h1 hp
end Go.Proofs.YtbdacbcpniegiaaDoor
namespace Go.Proofs.YtbdacbcpniegiaaDoor
open Go Go.RowKit Go.Proofs Go.Sx
set_option maxHeartbeats 8000000
set_option maxRecDepth 100000
set_option linter.unusedSimpArgs false
set_option linter.unusedVariables false
theorem refAt_le (L : List Mk) (t : Int) (s : List UInt8) : ∀ i, refAt L t s i ≤ i
  | 0 => Nat.le_refl _
  | i + 1 => by
    rw [refAt]
    split
    · exact Nat.le_refl _
    · exact Nat.le_succ_of_le (refAt_le L t s i)
theorem cmpKey_zero {a b : Int} {s t : List UInt8} : cmpKey a s b t = 0 ↔ a = b ∧ s = t := by
  unfold cmpKey
  by_cases h1 : cmpI a b = 0
  · simp only [h1, ne_eq, not_true_eq_false, if_false]
    rw [cmpS_eq]; exact ⟨fun h => ⟨cmpI_eq.1 h1, h⟩, fun h => h.2⟩
  · rw [if_pos h1]
    exact ⟨fun h => absurd h h1, fun h => absurd (cmpI_eq.2 h.1) h1⟩
theorem isAt_iff {t : Int} {s : List UInt8} {q : Int} {x : Mk} : isAt t s q x = true ↔ cmpKey x.t x.s t s = 0 ∧ q ≤ x.q := by
  rw [cmpKey_zero]; simp [isAt]
def putA (ms : List Mk) (t : Int) (s : List UInt8) (q : Int) (k : Nat) : List Mk := ms.take k ++ newM t s q :: ms.drop k
theorem putA_eq (ms : List Mk) (t : Int) (s : List UInt8) (q : Int) (k : Nat) : putA ms t s q k = (ms.take k ++ [newM t s q]) ++ (ms.drop k).take (ms.length - k) := by
  rw [putA, List.take_of_length_le (l := ms.drop k) (Nat.le_of_eq List.length_drop), List.append_assoc]; rfl
theorem putA_len {ms : List Mk} {t : Int} {s : List UInt8} {q : Int} {k : Nat} (h : k ≤ ms.length) : (putA ms t s q k).length = ms.length + 1 := by simp [putA]; omega
theorem lateEnd {ms : List Mk} {t q : Int} {s : List UInt8} {i : Nat} {p r : Prop} (hl : decide (0 ≤ idxI (isAt t s q) ms) = true) (hno : ∀ j, j < i → isAt t s q (ms.getD j default) = false) (hi : i ≤ ms.length) (hb : (ms.length : Int) ≤ (i : Int)) (_ : r → r) : p := by
  have := idxNone (isAt t s q) ms (fun j hj => hno j (by omega))
  rw [this] at hl
  exact absurd hl (by decide)
theorem freshEnd {ms : List Mk} {t q : Int} {s : List UInt8} {i : Nat} {p : Prop} (hl : decide (0 ≤ idxI (isAt t s q) ms) = false) (hi : (i : Int) < (ms.length : Int)) (h1 : cmpKey (ms.getD i default).t (ms.getD i default).s t s = 0) (h2 : q ≤ (ms.getD i default).q) : p := by
  have hx : isAt t s q (ms.getD i default) = true := isAt_iff.2 ⟨h1, h2⟩
  have hm : ms.getD i default ∈ ms := by rw [List.getD_eq_getElem?_getD, List.getElem?_eq_getElem (by omega)]; exact List.getElem_mem _
  simp only [isAt, Bool.and_eq_true, beq_iff_eq, decide_eq_true_eq] at hx
  have := late_iff.2 ⟨_, hm, hx.1.1, hx.1.2, hx.2⟩
  rw [hl] at this; cases this
theorem rbegin_wrong (ms : List Mk) (hms : ms.length ≤ 1000000) (t q : Int) (s : List UInt8) (hsl : s.length ≤ 9223372036854775807) (h : badB t s q = true) : Ctr Tryd.prog [] 36 [.cells [.row 1] 69, rrow ms] [.one (.c (.loc 0 0)), .one (.agg [.v (.int .i64 t), .v (.string (B s))]), vv (.int .u64 q)]
    (fun os v => os = [.cells [.row 1] 69, rrow ms] ∧ v = vv (.int .i64 1)) := by
  refine Ctr.less ?_
  cases hk1 : keyB t s with
  | false =>
    intro X0 hP0 hG0 N0 hN0
    refine CallVC.inline (f := 36) (by rw [hP0]; exact Tryd.func36) rfl Tryd.ntmps36 rfl (by simp) ?_
    intro X K hU hnt hbl hK
    have hP : X.P = Tryd.prog := by rw [hU.P, hP0]
    have hG := hG0.under hU
    have hT : aggOf X.P 26 = some true ∧ szOf X.P 26 = some 2 ∧ calleeOk X.P 94 = true ∧ fieldOff X.P 26 1 = some 1 ∧ aggOf X.P 9 = some false ∧ szOf X.P 9 = some 1 ∧ fieldOff X.P 69 0 = some 0 ∧ aggOf X.P 67 = some false ∧ szOf X.P 67 = some 1 ∧ X.P.underlying 67 = some (TypeDesc.slice 74) ∧ elemSz X.P 67 = some (74, 5) ∧ fieldOff X.P 74 0 = some 0 ∧ calleeOk X.P 95 = true ∧ fieldOff X.P 74 1 = some 2 ∧ aggOf X.P 22 = some false ∧ szOf X.P 22 = some 1 ∧ isStrT X.P 67 = false ∧ elemInf X.P 67 = some (74, 5, 56, (Value.agg #[(Value.int IntKind.i64 0), (Value.string { data := #[] }), (Value.int IntKind.u64 0), (Value.int IntKind.i64 0), (Value.string { data := #[] })])) ∧ fieldsOf X.P 74 = some [(0, 2), (2, 1), (3, 1), (4, 1)] ∧ zeroCells X.P 74 = some [(Value.int IntKind.i64 0), (Value.string { data := #[] }), (Value.int IntKind.u64 0), (Value.int IntKind.i64 0), (Value.string { data := #[] })] ∧ calleeOk X.P 96 = true := by rw [hP]; exact ⟨Ty.ag26, Ty.sz26, Ty.co94, Ty.fo26_1, Ty.ag9, Ty.sz9, Ty.fo69_0, Ty.ag67, Ty.sz67, Tryd.underlying67, Ty.el67, Ty.fo74_0, Ty.co95, Ty.fo74_1, Ty.ag22, Ty.sz22, Ty.is67, Ty.ei67, Ty.fs74, Ty.ze74, Ty.co96⟩
    simp only [GA, ↓GB, List.filterMap_cons, eq_self, BEq.rfl, simprocAttr] at hbl ⊢
    repeat' (first
      | (refine SX.seqK ?_; intro N hN)
      | ((first | (refine SX.ops ?_) | (refine SX.planT (id := 8) [.q [(0, [0]), (1, [34]), (2, [35]), (3, [36]), (4, [9]), (5, [37, 38]), (6, [39]), (7, [40]), (8, [4])] none, .s 9, .s 10] ?_ ?_ ?_; (focus first | (rw [hP]; kernel_rfl) | (rw [hU1P, hP]; kernel_rfl)); (focus kernel_rfl))); simp only [GA, ↓GB, List.filterMap_cons, eq_self, BEq.rfl, simprocAttr, hnt, hT, hk1])
      | ((first | refine SX.skip ?_ | refine SX.exit ?_ | refine SX.label ?_); try simp only [GA, ↓GB, List.filterMap_cons, eq_self, BEq.rfl, simprocAttr])
      | (refine SX.cond rfl (fun hb => ?_) (fun hb => ?_) <;> ((first | cases hb | (simp only [decide_eq_true_eq, decide_eq_false_iff_not, beq_iff_eq, beq_eq_false_iff_ne, bne_iff_ne, Bool.and_eq_true, Bool.or_eq_true, Bool.not_eq_true', Bool.not_eq_false', Bool.and_eq_false_iff, Bool.or_eq_false_iff, Int.not_lt, Int.not_le] at hb) | skip) <;> (first | (exfalso; omega) | skip)))
      | (refine SX.ret ?_; try simp only [GA, ↓GB, List.filterMap_cons, eq_self, BEq.rfl, simprocAttr])
      | (refine hN _ ?_; clear hN N)
      | ((first | refine hK _ _ (FinI.ret3 ?_) | refine hK _ _ (FinI.nrm3 ?_)); simp only [GA, ↓GB, List.filterMap_cons, eq_self, BEq.rfl, simprocAttr, finP_s, hnt, hT, hk1]; refine Done.out ?_)
      | (clear hN N; first | (refine hN _ ?_; clear hN N) | (clear hN N; first | (refine hN _ ?_; clear hN N) | (clear hN N; first | (refine hN _ ?_; clear hN N) | (clear hN N; first | (refine hN _ ?_; clear hN N) | (clear hN N; first | (refine hN _ ?_; clear hN N) | (refine hN _ ?_; clear hN N))))))
      | (refine bif2.mk (fun hb => ?_) (fun hb => ?_) <;> (try simp only [hb, GA, ↓GB, List.filterMap_cons, eq_self, BEq.rfl, simprocAttr, hnt, hT, hk1]) <;> ((first | cases hb | (simp only [decide_eq_true_eq, decide_eq_false_iff_not, beq_iff_eq, beq_eq_false_iff_ne, bne_iff_ne, Bool.and_eq_true, Bool.or_eq_true, Bool.not_eq_true', Bool.not_eq_false', Bool.and_eq_false_iff, Bool.or_eq_false_iff, Int.not_lt, Int.not_le] at hb) | skip) <;> (first | (exfalso; omega) | skip)))
      | ((first | (refine CallVC.pv hP (rKey_any _ _ hsl) rfl ?_) | (refine CallQ.pv hP (rKey_any _ _ hsl) rfl ?_)); simp only [GA, ↓GB, List.filterMap_cons, eq_self, BEq.rfl, simprocAttr, hnt, hT, hk1])
      | (refine SX.block ?_)
      | (refine and_mk ?_ ?_; (focus first | decide | omega | rfl | assumption | (simp only [List.length_append, List.length_cons, List.length_nil, B_size]; omega) | (simp; done)))
      | (refine And.intro ?_ ?_))
    all_goals (try refine Done.mk ?_)
    all_goals ((refine hN0 _ _ ⟨[0, 1], _, _, ?_, ?_, ?_, ⟨rfl, rfl⟩⟩; (focus exact LeR.of rfl trivial (by simp only [GA, ↓GB, List.filterMap_cons, eq_self, BEq.rfl, simprocAttr, List.getD_cons_zero, List.getD_cons_succ, or_false, false_or, or_self, or_true, true_or, decide_true]) (by decide) rfl rfl rfl); rotate_left; (focus rfl)); rfl)
  | true =>
    cases hk2 : (s == [42]) with
    | true =>
      intro X0 hP0 hG0 N0 hN0
      refine CallVC.inline (f := 36) (by rw [hP0]; exact Tryd.func36) rfl Tryd.ntmps36 rfl (by simp) ?_
      intro X K hU hnt hbl hK
      have hP : X.P = Tryd.prog := by rw [hU.P, hP0]
      have hG := hG0.under hU
      have hT : aggOf X.P 26 = some true ∧ szOf X.P 26 = some 2 ∧ calleeOk X.P 94 = true ∧ fieldOff X.P 26 1 = some 1 ∧ aggOf X.P 9 = some false ∧ szOf X.P 9 = some 1 ∧ fieldOff X.P 69 0 = some 0 ∧ aggOf X.P 67 = some false ∧ szOf X.P 67 = some 1 ∧ X.P.underlying 67 = some (TypeDesc.slice 74) ∧ elemSz X.P 67 = some (74, 5) ∧ fieldOff X.P 74 0 = some 0 ∧ calleeOk X.P 95 = true ∧ fieldOff X.P 74 1 = some 2 ∧ aggOf X.P 22 = some false ∧ szOf X.P 22 = some 1 ∧ isStrT X.P 67 = false ∧ elemInf X.P 67 = some (74, 5, 56, (Value.agg #[(Value.int IntKind.i64 0), (Value.string { data := #[] }), (Value.int IntKind.u64 0), (Value.int IntKind.i64 0), (Value.string { data := #[] })])) ∧ fieldsOf X.P 74 = some [(0, 2), (2, 1), (3, 1), (4, 1)] ∧ zeroCells X.P 74 = some [(Value.int IntKind.i64 0), (Value.string { data := #[] }), (Value.int IntKind.u64 0), (Value.int IntKind.i64 0), (Value.string { data := #[] })] ∧ calleeOk X.P 96 = true := by rw [hP]; exact ⟨Ty.ag26, Ty.sz26, Ty.co94, Ty.fo26_1, Ty.ag9, Ty.sz9, Ty.fo69_0, Ty.ag67, Ty.sz67, Tryd.underlying67, Ty.el67, Ty.fo74_0, Ty.co95, Ty.fo74_1, Ty.ag22, Ty.sz22, Ty.is67, Ty.ei67, Ty.fs74, Ty.ze74, Ty.co96⟩
      simp only [GA, ↓GB, List.filterMap_cons, eq_self, BEq.rfl, simprocAttr] at hbl ⊢
      repeat' (first
        | (refine SX.seqK ?_; intro N hN)
        | ((first | (refine SX.ops ?_) | (refine SX.planT (id := 8) [.q [(0, [0]), (1, [34]), (2, [35]), (3, [36]), (4, [9]), (5, [37, 38]), (6, [39]), (7, [40]), (8, [4])] none, .s 9, .s 10] ?_ ?_ ?_; (focus first | (rw [hP]; kernel_rfl) | (rw [hU1P, hP]; kernel_rfl)); (focus kernel_rfl))); simp only [GA, ↓GB, List.filterMap_cons, eq_self, BEq.rfl, simprocAttr, hnt, hT, hk1, hk2])
        | ((first | refine SX.skip ?_ | refine SX.exit ?_ | refine SX.label ?_); try simp only [GA, ↓GB, List.filterMap_cons, eq_self, BEq.rfl, simprocAttr])
        | (refine SX.cond rfl (fun hb => ?_) (fun hb => ?_) <;> ((first | cases hb | (simp only [decide_eq_true_eq, decide_eq_false_iff_not, beq_iff_eq, beq_eq_false_iff_ne, bne_iff_ne, Bool.and_eq_true, Bool.or_eq_true, Bool.not_eq_true', Bool.not_eq_false', Bool.and_eq_false_iff, Bool.or_eq_false_iff, Int.not_lt, Int.not_le] at hb) | skip) <;> (first | (exfalso; omega) | skip)))
        | (refine SX.ret ?_; try simp only [GA, ↓GB, List.filterMap_cons, eq_self, BEq.rfl, simprocAttr])
        | (refine hN _ ?_; clear hN N)
        | ((first | refine hK _ _ (FinI.ret3 ?_) | refine hK _ _ (FinI.nrm3 ?_)); simp only [GA, ↓GB, List.filterMap_cons, eq_self, BEq.rfl, simprocAttr, finP_s, hnt, hT, hk1, hk2]; refine Done.out ?_)
        | (clear hN N; first | (refine hN _ ?_; clear hN N) | (clear hN N; first | (refine hN _ ?_; clear hN N) | (clear hN N; first | (refine hN _ ?_; clear hN N) | (clear hN N; first | (refine hN _ ?_; clear hN N) | (clear hN N; first | (refine hN _ ?_; clear hN N) | (refine hN _ ?_; clear hN N))))))
        | (refine bif2.mk (fun hb => ?_) (fun hb => ?_) <;> (try simp only [hb, GA, ↓GB, List.filterMap_cons, eq_self, BEq.rfl, simprocAttr, hnt, hT, hk1, hk2]) <;> ((first | cases hb | (simp only [decide_eq_true_eq, decide_eq_false_iff_not, beq_iff_eq, beq_eq_false_iff_ne, bne_iff_ne, Bool.and_eq_true, Bool.or_eq_true, Bool.not_eq_true', Bool.not_eq_false', Bool.and_eq_false_iff, Bool.or_eq_false_iff, Int.not_lt, Int.not_le] at hb) | skip) <;> (first | (exfalso; omega) | skip)))
        | ((first | (refine CallVC.pv hP (rKey_any _ _ hsl) rfl ?_) | (refine CallQ.pv hP (rKey_any _ _ hsl) rfl ?_)); simp only [GA, ↓GB, List.filterMap_cons, eq_self, BEq.rfl, simprocAttr, hnt, hT, hk1, hk2])
        | (refine SX.block ?_)
        | (refine and_mk ?_ ?_; (focus first | decide | omega | rfl | assumption | (simp only [List.length_append, List.length_cons, List.length_nil, B_size]; omega) | (simp; done)))
        | (refine And.intro ?_ ?_))
      all_goals (try refine Done.mk ?_)
      all_goals ((refine hN0 _ _ ⟨[0, 1], _, _, ?_, ?_, ?_, ⟨rfl, rfl⟩⟩; (focus exact LeR.of rfl trivial (by simp only [GA, ↓GB, List.filterMap_cons, eq_self, BEq.rfl, simprocAttr, List.getD_cons_zero, List.getD_cons_succ, or_false, false_or, or_self, or_true, true_or, decide_true]) (by decide) rfl rfl rfl); rotate_left; (focus rfl)); rfl)
    | false =>
      have hk3 : (q == 0) = true := by simpa [badB, hk1, hk2] using h
      intro X0 hP0 hG0 N0 hN0
      refine CallVC.inline (f := 36) (by rw [hP0]; exact Tryd.func36) rfl Tryd.ntmps36 rfl (by simp) ?_
      intro X K hU hnt hbl hK
      have hP : X.P = Tryd.prog := by rw [hU.P, hP0]
      have hG := hG0.under hU
      have hT : aggOf X.P 26 = some true ∧ szOf X.P 26 = some 2 ∧ calleeOk X.P 94 = true ∧ fieldOff X.P 26 1 = some 1 ∧ aggOf X.P 9 = some false ∧ szOf X.P 9 = some 1 ∧ fieldOff X.P 69 0 = some 0 ∧ aggOf X.P 67 = some false ∧ szOf X.P 67 = some 1 ∧ X.P.underlying 67 = some (TypeDesc.slice 74) ∧ elemSz X.P 67 = some (74, 5) ∧ fieldOff X.P 74 0 = some 0 ∧ calleeOk X.P 95 = true ∧ fieldOff X.P 74 1 = some 2 ∧ aggOf X.P 22 = some false ∧ szOf X.P 22 = some 1 ∧ isStrT X.P 67 = false ∧ elemInf X.P 67 = some (74, 5, 56, (Value.agg #[(Value.int IntKind.i64 0), (Value.string { data := #[] }), (Value.int IntKind.u64 0), (Value.int IntKind.i64 0), (Value.string { data := #[] })])) ∧ fieldsOf X.P 74 = some [(0, 2), (2, 1), (3, 1), (4, 1)] ∧ zeroCells X.P 74 = some [(Value.int IntKind.i64 0), (Value.string { data := #[] }), (Value.int IntKind.u64 0), (Value.int IntKind.i64 0), (Value.string { data := #[] })] ∧ calleeOk X.P 96 = true := by rw [hP]; exact ⟨Ty.ag26, Ty.sz26, Ty.co94, Ty.fo26_1, Ty.ag9, Ty.sz9, Ty.fo69_0, Ty.ag67, Ty.sz67, Tryd.underlying67, Ty.el67, Ty.fo74_0, Ty.co95, Ty.fo74_1, Ty.ag22, Ty.sz22, Ty.is67, Ty.ei67, Ty.fs74, Ty.ze74, Ty.co96⟩
      simp only [GA, ↓GB, List.filterMap_cons, eq_self, BEq.rfl, simprocAttr] at hbl ⊢
      repeat' (first
        | (refine SX.seqK ?_; intro N hN)
        | ((first | (refine SX.ops ?_) | (refine SX.planT (id := 8) [.q [(0, [0]), (1, [34]), (2, [35]), (3, [36]), (4, [9]), (5, [37, 38]), (6, [39]), (7, [40]), (8, [4])] none, .s 9, .s 10] ?_ ?_ ?_; (focus first | (rw [hP]; kernel_rfl) | (rw [hU1P, hP]; kernel_rfl)); (focus kernel_rfl))); simp only [GA, ↓GB, List.filterMap_cons, eq_self, BEq.rfl, simprocAttr, hnt, hT, hk1, hk2, hk3])
        | ((first | refine SX.skip ?_ | refine SX.exit ?_ | refine SX.label ?_); try simp only [GA, ↓GB, List.filterMap_cons, eq_self, BEq.rfl, simprocAttr])
        | (refine SX.cond rfl (fun hb => ?_) (fun hb => ?_) <;> ((first | cases hb | (simp only [decide_eq_true_eq, decide_eq_false_iff_not, beq_iff_eq, beq_eq_false_iff_ne, bne_iff_ne, Bool.and_eq_true, Bool.or_eq_true, Bool.not_eq_true', Bool.not_eq_false', Bool.and_eq_false_iff, Bool.or_eq_false_iff, Int.not_lt, Int.not_le] at hb) | skip) <;> (first | (exfalso; omega) | skip)))
        | (refine SX.ret ?_; try simp only [GA, ↓GB, List.filterMap_cons, eq_self, BEq.rfl, simprocAttr])
        | (refine hN _ ?_; clear hN N)
        | ((first | refine hK _ _ (FinI.ret3 ?_) | refine hK _ _ (FinI.nrm3 ?_)); simp only [GA, ↓GB, List.filterMap_cons, eq_self, BEq.rfl, simprocAttr, finP_s, hnt, hT, hk1, hk2, hk3]; refine Done.out ?_)
        | (clear hN N; first | (refine hN _ ?_; clear hN N) | (clear hN N; first | (refine hN _ ?_; clear hN N) | (clear hN N; first | (refine hN _ ?_; clear hN N) | (clear hN N; first | (refine hN _ ?_; clear hN N) | (clear hN N; first | (refine hN _ ?_; clear hN N) | (refine hN _ ?_; clear hN N))))))
        | (refine bif2.mk (fun hb => ?_) (fun hb => ?_) <;> (try simp only [hb, GA, ↓GB, List.filterMap_cons, eq_self, BEq.rfl, simprocAttr, hnt, hT, hk1, hk2, hk3]) <;> ((first | cases hb | (simp only [decide_eq_true_eq, decide_eq_false_iff_not, beq_iff_eq, beq_eq_false_iff_ne, bne_iff_ne, Bool.and_eq_true, Bool.or_eq_true, Bool.not_eq_true', Bool.not_eq_false', Bool.and_eq_false_iff, Bool.or_eq_false_iff, Int.not_lt, Int.not_le] at hb) | skip) <;> (first | (exfalso; omega) | skip)))
        | ((first | (refine CallVC.pv hP (rKey_any _ _ hsl) rfl ?_) | (refine CallQ.pv hP (rKey_any _ _ hsl) rfl ?_)); simp only [GA, ↓GB, List.filterMap_cons, eq_self, BEq.rfl, simprocAttr, hnt, hT, hk1, hk2, hk3])
        | (refine SX.block ?_)
        | (refine and_mk ?_ ?_; (focus first | decide | omega | rfl | assumption | (simp only [List.length_append, List.length_cons, List.length_nil, B_size]; omega) | (simp; done)))
        | (refine And.intro ?_ ?_))
      all_goals (try refine Done.mk ?_)
      all_goals ((refine hN0 _ _ ⟨[0, 1], _, _, ?_, ?_, ?_, ⟨rfl, rfl⟩⟩; (focus exact LeR.of rfl trivial (by simp only [GA, ↓GB, List.filterMap_cons, eq_self, BEq.rfl, simprocAttr, List.getD_cons_zero, List.getD_cons_succ, or_false, false_or, or_self, or_true, true_or, decide_true]) (by decide) rfl rfl rfl); rotate_left; (focus rfl)); rfl)
theorem rbegin_late (ms : List Mk) (hms : ms.length ≤ 1000000) (t q : Int) (s : List UInt8) (hsl : s.length ≤ 9223372036854775807) (h : badB t s q = false) (hl : decide (0 ≤ idxI (isAt t s q) ms) = true) : Ctr Tryd.prog [] 36 [.cells [.row 1] 69, rrow ms] [.one (.c (.loc 0 0)), .one (.agg [.v (.int .i64 t), .v (.string (B s))]), vv (.int .u64 q)]
    (fun os v => os = [.cells [.row 1] 69, rrow ms] ∧ v = vv (.int .i64 6)) := by
  refine Ctr.less ?_
  simp only [badB, Bool.or_eq_false_iff, Bool.not_eq_false'] at h
  obtain ⟨⟨hk1, hk2⟩, hk3⟩ := h
  intro X0 hP0 hG0 N0 hN0
  refine CallVC.inline (f := 36) (by rw [hP0]; exact Tryd.func36) rfl Tryd.ntmps36 rfl (by simp) ?_
  intro X K hU hnt hbl hK
  have hP : X.P = Tryd.prog := by rw [hU.P, hP0]
  have hG := hG0.under hU
  have hT : aggOf X.P 26 = some true ∧ szOf X.P 26 = some 2 ∧ calleeOk X.P 94 = true ∧ fieldOff X.P 26 1 = some 1 ∧ aggOf X.P 9 = some false ∧ szOf X.P 9 = some 1 ∧ fieldOff X.P 69 0 = some 0 ∧ aggOf X.P 67 = some false ∧ szOf X.P 67 = some 1 ∧ X.P.underlying 67 = some (TypeDesc.slice 74) ∧ elemSz X.P 67 = some (74, 5) ∧ fieldOff X.P 74 0 = some 0 ∧ calleeOk X.P 95 = true ∧ fieldOff X.P 74 1 = some 2 ∧ aggOf X.P 22 = some false ∧ szOf X.P 22 = some 1 ∧ isStrT X.P 67 = false ∧ elemInf X.P 67 = some (74, 5, 56, (Value.agg #[(Value.int IntKind.i64 0), (Value.string { data := #[] }), (Value.int IntKind.u64 0), (Value.int IntKind.i64 0), (Value.string { data := #[] })])) ∧ fieldsOf X.P 74 = some [(0, 2), (2, 1), (3, 1), (4, 1)] ∧ zeroCells X.P 74 = some [(Value.int IntKind.i64 0), (Value.string { data := #[] }), (Value.int IntKind.u64 0), (Value.int IntKind.i64 0), (Value.string { data := #[] })] ∧ calleeOk X.P 96 = true := by rw [hP]; exact ⟨Ty.ag26, Ty.sz26, Ty.co94, Ty.fo26_1, Ty.ag9, Ty.sz9, Ty.fo69_0, Ty.ag67, Ty.sz67, Tryd.underlying67, Ty.el67, Ty.fo74_0, Ty.co95, Ty.fo74_1, Ty.ag22, Ty.sz22, Ty.is67, Ty.ei67, Ty.fs74, Ty.ze74, Ty.co96⟩
  simp only [GA, ↓GB, List.filterMap_cons, eq_self, BEq.rfl, simprocAttr] at hbl ⊢
  repeat' (first
    | (exact lateEnd (r := True) hl hno hi (by assumption) id)
    | (refine SX.seqK ?_; intro N hN)
    | ((first | (refine SX.ops ?_) | (refine SX.planT (id := 8) [.q [(0, [0]), (1, [34]), (2, [35]), (3, [36]), (4, [9]), (5, [37, 38]), (6, [39]), (7, [40]), (8, [4]), (9, [41, 42]), (10, [43])] none] ?_ ?_ ?_; (focus first | (rw [hP]; kernel_rfl) | (rw [hU1P, hP]; kernel_rfl)); (focus kernel_rfl))); simp only [GA, ↓GB, List.filterMap_cons, eq_self, BEq.rfl, simprocAttr, hnt, hT, hk1, hk2, hk3])
    | ((first | refine SX.skip ?_ | refine SX.exit ?_ | refine SX.label ?_); try simp only [GA, ↓GB, List.filterMap_cons, eq_self, BEq.rfl, simprocAttr])
    | (refine SX.cond rfl (fun hb => ?_) (fun hb => ?_) <;> ((first | cases hb | (simp only [decide_eq_true_eq, decide_eq_false_iff_not, beq_iff_eq, beq_eq_false_iff_ne, bne_iff_ne, Bool.and_eq_true, Bool.or_eq_true, Bool.not_eq_true', Bool.not_eq_false', Bool.and_eq_false_iff, Bool.or_eq_false_iff, Int.not_lt, Int.not_le] at hb) | skip) <;> (first | (exfalso; omega) | skip)))
    | (refine SX.ret ?_; try simp only [GA, ↓GB, List.filterMap_cons, eq_self, BEq.rfl, simprocAttr])
    | (refine hN _ ?_; clear hN N)
    | ((first | refine hK _ _ (FinI.ret3 ?_) | refine hK _ _ (FinI.nrm3 ?_)); simp only [GA, ↓GB, List.filterMap_cons, eq_self, BEq.rfl, simprocAttr, finP_s, hnt, hT, hk1, hk2, hk3]; refine Done.out ?_)
    | (clear hN N; first | (refine hN _ ?_; clear hN N) | (clear hN N; first | (refine hN _ ?_; clear hN N) | (clear hN N; first | (refine hN _ ?_; clear hN N) | (clear hN N; first | (refine hN _ ?_; clear hN N) | (clear hN N; first | (refine hN _ ?_; clear hN N) | (refine hN _ ?_; clear hN N))))))
    | (refine bif2.mk (fun hb => ?_) (fun hb => ?_) <;> (try simp only [hb, GA, ↓GB, List.filterMap_cons, eq_self, BEq.rfl, simprocAttr, hnt, hT, hk1, hk2, hk3]) <;> ((first | cases hb | (simp only [decide_eq_true_eq, decide_eq_false_iff_not, beq_iff_eq, beq_eq_false_iff_ne, bne_iff_ne, Bool.and_eq_true, Bool.or_eq_true, Bool.not_eq_true', Bool.not_eq_false', Bool.and_eq_false_iff, Bool.or_eq_false_iff, Int.not_lt, Int.not_le] at hb) | skip) <;> (first | (exfalso; omega) | skip)))
    | ((first | (refine CallVC.pv hP (rKey_any _ _ hsl) rfl ?_) | (refine CallQ.pv hP (rKey_any _ _ hsl) rfl ?_) | (refine CallVC.pv hP (rOrder_any _ _ _ _) rfl ?_) | (refine CallQ.pv hP (rOrder_any _ _ _ _) rfl ?_)); simp only [GA, ↓GB, List.filterMap_cons, eq_self, BEq.rfl, simprocAttr, hnt, hT, hk1, hk2, hk3])
    | (refine SX.loop (ι := { i : Nat // i ≤ ms.length ∧ ∀ j, j < i → isAt t s q (ms.getD j default) = false }) (fun i => ⟨[(0, .one (.c (.loc 0 0))), (2, vv (.int .u64 q)), (4, .one (.c (.loc 2 0))), (8, vv (.int .i64 (refAt ms t s i.1))), (9, vv (.int .i64 i.1))], [.cells [.row 1] 69, rrow ms, .cells [.v (.int .i64 t), .v (.string (B s))] 26]⟩) (fun i => ms.length - i.1) ⟨0, Nat.zero_le _, fun j hj => absurd hj (Nat.not_lt_zero j)⟩ ⟨[0, 1, 2], (LeR.of (by rw [hbl]; decide) (by simp only [GA, ↓GB, List.filterMap_cons, eq_self, BEq.rfl, simprocAttr, List.getD_cons_zero, List.getD_cons_succ, or_false, false_or, or_self, or_true, true_or, decide_true]; try (rfl)) (by simp only [GA, ↓GB, List.filterMap_cons, eq_self, BEq.rfl, simprocAttr, List.getD_cons_zero, List.getD_cons_succ, or_false, false_or, or_self, or_true, true_or, decide_true]; try (rfl)) (by decide) (by simp only [GA, ↓GB, List.filterMap_cons, eq_self, BEq.rfl, simprocAttr, List.getD_cons_zero, List.getD_cons_succ, or_false, false_or, or_self, or_true, true_or, decide_true]) (by simp only [GA, ↓GB, List.filterMap_cons, eq_self, BEq.rfl, simprocAttr, List.getD_cons_zero, List.getD_cons_succ, or_false, false_or, or_self, or_true, true_or, decide_true]) (by simp only [GA, ↓GB, List.filterMap_cons, eq_self, BEq.rfl, simprocAttr, List.getD_cons_zero, List.getD_cons_succ, or_false, false_or, or_self, or_true, true_or, decide_true]))⟩ ?_ <;> rintro ⟨i, hi, hno⟩ <;> simp only [] at hi hno ⊢ <;> have hat := refAt_le ms t s i)
    | (refine ⟨_, rfl, mks_key _ _ (by omega), ?_⟩ <;> (try simp only [GA, ↓GB, List.filterMap_cons, eq_self, BEq.rfl, simprocAttr, hnt, hT]))
    | (refine ⟨_, mks_q _ _ (by omega), ?_⟩ <;> (try simp only [GA, ↓GB, List.filterMap_cons, eq_self, BEq.rfl, simprocAttr, hnt, hT]))
    | (refine SX.block ?_)
    | (refine and_mk ?_ ?_; (focus first | decide | omega | rfl | assumption | (simp only [List.length_append, List.length_cons, List.length_nil, B_size]; omega) | (simp; done)))
    | (refine And.intro ?_ ?_))
  all_goals (try refine Done.mk ?_)
  · (refine hN0 _ _ ⟨[0, 1], _, _, ?_, ?_, ?_, ⟨rfl, rfl⟩⟩; (focus exact LeR.of rfl trivial (by simp only [GA, ↓GB, List.filterMap_cons, eq_self, BEq.rfl, simprocAttr, List.getD_cons_zero, List.getD_cons_succ, or_false, false_or, or_self, or_true, true_or, decide_true]) (by decide) rfl rfl rfl); rotate_left; (focus rfl))
    rfl
  · refine ⟨⟨i + 1, by omega, fun j hj => ?_⟩, [0, 1, 2], (LeR.of (by rw [hbl]; decide) (by simp only [GA, ↓GB, List.filterMap_cons, eq_self, BEq.rfl, simprocAttr, List.getD_cons_zero, List.getD_cons_succ, or_false, false_or, or_self, or_true, true_or, decide_true]; try (first | (rw [refAt, if_pos hb, wI64 (by omega) (by omega)]; exact ⟨rfl, rfl⟩) | rfl)) (by simp only [GA, ↓GB, List.filterMap_cons, eq_self, BEq.rfl, simprocAttr, List.getD_cons_zero, List.getD_cons_succ, or_false, false_or, or_self, or_true, true_or, decide_true]; try (first | (rw [refAt, if_pos hb, wI64 (by omega) (by omega)]; exact ⟨rfl, rfl⟩) | rfl)) (by decide) (by simp only [GA, ↓GB, List.filterMap_cons, eq_self, BEq.rfl, simprocAttr, List.getD_cons_zero, List.getD_cons_succ, or_false, false_or, or_self, or_true, true_or, decide_true]) (by simp only [GA, ↓GB, List.filterMap_cons, eq_self, BEq.rfl, simprocAttr, List.getD_cons_zero, List.getD_cons_succ, or_false, false_or, or_self, or_true, true_or, decide_true]) (by simp only [GA, ↓GB, List.filterMap_cons, eq_self, BEq.rfl, simprocAttr, List.getD_cons_zero, List.getD_cons_succ, or_false, false_or, or_self, or_true, true_or, decide_true])), by show ms.length - (i + 1) < ms.length - i; omega⟩
    rcases Nat.lt_or_eq_of_le (Nat.le_of_lt_succ hj) with h | h
    · exact hno j h
    · subst h; rw [← Bool.not_eq_true, isAt_iff]; intro hx; omega
  · refine ⟨⟨i + 1, by omega, fun j hj => ?_⟩, [0, 1, 2], (LeR.of (by rw [hbl]; decide) (by simp only [GA, ↓GB, List.filterMap_cons, eq_self, BEq.rfl, simprocAttr, List.getD_cons_zero, List.getD_cons_succ, or_false, false_or, or_self, or_true, true_or, decide_true]; try (first | (rw [refAt, if_pos hb, wI64 (by omega) (by omega)]; exact ⟨rfl, rfl⟩) | rfl)) (by simp only [GA, ↓GB, List.filterMap_cons, eq_self, BEq.rfl, simprocAttr, List.getD_cons_zero, List.getD_cons_succ, or_false, false_or, or_self, or_true, true_or, decide_true]; try (first | (rw [refAt, if_pos hb, wI64 (by omega) (by omega)]; exact ⟨rfl, rfl⟩) | rfl)) (by decide) (by simp only [GA, ↓GB, List.filterMap_cons, eq_self, BEq.rfl, simprocAttr, List.getD_cons_zero, List.getD_cons_succ, or_false, false_or, or_self, or_true, true_or, decide_true]) (by simp only [GA, ↓GB, List.filterMap_cons, eq_self, BEq.rfl, simprocAttr, List.getD_cons_zero, List.getD_cons_succ, or_false, false_or, or_self, or_true, true_or, decide_true]) (by simp only [GA, ↓GB, List.filterMap_cons, eq_self, BEq.rfl, simprocAttr, List.getD_cons_zero, List.getD_cons_succ, or_false, false_or, or_self, or_true, true_or, decide_true])), by show ms.length - (i + 1) < ms.length - i; omega⟩
    rcases Nat.lt_or_eq_of_le (Nat.le_of_lt_succ hj) with h | h
    · exact hno j h
    · subst h; rw [← Bool.not_eq_true, isAt_iff]; intro hx; omega
  · refine ⟨⟨i + 1, by omega, fun j hj => ?_⟩, [0, 1, 2], (LeR.of (by rw [hbl]; decide) (by simp only [GA, ↓GB, List.filterMap_cons, eq_self, BEq.rfl, simprocAttr, List.getD_cons_zero, List.getD_cons_succ, or_false, false_or, or_self, or_true, true_or, decide_true]; try (first | (rw [refAt, if_neg (by omega), wI64 (by omega) (by omega)]; exact ⟨rfl, rfl⟩) | rfl)) (by simp only [GA, ↓GB, List.filterMap_cons, eq_self, BEq.rfl, simprocAttr, List.getD_cons_zero, List.getD_cons_succ, or_false, false_or, or_self, or_true, true_or, decide_true]; try (first | (rw [refAt, if_neg (by omega), wI64 (by omega) (by omega)]; exact ⟨rfl, rfl⟩) | rfl)) (by decide) (by simp only [GA, ↓GB, List.filterMap_cons, eq_self, BEq.rfl, simprocAttr, List.getD_cons_zero, List.getD_cons_succ, or_false, false_or, or_self, or_true, true_or, decide_true]) (by simp only [GA, ↓GB, List.filterMap_cons, eq_self, BEq.rfl, simprocAttr, List.getD_cons_zero, List.getD_cons_succ, or_false, false_or, or_self, or_true, true_or, decide_true]) (by simp only [GA, ↓GB, List.filterMap_cons, eq_self, BEq.rfl, simprocAttr, List.getD_cons_zero, List.getD_cons_succ, or_false, false_or, or_self, or_true, true_or, decide_true])), by show ms.length - (i + 1) < ms.length - i; omega⟩
    rcases Nat.lt_or_eq_of_le (Nat.le_of_lt_succ hj) with h | h
    · exact hno j h
    · subst h; rw [← Bool.not_eq_true, isAt_iff]; intro hx; omega
theorem rbegin_fresh (ms : List Mk) (hms : ms.length ≤ 900000) (t q : Int) (s : List UInt8) (hsl : s.length ≤ 9223372036854775807) (h : badB t s q = false) (hl : decide (0 ≤ idxI (isAt t s q) ms) = false) (M : List Mk) (hM1 : (putR ms t s q).length ≤ 1024 → M = putR ms t s q) (hM2 : ¬ (putR ms t s q).length ≤ 1024 → M = cutR (putR ms t s q)) : Ctr Tryd.prog [] 36 [.cells [.row 1] 69, rrow ms] [.one (.c (.loc 0 0)), .one (.agg [.v (.int .i64 t), .v (.string (B s))]), vv (.int .u64 q)]
    (fun os v => os = [.cells [.row 2] 69, .gone, rrow M] ∧ v = vv (.int .i64 0)) := by
  refine Ctr.less ?_
  simp only [badB, Bool.or_eq_false_iff, Bool.not_eq_false'] at h
  obtain ⟨⟨hk1, hk2⟩, hk3⟩ := h
  intro X0 hP0 hG0 N0 hN0
  refine CallVC.inline (f := 36) (by rw [hP0]; exact Tryd.func36) rfl Tryd.ntmps36 rfl (by simp) ?_
  intro X K hU hnt hbl hK
  have hP : X.P = Tryd.prog := by rw [hU.P, hP0]
  have hG := hG0.under hU
  have hT : aggOf X.P 26 = some true ∧ szOf X.P 26 = some 2 ∧ calleeOk X.P 94 = true ∧ fieldOff X.P 26 1 = some 1 ∧ aggOf X.P 9 = some false ∧ szOf X.P 9 = some 1 ∧ fieldOff X.P 69 0 = some 0 ∧ aggOf X.P 67 = some false ∧ szOf X.P 67 = some 1 ∧ X.P.underlying 67 = some (TypeDesc.slice 74) ∧ elemSz X.P 67 = some (74, 5) ∧ fieldOff X.P 74 0 = some 0 ∧ calleeOk X.P 95 = true ∧ fieldOff X.P 74 1 = some 2 ∧ aggOf X.P 22 = some false ∧ szOf X.P 22 = some 1 ∧ isStrT X.P 67 = false ∧ elemInf X.P 67 = some (74, 5, 56, (Value.agg #[(Value.int IntKind.i64 0), (Value.string { data := #[] }), (Value.int IntKind.u64 0), (Value.int IntKind.i64 0), (Value.string { data := #[] })])) ∧ fieldsOf X.P 74 = some [(0, 2), (2, 1), (3, 1), (4, 1)] ∧ zeroCells X.P 74 = some [(Value.int IntKind.i64 0), (Value.string { data := #[] }), (Value.int IntKind.u64 0), (Value.int IntKind.i64 0), (Value.string { data := #[] })] ∧ calleeOk X.P 96 = true := by rw [hP]; exact ⟨Ty.ag26, Ty.sz26, Ty.co94, Ty.fo26_1, Ty.ag9, Ty.sz9, Ty.fo69_0, Ty.ag67, Ty.sz67, Tryd.underlying67, Ty.el67, Ty.fo74_0, Ty.co95, Ty.fo74_1, Ty.ag22, Ty.sz22, Ty.is67, Ty.ei67, Ty.fs74, Ty.ze74, Ty.co96⟩
  simp only [GA, ↓GB, List.filterMap_cons, eq_self, BEq.rfl, simprocAttr] at hbl ⊢
  repeat' (first
    | (exact freshEnd (i := i) hl (by assumption) (by assumption) (by assumption))
    | (refine SX.asRow (t := 11) 74 5 rfl ⟨_, rfl⟩ ?_)
    | (refine SX.partApp (id := 14) (pre := [_, _, _, _, _, _]) rfl ?_ <;> (simp only [GA, ↓GB, List.filterMap_cons, eq_self, BEq.rfl, simprocAttr, hnt, hT, vcPre_n, vcPre_s]))
    | (refine SX.partApp (id := 16) (pre := [_, _, _, _, _, _, _]) rfl ?_ <;> (simp only [GA, ↓GB, List.filterMap_cons, eq_self, BEq.rfl, simprocAttr, hnt, hT, vcPre_n, vcPre_s]))
    | (refine SX.seqK ?_; intro N hN)
    | ((first | (refine SX.ops ?_) | (refine SX.planT (id := 8) [.q [(0, [0]), (1, [34]), (2, [35]), (3, [36]), (4, [9]), (5, [37, 38]), (6, [39]), (7, [40]), (8, [4]), (9, [41, 42]), (10, [43])] none] ?_ ?_ ?_; (focus first | (rw [hP]; kernel_rfl) | (rw [hU1P, hP]; kernel_rfl)); (focus kernel_rfl))); simp only [GA, ↓GB, List.filterMap_cons, eq_self, BEq.rfl, simprocAttr, hnt, hT, hk1, hk2, hk3])
    | ((first | refine SX.skip ?_ | refine SX.exit ?_ | refine SX.label ?_); try simp only [GA, ↓GB, List.filterMap_cons, eq_self, BEq.rfl, simprocAttr])
    | (refine SX.cond rfl (fun hb => ?_) (fun hb => ?_) <;> ((first | cases hb | (simp only [decide_eq_true_eq, decide_eq_false_iff_not, beq_iff_eq, beq_eq_false_iff_ne, bne_iff_ne, Bool.and_eq_true, Bool.or_eq_true, Bool.not_eq_true', Bool.not_eq_false', Bool.and_eq_false_iff, Bool.or_eq_false_iff, Int.not_lt, Int.not_le] at hb) | skip) <;> (first | (exfalso; omega) | skip)))
    | (refine SX.ret ?_; try simp only [GA, ↓GB, List.filterMap_cons, eq_self, BEq.rfl, simprocAttr])
    | (refine hN _ ?_; clear hN N)
    | ((first | refine hK _ _ (FinI.ret3 ?_) | refine hK _ _ (FinI.nrm3 ?_)); simp only [GA, ↓GB, List.filterMap_cons, eq_self, BEq.rfl, simprocAttr, finP_s, hnt, hT, hk1, hk2, hk3]; refine Done.out ?_)
    | (clear hN N; first | (refine hN _ ?_; clear hN N) | (clear hN N; first | (refine hN _ ?_; clear hN N) | (clear hN N; first | (refine hN _ ?_; clear hN N) | (clear hN N; first | (refine hN _ ?_; clear hN N) | (clear hN N; first | (refine hN _ ?_; clear hN N) | (refine hN _ ?_; clear hN N))))))
    | (refine bif2.mk (fun hb => ?_) (fun hb => ?_) <;> (try simp only [hb, GA, ↓GB, List.filterMap_cons, eq_self, BEq.rfl, simprocAttr, hnt, hT, hk1, hk2, hk3]) <;> ((first | cases hb | (simp only [decide_eq_true_eq, decide_eq_false_iff_not, beq_iff_eq, beq_eq_false_iff_ne, bne_iff_ne, Bool.and_eq_true, Bool.or_eq_true, Bool.not_eq_true', Bool.not_eq_false', Bool.and_eq_false_iff, Bool.or_eq_false_iff, Int.not_lt, Int.not_le] at hb) | skip) <;> (first | (exfalso; omega) | skip)))
    | ((first | (refine CallVC.pv hP (rKey_any _ _ hsl) rfl ?_) | (refine CallQ.pv hP (rKey_any _ _ hsl) rfl ?_) | (refine CallVC.pv hP (rOrder_any _ _ _ _) rfl ?_) | (refine CallQ.pv hP (rOrder_any _ _ _ _) rfl ?_) | (refine Ctr.use (rcut_ctr (putA ms t s q (refAt ms t s i)) (by rw [putA_len (by omega)]; omega) (by rw [putA_len (by omega)]; omega)) hP ?_ [0,7] ?_ rfl rfl ?_; (focus (intro p hp; cases hp)); (focus (refine LeR.of rfl trivial ?_ ?_ ?_ ?_ ?_ <;> first | decide | (simp only [GA, ↓GB, List.filterMap_cons, eq_self, BEq.rfl, simprocAttr, List.getD_cons_zero, List.getD_cons_succ, or_false, false_or, or_self, or_true, true_or, decide_true]; done))); intro os' s hR; obtain ⟨rfl, rfl⟩ := hR)); simp only [GA, ↓GB, List.filterMap_cons, eq_self, BEq.rfl, simprocAttr, hnt, hT, hk1, hk2, hk3])
    | (refine PA.marks [] ms (ms.take (refAt ms t s i)) (l := 0) (h := refAt ms t s i) (by simp) hP rfl rfl rfl rfl rfl (by omega) (by omega) rfl rfl rfl (by simp; omega) (by rw [hnt]; rfl) ?_ <;> (try simp only [GA, ↓GB, List.filterMap_cons, eq_self, BEq.rfl, simprocAttr, hnt, hT]))
    | (refine PA.marks (ms.take (refAt ms t s i) ++ [newM t s q]) ms (putA ms t s q (refAt ms t s i)) (l := refAt ms t s i) (h := ms.length) (putA_eq ms t s q _) hP rfl rfl rfl rfl rfl (by omega) (by omega) rfl (congrArg some (rrow_snoc _ (newM t s q))) rfl (by simp only [List.length_append, List.length_take, List.length_cons, List.length_nil]; omega) (by rw [hnt]; rfl) ?_ <;> (try simp only [GA, ↓GB, List.filterMap_cons, eq_self, BEq.rfl, simprocAttr, hnt, hT]))
    | (refine SX.loop (ι := { i : Nat // i ≤ ms.length ∧ ∀ j, j < i → isAt t s q (ms.getD j default) = false }) (fun i => ⟨[(0, .one (.c (.loc 0 0))), (2, vv (.int .u64 q)), (4, .one (.c (.loc 2 0))), (8, vv (.int .i64 (refAt ms t s i.1))), (9, vv (.int .i64 i.1))], [.cells [.row 1] 69, rrow ms, .cells [.v (.int .i64 t), .v (.string (B s))] 26]⟩) (fun i => ms.length - i.1) ⟨0, Nat.zero_le _, fun j hj => absurd hj (Nat.not_lt_zero j)⟩ ⟨[0, 1, 2], (LeR.of (by rw [hbl]; decide) (by simp only [GA, ↓GB, List.filterMap_cons, eq_self, BEq.rfl, simprocAttr, List.getD_cons_zero, List.getD_cons_succ, or_false, false_or, or_self, or_true, true_or, decide_true]; try (rfl)) (by simp only [GA, ↓GB, List.filterMap_cons, eq_self, BEq.rfl, simprocAttr, List.getD_cons_zero, List.getD_cons_succ, or_false, false_or, or_self, or_true, true_or, decide_true]; try (rfl)) (by decide) (by simp only [GA, ↓GB, List.filterMap_cons, eq_self, BEq.rfl, simprocAttr, List.getD_cons_zero, List.getD_cons_succ, or_false, false_or, or_self, or_true, true_or, decide_true]) (by simp only [GA, ↓GB, List.filterMap_cons, eq_self, BEq.rfl, simprocAttr, List.getD_cons_zero, List.getD_cons_succ, or_false, false_or, or_self, or_true, true_or, decide_true]) (by simp only [GA, ↓GB, List.filterMap_cons, eq_self, BEq.rfl, simprocAttr, List.getD_cons_zero, List.getD_cons_succ, or_false, false_or, or_self, or_true, true_or, decide_true]))⟩ ?_ <;> rintro ⟨i, hi, hno⟩ <;> simp only [] at hi hno ⊢ <;> have hat := refAt_le ms t s i)
    | (refine ⟨_, rfl, mks_key _ _ (by omega), ?_⟩ <;> (try simp only [GA, ↓GB, List.filterMap_cons, eq_self, BEq.rfl, simprocAttr, hnt, hT]))
    | (refine ⟨_, mks_q _ _ (by omega), ?_⟩ <;> (try simp only [GA, ↓GB, List.filterMap_cons, eq_self, BEq.rfl, simprocAttr, hnt, hT]))
    | (refine SX.block ?_)
    | (refine and_mk ?_ ?_; (focus first | decide | omega | rfl | assumption | (simp only [List.length_append, List.length_cons, List.length_nil, B_size]; omega) | (simp; done)))
    | (refine And.intro ?_ ?_))
  all_goals (try refine Done.mk ?_)
  · refine ⟨⟨i + 1, by omega, fun j hj => ?_⟩, [0, 1, 2], (LeR.of (by rw [hbl]; decide) (by simp only [GA, ↓GB, List.filterMap_cons, eq_self, BEq.rfl, simprocAttr, List.getD_cons_zero, List.getD_cons_succ, or_false, false_or, or_self, or_true, true_or, decide_true]; try (first | (rw [refAt, if_pos hb, wI64 (by omega) (by omega)]; exact ⟨rfl, rfl⟩) | rfl)) (by simp only [GA, ↓GB, List.filterMap_cons, eq_self, BEq.rfl, simprocAttr, List.getD_cons_zero, List.getD_cons_succ, or_false, false_or, or_self, or_true, true_or, decide_true]; try (first | (rw [refAt, if_pos hb, wI64 (by omega) (by omega)]; exact ⟨rfl, rfl⟩) | rfl)) (by decide) (by simp only [GA, ↓GB, List.filterMap_cons, eq_self, BEq.rfl, simprocAttr, List.getD_cons_zero, List.getD_cons_succ, or_false, false_or, or_self, or_true, true_or, decide_true]) (by simp only [GA, ↓GB, List.filterMap_cons, eq_self, BEq.rfl, simprocAttr, List.getD_cons_zero, List.getD_cons_succ, or_false, false_or, or_self, or_true, true_or, decide_true]) (by simp only [GA, ↓GB, List.filterMap_cons, eq_self, BEq.rfl, simprocAttr, List.getD_cons_zero, List.getD_cons_succ, or_false, false_or, or_self, or_true, true_or, decide_true])), by show ms.length - (i + 1) < ms.length - i; omega⟩
    rcases Nat.lt_or_eq_of_le (Nat.le_of_lt_succ hj) with h | h
    · exact hno j h
    · subst h; rw [← Bool.not_eq_true, isAt_iff]; intro hx; omega
  · refine ⟨⟨i + 1, by omega, fun j hj => ?_⟩, [0, 1, 2], (LeR.of (by rw [hbl]; decide) (by simp only [GA, ↓GB, List.filterMap_cons, eq_self, BEq.rfl, simprocAttr, List.getD_cons_zero, List.getD_cons_succ, or_false, false_or, or_self, or_true, true_or, decide_true]; try (first | (rw [refAt, if_pos hb, wI64 (by omega) (by omega)]; exact ⟨rfl, rfl⟩) | rfl)) (by simp only [GA, ↓GB, List.filterMap_cons, eq_self, BEq.rfl, simprocAttr, List.getD_cons_zero, List.getD_cons_succ, or_false, false_or, or_self, or_true, true_or, decide_true]; try (first | (rw [refAt, if_pos hb, wI64 (by omega) (by omega)]; exact ⟨rfl, rfl⟩) | rfl)) (by decide) (by simp only [GA, ↓GB, List.filterMap_cons, eq_self, BEq.rfl, simprocAttr, List.getD_cons_zero, List.getD_cons_succ, or_false, false_or, or_self, or_true, true_or, decide_true]) (by simp only [GA, ↓GB, List.filterMap_cons, eq_self, BEq.rfl, simprocAttr, List.getD_cons_zero, List.getD_cons_succ, or_false, false_or, or_self, or_true, true_or, decide_true]) (by simp only [GA, ↓GB, List.filterMap_cons, eq_self, BEq.rfl, simprocAttr, List.getD_cons_zero, List.getD_cons_succ, or_false, false_or, or_self, or_true, true_or, decide_true])), by show ms.length - (i + 1) < ms.length - i; omega⟩
    rcases Nat.lt_or_eq_of_le (Nat.le_of_lt_succ hj) with h | h
    · exact hno j h
    · subst h; rw [← Bool.not_eq_true, isAt_iff]; intro hx; omega
  · refine ⟨⟨i + 1, by omega, fun j hj => ?_⟩, [0, 1, 2], (LeR.of (by rw [hbl]; decide) (by simp only [GA, ↓GB, List.filterMap_cons, eq_self, BEq.rfl, simprocAttr, List.getD_cons_zero, List.getD_cons_succ, or_false, false_or, or_self, or_true, true_or, decide_true]; try (first | (rw [refAt, if_neg (by omega), wI64 (by omega) (by omega)]; exact ⟨rfl, rfl⟩) | rfl)) (by simp only [GA, ↓GB, List.filterMap_cons, eq_self, BEq.rfl, simprocAttr, List.getD_cons_zero, List.getD_cons_succ, or_false, false_or, or_self, or_true, true_or, decide_true]; try (first | (rw [refAt, if_neg (by omega), wI64 (by omega) (by omega)]; exact ⟨rfl, rfl⟩) | rfl)) (by decide) (by simp only [GA, ↓GB, List.filterMap_cons, eq_self, BEq.rfl, simprocAttr, List.getD_cons_zero, List.getD_cons_succ, or_false, false_or, or_self, or_true, true_or, decide_true]) (by simp only [GA, ↓GB, List.filterMap_cons, eq_self, BEq.rfl, simprocAttr, List.getD_cons_zero, List.getD_cons_succ, or_false, false_or, or_self, or_true, true_or, decide_true]) (by simp only [GA, ↓GB, List.filterMap_cons, eq_self, BEq.rfl, simprocAttr, List.getD_cons_zero, List.getD_cons_succ, or_false, false_or, or_self, or_true, true_or, decide_true])), by show ms.length - (i + 1) < ms.length - i; omega⟩
    rcases Nat.lt_or_eq_of_le (Nat.le_of_lt_succ hj) with h | h
    · exact hno j h
    · subst h; rw [← Bool.not_eq_true, isAt_iff]; intro hx; omega
  · rw [List.length_take]; omega
  · obtain rfl : i = ms.length := by omega
    rw [show putA ms t s q (refAt ms t s ms.length) = putR ms t s q from rfl] at hb ⊢
    obtain rfl := hM2 (by omega)
    (refine hN0 _ _ ⟨[0, 1, 8], _, _, ?_, ?_, ?_, ⟨rfl, rfl⟩⟩; (focus exact LeR.of rfl trivial (by simp only [GA, ↓GB, List.filterMap_cons, eq_self, BEq.rfl, simprocAttr, List.getD_cons_zero, List.getD_cons_succ, or_false, false_or, or_self, or_true, true_or, decide_true]) (by decide) rfl rfl rfl); rotate_left; (focus rfl))
    rfl
  · obtain rfl : i = ms.length := by omega
    rw [show putA ms t s q (refAt ms t s ms.length) = putR ms t s q from rfl] at hb ⊢
    obtain rfl := hM1 (by omega)
    (refine hN0 _ _ ⟨[0, 1, 7], _, _, ?_, ?_, ?_, ⟨rfl, rfl⟩⟩; (focus exact LeR.of rfl trivial (by simp only [GA, ↓GB, List.filterMap_cons, eq_self, BEq.rfl, simprocAttr, List.getD_cons_zero, List.getD_cons_succ, or_false, false_or, or_self, or_true, true_or, decide_true]) (by decide) rfl rfl rfl); rotate_left; (focus rfl))
    rfl
theorem rbegin_ctr (ms : List Mk) (hms : ms.length ≤ 900000) (t q : Int) (s : List UInt8) (hsl : s.length ≤ 9223372036854775807) : Ctr Tryd.prog [] 36 [.cells [.row 1] 69, rrow ms] [.one (.c (.loc 0 0)), .one (.agg [.v (.int .i64 t), .v (.string (B s))]), vv (.int .u64 q)]
    (fun os v => os = [.cells [.row 2] 69, .gone, rrow (beginR ms t s q).1] ∧ v = vv (.int .i64 (beginR ms t s q).2)) := by
  refine Ctr.moveCell ?_
  cases hb : badB t s q with
  | true =>
    have e : beginR ms t s q = (ms, 1) := by simp [beginR, hb]
    rw [e]
    exact (rbegin_wrong ms (by omega) t q s hsl hb).mono fun os v h => .inr ⟨69, 74, 5, _, _, h.1, rfl, h.2⟩
  | false =>
    cases hl : decide (0 ≤ idxI (isAt t s q) ms) with
    | true =>
      have e : beginR ms t s q = (ms, 6) := by unfold beginR; rw [hb, hl]; simp
      rw [e]
      exact (rbegin_late ms (by omega) t q s hsl hb hl).mono fun os v h => .inr ⟨69, 74, 5, _, _, h.1, rfl, h.2⟩
    | false =>
      have e : beginR ms t s q = (if (putR ms t s q).length ≤ 1024 then putR ms t s q else cutR (putR ms t s q), 0) := by
        unfold beginR; rw [hb, hl, if_neg (by decide), if_neg (by decide)]; split <;> rfl
      rw [e]
      exact (rbegin_fresh ms hms t q s hsl hb hl _ (fun h => if_pos h) (fun h => if_neg h)).mono fun os v h => .inl h
theorem rnote_mv (ms : List Mk) (hms : ms.length ≤ 1000000) (t : Int) (s : List UInt8) (q : Nat) (ok : Bool) (d : List UInt8) (hsl : s.length ≤ 9223372036854775807) (hq : q < 18446744073709551616) : Ctr Tryd.prog [] 33 [.cells [.row 1] 69, rrow ms] [.one (.c (.loc 0 0)), .one (.agg [.v (.int .i64 t), .v (.string (B s)), .v (.int .u64 q), .v (.bool ok), .v (.string (B d))])]
    (fun os v => os = [.cells [.row 2] 69, .gone, rrow (noteR ms t s q ok d).1] ∧ v = vv (.int .i64 (noteR ms t s q ok d).2)) := by
  refine Ctr.moveCell ?_
  exact (rnote_ctr ms hms t s q ok d hsl hq).mono fun os v h => .inr ⟨69, 74, 5, _, _, h.1, rfl, h.2⟩
end Go.Proofs.YtbdacbcpniegiaaDoor
namespace Go.Sx
open Go Go.RowKit
set_option linter.unusedVariables false
set_option linter.unusedSimpArgs false
theorem Oper.wp_tmps {P : Program} {o : Oper} {a : Act} {w : World} {K : Act → World → Prop} {Q : Exit → Act → World → Prop} (h : o.wp P a w K Q) :
    o.wp P a w (fun a' w' => K a' w' ∧ ∀ t, o.dst ≠ some t → a'.tmps[t]? = a.tmps[t]?) Q := by
  unfold Oper.wp at *
  unfold Oper.upon at *
  split at h
  · exact ⟨h, fun t ht => put_other ht⟩
  · exact ⟨h, fun t ht => put_other ht⟩
  · exact ⟨h, fun t ht => put_other ht⟩
  · refine h.mono ?_
    intro e w' hr
    cases e with
    | returned v => exact ⟨hr, fun t ht => put_other ht⟩
    | panicked ch => exact hr
    | outgrown => exact hr
  · exact h.mono (fun v w' hr => ⟨hr, fun t ht => put_other ht⟩)
  · exact h
  · exact h.elim
theorem wpOp_list_keep {P : Program} {ops : Array Oper} {A : Act → World → Prop} {i : Nat} {o : Oper} (ho : ops[i]? = some o) {K : Act → World → Prop} {a : Act} {w : World}
    (h : wpList P ops (QN K) [o] a w) : wpOp P ops (QN A) i (fun a' w' => K a' w' ∧ ∀ t, o.dst ≠ some t → a'.tmps[t]? = a.tmps[t]?) a w := by
  unfold wpOp
  simp only [ho]
  unfold wpList at h
  split
  · rename_i hw
    rw [if_pos hw] at h
    rcases h with h1 | ⟨_, a0, w0, h1⟩
    · exact .inl (Oper.wp_mono3 (fun a w h => ⟨h.1.2, h.2⟩) (fun e a w he h => absurd h.1 he) (Oper.wp_tmps h1))
    · exact absurd h1.1 (by simp)
  · rename_i hw
    rw [if_neg hw] at h
    exact ⟨h.2, fun t ht => put_other ht⟩
theorem wpOp_next {P : Program} {ops : Array Oper} {Q : Exit → Act → World → Prop} {i : Nat} {K K' : Act → World → Prop} {a : Act} {w : World} (hK : ∀ a w, K a w → K' a w) (h : wpOp P ops Q i K a w) : wpOp P ops Q i K' a w := by
  unfold wpOp at *
  split
  · rename_i hn; simp only [hn] at h; exact hK _ _ h
  · rename_i o ho
    simp only [ho] at h
    split
    · rename_i hw
      rw [if_pos hw] at h
      rcases h with h | h
      · exact .inl (Oper.wp_mono3 hK (fun _ _ _ _ h => h) h)
      · exact .inr h
    · rename_i hw
      rw [if_neg hw] at h
      exact hK _ _ h
def killL : List Tmp → Cfg → Cfg
  | [], c => c
  | t :: ts, c => (killL ts c).put (some t) (.one (.c .dead))
theorem killL_loc : ∀ (ts : List Tmp) (c : Cfg), (killL ts c).loc = c.loc
  | [], c => rfl
  | t :: ts, c => by rw [killL, put_loc, killL_loc ts c]
theorem kill_lookup {c : Cfg} {t : Tmp} {u : SV} : ∀ {ts : List Tmp}, (killL ts c).env.lookup t = some u → (t ∈ ts ∧ u = .one (.c .dead)) ∨ (t ∉ ts ∧ c.env.lookup t = some u)
  | [], h => .inr ⟨by simp, h⟩
  | x :: ts, h => by
    rw [killL] at h
    rcases put_lookup h with ⟨e, h1⟩ | ⟨e, h1⟩
    · cases e; exact .inl ⟨by simp, h1⟩
    · rcases kill_lookup h1 with ⟨h2, h3⟩ | ⟨h2, h3⟩
      · exact .inl ⟨by simp [h2], h3⟩
      · exact .inr ⟨by simp only [List.mem_cons, not_or]; exact ⟨fun hx => e (by rw [hx]), h2⟩, h3⟩
def outH (ops : Array Oper) (L : Array Bool) (is : List Nat) (h : Nat) : Bool :=
  (List.range ops.size).all fun t => L.getD t true || (is ++ [h]).contains t || ((List.range ops.size).any fun u => !(L.getD u true) && !(is ++ [h]).contains u && Region.waitsFor .any ops t u) || Region.waitsFor .any ops t h
section
variable {X : Ctx} {ops : Array Oper}
theorem hold_pre {A : Act → World → Prop} {is : List Nat} {h : Nat} {oh : Oper} {L : Array Bool} {c c1 : Cfg} {ss : List SV} {ks : List Tmp} {ρ : List (List Nat)} {σ : List Value} {f : Nat} {M : Cfg → Prop}
    (hQF : QF X ops is c ss c1) (hoh : ops[h]? = some oh) (hvc : vc X ops [oh] (killL ks c1) M) (hksn : ∀ t ∈ ks, t < X.nt)
    (hks : ∀ i ∈ is, ∀ d, dstOf ops i = some d → d ∈ ks ∨ Region.waitsFor .any ops h i = true)
    (hL : L.size = ops.size) (hin : inOK ops L [] (is ++ [h]) = true) (hdata : dataOK ops (is ++ [h]) = true) (hout : outH ops L is h = true)
    (hpost : ∀ (listed : Array Bool) (a : Act) (w : World) (c2 : Cfg) (ρ2 : List (List Nat)) (σ2 : List Value), listed.getD h false = true → listed.size = ops.size → (∀ j, j ∉ is ++ [h] → ∀ d, listed.getD j d = L.getD j d) →
      (∀ j oj, ops[j]? = some oj → listed.getD j false = true → ∀ e ∈ oj.after, Region.binds .any e = true → listed.getD e.on false = true) → (∀ j, L.getD j false = true → listed.getD j false = true) →
      M c2 → Rel X c2 ρ2 σ2 a w → (∀ (k i : Nat) (u : SV), is[k]? = some i → ss[k]? = some u → listed.getD i false = true → ∀ t, dstOf ops i = some t → ∃ v, a.tmps[t]? = some v ∧ DV σ u v) →
      wpAny X.P .any ops (QN A) (cntU listed is + f) listed a w) :
    ∀ (n : Nat) (listed : Array Bool) (a : Act) (w : World), cntU listed is = n → listed.getD h false = false → listed.size = ops.size → (∀ j, j ∉ is ++ [h] → ∀ d, listed.getD j d = L.getD j d) →
      (∀ j oj, ops[j]? = some oj → listed.getD j false = true → ∀ e ∈ oj.after, Region.binds .any e = true → listed.getD e.on false = true) → (∀ j, L.getD j false = true → listed.getD j false = true) →
      Rel X ⟨[], c.loc⟩ ρ σ a w →
      (∀ (k i : Nat) (u : SV), is[k]? = some i → ss[k]? = some u → listed.getD i false = true → ∀ t, dstOf ops i = some t → ∃ v, a.tmps[t]? = some v ∧ DV σ u v) →
      (∀ t u, (∀ i ∈ is, dstOf ops i ≠ some t) → c.env.lookup t = some u → ∃ v, a.tmps[t]? = some v ∧ DV σ u v) →
      wpAny X.P .any ops (QN A) (n + 1 + f) listed a w := by
  have hnd := inOK_nodup hin
  have hdataS : ∀ i ∈ is ++ [h], ∀ j ∈ is ++ [h], ∀ d, dstOf ops j = some d → (i = j ∨ dstOf ops i ≠ some d) ∧ (d ∈ looksOf ops i → Region.waitsFor .any ops i j = true) := fun i hi j hj d hd => by
    have h1 := List.all_eq_true.1 (List.all_eq_true.1 hdata i hi) j hj
    rw [hd] at h1
    simp only [Bool.and_eq_true, Bool.or_eq_true, beq_iff_eq, bne_iff_ne, Bool.not_eq_true', List.contains_eq_mem, decide_eq_false_iff_not] at h1
    exact ⟨h1.1, fun hm => h1.2.resolve_left (fun h => h hm)⟩
  have hLun : ∀ i ∈ is ++ [h], L.getD i true = false := fun i hi => by
    obtain ⟨k, hk⟩ := List.mem_iff_getElem?.1 hi
    exact (inOK_spec hin hk).1
  have hop : ∀ i ∈ is ++ [h], ∃ o, ops[i]? = some o := fun i hi => by
    obtain ⟨k, hk⟩ := List.mem_iff_getElem?.1 hi
    obtain ⟨_, _, _, o, h1, _⟩ := inOK_spec hin hk
    exact ⟨o, h1⟩
  have hhm : h ∈ is ++ [h] := by simp
  have hkh : (is ++ [h])[is.length]? = some h := by rw [List.getElem?_append_right (Nat.le_refl _)]; simp
  have hhis : h ∉ is := fun hm => by
    obtain ⟨k, hk⟩ := List.mem_iff_getElem?.1 hm
    have hk' : (is ++ [h])[k]? = some h := by rw [List.getElem?_append_left (List.getElem?_eq_some_iff.1 hk).1]; exact hk
    exact (inOK_spec hin hkh).2.2.1 k (List.getElem?_eq_some_iff.1 hk).1 hk'
  have hndis : is.Nodup := (List.nodup_append.1 hnd).1
  intro n
  induction n using Nat.strongRecOn with
  | ind n ih =>
    intro listed a w hc hhun hsz hoth hcl hmono hR hv hb
    have hlt : ∀ i ∈ is ++ [h], i < listed.size := fun i hi => by
      obtain ⟨o, ho⟩ := hop i hi
      rw [hsz]; exact (Array.getElem?_eq_some_iff.1 ho).1
    have hcA : cntU listed (is ++ [h]) ≠ 0 := fun e => by
      have := cntU_zero e h hhm
      rw [hhun] at this; cases this
    rw [show n + 1 + f = (n + f) + 1 by omega]
    refine ⟨fun hnil => ?_, fun i hi => ?_⟩
    ·
      obtain ⟨k, i, h1, h2, h3⟩ := cntU_first (listed := listed) (is := is ++ [h]) hcA
      obtain ⟨g1, g2, g3, o, g4, g5⟩ := inOK_spec hin h1
      have hmem : i ∈ is ++ [h] := List.mem_of_getElem? h1
      have : i ∈ Region.ready .any ops listed := by
        refine mem_ready.2 ⟨getD_in (hlt i hmem) h2, o, g4, fun e he hbd => ?_⟩
        rcases g5 e he hbd with h5 | h5 | ⟨k', h6, h7⟩
        · exact hmono _ h5
        · simp at h5
        · exact h3 k' _ h6 h7
      rw [hnil] at this
      cases this
    · obtain ⟨hun, o, ho, hready⟩ := mem_ready.1 hi
      have hilt : i < ops.size := (Array.getElem?_eq_some_iff.1 ho).1
      have hmem : i ∈ is ++ [h] := by
        refine Classical.byContradiction (fun hnm => ?_)
        have h1 := List.all_eq_true.1 hout i (List.mem_range.2 hilt)
        have hLi : L.getD i true = false := by rw [← hoth i hnm]; exact hun
        simp only [hLi, Bool.false_or, Bool.or_eq_true] at h1
        rcases h1 with (h1 | h1) | h1
        · exact hnm (by simpa using h1)
        · obtain ⟨u, hu, hu2⟩ := List.any_eq_true.1 h1
          simp only [Bool.and_eq_true, Bool.not_eq_true', List.contains_eq_mem, decide_eq_false_iff_not] at hu2
          obtain ⟨ou, hou, e, he, hbd, hon⟩ := Region.waitsFor_spec hu2.2
          rw [ho] at hou; cases hou
          have h2 := hready e he hbd
          rw [hon, hoth u hu2.1.2, getD_both hu2.1.1] at h2
          cases h2
        · obtain ⟨ou, hou, e, he, hbd, hon⟩ := Region.waitsFor_spec h1
          rw [ho] at hou; cases hou
          have h7 := hready e he hbd
          rw [hon, hhun] at h7
          cases h7
      have hunf := getD_both hun
      have hset : ∀ j, j ≠ i → (listed.setIfInBounds i true).getD j false = listed.getD j false := fun j hj => getD_set_ne false (fun e => hj e.symm)
      have hseti : (listed.setIfInBounds i true).getD i false = true := by simp [hlt i hmem]
      have hoth' : ∀ j, j ∉ is ++ [h] → ∀ d, (listed.setIfInBounds i true).getD j d = L.getD j d := fun j hj d => by
        rw [getD_set_ne d (show i ≠ j from fun e => hj (by rw [← e]; exact hmem))]; exact hoth j hj d
      have hcl' : ∀ j oj, ops[j]? = some oj → (listed.setIfInBounds i true).getD j false = true → ∀ e ∈ oj.after, Region.binds .any e = true → (listed.setIfInBounds i true).getD e.on false = true := fun j oj hj hl e he hbd => by
        by_cases hji : j = i
        · subst hji
          rw [ho] at hj; cases hj
          exact getD_set_true (hready e he hbd)
        · rw [hset j hji] at hl
          exact getD_set_true (hcl j oj hj hl e he hbd)
      have hmono' : ∀ j, L.getD j false = true → (listed.setIfInBounds i true).getD j false = true := fun j hj => getD_set_true (hmono j hj)
      have hdo : dstOf ops i = o.dst := by simp [dstOf, ho]
      have hlk : looksOf ops i = o.looksAt ops := by simp [looksOf, ho]
      by_cases hih : i = h
      ·
        subst hih
        rw [hoh] at ho; cases ho
        have hRo : Rel X (killL ks c1) ρ σ a w := by
          refine Rel.act (c := killL ks c1) (by rw [killL_loc, hQF.loc]; exact hR) rfl rfl (fun t' u hu => ?_)
          rcases kill_lookup hu with ⟨h1, rfl⟩ | ⟨h1, h2⟩
          · have : t' < a.tmps.size := by rw [hR.size]; exact hksn t' h1
            exact ⟨a.tmps[t'], by simp [this], trivial⟩
          · rcases hQF.last h2 with ⟨k, j, q1, q2, q3⟩ | ⟨q1, q2⟩
            · have hjm := List.mem_of_getElem? q1
              have hw := (hks j hjm t' q3).resolve_left h1
              obtain ⟨ou, hou, e, he, hbd, hon⟩ := Region.waitsFor_spec hw
              rw [hoh] at hou; cases hou
              have hl := hready e he hbd
              rw [hon] at hl
              exact hv k j u q1 q2 hl t' q3
            · exact hb t' u q1 q2
        refine wpOp_next ?_ (wpOp_list_keep (A := A) hoh (vc_sound hvc (QN fun a' w' => ∃ c2 ρ2 σ2, Rel X c2 ρ2 σ2 a' w' ∧ M c2) (fun c3 ρ3 σ3 a3 w3 hr3 hk => ⟨rfl, c3, ρ3, σ3, hr3, hk⟩) ρ σ a w hRo))
        rintro a' w' ⟨⟨c2, ρ2, σ2, hr2, hM⟩, hkeep⟩
        have hcnt : cntU (listed.setIfInBounds i true) is = n := by
          rw [← hc]
          unfold cntU
          congr 1
          refine List.filter_congr (fun j hj => ?_)
          rw [hset j (fun e => hhis (by rw [← e]; exact hj))]
        rw [← hcnt]
        refine hpost _ a' w' c2 ρ2 σ2 hseti (by simp [hsz]) hoth' hcl' hmono' hM hr2 ?_
        intro k j u h1 h2 h3 t' h4
        have hjm := List.mem_of_getElem? h1
        have hji : j ≠ i := fun e => hhis (by rw [← e]; exact hjm)
        rw [hset j hji] at h3
        have hne : oh.dst ≠ some t' := by
          rcases (hdataS i hhm j (List.mem_append_left _ hjm) t' h4).1 with h | h
          · exact absurd h.symm hji
          · rw [← hdo]; exact h
        rw [hkeep t' hne]
        exact hv k j u h1 h2 h3 t' h4
      · have him : i ∈ is := by
          rcases List.mem_append.1 hmem with h | h
          · exact h
          · exact absurd (by simpa using h) hih
        have hcnt : cntU (listed.setIfInBounds i true) is + 1 = n := by
          have := cntU_set (hlt i hmem) hunf hndis him
          omega
        have hhi' : (listed.setIfInBounds i true).getD h false = false := by rw [hset h (fun e => hih e.symm)]; exact hhun
        have henv : ∀ (ck : Cfg), ck.loc = c.loc → (∀ {t : Tmp} {u : SV}, ck.env.lookup t = some u → (∃ (k2 j : Nat), is[k2]? = some j ∧ ss[k2]? = some u ∧ dstOf ops j = some t) ∨ ((∀ j ∈ is, Region.waitsFor .any ops i j = true → dstOf ops j ≠ some t) ∧ c.env.lookup t = some u)) →
            Rel X (ck.only (o.looksAt ops)) ρ σ a w := fun ck hloc hck => by
          refine Rel.act (c := ck.only (o.looksAt ops)) (by simp only [Cfg.only]; rw [hloc]; exact hR) rfl rfl (fun t' u hu => ?_)
          obtain ⟨h1, h2⟩ := only_lookup _ _ _ hu
          rcases hck h2 with ⟨k2, j, h5, h6, h7⟩ | ⟨h3, h4⟩
          · have hw := (hdataS i hmem j (List.mem_append_left _ (List.mem_of_getElem? h5)) t' h7).2 (by rw [hlk]; exact h1)
            obtain ⟨ou, hou, e, he, hbd, hon⟩ := Region.waitsFor_spec hw
            rw [ho] at hou; cases hou
            have hl := hready e he hbd
            rw [hon] at hl
            exact hv k2 j u h5 h6 hl t' h7
          · refine hb t' u (fun j hj e => ?_) h4
            exact h3 j hj ((hdataS i hmem j (List.mem_append_left _ hj) t' e).2 (by rw [hlk]; exact h1)) e
        obtain ⟨k, hk⟩ := List.mem_iff_getElem?.1 him
        obtain ⟨o', u, ck, g1, g2, g3, g4, g5, g6⟩ := hQF.at hk
        rw [ho] at g1; cases g1
        have hk' : (is ++ [h])[k]? = some i := by rw [List.getElem?_append_left (List.getElem?_eq_some_iff.1 hk).1]; exact hk
        have hwaitpos : ∀ j ∈ is ++ [h], Region.waitsFor .any ops i j = true → ∃ (k' : Nat), k' < k ∧ (is ++ [h])[k']? = some j := fun j hj hw => by
          obtain ⟨_, _, _, o', h4, h5⟩ := inOK_spec hin hk'
          rw [ho] at h4; cases h4
          obtain ⟨ou, hou, e, he, hbd, hon⟩ := Region.waitsFor_spec hw
          rw [ho] at hou; cases hou
          rcases h5 e he hbd with h6 | h6 | h6
          · rw [hon] at h6
            have := hLun j hj
            rw [getD_both this] at h6
            cases h6
          · simp at h6
          · rw [hon] at h6; exact h6
        have hRo := henv ck g5 (fun {t' u'} hu => by
          rcases g6 hu with ⟨k', j, q1, q2, q3, q4⟩ | ⟨q1, q2⟩
          · exact .inl ⟨k', j, q2, q3, q4⟩
          · refine .inr ⟨fun j hj hw e => ?_, q2⟩
            obtain ⟨k', h1, h2⟩ := hwaitpos j (List.mem_append_left _ hj) hw
            have hlt' : k' < is.length := Nat.lt_trans h1 (List.getElem?_eq_some_iff.1 hk).1
            rw [List.getElem?_append_left hlt'] at h2
            exact q1 k' j h1 h2 e)
        unfold wpOp
        simp only [ho]
        refine g4 ρ σ a w hRo _ _ (fun v w' hbl hdv => ?_)
        have hfin := ih (n - 1) (by omega) (listed.setIfInBounds i true) (a.put o.dst v) w' (by omega) hhi' (by simp [hsz]) hoth' hcl' hmono' ?_ ?_ ?_
        · rw [show n - 1 + 1 + f = n + f by omega] at hfin
          exact hfin
        · exact Rel.act (c := ⟨[], c.loc⟩) (hR.below hbl) (put_size _ _ _) (put_defers' _ _ _) (fun t' u' h => by simp at h)
        · intro k2 j u2 h1 h2 h3 t' h4
          by_cases hji : j = i
          · subst hji
            have hkk : k2 = k := by
              have a1 : (is ++ [h])[k2]? = some j := by rw [List.getElem?_append_left (List.getElem?_eq_some_iff.1 h1).1]; exact h1
              rcases Nat.lt_trichotomy k2 k with h | h | h
              · exact absurd a1 ((inOK_spec hin hk').2.2.1 k2 h)
              · exact h
              · exact absurd hk' ((inOK_spec hin a1).2.2.1 k h)
            subst hkk
            rw [g3] at h2; cases h2
            rw [hdo] at h4
            rw [h4]
            refine ⟨v, put_self ?_, hdv⟩
            rw [h4] at g2
            rw [hR.size]
            simpa [dOk] using g2
          · rw [hset j hji] at h3
            have hjm : j ∈ is ++ [h] := List.mem_append_left _ (List.mem_of_getElem? h1)
            have hne : o.dst ≠ some t' := by
              rcases (hdataS i hmem j hjm t' h4).1 with h | h
              · exact absurd h.symm hji
              · rw [← hdo]; exact h
            rw [put_other hne]
            exact hv k2 j u2 h1 h2 h3 t' h4
        · intro t' u' h1 h2
          rw [put_other (by rw [← hdo]; exact h1 i him)]
          exact hb t' u' h1 h2
def closedC : List SC → Bool
  | [] => true
  | .v _ :: l => closedC l
  | _ :: _ => false
def closedS : SV → Bool
  | .one (.c (.v _)) => true
  | .one (.agg l) => closedC l
  | _ => false
theorem closedC_n : closedC [] = true := rfl
theorem closedC_v {x : Value} {l : List SC} : closedC (.v x :: l) = closedC l := rfl
theorem closedC_mono {σ σ2 : List Value} : ∀ {l : List SC} {cs : List Value}, closedC l = true → All2 (DC σ) l cs → All2 (DC σ2) l cs
  | [], [], _, _ => trivial
  | .v _ :: l, _ :: cs, h, ha => ⟨ha.1, closedC_mono (l := l) h ha.2⟩
  | .v _ :: _, [], _, ha => ha.elim
  | [], _ :: _, _, ha => ha.elim
theorem closedS_mono {σ σ2 : List Value} {s : SV} {v : Value} (h : closedS s = true) (hd : DV σ s v) : DV σ2 s v := by
  unfold closedS at h
  split at h
  · exact hd
  · obtain ⟨cs, e, ha⟩ := hd
    exact ⟨cs, e, closedC_mono h ha⟩
  · cases h
def agT : Option SV → Option SV → Prop
  | some s, some s' => s = s' ∧ closedS s = true
  | _, _ => False
def agL : List Tmp → Cfg → Cfg → Prop
  | [], _, _ => True
  | t :: ts, c1, c2 => agT (c1.env.lookup t) (c2.env.lookup t) ∧ agL ts c1 c2
theorem agL_spec {c1 c2 : Cfg} {t : Tmp} : ∀ {ts : List Tmp}, agL ts c1 c2 → t ∈ ts → ∃ s, c1.env.lookup t = some s ∧ c2.env.lookup t = some s ∧ closedS s = true
  | x :: ts, h, hm => by
    rcases List.mem_cons.1 hm with rfl | hm
    · have h1 := h.1
      unfold agT at h1
      split at h1
      · rename_i s s' e1 e2
        exact ⟨s, e1, by rw [e2, h1.1], h1.2⟩
      · exact h1.elim
    · exact agL_spec h.2 hm
def vfs (X : Ctx) (ops : Array Oper) : List Nat → Cfg → (Cfg → Prop) → Prop
  | [], c, N => N c
  | i :: is, c, N => vf1 X (ops[i]?) c (fun c' => vfs X ops is c' N)
def vHold (X : Ctx) (ops : Array Oper) (fs : List Nat) (is : List (Nat × List Tmp)) (h : Nat) (ks ds : List Tmp) (is2 : List (Nat × List Tmp)) (pl : List PlT) (c : Cfg) (N : Cfg → Prop) : Prop :=
  vfs X ops fs c (fun c0 => vqL X ops is c0 (fun c1 => vs1 X ops (ops[h]?) (killL ks c1) (fun c2 => vqL X ops (is ++ is2) c2 (fun c2' => agL ds c1 c2' ∧ vplT X ops pl c2' N))))
def ksOK (ops : Array Oper) (nt : Nat) (is : List Nat) (h : Nat) (ks ds : List Tmp) : Bool :=
  (is.all fun i => match dstOf ops i with
    | none => true
    | some d => ds.contains d && (ks.contains d || Region.waitsFor .any ops h i)) && ks.all fun t => decide (t < nt)
def holdAll (ops : Array Oper) (nt : Nat) (is : List Nat) (h : Nat) (ks ds : List Tmp) (is2 : List Nat) (pl : List Pl) (L : Array Bool) : Bool :=
  (listedOK ops L && inOK ops L [] (is ++ [h]) && dataOK ops (is ++ [h]) && outH ops L is h) && (inOK ops (L.setIfInBounds h true) [] (is ++ is2) && dataOK ops (is ++ is2) && outOK ops (L.setIfInBounds h true) (is ++ is2)) && ksOK ops nt is h ks ds && planOK ops pl (setL (L.setIfInBounds h true) (is ++ is2))
def fsOK (ops : Array Oper) : List Nat → Array Bool → Bool
  | [], _ => true
  | i :: r, L => (Region.ready .any ops L).contains i && Region.free .any ops L i && fsOK ops r (L.setIfInBounds i true)
theorem fs_sound {A : Act → World → Prop} (hsel : Region.noSelect ops = true) {F : Nat} : ∀ (fs : List Nat) (c : Cfg) (N : Cfg → Prop) (L : Array Bool), vfs X ops fs c N → fsOK ops fs L = true → L.size = ops.size →
    (∀ c' ρ' σ' a' w', Rel X c' ρ' σ' a' w' → N c' → wpAny X.P .any ops (QN A) F (setL L fs) a' w') → ∀ ρ σ a w, Rel X c ρ σ a w → wpAny X.P .any ops (QN A) (fs.length + F) L a w
  | [], c, N, L, h, hp, hL, hA, ρ, σ, a, w, hr => by simpa [setL] using hA _ _ _ _ _ hr h
  | i :: r, c, N, L, h, hp, hL, hA, ρ, σ, a, w, hr => by
    simp only [fsOK, Bool.and_eq_true] at hp
    simp only [vfs] at h
    unfold vf1 at h
    split at h
    · rename_i o ho
      obtain ⟨hg, h⟩ := h
      obtain ⟨s, hv, hd, hN⟩ := vcV_sound h
      have hg : o.guard = none := by cases hq : o.guard <;> simp_all
      rw [show (i :: r).length + F = (r.length + F) + 1 by simp only [List.length_cons]; omega]
      obtain ⟨v, h1, h2⟩ := hv ρ σ a w hr
      exact wpAny_take ho hsel hp.1.2 hp.1.1 (fun _ _ _ h => absurd h.1 (by simp)) (.inl ⟨by simp [Region.wanted, hg], h1⟩)
        (fs_sound hsel r _ N _ hN hp.2 (by simp [hL]) hA ρ σ _ w (hr.put hd h2))
    · exact h.elim
theorem QF.of_agree {is : List Nat} {c c1 : Cfg} {ss : List SV} (h : QF X ops is c ss c1) (hnd : is.Nodup) (hdd : ∀ i ∈ is, ∀ j ∈ is, ∀ d, dstOf ops j = some d → i = j ∨ dstOf ops i ≠ some d) {k i : Nat} {t : Tmp} {s : SV} (hk : is[k]? = some i) (ht : dstOf ops i = some t) (hs : c1.env.lookup t = some s) : ss[k]? = some s := by
  rcases h.last hs with ⟨k', j, q1, q2, q3⟩ | ⟨q1, _⟩
  · have hij : i = j := by
      rcases hdd i (List.mem_of_getElem? hk) j (List.mem_of_getElem? q1) t q3 with e | e
      · exact e
      · exact absurd ht e
    subst hij
    have : k = k' := by
      exact (List.getElem?_inj (List.getElem?_eq_some_iff.1 hk).1 hnd).1 (by rw [hk, q1])
    rw [this]; exact q2
  · exact absurd ht (q1 i (List.mem_of_getElem? hk))
theorem hold_sound {A : Act → World → Prop} (hsel : Region.noSelect ops = true) {is is2 : List Nat} {h : Nat} {ks ds : List Tmp} {pl : List Pl} {c : Cfg} {N : Cfg → Prop} {L : Array Bool} {nt : Nat} (hnt : X.nt = nt)
    (hv : vq X ops is c (fun c1 => vs1 X ops (ops[h]?) (killL ks c1) (fun c2 => vq X ops (is ++ is2) c2 (fun c2' => agL ds c1 c2' ∧ vplan X ops pl c2' N)))) (hp : holdAll ops nt is h ks ds is2 pl L = true) (hL : L.size = ops.size)
    (hA : ∀ c' ρ' σ' a' w', Rel X c' ρ' σ' a' w' → N c' → A a' w') : ∀ ρ σ a w, Rel X c ρ σ a w → wpAny X.P .any ops (QN A) (is.length + 1 + (is2.length + (cntP pl + 0))) L a w := by
  intro ρ σ a w hr
  simp only [holdAll, Bool.and_eq_true] at hp
  obtain ⟨⟨⟨hq1, hq2⟩, hks⟩, hpl⟩ := hp
  obtain ⟨ss, c1, hQF, hv⟩ := vq_QF hv
  obtain ⟨oh, hoh, hv⟩ : ∃ oh, ops[h]? = some oh ∧ vc X ops [oh] (killL ks c1) (fun c2 => vq X ops (is ++ is2) c2 (fun c2' => agL ds c1 c2' ∧ vplan X ops pl c2' N)) := by
    unfold vs1 at hv
    split at hv
    · rename_i oh hoh; exact ⟨oh, hoh, hv⟩
    · exact hv.elim
  obtain ⟨⟨⟨hlo, hin⟩, hdata⟩, hout⟩ := hq1
  have hq2' := hq2
  obtain ⟨⟨hin2, hdata2⟩, _⟩ := hq2'
  have hnd2 := inOK_nodup hin2
  have hdd2 : ∀ i ∈ is ++ is2, ∀ j ∈ is ++ is2, ∀ d, dstOf ops j = some d → i = j ∨ dstOf ops i ≠ some d := fun i hi j hj d hd => by
    have h1 := List.all_eq_true.1 (List.all_eq_true.1 hdata2 i hi) j hj
    rw [hd] at h1
    simp only [Bool.and_eq_true, Bool.or_eq_true, beq_iff_eq, bne_iff_ne] at h1
    exact h1.1
  have hun2 : ∀ i ∈ is2, i ≠ h ∧ L.getD i true = false := fun i hi => by
    obtain ⟨k, hk⟩ := List.mem_iff_getElem?.1 (List.mem_append_right is hi)
    have h1 := (inOK_spec hin2 hk).1
    obtain ⟨o, ho⟩ : ∃ o, ops[i]? = some o := by obtain ⟨_, _, _, o, h1, _⟩ := inOK_spec hin2 hk; exact ⟨o, h1⟩
    have hlt : i < L.size := by rw [hL]; exact (Array.getElem?_eq_some_iff.1 ho).1
    have hne : i ≠ h := fun e => by
      subst e
      simp [Array.getD_eq_getD_getElem?, hlt] at h1
    rw [getD_set_ne true (fun e => hne e.symm)] at h1
    exact ⟨hne, h1⟩
  have hnd := inOK_nodup hin
  have hndis : is.Nodup := (List.nodup_append.1 hnd).1
  have hLun : ∀ i ∈ is ++ [h], L.getD i true = false := fun i hi => by
    obtain ⟨k, hk⟩ := List.mem_iff_getElem?.1 hi
    exact (inOK_spec hin hk).1
  have hdd : ∀ i ∈ is, ∀ j ∈ is, ∀ d, dstOf ops j = some d → i = j ∨ dstOf ops i ≠ some d := fun i hi j hj d hd => by
    have h1 := List.all_eq_true.1 (List.all_eq_true.1 hdata i (List.mem_append_left _ hi)) j (List.mem_append_left _ hj)
    rw [hd] at h1
    simp only [Bool.and_eq_true, Bool.or_eq_true, beq_iff_eq, bne_iff_ne] at h1
    exact h1.1
  have hcl : ∀ j oj, ops[j]? = some oj → L.getD j false = true → ∀ e ∈ oj.after, Region.binds .any e = true → L.getD e.on false = true := fun j oj hj hl e he hbd => by
    have h1 := List.all_eq_true.1 hlo j (List.mem_range.2 (Array.getElem?_eq_some_iff.1 hj).1)
    simp only [hl, Bool.not_true, Bool.false_or, hj] at h1
    have h2 := Array.all_eq_true_iff_forall_mem.1 h1 e he
    simpa [hbd] using h2
  simp only [ksOK, Bool.and_eq_true, List.all_eq_true, decide_eq_true_eq] at hks
  obtain ⟨hk1, hk2⟩ := hks
  have hkd : ∀ i ∈ is, ∀ d, dstOf ops i = some d → d ∈ ds ∧ (d ∈ ks ∨ Region.waitsFor .any ops h i = true) := fun i hi d hd => by
    have := hk1 i hi
    rw [hd] at this
    simpa using this
  have hhL : h < L.size := by
    rw [hL]; exact (Array.getElem?_eq_some_iff.1 hoh).1
  have hLh : (L.setIfInBounds h true).getD h false = true := by simp [hhL]
  have hR0 : Rel X ⟨[], c.loc⟩ ρ σ a w := ⟨fun t s he => by simp at he, hr.len, hr.lenS, hr.loc, hr.inj, hr.lt, hr.fresh, hr.low, hr.defers, hr.size, hr.one, hr.pin⟩
  refine hold_pre (f := is2.length + (cntP pl + 0)) hQF hoh hv (fun t ht => by rw [hnt]; exact hk2 t ht) (fun i hi d hd => (hkd i hi d hd).2) hL hin hdata hout ?_ is.length L a w ?_ (getD_both (hLun h (by simp))) hL (fun _ _ _ => rfl) hcl (fun _ h => h) hR0 ?_ ?_
  ·
    intro listed a2 w2 c2 ρ2 σ2 hlh hsz hoth hcl2 hmono hM hr2 hv2
    obtain ⟨ss2, c3, hQF2, hag, hpl2⟩ := vq_QF hM
    have hR2 : Rel X ⟨[], c2.loc⟩ ρ2 σ2 a2 w2 := ⟨fun t s he => by simp at he, hr2.len, hr2.lenS, hr2.loc, hr2.inj, hr2.lt, hr2.fresh, hr2.low, hr2.defers, hr2.size, hr2.one, hr2.pin⟩
    have hall : (is ++ is2) ++ alL none = is ++ is2 := by simp [alL]
    have hun2' : ∀ i ∈ is2, listed.getD i false = false := fun i hi => by
      by_cases him : i ∈ is
      · have := (List.nodup_append.1 hnd2).2.2 i him i hi
        exact absurd rfl this
      · rw [hoth i (by simp only [List.mem_append, List.mem_singleton, not_or]; exact ⟨him, (hun2 i hi).1⟩)]
        exact getD_both (hun2 i hi).2
    have hcnt2 : cntU listed (is ++ is2) = cntU listed is + is2.length := by
      have : cntU listed is2 = is2.length := cntU_all hun2'
      unfold cntU at this ⊢
      rw [List.filter_append, List.length_append, this]
    have := set_sound (A := A) (X := X) (al := none) (l := []) (t := 0) (s := vv undef) (f := cntP pl + 0) (L := L.setIfInBounds h true) hQF2 ⟨fun k hk => by cases hk⟩ (by simp [hL]) (by rw [hall]; simp only [Bool.and_eq_true]; exact hq2)
      (fun ρ' σ' a' w' hr' => by rw [hall]; exact plan_sound hsel pl c3 N _ 0 hpl2 hpl (by rw [setL_size]; simp [hL]) hA ρ' σ' a' w' hr')
      (cntU listed ((is ++ is2) ++ alL none)) listed a2 w2 rfl hsz (fun j hj d => by
        rw [hall] at hj
        by_cases hjh : j = h
        · subst hjh
          have hlt : j < listed.size := by rw [hsz]; exact (Array.getElem?_eq_some_iff.1 hoh).1
          simp only [Array.getD_eq_getD_getElem?, Array.getElem?_eq_getElem hlt, Option.getD_some] at hlh ⊢
          simp [hhL, hlh]
        · rw [getD_set_ne d (fun e => hjh e.symm)]
          exact hoth j (by simp only [List.mem_append, List.mem_singleton, not_or]; exact ⟨fun hm => hj (List.mem_append_left _ hm), hjh⟩) d) hcl2 (fun j hj => by
        by_cases hjh : j = h
        · subst hjh; exact hlh
        · rw [getD_set_ne false (fun e => hjh e.symm)] at hj; exact hmono j hj) hR2
      (fun k i u q1 q2 q3 t q4 => by
        have him : i ∈ is := by
          rcases List.mem_append.1 (List.mem_of_getElem? q1) with hm | hm
          · exact hm
          · rw [hun2' i hm] at q3; cases q3
        obtain ⟨k1, hk1'⟩ := List.mem_iff_getElem?.1 him
        obtain ⟨s, e1, e2, e3⟩ := agL_spec hag (hkd i him t q4).1
        have a1 := hQF.of_agree hndis hdd hk1' q4 e1
        have a2' := hQF2.of_agree hnd2 hdd2 q1 q4 e2
        rw [q2] at a2'; cases a2'
        obtain ⟨v, b1, b2⟩ := hv2 k1 i u hk1' a1 q3 t q4
        exact ⟨v, b1, closedS_mono e3 b2⟩)
      (fun t u _ hu => hr2.env t u hu) (fun k hk => by cases hk)
    rw [hall, hcnt2] at this
    rw [show cntU listed is + (is2.length + (cntP pl + 0)) = cntU listed is + is2.length + (cntP pl + 0) by omega]
    exact this
  · exact cntU_all (fun i hi => getD_both (hLun i (List.mem_append_left _ hi)))
  · intro k i u q1 _ q3
    rw [getD_both (hLun i (List.mem_append_left _ (List.mem_of_getElem? q1)))] at q3; cases q3
  · exact fun t u _ hu => hr.env t u hu
def holdB (l : List Oper) (nt : Nat) (fs : List Nat) (is : List (Nat × List Tmp)) (h : Nat) (ks ds : List Tmp) (is2 : List (Nat × List Tmp)) (pl : List PlT) : Bool :=
  Region.noSelect l.toArray && decide (fs.length + (is.length + 1 + (is2.length + cntP (pl.map PlT.pl))) = l.length) && fsOK l.toArray fs (Array.replicate l.length false) &&
    holdAll l.toArray nt (is.map (·.1)) h ks ds (is2.map (·.1)) (pl.map PlT.pl) (setL (Array.replicate l.length false) fs) && (is ++ is2).all (lkOK l.toArray) && pl.all (PlT.lk l.toArray)
theorem SX.hold {c : Cfg} {id : Nat} {l : List Oper} {K : Exit → Cfg → Prop} (nt : Nat) (fs : List Nat) (is : List (Nat × List Tmp)) (h : Nat) (ks ds : List Tmp) (is2 : List (Nat × List Tmp)) (pl : List PlT) (hm : X.P.follows .mixedOrders = true) (hnt : X.nt = nt)
    (hB : holdB l nt fs is h ks ds is2 pl = true) (hv : vHold X l.toArray fs is h ks ds is2 pl c (K .normal)) : SX X (.region id l.toArray true) c K := fun ρ σ a w hr => by
  simp only [holdB, Bool.and_eq_true, decide_eq_true_eq] at hB
  obtain ⟨⟨⟨⟨⟨b1, b2⟩, b3⟩, b4⟩, b5⟩, b6⟩ := hB
  have hr' : Rel X c ρ σ a { w with drawn := w.drawn + 1 } := hr.below ⟨rfl, rfl, rfl, Nat.le_refl _, fun _ _ => rfl⟩
  have h1 := fs_sound (A := fun a w => Post X K .normal a w) (F := (is.map (·.1)).length + 1 + ((is2.map (·.1)).length + (cntP (pl.map PlT.pl) + 0))) b1 fs c _ (Array.replicate l.length false) hv b3 (by simp) (fun c0 ρ0 σ0 a0 w0 hr0 hv0 => by
    have b5' : is.all (lkOK l.toArray) = true := by rw [List.all_append, Bool.and_eq_true] at b5; exact b5.1
    rw [vqL_eq b5'] at hv0
    have hv1 : vq X l.toArray (is.map (·.1)) c0 (fun c1 => vs1 X l.toArray (l.toArray[h]?) (killL ks c1) (fun c2 => vq X l.toArray (is.map (·.1) ++ is2.map (·.1)) c2 (fun c2' => agL ds c1 c2' ∧ vplan X l.toArray (pl.map PlT.pl) c2' (K .normal)))) := by
      have e : (fun c1 => vs1 X l.toArray (l.toArray[h]?) (killL ks c1) (fun c2 => vqL X l.toArray (is ++ is2) c2 (fun c2' => agL ds c1 c2' ∧ vplT X l.toArray pl c2' (K .normal)))) = (fun c1 => vs1 X l.toArray (l.toArray[h]?) (killL ks c1) (fun c2 => vq X l.toArray (is.map (·.1) ++ is2.map (·.1)) c2 (fun c2' => agL ds c1 c2' ∧ vplan X l.toArray (pl.map PlT.pl) c2' (K .normal)))) := by
        funext c1
        congr 1
        funext c2
        rw [vqL_eq b5, List.map_append]
        congr 1
        funext c3
        rw [vplT_eq b6]
      rw [← e]; exact hv0
    exact hold_sound (A := fun a w => Post X K .normal a w) b1 hnt hv1 b4 (by rw [setL_size]; simp) (fun c3 ρ3 σ3 a3 w3 hr3 hk => ⟨c3, ρ3, σ3, hr3, hk⟩) ρ0 σ0 a0 w0 hr0) ρ σ a _ hr'
  have hlen : fs.length + ((is.map (·.1)).length + 1 + ((is2.map (·.1)).length + (cntP (pl.map PlT.pl) + 0))) = l.length := by rw [List.length_map, List.length_map]; omega
  rw [hlen] at h1
  have h2 : (Code.region id l.toArray true).wp X.P (QN fun a w => Post X K .normal a w) a w := wp_region_any hm (by simpa using h1)
  exact Go.wp_mono h2 (fun e a w h => by obtain ⟨rfl, h⟩ := h; exact h)
end
end Go.Sx
