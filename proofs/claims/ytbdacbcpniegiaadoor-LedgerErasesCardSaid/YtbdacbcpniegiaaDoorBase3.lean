/- Own work: a part of the symbolic executor and of the walks of the functions that the claim reaches. -/
import Derived.Test.YtbdacbcpniegiaaDoorBase2
import Derived.Lib.AppendZerosOnto
import Derived.Lib.Overlaps
import Derived.Test.YtbdacbcpniegiaaDoorProg
import Derived.KernelRfl
import Derived.Laws.StructEq
import Derived.Shelf.Strings.SlTrimAscii
namespace Go.Sx
open Go Go.RowKit
set_option linter.unusedVariables false
set_option linter.unusedSimpArgs false
theorem vals?_map : ∀ us : List Value, vals? (us.map SC.v) = some us
  | [] => rfl
  | u :: us => by simp [vals?, vals?_map us]
@[reducible] def plain (us : List Value) (t : TypeId) : LO := .cells (us.map SC.v) t
section
variable {X : Ctx} {c : Cfg} {N : Cfg → Prop} {d : Option Tmp} {ty : TypeId} {pos : String} {af : Array Edge} {g : Option (Nat × Bool)}
theorem Rel.plainAt {ρ : List (List Nat)} {σ : List Value} {a : Act} {w : World} (h : Rel X c ρ σ a w) {i b : Nat} {us : List Value} {t : TypeId} (hi : c.loc[i]? = some (plain us t)) (hb : σ[i]? = some (ptr b 0)) :
    w.heap[b]? = some (.cells us.toArray t (0, 0)) ∧ ∃ fp, ρ[i]? = some fp ∧ b ∈ fp := by
  obtain ⟨cs, hw, ha, hfp⟩ := h.getLoc hi hb
  have : cs = us := vals?_spec (vals?_map us) ha
  subst this
  exact ⟨hw, hfp⟩
theorem Rel.splice {ρ : List (List Nat)} {σ : List Value} {a : Act} {w : World} (h : Rel X c ρ σ a w) {j b k : Nat} {us vs : List Value} {e : TypeId} (hj : c.loc[j]? = some (plain us e)) (hb : σ[j]? = some (ptr b 0))
    (hl : k + vs.length ≤ us.length) (h1 : ∀ u ∈ vs, u.oneCell' = true) :
    ∃ w', (storeCells ⟨b, k, none⟩ vs 0).run X.P w = .ok () w' ∧ Rel X { c with loc := c.loc.set j (plain (us.take k ++ vs ++ us.drop (k + vs.length)) e) } ρ σ a w' := by
  obtain ⟨hw, fp, hfp, hm⟩ := h.plainAt hj hb
  have hrun := run_storeCells_row (P := X.P) hw vs (off := k) (by simpa using hl) h1
  refine ⟨_, hrun, ?_⟩
  have hset := setRow_heap w b us.toArray (us.take k ++ vs ++ us.drop (k + vs.length)).toArray _ _ hw
  have heq : w.setRow b (us.take k ++ vs ++ us.drop (k + vs.length)).toArray = { w with heap := w.heap.setIfInBounds b (.cells (us.take k ++ vs ++ us.drop (k + vs.length)).toArray e (0, 0)) } := by
    simp only [World.setRow]
    congr 1
    apply Array.ext'
    apply List.ext_getElem?
    intro i
    simp only [Array.getElem?_toList, Array.getElem?_modify]
    by_cases ej : b = i
    · subst ej
      rw [if_pos rfl, hw, Array.getElem?_setIfInBounds_self_of_lt (Array.getElem?_eq_some_iff.1 hw).1]
      rfl
    · rw [if_neg ej, Array.getElem?_setIfInBounds_ne (by omega)]
  simp only [List.toList_toArray] at hset ⊢
  rw [heq] at hset ⊢
  exact h.setObj _ (List.getElem?_eq_some_iff.1 hj).1 hfp hm hb ⟨b, _, rfl, hm, hset, all2_vals _⟩
theorem SX.openRow {code : Code} {K : Exit → Cfg → Prop} {t i e sz n : Nat} {xs : List Value} (ht : c.env.lookup t = some (.one (.c (.row i)))) (hi : c.loc[i]? = some (.row e sz n xs)) (h0 : 0 < n)
    (h : ∀ (cap : Nat) (ys : List Value), n ≤ cap → cap ≤ maxLen → ys.length = (cap - n) * sz → SX X code { env := (t, .one (.c (.sl c.loc.length 0 n cap))) :: c.env, loc := c.loc.set i .gone ++ [plain (xs ++ ys) e] } K) : SX X code c K := by
  intro ρ σ a w hr
  obtain ⟨v, hv, hdv⟩ := hr.env t _ ht
  have hdv : σ[i]? = some v := hdv
  obtain ⟨fp, hfp⟩ := hr.locAt hi
  obtain ⟨⟨hl, hd⟩, hk⟩ := hr.loc i _ fp _ hi hfp hdv
  rcases hd with ⟨_, e0⟩ | ⟨gg, cap, cur, rfl, hg0, hg, hnc, hcm, hcs, htake⟩
  · omega
  have hgf : gg ∈ fp := hk gg rfl
  have hys : (cur.toList.drop (n * sz)).length = (cap - n) * sz := by simp [hcs, Nat.sub_mul]
  have hcat : xs ++ cur.toList.drop (n * sz) = cur.toList := by rw [← htake]; exact List.take_append_drop _ _
  have hR := hr.move (w' := w) (fp' := [gg]) (v' := ptr gg 0) (o' := plain (xs ++ cur.toList.drop (n * sz)) e) (List.getElem?_eq_some_iff.1 hi).1 hfp (Fr.refl _ _) (fun b hb => by simp at hb; subst hb; exact .inl hgf) (by simp)
    ⟨gg, cur.toList, rfl, by simp, by simpa using hg, by rw [hcat]; exact all2_vals _⟩ rfl
  have hnew : (σ ++ [ptr gg 0])[c.loc.length]? = some (ptr gg 0) := by rw [← hr.lenS]; simp
  refine h cap _ hnc hcm hys _ _ a w ⟨fun t' s he => ?_, hR.len, hR.lenS, hR.loc, hR.inj, hR.lt, hR.fresh, hR.low, hR.defers, hR.size, hR.one, hR.pin⟩
  simp only [List.lookup_cons] at he
  split at he
  · rename_i hq
    cases he
    have hq : t' = t := by simpa using hq
    subst hq
    exact ⟨_, hv, gg, hnew, rfl⟩
  · exact hR.env t' s he
theorem Rel.closeRow {ρ : List (List Nat)} {σ : List Value} {a : Act} {w : World} (hr : Rel X c ρ σ a w) {t j e sz n cap : Nat} {us : List Value} (ht : c.env.lookup t = some (.one (.c (.sl j 0 n cap)))) (hj : c.loc[j]? = some (plain us e)) (hl : us.length = cap * sz) (hn : n ≤ cap) (hcm : cap ≤ maxLen) :
    ∃ ρ' σ', Rel X { env := (t, .one (.c (.row c.loc.length))) :: c.env, loc := c.loc.set j .gone ++ [.row e sz n (us.take (n * sz))] } ρ' σ' a w := by
  obtain ⟨v, hv, b, hb, rfl⟩ := hr.env t _ ht
  obtain ⟨hw, fp, hfp, hm⟩ := hr.plainAt hj hb
  have hns : n * sz ≤ cap * sz := Nat.mul_le_mul_right _ hn
  have hR := hr.move (w' := w) (fp' := [b]) (v' := .slice (some ⟨b, 0, none⟩) n cap) (o' := .row e sz n (us.take (n * sz))) (List.getElem?_eq_some_iff.1 hj).1 hfp (Fr.refl _ _) (fun k hk => by simp at hk; subst hk; exact .inl hm) (by simp)
    ⟨⟨by simp; omega, .inr ⟨b, cap, us.toArray, rfl, Nat.zero_le _, hw, hn, hcm, by simpa using hl, by simp⟩⟩, fun k hk => by simp [Value.ownBlock] at hk; simp [hk]⟩ rfl
  have hnew : (σ ++ [Value.slice (some ⟨b, 0, none⟩) n cap])[c.loc.length]? = some (.slice (some ⟨b, 0, none⟩) n cap) := by rw [← hr.lenS]; simp
  refine ⟨_, _, ⟨fun t' s he => ?_, hR.len, hR.lenS, hR.loc, hR.inj, hR.lt, hR.fresh, hR.low, hR.defers, hR.size, hR.one, hR.pin⟩⟩
  simp only [List.lookup_cons] at he
  split at he
  · rename_i hq
    cases he
    have hq : t' = t := by simpa using hq
    subst hq
    exact ⟨_, hv, hnew⟩
  · exact hR.env t' s he
theorem SX.closeRow {code : Code} {K : Exit → Cfg → Prop} {t j e sz n cap : Nat} {us : List Value} (ht : c.env.lookup t = some (.one (.c (.sl j 0 n cap)))) (hj : c.loc[j]? = some (plain us e)) (hl : us.length = cap * sz) (hn : n ≤ cap) (hcm : cap ≤ maxLen)
    (h : SX X code { env := (t, .one (.c (.row c.loc.length))) :: c.env, loc := c.loc.set j .gone ++ [.row e sz n (us.take (n * sz))] } K) : SX X code c K := fun ρ σ a w hr =>
  let ⟨ρ', σ', hR⟩ := hr.closeRow ht hj hl hn hcm; h ρ' σ' a w hR
theorem VO.closeRow {o : Oper} {t j e sz n cap : Nat} {us : List Value} (ht : c.env.lookup t = some (.one (.c (.sl j 0 n cap)))) (hj : c.loc[j]? = some (plain us e)) (hl : us.length = cap * sz) (hn : n ≤ cap) (hcm : cap ≤ maxLen)
    (h : VO X o { env := (t, .one (.c (.row c.loc.length))) :: c.env, loc := c.loc.set j .gone ++ [.row e sz n (us.take (n * sz))] } N) : VO X o c N := fun ρ σ a w hr =>
  let ⟨ρ', σ', hR⟩ := hr.closeRow ht hj hl hn hcm; h ρ' σ' a w hR
theorem VO.rowNil {t t2 e e' : TypeId} {x y : Operand} {i sz n m k : Nat} {xs : List Value} (hx : c.ev x = .one (.c (.row i))) (hy : c.ev y = vv (.slice none m k)) (hi : c.loc[i]? = some (.row e sz n xs)) (ht : X.P.underlying t = some (.slice e'))
    (h : ∀ b : Bool, (b = true → n = 0) → nxt X d N c (vv (.bool b))) : VO X ⟨d, .binOp .eql t x y t2, ty, pos, af, g⟩ c N := .of_pure fun ρ σ a w hr => by
  have e1 := hr.ev x
  rw [hx] at e1
  have e1 : σ[i]? = some (a.eval x) := e1
  have e2 := hr.ev y
  rw [hy] at e2
  have e2 : a.eval y = .slice none m k := e2
  obtain ⟨fp, hfp⟩ := hr.locAt hi
  have hd := (hr.loc i _ fp _ hi hfp e1).1
  rcases hd.2 with ⟨e3, h0⟩ | ⟨gg, cap, cur, e3, _⟩
  · have hn := h true (fun _ => h0)
    exact ⟨.bool true, vv (.bool true), by simp [execOp, e3, e2, eqGuard, Go.binOp, eq_slice_nil w ht, Result.andThen], rfl, hn.1, hn.2⟩
  · have hn := h false (fun hb => by cases hb)
    exact ⟨.bool false, vv (.bool false), by simp [execOp, e3, e2, eqGuard, Go.binOp, eq_slice_nil w ht, Result.andThen], rfl, hn.1, hn.2⟩
theorem VO.appendRow {x y : Operand} {t e e' i j m sz n by_ : Nat} {xs ys : List Value} {z : Value} (hx : c.ev x = .one (.c (.row i))) (hy : c.ev y = .one (.c (.row j)))
    (ht : elemInf X.P t = some (e, sz, by_, z)) (hi : c.loc[i]? = some (.row e sz n xs)) (hj : c.loc[j]? = some (.row e' sz m ys)) (h1 : ∀ u ∈ ys, u.oneCell' = true) (h63 : n + m ≤ maxLen) (hby : (n + m) * by_ ≤ 140737488355328)
    (h : nxt X d N { c with loc := c.loc.set i .gone ++ [.row e sz (n + m) (xs ++ ys)] } (.one (.c (.row c.loc.length)))) :
    VO X ⟨d, .call { callee := .builtin .append, args := #[x, y], argTypes := #[t, t] }, ty, pos, af, g⟩ c N :=
  .of_value fun ρ σ a w hr => by
    have ex := hr.ev x
    rw [hx] at ex
    have ex : σ[i]? = some (a.eval x) := ex
    have ey := hr.ev y
    rw [hy] at ey
    have ey : σ[j]? = some (a.eval y) := ey
    obtain ⟨hu, ti, hti, hz, hsz, hby', hzs, h0⟩ := elemInf_spec ht
    obtain ⟨fp, hfp⟩ := hr.locAt hi
    have hd := hr.loc i _ fp _ hi hfp ex
    obtain ⟨fq, hfq⟩ := hr.locAt hj
    have hdj := hr.loc j _ fq _ hj hfq ey
    have key : ∃ v' w', (Builtin.append_ #[t, t] ty #[a.eval x, a.eval y]).run X.P w = .ok v' w' ∧ w'.ownsRow 0 e sz v' (n + m) (xs ++ ys) ∧ w.grownBy w' (a.eval x).ownBlock ∧ (∀ k, v'.ownBlock = some k → (a.eval x).ownBlock = some k ∨ w.heap.size ≤ k) := by
      rcases hdj.1.2 with ⟨e3, hm0⟩ | ⟨gg, cap, cur, e3, _⟩
      · subst hm0
        have hys : ys = [] := by have := hdj.1.1; simpa using this
        subst hys
        rw [e3]
        have := append_cases (P := X.P) w 0 t ty e ti z sz by_ hu hti hz hsz hby' hzs h0 (a.eval x) n xs hd.1 ⟨0, 0, none⟩ 0 0 [] (by simp) (by simp) (by simp) h63 hby (Nat.zero_le _)
        have hrun : (Builtin.append_ #[t, t] ty #[a.eval x, .slice (some ⟨0, 0, none⟩) 0 0]).run X.P w = (Builtin.append_ #[t, t] ty #[a.eval x, .slice none 0 0]).run X.P w := by
          have hl : ∀ (ad : Addr), (loadCells ad 0).run X.P w = .ok #[] w := fun ad => by simpa using run_loadCells_list (P := X.P) w ad [] (by simp)
          rcases hd.1.2 with ⟨e4, hn0⟩ | ⟨g4, c4, u4, e4, _, _, hn4, _⟩
          · rw [e4]; simp [Builtin.append_, run_underlying hu, Builtin.lenOf, Builtin.firstCells, sizeOf, typeInfo, hti, hl, storeCells]
          · rw [e4]; simp [Builtin.append_, run_underlying hu, Builtin.lenOf, Builtin.firstCells, sizeOf, typeInfo, hti, hn4, hl, storeCells]
        rw [hrun] at this
        exact this
      · rw [e3]
        exact append_cases (P := X.P) w 0 t ty e ti z sz by_ hu hti hz hsz hby' hzs h0 (a.eval x) n xs hd.1 ⟨gg, 0, none⟩ m cap ys (by have := hdj.1.1; exact this) (fun q u hq => hr.rowCell hj (by rw [ey, e3]) q u hq) h1 h63 hby (Nat.zero_le _)
    obtain ⟨v', w', hrun, hown, hgr, hk⟩ := key
    obtain ⟨ρ', hR⟩ := hr.reRow hi ex hgr hown hk
    refine ⟨v', w', _, ρ', _, .one (.c (.row c.loc.length)), ?_, hR, ?_, h.1, h.2⟩
    · simp only [execOp, resolve, invoke, builtin, Sem.run_bind, Sem.run_pure, Result.andThen_ok, List.map_toArray, List.map_cons, List.map_nil]
      rw [hrun]; rfl
    · show (σ ++ [v'])[c.loc.length]? = some v'
      rw [← hr.lenS]; simp
theorem PO.capSl {t e : TypeId} {x : Operand} {j off n k : Nat} (hx : c.ev x = .one (.c (.sl j off n k))) (ht : X.P.underlying t = some (.slice e)) :
    PO X ⟨d, .call { callee := .builtin .cap, args := #[x], argTypes := #[t] }, ty, pos, af, g⟩ c (vv (.int .i64 k)) := fun ρ σ a w hr => by
  have e1 := hr.ev x
  rw [hx] at e1
  obtain ⟨b, hb, e1⟩ := e1
  refine ⟨_, ?_, rfl⟩
  simp [execOp, resolve, invoke, builtin, e1, Builtin.cap_, run_underlying ht, goInt]
theorem VO.capSl {t e : TypeId} {x : Operand} {j off n k : Nat} (hx : c.ev x = .one (.c (.sl j off n k))) (ht : X.P.underlying t = some (.slice e)) (h : nxt X d N c (vv (.int .i64 k))) :
    VO X ⟨d, .call { callee := .builtin .cap, args := #[x], argTypes := #[t] }, ty, pos, af, g⟩ c N := .of_po (.capSl hx ht) h
theorem VO.copySl {t t' e : TypeId} {x y : Operand} {j off n k j2 off2 n2 k2 sz e1 e2 q : Nat} {us ws vs : List Value} (hx : c.ev x = .one (.c (.sl j off n k))) (hy : c.ev y = .one (.c (.sl j2 off2 n2 k2))) (ht : X.P.underlying t = some (.slice e)) (hz : szOf X.P e = some sz)
    (hj : c.loc[j]? = some (plain us e1)) (hj2 : c.loc[j2]? = some (plain ws e2)) (hq : Nat.min n2 n = q) (hv : (ws.drop off2).take (q * sz) = vs) (hvl : vs.length = q * sz) (hl : off + vs.length ≤ us.length) (h1 : ∀ u ∈ vs, u.oneCell' = true)
    (h : nxt X d N { c with loc := c.loc.set j (plain (us.take off ++ vs ++ us.drop (off + vs.length)) e1) } (vv (.int .i64 (q : Nat)))) :
    VO X ⟨d, .call { callee := .builtin .copy, args := #[x, y], argTypes := #[t, t'] }, ty, pos, af, g⟩ c N := .of_value fun ρ σ a w hr => by
  subst hq
  have ex := hr.ev x
  rw [hx] at ex
  obtain ⟨b, hb, ex⟩ := ex
  have ey := hr.ev y
  rw [hy] at ey
  obtain ⟨b2, hb2, ey⟩ := ey
  obtain ⟨hw2, _⟩ := hr.plainAt hj2 hb2
  obtain ⟨w', hst, hR⟩ := hr.splice hj hb hl h1
  have hld := run_loadCells_list (P := X.P) w ⟨b2, off2, none⟩ vs (fun i u hi => by
    rw [add_add, cell_of_row w b2 _ _ _ _ hw2]
    rw [← hv, List.getElem?_take] at hi
    split at hi
    · simpa using hi
    · simp at hi)
  refine ⟨.int .i64 (Nat.min n2 n : Nat), w', _, ρ, σ, vv (.int .i64 (Nat.min n2 n : Nat)), ?_, hR, rfl, h.1, h.2⟩
  simp [execOp, resolve, invoke, builtin, ex, ey, Builtin.copy_, run_underlying ht, Builtin.lenOf, Builtin.firstCells, sizeOf_run hz, ← hvl, hld, hst, goInt, Result.andThen]
theorem VO.clearSl {t e : TypeId} {x : Operand} {j off n k sz e1 : Nat} {us : List Value} {z : Value} {by_ : Nat} (hx : c.ev x = .one (.c (.sl j off n k))) (ht : elemInf X.P t = some (e, sz, by_, z))
    (hj : c.loc[j]? = some (plain us e1)) (hl : off + n * sz ≤ us.length) (hz1 : ∀ i, i < z.cells.size → (z.cells[i]!).oneCell' = true) (h0 : 0 < n)
    (hd : d = none) (h : ∀ vs : List Value, vs.length = n * sz → N { c with loc := c.loc.set j (plain (us.take off ++ vs ++ us.drop (off + vs.length)) e1) }) :
    VO X ⟨d, .call { callee := .builtin .clear, args := #[x], argTypes := #[t] }, ty, pos, af, g⟩ c N := by
  subst hd
  intro ρ σ a w hr
  have ex := hr.ev x
  rw [hx] at ex
  obtain ⟨b, hb, ex⟩ := ex
  obtain ⟨hu, ti, hti, hz, hsz, hby', hzs, h0'⟩ := elemInf_spec ht
  have hvl : (Builtin.zeroCells z.cells n).toList.length = n * sz := by simp [Builtin.zeroCells, hzs]
  have h1 : ∀ u ∈ (Builtin.zeroCells z.cells n).toList, u.oneCell' = true := fun u hu => by
    simp only [Builtin.zeroCells, Array.toList_map, List.mem_map] at hu
    obtain ⟨i, _, rfl⟩ := hu
    exact hz1 _ (Nat.mod_lt _ (by omega))
  obtain ⟨w', hst, hR⟩ := hr.splice hj hb (by rw [hvl]; exact hl) h1
  obtain ⟨m, rfl⟩ : ∃ m, n = m + 1 := ⟨n - 1, by omega⟩
  have hrun : (execOp a.eval ⟨none, .call { callee := .builtin .clear, args := #[x], argTypes := #[t] }, ty, pos, af, g⟩).run X.P w = .ok (.value (.tuple #[])) w' := by
    simp [execOp, resolve, invoke, builtin, ex, Builtin.clear_, run_underlying hu, zeroValue, typeInfo, hti, hz, hst, Result.andThen]
  unfold Oper.wp
  rw [hrun]
  exact ⟨_, ρ, σ, hR, h _ hvl⟩
end
section
variable {X : Ctx} {c : Cfg} {N : Cfg → Prop} {d : Option Tmp} {ty : TypeId} {pos : String} {af : Array Edge} {g : Option (Nat × Bool)}
theorem VO.appendZeros {x y : Operand} {t tn e e1 j n0 cap k sz by_ : Nat} {us : List Value} {z : Value} {kq kn : IntKind} (hx : c.ev x = .one (.c (.sl j 0 n0 cap))) (hy : c.ev y = vv (.int kq (k : Int)))
    (ht : elemInf X.P t = some (e, sz, by_, z)) (htn : X.P.underlying tn = some (.int kn)) (hj : c.loc[j]? = some (plain us e1)) (hl : n0 * sz ≤ us.length) (h0 : 0 < k) (hg : cap < n0 + k) (h63 : n0 + k ≤ 1000000000) (hby : (n0 + k) * by_ ≤ 140737488355328)
    (h : ∀ zs : List Value, zs.length = k * sz → nxt X d N { c with loc := c.loc ++ [.row e sz (n0 + k) (us.take (n0 * sz) ++ zs)] } (.one (.c (.row c.loc.length)))) :
    VO X ⟨d, .call { callee := .builtin .append, args := #[x, y], argTypes := #[t, tn] }, ty, pos, af, g⟩ c N := .of_value fun ρ σ a w hr => by
  have ex := hr.ev x
  rw [hx] at ex
  obtain ⟨b, hb, ex⟩ := ex
  have ey := hr.ev y
  rw [hy] at ey
  have ey : a.eval y = .int kq k := ey
  obtain ⟨hu, ti, hti, hz, rfl, rfl, hzs, hs0⟩ := elemInf_spec ht
  obtain ⟨hw, _⟩ := hr.plainAt hj hb
  have hlen : (us.take (n0 * ti.size)).length = n0 * ti.size := by simp; omega
  have hw' : w.drew.heap[b]? = some (.cells us.toArray e1 (0, 0)) := hw
  have hold : (Builtin.firstCells ti.size n0 (.slice (some ⟨b, 0, none⟩) n0 cap)).run X.P w.drew = .ok (us.take (n0 * ti.size)).toArray w.drew := by
    have hld := run_loadCells_list (P := X.P) w.drew ⟨b, 0, none⟩ (us.take (n0 * ti.size)) (fun i u hi => by
      rw [add_add, cell_of_row w.drew b _ _ _ _ hw']
      rw [List.getElem?_take] at hi
      split at hi
      · simpa using hi
      · simp at hi)
    rw [hlen] at hld
    simpa [Builtin.firstCells] using hld
  have hfit := growslice_fits (need := n0 + k) (old := cap) (bytes := ti.bytes) hg hby
  have hk48 : k * ti.bytes ≤ 281474976710656 := Nat.le_trans (Nat.le_trans (Nat.mul_le_mul_right _ (Nat.le_add_left k n0)) hby) (by decide)
  have hrun := Lib.run_append_grow_zeros (P := X.P) w t tn ty e ti z kq kn hu htn hti hz (some ⟨b, 0, none⟩) n0 cap _ hold k h0 hs0 hg (by omega) hk48 hfit
  have hge := grownCap_ge w (n0 + k) cap e
  have hcm : grownCap w (n0 + k) cap e ≤ maxLen := grownCap_le_maxLen w (n0 + k) cap e (by simp only [maxLen]; omega)
  have hzl : (Builtin.zeroCells z.cells k).toList.length = k * ti.size := by simp [Builtin.zeroCells, hzs]
  have hN := h (Builtin.zeroCells z.cells k).toList hzl
  have hR := hr.push (w' := w.drew.alloc (.cells ((us.take (n0 * ti.size)).toArray ++ Builtin.zeroCells z.cells k ++ Builtin.zeroCells z.cells (grownCap w (n0 + k) cap e - (n0 + k))) e)) (fp := [w.heap.size]) (v := .slice (some ⟨w.heap.size, 0, none⟩) (n0 + k) (grownCap w (n0 + k) cap e)) (o := .row e ti.size (n0 + k) (us.take (n0 * ti.size) ++ (Builtin.zeroCells z.cells k).toList))
    ⟨rfl, rfl, rfl, by simp, fun q hq => Below.heap_alloc w.drew _ q hq⟩ (fun q hq => by simp at hq; subst hq; simp) (by simp)
    ⟨⟨by simp [hzs, Builtin.zeroCells, Nat.add_mul]; omega, .inr ⟨w.heap.size, _, _, rfl, Nat.zero_le _, heap_alloc_new w.drew _, hge, hcm, by
        simp only [Array.size_append, List.size_toArray, size_zeroCells, hzs, hlen, ← Nat.add_mul]
        congr 1
        omega, by
        simp only [Array.toList_append, List.append_assoc]
        rw [← List.append_assoc]
        exact List.take_left' (by rw [List.length_append, hzl, hlen, Nat.add_mul])⟩⟩, fun q hq => by simp [Value.ownBlock] at hq; simp [hq]⟩ rfl
  obtain ⟨hN1, hN2⟩ := hN
  refine ⟨.slice (some ⟨w.heap.size, 0, none⟩) (n0 + k) (grownCap w (n0 + k) cap e), _, { c with loc := c.loc ++ [.row e ti.size (n0 + k) (us.take (n0 * ti.size) ++ (Builtin.zeroCells z.cells k).toList)] }, _, σ ++ [.slice (some ⟨w.heap.size, 0, none⟩) (n0 + k) (grownCap w (n0 + k) cap e)], .one (.c (.row c.loc.length)), ?_, hR, ?_, hN1, hN2⟩
  · simp only [execOp, resolve, invoke, builtin, Sem.run_bind, Sem.run_pure, Result.andThen_ok, List.map_toArray, List.map_cons, List.map_nil, ex, ey]
    rw [hrun]; rfl
  · show (σ ++ [Value.slice (some ⟨w.heap.size, 0, none⟩) (n0 + k) (grownCap w (n0 + k) cap e)])[c.loc.length]? = some (.slice (some ⟨w.heap.size, 0, none⟩) (n0 + k) (grownCap w (n0 + k) cap e))
    rw [← hr.lenS]; simp
theorem VO.overlaps {x y : Operand} {ts : Array TypeId} {f : FuncId} {j off n k j2 off2 n2 k2 : Nat} {us ws : List Value} {e1 e2 : TypeId} (hx : c.ev x = .one (.c (.sl j off n k))) (hy : c.ev y = .one (.c (.sl j2 off2 n2 k2)))
    (hj : c.loc[j]? = some (plain us e1)) (hj2 : c.loc[j2]? = some (plain ws e2)) (hne : j ≠ j2) (h0 : ws.length ≠ 0)
    (hrun : ∀ (w : World) (a b : Addr) (la ca lb cb : Nat) (cs cs2 : Array Value) (t t2 : TypeId), w.heap[a.block]? = some (.cells cs t (0, 0)) → w.heap[b.block]? = some (.cells cs2 t2 (0, 0)) → a.block ≠ b.block → cs2.size ≠ 0 → (callFunc f #[.slice (some a) la ca, .slice (some b) lb cb]).run X.P w = .ok (.value (.bool false)) w)
    (h : nxt X d N c (vv (.bool false))) : VO X ⟨d, .call { callee := .value (.func f), args := #[x, y], argTypes := ts }, ty, pos, af, g⟩ c N := .of_pure fun ρ σ a w hr => by
  have ex := hr.ev x
  rw [hx] at ex
  obtain ⟨b, hb, ex⟩ := ex
  have ey := hr.ev y
  rw [hy] at ey
  obtain ⟨b2, hb2, ey⟩ := ey
  obtain ⟨hw, fp, hfp, hm⟩ := hr.plainAt hj hb
  obtain ⟨hw2, fp2, hfp2, hm2⟩ := hr.plainAt hj2 hb2
  have hbb : b ≠ b2 := fun e => hne (flat_inj hr.inj hfp hfp2 hm (by rw [e]; exact hm2))
  refine ⟨.bool false, vv (.bool false), ?_, rfl, h.1, h.2⟩
  have hf : a.eval (.func f) = .func (.func f) #[] #[] := rfl
  simp [execOp, resolve, Deferred.ofValue, hf, invoke, ex, ey, hrun w ⟨b, off, none⟩ ⟨b2, off2, none⟩ _ _ _ _ _ _ _ _ hw hw2 hbb (by simpa using h0)]
end
theorem Ctr.nilRow {P : Program} {G : List (Addr × Value)} {f : FuncId} {os : List LO} {args : List SV} {R : List LO → SV → Prop} (e sz : Nat)
    (h : Ctr P G f os args (fun os' r => R os' r ∨ (r = vv (.slice none 0 0) ∧ R (os' ++ [.row e sz 0 []]) (.one (.c (.row os'.length)))))) : Ctr P G f os args R := by
  intro X hP hG N hN ρ σ a w hr vals ha
  refine (h X hP hG (fun c s => ∃ os', c = ⟨[], os'⟩ ∧ (R os' s ∨ (s = vv (.slice none 0 0) ∧ R (os' ++ [.row e sz 0 []]) (.one (.c (.row os'.length)))))) (fun os' s hR => ⟨os', rfl, hR⟩) ρ σ a w hr vals ha).mono ?_
  rintro ev w' ⟨v, c', ρ', σ', s, rfl, hr', hd, os', rfl, hR | ⟨rfl, hR⟩⟩
  · exact ⟨v, _, ρ', σ', s, rfl, hr', hd, hN _ _ hR⟩
  · have hd : v = .slice none 0 0 := hd
    subst hd
    have hn := hr'.nilRow e sz
    refine ⟨_, _, _, _, _, rfl, hn, ?_, hN _ _ hR⟩
    show (σ' ++ [Value.slice none 0 0])[os'.length]? = some (.slice none 0 0)
    have : σ'.length = os'.length := hr'.lenS
    rw [← this]; simp
theorem Rel.retell {X : Ctx} {env : List (Nat × SV)} {loc : List LO} {ρ : List (List Nat)} {σ : List Value} {a : Act} {w : World} (hr : Rel X ⟨env, loc⟩ ρ σ a w) {i : Nat} {l l' : List SC} {t : TypeId} (hi : loc[i]? = some (.cells l t))
    (hl : ∀ cs, All2 (DC σ) l cs → All2 (DC σ) l' cs) : Rel X ⟨env, loc.set i (.cells l' t)⟩ ρ σ a w := by
  have hlt : i < loc.length := (List.getElem?_eq_some_iff.1 hi).1
  refine ⟨hr.env, by simpa using hr.len, by simpa using hr.lenS, fun j o fp v ho hb hv => ?_, hr.inj, hr.lt, hr.fresh, hr.low, hr.defers, hr.size, hr.one, hr.pin⟩
  by_cases e : j = i
  · subst e
    rw [List.getElem?_set_self hlt] at ho
    cases ho
    obtain ⟨b, cs, e1, e2, e3, e4⟩ := hr.loc j _ fp v hi hb hv
    exact ⟨b, cs, e1, e2, e3, hl cs e4⟩
  · rw [List.getElem?_set_ne (by omega)] at ho
    exact hr.loc j o fp v ho hb hv
theorem Ctr.moveCell {P : Program} {G : List (Addr × Value)} {f : FuncId} {os : List LO} {args : List SV} {R : List LO → SV → Prop}
    (h : Ctr P G f os args (fun os' r => R os' r ∨ ∃ t e sz n xs, os' = [.cells [.row 1] t, .row e sz n xs] ∧ R [.cells [.row 2] t, .gone, .row e sz n xs] r)) : Ctr P G f os args R := by
  intro X hP hG N hN ρ σ a w hr vals ha
  refine (h X hP hG (fun c s => ∃ os', c = ⟨[], os'⟩ ∧ (R os' s ∨ ∃ t e sz n xs, os' = [.cells [.row 1] t, .row e sz n xs] ∧ R [.cells [.row 2] t, .gone, .row e sz n xs] s)) (fun os' s hR => ⟨os', rfl, hR⟩) ρ σ a w hr vals ha).mono ?_
  rintro ev w' ⟨v, c', ρ', σ', s, rfl, hr', hd, os', rfl, hR | ⟨t, e, sz, n, xs, rfl, hR⟩⟩
  · exact ⟨v, _, ρ', σ', s, rfl, hr', hd, hN _ _ hR⟩
  · have hi : ([.cells [.row 1] t, .row e sz n xs] : List LO)[1]? = some (.row e sz n xs) := rfl
    obtain ⟨fp, hfp⟩ := hr'.locAt hi
    obtain ⟨u, hu⟩ := hr'.hdl hfp
    obtain ⟨hd1, hk⟩ := hr'.loc 1 _ fp u hi hfp hu
    have hl2 : σ'.length = 2 := hr'.lenS
    have hR1 := hr'.move (w' := w') (fp' := fp) (v' := u) (o' := .row e sz n xs) (by simp) hfp (Fr.refl _ _) (fun b hb => .inl hb) (hr'.fpNodup hfp) ⟨hd1, hk⟩ (ownsRow_one hd1)
    have hR2 := Rel.retell (l' := [.row 2]) hR1 (i := 0) (l := [.row 1]) (t := t) rfl (fun cs hcs => by
      cases cs with
      | nil => exact hcs
      | cons x xs' =>
        refine ⟨?_, hcs.2⟩
        have h1 : (σ' ++ [u])[1]? = some x := hcs.1
        rw [List.getElem?_append_left (by omega), hu] at h1
        cases h1
        show (σ' ++ [u])[2]? = some u
        rw [← hl2]; simp)
    exact ⟨v, _, _, _, s, rfl, hR2, DV.mono (Up.append _ _) _ _ hd, hN _ _ hR⟩
theorem Ctr.nilCell {P : Program} {G : List (Addr × Value)} {f : FuncId} {os : List LO} {args : List SV} {R : List LO → SV → Prop} (e sz : Nat)
    (h : Ctr P G f os args (fun os' r => ∃ t, os' = [.cells [.v (.slice none 0 0)] t] ∧ R [.cells [.row 1] t, .row e sz 0 []] r)) : Ctr P G f os args R := by
  intro X hP hG N hN ρ σ a w hr vals ha
  refine (h X hP hG (fun c s => ∃ t, c = ⟨[], [.cells [.v (.slice none 0 0)] t]⟩ ∧ R [.cells [.row 1] t, .row e sz 0 []] s) (fun os' s hR => by obtain ⟨t, rfl, hR⟩ := hR; exact ⟨t, rfl, hR⟩) ρ σ a w hr vals ha).mono ?_
  rintro ev w' ⟨v, c', ρ', σ', s, rfl, hr', hd, t, rfl, hR⟩
  have hl1 : σ'.length = 1 := hr'.lenS
  have hR1 := hr'.nilRow e sz
  have hR2 := Rel.retell (l' := [.row 1]) hR1 (i := 0) (l := [.v (.slice none 0 0)]) (t := t) rfl (fun cs hcs => by
    cases cs with
    | nil => exact hcs
    | cons x xs' =>
      refine ⟨?_, hcs.2⟩
      have h1 : x = Value.slice none 0 0 := hcs.1
      subst h1
      show (σ' ++ [Value.slice none 0 0])[1]? = some (Value.slice none 0 0)
      rw [← hl1]; simp)
  exact ⟨v, _, _, _, s, rfl, hR2, DV.mono (Up.append _ _) _ _ hd, hN _ _ hR⟩
end Go.Sx
namespace Go.Sx
open Go Go.RowKit
theorem JA {α : Type} {x : α} {xs : List α} {n : Nat} {d : α} : (x :: xs).getD (n + 1) d = xs.getD n d := rfl
theorem JB (l : List UInt8) : (⟨l.toArray⟩ : ByteArray) = B l := rfl
theorem JC {α β : Type} {f : α → Option β} : List.filterMap f [] = [] := rfl
theorem JD {α : Type} [BEq α] [LawfulBEq α] (a : α) : (a != a) = false := by first | exact @bne_self_eq_false .. | simp only [bne_self_eq_false]
theorem JE {α : Type} (val val_1 : α) : (some val = some val_1) = (val = val_1) := by first | exact @Option.some.injEq .. | simp only [Option.some.injEq]
theorem JF {α : Type} {p : α → Prop} {a' : α} : (∃ a, a' = a ∧ p a) ↔ p a' := by first | exact @exists_eq_left' .. | simp only [exists_eq_left']
theorem JG {α : Type} : (none : Option α).isNone = true := rfl
theorem JH {α : Type} {a : α} : (some a).isNone = false := rfl
theorem JI {α : Type} : (none : Option α).isSome = false := rfl
theorem JJ {α : Type} {a : α} : (some a).isSome = true := rfl
theorem JK {α : Type} {f : α → Bool} : ([] : List α).all f = true := rfl
theorem JL (b : Bool) : (b && true) = b := by first | exact @Bool.and_true .. | simp only [Bool.and_true]
theorem JM (b : Bool) : (true && b) = b := rfl
theorem JN {N : Cfg → Prop} {K : Exit → Cfg → Prop} {c : Cfg} : nx N K Exit.normal c = N c := rfl
theorem JO {N : Cfg → Prop} {K : Exit → Cfg → Prop} {c : Cfg} : nx N K Exit.ret c = K Exit.ret c := rfl
theorem JP {K : Exit → Cfg → Prop} {c : Cfg} {id : Nat} : bx id K Exit.normal c = K Exit.normal c := rfl
theorem JQ {K : Exit → Cfg → Prop} {c : Cfg} {id : Nat} : bx id K Exit.ret c = K Exit.ret c := rfl
theorem JR {α : Type} {a b : α} : (some a).getD b = a := rfl
theorem JS {α : Type} {a : α} : (none : Option α).getD a = a := rfl
theorem JT {α β : Type} (a : α) (f : α → Option β) : (some a).bind f = f a := rfl
theorem JU {α β : Type} (a : α) (f : α → β) : Option.map f (some a) = some (f a) := rfl
theorem JV {α : Type} {xs : List α} {i : Nat} : xs.toArray[i]? = xs[i]? := by first | exact @List.getElem?_toArray .. | simp only [List.getElem?_toArray]
theorem JW {α : Type} {a : α} {i : Nat} {l : List α} : (a :: l)[i + 1]? = l[i]? := rfl
theorem JX {α : Type} {a : α} {l : List α} : (a :: l)[0]? = some a := rfl
theorem JY {α β : Type} {f : α → β} {a : α} {l : List α} : List.map f (a :: l) = f a :: List.map f l := rfl
theorem JZ {α β : Type} {f : α → β} : List.map f [] = [] := rfl
theorem WA {α : Type} (ks : List α) : [] ++ ks = ks := rfl
theorem WB {α : Type} {a : α} {ks bs : List α} : a :: ks ++ bs = a :: (ks ++ bs) := rfl
theorem WC {α : Type} (ks : List α) : ks ++ [] = ks := by first | exact @List.append_nil .. | simp only [List.append_nil]
theorem WD {α : Type} {a : α} {ks : List α} : (a :: ks).length = ks.length + 1 := rfl
theorem WE {α : Type} : ([] : List α).length = 0 := rfl
theorem WF {α : Type} {x : α} {xs : List α} {a : α} : (x :: xs).set 0 a = a :: xs := rfl
theorem WG {α : Type} {x : α} {xs : List α} {i : Nat} {a : α} : (x :: xs).set (i + 1) a = x :: xs.set i a := rfl
theorem WH {α : Type} {a : α} {ks : List α} {i : Nat} : List.take (i + 1) (a :: ks) = a :: List.take i ks := rfl
theorem WI {α : Type} {l : List α} : List.take 0 l = [] := rfl
theorem WJ {α : Type} {i : Nat} : List.take i ([] : List α) = [] := by first | exact @List.take_nil .. | simp only [List.take_nil]
theorem WK {α : Type} {a : α} {l : List α} {i : Nat} : List.drop (i + 1) (a :: l) = List.drop i l := rfl
theorem WL {α : Type} {l : List α} : List.drop 0 l = l := rfl
theorem WM {α : Type} {i : Nat} : List.drop i ([] : List α) = [] := by first | exact @List.drop_nil .. | simp only [List.drop_nil]
theorem WN {α : Type} {ks : List α} : ks.toArray.toList = ks := rfl
theorem WO  : (false = true) = False := by first | exact @Bool.false_eq_true .. | simp only [Bool.false_eq_true]
theorem WP  : (!true) = false := rfl
theorem WQ  : (!false) = true := rfl
theorem WR (n : Nat) : (n : Int).toNat = n := rfl
theorem WS {α : Type} {x : α} {xs : List α} {d : α} : (x :: xs).getD 0 d = x := rfl
theorem WT {α : Type} [BEq α] [ReflBEq α] (a : α) : (a == a) = true := by simp only [beq_self_eq_true]
theorem WU {α : Type} {a : α} {l : List α} {f : α → Bool} : (a :: l).all f = (f a && l.all f) := rfl
theorem WV {N : Cfg → Prop} {K : Exit → Cfg → Prop} {c : Cfg} {id : Nat} : nx N K (Exit.exit id) c = K (Exit.exit id) c := rfl
theorem WW {K : Exit → Cfg → Prop} {c : Cfg} {id id' : Nat} : bx id K (Exit.exit id') c = if id' = id then K Exit.normal c else K (Exit.exit id') c := rfl
end Go.Sx
namespace Go.Proofs.YtbdacbcpniegiaaDoor.Ty
open Go Go.Sx Go.Proofs
set_option linter.unusedSimpArgs false
theorem ag119 : aggOf Tryd.prog 119 = some false := by kernel_rfl
theorem ag125 : aggOf Tryd.prog 125 = some false := by kernel_rfl
theorem ag132 : aggOf Tryd.prog 132 = some false := by kernel_rfl
theorem ag134 : aggOf Tryd.prog 134 = some true := by kernel_rfl
theorem ag136 : aggOf Tryd.prog 136 = some false := by kernel_rfl
theorem ag138 : aggOf Tryd.prog 138 = some false := by kernel_rfl
theorem ag143 : aggOf Tryd.prog 143 = some true := by kernel_rfl
theorem ag146 : aggOf Tryd.prog 146 = some false := by kernel_rfl
theorem ag168 : aggOf Tryd.prog 168 = some false := by kernel_rfl
theorem ag171 : aggOf Tryd.prog 171 = some false := by kernel_rfl
theorem ag179 : aggOf Tryd.prog 179 = some true := by kernel_rfl
theorem ag22 : aggOf Tryd.prog 22 = some false := by kernel_rfl
theorem ag220 : aggOf Tryd.prog 220 = some true := by kernel_rfl
theorem ag248 : aggOf Tryd.prog 248 = some true := by kernel_rfl
theorem ag26 : aggOf Tryd.prog 26 = some true := by kernel_rfl
theorem ag3 : aggOf Tryd.prog 3 = some false := by kernel_rfl
theorem ag30 : aggOf Tryd.prog 30 = some true := by kernel_rfl
theorem ag38 : aggOf Tryd.prog 38 = some false := by kernel_rfl
theorem ag39 : aggOf Tryd.prog 39 = some false := by kernel_rfl
theorem ag4 : aggOf Tryd.prog 4 = some false := by kernel_rfl
theorem ag41 : aggOf Tryd.prog 41 = some true := by kernel_rfl
theorem ag5 : aggOf Tryd.prog 5 = some false := by kernel_rfl
theorem ag53 : aggOf Tryd.prog 53 = some true := by kernel_rfl
theorem ag58 : aggOf Tryd.prog 58 = some false := by kernel_rfl
theorem ag59 : aggOf Tryd.prog 59 = some false := by kernel_rfl
theorem ag62 : aggOf Tryd.prog 62 = some true := by kernel_rfl
theorem ag67 : aggOf Tryd.prog 67 = some false := by kernel_rfl
theorem ag72 : aggOf Tryd.prog 72 = some true := by kernel_rfl
theorem ag74 : aggOf Tryd.prog 74 = some true := by kernel_rfl
theorem ag78 : aggOf Tryd.prog 78 = some true := by kernel_rfl
theorem ag79 : aggOf Tryd.prog 79 = some false := by kernel_rfl
theorem ag81 : aggOf Tryd.prog 81 = some true := by kernel_rfl
theorem ag83 : aggOf Tryd.prog 83 = some true := by kernel_rfl
theorem ag87 : aggOf Tryd.prog 87 = some true := by kernel_rfl
theorem ag89 : aggOf Tryd.prog 89 = some true := by kernel_rfl
theorem ag9 : aggOf Tryd.prog 9 = some false := by kernel_rfl
theorem ag96 : aggOf Tryd.prog 96 = some true := by kernel_rfl
theorem co101 : calleeOk Tryd.prog 101 = true := by kernel_rfl
theorem co102 : calleeOk Tryd.prog 102 = true := by kernel_rfl
theorem co103 : calleeOk Tryd.prog 103 = true := by kernel_rfl
theorem co104 : calleeOk Tryd.prog 104 = true := by kernel_rfl
theorem co105 : calleeOk Tryd.prog 105 = true := by kernel_rfl
theorem co106 : calleeOk Tryd.prog 106 = true := by kernel_rfl
theorem co107 : calleeOk Tryd.prog 107 = true := by kernel_rfl
theorem co108 : calleeOk Tryd.prog 108 = true := by kernel_rfl
theorem co109 : calleeOk Tryd.prog 109 = true := by kernel_rfl
theorem co110 : calleeOk Tryd.prog 110 = true := by kernel_rfl
theorem co111 : calleeOk Tryd.prog 111 = true := by kernel_rfl
theorem co112 : calleeOk Tryd.prog 112 = true := by kernel_rfl
theorem co113 : calleeOk Tryd.prog 113 = true := by kernel_rfl
theorem co114 : calleeOk Tryd.prog 114 = true := by kernel_rfl
theorem co115 : calleeOk Tryd.prog 115 = true := by kernel_rfl
theorem co116 : calleeOk Tryd.prog 116 = true := by kernel_rfl
theorem co117 : calleeOk Tryd.prog 117 = true := by kernel_rfl
theorem co118 : calleeOk Tryd.prog 118 = true := by kernel_rfl
theorem co119 : calleeOk Tryd.prog 119 = true := by kernel_rfl
theorem co120 : calleeOk Tryd.prog 120 = true := by kernel_rfl
theorem co121 : calleeOk Tryd.prog 121 = true := by kernel_rfl
theorem co122 : calleeOk Tryd.prog 122 = true := by kernel_rfl
theorem co123 : calleeOk Tryd.prog 123 = true := by kernel_rfl
theorem co124 : calleeOk Tryd.prog 124 = true := by kernel_rfl
theorem co125 : calleeOk Tryd.prog 125 = true := by kernel_rfl
theorem co126 : calleeOk Tryd.prog 126 = true := by kernel_rfl
theorem co127 : calleeOk Tryd.prog 127 = true := by kernel_rfl
theorem co128 : calleeOk Tryd.prog 128 = true := by kernel_rfl
theorem co129 : calleeOk Tryd.prog 129 = true := by kernel_rfl
theorem co130 : calleeOk Tryd.prog 130 = true := by kernel_rfl
theorem co132 : calleeOk Tryd.prog 132 = true := by kernel_rfl
theorem co133 : calleeOk Tryd.prog 133 = true := by kernel_rfl
theorem co134 : calleeOk Tryd.prog 134 = true := by kernel_rfl
theorem co135 : calleeOk Tryd.prog 135 = true := by kernel_rfl
theorem co136 : calleeOk Tryd.prog 136 = true := by kernel_rfl
theorem co137 : calleeOk Tryd.prog 137 = true := by kernel_rfl
theorem co138 : calleeOk Tryd.prog 138 = true := by kernel_rfl
theorem co139 : calleeOk Tryd.prog 139 = true := by kernel_rfl
theorem co140 : calleeOk Tryd.prog 140 = true := by kernel_rfl
theorem co141 : calleeOk Tryd.prog 141 = true := by kernel_rfl
theorem co142 : calleeOk Tryd.prog 142 = true := by kernel_rfl
theorem co143 : calleeOk Tryd.prog 143 = true := by kernel_rfl
theorem co144 : calleeOk Tryd.prog 144 = true := by kernel_rfl
theorem co146 : calleeOk Tryd.prog 146 = true := by kernel_rfl
theorem co147 : calleeOk Tryd.prog 147 = true := by kernel_rfl
theorem co148 : calleeOk Tryd.prog 148 = true := by kernel_rfl
theorem co149 : calleeOk Tryd.prog 149 = true := by kernel_rfl
theorem co152 : calleeOk Tryd.prog 152 = true := by kernel_rfl
theorem co153 : calleeOk Tryd.prog 153 = true := by kernel_rfl
theorem co154 : calleeOk Tryd.prog 154 = true := by kernel_rfl
theorem co155 : calleeOk Tryd.prog 155 = true := by kernel_rfl
theorem co156 : calleeOk Tryd.prog 156 = true := by kernel_rfl
theorem co157 : calleeOk Tryd.prog 157 = true := by kernel_rfl
theorem co158 : calleeOk Tryd.prog 158 = true := by kernel_rfl
theorem co159 : calleeOk Tryd.prog 159 = true := by kernel_rfl
theorem co160 : calleeOk Tryd.prog 160 = true := by kernel_rfl
theorem co161 : calleeOk Tryd.prog 161 = true := by kernel_rfl
theorem co162 : calleeOk Tryd.prog 162 = true := by kernel_rfl
theorem co163 : calleeOk Tryd.prog 163 = true := by kernel_rfl
theorem co164 : calleeOk Tryd.prog 164 = true := by kernel_rfl
theorem co165 : calleeOk Tryd.prog 165 = true := by kernel_rfl
theorem co166 : calleeOk Tryd.prog 166 = true := by kernel_rfl
theorem co167 : calleeOk Tryd.prog 167 = true := by kernel_rfl
theorem co168 : calleeOk Tryd.prog 168 = true := by kernel_rfl
theorem co169 : calleeOk Tryd.prog 169 = true := by kernel_rfl
theorem co17 : calleeOk Tryd.prog 17 = true := by kernel_rfl
theorem co170 : calleeOk Tryd.prog 170 = true := by kernel_rfl
theorem co171 : calleeOk Tryd.prog 171 = true := by kernel_rfl
theorem co172 : calleeOk Tryd.prog 172 = true := by kernel_rfl
theorem co173 : calleeOk Tryd.prog 173 = true := by kernel_rfl
theorem co174 : calleeOk Tryd.prog 174 = true := by kernel_rfl
theorem co175 : calleeOk Tryd.prog 175 = true := by kernel_rfl
theorem co176 : calleeOk Tryd.prog 176 = true := by kernel_rfl
theorem co177 : calleeOk Tryd.prog 177 = true := by kernel_rfl
theorem co178 : calleeOk Tryd.prog 178 = true := by kernel_rfl
theorem co179 : calleeOk Tryd.prog 179 = true := by kernel_rfl
theorem co18 : calleeOk Tryd.prog 18 = true := by kernel_rfl
theorem co181 : calleeOk Tryd.prog 181 = true := by kernel_rfl
theorem co19 : calleeOk Tryd.prog 19 = true := by kernel_rfl
theorem co20 : calleeOk Tryd.prog 20 = true := by kernel_rfl
theorem co21 : calleeOk Tryd.prog 21 = true := by kernel_rfl
theorem co216 : calleeOk Tryd.prog 216 = true := by kernel_rfl
theorem co22 : calleeOk Tryd.prog 22 = true := by kernel_rfl
theorem co23 : calleeOk Tryd.prog 23 = true := by kernel_rfl
theorem co24 : calleeOk Tryd.prog 24 = true := by kernel_rfl
theorem co25 : calleeOk Tryd.prog 25 = true := by kernel_rfl
theorem co26 : calleeOk Tryd.prog 26 = true := by kernel_rfl
theorem co27 : calleeOk Tryd.prog 27 = true := by kernel_rfl
theorem co28 : calleeOk Tryd.prog 28 = true := by kernel_rfl
theorem co29 : calleeOk Tryd.prog 29 = true := by kernel_rfl
theorem co30 : calleeOk Tryd.prog 30 = true := by kernel_rfl
theorem co31 : calleeOk Tryd.prog 31 = true := by kernel_rfl
theorem co32 : calleeOk Tryd.prog 32 = true := by kernel_rfl
theorem co33 : calleeOk Tryd.prog 33 = true := by kernel_rfl
theorem co34 : calleeOk Tryd.prog 34 = true := by kernel_rfl
theorem co35 : calleeOk Tryd.prog 35 = true := by kernel_rfl
theorem co36 : calleeOk Tryd.prog 36 = true := by kernel_rfl
theorem co37 : calleeOk Tryd.prog 37 = true := by kernel_rfl
theorem co38 : calleeOk Tryd.prog 38 = true := by kernel_rfl
theorem co39 : calleeOk Tryd.prog 39 = true := by kernel_rfl
theorem co40 : calleeOk Tryd.prog 40 = true := by kernel_rfl
theorem co41 : calleeOk Tryd.prog 41 = true := by kernel_rfl
theorem co42 : calleeOk Tryd.prog 42 = true := by kernel_rfl
theorem co43 : calleeOk Tryd.prog 43 = true := by kernel_rfl
theorem co44 : calleeOk Tryd.prog 44 = true := by kernel_rfl
theorem co45 : calleeOk Tryd.prog 45 = true := by kernel_rfl
theorem co46 : calleeOk Tryd.prog 46 = true := by kernel_rfl
theorem co47 : calleeOk Tryd.prog 47 = true := by kernel_rfl
theorem co48 : calleeOk Tryd.prog 48 = true := by kernel_rfl
theorem co49 : calleeOk Tryd.prog 49 = true := by kernel_rfl
theorem co50 : calleeOk Tryd.prog 50 = true := by kernel_rfl
theorem co51 : calleeOk Tryd.prog 51 = true := by kernel_rfl
theorem co52 : calleeOk Tryd.prog 52 = true := by kernel_rfl
theorem co53 : calleeOk Tryd.prog 53 = true := by kernel_rfl
theorem co54 : calleeOk Tryd.prog 54 = true := by kernel_rfl
theorem co55 : calleeOk Tryd.prog 55 = true := by kernel_rfl
theorem co56 : calleeOk Tryd.prog 56 = true := by kernel_rfl
theorem co57 : calleeOk Tryd.prog 57 = true := by kernel_rfl
theorem co58 : calleeOk Tryd.prog 58 = true := by kernel_rfl
theorem co59 : calleeOk Tryd.prog 59 = true := by kernel_rfl
theorem co60 : calleeOk Tryd.prog 60 = true := by kernel_rfl
theorem co61 : calleeOk Tryd.prog 61 = true := by kernel_rfl
theorem co62 : calleeOk Tryd.prog 62 = true := by kernel_rfl
theorem co63 : calleeOk Tryd.prog 63 = true := by kernel_rfl
theorem co64 : calleeOk Tryd.prog 64 = true := by kernel_rfl
theorem co65 : calleeOk Tryd.prog 65 = true := by kernel_rfl
theorem co66 : calleeOk Tryd.prog 66 = true := by kernel_rfl
theorem co67 : calleeOk Tryd.prog 67 = true := by kernel_rfl
theorem co68 : calleeOk Tryd.prog 68 = true := by kernel_rfl
theorem co69 : calleeOk Tryd.prog 69 = true := by kernel_rfl
theorem co70 : calleeOk Tryd.prog 70 = true := by kernel_rfl
theorem co71 : calleeOk Tryd.prog 71 = true := by kernel_rfl
theorem co72 : calleeOk Tryd.prog 72 = true := by kernel_rfl
theorem co73 : calleeOk Tryd.prog 73 = true := by kernel_rfl
theorem co74 : calleeOk Tryd.prog 74 = true := by kernel_rfl
theorem co75 : calleeOk Tryd.prog 75 = true := by kernel_rfl
theorem co76 : calleeOk Tryd.prog 76 = true := by kernel_rfl
theorem co77 : calleeOk Tryd.prog 77 = true := by kernel_rfl
theorem co78 : calleeOk Tryd.prog 78 = true := by kernel_rfl
theorem co79 : calleeOk Tryd.prog 79 = true := by kernel_rfl
theorem co80 : calleeOk Tryd.prog 80 = true := by kernel_rfl
theorem co81 : calleeOk Tryd.prog 81 = true := by kernel_rfl
theorem co83 : calleeOk Tryd.prog 83 = true := by kernel_rfl
theorem co84 : calleeOk Tryd.prog 84 = true := by kernel_rfl
theorem co86 : calleeOk Tryd.prog 86 = true := by kernel_rfl
theorem co87 : calleeOk Tryd.prog 87 = true := by kernel_rfl
theorem co88 : calleeOk Tryd.prog 88 = true := by kernel_rfl
theorem co89 : calleeOk Tryd.prog 89 = true := by kernel_rfl
theorem co90 : calleeOk Tryd.prog 90 = true := by kernel_rfl
theorem co91 : calleeOk Tryd.prog 91 = true := by kernel_rfl
theorem co92 : calleeOk Tryd.prog 92 = true := by kernel_rfl
theorem co94 : calleeOk Tryd.prog 94 = true := by kernel_rfl
theorem co95 : calleeOk Tryd.prog 95 = true := by kernel_rfl
theorem co96 : calleeOk Tryd.prog 96 = true := by kernel_rfl
theorem co97 : calleeOk Tryd.prog 97 = true := by kernel_rfl
theorem co98 : calleeOk Tryd.prog 98 = true := by kernel_rfl
theorem co99 : calleeOk Tryd.prog 99 = true := by kernel_rfl
theorem cx1 : calleeOk Tryd.prog 1 = false := by kernel_rfl
theorem cx131 : calleeOk Tryd.prog 131 = false := by kernel_rfl
theorem cx145 : calleeOk Tryd.prog 145 = false := by kernel_rfl
theorem cx150 : calleeOk Tryd.prog 150 = false := by kernel_rfl
theorem cx151 : calleeOk Tryd.prog 151 = false := by kernel_rfl
theorem cx180 : calleeOk Tryd.prog 180 = false := by kernel_rfl
theorem cx182 : calleeOk Tryd.prog 182 = false := by kernel_rfl
theorem ei106 : elemInf Tryd.prog 106 = some (96, 7, 64, (Value.agg #[(Value.int IntKind.i64 0), (Value.string { data := #[] }), (Value.int IntKind.u64 0), (Value.bool false), (Value.string { data := #[] }), (Value.bool false), (Value.int IntKind.u8 0)])) := by kernel_rfl
theorem ei171 : elemInf Tryd.prog 171 = some (143, 4, 40, (Value.agg #[(Value.int IntKind.i64 0), (Value.int IntKind.i64 0), (Value.int IntKind.u64 0), (Value.string { data := #[] })])) := by kernel_rfl
theorem ei176 : elemInf Tryd.prog 176 = some (179, 4, 40, (Value.agg #[(Value.int IntKind.i64 0), (Value.int IntKind.i64 0), (Value.int IntKind.u64 0), (Value.string { data := #[] })])) := by kernel_rfl
theorem ei38 : elemInf Tryd.prog 38 = some (9, 1, 16, (Value.string { data := #[] })) := by kernel_rfl
theorem ei39 : elemInf Tryd.prog 39 = some (87, 2, 24, (Value.agg #[(Value.string { data := #[] }), (Value.int IntKind.u64 0)])) := by kernel_rfl
theorem ei51 : elemInf Tryd.prog 51 = some (3, 1, 8, (Value.int IntKind.i64 0)) := by kernel_rfl
theorem ei58 : elemInf Tryd.prog 58 = some (5, 1, 1, (Value.int IntKind.u8 0)) := by kernel_rfl
theorem ei59 : elemInf Tryd.prog 59 = some (62, 5, 56, (Value.agg #[(Value.int IntKind.i64 0), (Value.string { data := #[] }), (Value.int IntKind.u64 0), (Value.int IntKind.i64 0), (Value.string { data := #[] })])) := by kernel_rfl
theorem ei67 : elemInf Tryd.prog 67 = some (74, 5, 56, (Value.agg #[(Value.int IntKind.i64 0), (Value.string { data := #[] }), (Value.int IntKind.u64 0), (Value.int IntKind.i64 0), (Value.string { data := #[] })])) := by kernel_rfl
theorem ei79 : elemInf Tryd.prog 79 = some (89, 5, 56, (Value.agg #[(Value.int IntKind.i64 0), (Value.string { data := #[] }), (Value.int IntKind.u64 0), (Value.bool false), (Value.string { data := #[] })])) := by kernel_rfl
theorem el106 : elemSz Tryd.prog 106 = some (96, 7) := by kernel_rfl
theorem el171 : elemSz Tryd.prog 171 = some (143, 4) := by kernel_rfl
theorem el176 : elemSz Tryd.prog 176 = some (179, 4) := by kernel_rfl
theorem el238 : elemSz Tryd.prog 238 = some (125, 1) := by kernel_rfl
theorem el38 : elemSz Tryd.prog 38 = some (9, 1) := by kernel_rfl
theorem el39 : elemSz Tryd.prog 39 = some (87, 2) := by kernel_rfl
theorem el46 : elemSz Tryd.prog 46 = some (53, 7) := by kernel_rfl
theorem el51 : elemSz Tryd.prog 51 = some (3, 1) := by kernel_rfl
theorem el58 : elemSz Tryd.prog 58 = some (5, 1) := by kernel_rfl
theorem el59 : elemSz Tryd.prog 59 = some (62, 5) := by kernel_rfl
theorem el67 : elemSz Tryd.prog 67 = some (74, 5) := by kernel_rfl
theorem el79 : elemSz Tryd.prog 79 = some (89, 5) := by kernel_rfl
theorem fo121_0 : fieldOff Tryd.prog 121 0 = some 0 := by kernel_rfl
theorem fo121_1 : fieldOff Tryd.prog 121 1 = some 1 := by kernel_rfl
theorem fo123_0 : fieldOff Tryd.prog 123 0 = some 0 := by kernel_rfl
theorem fo134_0 : fieldOff Tryd.prog 134 0 = some 0 := by kernel_rfl
theorem fo134_1 : fieldOff Tryd.prog 134 1 = some 1 := by kernel_rfl
theorem fo143_0 : fieldOff Tryd.prog 143 0 = some 0 := by kernel_rfl
theorem fo143_1 : fieldOff Tryd.prog 143 1 = some 1 := by kernel_rfl
theorem fo143_2 : fieldOff Tryd.prog 143 2 = some 2 := by kernel_rfl
theorem fo143_3 : fieldOff Tryd.prog 143 3 = some 3 := by kernel_rfl
theorem fo148_0 : fieldOff Tryd.prog 148 0 = some 0 := by kernel_rfl
theorem fo179_0 : fieldOff Tryd.prog 179 0 = some 0 := by kernel_rfl
theorem fo179_1 : fieldOff Tryd.prog 179 1 = some 1 := by kernel_rfl
theorem fo179_2 : fieldOff Tryd.prog 179 2 = some 2 := by kernel_rfl
theorem fo179_3 : fieldOff Tryd.prog 179 3 = some 3 := by kernel_rfl
theorem fo229_1 : fieldOff Tryd.prog 229 1 = some 1 := by kernel_rfl
theorem fo248_0 : fieldOff Tryd.prog 248 0 = some 0 := by kernel_rfl
theorem fo248_1 : fieldOff Tryd.prog 248 1 = some 1 := by kernel_rfl
theorem fo26_0 : fieldOff Tryd.prog 26 0 = some 0 := by kernel_rfl
theorem fo26_1 : fieldOff Tryd.prog 26 1 = some 1 := by kernel_rfl
theorem fo30_0 : fieldOff Tryd.prog 30 0 = some 0 := by kernel_rfl
theorem fo30_1 : fieldOff Tryd.prog 30 1 = some 2 := by kernel_rfl
theorem fo30_2 : fieldOff Tryd.prog 30 2 = some 3 := by kernel_rfl
theorem fo30_3 : fieldOff Tryd.prog 30 3 = some 4 := by kernel_rfl
theorem fo41_0 : fieldOff Tryd.prog 41 0 = some 0 := by kernel_rfl
theorem fo41_1 : fieldOff Tryd.prog 41 1 = some 1 := by kernel_rfl
theorem fo41_2 : fieldOff Tryd.prog 41 2 = some 2 := by kernel_rfl
theorem fo41_3 : fieldOff Tryd.prog 41 3 = some 3 := by kernel_rfl
theorem fo41_4 : fieldOff Tryd.prog 41 4 = some 4 := by kernel_rfl
theorem fo41_5 : fieldOff Tryd.prog 41 5 = some 5 := by kernel_rfl
theorem fo41_6 : fieldOff Tryd.prog 41 6 = some 6 := by kernel_rfl
theorem fo53_0 : fieldOff Tryd.prog 53 0 = some 0 := by kernel_rfl
theorem fo53_1 : fieldOff Tryd.prog 53 1 = some 1 := by kernel_rfl
theorem fo53_2 : fieldOff Tryd.prog 53 2 = some 2 := by kernel_rfl
theorem fo53_3 : fieldOff Tryd.prog 53 3 = some 4 := by kernel_rfl
theorem fo53_4 : fieldOff Tryd.prog 53 4 = some 5 := by kernel_rfl
theorem fo53_5 : fieldOff Tryd.prog 53 5 = some 6 := by kernel_rfl
theorem fo62_0 : fieldOff Tryd.prog 62 0 = some 0 := by kernel_rfl
theorem fo62_1 : fieldOff Tryd.prog 62 1 = some 2 := by kernel_rfl
theorem fo62_2 : fieldOff Tryd.prog 62 2 = some 3 := by kernel_rfl
theorem fo62_3 : fieldOff Tryd.prog 62 3 = some 4 := by kernel_rfl
theorem fo69_0 : fieldOff Tryd.prog 69 0 = some 0 := by kernel_rfl
theorem fo72_0 : fieldOff Tryd.prog 72 0 = some 0 := by kernel_rfl
theorem fo72_1 : fieldOff Tryd.prog 72 1 = some 2 := by kernel_rfl
theorem fo72_2 : fieldOff Tryd.prog 72 2 = some 3 := by kernel_rfl
theorem fo72_3 : fieldOff Tryd.prog 72 3 = some 4 := by kernel_rfl
theorem fo74_0 : fieldOff Tryd.prog 74 0 = some 0 := by kernel_rfl
theorem fo74_1 : fieldOff Tryd.prog 74 1 = some 2 := by kernel_rfl
theorem fo74_2 : fieldOff Tryd.prog 74 2 = some 3 := by kernel_rfl
theorem fo74_3 : fieldOff Tryd.prog 74 3 = some 4 := by kernel_rfl
theorem fo78_0 : fieldOff Tryd.prog 78 0 = some 0 := by kernel_rfl
theorem fo78_1 : fieldOff Tryd.prog 78 1 = some 7 := by kernel_rfl
theorem fo78_2 : fieldOff Tryd.prog 78 2 = some 8 := by kernel_rfl
theorem fo78_3 : fieldOff Tryd.prog 78 3 = some 9 := by kernel_rfl
theorem fo81_0 : fieldOff Tryd.prog 81 0 = some 0 := by kernel_rfl
theorem fo81_1 : fieldOff Tryd.prog 81 1 = some 1 := by kernel_rfl
theorem fo81_2 : fieldOff Tryd.prog 81 2 = some 2 := by kernel_rfl
theorem fo81_3 : fieldOff Tryd.prog 81 3 = some 3 := by kernel_rfl
theorem fo81_4 : fieldOff Tryd.prog 81 4 = some 4 := by kernel_rfl
theorem fo81_5 : fieldOff Tryd.prog 81 5 = some 5 := by kernel_rfl
theorem fo81_6 : fieldOff Tryd.prog 81 6 = some 6 := by kernel_rfl
theorem fo83_0 : fieldOff Tryd.prog 83 0 = some 0 := by kernel_rfl
theorem fo83_1 : fieldOff Tryd.prog 83 1 = some 7 := by kernel_rfl
theorem fo83_2 : fieldOff Tryd.prog 83 2 = some 8 := by kernel_rfl
theorem fo83_3 : fieldOff Tryd.prog 83 3 = some 9 := by kernel_rfl
theorem fo87_0 : fieldOff Tryd.prog 87 0 = some 0 := by kernel_rfl
theorem fo87_1 : fieldOff Tryd.prog 87 1 = some 1 := by kernel_rfl
theorem fo89_0 : fieldOff Tryd.prog 89 0 = some 0 := by kernel_rfl
theorem fo89_1 : fieldOff Tryd.prog 89 1 = some 2 := by kernel_rfl
theorem fo89_2 : fieldOff Tryd.prog 89 2 = some 3 := by kernel_rfl
theorem fo89_3 : fieldOff Tryd.prog 89 3 = some 4 := by kernel_rfl
theorem fo96_0 : fieldOff Tryd.prog 96 0 = some 0 := by kernel_rfl
theorem fo96_1 : fieldOff Tryd.prog 96 1 = some 5 := by kernel_rfl
theorem fo96_2 : fieldOff Tryd.prog 96 2 = some 6 := by kernel_rfl
theorem fs134 : fieldsOf Tryd.prog 134 = some [(0, 1), (1, 1)] := by kernel_rfl
theorem fs143 : fieldsOf Tryd.prog 143 = some [(0, 1), (1, 1), (2, 1), (3, 1)] := by kernel_rfl
theorem fs148 : fieldsOf Tryd.prog 148 = some [(0, 1)] := by kernel_rfl
theorem fs179 : fieldsOf Tryd.prog 179 = some [(0, 1), (1, 1), (2, 1), (3, 1)] := by kernel_rfl
theorem fs229 : fieldsOf Tryd.prog 229 = some [(0, 1), (1, 1)] := by kernel_rfl
theorem fs248 : fieldsOf Tryd.prog 248 = some [(0, 1), (1, 1)] := by kernel_rfl
theorem fs26 : fieldsOf Tryd.prog 26 = some [(0, 1), (1, 1)] := by kernel_rfl
theorem fs277 : fieldsOf Tryd.prog 277 = some [(0, 1)] := by kernel_rfl
theorem fs30 : fieldsOf Tryd.prog 30 = some [(0, 2), (2, 1), (3, 1), (4, 1)] := by kernel_rfl
theorem fs41 : fieldsOf Tryd.prog 41 = some [(0, 1), (1, 1), (2, 1), (3, 1), (4, 1), (5, 1), (6, 1)] := by kernel_rfl
theorem fs62 : fieldsOf Tryd.prog 62 = some [(0, 2), (2, 1), (3, 1), (4, 1)] := by kernel_rfl
theorem fs69 : fieldsOf Tryd.prog 69 = some [(0, 1)] := by kernel_rfl
theorem fs72 : fieldsOf Tryd.prog 72 = some [(0, 2), (2, 1), (3, 1), (4, 1)] := by kernel_rfl
theorem fs74 : fieldsOf Tryd.prog 74 = some [(0, 2), (2, 1), (3, 1), (4, 1)] := by kernel_rfl
theorem fs81 : fieldsOf Tryd.prog 81 = some [(0, 1), (1, 1), (2, 1), (3, 1), (4, 1), (5, 1), (6, 1)] := by kernel_rfl
theorem fs87 : fieldsOf Tryd.prog 87 = some [(0, 1), (1, 1)] := by kernel_rfl
theorem fs89 : fieldsOf Tryd.prog 89 = some [(0, 2), (2, 1), (3, 1), (4, 1)] := by kernel_rfl
theorem ib103 : isBytesT Tryd.prog 103 = false := by kernel_rfl
theorem ib119 : isBytesT Tryd.prog 119 = false := by kernel_rfl
theorem ib164 : isBytesT Tryd.prog 164 = false := by kernel_rfl
theorem ib21 : isBytesT Tryd.prog 21 = false := by kernel_rfl
theorem ib211 : isBytesT Tryd.prog 211 = false := by kernel_rfl
theorem ib22 : isBytesT Tryd.prog 22 = false := by kernel_rfl
theorem ib3 : isBytesT Tryd.prog 3 = false := by kernel_rfl
theorem ib5 : isBytesT Tryd.prog 5 = false := by kernel_rfl
theorem ib58 : isBytesT Tryd.prog 58 = true := by kernel_rfl
theorem ib9 : isBytesT Tryd.prog 9 = false := by kernel_rfl
theorem is106 : isStrT Tryd.prog 106 = false := by kernel_rfl
theorem is119 : isStrT Tryd.prog 119 = false := by kernel_rfl
theorem is164 : isStrT Tryd.prog 164 = false := by kernel_rfl
theorem is171 : isStrT Tryd.prog 171 = false := by kernel_rfl
theorem is176 : isStrT Tryd.prog 176 = false := by kernel_rfl
theorem is21 : isStrT Tryd.prog 21 = false := by kernel_rfl
theorem is211 : isStrT Tryd.prog 211 = false := by kernel_rfl
theorem is22 : isStrT Tryd.prog 22 = false := by kernel_rfl
theorem is3 : isStrT Tryd.prog 3 = false := by kernel_rfl
theorem is38 : isStrT Tryd.prog 38 = false := by kernel_rfl
theorem is39 : isStrT Tryd.prog 39 = false := by kernel_rfl
theorem is5 : isStrT Tryd.prog 5 = false := by kernel_rfl
theorem is58 : isStrT Tryd.prog 58 = false := by kernel_rfl
theorem is59 : isStrT Tryd.prog 59 = false := by kernel_rfl
theorem is67 : isStrT Tryd.prog 67 = false := by kernel_rfl
theorem is79 : isStrT Tryd.prog 79 = false := by kernel_rfl
theorem is9 : isStrT Tryd.prog 9 = true := by kernel_rfl
theorem mi139 : mapInf Tryd.prog 139 = some ((TypeDesc.int IntKind.i64), (Value.agg #[(Value.int IntKind.i64 0), Value.nilFunc])) := by kernel_rfl
theorem mi174 : mapInf Tryd.prog 174 = some ((TypeDesc.int IntKind.i64), (Value.int IntKind.i64 0)) := by kernel_rfl
theorem mi175 : mapInf Tryd.prog 175 = some ((TypeDesc.int IntKind.i64), (Value.agg #[(Value.int IntKind.i64 0), (Value.int IntKind.i64 0), (Value.int IntKind.u64 0), (Value.string { data := #[] })])) := by kernel_rfl
theorem sz119 : szOf Tryd.prog 119 = some 1 := by kernel_rfl
theorem sz125 : szOf Tryd.prog 125 = some 1 := by kernel_rfl
theorem sz132 : szOf Tryd.prog 132 = some 1 := by kernel_rfl
theorem sz134 : szOf Tryd.prog 134 = some 2 := by kernel_rfl
theorem sz136 : szOf Tryd.prog 136 = some 1 := by kernel_rfl
theorem sz138 : szOf Tryd.prog 138 = some 1 := by kernel_rfl
theorem sz143 : szOf Tryd.prog 143 = some 4 := by kernel_rfl
theorem sz146 : szOf Tryd.prog 146 = some 1 := by kernel_rfl
theorem sz168 : szOf Tryd.prog 168 = some 1 := by kernel_rfl
theorem sz171 : szOf Tryd.prog 171 = some 1 := by kernel_rfl
theorem sz179 : szOf Tryd.prog 179 = some 4 := by kernel_rfl
theorem sz22 : szOf Tryd.prog 22 = some 1 := by kernel_rfl
theorem sz220 : szOf Tryd.prog 220 = some 256 := by kernel_rfl
theorem sz248 : szOf Tryd.prog 248 = some 2 := by kernel_rfl
theorem sz249 : szOf Tryd.prog 249 = some 32 := by kernel_rfl
theorem sz26 : szOf Tryd.prog 26 = some 2 := by kernel_rfl
theorem sz3 : szOf Tryd.prog 3 = some 1 := by kernel_rfl
theorem sz30 : szOf Tryd.prog 30 = some 5 := by kernel_rfl
theorem sz38 : szOf Tryd.prog 38 = some 1 := by kernel_rfl
theorem sz39 : szOf Tryd.prog 39 = some 1 := by kernel_rfl
theorem sz4 : szOf Tryd.prog 4 = some 1 := by kernel_rfl
theorem sz41 : szOf Tryd.prog 41 = some 7 := by kernel_rfl
theorem sz5 : szOf Tryd.prog 5 = some 1 := by kernel_rfl
theorem sz53 : szOf Tryd.prog 53 = some 7 := by kernel_rfl
theorem sz58 : szOf Tryd.prog 58 = some 1 := by kernel_rfl
theorem sz59 : szOf Tryd.prog 59 = some 1 := by kernel_rfl
theorem sz62 : szOf Tryd.prog 62 = some 5 := by kernel_rfl
theorem sz67 : szOf Tryd.prog 67 = some 1 := by kernel_rfl
theorem sz72 : szOf Tryd.prog 72 = some 5 := by kernel_rfl
theorem sz74 : szOf Tryd.prog 74 = some 5 := by kernel_rfl
theorem sz78 : szOf Tryd.prog 78 = some 10 := by kernel_rfl
theorem sz79 : szOf Tryd.prog 79 = some 1 := by kernel_rfl
theorem sz81 : szOf Tryd.prog 81 = some 7 := by kernel_rfl
theorem sz83 : szOf Tryd.prog 83 = some 10 := by kernel_rfl
theorem sz87 : szOf Tryd.prog 87 = some 2 := by kernel_rfl
theorem sz89 : szOf Tryd.prog 89 = some 5 := by kernel_rfl
theorem sz9 : szOf Tryd.prog 9 = some 1 := by kernel_rfl
theorem sz96 : szOf Tryd.prog 96 = some 7 := by kernel_rfl
theorem ze123 : zeroCells Tryd.prog 123 = some [(Value.pointer none), (Value.slice none 0 0)] := by kernel_rfl
theorem ze134 : zeroCells Tryd.prog 134 = some [(Value.int IntKind.i64 0), Value.nilFunc] := by kernel_rfl
theorem ze143 : zeroCells Tryd.prog 143 = some [(Value.int IntKind.i64 0), (Value.int IntKind.i64 0), (Value.int IntKind.u64 0), (Value.string { data := #[] })] := by kernel_rfl
theorem ze148 : zeroCells Tryd.prog 148 = some [(Value.slice none 0 0)] := by kernel_rfl
theorem ze171 : zeroCells Tryd.prog 171 = some [(Value.slice none 0 0)] := by kernel_rfl
theorem ze179 : zeroCells Tryd.prog 179 = some [(Value.int IntKind.i64 0), (Value.int IntKind.i64 0), (Value.int IntKind.u64 0), (Value.string { data := #[] })] := by kernel_rfl
theorem ze22 : zeroCells Tryd.prog 22 = some [(Value.int IntKind.u64 0)] := by kernel_rfl
theorem ze229 : zeroCells Tryd.prog 229 = some [(Value.int IntKind.i64 0), Value.nilIface] := by kernel_rfl
theorem ze248 : zeroCells Tryd.prog 248 = some [(Value.int IntKind.u8 0), (Value.int IntKind.u8 0)] := by kernel_rfl
theorem ze26 : zeroCells Tryd.prog 26 = some [(Value.int IntKind.i64 0), (Value.string { data := #[] })] := by kernel_rfl
theorem ze277 : zeroCells Tryd.prog 277 = some [(Value.string { data := #[] })] := by kernel_rfl
theorem ze3 : zeroCells Tryd.prog 3 = some [(Value.int IntKind.i64 0)] := by kernel_rfl
theorem ze30 : zeroCells Tryd.prog 30 = some [(Value.int IntKind.i64 0), (Value.string { data := #[] }), (Value.int IntKind.u64 0), (Value.bool false), (Value.string { data := #[] })] := by kernel_rfl
theorem ze4 : zeroCells Tryd.prog 4 = some [(Value.bool false)] := by kernel_rfl
theorem ze41 : zeroCells Tryd.prog 41 = some [(Value.int IntKind.i64 0), (Value.bool false), (Value.int IntKind.u64 0), (Value.slice none 0 0), (Value.slice none 0 0), (Value.slice none 0 0), (Value.string { data := #[] })] := by kernel_rfl
theorem ze5 : zeroCells Tryd.prog 5 = some [(Value.int IntKind.u8 0)] := by kernel_rfl
theorem ze53 : zeroCells Tryd.prog 53 = some [(Value.int IntKind.u8 0), (Value.int IntKind.u8 0), (Value.int IntKind.i64 0), (Value.string { data := #[] }), (Value.int IntKind.u64 0), (Value.bool false), (Value.string { data := #[] })] := by kernel_rfl
theorem ze62 : zeroCells Tryd.prog 62 = some [(Value.int IntKind.i64 0), (Value.string { data := #[] }), (Value.int IntKind.u64 0), (Value.int IntKind.i64 0), (Value.string { data := #[] })] := by kernel_rfl
theorem ze64 : zeroCells Tryd.prog 64 = some [(Value.int IntKind.u64 0), (Value.int IntKind.u64 0), (Value.int IntKind.u64 0)] := by kernel_rfl
theorem ze69 : zeroCells Tryd.prog 69 = some [(Value.slice none 0 0)] := by kernel_rfl
theorem ze72 : zeroCells Tryd.prog 72 = some [(Value.int IntKind.i64 0), (Value.string { data := #[] }), (Value.int IntKind.u64 0), (Value.bool false), (Value.string { data := #[] })] := by kernel_rfl
theorem ze74 : zeroCells Tryd.prog 74 = some [(Value.int IntKind.i64 0), (Value.string { data := #[] }), (Value.int IntKind.u64 0), (Value.int IntKind.i64 0), (Value.string { data := #[] })] := by kernel_rfl
theorem ze81 : zeroCells Tryd.prog 81 = some [(Value.int IntKind.i64 0), (Value.bool false), (Value.bool false), (Value.int IntKind.u64 0), (Value.int IntKind.u64 0), (Value.slice none 0 0), (Value.slice none 0 0)] := by kernel_rfl
theorem ze87 : zeroCells Tryd.prog 87 = some [(Value.string { data := #[] }), (Value.int IntKind.u64 0)] := by kernel_rfl
theorem ze89 : zeroCells Tryd.prog 89 = some [(Value.int IntKind.i64 0), (Value.string { data := #[] }), (Value.int IntKind.u64 0), (Value.bool false), (Value.string { data := #[] })] := by kernel_rfl
theorem ze9 : zeroCells Tryd.prog 9 = some [(Value.string { data := #[] })] := by kernel_rfl
theorem eqS26 (x0 y0 : Int) (x1 y1 : List UInt8) : StrEq Tryd.prog 26 [Value.int .i64 x0, Value.string (B x1)].toArray [Value.int .i64 y0, Value.string (B y1)].toArray (x0 == y0 && x1 == y1) := by
  refine ⟨by kernel_rfl, fun w => ?_⟩
  have hS26 : Tryd.prog.underlying 26 = some (.struct (Tryd.prog.fieldsOf 26)) := by kernel_rfl
  have hp26 : Tryd.prog.stoodInHeld 26 = false := by kernel_rfl
  rw [show (10000 : Nat) = 9999 + 1 from rfl, run_equalIn_agg w 9999 26 _ _ hS26 hp26]
  skip
  simp only [Program.fieldsOf, Tryd.underlying26]
  simp only [Program.fieldsOf, Tryd.underlying26] at hS26
  have u3 := Tryd.underlying3
  have a3 := Tryd.isAgg3
  have z3 := Tryd.sizeOf3
  have u9 := Tryd.underlying9
  have a9 := Tryd.isAgg9
  have z9 := Tryd.sizeOf9
  go_simp
  by_cases h0 : x0 = y0 <;> by_cases h1 : x1 = y1 <;> simp [h0, h1, B_toList, B_inj]
theorem eqS30 (x0 y0 : Int) (x1 y1 : List UInt8) (x2 y2 : Int) (x3 y3 : Bool) (x4 y4 : List UInt8) : StrEq Tryd.prog 30 [Value.int .i64 x0, Value.string (B x1), Value.int .u64 x2, Value.bool x3, Value.string (B x4)].toArray [Value.int .i64 y0, Value.string (B y1), Value.int .u64 y2, Value.bool y3, Value.string (B y4)].toArray (x0 == y0 && (x1 == y1 && (x2 == y2 && (x3 == y3 && x4 == y4)))) := by
  refine ⟨by kernel_rfl, fun w => ?_⟩
  have hS30 : Tryd.prog.underlying 30 = some (.struct (Tryd.prog.fieldsOf 30)) := by kernel_rfl
  have hp30 : Tryd.prog.stoodInHeld 30 = false := by kernel_rfl
  have hS26 : Tryd.prog.underlying 26 = some (.struct (Tryd.prog.fieldsOf 26)) := by kernel_rfl
  have hp26 : Tryd.prog.stoodInHeld 26 = false := by kernel_rfl
  rw [show (10000 : Nat) = 9999 + 1 from rfl, run_equalIn_agg w 9999 30 _ _ hS30 hp30]
  rw [show (9999 : Nat) = 9998 + 1 from rfl]
  simp only [Program.fieldsOf, Tryd.underlying30, Tryd.underlying26]
  simp only [Program.fieldsOf, Tryd.underlying30, Tryd.underlying26] at hS30 hS26
  have u3 := Tryd.underlying3
  have a3 := Tryd.isAgg3
  have z3 := Tryd.sizeOf3
  have u4 := Tryd.underlying4
  have a4 := Tryd.isAgg4
  have z4 := Tryd.sizeOf4
  have u9 := Tryd.underlying9
  have a9 := Tryd.isAgg9
  have z9 := Tryd.sizeOf9
  have u22 := Tryd.underlying22
  have a22 := Tryd.isAgg22
  have z22 := Tryd.sizeOf22
  have u26 := Tryd.underlying26
  have a26 := Tryd.isAgg26
  have z26 := Tryd.sizeOf26
  go_simp
  by_cases h0 : x0 = y0 <;> by_cases h1 : x1 = y1 <;> by_cases h2 : x2 = y2 <;> by_cases h3 : x3 = y3 <;> by_cases h4 : x4 = y4 <;> simp [h0, h1, h2, h3, h4, B_toList, B_inj]
theorem eqS62 (x0 y0 : Int) (x1 y1 : List UInt8) (x2 y2 : Int) (x3 y3 : Int) (x4 y4 : List UInt8) : StrEq Tryd.prog 62 [Value.int .i64 x0, Value.string (B x1), Value.int .u64 x2, Value.int .i64 x3, Value.string (B x4)].toArray [Value.int .i64 y0, Value.string (B y1), Value.int .u64 y2, Value.int .i64 y3, Value.string (B y4)].toArray (x0 == y0 && (x1 == y1 && (x2 == y2 && (x3 == y3 && x4 == y4)))) := by
  refine ⟨by kernel_rfl, fun w => ?_⟩
  have hS62 : Tryd.prog.underlying 62 = some (.struct (Tryd.prog.fieldsOf 62)) := by kernel_rfl
  have hp62 : Tryd.prog.stoodInHeld 62 = false := by kernel_rfl
  have hS26 : Tryd.prog.underlying 26 = some (.struct (Tryd.prog.fieldsOf 26)) := by kernel_rfl
  have hp26 : Tryd.prog.stoodInHeld 26 = false := by kernel_rfl
  rw [show (10000 : Nat) = 9999 + 1 from rfl, run_equalIn_agg w 9999 62 _ _ hS62 hp62]
  rw [show (9999 : Nat) = 9998 + 1 from rfl]
  simp only [Program.fieldsOf, Tryd.underlying62, Tryd.underlying26]
  simp only [Program.fieldsOf, Tryd.underlying62, Tryd.underlying26] at hS62 hS26
  have u3 := Tryd.underlying3
  have a3 := Tryd.isAgg3
  have z3 := Tryd.sizeOf3
  have u9 := Tryd.underlying9
  have a9 := Tryd.isAgg9
  have z9 := Tryd.sizeOf9
  have u22 := Tryd.underlying22
  have a22 := Tryd.isAgg22
  have z22 := Tryd.sizeOf22
  have u26 := Tryd.underlying26
  have a26 := Tryd.isAgg26
  have z26 := Tryd.sizeOf26
  go_simp
  by_cases h0 : x0 = y0 <;> by_cases h1 : x1 = y1 <;> by_cases h2 : x2 = y2 <;> by_cases h3 : x3 = y3 <;> by_cases h4 : x4 = y4 <;> simp [h0, h1, h2, h3, h4, B_toList, B_inj]
theorem eqS89 (x0 y0 : Int) (x1 y1 : List UInt8) (x2 y2 : Int) (x3 y3 : Bool) (x4 y4 : List UInt8) : StrEq Tryd.prog 89 [Value.int .i64 x0, Value.string (B x1), Value.int .u64 x2, Value.bool x3, Value.string (B x4)].toArray [Value.int .i64 y0, Value.string (B y1), Value.int .u64 y2, Value.bool y3, Value.string (B y4)].toArray (x0 == y0 && (x1 == y1 && (x2 == y2 && (x3 == y3 && x4 == y4)))) := by
  refine ⟨by kernel_rfl, fun w => ?_⟩
  have hS89 : Tryd.prog.underlying 89 = some (.struct (Tryd.prog.fieldsOf 89)) := by kernel_rfl
  have hp89 : Tryd.prog.stoodInHeld 89 = false := by kernel_rfl
  have hS26 : Tryd.prog.underlying 26 = some (.struct (Tryd.prog.fieldsOf 26)) := by kernel_rfl
  have hp26 : Tryd.prog.stoodInHeld 26 = false := by kernel_rfl
  rw [show (10000 : Nat) = 9999 + 1 from rfl, run_equalIn_agg w 9999 89 _ _ hS89 hp89]
  rw [show (9999 : Nat) = 9998 + 1 from rfl]
  simp only [Program.fieldsOf, Tryd.underlying89, Tryd.underlying26]
  simp only [Program.fieldsOf, Tryd.underlying89, Tryd.underlying26] at hS89 hS26
  have u3 := Tryd.underlying3
  have a3 := Tryd.isAgg3
  have z3 := Tryd.sizeOf3
  have u4 := Tryd.underlying4
  have a4 := Tryd.isAgg4
  have z4 := Tryd.sizeOf4
  have u9 := Tryd.underlying9
  have a9 := Tryd.isAgg9
  have z9 := Tryd.sizeOf9
  have u22 := Tryd.underlying22
  have a22 := Tryd.isAgg22
  have z22 := Tryd.sizeOf22
  have u26 := Tryd.underlying26
  have a26 := Tryd.isAgg26
  have z26 := Tryd.sizeOf26
  go_simp
  by_cases h0 : x0 = y0 <;> by_cases h1 : x1 = y1 <;> by_cases h2 : x2 = y2 <;> by_cases h3 : x3 = y3 <;> by_cases h4 : x4 = y4 <;> simp [h0, h1, h2, h3, h4, B_toList, B_inj]
end Go.Proofs.YtbdacbcpniegiaaDoor.Ty
set_option linter.unusedVariables false
namespace NW
abbrev Bytes := List UInt8
def varint (n : Nat) : Bytes :=
  if h : n < 128 then [UInt8.ofNat n] else UInt8.ofNat (n % 128 + 128) :: varint (n / 128)
termination_by n
decreasing_by omega
def readAt : Nat → Bytes → Option (Nat × Nat)
  | _, [] => none
  | k, b :: t =>
    if k ≥ 10 then none
    else if k = 9 ∧ b.toNat > 1 then none
    else if b.toNat < 128 then some (b.toNat * 2 ^ (7 * k), k + 1)
    else (readAt (k + 1) t).map fun r => (b.toNat % 128 * 2 ^ (7 * k) + r.1, r.2)
def readVar (s : Bytes) : Option (Nat × Nat) := readAt 0 s
structure Fld where
  num : Nat
  kind : Nat
  n : Nat
  s : Bytes
deriving DecidableEq
def body (kind : Nat) (s : Bytes) : Option (Nat × Nat × Bytes) :=
  if kind = 0 then (readVar s).map fun r => (r.1, 0, s.drop r.2)
  else if kind = 1 then some (0, 8, s)
  else if kind = 2 then (readVar s).map fun r => (0, r.1, s.drop r.2)
  else if kind = 5 then some (0, 4, s)
  else none
def takeF (s : Bytes) : Option (Fld × Bytes) :=
  match readVar s with
  | none => none
  | some (tag, z) =>
    if tag < 8 ∨ 2 ^ 32 ≤ tag then none
    else match body (tag % 8) (s.drop z) with
      | none => none
      | some (n, size, r) => if size ≤ r.length then some (⟨tag / 8, tag % 8, n, r.take size⟩, r.drop size) else none
theorem readAt_bd (s : Bytes) : ∀ k r, readAt k s = some r → k < r.2 ∧ r.2 ≤ k + s.length ∧ r.2 ≤ 10 := by
  induction s with
  | nil => intro k r h; simp [readAt] at h
  | cons b t ih =>
    intro k r h
    simp only [readAt] at h
    split at h
    · simp at h
    · split at h
      · simp at h
      · split at h
        · simp at h; subst h; simp; omega
        · cases hr : readAt (k + 1) t with
          | none => simp [hr] at h
          | some q =>
            simp [hr] at h; subst h
            have := ih _ _ hr
            simp; omega
theorem readVar_bd {s : Bytes} {r} (h : readVar s = some r) : 1 ≤ r.2 ∧ r.2 ≤ s.length ∧ r.2 ≤ 10 := by
  have := readAt_bd s 0 r h
  omega
theorem readAt_lt (s : Bytes) : ∀ k r, k ≤ 10 → readAt k s = some r → r.1 + 2 ^ (7 * k) ≤ 2 ^ 64 + 0 ∨ r.1 < 2 ^ 64 ∧ 2 ^ (7 * k) ∣ r.1 := by
  induction s with
  | nil => intro k r _ h; simp [readAt] at h
  | cons b t ih =>
    intro k r hk h
    simp only [readAt] at h
    split at h
    · simp at h
    · rename_i h10
      split at h
      · simp at h
      · rename_i h9
        have hb := b.toNat_lt
        split at h
        · rename_i hlt
          simp at h; subst h
          right
          refine ⟨?_, Nat.dvd_mul_left _ _⟩
          simp only
          by_cases e : k = 9
          · subst e
            have : b.toNat ≤ 1 := by omega
            calc b.toNat * 2 ^ 63 ≤ 1 * 2 ^ 63 := Nat.mul_le_mul_right _ this
              _ < 2 ^ 64 := by decide
          · have h1 : 7 * k ≤ 56 := by omega
            have h2 : 2 ^ (7 * k) ≤ 2 ^ 56 := Nat.pow_le_pow_right (by decide) h1
            calc b.toNat * 2 ^ (7 * k) ≤ 128 * 2 ^ 56 := Nat.mul_le_mul (by omega) h2
              _ < 2 ^ 64 := by decide
        · cases hr : readAt (k + 1) t with
          | none => simp [hr] at h
          | some q =>
            simp [hr] at h; subst h
            have hk9 : k ≠ 9 := by
              intro e; apply h9; subst e; omega
            have h8 : k ≤ 8 := by omega
            have hpow : 2 ^ (7 * (k + 1)) = 128 * 2 ^ (7 * k) := by
              rw [show 7 * (k + 1) = 7 * k + 7 by omega, Nat.pow_add]; omega
            have := ih _ _ (by omega) hr
            rcases this with this | ⟨h1, h2⟩
            · left
              simp only
              rw [hpow] at this
              have h3 : b.toNat % 128 * 2 ^ (7 * k) + 2 ^ (7 * k) ≤ 128 * 2 ^ (7 * k) := by
                rw [← Nat.succ_mul]; exact Nat.mul_le_mul_right _ (by omega)
              omega
            · left
              simp only
              rw [hpow] at h2
              obtain ⟨c, hc⟩ := h2
              have h3 : b.toNat % 128 * 2 ^ (7 * k) + 2 ^ (7 * k) ≤ 128 * 2 ^ (7 * k) := by
                rw [← Nat.succ_mul]; exact Nat.mul_le_mul_right _ (by omega)
              have h64 : ∃ e, 2 ^ 64 = 2 ^ (7 * (k + 1)) * e := ⟨2 ^ (64 - 7 * (k + 1)), by rw [← Nat.pow_add]; congr 1; omega⟩
              obtain ⟨e, he⟩ := h64
              rw [hpow] at he
              rw [he] at h1
              have hce : c < e := by
                rw [hc] at h1
                exact Nat.lt_of_mul_lt_mul_left h1
              have h5 : 128 * 2 ^ (7 * k) * (c + 1) ≤ 128 * 2 ^ (7 * k) * e := Nat.mul_le_mul_left _ (by omega)
              rw [Nat.mul_add] at h5
              rw [hc, he]
              omega
theorem readVar_lt {s : Bytes} {r} (h : readVar s = some r) : r.1 < 2 ^ 64 := by
  rcases readAt_lt s 0 r (by omega) h with h | h
  · simp at h; omega
  · exact h.1
theorem readAt_append (p q : Bytes) : ∀ k r, readAt k p = some r → readAt k (p ++ q) = some r := by
  induction p with
  | nil => intro k r h; simp [readAt] at h
  | cons b t ih =>
    intro k r h
    simp only [readAt, List.cons_append] at h ⊢
    split
    · rename_i h1; rw [if_pos h1] at h; simp at h
    · rename_i h1; rw [if_neg h1] at h
      split
      · rename_i h2; rw [if_pos h2] at h; simp at h
      · rename_i h2; rw [if_neg h2] at h
        split
        · rename_i h3; rw [if_pos h3] at h; exact h
        · rename_i h3; rw [if_neg h3] at h
          cases hr : readAt (k + 1) t with
          | none => simp [hr] at h
          | some x => rw [hr] at h; rw [ih _ _ hr]; exact h
theorem readVar_append {p q : Bytes} {r} (h : readVar p = some r) : readVar (p ++ q) = some r := readAt_append p q 0 r h
theorem body_append {k : Nat} {p q : Bytes} {n z r} (h : body k p = some (n, z, r)) : body k (p ++ q) = some (n, z, r ++ q) := by
  simp only [body] at h ⊢
  split at h
  · rename_i h0; rw [if_pos h0]
    cases hr : readVar p with
    | none => simp [hr] at h
    | some x =>
      rw [readVar_append hr]
      simp [hr] at h ⊢
      obtain ⟨rfl, rfl, rfl⟩ := h
      have := readVar_bd hr
      exact ⟨rfl, rfl, by rw [List.drop_append_of_le_length (by omega)]⟩
  · rename_i h0; rw [if_neg h0]
    split at h
    · rename_i h1; rw [if_pos h1]; simp at h ⊢; obtain ⟨rfl, rfl, rfl⟩ := h; exact ⟨rfl, rfl, rfl⟩
    · rename_i h1; rw [if_neg h1]
      split at h
      · rename_i h2; rw [if_pos h2]
        cases hr : readVar p with
        | none => simp [hr] at h
        | some x =>
          rw [readVar_append hr]
          simp [hr] at h ⊢
          obtain ⟨rfl, rfl, rfl⟩ := h
          have := readVar_bd hr
          exact ⟨rfl, rfl, by rw [List.drop_append_of_le_length (by omega)]⟩
      · rename_i h2; rw [if_neg h2]
        split at h
        · rename_i h3; rw [if_pos h3]; simp at h ⊢; obtain ⟨rfl, rfl, rfl⟩ := h; exact ⟨rfl, rfl, rfl⟩
        · simp at h
theorem body_len {k : Nat} {p : Bytes} {n z r} (h : body k p = some (n, z, r)) : r.length ≤ p.length := by
  simp only [body] at h
  split at h
  · cases hr : readVar p with
    | none => simp [hr] at h
    | some x => simp [hr] at h; obtain ⟨_, _, rfl⟩ := h; simp
  · split at h
    · simp at h; obtain ⟨_, _, rfl⟩ := h; simp
    · split at h
      · cases hr : readVar p with
        | none => simp [hr] at h
        | some x => simp [hr] at h; obtain ⟨_, _, rfl⟩ := h; simp
      · split at h
        · simp at h; obtain ⟨_, _, rfl⟩ := h; simp
        · simp at h
theorem takeF_append {p q : Bytes} {f r} (h : takeF p = some (f, r)) : takeF (p ++ q) = some (f, r ++ q) := by
  simp only [takeF] at h ⊢
  cases hr : readVar p with
  | none => simp [hr] at h
  | some x =>
    obtain ⟨tag, z⟩ := x
    rw [readVar_append hr]
    simp only [hr] at h ⊢
    split at h
    · simp at h
    · rename_i ht
      rw [if_neg ht]
      have hz := (readVar_bd hr).2.1
      rw [List.drop_append_of_le_length (by simpa using hz)]
      cases hb : body (tag % 8) (p.drop z) with
      | none => simp [hb] at h
      | some y =>
        obtain ⟨n, size, s1⟩ := y
        rw [body_append hb]
        simp only [hb] at h ⊢
        split at h
        · rename_i hs
          rw [if_pos (by simp; omega)]
          simp at h ⊢
          obtain ⟨rfl, rfl⟩ := h
          rw [List.take_append_of_le_length hs, List.drop_append_of_le_length hs]
          exact ⟨rfl, rfl⟩
        · simp at h
theorem takeF_len {p : Bytes} {f r} (h : takeF p = some (f, r)) : r.length < p.length := by
  simp only [takeF] at h
  cases hr : readVar p with
  | none => simp [hr] at h
  | some x =>
    obtain ⟨tag, z⟩ := x
    simp only [hr] at h
    have hz := readVar_bd hr
    simp only at hz
    split at h
    · simp at h
    · cases hb : body (tag % 8) (p.drop z) with
      | none => simp [hb] at h
      | some y =>
        obtain ⟨n, size, s1⟩ := y
        simp only [hb] at h
        have := body_len hb
        simp only [List.length_drop] at this
        split at h
        · simp at h; obtain ⟨_, rfl⟩ := h; simp; omega
        · simp at h
def parse (s : Bytes) : Option (List Fld) :=
  if s = [] then some []
  else match h : takeF s with
    | none => none
    | some (f, r) => (parse r).map (f :: ·)
termination_by s.length
decreasing_by exact takeF_len h
theorem parse_nil : parse [] = some [] := by rw [parse]; simp
theorem parse_none {s : Bytes} (hs : s ≠ []) (h : takeF s = none) : parse s = none := by
  rw [parse, if_neg hs]; split <;> simp_all
theorem parse_some {s : Bytes} {f r} (h : takeF s = some (f, r)) : parse s = (parse r).map (f :: ·) := by
  have hs : s ≠ [] := by intro e; have := takeF_len h; simp [e] at this
  rw [parse, if_neg hs]; split <;> simp_all
theorem parse_append : ∀ (n : Nat) (p q : Bytes) (gs : List Fld), p.length ≤ n → parse p = some gs → parse (p ++ q) = (parse q).map (gs ++ ·) := by
  intro n
  induction n with
  | zero =>
    intro p q gs hp h
    have : p = [] := by simpa using hp
    subst this
    rw [parse_nil] at h
    simp at h; subst h; simp
  | succ n ih =>
    intro p q gs hp h
    by_cases e : p = []
    · subst e
      rw [parse_nil] at h
      simp at h; subst h; simp
    · cases ht : takeF p with
      | none => rw [parse_none e ht] at h; simp at h
      | some x =>
        obtain ⟨f, r⟩ := x
        rw [parse_some ht] at h
        cases hr : parse r with
        | none => simp [hr] at h
        | some g =>
          simp [hr] at h; subst h
          rw [parse_some (takeF_append ht), ih r q g (by have := takeF_len ht; omega) hr]
          cases parse q <;> simp
theorem parse_app {p q : Bytes} {gs : List Fld} (h : parse p = some gs) : parse (p ++ q) = (parse q).map (gs ++ ·) := parse_append _ p q gs (Nat.le_refl _) h
theorem varint_lt {n : Nat} (h : n < 128) : varint n = [UInt8.ofNat n] := by rw [varint]; simp [h]
theorem varint_ge {n : Nat} (h : ¬ n < 128) : varint n = UInt8.ofNat (n % 128 + 128) :: varint (n / 128) := by rw [varint]; simp [h]
theorem readAt_varint (t : Bytes) : ∀ (d n k : Nat), n < 2 ^ d → k < 10 → d + 7 * k = 64 → readAt k (varint n ++ t) = some (n * 2 ^ (7 * k), k + (varint n).length) := by
  intro d
  induction d using Nat.strongRecOn with
  | _ d ih =>
    intro n k hn hk hd
    by_cases h : n < 128
    · rw [varint_lt h]
      simp only [List.cons_append, List.nil_append, readAt, List.length_cons, List.length_nil]
      have hb : (UInt8.ofNat n).toNat = n := by simp [UInt8.toNat_ofNat']; omega
      rw [if_neg (by omega), if_neg (by
        rw [hb]; intro ⟨e, h1⟩; subst e
        have : d = 1 := by omega
        subst this; omega), hb, if_pos h]
    · rw [varint_ge h]
      simp only [List.cons_append, readAt, List.length_cons]
      have hb : (UInt8.ofNat (n % 128 + 128)).toNat = n % 128 + 128 := by simp [UInt8.toNat_ofNat']; omega
      have hd7 : 8 ≤ d := by
        rcases Nat.lt_or_ge d 8 with h8 | h8
        · have : 2 ^ d ≤ 2 ^ 7 := Nat.pow_le_pow_right (by decide) (by omega)
          omega
        · exact h8
      have hn' : n / 128 < 2 ^ (d - 7) := by
        apply Nat.div_lt_of_lt_mul
        calc n < 2 ^ d := hn
          _ = 128 * 2 ^ (d - 7) := by rw [show (128 : Nat) = 2 ^ 7 by decide, ← Nat.pow_add]; congr 1; omega
      rw [if_neg (by omega), if_neg (by omega), hb, if_neg (by omega), ih (d - 7) (by omega) (n / 128) (k + 1) hn' (by omega) (by omega)]
      simp only [Option.map_some]
      have hpow : 2 ^ (7 * (k + 1)) = 128 * 2 ^ (7 * k) := by
        rw [show 7 * (k + 1) = 7 * k + 7 by omega, Nat.pow_add]; omega
      rw [hpow]
      have e1 : (n % 128 + 128) % 128 = n % 128 := by omega
      rw [e1, ← Nat.mul_assoc, ← Nat.add_mul]
      have e2 : n % 128 + n / 128 * 128 = n := by omega
      rw [e2]
      congr 2
      omega
theorem readVar_varint {n : Nat} (t : Bytes) (h : n < 2 ^ 64) : readVar (varint n ++ t) = some (n, (varint n).length) := by
  have := readAt_varint t 64 n 0 h (by omega) (by omega)
  simpa [readVar] using this
theorem varint_length : ∀ (d n : Nat), n < 2 ^ (7 * d) → 1 ≤ d → (varint n).length ≤ d := by
  intro d
  induction d with
  | zero => intro n _ h; omega
  | succ d ih =>
    intro n hn _
    by_cases h : n < 128
    · rw [varint_lt h]; simp
    · rw [varint_ge h]
      have hd : 1 ≤ d := by
        rcases Nat.eq_zero_or_pos d with e | e
        · subst e; simp at hn; omega
        · exact e
      have : n / 128 < 2 ^ (7 * d) := by
        apply Nat.div_lt_of_lt_mul
        calc n < 2 ^ (7 * (d + 1)) := hn
          _ = 128 * 2 ^ (7 * d) := by rw [show (128 : Nat) = 2 ^ 7 by decide, ← Nat.pow_add]; congr 1; omega
      have := ih _ this hd
      simp; omega
theorem varint_len10 {n : Nat} (h : n < 2 ^ 64) : (varint n).length ≤ 10 :=
  varint_length 10 n (Nat.lt_of_lt_of_le h (by decide)) (by decide)
theorem varint_ne (n : Nat) : varint n ≠ [] := by
  by_cases h : n < 128
  · rw [varint_lt h]; simp
  · rw [varint_ge h]; simp
def Fld.Ok (f : Fld) : Prop := 1 ≤ f.num ∧ f.num < 2 ^ 29 ∧ ((f.kind = 0 ∧ f.s = [] ∧ f.n < 2 ^ 64) ∨ (f.kind = 1 ∧ f.s.length = 8 ∧ f.n = 0) ∨ (f.kind = 2 ∧ f.s.length < 2 ^ 64 ∧ f.n = 0) ∨ (f.kind = 5 ∧ f.s.length = 4 ∧ f.n = 0))
def Fld.enc (f : Fld) : Bytes :=
  varint (f.num * 8 + f.kind) ++ (if f.kind = 0 then varint f.n else if f.kind = 2 then varint f.s.length else []) ++ f.s
theorem takeF_enc {f : Fld} (h : f.Ok) (t : Bytes) : takeF (f.enc ++ t) = some (f, t) := by
  obtain ⟨num, kind, n, s⟩ := f
  obtain ⟨h1, h2, h⟩ := h
  simp only at h1 h2 h
  simp only [Fld.enc, takeF]
  have hk : kind < 8 := by omega
  have htag : num * 8 + kind < 2 ^ 64 := by omega
  rw [show (varint (num * 8 + kind) ++ (if kind = 0 then varint n else if kind = 2 then varint s.length else []) ++ s ++ t) = varint (num * 8 + kind) ++ ((if kind = 0 then varint n else if kind = 2 then varint s.length else []) ++ (s ++ t)) by simp]
  rw [readVar_varint _ htag]
  simp only
  rw [if_neg (by omega), List.drop_left]
  have e1 : (num * 8 + kind) % 8 = kind := by omega
  have e2 : (num * 8 + kind) / 8 = num := by omega
  rw [e1, e2]
  rcases h with ⟨rfl, rfl, h⟩ | ⟨rfl, h, rfl⟩ | ⟨rfl, h, rfl⟩ | ⟨rfl, h, rfl⟩
  · simp only [body, if_true, List.nil_append]
    rw [readVar_varint _ h]
    simp
  · simp [body, h]
  · simp only [body]
    simp only [show ¬ ((2 : Nat) = 0) by decide, show ¬ ((2 : Nat) = 1) by decide, if_false, if_true]
    rw [readVar_varint _ h]
    simp
  · simp [body, h]
theorem parse_enc {f : Fld} (h : f.Ok) (t : Bytes) : parse (f.enc ++ t) = (parse t).map (f :: ·) := parse_some (takeF_enc h t)
def encs (l : List Fld) : Bytes := l.flatMap Fld.enc
theorem parse_encs (l : List Fld) (h : ∀ f ∈ l, f.Ok) (t : Bytes) : parse (encs l ++ t) = (parse t).map (l ++ ·) := by
  induction l with
  | nil => simp [encs]
  | cons f l ih =>
    have e : encs (f :: l) ++ t = f.enc ++ (encs l ++ t) := by simp [encs]
    rw [e, parse_enc (h f (by simp)), ih (fun g hg => h g (by simp [hg]))]
    cases parse t <;> simp
theorem parse_encs' (l : List Fld) (h : ∀ f ∈ l, f.Ok) : parse (encs l) = some l := by
  have := parse_encs l h []
  simpa [parse_nil] using this
theorem parse_prefix {l : List Fld} (h : ∀ f ∈ l, f.Ok) {p q : Bytes} (e : encs l = p ++ q) {gs} (hp : parse p = some gs) : ∃ hs, l = gs ++ hs := by
  have h1 := parse_encs' l h
  rw [e, parse_app hp] at h1
  cases hq : parse q with
  | none => simp [hq] at h1
  | some x => simp [hq] at h1; exact ⟨x, h1.symm⟩
end NW
namespace Go.Proofs.YtbdacbcpniegiaaDoor
open Go Go.RowKit Go.Proofs Go.Sx
set_option maxHeartbeats 1000000
set_option linter.unusedSimpArgs false
set_option linter.unusedVariables false
set_option maxRecDepth 10000 in
theorem or128 {x : Int} (h0 : 0 ≤ x) (h1 : x < 256) : bits .or .u8 x 128 = x % 128 + 128 := by
  have := (by decide : ∀ x : Fin 256, bits .or .u8 (x.val : Int) 128 = (x.val : Int) % 128 + 128) ⟨x.toNat, by omega⟩
  simp only [Int.toNat_of_nonneg h0] at this
  exact this
theorem varint_any (n : Nat) (hn : n < 18446744073709551616) (w : World) :
    Calls Tryd.prog 128 #[.int .u64 n] w fun e w' => e = .returned (.string (B (NW.varint n))) ∧ Below w.heap.size w w' := by
  have hlen := NW.varint_len10 (n := n) (by omega)
  refine calls_pureK (args := [.int .u64 n]) w Tryd.func128 rfl Tryd.ntmps128 (by simp) ?_
  intro X K hX hK
  have hnt : X.nt = 21 := by rw [hX]
  have hwi : X.wi = w := by rw [hX]
  have hP : X.P = Tryd.prog := by rw [hX]
  have hown : X.own = [] := by rw [hX]
  have hbl : X.base.length = 0 := by rw [hX]; rfl
  clear hX
  have hT : elemInf X.P 58 = some (5, 1, 1, (Value.int IntKind.u8 0)) ∧ X.P.underlying 22 = some (TypeDesc.int IntKind.u64) ∧ X.P.underlying 5 = some (TypeDesc.int IntKind.u8) ∧ isBytesT X.P 22 = false ∧ isStrT X.P 5 = false ∧ elemSz X.P 58 = some (5, 1) ∧ zeroCells X.P 5 = some [(Value.int IntKind.u8 0)] ∧ isStrT X.P 58 = false ∧ X.P.underlying 58 = some (TypeDesc.slice 5) ∧ X.P.underlying 9 = some TypeDesc.string ∧ isBytesT X.P 58 = true ∧ isStrT X.P 9 = true := by rw [hP]; exact ⟨Ty.ei58, Tryd.underlying22, Tryd.underlying5, Ty.ib22, Ty.is5, Ty.el58, Ty.ze5, Ty.is58, Tryd.underlying58, Tryd.underlying9, Ty.ib58, Ty.is9⟩
  refine SX.seqK ?_
  intro N hN
  refine SX.ops ?_
  simp only [WS, JA, JB, wI64, wU64, Int.reduceAdd, Int.reduceSub, Int.reduceMul, Int.reduceLE, Int.reduceLT, Int.reduceNeg, Int.reduceToNat, Int.cast_ofNat_Int, sx0, sx1, sx2, sx3, sx4, sx5, sx6, sx7, sy0, sy1, List.filterMap_cons, JC, JD, WT, JE, JF, JG, JH, JI, JJ, JK, WU, JL, JM, JN, JO, WV, JP, JQ, WW, JR, JS, JT, JU, JV, JW, JX, JY, JZ, WA, WB, WC, WD, WE, WF, WG, WH, WI, WJ, WK, WL, WM, WN, true_and, and_true, reduceCtorEq, ↓reduceIte, ↓bifT, ↓bifF, ↓gifT, ↓gifF, eq_self, WO, WP, WQ, Nat.reduceLT, Nat.reduceLeDiff, Nat.reduceAdd, Nat.reduceSub, Nat.reduceMul, Nat.reduceMod, WR, Nat.reduceBEq, Int.reduceBEq, Int.reduceBNe, BEq.rfl, hnt, hT]
  refine hN _ ?_
  clear hN N
  refine SX.seqK ?_
  intro N hN
  refine SX.ops ?_
  simp only [WS, JA, JB, wI64, wU64, Int.reduceAdd, Int.reduceSub, Int.reduceMul, Int.reduceLE, Int.reduceLT, Int.reduceNeg, Int.reduceToNat, Int.cast_ofNat_Int, sx0, sx1, sx2, sx3, sx4, sx5, sx6, sx7, sy0, sy1, List.filterMap_cons, JC, JD, WT, JE, JF, JG, JH, JI, JJ, JK, WU, JL, JM, JN, JO, WV, JP, JQ, WW, JR, JS, JT, JU, JV, JW, JX, JY, JZ, WA, WB, WC, WD, WE, WF, WG, WH, WI, WJ, WK, WL, WM, WN, true_and, and_true, reduceCtorEq, ↓reduceIte, ↓bifT, ↓bifF, ↓gifT, ↓gifF, eq_self, WO, WP, WQ, Nat.reduceLT, Nat.reduceLeDiff, Nat.reduceAdd, Nat.reduceSub, Nat.reduceMul, Nat.reduceMod, WR, Nat.reduceBEq, Int.reduceBEq, Int.reduceBNe, BEq.rfl, hnt, hT]
  refine hN _ ?_
  clear hN N
  refine SX.seqK ?_
  intro N hN
  refine SX.block (SX.loop (ι := { p : Nat × List UInt8 // p.2 ++ NW.varint p.1 = NW.varint n ∧ p.1 < 18446744073709551616 }) (fun i => ⟨[(0, vv (.int .u64 i.1.1)), (3, .one (.c (.row 0)))], [.row 5 1 i.1.2.length (bcells i.1.2)]⟩) (fun i => i.1.1) ⟨(n, []), by simp, hn⟩ ⟨[0], (LeR.of (by rw [hbl]; decide) (by simp only [WS, JA, JB, wI64, wU64, Int.reduceAdd, Int.reduceSub, Int.reduceMul, Int.reduceLE, Int.reduceLT, Int.reduceNeg, Int.reduceToNat, Int.cast_ofNat_Int, sx0, sx1, sx2, sx3, sx4, sx5, sx6, sx7, sy0, sy1, List.filterMap_cons, JC, JD, WT, JE, JF, JG, JH, JI, JJ, JK, WU, JL, JM, JN, JO, WV, JP, JQ, WW, JR, JS, JT, JU, JV, JW, JX, JY, JZ, WA, WB, WC, WD, WE, WF, WG, WH, WI, WJ, WK, WL, WM, WN, true_and, and_true, reduceCtorEq, ↓reduceIte, ↓bifT, ↓bifF, ↓gifT, ↓gifF, eq_self, WO, WP, WQ, Nat.reduceLT, Nat.reduceLeDiff, Nat.reduceAdd, Nat.reduceSub, Nat.reduceMul, Nat.reduceMod, WR, Nat.reduceBEq, Int.reduceBEq, Int.reduceBNe, BEq.rfl, List.getD_cons_zero, List.getD_cons_succ, or_false, false_or, or_self, or_true, true_or, decide_true]; try (rfl)) (by simp only [WS, JA, JB, wI64, wU64, Int.reduceAdd, Int.reduceSub, Int.reduceMul, Int.reduceLE, Int.reduceLT, Int.reduceNeg, Int.reduceToNat, Int.cast_ofNat_Int, sx0, sx1, sx2, sx3, sx4, sx5, sx6, sx7, sy0, sy1, List.filterMap_cons, JC, JD, WT, JE, JF, JG, JH, JI, JJ, JK, WU, JL, JM, JN, JO, WV, JP, JQ, WW, JR, JS, JT, JU, JV, JW, JX, JY, JZ, WA, WB, WC, WD, WE, WF, WG, WH, WI, WJ, WK, WL, WM, WN, true_and, and_true, reduceCtorEq, ↓reduceIte, ↓bifT, ↓bifF, ↓gifT, ↓gifF, eq_self, WO, WP, WQ, Nat.reduceLT, Nat.reduceLeDiff, Nat.reduceAdd, Nat.reduceSub, Nat.reduceMul, Nat.reduceMod, WR, Nat.reduceBEq, Int.reduceBEq, Int.reduceBNe, BEq.rfl, List.getD_cons_zero, List.getD_cons_succ, or_false, false_or, or_self, or_true, true_or, decide_true]; try (rfl)) (by decide) (by simp only [WS, JA, JB, wI64, wU64, Int.reduceAdd, Int.reduceSub, Int.reduceMul, Int.reduceLE, Int.reduceLT, Int.reduceNeg, Int.reduceToNat, Int.cast_ofNat_Int, sx0, sx1, sx2, sx3, sx4, sx5, sx6, sx7, sy0, sy1, List.filterMap_cons, JC, JD, WT, JE, JF, JG, JH, JI, JJ, JK, WU, JL, JM, JN, JO, WV, JP, JQ, WW, JR, JS, JT, JU, JV, JW, JX, JY, JZ, WA, WB, WC, WD, WE, WF, WG, WH, WI, WJ, WK, WL, WM, WN, true_and, and_true, reduceCtorEq, ↓reduceIte, ↓bifT, ↓bifF, ↓gifT, ↓gifF, eq_self, WO, WP, WQ, Nat.reduceLT, Nat.reduceLeDiff, Nat.reduceAdd, Nat.reduceSub, Nat.reduceMul, Nat.reduceMod, WR, Nat.reduceBEq, Int.reduceBEq, Int.reduceBNe, BEq.rfl, List.getD_cons_zero, List.getD_cons_succ, or_false, false_or, or_self, or_true, true_or, decide_true]) (by simp only [WS, JA, JB, wI64, wU64, Int.reduceAdd, Int.reduceSub, Int.reduceMul, Int.reduceLE, Int.reduceLT, Int.reduceNeg, Int.reduceToNat, Int.cast_ofNat_Int, sx0, sx1, sx2, sx3, sx4, sx5, sx6, sx7, sy0, sy1, List.filterMap_cons, JC, JD, WT, JE, JF, JG, JH, JI, JJ, JK, WU, JL, JM, JN, JO, WV, JP, JQ, WW, JR, JS, JT, JU, JV, JW, JX, JY, JZ, WA, WB, WC, WD, WE, WF, WG, WH, WI, WJ, WK, WL, WM, WN, true_and, and_true, reduceCtorEq, ↓reduceIte, ↓bifT, ↓bifF, ↓gifT, ↓gifF, eq_self, WO, WP, WQ, Nat.reduceLT, Nat.reduceLeDiff, Nat.reduceAdd, Nat.reduceSub, Nat.reduceMul, Nat.reduceMod, WR, Nat.reduceBEq, Int.reduceBEq, Int.reduceBNe, BEq.rfl, List.getD_cons_zero, List.getD_cons_succ, or_false, false_or, or_self, or_true, true_or, decide_true]) (by simp only [WS, JA, JB, wI64, wU64, Int.reduceAdd, Int.reduceSub, Int.reduceMul, Int.reduceLE, Int.reduceLT, Int.reduceNeg, Int.reduceToNat, Int.cast_ofNat_Int, sx0, sx1, sx2, sx3, sx4, sx5, sx6, sx7, sy0, sy1, List.filterMap_cons, JC, JD, WT, JE, JF, JG, JH, JI, JJ, JK, WU, JL, JM, JN, JO, WV, JP, JQ, WW, JR, JS, JT, JU, JV, JW, JX, JY, JZ, WA, WB, WC, WD, WE, WF, WG, WH, WI, WJ, WK, WL, WM, WN, true_and, and_true, reduceCtorEq, ↓reduceIte, ↓bifT, ↓bifF, ↓gifT, ↓gifF, eq_self, WO, WP, WQ, Nat.reduceLT, Nat.reduceLeDiff, Nat.reduceAdd, Nat.reduceSub, Nat.reduceMul, Nat.reduceMod, WR, Nat.reduceBEq, Int.reduceBEq, Int.reduceBNe, BEq.rfl, List.getD_cons_zero, List.getD_cons_succ, or_false, false_or, or_self, or_true, true_or, decide_true]))⟩ ?_)
  rintro ⟨⟨m, l⟩, hml, hm⟩
  simp only at hml hm ⊢
  have hl10 : l.length ≤ 10 := by have := congrArg List.length hml; simp at this; omega
  refine SX.seqK ?_; intro N2 hN2
  refine SX.seqK ?_; intro N3 hN3
  refine SX.ops ?_
  simp only [WS, JA, JB, wI64, wU64, Int.reduceAdd, Int.reduceSub, Int.reduceMul, Int.reduceLE, Int.reduceLT, Int.reduceNeg, Int.reduceToNat, Int.cast_ofNat_Int, sx0, sx1, sx2, sx3, sx4, sx5, sx6, sx7, sy0, sy1, List.filterMap_cons, JC, JD, WT, JE, JF, JG, JH, JI, JJ, JK, WU, JL, JM, JN, JO, WV, JP, JQ, WW, JR, JS, JT, JU, JV, JW, JX, JY, JZ, WA, WB, WC, WD, WE, WF, WG, WH, WI, WJ, WK, WL, WM, WN, true_and, and_true, reduceCtorEq, ↓reduceIte, ↓bifT, ↓bifF, ↓gifT, ↓gifF, eq_self, WO, WP, WQ, Nat.reduceLT, Nat.reduceLeDiff, Nat.reduceAdd, Nat.reduceSub, Nat.reduceMul, Nat.reduceMod, WR, Nat.reduceBEq, Int.reduceBEq, Int.reduceBNe, BEq.rfl, hnt, hT]
  refine hN3 _ ?_
  clear hN3 N3
  refine SX.cond (b := decide ((128 : Int) ≤ m)) rfl (fun hb => ?_) (fun hb => ?_)
  · refine SX.skip (hN2 _ ?_)
    clear hN2 N2
    have hb' : 128 ≤ m := by have := of_decide_eq_true hb; omega
    refine SX.seqK ?_; intro N4 hN4
    refine SX.block ?_
    refine SX.ops ?_
    simp only [WS, JA, JB, wI64, wU64, Int.reduceAdd, Int.reduceSub, Int.reduceMul, Int.reduceLE, Int.reduceLT, Int.reduceNeg, Int.reduceToNat, Int.cast_ofNat_Int, sx0, sx1, sx2, sx3, sx4, sx5, sx6, sx7, sy0, sy1, List.filterMap_cons, JC, JD, WT, JE, JF, JG, JH, JI, JJ, JK, WU, JL, JM, JN, JO, WV, JP, JQ, WW, JR, JS, JT, JU, JV, JW, JX, JY, JZ, WA, WB, WC, WD, WE, WF, WG, WH, WI, WJ, WK, WL, WM, WN, true_and, and_true, reduceCtorEq, ↓reduceIte, ↓bifT, ↓bifF, ↓gifT, ↓gifF, eq_self, WO, WP, WQ, Nat.reduceLT, Nat.reduceLeDiff, Nat.reduceAdd, Nat.reduceSub, Nat.reduceMul, Nat.reduceMod, WR, Nat.reduceBEq, Int.reduceBEq, Int.reduceBNe, BEq.rfl, hnt, hT]
    have e1 : IntKind.u8.wrap (m : Int) = ((m % 256 : Nat) : Int) := by rw [IntKind.wrap_u8]; omega
    rw [e1, or128 (by omega) (by omega)]
    first | refine ⟨by omega, hN4 _ ?_⟩ | refine hN4 _ ?_
    clear hN4 N4
    refine SX.ops ?_
    simp only [WS, JA, JB, wI64, wU64, Int.reduceAdd, Int.reduceSub, Int.reduceMul, Int.reduceLE, Int.reduceLT, Int.reduceNeg, Int.reduceToNat, Int.cast_ofNat_Int, sx0, sx1, sx2, sx3, sx4, sx5, sx6, sx7, sy0, sy1, List.filterMap_cons, JC, JD, WT, JE, JF, JG, JH, JI, JJ, JK, WU, JL, JM, JN, JO, WV, JP, JQ, WW, JR, JS, JT, JU, JV, JW, JX, JY, JZ, WA, WB, WC, WD, WE, WF, WG, WH, WI, WJ, WK, WL, WM, WN, true_and, and_true, reduceCtorEq, ↓reduceIte, ↓bifT, ↓bifF, ↓gifT, ↓gifF, eq_self, WO, WP, WQ, Nat.reduceLT, Nat.reduceLeDiff, Nat.reduceAdd, Nat.reduceSub, Nat.reduceMul, Nat.reduceMod, WR, Nat.reduceBEq, Int.reduceBEq, Int.reduceBNe, BEq.rfl, hnt, hT]
    have e2 : (m : Int).fdiv (2 ^ (min 7 IntKind.u64.bits)) = ((m / 128 : Nat) : Int) := by
      rw [show (2 : Int) ^ (min 7 IntKind.u64.bits) = 128 from rfl, Int.fdiv_eq_ediv_of_nonneg _ (by decide)]; omega
    have e3 : ((m % 256 : Nat) : Int) % 128 + 128 = ((UInt8.ofNat (m % 128 + 128)).toNat : Int) := by
      simp [UInt8.toNat_ofNat']; omega
    rw [e2, e3]
    refine ⟨⟨(m / 128, l ++ [UInt8.ofNat (m % 128 + 128)]), ?_, by omega⟩, [2], (LeR.of (by rw [hbl]; decide) (by simp only [WS, JA, JB, wI64, wU64, Int.reduceAdd, Int.reduceSub, Int.reduceMul, Int.reduceLE, Int.reduceLT, Int.reduceNeg, Int.reduceToNat, Int.cast_ofNat_Int, sx0, sx1, sx2, sx3, sx4, sx5, sx6, sx7, sy0, sy1, List.filterMap_cons, JC, JD, WT, JE, JF, JG, JH, JI, JJ, JK, WU, JL, JM, JN, JO, WV, JP, JQ, WW, JR, JS, JT, JU, JV, JW, JX, JY, JZ, WA, WB, WC, WD, WE, WF, WG, WH, WI, WJ, WK, WL, WM, WN, true_and, and_true, reduceCtorEq, ↓reduceIte, ↓bifT, ↓bifF, ↓gifT, ↓gifF, eq_self, WO, WP, WQ, Nat.reduceLT, Nat.reduceLeDiff, Nat.reduceAdd, Nat.reduceSub, Nat.reduceMul, Nat.reduceMod, WR, Nat.reduceBEq, Int.reduceBEq, Int.reduceBNe, BEq.rfl, List.getD_cons_zero, List.getD_cons_succ, or_false, false_or, or_self, or_true, true_or, decide_true]; try (simp [bcells])) (by simp only [WS, JA, JB, wI64, wU64, Int.reduceAdd, Int.reduceSub, Int.reduceMul, Int.reduceLE, Int.reduceLT, Int.reduceNeg, Int.reduceToNat, Int.cast_ofNat_Int, sx0, sx1, sx2, sx3, sx4, sx5, sx6, sx7, sy0, sy1, List.filterMap_cons, JC, JD, WT, JE, JF, JG, JH, JI, JJ, JK, WU, JL, JM, JN, JO, WV, JP, JQ, WW, JR, JS, JT, JU, JV, JW, JX, JY, JZ, WA, WB, WC, WD, WE, WF, WG, WH, WI, WJ, WK, WL, WM, WN, true_and, and_true, reduceCtorEq, ↓reduceIte, ↓bifT, ↓bifF, ↓gifT, ↓gifF, eq_self, WO, WP, WQ, Nat.reduceLT, Nat.reduceLeDiff, Nat.reduceAdd, Nat.reduceSub, Nat.reduceMul, Nat.reduceMod, WR, Nat.reduceBEq, Int.reduceBEq, Int.reduceBNe, BEq.rfl, List.getD_cons_zero, List.getD_cons_succ, or_false, false_or, or_self, or_true, true_or, decide_true]; try (simp [bcells])) (by decide) (by simp only [WS, JA, JB, wI64, wU64, Int.reduceAdd, Int.reduceSub, Int.reduceMul, Int.reduceLE, Int.reduceLT, Int.reduceNeg, Int.reduceToNat, Int.cast_ofNat_Int, sx0, sx1, sx2, sx3, sx4, sx5, sx6, sx7, sy0, sy1, List.filterMap_cons, JC, JD, WT, JE, JF, JG, JH, JI, JJ, JK, WU, JL, JM, JN, JO, WV, JP, JQ, WW, JR, JS, JT, JU, JV, JW, JX, JY, JZ, WA, WB, WC, WD, WE, WF, WG, WH, WI, WJ, WK, WL, WM, WN, true_and, and_true, reduceCtorEq, ↓reduceIte, ↓bifT, ↓bifF, ↓gifT, ↓gifF, eq_self, WO, WP, WQ, Nat.reduceLT, Nat.reduceLeDiff, Nat.reduceAdd, Nat.reduceSub, Nat.reduceMul, Nat.reduceMod, WR, Nat.reduceBEq, Int.reduceBEq, Int.reduceBNe, BEq.rfl, List.getD_cons_zero, List.getD_cons_succ, or_false, false_or, or_self, or_true, true_or, decide_true]) (by simp only [WS, JA, JB, wI64, wU64, Int.reduceAdd, Int.reduceSub, Int.reduceMul, Int.reduceLE, Int.reduceLT, Int.reduceNeg, Int.reduceToNat, Int.cast_ofNat_Int, sx0, sx1, sx2, sx3, sx4, sx5, sx6, sx7, sy0, sy1, List.filterMap_cons, JC, JD, WT, JE, JF, JG, JH, JI, JJ, JK, WU, JL, JM, JN, JO, WV, JP, JQ, WW, JR, JS, JT, JU, JV, JW, JX, JY, JZ, WA, WB, WC, WD, WE, WF, WG, WH, WI, WJ, WK, WL, WM, WN, true_and, and_true, reduceCtorEq, ↓reduceIte, ↓bifT, ↓bifF, ↓gifT, ↓gifF, eq_self, WO, WP, WQ, Nat.reduceLT, Nat.reduceLeDiff, Nat.reduceAdd, Nat.reduceSub, Nat.reduceMul, Nat.reduceMod, WR, Nat.reduceBEq, Int.reduceBEq, Int.reduceBNe, BEq.rfl, List.getD_cons_zero, List.getD_cons_succ, or_false, false_or, or_self, or_true, true_or, decide_true]) (by simp only [WS, JA, JB, wI64, wU64, Int.reduceAdd, Int.reduceSub, Int.reduceMul, Int.reduceLE, Int.reduceLT, Int.reduceNeg, Int.reduceToNat, Int.cast_ofNat_Int, sx0, sx1, sx2, sx3, sx4, sx5, sx6, sx7, sy0, sy1, List.filterMap_cons, JC, JD, WT, JE, JF, JG, JH, JI, JJ, JK, WU, JL, JM, JN, JO, WV, JP, JQ, WW, JR, JS, JT, JU, JV, JW, JX, JY, JZ, WA, WB, WC, WD, WE, WF, WG, WH, WI, WJ, WK, WL, WM, WN, true_and, and_true, reduceCtorEq, ↓reduceIte, ↓bifT, ↓bifF, ↓gifT, ↓gifF, eq_self, WO, WP, WQ, Nat.reduceLT, Nat.reduceLeDiff, Nat.reduceAdd, Nat.reduceSub, Nat.reduceMul, Nat.reduceMod, WR, Nat.reduceBEq, Int.reduceBEq, Int.reduceBNe, BEq.rfl, List.getD_cons_zero, List.getD_cons_succ, or_false, false_or, or_self, or_true, true_or, decide_true])), (by show m / 128 < m; omega)⟩
    rw [← hml, NW.varint_ge (by omega : ¬ m < 128)]; simp
  · refine SX.exit ?_
    simp only [WS, JA, JB, wI64, wU64, Int.reduceAdd, Int.reduceSub, Int.reduceMul, Int.reduceLE, Int.reduceLT, Int.reduceNeg, Int.reduceToNat, Int.cast_ofNat_Int, sx0, sx1, sx2, sx3, sx4, sx5, sx6, sx7, sy0, sy1, List.filterMap_cons, JC, JD, WT, JE, JF, JG, JH, JI, JJ, JK, WU, JL, JM, JN, JO, WV, JP, JQ, WW, JR, JS, JT, JU, JV, JW, JX, JY, JZ, WA, WB, WC, WD, WE, WF, WG, WH, WI, WJ, WK, WL, WM, WN, true_and, and_true, reduceCtorEq, ↓reduceIte, ↓bifT, ↓bifF, ↓gifT, ↓gifF, eq_self, WO, WP, WQ, Nat.reduceLT, Nat.reduceLeDiff, Nat.reduceAdd, Nat.reduceSub, Nat.reduceMul, Nat.reduceMod, WR, Nat.reduceBEq, Int.reduceBEq, Int.reduceBNe, BEq.rfl, hnt]
    have hb' : m < 128 := by have := of_decide_eq_false hb; omega
    refine hN _ ?_
    clear hN hN2 N N2
    refine SX.seqK ?_
    intro N hN
    refine SX.ops ?_
    simp only [WS, JA, JB, wI64, wU64, Int.reduceAdd, Int.reduceSub, Int.reduceMul, Int.reduceLE, Int.reduceLT, Int.reduceNeg, Int.reduceToNat, Int.cast_ofNat_Int, sx0, sx1, sx2, sx3, sx4, sx5, sx6, sx7, sy0, sy1, List.filterMap_cons, JC, JD, WT, JE, JF, JG, JH, JI, JJ, JK, WU, JL, JM, JN, JO, WV, JP, JQ, WW, JR, JS, JT, JU, JV, JW, JX, JY, JZ, WA, WB, WC, WD, WE, WF, WG, WH, WI, WJ, WK, WL, WM, WN, true_and, and_true, reduceCtorEq, ↓reduceIte, ↓bifT, ↓bifF, ↓gifT, ↓gifF, eq_self, WO, WP, WQ, Nat.reduceLT, Nat.reduceLeDiff, Nat.reduceAdd, Nat.reduceSub, Nat.reduceMul, Nat.reduceMod, WR, Nat.reduceBEq, Int.reduceBEq, Int.reduceBNe, BEq.rfl, hnt, hT]
    have e1 : IntKind.u8.wrap (m : Int) = ((UInt8.ofNat m).toNat : Int) := by rw [IntKind.wrap_u8]; simp [UInt8.toNat_ofNat']
    rw [e1]
    refine ⟨by omega, l ++ [UInt8.ofNat m], by simp [bcells], ?_⟩
    refine hN _ ?_
    clear hN N
    refine SX.ret (hK _ _ (Fin.one rfl rfl hown ?_))
    rw [hwi]; intro w' hb; exact ⟨by rw [← hml, NW.varint_lt hb'], hb⟩
end Go.Proofs.YtbdacbcpniegiaaDoor
namespace Go.Proofs.YtbdacbcpniegiaaDoor
open Go Go.RowKit Go.Proofs Go.Sx
set_option maxHeartbeats 4000000
set_option maxRecDepth 100000
set_option linter.unusedSimpArgs false
set_option linter.unusedVariables false
theorem isNaN_int (a : Int) (w : World) : Calls Tryd.prog 148 #[.int .i64 a] w fun e w' => e = .returned (.bool false) ∧ Below w.heap.size w w' := by
  refine calls_pureK (args := [.int .i64 a]) w Tryd.func148 rfl Tryd.ntmps148 (by simp) ?_
  intro X K hX hK
  have hnt : X.nt = 6 := by rw [hX]
  have hwi : X.wi = w := by rw [hX]
  have hP : X.P = Tryd.prog := by rw [hX]
  have hown : X.own = [] := by rw [hX]
  have hbl : X.base.length = 0 := by rw [hX]; rfl
  clear hX
  have hT : True := trivial
  repeat' (first
    | (refine SX.seqK ?_; intro N hN)
    | ((first | (refine SX.ops ?_)); simp only [WS, JA, JB, wI64, wU64, Int.reduceAdd, Int.reduceSub, Int.reduceMul, Int.reduceLE, Int.reduceLT, Int.reduceNeg, Int.reduceToNat, Int.cast_ofNat_Int, sx0, sx1, sx2, sx3, sx4, sx5, sx6, sx7, sy0, sy1, List.filterMap_cons, JC, JD, WT, JE, JF, JG, JH, JI, JJ, JK, WU, JL, JM, JN, JO, WV, JP, JQ, WW, JR, JS, JT, JU, JV, JW, JX, JY, JZ, WA, WB, WC, WD, WE, WF, WG, WH, WI, WJ, WK, WL, WM, WN, true_and, and_true, reduceCtorEq, ↓reduceIte, ↓bifT, ↓bifF, ↓gifT, ↓gifF, eq_self, WO, WP, WQ, Nat.reduceLT, Nat.reduceLeDiff, Nat.reduceAdd, Nat.reduceSub, Nat.reduceMul, Nat.reduceMod, WR, Nat.reduceBEq, Int.reduceBEq, Int.reduceBNe, BEq.rfl, hnt, hT])
    | ((first | refine SX.skip ?_ | refine SX.exit ?_ | refine SX.label ?_); try simp only [WS, JA, JB, wI64, wU64, Int.reduceAdd, Int.reduceSub, Int.reduceMul, Int.reduceLE, Int.reduceLT, Int.reduceNeg, Int.reduceToNat, Int.cast_ofNat_Int, sx0, sx1, sx2, sx3, sx4, sx5, sx6, sx7, sy0, sy1, List.filterMap_cons, JC, JD, WT, JE, JF, JG, JH, JI, JJ, JK, WU, JL, JM, JN, JO, WV, JP, JQ, WW, JR, JS, JT, JU, JV, JW, JX, JY, JZ, WA, WB, WC, WD, WE, WF, WG, WH, WI, WJ, WK, WL, WM, WN, true_and, and_true, reduceCtorEq, ↓reduceIte, ↓bifT, ↓bifF, ↓gifT, ↓gifF, eq_self, WO, WP, WQ, Nat.reduceLT, Nat.reduceLeDiff, Nat.reduceAdd, Nat.reduceSub, Nat.reduceMul, Nat.reduceMod, WR, Nat.reduceBEq, Int.reduceBEq, Int.reduceBNe, BEq.rfl])
    | (refine SX.cond rfl (fun hb => ?_) (fun hb => ?_) <;> ((first | cases hb | (simp only [decide_eq_true_eq, decide_eq_false_iff_not, beq_iff_eq, beq_eq_false_iff_ne, bne_iff_ne, Bool.and_eq_true, Bool.or_eq_true, Bool.not_eq_true', Bool.not_eq_false', Bool.and_eq_false_iff, Bool.or_eq_false_iff, Int.not_lt, Int.not_le] at hb) | skip) <;> (first | (exfalso; omega) | skip)))
    | (refine SX.ret ?_; try simp only [WS, JA, JB, wI64, wU64, Int.reduceAdd, Int.reduceSub, Int.reduceMul, Int.reduceLE, Int.reduceLT, Int.reduceNeg, Int.reduceToNat, Int.cast_ofNat_Int, sx0, sx1, sx2, sx3, sx4, sx5, sx6, sx7, sy0, sy1, List.filterMap_cons, JC, JD, WT, JE, JF, JG, JH, JI, JJ, JK, WU, JL, JM, JN, JO, WV, JP, JQ, WW, JR, JS, JT, JU, JV, JW, JX, JY, JZ, WA, WB, WC, WD, WE, WF, WG, WH, WI, WJ, WK, WL, WM, WN, true_and, and_true, reduceCtorEq, ↓reduceIte, ↓bifT, ↓bifF, ↓gifT, ↓gifF, eq_self, WO, WP, WQ, Nat.reduceLT, Nat.reduceLeDiff, Nat.reduceAdd, Nat.reduceSub, Nat.reduceMul, Nat.reduceMod, WR, Nat.reduceBEq, Int.reduceBEq, Int.reduceBNe, BEq.rfl])
    | (refine hN _ ?_; clear hN N)
    | (refine hK _ _ (Fin.res rfl hown ?_); simp only [WS, JA, JB, wI64, wU64, Int.reduceAdd, Int.reduceSub, Int.reduceMul, Int.reduceLE, Int.reduceLT, Int.reduceNeg, Int.reduceToNat, Int.cast_ofNat_Int, sx0, sx1, sx2, sx3, sx4, sx5, sx6, sx7, sy0, sy1, List.filterMap_cons, JC, JD, WT, JE, JF, JG, JH, JI, JJ, JK, WU, JL, JM, JN, JO, WV, JP, JQ, WW, JR, JS, JT, JU, JV, JW, JX, JY, JZ, WA, WB, WC, WD, WE, WF, WG, WH, WI, WJ, WK, WL, WM, WN, true_and, and_true, reduceCtorEq, ↓reduceIte, ↓bifT, ↓bifF, ↓gifT, ↓gifF, eq_self, WO, WP, WQ, Nat.reduceLT, Nat.reduceLeDiff, Nat.reduceAdd, Nat.reduceSub, Nat.reduceMul, Nat.reduceMod, WR, Nat.reduceBEq, Int.reduceBEq, Int.reduceBNe, BEq.rfl, f_a, f_b, f_n, f_c, f_B, f_v, f_g, f_0, f_1, f_2, hT, hwi]; intro w' hbel; refine Done.out ?_)
    | (clear hN N; first | (refine hN _ ?_; clear hN N) | (clear hN N; first | (refine hN _ ?_; clear hN N) | (clear hN N; first | (refine hN _ ?_; clear hN N) | (clear hN N; first | (refine hN _ ?_; clear hN N) | (clear hN N; first | (refine hN _ ?_; clear hN N) | (refine hN _ ?_; clear hN N))))))
    | (refine bif2.mk (fun hb => ?_) (fun hb => ?_) <;> (try simp only [hb, WS, JA, JB, wI64, wU64, Int.reduceAdd, Int.reduceSub, Int.reduceMul, Int.reduceLE, Int.reduceLT, Int.reduceNeg, Int.reduceToNat, Int.cast_ofNat_Int, sx0, sx1, sx2, sx3, sx4, sx5, sx6, sx7, sy0, sy1, List.filterMap_cons, JC, JD, WT, JE, JF, JG, JH, JI, JJ, JK, WU, JL, JM, JN, JO, WV, JP, JQ, WW, JR, JS, JT, JU, JV, JW, JX, JY, JZ, WA, WB, WC, WD, WE, WF, WG, WH, WI, WJ, WK, WL, WM, WN, true_and, and_true, reduceCtorEq, ↓reduceIte, ↓bifT, ↓bifF, ↓gifT, ↓gifF, eq_self, WO, WP, WQ, Nat.reduceLT, Nat.reduceLeDiff, Nat.reduceAdd, Nat.reduceSub, Nat.reduceMul, Nat.reduceMod, WR, Nat.reduceBEq, Int.reduceBEq, Int.reduceBNe, BEq.rfl, hnt, hT]) <;> ((first | cases hb | (simp only [decide_eq_true_eq, decide_eq_false_iff_not, beq_iff_eq, beq_eq_false_iff_ne, bne_iff_ne, Bool.and_eq_true, Bool.or_eq_true, Bool.not_eq_true', Bool.not_eq_false', Bool.and_eq_false_iff, Bool.or_eq_false_iff, Int.not_lt, Int.not_le] at hb) | skip) <;> (first | (exfalso; omega) | skip)))
    | (refine SX.block ?_)
    | (refine and_mk ?_ ?_; (focus first | decide | omega | rfl | assumption | (simp only [List.length_append, List.length_cons, List.length_nil, B_size]; omega) | (simp; done)))
    | (refine And.intro ?_ ?_))
  all_goals (try refine Done.mk ?_)
  exact hbel
theorem isNaN_u64 (a : Int) (w : World) : Calls Tryd.prog 133 #[.int .u64 a] w fun e w' => e = .returned (.bool false) ∧ Below w.heap.size w w' := by
  refine calls_pureK (args := [.int .u64 a]) w Tryd.func133 rfl Tryd.ntmps133 (by simp) ?_
  intro X K hX hK
  have hnt : X.nt = 6 := by rw [hX]
  have hwi : X.wi = w := by rw [hX]
  have hP : X.P = Tryd.prog := by rw [hX]
  have hown : X.own = [] := by rw [hX]
  have hbl : X.base.length = 0 := by rw [hX]; rfl
  clear hX
  have hT : True := trivial
  repeat' (first
    | (refine SX.seqK ?_; intro N hN)
    | ((first | (refine SX.ops ?_)); simp only [WS, JA, JB, wI64, wU64, Int.reduceAdd, Int.reduceSub, Int.reduceMul, Int.reduceLE, Int.reduceLT, Int.reduceNeg, Int.reduceToNat, Int.cast_ofNat_Int, sx0, sx1, sx2, sx3, sx4, sx5, sx6, sx7, sy0, sy1, List.filterMap_cons, JC, JD, WT, JE, JF, JG, JH, JI, JJ, JK, WU, JL, JM, JN, JO, WV, JP, JQ, WW, JR, JS, JT, JU, JV, JW, JX, JY, JZ, WA, WB, WC, WD, WE, WF, WG, WH, WI, WJ, WK, WL, WM, WN, true_and, and_true, reduceCtorEq, ↓reduceIte, ↓bifT, ↓bifF, ↓gifT, ↓gifF, eq_self, WO, WP, WQ, Nat.reduceLT, Nat.reduceLeDiff, Nat.reduceAdd, Nat.reduceSub, Nat.reduceMul, Nat.reduceMod, WR, Nat.reduceBEq, Int.reduceBEq, Int.reduceBNe, BEq.rfl, hnt, hT])
    | ((first | refine SX.skip ?_ | refine SX.exit ?_ | refine SX.label ?_); try simp only [WS, JA, JB, wI64, wU64, Int.reduceAdd, Int.reduceSub, Int.reduceMul, Int.reduceLE, Int.reduceLT, Int.reduceNeg, Int.reduceToNat, Int.cast_ofNat_Int, sx0, sx1, sx2, sx3, sx4, sx5, sx6, sx7, sy0, sy1, List.filterMap_cons, JC, JD, WT, JE, JF, JG, JH, JI, JJ, JK, WU, JL, JM, JN, JO, WV, JP, JQ, WW, JR, JS, JT, JU, JV, JW, JX, JY, JZ, WA, WB, WC, WD, WE, WF, WG, WH, WI, WJ, WK, WL, WM, WN, true_and, and_true, reduceCtorEq, ↓reduceIte, ↓bifT, ↓bifF, ↓gifT, ↓gifF, eq_self, WO, WP, WQ, Nat.reduceLT, Nat.reduceLeDiff, Nat.reduceAdd, Nat.reduceSub, Nat.reduceMul, Nat.reduceMod, WR, Nat.reduceBEq, Int.reduceBEq, Int.reduceBNe, BEq.rfl])
    | (refine SX.cond rfl (fun hb => ?_) (fun hb => ?_) <;> ((first | cases hb | (simp only [decide_eq_true_eq, decide_eq_false_iff_not, beq_iff_eq, beq_eq_false_iff_ne, bne_iff_ne, Bool.and_eq_true, Bool.or_eq_true, Bool.not_eq_true', Bool.not_eq_false', Bool.and_eq_false_iff, Bool.or_eq_false_iff, Int.not_lt, Int.not_le] at hb) | skip) <;> (first | (exfalso; omega) | skip)))
    | (refine SX.ret ?_; try simp only [WS, JA, JB, wI64, wU64, Int.reduceAdd, Int.reduceSub, Int.reduceMul, Int.reduceLE, Int.reduceLT, Int.reduceNeg, Int.reduceToNat, Int.cast_ofNat_Int, sx0, sx1, sx2, sx3, sx4, sx5, sx6, sx7, sy0, sy1, List.filterMap_cons, JC, JD, WT, JE, JF, JG, JH, JI, JJ, JK, WU, JL, JM, JN, JO, WV, JP, JQ, WW, JR, JS, JT, JU, JV, JW, JX, JY, JZ, WA, WB, WC, WD, WE, WF, WG, WH, WI, WJ, WK, WL, WM, WN, true_and, and_true, reduceCtorEq, ↓reduceIte, ↓bifT, ↓bifF, ↓gifT, ↓gifF, eq_self, WO, WP, WQ, Nat.reduceLT, Nat.reduceLeDiff, Nat.reduceAdd, Nat.reduceSub, Nat.reduceMul, Nat.reduceMod, WR, Nat.reduceBEq, Int.reduceBEq, Int.reduceBNe, BEq.rfl])
    | (refine hN _ ?_; clear hN N)
    | (refine hK _ _ (Fin.res rfl hown ?_); simp only [WS, JA, JB, wI64, wU64, Int.reduceAdd, Int.reduceSub, Int.reduceMul, Int.reduceLE, Int.reduceLT, Int.reduceNeg, Int.reduceToNat, Int.cast_ofNat_Int, sx0, sx1, sx2, sx3, sx4, sx5, sx6, sx7, sy0, sy1, List.filterMap_cons, JC, JD, WT, JE, JF, JG, JH, JI, JJ, JK, WU, JL, JM, JN, JO, WV, JP, JQ, WW, JR, JS, JT, JU, JV, JW, JX, JY, JZ, WA, WB, WC, WD, WE, WF, WG, WH, WI, WJ, WK, WL, WM, WN, true_and, and_true, reduceCtorEq, ↓reduceIte, ↓bifT, ↓bifF, ↓gifT, ↓gifF, eq_self, WO, WP, WQ, Nat.reduceLT, Nat.reduceLeDiff, Nat.reduceAdd, Nat.reduceSub, Nat.reduceMul, Nat.reduceMod, WR, Nat.reduceBEq, Int.reduceBEq, Int.reduceBNe, BEq.rfl, f_a, f_b, f_n, f_c, f_B, f_v, f_g, f_0, f_1, f_2, hT, hwi]; intro w' hbel; refine Done.out ?_)
    | (clear hN N; first | (refine hN _ ?_; clear hN N) | (clear hN N; first | (refine hN _ ?_; clear hN N) | (clear hN N; first | (refine hN _ ?_; clear hN N) | (clear hN N; first | (refine hN _ ?_; clear hN N) | (clear hN N; first | (refine hN _ ?_; clear hN N) | (refine hN _ ?_; clear hN N))))))
    | (refine bif2.mk (fun hb => ?_) (fun hb => ?_) <;> (try simp only [hb, WS, JA, JB, wI64, wU64, Int.reduceAdd, Int.reduceSub, Int.reduceMul, Int.reduceLE, Int.reduceLT, Int.reduceNeg, Int.reduceToNat, Int.cast_ofNat_Int, sx0, sx1, sx2, sx3, sx4, sx5, sx6, sx7, sy0, sy1, List.filterMap_cons, JC, JD, WT, JE, JF, JG, JH, JI, JJ, JK, WU, JL, JM, JN, JO, WV, JP, JQ, WW, JR, JS, JT, JU, JV, JW, JX, JY, JZ, WA, WB, WC, WD, WE, WF, WG, WH, WI, WJ, WK, WL, WM, WN, true_and, and_true, reduceCtorEq, ↓reduceIte, ↓bifT, ↓bifF, ↓gifT, ↓gifF, eq_self, WO, WP, WQ, Nat.reduceLT, Nat.reduceLeDiff, Nat.reduceAdd, Nat.reduceSub, Nat.reduceMul, Nat.reduceMod, WR, Nat.reduceBEq, Int.reduceBEq, Int.reduceBNe, BEq.rfl, hnt, hT]) <;> ((first | cases hb | (simp only [decide_eq_true_eq, decide_eq_false_iff_not, beq_iff_eq, beq_eq_false_iff_ne, bne_iff_ne, Bool.and_eq_true, Bool.or_eq_true, Bool.not_eq_true', Bool.not_eq_false', Bool.and_eq_false_iff, Bool.or_eq_false_iff, Int.not_lt, Int.not_le] at hb) | skip) <;> (first | (exfalso; omega) | skip)))
    | (refine SX.block ?_)
    | (refine and_mk ?_ ?_; (focus first | decide | omega | rfl | assumption | (simp only [List.length_append, List.length_cons, List.length_nil, B_size]; omega) | (simp; done)))
    | (refine And.intro ?_ ?_))
  all_goals (try refine Done.mk ?_)
  exact hbel
theorem isNaN_str (s : List UInt8) (w : World) : Calls Tryd.prog 149 #[.string (B s)] w fun e w' => e = .returned (.bool false) ∧ Below w.heap.size w w' := by
  refine calls_pureK (args := [.string (B s)]) w Tryd.func149 rfl Tryd.ntmps149 (by simp) ?_
  intro X K hX hK
  have hnt : X.nt = 6 := by rw [hX]
  have hwi : X.wi = w := by rw [hX]
  have hP : X.P = Tryd.prog := by rw [hX]
  have hown : X.own = [] := by rw [hX]
  have hbl : X.base.length = 0 := by rw [hX]; rfl
  clear hX
  have hT : True := trivial
  repeat' (first
    | (refine SX.seqK ?_; intro N hN)
    | ((first | (refine SX.ops ?_)); simp only [WS, JA, JB, wI64, wU64, Int.reduceAdd, Int.reduceSub, Int.reduceMul, Int.reduceLE, Int.reduceLT, Int.reduceNeg, Int.reduceToNat, Int.cast_ofNat_Int, sx0, sx1, sx2, sx3, sx4, sx5, sx6, sx7, sy0, sy1, List.filterMap_cons, JC, JD, WT, JE, JF, JG, JH, JI, JJ, JK, WU, JL, JM, JN, JO, WV, JP, JQ, WW, JR, JS, JT, JU, JV, JW, JX, JY, JZ, WA, WB, WC, WD, WE, WF, WG, WH, WI, WJ, WK, WL, WM, WN, true_and, and_true, reduceCtorEq, ↓reduceIte, ↓bifT, ↓bifF, ↓gifT, ↓gifF, eq_self, WO, WP, WQ, Nat.reduceLT, Nat.reduceLeDiff, Nat.reduceAdd, Nat.reduceSub, Nat.reduceMul, Nat.reduceMod, WR, Nat.reduceBEq, Int.reduceBEq, Int.reduceBNe, BEq.rfl, hnt, hT])
    | ((first | refine SX.skip ?_ | refine SX.exit ?_ | refine SX.label ?_); try simp only [WS, JA, JB, wI64, wU64, Int.reduceAdd, Int.reduceSub, Int.reduceMul, Int.reduceLE, Int.reduceLT, Int.reduceNeg, Int.reduceToNat, Int.cast_ofNat_Int, sx0, sx1, sx2, sx3, sx4, sx5, sx6, sx7, sy0, sy1, List.filterMap_cons, JC, JD, WT, JE, JF, JG, JH, JI, JJ, JK, WU, JL, JM, JN, JO, WV, JP, JQ, WW, JR, JS, JT, JU, JV, JW, JX, JY, JZ, WA, WB, WC, WD, WE, WF, WG, WH, WI, WJ, WK, WL, WM, WN, true_and, and_true, reduceCtorEq, ↓reduceIte, ↓bifT, ↓bifF, ↓gifT, ↓gifF, eq_self, WO, WP, WQ, Nat.reduceLT, Nat.reduceLeDiff, Nat.reduceAdd, Nat.reduceSub, Nat.reduceMul, Nat.reduceMod, WR, Nat.reduceBEq, Int.reduceBEq, Int.reduceBNe, BEq.rfl])
    | (refine SX.cond rfl (fun hb => ?_) (fun hb => ?_) <;> ((first | cases hb | (simp only [decide_eq_true_eq, decide_eq_false_iff_not, beq_iff_eq, beq_eq_false_iff_ne, bne_iff_ne, Bool.and_eq_true, Bool.or_eq_true, Bool.not_eq_true', Bool.not_eq_false', Bool.and_eq_false_iff, Bool.or_eq_false_iff, Int.not_lt, Int.not_le] at hb) | skip) <;> (first | (exfalso; omega) | skip)))
    | (refine SX.ret ?_; try simp only [WS, JA, JB, wI64, wU64, Int.reduceAdd, Int.reduceSub, Int.reduceMul, Int.reduceLE, Int.reduceLT, Int.reduceNeg, Int.reduceToNat, Int.cast_ofNat_Int, sx0, sx1, sx2, sx3, sx4, sx5, sx6, sx7, sy0, sy1, List.filterMap_cons, JC, JD, WT, JE, JF, JG, JH, JI, JJ, JK, WU, JL, JM, JN, JO, WV, JP, JQ, WW, JR, JS, JT, JU, JV, JW, JX, JY, JZ, WA, WB, WC, WD, WE, WF, WG, WH, WI, WJ, WK, WL, WM, WN, true_and, and_true, reduceCtorEq, ↓reduceIte, ↓bifT, ↓bifF, ↓gifT, ↓gifF, eq_self, WO, WP, WQ, Nat.reduceLT, Nat.reduceLeDiff, Nat.reduceAdd, Nat.reduceSub, Nat.reduceMul, Nat.reduceMod, WR, Nat.reduceBEq, Int.reduceBEq, Int.reduceBNe, BEq.rfl])
    | (refine hN _ ?_; clear hN N)
    | (refine hK _ _ (Fin.res rfl hown ?_); simp only [WS, JA, JB, wI64, wU64, Int.reduceAdd, Int.reduceSub, Int.reduceMul, Int.reduceLE, Int.reduceLT, Int.reduceNeg, Int.reduceToNat, Int.cast_ofNat_Int, sx0, sx1, sx2, sx3, sx4, sx5, sx6, sx7, sy0, sy1, List.filterMap_cons, JC, JD, WT, JE, JF, JG, JH, JI, JJ, JK, WU, JL, JM, JN, JO, WV, JP, JQ, WW, JR, JS, JT, JU, JV, JW, JX, JY, JZ, WA, WB, WC, WD, WE, WF, WG, WH, WI, WJ, WK, WL, WM, WN, true_and, and_true, reduceCtorEq, ↓reduceIte, ↓bifT, ↓bifF, ↓gifT, ↓gifF, eq_self, WO, WP, WQ, Nat.reduceLT, Nat.reduceLeDiff, Nat.reduceAdd, Nat.reduceSub, Nat.reduceMul, Nat.reduceMod, WR, Nat.reduceBEq, Int.reduceBEq, Int.reduceBNe, BEq.rfl, f_a, f_b, f_n, f_c, f_B, f_v, f_g, f_0, f_1, f_2, hT, hwi]; intro w' hbel; refine Done.out ?_)
    | (clear hN N; first | (refine hN _ ?_; clear hN N) | (clear hN N; first | (refine hN _ ?_; clear hN N) | (clear hN N; first | (refine hN _ ?_; clear hN N) | (clear hN N; first | (refine hN _ ?_; clear hN N) | (clear hN N; first | (refine hN _ ?_; clear hN N) | (refine hN _ ?_; clear hN N))))))
    | (refine bif2.mk (fun hb => ?_) (fun hb => ?_) <;> (try simp only [hb, WS, JA, JB, wI64, wU64, Int.reduceAdd, Int.reduceSub, Int.reduceMul, Int.reduceLE, Int.reduceLT, Int.reduceNeg, Int.reduceToNat, Int.cast_ofNat_Int, sx0, sx1, sx2, sx3, sx4, sx5, sx6, sx7, sy0, sy1, List.filterMap_cons, JC, JD, WT, JE, JF, JG, JH, JI, JJ, JK, WU, JL, JM, JN, JO, WV, JP, JQ, WW, JR, JS, JT, JU, JV, JW, JX, JY, JZ, WA, WB, WC, WD, WE, WF, WG, WH, WI, WJ, WK, WL, WM, WN, true_and, and_true, reduceCtorEq, ↓reduceIte, ↓bifT, ↓bifF, ↓gifT, ↓gifF, eq_self, WO, WP, WQ, Nat.reduceLT, Nat.reduceLeDiff, Nat.reduceAdd, Nat.reduceSub, Nat.reduceMul, Nat.reduceMod, WR, Nat.reduceBEq, Int.reduceBEq, Int.reduceBNe, BEq.rfl, hnt, hT]) <;> ((first | cases hb | (simp only [decide_eq_true_eq, decide_eq_false_iff_not, beq_iff_eq, beq_eq_false_iff_ne, bne_iff_ne, Bool.and_eq_true, Bool.or_eq_true, Bool.not_eq_true', Bool.not_eq_false', Bool.and_eq_false_iff, Bool.or_eq_false_iff, Int.not_lt, Int.not_le] at hb) | skip) <;> (first | (exfalso; omega) | skip)))
    | (refine SX.block ?_)
    | (refine and_mk ?_ ?_; (focus first | decide | omega | rfl | assumption | (simp only [List.length_append, List.length_cons, List.length_nil, B_size]; omega) | (simp; done)))
    | (refine And.intro ?_ ?_))
  all_goals (try refine Done.mk ?_)
  exact hbel
theorem compare_int (a b : Int) (w : World) : Calls Tryd.prog 120 #[.int .i64 a, .int .i64 b] w fun e w' => e = .returned (.int .i64 (cmpI a b)) ∧ Below w.heap.size w w' := by
  refine calls_pureK (args := [.int .i64 a, .int .i64 b]) w Tryd.func120 rfl Tryd.ntmps120 (by simp) ?_
  intro X K hX hK
  have hnt : X.nt = 20 := by rw [hX]
  have hwi : X.wi = w := by rw [hX]
  have hP : X.P = Tryd.prog := by rw [hX]
  have hown : X.own = [] := by rw [hX]
  have hbl : X.base.length = 0 := by rw [hX]; rfl
  clear hX
  have hT : calleeOk X.P 148 = true := by rw [hP]; exact Ty.co148
  repeat' (first
    | (refine SX.seqK ?_; intro N hN)
    | ((first | (refine SX.ops ?_)); simp only [WS, JA, JB, wI64, wU64, Int.reduceAdd, Int.reduceSub, Int.reduceMul, Int.reduceLE, Int.reduceLT, Int.reduceNeg, Int.reduceToNat, Int.cast_ofNat_Int, sx0, sx1, sx2, sx3, sx4, sx5, sx6, sx7, sy0, sy1, List.filterMap_cons, JC, JD, WT, JE, JF, JG, JH, JI, JJ, JK, WU, JL, JM, JN, JO, WV, JP, JQ, WW, JR, JS, JT, JU, JV, JW, JX, JY, JZ, WA, WB, WC, WD, WE, WF, WG, WH, WI, WJ, WK, WL, WM, WN, true_and, and_true, reduceCtorEq, ↓reduceIte, ↓bifT, ↓bifF, ↓gifT, ↓gifF, eq_self, WO, WP, WQ, Nat.reduceLT, Nat.reduceLeDiff, Nat.reduceAdd, Nat.reduceSub, Nat.reduceMul, Nat.reduceMod, WR, Nat.reduceBEq, Int.reduceBEq, Int.reduceBNe, BEq.rfl, hnt, hT])
    | ((first | refine SX.skip ?_ | refine SX.exit ?_ | refine SX.label ?_); try simp only [WS, JA, JB, wI64, wU64, Int.reduceAdd, Int.reduceSub, Int.reduceMul, Int.reduceLE, Int.reduceLT, Int.reduceNeg, Int.reduceToNat, Int.cast_ofNat_Int, sx0, sx1, sx2, sx3, sx4, sx5, sx6, sx7, sy0, sy1, List.filterMap_cons, JC, JD, WT, JE, JF, JG, JH, JI, JJ, JK, WU, JL, JM, JN, JO, WV, JP, JQ, WW, JR, JS, JT, JU, JV, JW, JX, JY, JZ, WA, WB, WC, WD, WE, WF, WG, WH, WI, WJ, WK, WL, WM, WN, true_and, and_true, reduceCtorEq, ↓reduceIte, ↓bifT, ↓bifF, ↓gifT, ↓gifF, eq_self, WO, WP, WQ, Nat.reduceLT, Nat.reduceLeDiff, Nat.reduceAdd, Nat.reduceSub, Nat.reduceMul, Nat.reduceMod, WR, Nat.reduceBEq, Int.reduceBEq, Int.reduceBNe, BEq.rfl])
    | (refine SX.cond rfl (fun hb => ?_) (fun hb => ?_) <;> ((first | cases hb | (simp only [decide_eq_true_eq, decide_eq_false_iff_not, beq_iff_eq, beq_eq_false_iff_ne, bne_iff_ne, Bool.and_eq_true, Bool.or_eq_true, Bool.not_eq_true', Bool.not_eq_false', Bool.and_eq_false_iff, Bool.or_eq_false_iff, Int.not_lt, Int.not_le] at hb) | skip) <;> (first | (exfalso; omega) | skip)))
    | (refine SX.ret ?_; try simp only [WS, JA, JB, wI64, wU64, Int.reduceAdd, Int.reduceSub, Int.reduceMul, Int.reduceLE, Int.reduceLT, Int.reduceNeg, Int.reduceToNat, Int.cast_ofNat_Int, sx0, sx1, sx2, sx3, sx4, sx5, sx6, sx7, sy0, sy1, List.filterMap_cons, JC, JD, WT, JE, JF, JG, JH, JI, JJ, JK, WU, JL, JM, JN, JO, WV, JP, JQ, WW, JR, JS, JT, JU, JV, JW, JX, JY, JZ, WA, WB, WC, WD, WE, WF, WG, WH, WI, WJ, WK, WL, WM, WN, true_and, and_true, reduceCtorEq, ↓reduceIte, ↓bifT, ↓bifF, ↓gifT, ↓gifF, eq_self, WO, WP, WQ, Nat.reduceLT, Nat.reduceLeDiff, Nat.reduceAdd, Nat.reduceSub, Nat.reduceMul, Nat.reduceMod, WR, Nat.reduceBEq, Int.reduceBEq, Int.reduceBNe, BEq.rfl])
    | (refine hN _ ?_; clear hN N)
    | (refine hK _ _ (Fin.res rfl hown ?_); simp only [WS, JA, JB, wI64, wU64, Int.reduceAdd, Int.reduceSub, Int.reduceMul, Int.reduceLE, Int.reduceLT, Int.reduceNeg, Int.reduceToNat, Int.cast_ofNat_Int, sx0, sx1, sx2, sx3, sx4, sx5, sx6, sx7, sy0, sy1, List.filterMap_cons, JC, JD, WT, JE, JF, JG, JH, JI, JJ, JK, WU, JL, JM, JN, JO, WV, JP, JQ, WW, JR, JS, JT, JU, JV, JW, JX, JY, JZ, WA, WB, WC, WD, WE, WF, WG, WH, WI, WJ, WK, WL, WM, WN, true_and, and_true, reduceCtorEq, ↓reduceIte, ↓bifT, ↓bifF, ↓gifT, ↓gifF, eq_self, WO, WP, WQ, Nat.reduceLT, Nat.reduceLeDiff, Nat.reduceAdd, Nat.reduceSub, Nat.reduceMul, Nat.reduceMod, WR, Nat.reduceBEq, Int.reduceBEq, Int.reduceBNe, BEq.rfl, f_a, f_b, f_n, f_c, f_B, f_v, f_g, f_0, f_1, f_2, hT, hwi]; intro w' hbel; refine Done.out ?_)
    | (clear hN N; first | (refine hN _ ?_; clear hN N) | (clear hN N; first | (refine hN _ ?_; clear hN N) | (clear hN N; first | (refine hN _ ?_; clear hN N) | (clear hN N; first | (refine hN _ ?_; clear hN N) | (clear hN N; first | (refine hN _ ?_; clear hN N) | (refine hN _ ?_; clear hN N))))))
    | (refine bif2.mk (fun hb => ?_) (fun hb => ?_) <;> (try simp only [hb, WS, JA, JB, wI64, wU64, Int.reduceAdd, Int.reduceSub, Int.reduceMul, Int.reduceLE, Int.reduceLT, Int.reduceNeg, Int.reduceToNat, Int.cast_ofNat_Int, sx0, sx1, sx2, sx3, sx4, sx5, sx6, sx7, sy0, sy1, List.filterMap_cons, JC, JD, WT, JE, JF, JG, JH, JI, JJ, JK, WU, JL, JM, JN, JO, WV, JP, JQ, WW, JR, JS, JT, JU, JV, JW, JX, JY, JZ, WA, WB, WC, WD, WE, WF, WG, WH, WI, WJ, WK, WL, WM, WN, true_and, and_true, reduceCtorEq, ↓reduceIte, ↓bifT, ↓bifF, ↓gifT, ↓gifF, eq_self, WO, WP, WQ, Nat.reduceLT, Nat.reduceLeDiff, Nat.reduceAdd, Nat.reduceSub, Nat.reduceMul, Nat.reduceMod, WR, Nat.reduceBEq, Int.reduceBEq, Int.reduceBNe, BEq.rfl, hnt, hT]) <;> ((first | cases hb | (simp only [decide_eq_true_eq, decide_eq_false_iff_not, beq_iff_eq, beq_eq_false_iff_ne, bne_iff_ne, Bool.and_eq_true, Bool.or_eq_true, Bool.not_eq_true', Bool.not_eq_false', Bool.and_eq_false_iff, Bool.or_eq_false_iff, Int.not_lt, Int.not_le] at hb) | skip) <;> (first | (exfalso; omega) | skip)))
    | ((first | (refine CallVC.pv hP (isNaN_int _) rfl ?_) | (refine CallQ.pv hP (isNaN_int _) rfl ?_)); simp only [WS, JA, JB, wI64, wU64, Int.reduceAdd, Int.reduceSub, Int.reduceMul, Int.reduceLE, Int.reduceLT, Int.reduceNeg, Int.reduceToNat, Int.cast_ofNat_Int, sx0, sx1, sx2, sx3, sx4, sx5, sx6, sx7, sy0, sy1, List.filterMap_cons, JC, JD, WT, JE, JF, JG, JH, JI, JJ, JK, WU, JL, JM, JN, JO, WV, JP, JQ, WW, JR, JS, JT, JU, JV, JW, JX, JY, JZ, WA, WB, WC, WD, WE, WF, WG, WH, WI, WJ, WK, WL, WM, WN, true_and, and_true, reduceCtorEq, ↓reduceIte, ↓bifT, ↓bifF, ↓gifT, ↓gifF, eq_self, WO, WP, WQ, Nat.reduceLT, Nat.reduceLeDiff, Nat.reduceAdd, Nat.reduceSub, Nat.reduceMul, Nat.reduceMod, WR, Nat.reduceBEq, Int.reduceBEq, Int.reduceBNe, BEq.rfl, hnt, hT])
    | (refine SX.block ?_)
    | (refine and_mk ?_ ?_; (focus first | decide | omega | rfl | assumption | (simp only [List.length_append, List.length_cons, List.length_nil, B_size]; omega) | (simp; done)))
    | (refine And.intro ?_ ?_))
  all_goals (try refine Done.mk ?_)
  all_goals (refine ⟨?_, hbel⟩; congr 2; simp only [cmpI]; split <;> (try split) <;> omega)
theorem compare_u64 (a b : Int) (w : World) : Calls Tryd.prog 86 #[.int .u64 a, .int .u64 b] w fun e w' => e = .returned (.int .i64 (cmpI a b)) ∧ Below w.heap.size w w' := by
  refine calls_pureK (args := [.int .u64 a, .int .u64 b]) w Tryd.func86 rfl Tryd.ntmps86 (by simp) ?_
  intro X K hX hK
  have hnt : X.nt = 20 := by rw [hX]
  have hwi : X.wi = w := by rw [hX]
  have hP : X.P = Tryd.prog := by rw [hX]
  have hown : X.own = [] := by rw [hX]
  have hbl : X.base.length = 0 := by rw [hX]; rfl
  clear hX
  have hT : calleeOk X.P 133 = true := by rw [hP]; exact Ty.co133
  repeat' (first
    | (refine SX.seqK ?_; intro N hN)
    | ((first | (refine SX.ops ?_)); simp only [WS, JA, JB, wI64, wU64, Int.reduceAdd, Int.reduceSub, Int.reduceMul, Int.reduceLE, Int.reduceLT, Int.reduceNeg, Int.reduceToNat, Int.cast_ofNat_Int, sx0, sx1, sx2, sx3, sx4, sx5, sx6, sx7, sy0, sy1, List.filterMap_cons, JC, JD, WT, JE, JF, JG, JH, JI, JJ, JK, WU, JL, JM, JN, JO, WV, JP, JQ, WW, JR, JS, JT, JU, JV, JW, JX, JY, JZ, WA, WB, WC, WD, WE, WF, WG, WH, WI, WJ, WK, WL, WM, WN, true_and, and_true, reduceCtorEq, ↓reduceIte, ↓bifT, ↓bifF, ↓gifT, ↓gifF, eq_self, WO, WP, WQ, Nat.reduceLT, Nat.reduceLeDiff, Nat.reduceAdd, Nat.reduceSub, Nat.reduceMul, Nat.reduceMod, WR, Nat.reduceBEq, Int.reduceBEq, Int.reduceBNe, BEq.rfl, hnt, hT])
    | ((first | refine SX.skip ?_ | refine SX.exit ?_ | refine SX.label ?_); try simp only [WS, JA, JB, wI64, wU64, Int.reduceAdd, Int.reduceSub, Int.reduceMul, Int.reduceLE, Int.reduceLT, Int.reduceNeg, Int.reduceToNat, Int.cast_ofNat_Int, sx0, sx1, sx2, sx3, sx4, sx5, sx6, sx7, sy0, sy1, List.filterMap_cons, JC, JD, WT, JE, JF, JG, JH, JI, JJ, JK, WU, JL, JM, JN, JO, WV, JP, JQ, WW, JR, JS, JT, JU, JV, JW, JX, JY, JZ, WA, WB, WC, WD, WE, WF, WG, WH, WI, WJ, WK, WL, WM, WN, true_and, and_true, reduceCtorEq, ↓reduceIte, ↓bifT, ↓bifF, ↓gifT, ↓gifF, eq_self, WO, WP, WQ, Nat.reduceLT, Nat.reduceLeDiff, Nat.reduceAdd, Nat.reduceSub, Nat.reduceMul, Nat.reduceMod, WR, Nat.reduceBEq, Int.reduceBEq, Int.reduceBNe, BEq.rfl])
    | (refine SX.cond rfl (fun hb => ?_) (fun hb => ?_) <;> ((first | cases hb | (simp only [decide_eq_true_eq, decide_eq_false_iff_not, beq_iff_eq, beq_eq_false_iff_ne, bne_iff_ne, Bool.and_eq_true, Bool.or_eq_true, Bool.not_eq_true', Bool.not_eq_false', Bool.and_eq_false_iff, Bool.or_eq_false_iff, Int.not_lt, Int.not_le] at hb) | skip) <;> (first | (exfalso; omega) | skip)))
    | (refine SX.ret ?_; try simp only [WS, JA, JB, wI64, wU64, Int.reduceAdd, Int.reduceSub, Int.reduceMul, Int.reduceLE, Int.reduceLT, Int.reduceNeg, Int.reduceToNat, Int.cast_ofNat_Int, sx0, sx1, sx2, sx3, sx4, sx5, sx6, sx7, sy0, sy1, List.filterMap_cons, JC, JD, WT, JE, JF, JG, JH, JI, JJ, JK, WU, JL, JM, JN, JO, WV, JP, JQ, WW, JR, JS, JT, JU, JV, JW, JX, JY, JZ, WA, WB, WC, WD, WE, WF, WG, WH, WI, WJ, WK, WL, WM, WN, true_and, and_true, reduceCtorEq, ↓reduceIte, ↓bifT, ↓bifF, ↓gifT, ↓gifF, eq_self, WO, WP, WQ, Nat.reduceLT, Nat.reduceLeDiff, Nat.reduceAdd, Nat.reduceSub, Nat.reduceMul, Nat.reduceMod, WR, Nat.reduceBEq, Int.reduceBEq, Int.reduceBNe, BEq.rfl])
    | (refine hN _ ?_; clear hN N)
    | (refine hK _ _ (Fin.res rfl hown ?_); simp only [WS, JA, JB, wI64, wU64, Int.reduceAdd, Int.reduceSub, Int.reduceMul, Int.reduceLE, Int.reduceLT, Int.reduceNeg, Int.reduceToNat, Int.cast_ofNat_Int, sx0, sx1, sx2, sx3, sx4, sx5, sx6, sx7, sy0, sy1, List.filterMap_cons, JC, JD, WT, JE, JF, JG, JH, JI, JJ, JK, WU, JL, JM, JN, JO, WV, JP, JQ, WW, JR, JS, JT, JU, JV, JW, JX, JY, JZ, WA, WB, WC, WD, WE, WF, WG, WH, WI, WJ, WK, WL, WM, WN, true_and, and_true, reduceCtorEq, ↓reduceIte, ↓bifT, ↓bifF, ↓gifT, ↓gifF, eq_self, WO, WP, WQ, Nat.reduceLT, Nat.reduceLeDiff, Nat.reduceAdd, Nat.reduceSub, Nat.reduceMul, Nat.reduceMod, WR, Nat.reduceBEq, Int.reduceBEq, Int.reduceBNe, BEq.rfl, f_a, f_b, f_n, f_c, f_B, f_v, f_g, f_0, f_1, f_2, hT, hwi]; intro w' hbel; refine Done.out ?_)
    | (clear hN N; first | (refine hN _ ?_; clear hN N) | (clear hN N; first | (refine hN _ ?_; clear hN N) | (clear hN N; first | (refine hN _ ?_; clear hN N) | (clear hN N; first | (refine hN _ ?_; clear hN N) | (clear hN N; first | (refine hN _ ?_; clear hN N) | (refine hN _ ?_; clear hN N))))))
    | (refine bif2.mk (fun hb => ?_) (fun hb => ?_) <;> (try simp only [hb, WS, JA, JB, wI64, wU64, Int.reduceAdd, Int.reduceSub, Int.reduceMul, Int.reduceLE, Int.reduceLT, Int.reduceNeg, Int.reduceToNat, Int.cast_ofNat_Int, sx0, sx1, sx2, sx3, sx4, sx5, sx6, sx7, sy0, sy1, List.filterMap_cons, JC, JD, WT, JE, JF, JG, JH, JI, JJ, JK, WU, JL, JM, JN, JO, WV, JP, JQ, WW, JR, JS, JT, JU, JV, JW, JX, JY, JZ, WA, WB, WC, WD, WE, WF, WG, WH, WI, WJ, WK, WL, WM, WN, true_and, and_true, reduceCtorEq, ↓reduceIte, ↓bifT, ↓bifF, ↓gifT, ↓gifF, eq_self, WO, WP, WQ, Nat.reduceLT, Nat.reduceLeDiff, Nat.reduceAdd, Nat.reduceSub, Nat.reduceMul, Nat.reduceMod, WR, Nat.reduceBEq, Int.reduceBEq, Int.reduceBNe, BEq.rfl, hnt, hT]) <;> ((first | cases hb | (simp only [decide_eq_true_eq, decide_eq_false_iff_not, beq_iff_eq, beq_eq_false_iff_ne, bne_iff_ne, Bool.and_eq_true, Bool.or_eq_true, Bool.not_eq_true', Bool.not_eq_false', Bool.and_eq_false_iff, Bool.or_eq_false_iff, Int.not_lt, Int.not_le] at hb) | skip) <;> (first | (exfalso; omega) | skip)))
    | ((first | (refine CallVC.pv hP (isNaN_u64 _) rfl ?_) | (refine CallQ.pv hP (isNaN_u64 _) rfl ?_)); simp only [WS, JA, JB, wI64, wU64, Int.reduceAdd, Int.reduceSub, Int.reduceMul, Int.reduceLE, Int.reduceLT, Int.reduceNeg, Int.reduceToNat, Int.cast_ofNat_Int, sx0, sx1, sx2, sx3, sx4, sx5, sx6, sx7, sy0, sy1, List.filterMap_cons, JC, JD, WT, JE, JF, JG, JH, JI, JJ, JK, WU, JL, JM, JN, JO, WV, JP, JQ, WW, JR, JS, JT, JU, JV, JW, JX, JY, JZ, WA, WB, WC, WD, WE, WF, WG, WH, WI, WJ, WK, WL, WM, WN, true_and, and_true, reduceCtorEq, ↓reduceIte, ↓bifT, ↓bifF, ↓gifT, ↓gifF, eq_self, WO, WP, WQ, Nat.reduceLT, Nat.reduceLeDiff, Nat.reduceAdd, Nat.reduceSub, Nat.reduceMul, Nat.reduceMod, WR, Nat.reduceBEq, Int.reduceBEq, Int.reduceBNe, BEq.rfl, hnt, hT])
    | (refine SX.block ?_)
    | (refine and_mk ?_ ?_; (focus first | decide | omega | rfl | assumption | (simp only [List.length_append, List.length_cons, List.length_nil, B_size]; omega) | (simp; done)))
    | (refine And.intro ?_ ?_))
  all_goals (try refine Done.mk ?_)
  all_goals (refine ⟨?_, hbel⟩; congr 2; simp only [cmpI]; split <;> (try split) <;> omega)
theorem compare_str (a b : List UInt8) (w : World) : Calls Tryd.prog 121 #[.string (B a), .string (B b)] w fun e w' => e = .returned (.int .i64 (cmpS a b)) ∧ Below w.heap.size w w' := by
  refine calls_pureK (args := [.string (B a), .string (B b)]) w Tryd.func121 rfl Tryd.ntmps121 (by simp) ?_
  intro X K hX hK
  have hnt : X.nt = 20 := by rw [hX]
  have hwi : X.wi = w := by rw [hX]
  have hP : X.P = Tryd.prog := by rw [hX]
  have hown : X.own = [] := by rw [hX]
  have hbl : X.base.length = 0 := by rw [hX]; rfl
  clear hX
  have hT : calleeOk X.P 149 = true := by rw [hP]; exact Ty.co149
  repeat' (first
    | (refine SX.seqK ?_; intro N hN)
    | ((first | (refine SX.ops ?_)); simp only [WS, JA, JB, wI64, wU64, Int.reduceAdd, Int.reduceSub, Int.reduceMul, Int.reduceLE, Int.reduceLT, Int.reduceNeg, Int.reduceToNat, Int.cast_ofNat_Int, sx0, sx1, sx2, sx3, sx4, sx5, sx6, sx7, sy0, sy1, List.filterMap_cons, JC, JD, WT, JE, JF, JG, JH, JI, JJ, JK, WU, JL, JM, JN, JO, WV, JP, JQ, WW, JR, JS, JT, JU, JV, JW, JX, JY, JZ, WA, WB, WC, WD, WE, WF, WG, WH, WI, WJ, WK, WL, WM, WN, true_and, and_true, reduceCtorEq, ↓reduceIte, ↓bifT, ↓bifF, ↓gifT, ↓gifF, eq_self, WO, WP, WQ, Nat.reduceLT, Nat.reduceLeDiff, Nat.reduceAdd, Nat.reduceSub, Nat.reduceMul, Nat.reduceMod, WR, Nat.reduceBEq, Int.reduceBEq, Int.reduceBNe, BEq.rfl, hnt, hT, gtr_eq])
    | ((first | refine SX.skip ?_ | refine SX.exit ?_ | refine SX.label ?_); try simp only [WS, JA, JB, wI64, wU64, Int.reduceAdd, Int.reduceSub, Int.reduceMul, Int.reduceLE, Int.reduceLT, Int.reduceNeg, Int.reduceToNat, Int.cast_ofNat_Int, sx0, sx1, sx2, sx3, sx4, sx5, sx6, sx7, sy0, sy1, List.filterMap_cons, JC, JD, WT, JE, JF, JG, JH, JI, JJ, JK, WU, JL, JM, JN, JO, WV, JP, JQ, WW, JR, JS, JT, JU, JV, JW, JX, JY, JZ, WA, WB, WC, WD, WE, WF, WG, WH, WI, WJ, WK, WL, WM, WN, true_and, and_true, reduceCtorEq, ↓reduceIte, ↓bifT, ↓bifF, ↓gifT, ↓gifF, eq_self, WO, WP, WQ, Nat.reduceLT, Nat.reduceLeDiff, Nat.reduceAdd, Nat.reduceSub, Nat.reduceMul, Nat.reduceMod, WR, Nat.reduceBEq, Int.reduceBEq, Int.reduceBNe, BEq.rfl])
    | (refine SX.cond rfl (fun hb => ?_) (fun hb => ?_) <;> ((first | cases hb | (simp only [decide_eq_true_eq, decide_eq_false_iff_not, beq_iff_eq, beq_eq_false_iff_ne, bne_iff_ne, Bool.and_eq_true, Bool.or_eq_true, Bool.not_eq_true', Bool.not_eq_false', Bool.and_eq_false_iff, Bool.or_eq_false_iff, Int.not_lt, Int.not_le] at hb) | skip) <;> (first | (exfalso; omega) | skip)))
    | (refine SX.ret ?_; try simp only [WS, JA, JB, wI64, wU64, Int.reduceAdd, Int.reduceSub, Int.reduceMul, Int.reduceLE, Int.reduceLT, Int.reduceNeg, Int.reduceToNat, Int.cast_ofNat_Int, sx0, sx1, sx2, sx3, sx4, sx5, sx6, sx7, sy0, sy1, List.filterMap_cons, JC, JD, WT, JE, JF, JG, JH, JI, JJ, JK, WU, JL, JM, JN, JO, WV, JP, JQ, WW, JR, JS, JT, JU, JV, JW, JX, JY, JZ, WA, WB, WC, WD, WE, WF, WG, WH, WI, WJ, WK, WL, WM, WN, true_and, and_true, reduceCtorEq, ↓reduceIte, ↓bifT, ↓bifF, ↓gifT, ↓gifF, eq_self, WO, WP, WQ, Nat.reduceLT, Nat.reduceLeDiff, Nat.reduceAdd, Nat.reduceSub, Nat.reduceMul, Nat.reduceMod, WR, Nat.reduceBEq, Int.reduceBEq, Int.reduceBNe, BEq.rfl])
    | (refine hN _ ?_; clear hN N)
    | (refine hK _ _ (Fin.res rfl hown ?_); simp only [WS, JA, JB, wI64, wU64, Int.reduceAdd, Int.reduceSub, Int.reduceMul, Int.reduceLE, Int.reduceLT, Int.reduceNeg, Int.reduceToNat, Int.cast_ofNat_Int, sx0, sx1, sx2, sx3, sx4, sx5, sx6, sx7, sy0, sy1, List.filterMap_cons, JC, JD, WT, JE, JF, JG, JH, JI, JJ, JK, WU, JL, JM, JN, JO, WV, JP, JQ, WW, JR, JS, JT, JU, JV, JW, JX, JY, JZ, WA, WB, WC, WD, WE, WF, WG, WH, WI, WJ, WK, WL, WM, WN, true_and, and_true, reduceCtorEq, ↓reduceIte, ↓bifT, ↓bifF, ↓gifT, ↓gifF, eq_self, WO, WP, WQ, Nat.reduceLT, Nat.reduceLeDiff, Nat.reduceAdd, Nat.reduceSub, Nat.reduceMul, Nat.reduceMod, WR, Nat.reduceBEq, Int.reduceBEq, Int.reduceBNe, BEq.rfl, f_a, f_b, f_n, f_c, f_B, f_v, f_g, f_0, f_1, f_2, hT, hwi, gtr_eq]; intro w' hbel; refine Done.out ?_)
    | (clear hN N; first | (refine hN _ ?_; clear hN N) | (clear hN N; first | (refine hN _ ?_; clear hN N) | (clear hN N; first | (refine hN _ ?_; clear hN N) | (clear hN N; first | (refine hN _ ?_; clear hN N) | (clear hN N; first | (refine hN _ ?_; clear hN N) | (refine hN _ ?_; clear hN N))))))
    | (refine bif2.mk (fun hb => ?_) (fun hb => ?_) <;> (try simp only [hb, WS, JA, JB, wI64, wU64, Int.reduceAdd, Int.reduceSub, Int.reduceMul, Int.reduceLE, Int.reduceLT, Int.reduceNeg, Int.reduceToNat, Int.cast_ofNat_Int, sx0, sx1, sx2, sx3, sx4, sx5, sx6, sx7, sy0, sy1, List.filterMap_cons, JC, JD, WT, JE, JF, JG, JH, JI, JJ, JK, WU, JL, JM, JN, JO, WV, JP, JQ, WW, JR, JS, JT, JU, JV, JW, JX, JY, JZ, WA, WB, WC, WD, WE, WF, WG, WH, WI, WJ, WK, WL, WM, WN, true_and, and_true, reduceCtorEq, ↓reduceIte, ↓bifT, ↓bifF, ↓gifT, ↓gifF, eq_self, WO, WP, WQ, Nat.reduceLT, Nat.reduceLeDiff, Nat.reduceAdd, Nat.reduceSub, Nat.reduceMul, Nat.reduceMod, WR, Nat.reduceBEq, Int.reduceBEq, Int.reduceBNe, BEq.rfl, hnt, hT, gtr_eq]) <;> ((first | cases hb | (simp only [decide_eq_true_eq, decide_eq_false_iff_not, beq_iff_eq, beq_eq_false_iff_ne, bne_iff_ne, Bool.and_eq_true, Bool.or_eq_true, Bool.not_eq_true', Bool.not_eq_false', Bool.and_eq_false_iff, Bool.or_eq_false_iff, Int.not_lt, Int.not_le] at hb) | skip) <;> (first | (exfalso; omega) | skip)))
    | ((first | (refine CallVC.pv hP (isNaN_str _) rfl ?_) | (refine CallQ.pv hP (isNaN_str _) rfl ?_)); simp only [WS, JA, JB, wI64, wU64, Int.reduceAdd, Int.reduceSub, Int.reduceMul, Int.reduceLE, Int.reduceLT, Int.reduceNeg, Int.reduceToNat, Int.cast_ofNat_Int, sx0, sx1, sx2, sx3, sx4, sx5, sx6, sx7, sy0, sy1, List.filterMap_cons, JC, JD, WT, JE, JF, JG, JH, JI, JJ, JK, WU, JL, JM, JN, JO, WV, JP, JQ, WW, JR, JS, JT, JU, JV, JW, JX, JY, JZ, WA, WB, WC, WD, WE, WF, WG, WH, WI, WJ, WK, WL, WM, WN, true_and, and_true, reduceCtorEq, ↓reduceIte, ↓bifT, ↓bifF, ↓gifT, ↓gifF, eq_self, WO, WP, WQ, Nat.reduceLT, Nat.reduceLeDiff, Nat.reduceAdd, Nat.reduceSub, Nat.reduceMul, Nat.reduceMod, WR, Nat.reduceBEq, Int.reduceBEq, Int.reduceBNe, BEq.rfl, hnt, hT, gtr_eq])
    | (refine SX.block ?_)
    | (refine and_mk ?_ ?_; (focus first | decide | omega | rfl | assumption | (simp only [List.length_append, List.length_cons, List.length_nil, B_size]; omega) | (simp; done)))
    | (refine And.intro ?_ ?_))
  all_goals (try refine Done.mk ?_)
  all_goals (refine ⟨?_, hbel⟩; congr 2; simp_all [cmpS])
end Go.Proofs.YtbdacbcpniegiaaDoor
namespace Go.Proofs.YtbdacbcpniegiaaDoor
open Go Go.RowKit Go.Proofs Go.Sx
set_option maxHeartbeats 4000000
set_option maxRecDepth 100000
set_option linter.unusedSimpArgs false
set_option linter.unusedVariables false
def cmpKey (a : Int) (s : List UInt8) (b : Int) (t : List UInt8) : Int := if cmpI a b ≠ 0 then cmpI a b else cmpS s t
theorem order_any (a b : Int) (s t : List UInt8) (w : World) : Calls Tryd.prog 63 #[.agg #[.int .i64 a, .string (B s)], .agg #[.int .i64 b, .string (B t)]] w fun e w' => e = .returned (.int .i64 (cmpKey a s b t)) ∧ Below w.heap.size w w' := by
  refine calls_pureK (args := [.agg #[.int .i64 a, .string (B s)], .agg #[.int .i64 b, .string (B t)]]) w Tryd.func63 rfl Tryd.ntmps63 (by simp) ?_
  intro X K hX hK
  have hnt : X.nt = 17 := by rw [hX]
  have hwi : X.wi = w := by rw [hX]
  have hP : X.P = Tryd.prog := by rw [hX]
  have hown : X.own = [] := by rw [hX]
  have hbl : X.base.length = 0 := by rw [hX]; rfl
  clear hX
  have hT : fieldOff X.P 26 0 = some 0 ∧ aggOf X.P 3 = some false ∧ szOf X.P 3 = some 1 ∧ calleeOk X.P 120 = true ∧ fieldOff X.P 26 1 = some 1 ∧ aggOf X.P 9 = some false ∧ szOf X.P 9 = some 1 ∧ calleeOk X.P 121 = true ∧ elemSz X.P 51 = some (3, 1) ∧ zeroCells X.P 3 = some [(Value.int IntKind.i64 0)] ∧ calleeOk X.P 119 = true := by rw [hP]; exact ⟨Ty.fo26_0, Ty.ag3, Ty.sz3, Ty.co120, Ty.fo26_1, Ty.ag9, Ty.sz9, Ty.co121, Ty.el51, Ty.ze3, Ty.co119⟩
  have hnt1 := True.intro; have hT1 := True.intro; have hU1P := True.intro
  repeat' (first
    | (refine SX.seqK ?_; intro N hN)
    | ((first | (refine SX.ops ?_) | (refine SX.planT (id := 1) [.q [(0, [2]), (1, [5]), (2, [3]), (3, [7]), (4, [6, 8]), (5, [2]), (6, [10]), (7, [3]), (8, [12]), (9, [11, 13])] none, .s 10, .s 11, .s 12] ?_ ?_ ?_; (focus first | (rw [hP]; kernel_rfl) | (rw [hU1P, hP]; kernel_rfl)); (focus kernel_rfl))); simp only [WS, JA, JB, wI64, wU64, Int.reduceAdd, Int.reduceSub, Int.reduceMul, Int.reduceLE, Int.reduceLT, Int.reduceNeg, Int.reduceToNat, Int.cast_ofNat_Int, sx0, sx1, sx2, sx3, sx4, sx5, sx6, sx7, sy0, sy1, List.filterMap_cons, JC, JD, WT, JE, JF, JG, JH, JI, JJ, JK, WU, JL, JM, JN, JO, WV, JP, JQ, WW, JR, JS, JT, JU, JV, JW, JX, JY, JZ, WA, WB, WC, WD, WE, WF, WG, WH, WI, WJ, WK, WL, WM, WN, true_and, and_true, reduceCtorEq, ↓reduceIte, ↓bifT, ↓bifF, ↓gifT, ↓gifF, eq_self, WO, WP, WQ, Nat.reduceLT, Nat.reduceLeDiff, Nat.reduceAdd, Nat.reduceSub, Nat.reduceMul, Nat.reduceMod, WR, Nat.reduceBEq, Int.reduceBEq, Int.reduceBNe, BEq.rfl, hnt, hT, hnt1, hT1, hU1P])
    | ((first | refine SX.skip ?_ | refine SX.exit ?_ | refine SX.label ?_); try simp only [WS, JA, JB, wI64, wU64, Int.reduceAdd, Int.reduceSub, Int.reduceMul, Int.reduceLE, Int.reduceLT, Int.reduceNeg, Int.reduceToNat, Int.cast_ofNat_Int, sx0, sx1, sx2, sx3, sx4, sx5, sx6, sx7, sy0, sy1, List.filterMap_cons, JC, JD, WT, JE, JF, JG, JH, JI, JJ, JK, WU, JL, JM, JN, JO, WV, JP, JQ, WW, JR, JS, JT, JU, JV, JW, JX, JY, JZ, WA, WB, WC, WD, WE, WF, WG, WH, WI, WJ, WK, WL, WM, WN, true_and, and_true, reduceCtorEq, ↓reduceIte, ↓bifT, ↓bifF, ↓gifT, ↓gifF, eq_self, WO, WP, WQ, Nat.reduceLT, Nat.reduceLeDiff, Nat.reduceAdd, Nat.reduceSub, Nat.reduceMul, Nat.reduceMod, WR, Nat.reduceBEq, Int.reduceBEq, Int.reduceBNe, BEq.rfl])
    | (refine SX.cond rfl (fun hb => ?_) (fun hb => ?_) <;> ((first | cases hb | (simp only [decide_eq_true_eq, decide_eq_false_iff_not, beq_iff_eq, beq_eq_false_iff_ne, bne_iff_ne, Bool.and_eq_true, Bool.or_eq_true, Bool.not_eq_true', Bool.not_eq_false', Bool.and_eq_false_iff, Bool.or_eq_false_iff, Int.not_lt, Int.not_le] at hb) | skip) <;> (first | (exfalso; omega) | skip)))
    | (refine SX.ret ?_; try simp only [WS, JA, JB, wI64, wU64, Int.reduceAdd, Int.reduceSub, Int.reduceMul, Int.reduceLE, Int.reduceLT, Int.reduceNeg, Int.reduceToNat, Int.cast_ofNat_Int, sx0, sx1, sx2, sx3, sx4, sx5, sx6, sx7, sy0, sy1, List.filterMap_cons, JC, JD, WT, JE, JF, JG, JH, JI, JJ, JK, WU, JL, JM, JN, JO, WV, JP, JQ, WW, JR, JS, JT, JU, JV, JW, JX, JY, JZ, WA, WB, WC, WD, WE, WF, WG, WH, WI, WJ, WK, WL, WM, WN, true_and, and_true, reduceCtorEq, ↓reduceIte, ↓bifT, ↓bifF, ↓gifT, ↓gifF, eq_self, WO, WP, WQ, Nat.reduceLT, Nat.reduceLeDiff, Nat.reduceAdd, Nat.reduceSub, Nat.reduceMul, Nat.reduceMod, WR, Nat.reduceBEq, Int.reduceBEq, Int.reduceBNe, BEq.rfl])
    | (refine hN _ ?_; clear hN N)
    | ((first | refine hK1 _ _ (FinI.ret3 ?_) | refine hK1 _ _ (FinI.nrm3 ?_)); (repeat (clear hN N)); clear hK1 K1; simp only [WS, JA, JB, wI64, wU64, Int.reduceAdd, Int.reduceSub, Int.reduceMul, Int.reduceLE, Int.reduceLT, Int.reduceNeg, Int.reduceToNat, Int.cast_ofNat_Int, sx0, sx1, sx2, sx3, sx4, sx5, sx6, sx7, sy0, sy1, List.filterMap_cons, JC, JD, WT, JE, JF, JG, JH, JI, JJ, JK, WU, JL, JM, JN, JO, WV, JP, JQ, WW, JR, JS, JT, JU, JV, JW, JX, JY, JZ, WA, WB, WC, WD, WE, WF, WG, WH, WI, WJ, WK, WL, WM, WN, true_and, and_true, reduceCtorEq, ↓reduceIte, ↓bifT, ↓bifF, ↓gifT, ↓gifF, eq_self, WO, WP, WQ, Nat.reduceLT, Nat.reduceLeDiff, Nat.reduceAdd, Nat.reduceSub, Nat.reduceMul, Nat.reduceMod, WR, Nat.reduceBEq, Int.reduceBEq, Int.reduceBNe, BEq.rfl, finP_s, hnt, hT, hnt1, hT1, hU1P])
    | (refine hK _ _ (Fin.res rfl hown ?_); simp only [WS, JA, JB, wI64, wU64, Int.reduceAdd, Int.reduceSub, Int.reduceMul, Int.reduceLE, Int.reduceLT, Int.reduceNeg, Int.reduceToNat, Int.cast_ofNat_Int, sx0, sx1, sx2, sx3, sx4, sx5, sx6, sx7, sy0, sy1, List.filterMap_cons, JC, JD, WT, JE, JF, JG, JH, JI, JJ, JK, WU, JL, JM, JN, JO, WV, JP, JQ, WW, JR, JS, JT, JU, JV, JW, JX, JY, JZ, WA, WB, WC, WD, WE, WF, WG, WH, WI, WJ, WK, WL, WM, WN, true_and, and_true, reduceCtorEq, ↓reduceIte, ↓bifT, ↓bifF, ↓gifT, ↓gifF, eq_self, WO, WP, WQ, Nat.reduceLT, Nat.reduceLeDiff, Nat.reduceAdd, Nat.reduceSub, Nat.reduceMul, Nat.reduceMod, WR, Nat.reduceBEq, Int.reduceBEq, Int.reduceBNe, BEq.rfl, f_a, f_b, f_n, f_c, f_B, f_v, f_g, f_0, f_1, f_2, hT, hwi, hnt1, hT1, hU1P]; intro w' hbel; refine Done.out ?_)
    | (clear hN N; first | (refine hN _ ?_; clear hN N) | (clear hN N; first | (refine hN _ ?_; clear hN N) | (clear hN N; first | (refine hN _ ?_; clear hN N) | (clear hN N; first | (refine hN _ ?_; clear hN N) | (clear hN N; first | (refine hN _ ?_; clear hN N) | (refine hN _ ?_; clear hN N))))))
    | (refine bif2.mk (fun hb => ?_) (fun hb => ?_) <;> (try simp only [hb, WS, JA, JB, wI64, wU64, Int.reduceAdd, Int.reduceSub, Int.reduceMul, Int.reduceLE, Int.reduceLT, Int.reduceNeg, Int.reduceToNat, Int.cast_ofNat_Int, sx0, sx1, sx2, sx3, sx4, sx5, sx6, sx7, sy0, sy1, List.filterMap_cons, JC, JD, WT, JE, JF, JG, JH, JI, JJ, JK, WU, JL, JM, JN, JO, WV, JP, JQ, WW, JR, JS, JT, JU, JV, JW, JX, JY, JZ, WA, WB, WC, WD, WE, WF, WG, WH, WI, WJ, WK, WL, WM, WN, true_and, and_true, reduceCtorEq, ↓reduceIte, ↓bifT, ↓bifF, ↓gifT, ↓gifF, eq_self, WO, WP, WQ, Nat.reduceLT, Nat.reduceLeDiff, Nat.reduceAdd, Nat.reduceSub, Nat.reduceMul, Nat.reduceMod, WR, Nat.reduceBEq, Int.reduceBEq, Int.reduceBNe, BEq.rfl, hnt, hT, hnt1, hT1, hU1P]) <;> ((first | cases hb | (simp only [decide_eq_true_eq, decide_eq_false_iff_not, beq_iff_eq, beq_eq_false_iff_ne, bne_iff_ne, Bool.and_eq_true, Bool.or_eq_true, Bool.not_eq_true', Bool.not_eq_false', Bool.and_eq_false_iff, Bool.or_eq_false_iff, Int.not_lt, Int.not_le] at hb) | skip) <;> (first | (exfalso; omega) | skip)))
    | ((first | (refine CallVC.pv hP (compare_int _ _) rfl ?_) | (refine CallQ.pv hP (compare_int _ _) rfl ?_) | (refine CallVC.pv hP (compare_str _ _) rfl ?_) | (refine CallQ.pv hP (compare_str _ _) rfl ?_)); simp only [WS, JA, JB, wI64, wU64, Int.reduceAdd, Int.reduceSub, Int.reduceMul, Int.reduceLE, Int.reduceLT, Int.reduceNeg, Int.reduceToNat, Int.cast_ofNat_Int, sx0, sx1, sx2, sx3, sx4, sx5, sx6, sx7, sy0, sy1, List.filterMap_cons, JC, JD, WT, JE, JF, JG, JH, JI, JJ, JK, WU, JL, JM, JN, JO, WV, JP, JQ, WW, JR, JS, JT, JU, JV, JW, JX, JY, JZ, WA, WB, WC, WD, WE, WF, WG, WH, WI, WJ, WK, WL, WM, WN, true_and, and_true, reduceCtorEq, ↓reduceIte, ↓bifT, ↓bifF, ↓gifT, ↓gifF, eq_self, WO, WP, WQ, Nat.reduceLT, Nat.reduceLeDiff, Nat.reduceAdd, Nat.reduceSub, Nat.reduceMul, Nat.reduceMod, WR, Nat.reduceBEq, Int.reduceBEq, Int.reduceBNe, BEq.rfl, hnt, hT, hnt1, hT1, hU1P])
    | (refine CallVC.inline (f := 119) ?_ rfl Tryd.ntmps119 rfl ?_ ?_; (focus rw [hP]; exact Tryd.func119); (focus simp); have hT1 : X.P.underlying 51 = some (TypeDesc.slice 3) ∧ elemSz X.P 51 = some (3, 1) ∧ aggOf X.P 3 = some false ∧ szOf X.P 3 = some 1 := (by rw [hP]; exact ⟨Tryd.underlying51, Ty.el51, Ty.ag3, Ty.sz3⟩); intro X1 K1 hU1 hnt1 hbl1 hK1; have hU1P := hU1.P; simp only [WS, JA, JB, wI64, wU64, Int.reduceAdd, Int.reduceSub, Int.reduceMul, Int.reduceLE, Int.reduceLT, Int.reduceNeg, Int.reduceToNat, Int.cast_ofNat_Int, sx0, sx1, sx2, sx3, sx4, sx5, sx6, sx7, sy0, sy1, List.filterMap_cons, JC, JD, WT, JE, JF, JG, JH, JI, JJ, JK, WU, JL, JM, JN, JO, WV, JP, JQ, WW, JR, JS, JT, JU, JV, JW, JX, JY, JZ, WA, WB, WC, WD, WE, WF, WG, WH, WI, WJ, WK, WL, WM, WN, true_and, and_true, reduceCtorEq, ↓reduceIte, ↓bifT, ↓bifF, ↓gifT, ↓gifF, eq_self, WO, WP, WQ, Nat.reduceLT, Nat.reduceLeDiff, Nat.reduceAdd, Nat.reduceSub, Nat.reduceMul, Nat.reduceMod, WR, Nat.reduceBEq, Int.reduceBEq, Int.reduceBNe, BEq.rfl] at hbl1 ⊢)
    | (refine SX.loopN 3 ?_)
    | (refine SXr.stepK ?_; intro N hN)
    | ((first | (refine CallVC.pv (hU1P.trans hP) (compare_int _ _) rfl ?_) | (refine CallQ.pv (hU1P.trans hP) (compare_int _ _) rfl ?_) | (refine CallVC.pv (hU1P.trans hP) (compare_str _ _) rfl ?_) | (refine CallQ.pv (hU1P.trans hP) (compare_str _ _) rfl ?_)); simp only [WS, JA, JB, wI64, wU64, Int.reduceAdd, Int.reduceSub, Int.reduceMul, Int.reduceLE, Int.reduceLT, Int.reduceNeg, Int.reduceToNat, Int.cast_ofNat_Int, sx0, sx1, sx2, sx3, sx4, sx5, sx6, sx7, sy0, sy1, List.filterMap_cons, JC, JD, WT, JE, JF, JG, JH, JI, JJ, JK, WU, JL, JM, JN, JO, WV, JP, JQ, WW, JR, JS, JT, JU, JV, JW, JX, JY, JZ, WA, WB, WC, WD, WE, WF, WG, WH, WI, WJ, WK, WL, WM, WN, true_and, and_true, reduceCtorEq, ↓reduceIte, ↓bifT, ↓bifF, ↓gifT, ↓gifF, eq_self, WO, WP, WQ, Nat.reduceLT, Nat.reduceLeDiff, Nat.reduceAdd, Nat.reduceSub, Nat.reduceMul, Nat.reduceMod, WR, Nat.reduceBEq, Int.reduceBEq, Int.reduceBNe, BEq.rfl, hnt, hT, hnt1, hT1, hU1P])
    | (refine SX.block ?_)
    | (refine and_mk ?_ ?_; (focus first | decide | omega | rfl | assumption | (simp only [List.length_append, List.length_cons, List.length_nil, B_size]; omega) | (simp; done)))
    | (refine And.intro ?_ ?_))
  all_goals (try refine Done.mk ?_)
  all_goals (refine ⟨?_, hbel⟩; simp_all [cmpKey])
end Go.Proofs.YtbdacbcpniegiaaDoor
namespace Go.Proofs
open Go.Shelf
def Tryd.lays160_ren : Go.Shelf.Ren := ⟨fun | 160 => 140 | 232 => 156 | 231 => 155 | 227 => 157 | 234 => 159 | 233 => 158 | 236 => 161 | 235 => 160 | 228 => 168 | 271 => 171 | 151 => 170 | 197 => 169 | 120 => 176 | 152 => 175 | 260 => 174 | 137 => 177 | 119 => 178 | 224 => 179 | 225 => 180 | 217 => 181 | 266 => 182 | n => n, fun | 9 => 9 | 4 => 4 | 3 => 3 | 5 => 5 | 117 => 221 | 116 => 220 | 0 => 0 | 124 => 224 | 21 => 21 | 105 => 241 | 46 => 164 | 119 => 246 | 139 => 249 | 138 => 248 | n => n, fun | 3 => 4 | 4 => 5 | n => n⟩
theorem Tryd.lays160 : Lays.n160 Tryd.prog Tryd.lays160_ren := {
  mixed := by kernel_rfl,
  f119 := Tryd.func178.trans (congrArg some (by kernel_rfl)),
  f120 := Tryd.func176.trans (congrArg some (by kernel_rfl)),
  f137 := Tryd.func177.trans (congrArg some (by kernel_rfl)),
  f151 := Tryd.func170.trans (congrArg some (by kernel_rfl)),
  f152 := Tryd.func175.trans (congrArg some (by kernel_rfl)),
  f160 := Tryd.func140.trans (congrArg some (by kernel_rfl)),
  f197 := Tryd.func169.trans (congrArg some (by kernel_rfl)),
  f217 := Tryd.func181.trans (congrArg some (by kernel_rfl)),
  f224 := Tryd.func179.trans (congrArg some (by kernel_rfl)),
  f225 := Tryd.func180.trans (congrArg some (by kernel_rfl)),
  f227 := Tryd.func157.trans (congrArg some (by kernel_rfl)),
  f228 := Tryd.func168.trans (congrArg some (by kernel_rfl)),
  f231 := Tryd.func155.trans (congrArg some (by kernel_rfl)),
  f232 := Tryd.func156.trans (congrArg some (by kernel_rfl)),
  f233 := Tryd.func158.trans (congrArg some (by kernel_rfl)),
  f234 := Tryd.func159.trans (congrArg some (by kernel_rfl)),
  f235 := Tryd.func160.trans (congrArg some (by kernel_rfl)),
  f236 := Tryd.func161.trans (congrArg some (by kernel_rfl)),
  f260 := Tryd.func174.trans (congrArg some (by kernel_rfl)),
  f266 := Tryd.func182.trans (congrArg some (by kernel_rfl)),
  f271 := Tryd.func171.trans (congrArg some (by kernel_rfl)),
  t0 := Tryd.underlying0,
  a0 := Tryd.isAgg0,
  z0 := Tryd.sizeOf0,
  v0 := Tryd.zeroValue0,
  t3 := Tryd.underlying3,
  a3 := Tryd.isAgg3,
  z3 := Tryd.sizeOf3,
  v3 := Tryd.zeroValue3,
  t4 := Tryd.underlying4,
  a4 := Tryd.isAgg4,
  z4 := Tryd.sizeOf4,
  v4 := Tryd.zeroValue4,
  t5 := Tryd.underlying5,
  a5 := Tryd.isAgg5,
  z5 := Tryd.sizeOf5,
  v5 := Tryd.zeroValue5,
  t9 := Tryd.underlying9,
  a9 := Tryd.isAgg9,
  z9 := Tryd.sizeOf9,
  v9 := Tryd.zeroValue9,
  t21 := Tryd.underlying21,
  a21 := Tryd.isAgg21,
  z21 := Tryd.sizeOf21,
  v21 := Tryd.zeroValue21,
  t46 := Tryd.underlying164,
  a46 := Tryd.isAgg164,
  z46 := Tryd.sizeOf164,
  v46 := Tryd.zeroValue164,
  t105 := Tryd.underlying241,
  a105 := Tryd.isAgg241,
  z105 := Tryd.sizeOf241,
  v105 := Tryd.zeroValue241,
  t116 := Tryd.underlying220,
  a116 := Tryd.isAgg220,
  z116 := Tryd.sizeOf220,
  t117 := Tryd.underlying221,
  a117 := Tryd.isAgg221,
  z117 := Tryd.sizeOf221,
  v117 := Tryd.zeroValue221,
  t119 := Tryd.underlying246,
  a119 := Tryd.isAgg246,
  z119 := Tryd.sizeOf246,
  t124 := Tryd.underlying224,
  a124 := Tryd.isAgg224,
  z124 := Tryd.sizeOf224,
  v124 := Tryd.zeroValue224,
  t138 := Tryd.underlying248,
  a138 := Tryd.isAgg248,
  z138 := Tryd.sizeOf248,
  v138 := Tryd.zeroValue248,
  t139 := Tryd.underlying249,
  a139 := Tryd.isAgg249,
  z139 := Tryd.sizeOf249,
  v139 := Tryd.zeroValue249,
  g3 := by kernel_rfl,
  g4 := by kernel_rfl }
end Go.Proofs
namespace Go.Proofs.YtbdacbcpniegiaaDoor
open Go Go.RowKit Go.Proofs Go.Sx
def nameCs : List UInt8 := [97, 98, 99, 100, 101, 102, 103, 104, 105, 106, 107, 108, 109, 110, 111, 112, 113, 114, 115, 116, 117, 118, 119, 120, 121, 122, 48, 49, 50, 51, 52, 53, 54, 55, 56, 57, 45, 46, 47]
theorem trim_any (s : List UInt8) (hs : s.length ≤ 9223372036854775807) (w : World) : Calls Tryd.prog 140 #[.string (B s), .string (B nameCs)] w fun e w' => e = .returned (.string (B (Lib.trimS s nameCs))) ∧ Below w.heap.size w w' := by
  have h := Any.strings_Trim_laid Tryd.lays160 (by kernel_rfl) (B s) (B nameCs) w (by rw [B_size]; exact hs) (by decide) (ascii_of_all (by decide))
  exact h
end Go.Proofs.YtbdacbcpniegiaaDoor
namespace Go.Proofs.YtbdacbcpniegiaaDoor
open Go Go.RowKit Go.Proofs Go.Sx
set_option maxHeartbeats 4000000
set_option maxRecDepth 100000
set_option linter.unusedSimpArgs false
set_option linter.unusedVariables false
def nameB (s : List UInt8) : Bool := !(s == []) && decide ((s.length : Int) ≤ 64) && (Lib.trimS s nameCs == [])
theorem name_any (s : List UInt8) (hs : s.length ≤ 4611686018427387904) (w : World) : Calls Tryd.prog 101 #[.string (B s)] w fun e w' => e = .returned (.bool (nameB s)) ∧ Below w.heap.size w w' := by
  refine calls_pureK (args := [.string (B s)]) w Tryd.func101 rfl Tryd.ntmps101 (by simp) ?_
  intro X K hX hK
  have hnt : X.nt = 15 := by rw [hX]
  have hwi : X.wi = w := by rw [hX]
  have hP : X.P = Tryd.prog := by rw [hX]
  have hown : X.own = [] := by rw [hX]
  have hbl : X.base.length = 0 := by rw [hX]; rfl
  clear hX
  have hT : X.P.underlying 9 = some TypeDesc.string ∧ calleeOk X.P 140 = true := by rw [hP]; exact ⟨Tryd.underlying9, Ty.co140⟩
  repeat' (first
    | (refine SX.seqK ?_; intro N hN)
    | ((first | (refine SX.ops ?_)); simp only [WS, JA, JB, wI64, wU64, Int.reduceAdd, Int.reduceSub, Int.reduceMul, Int.reduceLE, Int.reduceLT, Int.reduceNeg, Int.reduceToNat, Int.cast_ofNat_Int, sx0, sx1, sx2, sx3, sx4, sx5, sx6, sx7, sy0, sy1, List.filterMap_cons, JC, JD, WT, JE, JF, JG, JH, JI, JJ, JK, WU, JL, JM, JN, JO, WV, JP, JQ, WW, JR, JS, JT, JU, JV, JW, JX, JY, JZ, WA, WB, WC, WD, WE, WF, WG, WH, WI, WJ, WK, WL, WM, WN, true_and, and_true, reduceCtorEq, ↓reduceIte, ↓bifT, ↓bifF, ↓gifT, ↓gifF, eq_self, WO, WP, WQ, Nat.reduceLT, Nat.reduceLeDiff, Nat.reduceAdd, Nat.reduceSub, Nat.reduceMul, Nat.reduceMod, WR, Nat.reduceBEq, Int.reduceBEq, Int.reduceBNe, BEq.rfl, hnt, hT])
    | ((first | refine SX.skip ?_ | refine SX.exit ?_ | refine SX.label ?_); try simp only [WS, JA, JB, wI64, wU64, Int.reduceAdd, Int.reduceSub, Int.reduceMul, Int.reduceLE, Int.reduceLT, Int.reduceNeg, Int.reduceToNat, Int.cast_ofNat_Int, sx0, sx1, sx2, sx3, sx4, sx5, sx6, sx7, sy0, sy1, List.filterMap_cons, JC, JD, WT, JE, JF, JG, JH, JI, JJ, JK, WU, JL, JM, JN, JO, WV, JP, JQ, WW, JR, JS, JT, JU, JV, JW, JX, JY, JZ, WA, WB, WC, WD, WE, WF, WG, WH, WI, WJ, WK, WL, WM, WN, true_and, and_true, reduceCtorEq, ↓reduceIte, ↓bifT, ↓bifF, ↓gifT, ↓gifF, eq_self, WO, WP, WQ, Nat.reduceLT, Nat.reduceLeDiff, Nat.reduceAdd, Nat.reduceSub, Nat.reduceMul, Nat.reduceMod, WR, Nat.reduceBEq, Int.reduceBEq, Int.reduceBNe, BEq.rfl])
    | (refine SX.cond rfl (fun hb => ?_) (fun hb => ?_) <;> ((first | cases hb | (simp only [decide_eq_true_eq, decide_eq_false_iff_not, beq_iff_eq, beq_eq_false_iff_ne, bne_iff_ne, Bool.and_eq_true, Bool.or_eq_true, Bool.not_eq_true', Bool.not_eq_false', Bool.and_eq_false_iff, Bool.or_eq_false_iff, Int.not_lt, Int.not_le] at hb) | skip) <;> (first | (exfalso; omega) | skip)))
    | (refine SX.ret ?_; try simp only [WS, JA, JB, wI64, wU64, Int.reduceAdd, Int.reduceSub, Int.reduceMul, Int.reduceLE, Int.reduceLT, Int.reduceNeg, Int.reduceToNat, Int.cast_ofNat_Int, sx0, sx1, sx2, sx3, sx4, sx5, sx6, sx7, sy0, sy1, List.filterMap_cons, JC, JD, WT, JE, JF, JG, JH, JI, JJ, JK, WU, JL, JM, JN, JO, WV, JP, JQ, WW, JR, JS, JT, JU, JV, JW, JX, JY, JZ, WA, WB, WC, WD, WE, WF, WG, WH, WI, WJ, WK, WL, WM, WN, true_and, and_true, reduceCtorEq, ↓reduceIte, ↓bifT, ↓bifF, ↓gifT, ↓gifF, eq_self, WO, WP, WQ, Nat.reduceLT, Nat.reduceLeDiff, Nat.reduceAdd, Nat.reduceSub, Nat.reduceMul, Nat.reduceMod, WR, Nat.reduceBEq, Int.reduceBEq, Int.reduceBNe, BEq.rfl])
    | (refine hN _ ?_; clear hN N)
    | (refine hK _ _ (Fin.res rfl hown ?_); simp only [WS, JA, JB, wI64, wU64, Int.reduceAdd, Int.reduceSub, Int.reduceMul, Int.reduceLE, Int.reduceLT, Int.reduceNeg, Int.reduceToNat, Int.cast_ofNat_Int, sx0, sx1, sx2, sx3, sx4, sx5, sx6, sx7, sy0, sy1, List.filterMap_cons, JC, JD, WT, JE, JF, JG, JH, JI, JJ, JK, WU, JL, JM, JN, JO, WV, JP, JQ, WW, JR, JS, JT, JU, JV, JW, JX, JY, JZ, WA, WB, WC, WD, WE, WF, WG, WH, WI, WJ, WK, WL, WM, WN, true_and, and_true, reduceCtorEq, ↓reduceIte, ↓bifT, ↓bifF, ↓gifT, ↓gifF, eq_self, WO, WP, WQ, Nat.reduceLT, Nat.reduceLeDiff, Nat.reduceAdd, Nat.reduceSub, Nat.reduceMul, Nat.reduceMod, WR, Nat.reduceBEq, Int.reduceBEq, Int.reduceBNe, BEq.rfl, f_a, f_b, f_n, f_c, f_B, f_v, f_g, f_0, f_1, f_2, hT, hwi]; intro w' hbel; refine Done.out ?_)
    | (clear hN N; first | (refine hN _ ?_; clear hN N) | (clear hN N; first | (refine hN _ ?_; clear hN N) | (clear hN N; first | (refine hN _ ?_; clear hN N) | (clear hN N; first | (refine hN _ ?_; clear hN N) | (clear hN N; first | (refine hN _ ?_; clear hN N) | (refine hN _ ?_; clear hN N))))))
    | (refine bif2.mk (fun hb => ?_) (fun hb => ?_) <;> (try simp only [hb, WS, JA, JB, wI64, wU64, Int.reduceAdd, Int.reduceSub, Int.reduceMul, Int.reduceLE, Int.reduceLT, Int.reduceNeg, Int.reduceToNat, Int.cast_ofNat_Int, sx0, sx1, sx2, sx3, sx4, sx5, sx6, sx7, sy0, sy1, List.filterMap_cons, JC, JD, WT, JE, JF, JG, JH, JI, JJ, JK, WU, JL, JM, JN, JO, WV, JP, JQ, WW, JR, JS, JT, JU, JV, JW, JX, JY, JZ, WA, WB, WC, WD, WE, WF, WG, WH, WI, WJ, WK, WL, WM, WN, true_and, and_true, reduceCtorEq, ↓reduceIte, ↓bifT, ↓bifF, ↓gifT, ↓gifF, eq_self, WO, WP, WQ, Nat.reduceLT, Nat.reduceLeDiff, Nat.reduceAdd, Nat.reduceSub, Nat.reduceMul, Nat.reduceMod, WR, Nat.reduceBEq, Int.reduceBEq, Int.reduceBNe, BEq.rfl, hnt, hT]) <;> ((first | cases hb | (simp only [decide_eq_true_eq, decide_eq_false_iff_not, beq_iff_eq, beq_eq_false_iff_ne, bne_iff_ne, Bool.and_eq_true, Bool.or_eq_true, Bool.not_eq_true', Bool.not_eq_false', Bool.and_eq_false_iff, Bool.or_eq_false_iff, Int.not_lt, Int.not_le] at hb) | skip) <;> (first | (exfalso; omega) | skip)))
    | ((first | (refine CallVC.pv hP (trim_any _ (by omega)) rfl ?_) | (refine CallQ.pv hP (trim_any _ (by omega)) rfl ?_)); simp only [WS, JA, JB, wI64, wU64, Int.reduceAdd, Int.reduceSub, Int.reduceMul, Int.reduceLE, Int.reduceLT, Int.reduceNeg, Int.reduceToNat, Int.cast_ofNat_Int, sx0, sx1, sx2, sx3, sx4, sx5, sx6, sx7, sy0, sy1, List.filterMap_cons, JC, JD, WT, JE, JF, JG, JH, JI, JJ, JK, WU, JL, JM, JN, JO, WV, JP, JQ, WW, JR, JS, JT, JU, JV, JW, JX, JY, JZ, WA, WB, WC, WD, WE, WF, WG, WH, WI, WJ, WK, WL, WM, WN, true_and, and_true, reduceCtorEq, ↓reduceIte, ↓bifT, ↓bifF, ↓gifT, ↓gifF, eq_self, WO, WP, WQ, Nat.reduceLT, Nat.reduceLeDiff, Nat.reduceAdd, Nat.reduceSub, Nat.reduceMul, Nat.reduceMod, WR, Nat.reduceBEq, Int.reduceBEq, Int.reduceBNe, BEq.rfl, hnt, hT])
    | (refine SX.block ?_)
    | (refine and_mk ?_ ?_; (focus first | decide | omega | rfl | assumption | (simp only [List.length_append, List.length_cons, List.length_nil, B_size]; omega) | (simp; done)))
    | (refine And.intro ?_ ?_))
  all_goals (try refine Done.mk ?_)
  all_goals (refine ⟨?_, hbel⟩; simp_all [nameB] <;> (intros; omega))
def keyB (t : Int) (s : List UInt8) : Bool := decide (1 ≤ t) && decide (t ≤ 5) && (s == [42] || nameB s)
theorem key_any (t : Int) (s : List UInt8) (hs : s.length ≤ 4611686018427387904) (w : World) : Calls Tryd.prog 78 #[.agg #[.int .i64 t, .string (B s)]] w fun e w' => e = .returned (.bool (keyB t s)) ∧ Below w.heap.size w w' := by
  refine calls_pureK (args := [.agg #[.int .i64 t, .string (B s)]]) w Tryd.func78 rfl Tryd.ntmps78 (by simp) ?_
  intro X K hX hK
  have hnt : X.nt = 21 := by rw [hX]
  have hwi : X.wi = w := by rw [hX]
  have hP : X.P = Tryd.prog := by rw [hX]
  have hown : X.own = [] := by rw [hX]
  have hbl : X.base.length = 0 := by rw [hX]; rfl
  clear hX
  have hT : fieldOff X.P 26 0 = some 0 ∧ aggOf X.P 3 = some false ∧ szOf X.P 3 = some 1 ∧ fieldOff X.P 26 1 = some 1 ∧ aggOf X.P 9 = some false ∧ szOf X.P 9 = some 1 ∧ calleeOk X.P 101 = true := by rw [hP]; exact ⟨Ty.fo26_0, Ty.ag3, Ty.sz3, Ty.fo26_1, Ty.ag9, Ty.sz9, Ty.co101⟩
  repeat' (first
    | (refine SX.seqK ?_; intro N hN)
    | ((first | (refine SX.ops ?_)); simp only [WS, JA, JB, wI64, wU64, Int.reduceAdd, Int.reduceSub, Int.reduceMul, Int.reduceLE, Int.reduceLT, Int.reduceNeg, Int.reduceToNat, Int.cast_ofNat_Int, sx0, sx1, sx2, sx3, sx4, sx5, sx6, sx7, sy0, sy1, List.filterMap_cons, JC, JD, WT, JE, JF, JG, JH, JI, JJ, JK, WU, JL, JM, JN, JO, WV, JP, JQ, WW, JR, JS, JT, JU, JV, JW, JX, JY, JZ, WA, WB, WC, WD, WE, WF, WG, WH, WI, WJ, WK, WL, WM, WN, true_and, and_true, reduceCtorEq, ↓reduceIte, ↓bifT, ↓bifF, ↓gifT, ↓gifF, eq_self, WO, WP, WQ, Nat.reduceLT, Nat.reduceLeDiff, Nat.reduceAdd, Nat.reduceSub, Nat.reduceMul, Nat.reduceMod, WR, Nat.reduceBEq, Int.reduceBEq, Int.reduceBNe, BEq.rfl, hnt, hT])
    | ((first | refine SX.skip ?_ | refine SX.exit ?_ | refine SX.label ?_); try simp only [WS, JA, JB, wI64, wU64, Int.reduceAdd, Int.reduceSub, Int.reduceMul, Int.reduceLE, Int.reduceLT, Int.reduceNeg, Int.reduceToNat, Int.cast_ofNat_Int, sx0, sx1, sx2, sx3, sx4, sx5, sx6, sx7, sy0, sy1, List.filterMap_cons, JC, JD, WT, JE, JF, JG, JH, JI, JJ, JK, WU, JL, JM, JN, JO, WV, JP, JQ, WW, JR, JS, JT, JU, JV, JW, JX, JY, JZ, WA, WB, WC, WD, WE, WF, WG, WH, WI, WJ, WK, WL, WM, WN, true_and, and_true, reduceCtorEq, ↓reduceIte, ↓bifT, ↓bifF, ↓gifT, ↓gifF, eq_self, WO, WP, WQ, Nat.reduceLT, Nat.reduceLeDiff, Nat.reduceAdd, Nat.reduceSub, Nat.reduceMul, Nat.reduceMod, WR, Nat.reduceBEq, Int.reduceBEq, Int.reduceBNe, BEq.rfl])
    | (refine SX.cond rfl (fun hb => ?_) (fun hb => ?_) <;> ((first | cases hb | (simp only [decide_eq_true_eq, decide_eq_false_iff_not, beq_iff_eq, beq_eq_false_iff_ne, bne_iff_ne, Bool.and_eq_true, Bool.or_eq_true, Bool.not_eq_true', Bool.not_eq_false', Bool.and_eq_false_iff, Bool.or_eq_false_iff, Int.not_lt, Int.not_le] at hb) | skip) <;> (first | (exfalso; omega) | skip)))
    | (refine SX.ret ?_; try simp only [WS, JA, JB, wI64, wU64, Int.reduceAdd, Int.reduceSub, Int.reduceMul, Int.reduceLE, Int.reduceLT, Int.reduceNeg, Int.reduceToNat, Int.cast_ofNat_Int, sx0, sx1, sx2, sx3, sx4, sx5, sx6, sx7, sy0, sy1, List.filterMap_cons, JC, JD, WT, JE, JF, JG, JH, JI, JJ, JK, WU, JL, JM, JN, JO, WV, JP, JQ, WW, JR, JS, JT, JU, JV, JW, JX, JY, JZ, WA, WB, WC, WD, WE, WF, WG, WH, WI, WJ, WK, WL, WM, WN, true_and, and_true, reduceCtorEq, ↓reduceIte, ↓bifT, ↓bifF, ↓gifT, ↓gifF, eq_self, WO, WP, WQ, Nat.reduceLT, Nat.reduceLeDiff, Nat.reduceAdd, Nat.reduceSub, Nat.reduceMul, Nat.reduceMod, WR, Nat.reduceBEq, Int.reduceBEq, Int.reduceBNe, BEq.rfl])
    | (refine hN _ ?_; clear hN N)
    | (refine hK _ _ (Fin.res rfl hown ?_); simp only [WS, JA, JB, wI64, wU64, Int.reduceAdd, Int.reduceSub, Int.reduceMul, Int.reduceLE, Int.reduceLT, Int.reduceNeg, Int.reduceToNat, Int.cast_ofNat_Int, sx0, sx1, sx2, sx3, sx4, sx5, sx6, sx7, sy0, sy1, List.filterMap_cons, JC, JD, WT, JE, JF, JG, JH, JI, JJ, JK, WU, JL, JM, JN, JO, WV, JP, JQ, WW, JR, JS, JT, JU, JV, JW, JX, JY, JZ, WA, WB, WC, WD, WE, WF, WG, WH, WI, WJ, WK, WL, WM, WN, true_and, and_true, reduceCtorEq, ↓reduceIte, ↓bifT, ↓bifF, ↓gifT, ↓gifF, eq_self, WO, WP, WQ, Nat.reduceLT, Nat.reduceLeDiff, Nat.reduceAdd, Nat.reduceSub, Nat.reduceMul, Nat.reduceMod, WR, Nat.reduceBEq, Int.reduceBEq, Int.reduceBNe, BEq.rfl, f_a, f_b, f_n, f_c, f_B, f_v, f_g, f_0, f_1, f_2, hT, hwi]; intro w' hbel; refine Done.out ?_)
    | (clear hN N; first | (refine hN _ ?_; clear hN N) | (clear hN N; first | (refine hN _ ?_; clear hN N) | (clear hN N; first | (refine hN _ ?_; clear hN N) | (clear hN N; first | (refine hN _ ?_; clear hN N) | (clear hN N; first | (refine hN _ ?_; clear hN N) | (refine hN _ ?_; clear hN N))))))
    | (refine bif2.mk (fun hb => ?_) (fun hb => ?_) <;> (try simp only [hb, WS, JA, JB, wI64, wU64, Int.reduceAdd, Int.reduceSub, Int.reduceMul, Int.reduceLE, Int.reduceLT, Int.reduceNeg, Int.reduceToNat, Int.cast_ofNat_Int, sx0, sx1, sx2, sx3, sx4, sx5, sx6, sx7, sy0, sy1, List.filterMap_cons, JC, JD, WT, JE, JF, JG, JH, JI, JJ, JK, WU, JL, JM, JN, JO, WV, JP, JQ, WW, JR, JS, JT, JU, JV, JW, JX, JY, JZ, WA, WB, WC, WD, WE, WF, WG, WH, WI, WJ, WK, WL, WM, WN, true_and, and_true, reduceCtorEq, ↓reduceIte, ↓bifT, ↓bifF, ↓gifT, ↓gifF, eq_self, WO, WP, WQ, Nat.reduceLT, Nat.reduceLeDiff, Nat.reduceAdd, Nat.reduceSub, Nat.reduceMul, Nat.reduceMod, WR, Nat.reduceBEq, Int.reduceBEq, Int.reduceBNe, BEq.rfl, hnt, hT]) <;> ((first | cases hb | (simp only [decide_eq_true_eq, decide_eq_false_iff_not, beq_iff_eq, beq_eq_false_iff_ne, bne_iff_ne, Bool.and_eq_true, Bool.or_eq_true, Bool.not_eq_true', Bool.not_eq_false', Bool.and_eq_false_iff, Bool.or_eq_false_iff, Int.not_lt, Int.not_le] at hb) | skip) <;> (first | (exfalso; omega) | skip)))
    | ((first | (refine CallVC.pv hP (name_any _ hs) rfl ?_) | (refine CallQ.pv hP (name_any _ hs) rfl ?_)); simp only [WS, JA, JB, wI64, wU64, Int.reduceAdd, Int.reduceSub, Int.reduceMul, Int.reduceLE, Int.reduceLT, Int.reduceNeg, Int.reduceToNat, Int.cast_ofNat_Int, sx0, sx1, sx2, sx3, sx4, sx5, sx6, sx7, sy0, sy1, List.filterMap_cons, JC, JD, WT, JE, JF, JG, JH, JI, JJ, JK, WU, JL, JM, JN, JO, WV, JP, JQ, WW, JR, JS, JT, JU, JV, JW, JX, JY, JZ, WA, WB, WC, WD, WE, WF, WG, WH, WI, WJ, WK, WL, WM, WN, true_and, and_true, reduceCtorEq, ↓reduceIte, ↓bifT, ↓bifF, ↓gifT, ↓gifF, eq_self, WO, WP, WQ, Nat.reduceLT, Nat.reduceLeDiff, Nat.reduceAdd, Nat.reduceSub, Nat.reduceMul, Nat.reduceMod, WR, Nat.reduceBEq, Int.reduceBEq, Int.reduceBNe, BEq.rfl, hnt, hT])
    | (refine SX.block ?_)
    | (refine and_mk ?_ ?_; (focus first | decide | omega | rfl | assumption | (simp only [List.length_append, List.length_cons, List.length_nil, B_size]; omega) | (simp; done)))
    | (refine And.intro ?_ ?_))
  all_goals (try refine Done.mk ?_)
  all_goals (refine ⟨?_, hbel⟩; simp_all [keyB] <;> (intros; omega))
def statusB (t : Int) (s : List UInt8) (q : Int) (ok : Bool) (d : List UInt8) : Bool := keyB t s && !(s == [42]) && decide (0 < q) && decide ((d.length : Int) ≤ 256) && (!ok || d == [])
theorem statusRight_any (t : Int) (s : List UInt8) (q : Int) (ok : Bool) (d : List UInt8) (hs : s.length ≤ 4611686018427387904) (w : World) :
    Calls Tryd.prog 64 #[.agg #[.int .i64 t, .string (B s), .int .u64 q, .bool ok, .string (B d)]] w fun e w' => e = .returned (.bool (statusB t s q ok d)) ∧ Below w.heap.size w w' := by
  refine calls_pureK (args := [.agg #[.int .i64 t, .string (B s), .int .u64 q, .bool ok, .string (B d)]]) w Tryd.func64 rfl Tryd.ntmps64 (by simp) ?_
  intro X K hX hK
  have hnt : X.nt = 33 := by rw [hX]
  have hwi : X.wi = w := by rw [hX]
  have hP : X.P = Tryd.prog := by rw [hX]
  have hown : X.own = [] := by rw [hX]
  have hbl : X.base.length = 0 := by rw [hX]; rfl
  clear hX
  have hT : fieldOff X.P 30 0 = some 0 ∧ aggOf X.P 26 = some true ∧ szOf X.P 26 = some 2 ∧ calleeOk X.P 78 = true ∧ fieldOff X.P 26 1 = some 1 ∧ aggOf X.P 9 = some false ∧ szOf X.P 9 = some 1 ∧ fieldOff X.P 30 1 = some 2 ∧ aggOf X.P 22 = some false ∧ szOf X.P 22 = some 1 ∧ fieldOff X.P 30 3 = some 4 ∧ X.P.underlying 9 = some TypeDesc.string ∧ fieldOff X.P 30 2 = some 3 ∧ aggOf X.P 4 = some false ∧ szOf X.P 4 = some 1 := by rw [hP]; exact ⟨Ty.fo30_0, Ty.ag26, Ty.sz26, Ty.co78, Ty.fo26_1, Ty.ag9, Ty.sz9, Ty.fo30_1, Ty.ag22, Ty.sz22, Ty.fo30_3, Tryd.underlying9, Ty.fo30_2, Ty.ag4, Ty.sz4⟩
  repeat' (first
    | (refine SX.seqK ?_; intro N hN)
    | ((first | (refine SX.ops ?_)); simp only [WS, JA, JB, wI64, wU64, Int.reduceAdd, Int.reduceSub, Int.reduceMul, Int.reduceLE, Int.reduceLT, Int.reduceNeg, Int.reduceToNat, Int.cast_ofNat_Int, sx0, sx1, sx2, sx3, sx4, sx5, sx6, sx7, sy0, sy1, List.filterMap_cons, JC, JD, WT, JE, JF, JG, JH, JI, JJ, JK, WU, JL, JM, JN, JO, WV, JP, JQ, WW, JR, JS, JT, JU, JV, JW, JX, JY, JZ, WA, WB, WC, WD, WE, WF, WG, WH, WI, WJ, WK, WL, WM, WN, true_and, and_true, reduceCtorEq, ↓reduceIte, ↓bifT, ↓bifF, ↓gifT, ↓gifF, eq_self, WO, WP, WQ, Nat.reduceLT, Nat.reduceLeDiff, Nat.reduceAdd, Nat.reduceSub, Nat.reduceMul, Nat.reduceMod, WR, Nat.reduceBEq, Int.reduceBEq, Int.reduceBNe, BEq.rfl, hnt, hT])
    | ((first | refine SX.skip ?_ | refine SX.exit ?_ | refine SX.label ?_); try simp only [WS, JA, JB, wI64, wU64, Int.reduceAdd, Int.reduceSub, Int.reduceMul, Int.reduceLE, Int.reduceLT, Int.reduceNeg, Int.reduceToNat, Int.cast_ofNat_Int, sx0, sx1, sx2, sx3, sx4, sx5, sx6, sx7, sy0, sy1, List.filterMap_cons, JC, JD, WT, JE, JF, JG, JH, JI, JJ, JK, WU, JL, JM, JN, JO, WV, JP, JQ, WW, JR, JS, JT, JU, JV, JW, JX, JY, JZ, WA, WB, WC, WD, WE, WF, WG, WH, WI, WJ, WK, WL, WM, WN, true_and, and_true, reduceCtorEq, ↓reduceIte, ↓bifT, ↓bifF, ↓gifT, ↓gifF, eq_self, WO, WP, WQ, Nat.reduceLT, Nat.reduceLeDiff, Nat.reduceAdd, Nat.reduceSub, Nat.reduceMul, Nat.reduceMod, WR, Nat.reduceBEq, Int.reduceBEq, Int.reduceBNe, BEq.rfl])
    | (refine SX.cond rfl (fun hb => ?_) (fun hb => ?_) <;> ((first | cases hb | (simp only [decide_eq_true_eq, decide_eq_false_iff_not, beq_iff_eq, beq_eq_false_iff_ne, bne_iff_ne, Bool.and_eq_true, Bool.or_eq_true, Bool.not_eq_true', Bool.not_eq_false', Bool.and_eq_false_iff, Bool.or_eq_false_iff, Int.not_lt, Int.not_le] at hb) | skip) <;> (first | (exfalso; omega) | skip)))
    | (refine SX.ret ?_; try simp only [WS, JA, JB, wI64, wU64, Int.reduceAdd, Int.reduceSub, Int.reduceMul, Int.reduceLE, Int.reduceLT, Int.reduceNeg, Int.reduceToNat, Int.cast_ofNat_Int, sx0, sx1, sx2, sx3, sx4, sx5, sx6, sx7, sy0, sy1, List.filterMap_cons, JC, JD, WT, JE, JF, JG, JH, JI, JJ, JK, WU, JL, JM, JN, JO, WV, JP, JQ, WW, JR, JS, JT, JU, JV, JW, JX, JY, JZ, WA, WB, WC, WD, WE, WF, WG, WH, WI, WJ, WK, WL, WM, WN, true_and, and_true, reduceCtorEq, ↓reduceIte, ↓bifT, ↓bifF, ↓gifT, ↓gifF, eq_self, WO, WP, WQ, Nat.reduceLT, Nat.reduceLeDiff, Nat.reduceAdd, Nat.reduceSub, Nat.reduceMul, Nat.reduceMod, WR, Nat.reduceBEq, Int.reduceBEq, Int.reduceBNe, BEq.rfl])
    | (refine hN _ ?_; clear hN N)
    | (refine hK _ _ (Fin.res rfl hown ?_); simp only [WS, JA, JB, wI64, wU64, Int.reduceAdd, Int.reduceSub, Int.reduceMul, Int.reduceLE, Int.reduceLT, Int.reduceNeg, Int.reduceToNat, Int.cast_ofNat_Int, sx0, sx1, sx2, sx3, sx4, sx5, sx6, sx7, sy0, sy1, List.filterMap_cons, JC, JD, WT, JE, JF, JG, JH, JI, JJ, JK, WU, JL, JM, JN, JO, WV, JP, JQ, WW, JR, JS, JT, JU, JV, JW, JX, JY, JZ, WA, WB, WC, WD, WE, WF, WG, WH, WI, WJ, WK, WL, WM, WN, true_and, and_true, reduceCtorEq, ↓reduceIte, ↓bifT, ↓bifF, ↓gifT, ↓gifF, eq_self, WO, WP, WQ, Nat.reduceLT, Nat.reduceLeDiff, Nat.reduceAdd, Nat.reduceSub, Nat.reduceMul, Nat.reduceMod, WR, Nat.reduceBEq, Int.reduceBEq, Int.reduceBNe, BEq.rfl, f_a, f_b, f_n, f_c, f_B, f_v, f_g, f_0, f_1, f_2, hT, hwi]; intro w' hbel; refine Done.out ?_)
    | (clear hN N; first | (refine hN _ ?_; clear hN N) | (clear hN N; first | (refine hN _ ?_; clear hN N) | (clear hN N; first | (refine hN _ ?_; clear hN N) | (clear hN N; first | (refine hN _ ?_; clear hN N) | (clear hN N; first | (refine hN _ ?_; clear hN N) | (refine hN _ ?_; clear hN N))))))
    | (refine bif2.mk (fun hb => ?_) (fun hb => ?_) <;> (try simp only [hb, WS, JA, JB, wI64, wU64, Int.reduceAdd, Int.reduceSub, Int.reduceMul, Int.reduceLE, Int.reduceLT, Int.reduceNeg, Int.reduceToNat, Int.cast_ofNat_Int, sx0, sx1, sx2, sx3, sx4, sx5, sx6, sx7, sy0, sy1, List.filterMap_cons, JC, JD, WT, JE, JF, JG, JH, JI, JJ, JK, WU, JL, JM, JN, JO, WV, JP, JQ, WW, JR, JS, JT, JU, JV, JW, JX, JY, JZ, WA, WB, WC, WD, WE, WF, WG, WH, WI, WJ, WK, WL, WM, WN, true_and, and_true, reduceCtorEq, ↓reduceIte, ↓bifT, ↓bifF, ↓gifT, ↓gifF, eq_self, WO, WP, WQ, Nat.reduceLT, Nat.reduceLeDiff, Nat.reduceAdd, Nat.reduceSub, Nat.reduceMul, Nat.reduceMod, WR, Nat.reduceBEq, Int.reduceBEq, Int.reduceBNe, BEq.rfl, hnt, hT]) <;> ((first | cases hb | (simp only [decide_eq_true_eq, decide_eq_false_iff_not, beq_iff_eq, beq_eq_false_iff_ne, bne_iff_ne, Bool.and_eq_true, Bool.or_eq_true, Bool.not_eq_true', Bool.not_eq_false', Bool.and_eq_false_iff, Bool.or_eq_false_iff, Int.not_lt, Int.not_le] at hb) | skip) <;> (first | (exfalso; omega) | skip)))
    | ((first | (refine CallVC.pv hP (key_any _ _ hs) rfl ?_) | (refine CallQ.pv hP (key_any _ _ hs) rfl ?_)); simp only [WS, JA, JB, wI64, wU64, Int.reduceAdd, Int.reduceSub, Int.reduceMul, Int.reduceLE, Int.reduceLT, Int.reduceNeg, Int.reduceToNat, Int.cast_ofNat_Int, sx0, sx1, sx2, sx3, sx4, sx5, sx6, sx7, sy0, sy1, List.filterMap_cons, JC, JD, WT, JE, JF, JG, JH, JI, JJ, JK, WU, JL, JM, JN, JO, WV, JP, JQ, WW, JR, JS, JT, JU, JV, JW, JX, JY, JZ, WA, WB, WC, WD, WE, WF, WG, WH, WI, WJ, WK, WL, WM, WN, true_and, and_true, reduceCtorEq, ↓reduceIte, ↓bifT, ↓bifF, ↓gifT, ↓gifF, eq_self, WO, WP, WQ, Nat.reduceLT, Nat.reduceLeDiff, Nat.reduceAdd, Nat.reduceSub, Nat.reduceMul, Nat.reduceMod, WR, Nat.reduceBEq, Int.reduceBEq, Int.reduceBNe, BEq.rfl, hnt, hT])
    | (refine SX.block ?_)
    | (refine and_mk ?_ ?_; (focus first | decide | omega | rfl | assumption | (simp only [List.length_append, List.length_cons, List.length_nil, B_size]; omega) | (simp; done)))
    | (refine And.intro ?_ ?_))
  all_goals (try refine Done.mk ?_)
  all_goals (refine ⟨?_, hbel⟩; simp_all [statusB] <;> (intros; omega))
end Go.Proofs.YtbdacbcpniegiaaDoor
namespace Go.Proofs.YtbdacbcpniegiaaDoor
open Go Go.RowKit Go.Proofs Go.Sx
set_option maxHeartbeats 4000000
set_option maxRecDepth 100000
set_option linter.unusedSimpArgs false
set_option linter.unusedVariables false
theorem noEscape_run {P : Program} (hP : P = Tryd.prog) (v : Value) (w : World) : (callFunc 150 #[v]).run P w = .ok (.value v) w := by
  subst hP
  rw [run_callFunc_extern Tryd.func150 (by kernel_rfl) (by kernel_rfl) (by kernel_rfl) (e := Extern.AbiNoEscape.same) (by kernel_rfl), Lib.run_noEscape]
  rfl
theorem writeByte_fresh (b : Int) : Ctr Tryd.prog [] 65 [.cells [.v (.pointer none), .v (.slice none 0 0)] 123] [.one (.c (.loc 0 0)), vv (.int .u8 b)]
    (fun os s => os = [.cells [.loc 0 0, .row 3] 123, .cells [.v (.int .u8 b)] 5, .gone, .row 5 1 1 [.int .u8 b]] ∧ s = vv .nilIface) := by
  intro X0 hP0 hG0 N0 hN0
  refine CallVC.inline (f := 65) (by rw [hP0]; exact Tryd.func65) rfl Tryd.ntmps65 rfl (by simp) ?_
  intro X K hU hnt hbl hK
  have hP : X.P = Tryd.prog := by rw [hU.P, hP0]
  have hG := hG0.under hU
  have hT : calleeOk X.P 122 = true ∧ fieldOff X.P 121 1 = some 1 ∧ aggOf X.P 58 = some false ∧ szOf X.P 58 = some 1 ∧ elemSz X.P 58 = some (5, 1) ∧ zeroCells X.P 5 = some [(Value.int IntKind.u8 0)] ∧ elemInf X.P 58 = some (5, 1, 1, (Value.int IntKind.u8 0)) ∧ isStrT X.P 58 = false := by rw [hP]; exact ⟨Ty.co122, Ty.fo121_1, Ty.ag58, Ty.sz58, Ty.el58, Ty.ze5, Ty.ei58, Ty.is58⟩
  simp only [WS, JA, JB, wI64, wU64, Int.reduceAdd, Int.reduceSub, Int.reduceMul, Int.reduceLE, Int.reduceLT, Int.reduceNeg, Int.reduceToNat, Int.cast_ofNat_Int, sx0, sx1, sx2, sx3, sx4, sx5, sx6, sx7, sy0, sy1, List.filterMap_cons, JC, JD, WT, JE, JF, JG, JH, JI, JJ, JK, WU, JL, JM, JN, JO, WV, JP, JQ, WW, JR, JS, JT, JU, JV, JW, JX, JY, JZ, WA, WB, WC, WD, WE, WF, WG, WH, WI, WJ, WK, WL, WM, WN, true_and, and_true, reduceCtorEq, ↓reduceIte, ↓bifT, ↓bifF, ↓gifT, ↓gifF, eq_self, WO, WP, WQ, Nat.reduceLT, Nat.reduceLeDiff, Nat.reduceAdd, Nat.reduceSub, Nat.reduceMul, Nat.reduceMod, WR, Nat.reduceBEq, Int.reduceBEq, Int.reduceBNe, BEq.rfl] at hbl ⊢
  have hnt1 := True.intro; have hT1 := True.intro; have hU1P := True.intro
  repeat' (first
    | (refine SX.seqK ?_; intro N hN)
    | ((first | (refine SX.ops ?_)); simp only [WS, JA, JB, wI64, wU64, Int.reduceAdd, Int.reduceSub, Int.reduceMul, Int.reduceLE, Int.reduceLT, Int.reduceNeg, Int.reduceToNat, Int.cast_ofNat_Int, sx0, sx1, sx2, sx3, sx4, sx5, sx6, sx7, sy0, sy1, List.filterMap_cons, JC, JD, WT, JE, JF, JG, JH, JI, JJ, JK, WU, JL, JM, JN, JO, WV, JP, JQ, WW, JR, JS, JT, JU, JV, JW, JX, JY, JZ, WA, WB, WC, WD, WE, WF, WG, WH, WI, WJ, WK, WL, WM, WN, true_and, and_true, reduceCtorEq, ↓reduceIte, ↓bifT, ↓bifF, ↓gifT, ↓gifF, eq_self, WO, WP, WQ, Nat.reduceLT, Nat.reduceLeDiff, Nat.reduceAdd, Nat.reduceSub, Nat.reduceMul, Nat.reduceMod, WR, Nat.reduceBEq, Int.reduceBEq, Int.reduceBNe, BEq.rfl, hnt, hT, hnt1, hT1, hU1P])
    | ((first | refine SX.skip ?_ | refine SX.exit ?_ | refine SX.label ?_); try simp only [WS, JA, JB, wI64, wU64, Int.reduceAdd, Int.reduceSub, Int.reduceMul, Int.reduceLE, Int.reduceLT, Int.reduceNeg, Int.reduceToNat, Int.cast_ofNat_Int, sx0, sx1, sx2, sx3, sx4, sx5, sx6, sx7, sy0, sy1, List.filterMap_cons, JC, JD, WT, JE, JF, JG, JH, JI, JJ, JK, WU, JL, JM, JN, JO, WV, JP, JQ, WW, JR, JS, JT, JU, JV, JW, JX, JY, JZ, WA, WB, WC, WD, WE, WF, WG, WH, WI, WJ, WK, WL, WM, WN, true_and, and_true, reduceCtorEq, ↓reduceIte, ↓bifT, ↓bifF, ↓gifT, ↓gifF, eq_self, WO, WP, WQ, Nat.reduceLT, Nat.reduceLeDiff, Nat.reduceAdd, Nat.reduceSub, Nat.reduceMul, Nat.reduceMod, WR, Nat.reduceBEq, Int.reduceBEq, Int.reduceBNe, BEq.rfl])
    | (refine SX.cond rfl (fun hb => ?_) (fun hb => ?_) <;> ((first | cases hb | (simp only [decide_eq_true_eq, decide_eq_false_iff_not, beq_iff_eq, beq_eq_false_iff_ne, bne_iff_ne, Bool.and_eq_true, Bool.or_eq_true, Bool.not_eq_true', Bool.not_eq_false', Bool.and_eq_false_iff, Bool.or_eq_false_iff, Int.not_lt, Int.not_le] at hb) | skip) <;> (first | (exfalso; omega) | skip)))
    | (refine SX.ret ?_; try simp only [WS, JA, JB, wI64, wU64, Int.reduceAdd, Int.reduceSub, Int.reduceMul, Int.reduceLE, Int.reduceLT, Int.reduceNeg, Int.reduceToNat, Int.cast_ofNat_Int, sx0, sx1, sx2, sx3, sx4, sx5, sx6, sx7, sy0, sy1, List.filterMap_cons, JC, JD, WT, JE, JF, JG, JH, JI, JJ, JK, WU, JL, JM, JN, JO, WV, JP, JQ, WW, JR, JS, JT, JU, JV, JW, JX, JY, JZ, WA, WB, WC, WD, WE, WF, WG, WH, WI, WJ, WK, WL, WM, WN, true_and, and_true, reduceCtorEq, ↓reduceIte, ↓bifT, ↓bifF, ↓gifT, ↓gifF, eq_self, WO, WP, WQ, Nat.reduceLT, Nat.reduceLeDiff, Nat.reduceAdd, Nat.reduceSub, Nat.reduceMul, Nat.reduceMod, WR, Nat.reduceBEq, Int.reduceBEq, Int.reduceBNe, BEq.rfl])
    | (refine hN _ ?_; clear hN N)
    | ((first | refine hK1 _ _ (FinI.ret3 ?_) | refine hK1 _ _ (FinI.nrm3 ?_)); (repeat (clear hN N)); clear hK1 K1; simp only [WS, JA, JB, wI64, wU64, Int.reduceAdd, Int.reduceSub, Int.reduceMul, Int.reduceLE, Int.reduceLT, Int.reduceNeg, Int.reduceToNat, Int.cast_ofNat_Int, sx0, sx1, sx2, sx3, sx4, sx5, sx6, sx7, sy0, sy1, List.filterMap_cons, JC, JD, WT, JE, JF, JG, JH, JI, JJ, JK, WU, JL, JM, JN, JO, WV, JP, JQ, WW, JR, JS, JT, JU, JV, JW, JX, JY, JZ, WA, WB, WC, WD, WE, WF, WG, WH, WI, WJ, WK, WL, WM, WN, true_and, and_true, reduceCtorEq, ↓reduceIte, ↓bifT, ↓bifF, ↓gifT, ↓gifF, eq_self, WO, WP, WQ, Nat.reduceLT, Nat.reduceLeDiff, Nat.reduceAdd, Nat.reduceSub, Nat.reduceMul, Nat.reduceMod, WR, Nat.reduceBEq, Int.reduceBEq, Int.reduceBNe, BEq.rfl, finP_s, hnt, hT, hnt1, hT1, hU1P])
    | ((first | refine hK _ _ (FinI.ret3 ?_) | refine hK _ _ (FinI.nrm3 ?_)); simp only [WS, JA, JB, wI64, wU64, Int.reduceAdd, Int.reduceSub, Int.reduceMul, Int.reduceLE, Int.reduceLT, Int.reduceNeg, Int.reduceToNat, Int.cast_ofNat_Int, sx0, sx1, sx2, sx3, sx4, sx5, sx6, sx7, sy0, sy1, List.filterMap_cons, JC, JD, WT, JE, JF, JG, JH, JI, JJ, JK, WU, JL, JM, JN, JO, WV, JP, JQ, WW, JR, JS, JT, JU, JV, JW, JX, JY, JZ, WA, WB, WC, WD, WE, WF, WG, WH, WI, WJ, WK, WL, WM, WN, true_and, and_true, reduceCtorEq, ↓reduceIte, ↓bifT, ↓bifF, ↓gifT, ↓gifF, eq_self, WO, WP, WQ, Nat.reduceLT, Nat.reduceLeDiff, Nat.reduceAdd, Nat.reduceSub, Nat.reduceMul, Nat.reduceMod, WR, Nat.reduceBEq, Int.reduceBEq, Int.reduceBNe, BEq.rfl, finP_s, hnt, hT, hnt1, hT1, hU1P]; refine Done.out ?_)
    | (clear hN N; first | (refine hN _ ?_; clear hN N) | (clear hN N; first | (refine hN _ ?_; clear hN N) | (clear hN N; first | (refine hN _ ?_; clear hN N) | (clear hN N; first | (refine hN _ ?_; clear hN N) | (clear hN N; first | (refine hN _ ?_; clear hN N) | (refine hN _ ?_; clear hN N))))))
    | (refine bif2.mk (fun hb => ?_) (fun hb => ?_) <;> (try simp only [hb, WS, JA, JB, wI64, wU64, Int.reduceAdd, Int.reduceSub, Int.reduceMul, Int.reduceLE, Int.reduceLT, Int.reduceNeg, Int.reduceToNat, Int.cast_ofNat_Int, sx0, sx1, sx2, sx3, sx4, sx5, sx6, sx7, sy0, sy1, List.filterMap_cons, JC, JD, WT, JE, JF, JG, JH, JI, JJ, JK, WU, JL, JM, JN, JO, WV, JP, JQ, WW, JR, JS, JT, JU, JV, JW, JX, JY, JZ, WA, WB, WC, WD, WE, WF, WG, WH, WI, WJ, WK, WL, WM, WN, true_and, and_true, reduceCtorEq, ↓reduceIte, ↓bifT, ↓bifF, ↓gifT, ↓gifF, eq_self, WO, WP, WQ, Nat.reduceLT, Nat.reduceLeDiff, Nat.reduceAdd, Nat.reduceSub, Nat.reduceMul, Nat.reduceMod, WR, Nat.reduceBEq, Int.reduceBEq, Int.reduceBNe, BEq.rfl, hnt, hT, hnt1, hT1, hU1P]) <;> ((first | cases hb | (simp only [decide_eq_true_eq, decide_eq_false_iff_not, beq_iff_eq, beq_eq_false_iff_ne, bne_iff_ne, Bool.and_eq_true, Bool.or_eq_true, Bool.not_eq_true', Bool.not_eq_false', Bool.and_eq_false_iff, Bool.or_eq_false_iff, Int.not_lt, Int.not_le] at hb) | skip) <;> (first | (exfalso; omega) | skip)))
    | (refine CallVC.inline (f := 122) ?_ rfl Tryd.ntmps122 rfl ?_ ?_; (focus rw [hP]; exact Tryd.func122); (focus simp); have hT1 : fieldOff X.P 121 0 = some 0 ∧ aggOf X.P 119 = some false ∧ szOf X.P 119 = some 1 ∧ X.P.underlying 119 = some (TypeDesc.pointer 121) ∧ X.P.underlying 211 = some TypeDesc.unsafePointer ∧ isBytesT X.P 119 = false ∧ isStrT X.P 211 = false ∧ calleeOk X.P 150 = false ∧ isBytesT X.P 211 = false ∧ isStrT X.P 119 = false := (by rw [hP]; exact ⟨Ty.fo121_0, Ty.ag119, Ty.sz119, Tryd.underlying119, Tryd.underlying211, Ty.ib119, Ty.is211, Ty.cx150, Ty.ib211, Ty.is119⟩); intro X1 K1 hU1 hnt1 hbl1 hK1; have hU1P := hU1.P; simp only [WS, JA, JB, wI64, wU64, Int.reduceAdd, Int.reduceSub, Int.reduceMul, Int.reduceLE, Int.reduceLT, Int.reduceNeg, Int.reduceToNat, Int.cast_ofNat_Int, sx0, sx1, sx2, sx3, sx4, sx5, sx6, sx7, sy0, sy1, List.filterMap_cons, JC, JD, WT, JE, JF, JG, JH, JI, JJ, JK, WU, JL, JM, JN, JO, WV, JP, JQ, WW, JR, JS, JT, JU, JV, JW, JX, JY, JZ, WA, WB, WC, WD, WE, WF, WG, WH, WI, WJ, WK, WL, WM, WN, true_and, and_true, reduceCtorEq, ↓reduceIte, ↓bifT, ↓bifF, ↓gifT, ↓gifF, eq_self, WO, WP, WQ, Nat.reduceLT, Nat.reduceLeDiff, Nat.reduceAdd, Nat.reduceSub, Nat.reduceMul, Nat.reduceMod, WR, Nat.reduceBEq, Int.reduceBEq, Int.reduceBNe, BEq.rfl] at hbl1 ⊢)
    | (refine VO.toUnsafe (src := 119) (t := 121) rfl (by rw [hU1P, hP]; kernel_rfl) (by rw [hU1P, hP]; kernel_rfl) (n := 1) (by rw [hU1P, hP]; kernel_rfl) rfl (by decide) ?_; simp only [WS, JA, JB, wI64, wU64, Int.reduceAdd, Int.reduceSub, Int.reduceMul, Int.reduceLE, Int.reduceLT, Int.reduceNeg, Int.reduceToNat, Int.cast_ofNat_Int, sx0, sx1, sx2, sx3, sx4, sx5, sx6, sx7, sy0, sy1, List.filterMap_cons, JC, JD, WT, JE, JF, JG, JH, JI, JJ, JK, WU, JL, JM, JN, JO, WV, JP, JQ, WW, JR, JS, JT, JU, JV, JW, JX, JY, JZ, WA, WB, WC, WD, WE, WF, WG, WH, WI, WJ, WK, WL, WM, WN, true_and, and_true, reduceCtorEq, ↓reduceIte, ↓bifT, ↓bifF, ↓gifT, ↓gifF, eq_self, WO, WP, WQ, Nat.reduceLT, Nat.reduceLeDiff, Nat.reduceAdd, Nat.reduceSub, Nat.reduceMul, Nat.reduceMod, WR, Nat.reduceBEq, Int.reduceBEq, Int.reduceBNe, BEq.rfl, hnt, hnt1, hT, hT1, hU1P])
    | (refine VO.same rfl (noEscape_run (hU1P.trans hP)) ?_; simp only [WS, JA, JB, wI64, wU64, Int.reduceAdd, Int.reduceSub, Int.reduceMul, Int.reduceLE, Int.reduceLT, Int.reduceNeg, Int.reduceToNat, Int.cast_ofNat_Int, sx0, sx1, sx2, sx3, sx4, sx5, sx6, sx7, sy0, sy1, List.filterMap_cons, JC, JD, WT, JE, JF, JG, JH, JI, JJ, JK, WU, JL, JM, JN, JO, WV, JP, JQ, WW, JR, JS, JT, JU, JV, JW, JX, JY, JZ, WA, WB, WC, WD, WE, WF, WG, WH, WI, WJ, WK, WL, WM, WN, true_and, and_true, reduceCtorEq, ↓reduceIte, ↓bifT, ↓bifF, ↓gifT, ↓gifF, eq_self, WO, WP, WQ, Nat.reduceLT, Nat.reduceLeDiff, Nat.reduceAdd, Nat.reduceSub, Nat.reduceMul, Nat.reduceMod, WR, Nat.reduceBEq, Int.reduceBEq, Int.reduceBNe, BEq.rfl, hnt, hnt1, hT, hT1, hU1P])
    | (refine VO.fromUnsafe (src := 211) (u := 121) rfl (by rw [hU1P, hP]; kernel_rfl) (by rw [hU1P, hP]; kernel_rfl) (n := 2) (by rw [hU1P, hP]; kernel_rfl) rfl (by rw [hU1P, hP]; kernel_rfl) ?_; simp only [WS, JA, JB, wI64, wU64, Int.reduceAdd, Int.reduceSub, Int.reduceMul, Int.reduceLE, Int.reduceLT, Int.reduceNeg, Int.reduceToNat, Int.cast_ofNat_Int, sx0, sx1, sx2, sx3, sx4, sx5, sx6, sx7, sy0, sy1, List.filterMap_cons, JC, JD, WT, JE, JF, JG, JH, JI, JJ, JK, WU, JL, JM, JN, JO, WV, JP, JQ, WW, JR, JS, JT, JU, JV, JW, JX, JY, JZ, WA, WB, WC, WD, WE, WF, WG, WH, WI, WJ, WK, WL, WM, WN, true_and, and_true, reduceCtorEq, ↓reduceIte, ↓bifT, ↓bifF, ↓gifT, ↓gifF, eq_self, WO, WP, WQ, Nat.reduceLT, Nat.reduceLeDiff, Nat.reduceAdd, Nat.reduceSub, Nat.reduceMul, Nat.reduceMod, WR, Nat.reduceBEq, Int.reduceBEq, Int.reduceBNe, BEq.rfl, hnt, hnt1, hT, hT1, hU1P])
    | (refine VO.ptrNil (e := 121) rfl rfl (by rw [hU1P, hP]; kernel_rfl) ?_; simp only [WS, JA, JB, wI64, wU64, Int.reduceAdd, Int.reduceSub, Int.reduceMul, Int.reduceLE, Int.reduceLT, Int.reduceNeg, Int.reduceToNat, Int.cast_ofNat_Int, sx0, sx1, sx2, sx3, sx4, sx5, sx6, sx7, sy0, sy1, List.filterMap_cons, JC, JD, WT, JE, JF, JG, JH, JI, JJ, JK, WU, JL, JM, JN, JO, WV, JP, JQ, WW, JR, JS, JT, JU, JV, JW, JX, JY, JZ, WA, WB, WC, WD, WE, WF, WG, WH, WI, WJ, WK, WL, WM, WN, true_and, and_true, reduceCtorEq, ↓reduceIte, ↓bifT, ↓bifF, ↓gifT, ↓gifF, eq_self, WO, WP, WQ, Nat.reduceLT, Nat.reduceLeDiff, Nat.reduceAdd, Nat.reduceSub, Nat.reduceMul, Nat.reduceMod, WR, Nat.reduceBEq, Int.reduceBEq, Int.reduceBNe, BEq.rfl, hnt, hnt1, hT, hT1, hU1P])
    | (refine VO.ptrSame (e := 121) (n := 2) rfl rfl (by rw [hU1P, hP]; kernel_rfl) (by rw [hU1P, hP]; kernel_rfl) ?_; simp only [WS, JA, JB, wI64, wU64, Int.reduceAdd, Int.reduceSub, Int.reduceMul, Int.reduceLE, Int.reduceLT, Int.reduceNeg, Int.reduceToNat, Int.cast_ofNat_Int, sx0, sx1, sx2, sx3, sx4, sx5, sx6, sx7, sy0, sy1, List.filterMap_cons, JC, JD, WT, JE, JF, JG, JH, JI, JJ, JK, WU, JL, JM, JN, JO, WV, JP, JQ, WW, JR, JS, JT, JU, JV, JW, JX, JY, JZ, WA, WB, WC, WD, WE, WF, WG, WH, WI, WJ, WK, WL, WM, WN, true_and, and_true, reduceCtorEq, ↓reduceIte, ↓bifT, ↓bifF, ↓gifT, ↓gifF, eq_self, WO, WP, WQ, Nat.reduceLT, Nat.reduceLeDiff, Nat.reduceAdd, Nat.reduceSub, Nat.reduceMul, Nat.reduceMod, WR, Nat.reduceBEq, Int.reduceBEq, Int.reduceBNe, BEq.rfl, hnt, hnt1, hT, hT1, hU1P])
    | (refine SX.block ?_)
    | (refine and_mk ?_ ?_; (focus first | decide | omega | rfl | assumption | (simp only [List.length_append, List.length_cons, List.length_nil, B_size]; omega) | (simp; done)))
    | (refine And.intro ?_ ?_))
  all_goals (try refine Done.mk ?_)
  exact hN0 _ _ ⟨rfl, rfl⟩
theorem writeString_used (l s : List UInt8) (n : Nat) (hn : n + s.length ≤ 1152921504606) : Ctr Tryd.prog [] 123 [.cells [.loc 0 0, .row 1] 123, .row 5 1 n (bcells l)] [.one (.c (.loc 0 0)), vv (.string (B s))]
    (fun os r => os = [.cells [.loc 0 0, .row 2] 123, .gone, .row 5 1 (n + s.length) (bcells (l ++ s))] ∧ r = .tup [.c (.v (.int .i64 s.length)), .c (.v .nilIface)]) := by
  intro X0 hP0 hG0 N0 hN0
  refine CallVC.inline (f := 123) (by rw [hP0]; exact Tryd.func123) rfl Tryd.ntmps123 rfl (by simp) ?_
  intro X K hU hnt hbl hK
  have hP : X.P = Tryd.prog := by rw [hU.P, hP0]
  have hG := hG0.under hU
  have hT : calleeOk X.P 122 = true ∧ fieldOff X.P 121 1 = some 1 ∧ aggOf X.P 58 = some false ∧ szOf X.P 58 = some 1 ∧ elemInf X.P 58 = some (5, 1, 1, (Value.int IntKind.u8 0)) ∧ isStrT X.P 9 = true ∧ X.P.underlying 9 = some TypeDesc.string := by rw [hP]; exact ⟨Ty.co122, Ty.fo121_1, Ty.ag58, Ty.sz58, Ty.ei58, Ty.is9, Tryd.underlying9⟩
  simp only [WS, JA, JB, wI64, wU64, Int.reduceAdd, Int.reduceSub, Int.reduceMul, Int.reduceLE, Int.reduceLT, Int.reduceNeg, Int.reduceToNat, Int.cast_ofNat_Int, sx0, sx1, sx2, sx3, sx4, sx5, sx6, sx7, sy0, sy1, List.filterMap_cons, JC, JD, WT, JE, JF, JG, JH, JI, JJ, JK, WU, JL, JM, JN, JO, WV, JP, JQ, WW, JR, JS, JT, JU, JV, JW, JX, JY, JZ, WA, WB, WC, WD, WE, WF, WG, WH, WI, WJ, WK, WL, WM, WN, true_and, and_true, reduceCtorEq, ↓reduceIte, ↓bifT, ↓bifF, ↓gifT, ↓gifF, eq_self, WO, WP, WQ, Nat.reduceLT, Nat.reduceLeDiff, Nat.reduceAdd, Nat.reduceSub, Nat.reduceMul, Nat.reduceMod, WR, Nat.reduceBEq, Int.reduceBEq, Int.reduceBNe, BEq.rfl] at hbl ⊢
  have hnt1 := True.intro; have hT1 := True.intro; have hU1P := True.intro
  repeat' (first
    | (refine SX.seqK ?_; intro N hN)
    | ((first | (refine SX.ops ?_)); simp only [WS, JA, JB, wI64, wU64, Int.reduceAdd, Int.reduceSub, Int.reduceMul, Int.reduceLE, Int.reduceLT, Int.reduceNeg, Int.reduceToNat, Int.cast_ofNat_Int, sx0, sx1, sx2, sx3, sx4, sx5, sx6, sx7, sy0, sy1, List.filterMap_cons, JC, JD, WT, JE, JF, JG, JH, JI, JJ, JK, WU, JL, JM, JN, JO, WV, JP, JQ, WW, JR, JS, JT, JU, JV, JW, JX, JY, JZ, WA, WB, WC, WD, WE, WF, WG, WH, WI, WJ, WK, WL, WM, WN, true_and, and_true, reduceCtorEq, ↓reduceIte, ↓bifT, ↓bifF, ↓gifT, ↓gifF, eq_self, WO, WP, WQ, Nat.reduceLT, Nat.reduceLeDiff, Nat.reduceAdd, Nat.reduceSub, Nat.reduceMul, Nat.reduceMod, WR, Nat.reduceBEq, Int.reduceBEq, Int.reduceBNe, BEq.rfl, hnt, hT, hnt1, hT1, hU1P, bcells_append])
    | ((first | refine SX.skip ?_ | refine SX.exit ?_ | refine SX.label ?_); try simp only [WS, JA, JB, wI64, wU64, Int.reduceAdd, Int.reduceSub, Int.reduceMul, Int.reduceLE, Int.reduceLT, Int.reduceNeg, Int.reduceToNat, Int.cast_ofNat_Int, sx0, sx1, sx2, sx3, sx4, sx5, sx6, sx7, sy0, sy1, List.filterMap_cons, JC, JD, WT, JE, JF, JG, JH, JI, JJ, JK, WU, JL, JM, JN, JO, WV, JP, JQ, WW, JR, JS, JT, JU, JV, JW, JX, JY, JZ, WA, WB, WC, WD, WE, WF, WG, WH, WI, WJ, WK, WL, WM, WN, true_and, and_true, reduceCtorEq, ↓reduceIte, ↓bifT, ↓bifF, ↓gifT, ↓gifF, eq_self, WO, WP, WQ, Nat.reduceLT, Nat.reduceLeDiff, Nat.reduceAdd, Nat.reduceSub, Nat.reduceMul, Nat.reduceMod, WR, Nat.reduceBEq, Int.reduceBEq, Int.reduceBNe, BEq.rfl])
    | (refine SX.cond rfl (fun hb => ?_) (fun hb => ?_) <;> ((first | cases hb | (simp only [decide_eq_true_eq, decide_eq_false_iff_not, beq_iff_eq, beq_eq_false_iff_ne, bne_iff_ne, Bool.and_eq_true, Bool.or_eq_true, Bool.not_eq_true', Bool.not_eq_false', Bool.and_eq_false_iff, Bool.or_eq_false_iff, Int.not_lt, Int.not_le] at hb) | skip) <;> (first | (exfalso; omega) | skip)))
    | (refine SX.ret ?_; try simp only [WS, JA, JB, wI64, wU64, Int.reduceAdd, Int.reduceSub, Int.reduceMul, Int.reduceLE, Int.reduceLT, Int.reduceNeg, Int.reduceToNat, Int.cast_ofNat_Int, sx0, sx1, sx2, sx3, sx4, sx5, sx6, sx7, sy0, sy1, List.filterMap_cons, JC, JD, WT, JE, JF, JG, JH, JI, JJ, JK, WU, JL, JM, JN, JO, WV, JP, JQ, WW, JR, JS, JT, JU, JV, JW, JX, JY, JZ, WA, WB, WC, WD, WE, WF, WG, WH, WI, WJ, WK, WL, WM, WN, true_and, and_true, reduceCtorEq, ↓reduceIte, ↓bifT, ↓bifF, ↓gifT, ↓gifF, eq_self, WO, WP, WQ, Nat.reduceLT, Nat.reduceLeDiff, Nat.reduceAdd, Nat.reduceSub, Nat.reduceMul, Nat.reduceMod, WR, Nat.reduceBEq, Int.reduceBEq, Int.reduceBNe, BEq.rfl])
    | (refine hN _ ?_; clear hN N)
    | ((first | refine hK1 _ _ (FinI.ret3 ?_) | refine hK1 _ _ (FinI.nrm3 ?_)); (repeat (clear hN N)); clear hK1 K1; simp only [WS, JA, JB, wI64, wU64, Int.reduceAdd, Int.reduceSub, Int.reduceMul, Int.reduceLE, Int.reduceLT, Int.reduceNeg, Int.reduceToNat, Int.cast_ofNat_Int, sx0, sx1, sx2, sx3, sx4, sx5, sx6, sx7, sy0, sy1, List.filterMap_cons, JC, JD, WT, JE, JF, JG, JH, JI, JJ, JK, WU, JL, JM, JN, JO, WV, JP, JQ, WW, JR, JS, JT, JU, JV, JW, JX, JY, JZ, WA, WB, WC, WD, WE, WF, WG, WH, WI, WJ, WK, WL, WM, WN, true_and, and_true, reduceCtorEq, ↓reduceIte, ↓bifT, ↓bifF, ↓gifT, ↓gifF, eq_self, WO, WP, WQ, Nat.reduceLT, Nat.reduceLeDiff, Nat.reduceAdd, Nat.reduceSub, Nat.reduceMul, Nat.reduceMod, WR, Nat.reduceBEq, Int.reduceBEq, Int.reduceBNe, BEq.rfl, finP_s, hnt, hT, hnt1, hT1, hU1P, bcells_append])
    | ((first | refine hK _ _ (FinI.ret3 ?_) | refine hK _ _ (FinI.nrm3 ?_)); simp only [WS, JA, JB, wI64, wU64, Int.reduceAdd, Int.reduceSub, Int.reduceMul, Int.reduceLE, Int.reduceLT, Int.reduceNeg, Int.reduceToNat, Int.cast_ofNat_Int, sx0, sx1, sx2, sx3, sx4, sx5, sx6, sx7, sy0, sy1, List.filterMap_cons, JC, JD, WT, JE, JF, JG, JH, JI, JJ, JK, WU, JL, JM, JN, JO, WV, JP, JQ, WW, JR, JS, JT, JU, JV, JW, JX, JY, JZ, WA, WB, WC, WD, WE, WF, WG, WH, WI, WJ, WK, WL, WM, WN, true_and, and_true, reduceCtorEq, ↓reduceIte, ↓bifT, ↓bifF, ↓gifT, ↓gifF, eq_self, WO, WP, WQ, Nat.reduceLT, Nat.reduceLeDiff, Nat.reduceAdd, Nat.reduceSub, Nat.reduceMul, Nat.reduceMod, WR, Nat.reduceBEq, Int.reduceBEq, Int.reduceBNe, BEq.rfl, finP_s, hnt, hT, hnt1, hT1, hU1P, bcells_append]; refine Done.out ?_)
    | (clear hN N; first | (refine hN _ ?_; clear hN N) | (clear hN N; first | (refine hN _ ?_; clear hN N) | (clear hN N; first | (refine hN _ ?_; clear hN N) | (clear hN N; first | (refine hN _ ?_; clear hN N) | (clear hN N; first | (refine hN _ ?_; clear hN N) | (refine hN _ ?_; clear hN N))))))
    | (refine bif2.mk (fun hb => ?_) (fun hb => ?_) <;> (try simp only [hb, WS, JA, JB, wI64, wU64, Int.reduceAdd, Int.reduceSub, Int.reduceMul, Int.reduceLE, Int.reduceLT, Int.reduceNeg, Int.reduceToNat, Int.cast_ofNat_Int, sx0, sx1, sx2, sx3, sx4, sx5, sx6, sx7, sy0, sy1, List.filterMap_cons, JC, JD, WT, JE, JF, JG, JH, JI, JJ, JK, WU, JL, JM, JN, JO, WV, JP, JQ, WW, JR, JS, JT, JU, JV, JW, JX, JY, JZ, WA, WB, WC, WD, WE, WF, WG, WH, WI, WJ, WK, WL, WM, WN, true_and, and_true, reduceCtorEq, ↓reduceIte, ↓bifT, ↓bifF, ↓gifT, ↓gifF, eq_self, WO, WP, WQ, Nat.reduceLT, Nat.reduceLeDiff, Nat.reduceAdd, Nat.reduceSub, Nat.reduceMul, Nat.reduceMod, WR, Nat.reduceBEq, Int.reduceBEq, Int.reduceBNe, BEq.rfl, hnt, hT, hnt1, hT1, hU1P, bcells_append]) <;> ((first | cases hb | (simp only [decide_eq_true_eq, decide_eq_false_iff_not, beq_iff_eq, beq_eq_false_iff_ne, bne_iff_ne, Bool.and_eq_true, Bool.or_eq_true, Bool.not_eq_true', Bool.not_eq_false', Bool.and_eq_false_iff, Bool.or_eq_false_iff, Int.not_lt, Int.not_le] at hb) | skip) <;> (first | (exfalso; omega) | skip)))
    | (refine CallVC.inline (f := 122) ?_ rfl Tryd.ntmps122 rfl ?_ ?_; (focus rw [hP]; exact Tryd.func122); (focus simp); have hT1 : fieldOff X.P 121 0 = some 0 ∧ aggOf X.P 119 = some false ∧ szOf X.P 119 = some 1 ∧ X.P.underlying 119 = some (TypeDesc.pointer 121) ∧ X.P.underlying 211 = some TypeDesc.unsafePointer ∧ isBytesT X.P 119 = false ∧ isStrT X.P 211 = false ∧ calleeOk X.P 150 = false ∧ isBytesT X.P 211 = false ∧ isStrT X.P 119 = false := (by rw [hP]; exact ⟨Ty.fo121_0, Ty.ag119, Ty.sz119, Tryd.underlying119, Tryd.underlying211, Ty.ib119, Ty.is211, Ty.cx150, Ty.ib211, Ty.is119⟩); intro X1 K1 hU1 hnt1 hbl1 hK1; have hU1P := hU1.P; simp only [WS, JA, JB, wI64, wU64, Int.reduceAdd, Int.reduceSub, Int.reduceMul, Int.reduceLE, Int.reduceLT, Int.reduceNeg, Int.reduceToNat, Int.cast_ofNat_Int, sx0, sx1, sx2, sx3, sx4, sx5, sx6, sx7, sy0, sy1, List.filterMap_cons, JC, JD, WT, JE, JF, JG, JH, JI, JJ, JK, WU, JL, JM, JN, JO, WV, JP, JQ, WW, JR, JS, JT, JU, JV, JW, JX, JY, JZ, WA, WB, WC, WD, WE, WF, WG, WH, WI, WJ, WK, WL, WM, WN, true_and, and_true, reduceCtorEq, ↓reduceIte, ↓bifT, ↓bifF, ↓gifT, ↓gifF, eq_self, WO, WP, WQ, Nat.reduceLT, Nat.reduceLeDiff, Nat.reduceAdd, Nat.reduceSub, Nat.reduceMul, Nat.reduceMod, WR, Nat.reduceBEq, Int.reduceBEq, Int.reduceBNe, BEq.rfl] at hbl1 ⊢)
    | (refine VO.toUnsafe (src := 119) (t := 121) rfl (by rw [hU1P, hP]; kernel_rfl) (by rw [hU1P, hP]; kernel_rfl) (n := 1) (by rw [hU1P, hP]; kernel_rfl) rfl (by decide) ?_; simp only [WS, JA, JB, wI64, wU64, Int.reduceAdd, Int.reduceSub, Int.reduceMul, Int.reduceLE, Int.reduceLT, Int.reduceNeg, Int.reduceToNat, Int.cast_ofNat_Int, sx0, sx1, sx2, sx3, sx4, sx5, sx6, sx7, sy0, sy1, List.filterMap_cons, JC, JD, WT, JE, JF, JG, JH, JI, JJ, JK, WU, JL, JM, JN, JO, WV, JP, JQ, WW, JR, JS, JT, JU, JV, JW, JX, JY, JZ, WA, WB, WC, WD, WE, WF, WG, WH, WI, WJ, WK, WL, WM, WN, true_and, and_true, reduceCtorEq, ↓reduceIte, ↓bifT, ↓bifF, ↓gifT, ↓gifF, eq_self, WO, WP, WQ, Nat.reduceLT, Nat.reduceLeDiff, Nat.reduceAdd, Nat.reduceSub, Nat.reduceMul, Nat.reduceMod, WR, Nat.reduceBEq, Int.reduceBEq, Int.reduceBNe, BEq.rfl, hnt, hnt1, hT, hT1, hU1P])
    | (refine VO.same rfl (noEscape_run (hU1P.trans hP)) ?_; simp only [WS, JA, JB, wI64, wU64, Int.reduceAdd, Int.reduceSub, Int.reduceMul, Int.reduceLE, Int.reduceLT, Int.reduceNeg, Int.reduceToNat, Int.cast_ofNat_Int, sx0, sx1, sx2, sx3, sx4, sx5, sx6, sx7, sy0, sy1, List.filterMap_cons, JC, JD, WT, JE, JF, JG, JH, JI, JJ, JK, WU, JL, JM, JN, JO, WV, JP, JQ, WW, JR, JS, JT, JU, JV, JW, JX, JY, JZ, WA, WB, WC, WD, WE, WF, WG, WH, WI, WJ, WK, WL, WM, WN, true_and, and_true, reduceCtorEq, ↓reduceIte, ↓bifT, ↓bifF, ↓gifT, ↓gifF, eq_self, WO, WP, WQ, Nat.reduceLT, Nat.reduceLeDiff, Nat.reduceAdd, Nat.reduceSub, Nat.reduceMul, Nat.reduceMod, WR, Nat.reduceBEq, Int.reduceBEq, Int.reduceBNe, BEq.rfl, hnt, hnt1, hT, hT1, hU1P])
    | (refine VO.fromUnsafe (src := 211) (u := 121) rfl (by rw [hU1P, hP]; kernel_rfl) (by rw [hU1P, hP]; kernel_rfl) (n := 2) (by rw [hU1P, hP]; kernel_rfl) rfl (by rw [hU1P, hP]; kernel_rfl) ?_; simp only [WS, JA, JB, wI64, wU64, Int.reduceAdd, Int.reduceSub, Int.reduceMul, Int.reduceLE, Int.reduceLT, Int.reduceNeg, Int.reduceToNat, Int.cast_ofNat_Int, sx0, sx1, sx2, sx3, sx4, sx5, sx6, sx7, sy0, sy1, List.filterMap_cons, JC, JD, WT, JE, JF, JG, JH, JI, JJ, JK, WU, JL, JM, JN, JO, WV, JP, JQ, WW, JR, JS, JT, JU, JV, JW, JX, JY, JZ, WA, WB, WC, WD, WE, WF, WG, WH, WI, WJ, WK, WL, WM, WN, true_and, and_true, reduceCtorEq, ↓reduceIte, ↓bifT, ↓bifF, ↓gifT, ↓gifF, eq_self, WO, WP, WQ, Nat.reduceLT, Nat.reduceLeDiff, Nat.reduceAdd, Nat.reduceSub, Nat.reduceMul, Nat.reduceMod, WR, Nat.reduceBEq, Int.reduceBEq, Int.reduceBNe, BEq.rfl, hnt, hnt1, hT, hT1, hU1P])
    | (refine VO.ptrNil (e := 121) rfl rfl (by rw [hU1P, hP]; kernel_rfl) ?_; simp only [WS, JA, JB, wI64, wU64, Int.reduceAdd, Int.reduceSub, Int.reduceMul, Int.reduceLE, Int.reduceLT, Int.reduceNeg, Int.reduceToNat, Int.cast_ofNat_Int, sx0, sx1, sx2, sx3, sx4, sx5, sx6, sx7, sy0, sy1, List.filterMap_cons, JC, JD, WT, JE, JF, JG, JH, JI, JJ, JK, WU, JL, JM, JN, JO, WV, JP, JQ, WW, JR, JS, JT, JU, JV, JW, JX, JY, JZ, WA, WB, WC, WD, WE, WF, WG, WH, WI, WJ, WK, WL, WM, WN, true_and, and_true, reduceCtorEq, ↓reduceIte, ↓bifT, ↓bifF, ↓gifT, ↓gifF, eq_self, WO, WP, WQ, Nat.reduceLT, Nat.reduceLeDiff, Nat.reduceAdd, Nat.reduceSub, Nat.reduceMul, Nat.reduceMod, WR, Nat.reduceBEq, Int.reduceBEq, Int.reduceBNe, BEq.rfl, hnt, hnt1, hT, hT1, hU1P])
    | (refine VO.ptrSame (e := 121) (n := 2) rfl rfl (by rw [hU1P, hP]; kernel_rfl) (by rw [hU1P, hP]; kernel_rfl) ?_; simp only [WS, JA, JB, wI64, wU64, Int.reduceAdd, Int.reduceSub, Int.reduceMul, Int.reduceLE, Int.reduceLT, Int.reduceNeg, Int.reduceToNat, Int.cast_ofNat_Int, sx0, sx1, sx2, sx3, sx4, sx5, sx6, sx7, sy0, sy1, List.filterMap_cons, JC, JD, WT, JE, JF, JG, JH, JI, JJ, JK, WU, JL, JM, JN, JO, WV, JP, JQ, WW, JR, JS, JT, JU, JV, JW, JX, JY, JZ, WA, WB, WC, WD, WE, WF, WG, WH, WI, WJ, WK, WL, WM, WN, true_and, and_true, reduceCtorEq, ↓reduceIte, ↓bifT, ↓bifF, ↓gifT, ↓gifF, eq_self, WO, WP, WQ, Nat.reduceLT, Nat.reduceLeDiff, Nat.reduceAdd, Nat.reduceSub, Nat.reduceMul, Nat.reduceMod, WR, Nat.reduceBEq, Int.reduceBEq, Int.reduceBNe, BEq.rfl, hnt, hnt1, hT, hT1, hU1P])
    | (refine SX.block ?_)
    | (refine and_mk ?_ ?_; (focus first | decide | omega | rfl | assumption | (simp only [List.length_append, List.length_cons, List.length_nil, B_size]; omega) | (simp; done)))
    | (refine And.intro ?_ ?_))
  all_goals (try refine Done.mk ?_)
  all_goals (rw [← bcells_append]; exact hN0 _ _ ⟨rfl, rfl⟩)
end Go.Proofs.YtbdacbcpniegiaaDoor
namespace Go.Proofs.YtbdacbcpniegiaaDoor
open Go Go.RowKit Go.Proofs Go.Sx
set_option maxHeartbeats 4000000
set_option maxRecDepth 100000
set_option linter.unusedSimpArgs false
set_option linter.unusedVariables false
def numB (num n : Nat) : List UInt8 := NW.varint (num * 8) ++ NW.varint n
def textB (num : Nat) (s : List UInt8) : List UInt8 := NW.varint (num * 8 + 2) ++ NW.varint s.length ++ s
theorem put_num (num n : Nat) (h1 : 1 ≤ num) (h2 : num < 536870912) (hn : n < 18446744073709551616) (w : World) :
    Calls Tryd.prog 74 #[.agg #[.int .i64 num, .int .i64 0, .int .u64 n, .string (B [])]] w fun e w' => e = .returned (.tuple #[.string (B (numB num n)), .bool true]) ∧ Below w.heap.size w w' := by
  have g1 : decide ((num : Int) < 1) = false := by simp; omega
  have g2 : decide ((536870912 : Int) ≤ num) = false := by simp; omega
  have hl1 := NW.varint_len10 (n := num * 8) (by omega)
  have hl2 := NW.varint_len10 (n := n) (by omega)
  have e1 : IntKind.u64.wrap (IntKind.i64.wrap (IntKind.i64.wrap ((num : Int) * 8) + 0)) = ((num * 8 : Nat) : Int) := by
    rw [wI64 (x := (num : Int) * 8) (by omega) (by omega), wI64 (by omega) (by omega), wU64 (by omega) (by omega)]; omega
  refine calls_pureK (args := [.agg #[.int .i64 num, .int .i64 0, .int .u64 n, .string (B [])]]) w Tryd.func74 rfl Tryd.ntmps74 (by simp) ?_
  intro X K hX hK
  have hnt : X.nt = 81 := by rw [hX]
  have hwi : X.wi = w := by rw [hX]
  have hP : X.P = Tryd.prog := by rw [hX]
  have hown : X.own = [] := by rw [hX]
  have hbl : X.base.length = 0 := by rw [hX]; rfl
  clear hX
  have hT : fieldOff X.P 143 0 = some 0 ∧ aggOf X.P 3 = some false ∧ szOf X.P 3 = some 1 ∧ fieldOff X.P 143 1 = some 1 ∧ fieldOff X.P 143 2 = some 2 ∧ aggOf X.P 22 = some false ∧ szOf X.P 22 = some 1 ∧ calleeOk X.P 127 = true ∧ mapInf X.P 174 = some ((TypeDesc.int IntKind.i64), (Value.int IntKind.i64 0)) ∧ fieldOff X.P 143 3 = some 3 ∧ aggOf X.P 9 = some false ∧ szOf X.P 9 = some 1 ∧ X.P.underlying 9 = some TypeDesc.string ∧ X.P.underlying 3 = some (TypeDesc.int IntKind.i64) ∧ X.P.underlying 22 = some (TypeDesc.int IntKind.u64) ∧ isBytesT X.P 3 = false ∧ isStrT X.P 22 = false ∧ calleeOk X.P 128 = true := by rw [hP]; exact ⟨Ty.fo143_0, Ty.ag3, Ty.sz3, Ty.fo143_1, Ty.fo143_2, Ty.ag22, Ty.sz22, Ty.co127, Ty.mi174, Ty.fo143_3, Ty.ag9, Ty.sz9, Tryd.underlying9, Tryd.underlying3, Tryd.underlying22, Ty.ib3, Ty.is22, Ty.co128⟩
  have hnt1 := True.intro; have hT1 := True.intro; have hU1P := True.intro
  repeat' (first
    | (refine SX.seqK ?_; intro N hN)
    | ((first | (refine SX.ops ?_)); simp only [WS, JA, JB, wI64, wU64, Int.reduceAdd, Int.reduceSub, Int.reduceMul, Int.reduceLE, Int.reduceLT, Int.reduceNeg, Int.reduceToNat, Int.cast_ofNat_Int, sx0, sx1, sx2, sx3, sx4, sx5, sx6, sx7, sy0, sy1, List.filterMap_cons, JC, JD, WT, JE, JF, JG, JH, JI, JJ, JK, WU, JL, JM, JN, JO, WV, JP, JQ, WW, JR, JS, JT, JU, JV, JW, JX, JY, JZ, WA, WB, WC, WD, WE, WF, WG, WH, WI, WJ, WK, WL, WM, WN, true_and, and_true, reduceCtorEq, ↓reduceIte, ↓bifT, ↓bifF, ↓gifT, ↓gifF, eq_self, WO, WP, WQ, Nat.reduceLT, Nat.reduceLeDiff, Nat.reduceAdd, Nat.reduceSub, Nat.reduceMul, Nat.reduceMod, WR, Nat.reduceBEq, Int.reduceBEq, Int.reduceBNe, BEq.rfl, hnt, hT, hnt1, hT1, hU1P, g1, g2, e1])
    | ((first | refine SX.skip ?_ | refine SX.exit ?_ | refine SX.label ?_); try simp only [WS, JA, JB, wI64, wU64, Int.reduceAdd, Int.reduceSub, Int.reduceMul, Int.reduceLE, Int.reduceLT, Int.reduceNeg, Int.reduceToNat, Int.cast_ofNat_Int, sx0, sx1, sx2, sx3, sx4, sx5, sx6, sx7, sy0, sy1, List.filterMap_cons, JC, JD, WT, JE, JF, JG, JH, JI, JJ, JK, WU, JL, JM, JN, JO, WV, JP, JQ, WW, JR, JS, JT, JU, JV, JW, JX, JY, JZ, WA, WB, WC, WD, WE, WF, WG, WH, WI, WJ, WK, WL, WM, WN, true_and, and_true, reduceCtorEq, ↓reduceIte, ↓bifT, ↓bifF, ↓gifT, ↓gifF, eq_self, WO, WP, WQ, Nat.reduceLT, Nat.reduceLeDiff, Nat.reduceAdd, Nat.reduceSub, Nat.reduceMul, Nat.reduceMod, WR, Nat.reduceBEq, Int.reduceBEq, Int.reduceBNe, BEq.rfl])
    | (refine SX.cond rfl (fun hb => ?_) (fun hb => ?_) <;> ((first | cases hb | (simp only [decide_eq_true_eq, decide_eq_false_iff_not, beq_iff_eq, beq_eq_false_iff_ne, bne_iff_ne, Bool.and_eq_true, Bool.or_eq_true, Bool.not_eq_true', Bool.not_eq_false', Bool.and_eq_false_iff, Bool.or_eq_false_iff, Int.not_lt, Int.not_le] at hb) | skip) <;> (first | (exfalso; omega) | skip)))
    | (refine SX.ret ?_; try simp only [WS, JA, JB, wI64, wU64, Int.reduceAdd, Int.reduceSub, Int.reduceMul, Int.reduceLE, Int.reduceLT, Int.reduceNeg, Int.reduceToNat, Int.cast_ofNat_Int, sx0, sx1, sx2, sx3, sx4, sx5, sx6, sx7, sy0, sy1, List.filterMap_cons, JC, JD, WT, JE, JF, JG, JH, JI, JJ, JK, WU, JL, JM, JN, JO, WV, JP, JQ, WW, JR, JS, JT, JU, JV, JW, JX, JY, JZ, WA, WB, WC, WD, WE, WF, WG, WH, WI, WJ, WK, WL, WM, WN, true_and, and_true, reduceCtorEq, ↓reduceIte, ↓bifT, ↓bifF, ↓gifT, ↓gifF, eq_self, WO, WP, WQ, Nat.reduceLT, Nat.reduceLeDiff, Nat.reduceAdd, Nat.reduceSub, Nat.reduceMul, Nat.reduceMod, WR, Nat.reduceBEq, Int.reduceBEq, Int.reduceBNe, BEq.rfl])
    | (refine hN _ ?_; clear hN N)
    | ((first | refine hK1 _ _ (FinI.ret3 ?_) | refine hK1 _ _ (FinI.nrm3 ?_)); (repeat (clear hN N)); clear hK1 K1; simp only [WS, JA, JB, wI64, wU64, Int.reduceAdd, Int.reduceSub, Int.reduceMul, Int.reduceLE, Int.reduceLT, Int.reduceNeg, Int.reduceToNat, Int.cast_ofNat_Int, sx0, sx1, sx2, sx3, sx4, sx5, sx6, sx7, sy0, sy1, List.filterMap_cons, JC, JD, WT, JE, JF, JG, JH, JI, JJ, JK, WU, JL, JM, JN, JO, WV, JP, JQ, WW, JR, JS, JT, JU, JV, JW, JX, JY, JZ, WA, WB, WC, WD, WE, WF, WG, WH, WI, WJ, WK, WL, WM, WN, true_and, and_true, reduceCtorEq, ↓reduceIte, ↓bifT, ↓bifF, ↓gifT, ↓gifF, eq_self, WO, WP, WQ, Nat.reduceLT, Nat.reduceLeDiff, Nat.reduceAdd, Nat.reduceSub, Nat.reduceMul, Nat.reduceMod, WR, Nat.reduceBEq, Int.reduceBEq, Int.reduceBNe, BEq.rfl, finP_s, hnt, hT, hnt1, hT1, hU1P, g1, g2, e1])
    | (refine hK _ _ (Fin.res rfl hown ?_); simp only [WS, JA, JB, wI64, wU64, Int.reduceAdd, Int.reduceSub, Int.reduceMul, Int.reduceLE, Int.reduceLT, Int.reduceNeg, Int.reduceToNat, Int.cast_ofNat_Int, sx0, sx1, sx2, sx3, sx4, sx5, sx6, sx7, sy0, sy1, List.filterMap_cons, JC, JD, WT, JE, JF, JG, JH, JI, JJ, JK, WU, JL, JM, JN, JO, WV, JP, JQ, WW, JR, JS, JT, JU, JV, JW, JX, JY, JZ, WA, WB, WC, WD, WE, WF, WG, WH, WI, WJ, WK, WL, WM, WN, true_and, and_true, reduceCtorEq, ↓reduceIte, ↓bifT, ↓bifF, ↓gifT, ↓gifF, eq_self, WO, WP, WQ, Nat.reduceLT, Nat.reduceLeDiff, Nat.reduceAdd, Nat.reduceSub, Nat.reduceMul, Nat.reduceMod, WR, Nat.reduceBEq, Int.reduceBEq, Int.reduceBNe, BEq.rfl, f_a, f_b, f_n, f_c, f_B, f_v, f_g, f_0, f_1, f_2, hT, hwi, hnt1, hT1, hU1P, g1, g2, e1]; intro w' hbel; refine Done.out ?_)
    | (clear hN N; first | (refine hN _ ?_; clear hN N) | (clear hN N; first | (refine hN _ ?_; clear hN N) | (clear hN N; first | (refine hN _ ?_; clear hN N) | (clear hN N; first | (refine hN _ ?_; clear hN N) | (clear hN N; first | (refine hN _ ?_; clear hN N) | (refine hN _ ?_; clear hN N))))))
    | (refine bif2.mk (fun hb => ?_) (fun hb => ?_) <;> (try simp only [hb, WS, JA, JB, wI64, wU64, Int.reduceAdd, Int.reduceSub, Int.reduceMul, Int.reduceLE, Int.reduceLT, Int.reduceNeg, Int.reduceToNat, Int.cast_ofNat_Int, sx0, sx1, sx2, sx3, sx4, sx5, sx6, sx7, sy0, sy1, List.filterMap_cons, JC, JD, WT, JE, JF, JG, JH, JI, JJ, JK, WU, JL, JM, JN, JO, WV, JP, JQ, WW, JR, JS, JT, JU, JV, JW, JX, JY, JZ, WA, WB, WC, WD, WE, WF, WG, WH, WI, WJ, WK, WL, WM, WN, true_and, and_true, reduceCtorEq, ↓reduceIte, ↓bifT, ↓bifF, ↓gifT, ↓gifF, eq_self, WO, WP, WQ, Nat.reduceLT, Nat.reduceLeDiff, Nat.reduceAdd, Nat.reduceSub, Nat.reduceMul, Nat.reduceMod, WR, Nat.reduceBEq, Int.reduceBEq, Int.reduceBNe, BEq.rfl, hnt, hT, hnt1, hT1, hU1P, g1, g2, e1]) <;> ((first | cases hb | (simp only [decide_eq_true_eq, decide_eq_false_iff_not, beq_iff_eq, beq_eq_false_iff_ne, bne_iff_ne, Bool.and_eq_true, Bool.or_eq_true, Bool.not_eq_true', Bool.not_eq_false', Bool.and_eq_false_iff, Bool.or_eq_false_iff, Int.not_lt, Int.not_le] at hb) | skip) <;> (first | (exfalso; omega) | skip)))
    | ((first | (refine CallVC.pv hP (varint_any (num * 8) (by omega)) rfl ?_) | (refine CallQ.pv hP (varint_any (num * 8) (by omega)) rfl ?_) | (refine CallVC.pv hP (varint_any n hn) rfl ?_) | (refine CallQ.pv hP (varint_any n hn) rfl ?_)); simp only [WS, JA, JB, wI64, wU64, Int.reduceAdd, Int.reduceSub, Int.reduceMul, Int.reduceLE, Int.reduceLT, Int.reduceNeg, Int.reduceToNat, Int.cast_ofNat_Int, sx0, sx1, sx2, sx3, sx4, sx5, sx6, sx7, sy0, sy1, List.filterMap_cons, JC, JD, WT, JE, JF, JG, JH, JI, JJ, JK, WU, JL, JM, JN, JO, WV, JP, JQ, WW, JR, JS, JT, JU, JV, JW, JX, JY, JZ, WA, WB, WC, WD, WE, WF, WG, WH, WI, WJ, WK, WL, WM, WN, true_and, and_true, reduceCtorEq, ↓reduceIte, ↓bifT, ↓bifF, ↓gifT, ↓gifF, eq_self, WO, WP, WQ, Nat.reduceLT, Nat.reduceLeDiff, Nat.reduceAdd, Nat.reduceSub, Nat.reduceMul, Nat.reduceMod, WR, Nat.reduceBEq, Int.reduceBEq, Int.reduceBNe, BEq.rfl, hnt, hT, hnt1, hT1, hU1P, g1, g2, e1])
    | (refine CallVC.inline (f := 127) ?_ rfl Tryd.ntmps127 rfl ?_ ?_; (focus rw [hP]; exact Tryd.func127); (focus simp); have hT1 : mapInf X.P 174 = some ((TypeDesc.int IntKind.i64), (Value.int IntKind.i64 0)) := (by rw [hP]; exact Ty.mi174); intro X1 K1 hU1 hnt1 hbl1 hK1; have hU1P := hU1.P; simp only [WS, JA, JB, wI64, wU64, Int.reduceAdd, Int.reduceSub, Int.reduceMul, Int.reduceLE, Int.reduceLT, Int.reduceNeg, Int.reduceToNat, Int.cast_ofNat_Int, sx0, sx1, sx2, sx3, sx4, sx5, sx6, sx7, sy0, sy1, List.filterMap_cons, JC, JD, WT, JE, JF, JG, JH, JI, JJ, JK, WU, JL, JM, JN, JO, WV, JP, JQ, WW, JR, JS, JT, JU, JV, JW, JX, JY, JZ, WA, WB, WC, WD, WE, WF, WG, WH, WI, WJ, WK, WL, WM, WN, true_and, and_true, reduceCtorEq, ↓reduceIte, ↓bifT, ↓bifF, ↓gifT, ↓gifF, eq_self, WO, WP, WQ, Nat.reduceLT, Nat.reduceLeDiff, Nat.reduceAdd, Nat.reduceSub, Nat.reduceMul, Nat.reduceMod, WR, Nat.reduceBEq, Int.reduceBEq, Int.reduceBNe, BEq.rfl] at hbl1 ⊢)
    | ((first | (refine CallVC.pv (hU1P.trans hP) (varint_any (num * 8) (by omega)) rfl ?_) | (refine CallQ.pv (hU1P.trans hP) (varint_any (num * 8) (by omega)) rfl ?_) | (refine CallVC.pv (hU1P.trans hP) (varint_any n hn) rfl ?_) | (refine CallQ.pv (hU1P.trans hP) (varint_any n hn) rfl ?_)); simp only [WS, JA, JB, wI64, wU64, Int.reduceAdd, Int.reduceSub, Int.reduceMul, Int.reduceLE, Int.reduceLT, Int.reduceNeg, Int.reduceToNat, Int.cast_ofNat_Int, sx0, sx1, sx2, sx3, sx4, sx5, sx6, sx7, sy0, sy1, List.filterMap_cons, JC, JD, WT, JE, JF, JG, JH, JI, JJ, JK, WU, JL, JM, JN, JO, WV, JP, JQ, WW, JR, JS, JT, JU, JV, JW, JX, JY, JZ, WA, WB, WC, WD, WE, WF, WG, WH, WI, WJ, WK, WL, WM, WN, true_and, and_true, reduceCtorEq, ↓reduceIte, ↓bifT, ↓bifF, ↓gifT, ↓gifF, eq_self, WO, WP, WQ, Nat.reduceLT, Nat.reduceLeDiff, Nat.reduceAdd, Nat.reduceSub, Nat.reduceMul, Nat.reduceMod, WR, Nat.reduceBEq, Int.reduceBEq, Int.reduceBNe, BEq.rfl, hnt, hT, hnt1, hT1, hU1P, g1, g2, e1])
    | (refine SX.block ?_)
    | (refine and_mk ?_ ?_; (focus first | decide | omega | rfl | assumption | (simp only [List.length_append, List.length_cons, List.length_nil, B_size]; omega) | (simp; done)))
    | (refine And.intro ?_ ?_))
  all_goals (try refine Done.mk ?_)
  all_goals first | exact hbel | exact ⟨by simp [numB], hbel⟩
theorem put_text (num : Nat) (s : List UInt8) (h1 : 1 ≤ num) (h2 : num < 536870912) (hs : s.length < 1152921504606846976) (w : World) :
    Calls Tryd.prog 74 #[.agg #[.int .i64 num, .int .i64 2, .int .u64 0, .string (B s)]] w fun e w' => e = .returned (.tuple #[.string (B (textB num s)), .bool true]) ∧ Below w.heap.size w w' := by
  have g1 : decide ((num : Int) < 1) = false := by simp; omega
  have g2 : decide ((536870912 : Int) ≤ num) = false := by simp; omega
  have hl1 := NW.varint_len10 (n := num * 8 + 2) (by omega)
  have hl2 := NW.varint_len10 (n := s.length) (by omega)
  have e1 : IntKind.u64.wrap (IntKind.i64.wrap (IntKind.i64.wrap ((num : Int) * 8) + 2)) = ((num * 8 + 2 : Nat) : Int) := by
    rw [wI64 (x := (num : Int) * 8) (by omega) (by omega), wI64 (by omega) (by omega), wU64 (by omega) (by omega)]; omega
  have e2 : IntKind.u64.wrap (s.length : Int) = (s.length : Int) := wU64 (by omega) (by omega)
  refine calls_pureK (args := [.agg #[.int .i64 num, .int .i64 2, .int .u64 0, .string (B s)]]) w Tryd.func74 rfl Tryd.ntmps74 (by simp) ?_
  intro X K hX hK
  have hnt : X.nt = 81 := by rw [hX]
  have hwi : X.wi = w := by rw [hX]
  have hP : X.P = Tryd.prog := by rw [hX]
  have hown : X.own = [] := by rw [hX]
  have hbl : X.base.length = 0 := by rw [hX]; rfl
  clear hX
  have hT : fieldOff X.P 143 0 = some 0 ∧ aggOf X.P 3 = some false ∧ szOf X.P 3 = some 1 ∧ fieldOff X.P 143 1 = some 1 ∧ fieldOff X.P 143 2 = some 2 ∧ aggOf X.P 22 = some false ∧ szOf X.P 22 = some 1 ∧ calleeOk X.P 127 = true ∧ mapInf X.P 174 = some ((TypeDesc.int IntKind.i64), (Value.int IntKind.i64 0)) ∧ fieldOff X.P 143 3 = some 3 ∧ aggOf X.P 9 = some false ∧ szOf X.P 9 = some 1 ∧ X.P.underlying 9 = some TypeDesc.string ∧ X.P.underlying 3 = some (TypeDesc.int IntKind.i64) ∧ X.P.underlying 22 = some (TypeDesc.int IntKind.u64) ∧ isBytesT X.P 3 = false ∧ isStrT X.P 22 = false ∧ calleeOk X.P 128 = true := by rw [hP]; exact ⟨Ty.fo143_0, Ty.ag3, Ty.sz3, Ty.fo143_1, Ty.fo143_2, Ty.ag22, Ty.sz22, Ty.co127, Ty.mi174, Ty.fo143_3, Ty.ag9, Ty.sz9, Tryd.underlying9, Tryd.underlying3, Tryd.underlying22, Ty.ib3, Ty.is22, Ty.co128⟩
  have hnt1 := True.intro; have hT1 := True.intro; have hU1P := True.intro
  repeat' (first
    | (refine SX.seqK ?_; intro N hN)
    | ((first | (refine SX.ops ?_)); simp only [WS, JA, JB, wI64, wU64, Int.reduceAdd, Int.reduceSub, Int.reduceMul, Int.reduceLE, Int.reduceLT, Int.reduceNeg, Int.reduceToNat, Int.cast_ofNat_Int, sx0, sx1, sx2, sx3, sx4, sx5, sx6, sx7, sy0, sy1, List.filterMap_cons, JC, JD, WT, JE, JF, JG, JH, JI, JJ, JK, WU, JL, JM, JN, JO, WV, JP, JQ, WW, JR, JS, JT, JU, JV, JW, JX, JY, JZ, WA, WB, WC, WD, WE, WF, WG, WH, WI, WJ, WK, WL, WM, WN, true_and, and_true, reduceCtorEq, ↓reduceIte, ↓bifT, ↓bifF, ↓gifT, ↓gifF, eq_self, WO, WP, WQ, Nat.reduceLT, Nat.reduceLeDiff, Nat.reduceAdd, Nat.reduceSub, Nat.reduceMul, Nat.reduceMod, WR, Nat.reduceBEq, Int.reduceBEq, Int.reduceBNe, BEq.rfl, hnt, hT, hnt1, hT1, hU1P, g1, g2, e1, e2])
    | ((first | refine SX.skip ?_ | refine SX.exit ?_ | refine SX.label ?_); try simp only [WS, JA, JB, wI64, wU64, Int.reduceAdd, Int.reduceSub, Int.reduceMul, Int.reduceLE, Int.reduceLT, Int.reduceNeg, Int.reduceToNat, Int.cast_ofNat_Int, sx0, sx1, sx2, sx3, sx4, sx5, sx6, sx7, sy0, sy1, List.filterMap_cons, JC, JD, WT, JE, JF, JG, JH, JI, JJ, JK, WU, JL, JM, JN, JO, WV, JP, JQ, WW, JR, JS, JT, JU, JV, JW, JX, JY, JZ, WA, WB, WC, WD, WE, WF, WG, WH, WI, WJ, WK, WL, WM, WN, true_and, and_true, reduceCtorEq, ↓reduceIte, ↓bifT, ↓bifF, ↓gifT, ↓gifF, eq_self, WO, WP, WQ, Nat.reduceLT, Nat.reduceLeDiff, Nat.reduceAdd, Nat.reduceSub, Nat.reduceMul, Nat.reduceMod, WR, Nat.reduceBEq, Int.reduceBEq, Int.reduceBNe, BEq.rfl])
    | (refine SX.cond rfl (fun hb => ?_) (fun hb => ?_) <;> ((first | cases hb | (simp only [decide_eq_true_eq, decide_eq_false_iff_not, beq_iff_eq, beq_eq_false_iff_ne, bne_iff_ne, Bool.and_eq_true, Bool.or_eq_true, Bool.not_eq_true', Bool.not_eq_false', Bool.and_eq_false_iff, Bool.or_eq_false_iff, Int.not_lt, Int.not_le] at hb) | skip) <;> (first | (exfalso; omega) | skip)))
    | (refine SX.ret ?_; try simp only [WS, JA, JB, wI64, wU64, Int.reduceAdd, Int.reduceSub, Int.reduceMul, Int.reduceLE, Int.reduceLT, Int.reduceNeg, Int.reduceToNat, Int.cast_ofNat_Int, sx0, sx1, sx2, sx3, sx4, sx5, sx6, sx7, sy0, sy1, List.filterMap_cons, JC, JD, WT, JE, JF, JG, JH, JI, JJ, JK, WU, JL, JM, JN, JO, WV, JP, JQ, WW, JR, JS, JT, JU, JV, JW, JX, JY, JZ, WA, WB, WC, WD, WE, WF, WG, WH, WI, WJ, WK, WL, WM, WN, true_and, and_true, reduceCtorEq, ↓reduceIte, ↓bifT, ↓bifF, ↓gifT, ↓gifF, eq_self, WO, WP, WQ, Nat.reduceLT, Nat.reduceLeDiff, Nat.reduceAdd, Nat.reduceSub, Nat.reduceMul, Nat.reduceMod, WR, Nat.reduceBEq, Int.reduceBEq, Int.reduceBNe, BEq.rfl])
    | (refine hN _ ?_; clear hN N)
    | ((first | refine hK1 _ _ (FinI.ret3 ?_) | refine hK1 _ _ (FinI.nrm3 ?_)); (repeat (clear hN N)); clear hK1 K1; simp only [WS, JA, JB, wI64, wU64, Int.reduceAdd, Int.reduceSub, Int.reduceMul, Int.reduceLE, Int.reduceLT, Int.reduceNeg, Int.reduceToNat, Int.cast_ofNat_Int, sx0, sx1, sx2, sx3, sx4, sx5, sx6, sx7, sy0, sy1, List.filterMap_cons, JC, JD, WT, JE, JF, JG, JH, JI, JJ, JK, WU, JL, JM, JN, JO, WV, JP, JQ, WW, JR, JS, JT, JU, JV, JW, JX, JY, JZ, WA, WB, WC, WD, WE, WF, WG, WH, WI, WJ, WK, WL, WM, WN, true_and, and_true, reduceCtorEq, ↓reduceIte, ↓bifT, ↓bifF, ↓gifT, ↓gifF, eq_self, WO, WP, WQ, Nat.reduceLT, Nat.reduceLeDiff, Nat.reduceAdd, Nat.reduceSub, Nat.reduceMul, Nat.reduceMod, WR, Nat.reduceBEq, Int.reduceBEq, Int.reduceBNe, BEq.rfl, finP_s, hnt, hT, hnt1, hT1, hU1P, g1, g2, e1, e2])
    | (refine hK _ _ (Fin.res rfl hown ?_); simp only [WS, JA, JB, wI64, wU64, Int.reduceAdd, Int.reduceSub, Int.reduceMul, Int.reduceLE, Int.reduceLT, Int.reduceNeg, Int.reduceToNat, Int.cast_ofNat_Int, sx0, sx1, sx2, sx3, sx4, sx5, sx6, sx7, sy0, sy1, List.filterMap_cons, JC, JD, WT, JE, JF, JG, JH, JI, JJ, JK, WU, JL, JM, JN, JO, WV, JP, JQ, WW, JR, JS, JT, JU, JV, JW, JX, JY, JZ, WA, WB, WC, WD, WE, WF, WG, WH, WI, WJ, WK, WL, WM, WN, true_and, and_true, reduceCtorEq, ↓reduceIte, ↓bifT, ↓bifF, ↓gifT, ↓gifF, eq_self, WO, WP, WQ, Nat.reduceLT, Nat.reduceLeDiff, Nat.reduceAdd, Nat.reduceSub, Nat.reduceMul, Nat.reduceMod, WR, Nat.reduceBEq, Int.reduceBEq, Int.reduceBNe, BEq.rfl, f_a, f_b, f_n, f_c, f_B, f_v, f_g, f_0, f_1, f_2, hT, hwi, hnt1, hT1, hU1P, g1, g2, e1, e2]; intro w' hbel; refine Done.out ?_)
    | (clear hN N; first | (refine hN _ ?_; clear hN N) | (clear hN N; first | (refine hN _ ?_; clear hN N) | (clear hN N; first | (refine hN _ ?_; clear hN N) | (clear hN N; first | (refine hN _ ?_; clear hN N) | (clear hN N; first | (refine hN _ ?_; clear hN N) | (refine hN _ ?_; clear hN N))))))
    | (refine bif2.mk (fun hb => ?_) (fun hb => ?_) <;> (try simp only [hb, WS, JA, JB, wI64, wU64, Int.reduceAdd, Int.reduceSub, Int.reduceMul, Int.reduceLE, Int.reduceLT, Int.reduceNeg, Int.reduceToNat, Int.cast_ofNat_Int, sx0, sx1, sx2, sx3, sx4, sx5, sx6, sx7, sy0, sy1, List.filterMap_cons, JC, JD, WT, JE, JF, JG, JH, JI, JJ, JK, WU, JL, JM, JN, JO, WV, JP, JQ, WW, JR, JS, JT, JU, JV, JW, JX, JY, JZ, WA, WB, WC, WD, WE, WF, WG, WH, WI, WJ, WK, WL, WM, WN, true_and, and_true, reduceCtorEq, ↓reduceIte, ↓bifT, ↓bifF, ↓gifT, ↓gifF, eq_self, WO, WP, WQ, Nat.reduceLT, Nat.reduceLeDiff, Nat.reduceAdd, Nat.reduceSub, Nat.reduceMul, Nat.reduceMod, WR, Nat.reduceBEq, Int.reduceBEq, Int.reduceBNe, BEq.rfl, hnt, hT, hnt1, hT1, hU1P, g1, g2, e1, e2]) <;> ((first | cases hb | (simp only [decide_eq_true_eq, decide_eq_false_iff_not, beq_iff_eq, beq_eq_false_iff_ne, bne_iff_ne, Bool.and_eq_true, Bool.or_eq_true, Bool.not_eq_true', Bool.not_eq_false', Bool.and_eq_false_iff, Bool.or_eq_false_iff, Int.not_lt, Int.not_le] at hb) | skip) <;> (first | (exfalso; omega) | skip)))
    | ((first | (refine CallVC.pv hP (varint_any (num * 8 + 2) (by omega)) rfl ?_) | (refine CallQ.pv hP (varint_any (num * 8 + 2) (by omega)) rfl ?_) | (refine CallVC.pv hP (varint_any s.length (by omega)) rfl ?_) | (refine CallQ.pv hP (varint_any s.length (by omega)) rfl ?_)); simp only [WS, JA, JB, wI64, wU64, Int.reduceAdd, Int.reduceSub, Int.reduceMul, Int.reduceLE, Int.reduceLT, Int.reduceNeg, Int.reduceToNat, Int.cast_ofNat_Int, sx0, sx1, sx2, sx3, sx4, sx5, sx6, sx7, sy0, sy1, List.filterMap_cons, JC, JD, WT, JE, JF, JG, JH, JI, JJ, JK, WU, JL, JM, JN, JO, WV, JP, JQ, WW, JR, JS, JT, JU, JV, JW, JX, JY, JZ, WA, WB, WC, WD, WE, WF, WG, WH, WI, WJ, WK, WL, WM, WN, true_and, and_true, reduceCtorEq, ↓reduceIte, ↓bifT, ↓bifF, ↓gifT, ↓gifF, eq_self, WO, WP, WQ, Nat.reduceLT, Nat.reduceLeDiff, Nat.reduceAdd, Nat.reduceSub, Nat.reduceMul, Nat.reduceMod, WR, Nat.reduceBEq, Int.reduceBEq, Int.reduceBNe, BEq.rfl, hnt, hT, hnt1, hT1, hU1P, g1, g2, e1, e2])
    | (refine CallVC.inline (f := 127) ?_ rfl Tryd.ntmps127 rfl ?_ ?_; (focus rw [hP]; exact Tryd.func127); (focus simp); have hT1 : mapInf X.P 174 = some ((TypeDesc.int IntKind.i64), (Value.int IntKind.i64 0)) := (by rw [hP]; exact Ty.mi174); intro X1 K1 hU1 hnt1 hbl1 hK1; have hU1P := hU1.P; simp only [WS, JA, JB, wI64, wU64, Int.reduceAdd, Int.reduceSub, Int.reduceMul, Int.reduceLE, Int.reduceLT, Int.reduceNeg, Int.reduceToNat, Int.cast_ofNat_Int, sx0, sx1, sx2, sx3, sx4, sx5, sx6, sx7, sy0, sy1, List.filterMap_cons, JC, JD, WT, JE, JF, JG, JH, JI, JJ, JK, WU, JL, JM, JN, JO, WV, JP, JQ, WW, JR, JS, JT, JU, JV, JW, JX, JY, JZ, WA, WB, WC, WD, WE, WF, WG, WH, WI, WJ, WK, WL, WM, WN, true_and, and_true, reduceCtorEq, ↓reduceIte, ↓bifT, ↓bifF, ↓gifT, ↓gifF, eq_self, WO, WP, WQ, Nat.reduceLT, Nat.reduceLeDiff, Nat.reduceAdd, Nat.reduceSub, Nat.reduceMul, Nat.reduceMod, WR, Nat.reduceBEq, Int.reduceBEq, Int.reduceBNe, BEq.rfl] at hbl1 ⊢)
    | ((first | (refine CallVC.pv (hU1P.trans hP) (varint_any (num * 8 + 2) (by omega)) rfl ?_) | (refine CallQ.pv (hU1P.trans hP) (varint_any (num * 8 + 2) (by omega)) rfl ?_) | (refine CallVC.pv (hU1P.trans hP) (varint_any s.length (by omega)) rfl ?_) | (refine CallQ.pv (hU1P.trans hP) (varint_any s.length (by omega)) rfl ?_)); simp only [WS, JA, JB, wI64, wU64, Int.reduceAdd, Int.reduceSub, Int.reduceMul, Int.reduceLE, Int.reduceLT, Int.reduceNeg, Int.reduceToNat, Int.cast_ofNat_Int, sx0, sx1, sx2, sx3, sx4, sx5, sx6, sx7, sy0, sy1, List.filterMap_cons, JC, JD, WT, JE, JF, JG, JH, JI, JJ, JK, WU, JL, JM, JN, JO, WV, JP, JQ, WW, JR, JS, JT, JU, JV, JW, JX, JY, JZ, WA, WB, WC, WD, WE, WF, WG, WH, WI, WJ, WK, WL, WM, WN, true_and, and_true, reduceCtorEq, ↓reduceIte, ↓bifT, ↓bifF, ↓gifT, ↓gifF, eq_self, WO, WP, WQ, Nat.reduceLT, Nat.reduceLeDiff, Nat.reduceAdd, Nat.reduceSub, Nat.reduceMul, Nat.reduceMod, WR, Nat.reduceBEq, Int.reduceBEq, Int.reduceBNe, BEq.rfl, hnt, hT, hnt1, hT1, hU1P, g1, g2, e1, e2])
    | (refine SX.block ?_)
    | (refine and_mk ?_ ?_; (focus first | decide | omega | rfl | assumption | (simp only [List.length_append, List.length_cons, List.length_nil, B_size]; omega) | (simp; done)))
    | (refine And.intro ?_ ?_))
  all_goals (try refine Done.mk ?_)
  all_goals first | exact hbel | exact ⟨by simp [textB], hbel⟩
theorem number_any (num n : Nat) (h1 : 1 ≤ num) (h2 : num < 536870912) (hn : n < 18446744073709551616) (w : World) :
    Calls Tryd.prog 23 #[.int .i64 num, .int .u64 n] w fun e w' => e = .returned (.string (B (numB num n))) ∧ Below w.heap.size w w' := by
  refine calls_pureK (args := [.int .i64 num, .int .u64 n]) w Tryd.func23 rfl Tryd.ntmps23 (by simp) ?_
  intro X K hX hK
  have hnt : X.nt = 15 := by rw [hX]
  have hwi : X.wi = w := by rw [hX]
  have hP : X.P = Tryd.prog := by rw [hX]
  have hown : X.own = [] := by rw [hX]
  have hbl : X.base.length = 0 := by rw [hX]; rfl
  clear hX
  have hT : fieldsOf X.P 143 = some [(0, 1), (1, 1), (2, 1), (3, 1)] ∧ zeroCells X.P 143 = some [(Value.int IntKind.i64 0), (Value.int IntKind.i64 0), (Value.int IntKind.u64 0), (Value.string { data := #[] })] ∧ calleeOk X.P 74 = true := by rw [hP]; exact ⟨Ty.fs143, Ty.ze143, Ty.co74⟩
  repeat' (first
    | (refine SX.seqK ?_; intro N hN)
    | ((first | (refine SX.ops ?_)); simp only [WS, JA, JB, wI64, wU64, Int.reduceAdd, Int.reduceSub, Int.reduceMul, Int.reduceLE, Int.reduceLT, Int.reduceNeg, Int.reduceToNat, Int.cast_ofNat_Int, sx0, sx1, sx2, sx3, sx4, sx5, sx6, sx7, sy0, sy1, List.filterMap_cons, JC, JD, WT, JE, JF, JG, JH, JI, JJ, JK, WU, JL, JM, JN, JO, WV, JP, JQ, WW, JR, JS, JT, JU, JV, JW, JX, JY, JZ, WA, WB, WC, WD, WE, WF, WG, WH, WI, WJ, WK, WL, WM, WN, true_and, and_true, reduceCtorEq, ↓reduceIte, ↓bifT, ↓bifF, ↓gifT, ↓gifF, eq_self, WO, WP, WQ, Nat.reduceLT, Nat.reduceLeDiff, Nat.reduceAdd, Nat.reduceSub, Nat.reduceMul, Nat.reduceMod, WR, Nat.reduceBEq, Int.reduceBEq, Int.reduceBNe, BEq.rfl, hnt, hT])
    | ((first | refine SX.skip ?_ | refine SX.exit ?_ | refine SX.label ?_); try simp only [WS, JA, JB, wI64, wU64, Int.reduceAdd, Int.reduceSub, Int.reduceMul, Int.reduceLE, Int.reduceLT, Int.reduceNeg, Int.reduceToNat, Int.cast_ofNat_Int, sx0, sx1, sx2, sx3, sx4, sx5, sx6, sx7, sy0, sy1, List.filterMap_cons, JC, JD, WT, JE, JF, JG, JH, JI, JJ, JK, WU, JL, JM, JN, JO, WV, JP, JQ, WW, JR, JS, JT, JU, JV, JW, JX, JY, JZ, WA, WB, WC, WD, WE, WF, WG, WH, WI, WJ, WK, WL, WM, WN, true_and, and_true, reduceCtorEq, ↓reduceIte, ↓bifT, ↓bifF, ↓gifT, ↓gifF, eq_self, WO, WP, WQ, Nat.reduceLT, Nat.reduceLeDiff, Nat.reduceAdd, Nat.reduceSub, Nat.reduceMul, Nat.reduceMod, WR, Nat.reduceBEq, Int.reduceBEq, Int.reduceBNe, BEq.rfl])
    | (refine SX.cond rfl (fun hb => ?_) (fun hb => ?_) <;> ((first | cases hb | (simp only [decide_eq_true_eq, decide_eq_false_iff_not, beq_iff_eq, beq_eq_false_iff_ne, bne_iff_ne, Bool.and_eq_true, Bool.or_eq_true, Bool.not_eq_true', Bool.not_eq_false', Bool.and_eq_false_iff, Bool.or_eq_false_iff, Int.not_lt, Int.not_le] at hb) | skip) <;> (first | (exfalso; omega) | skip)))
    | (refine SX.ret ?_; try simp only [WS, JA, JB, wI64, wU64, Int.reduceAdd, Int.reduceSub, Int.reduceMul, Int.reduceLE, Int.reduceLT, Int.reduceNeg, Int.reduceToNat, Int.cast_ofNat_Int, sx0, sx1, sx2, sx3, sx4, sx5, sx6, sx7, sy0, sy1, List.filterMap_cons, JC, JD, WT, JE, JF, JG, JH, JI, JJ, JK, WU, JL, JM, JN, JO, WV, JP, JQ, WW, JR, JS, JT, JU, JV, JW, JX, JY, JZ, WA, WB, WC, WD, WE, WF, WG, WH, WI, WJ, WK, WL, WM, WN, true_and, and_true, reduceCtorEq, ↓reduceIte, ↓bifT, ↓bifF, ↓gifT, ↓gifF, eq_self, WO, WP, WQ, Nat.reduceLT, Nat.reduceLeDiff, Nat.reduceAdd, Nat.reduceSub, Nat.reduceMul, Nat.reduceMod, WR, Nat.reduceBEq, Int.reduceBEq, Int.reduceBNe, BEq.rfl])
    | (refine hN _ ?_; clear hN N)
    | (refine hK _ _ (Fin.res rfl hown ?_); simp only [WS, JA, JB, wI64, wU64, Int.reduceAdd, Int.reduceSub, Int.reduceMul, Int.reduceLE, Int.reduceLT, Int.reduceNeg, Int.reduceToNat, Int.cast_ofNat_Int, sx0, sx1, sx2, sx3, sx4, sx5, sx6, sx7, sy0, sy1, List.filterMap_cons, JC, JD, WT, JE, JF, JG, JH, JI, JJ, JK, WU, JL, JM, JN, JO, WV, JP, JQ, WW, JR, JS, JT, JU, JV, JW, JX, JY, JZ, WA, WB, WC, WD, WE, WF, WG, WH, WI, WJ, WK, WL, WM, WN, true_and, and_true, reduceCtorEq, ↓reduceIte, ↓bifT, ↓bifF, ↓gifT, ↓gifF, eq_self, WO, WP, WQ, Nat.reduceLT, Nat.reduceLeDiff, Nat.reduceAdd, Nat.reduceSub, Nat.reduceMul, Nat.reduceMod, WR, Nat.reduceBEq, Int.reduceBEq, Int.reduceBNe, BEq.rfl, f_a, f_b, f_n, f_c, f_B, f_v, f_g, f_0, f_1, f_2, hT, hwi]; intro w' hbel; refine Done.out ?_)
    | (clear hN N; first | (refine hN _ ?_; clear hN N) | (clear hN N; first | (refine hN _ ?_; clear hN N) | (clear hN N; first | (refine hN _ ?_; clear hN N) | (clear hN N; first | (refine hN _ ?_; clear hN N) | (clear hN N; first | (refine hN _ ?_; clear hN N) | (refine hN _ ?_; clear hN N))))))
    | (refine bif2.mk (fun hb => ?_) (fun hb => ?_) <;> (try simp only [hb, WS, JA, JB, wI64, wU64, Int.reduceAdd, Int.reduceSub, Int.reduceMul, Int.reduceLE, Int.reduceLT, Int.reduceNeg, Int.reduceToNat, Int.cast_ofNat_Int, sx0, sx1, sx2, sx3, sx4, sx5, sx6, sx7, sy0, sy1, List.filterMap_cons, JC, JD, WT, JE, JF, JG, JH, JI, JJ, JK, WU, JL, JM, JN, JO, WV, JP, JQ, WW, JR, JS, JT, JU, JV, JW, JX, JY, JZ, WA, WB, WC, WD, WE, WF, WG, WH, WI, WJ, WK, WL, WM, WN, true_and, and_true, reduceCtorEq, ↓reduceIte, ↓bifT, ↓bifF, ↓gifT, ↓gifF, eq_self, WO, WP, WQ, Nat.reduceLT, Nat.reduceLeDiff, Nat.reduceAdd, Nat.reduceSub, Nat.reduceMul, Nat.reduceMod, WR, Nat.reduceBEq, Int.reduceBEq, Int.reduceBNe, BEq.rfl, hnt, hT]) <;> ((first | cases hb | (simp only [decide_eq_true_eq, decide_eq_false_iff_not, beq_iff_eq, beq_eq_false_iff_ne, bne_iff_ne, Bool.and_eq_true, Bool.or_eq_true, Bool.not_eq_true', Bool.not_eq_false', Bool.and_eq_false_iff, Bool.or_eq_false_iff, Int.not_lt, Int.not_le] at hb) | skip) <;> (first | (exfalso; omega) | skip)))
    | ((first | (refine CallVC.pt (l := [_, _]) hP (put_num num n h1 h2 hn) rfl ?_) | (refine CallQ.pt (l := [_, _]) hP (put_num num n h1 h2 hn) rfl ?_)); simp only [WS, JA, JB, wI64, wU64, Int.reduceAdd, Int.reduceSub, Int.reduceMul, Int.reduceLE, Int.reduceLT, Int.reduceNeg, Int.reduceToNat, Int.cast_ofNat_Int, sx0, sx1, sx2, sx3, sx4, sx5, sx6, sx7, sy0, sy1, List.filterMap_cons, JC, JD, WT, JE, JF, JG, JH, JI, JJ, JK, WU, JL, JM, JN, JO, WV, JP, JQ, WW, JR, JS, JT, JU, JV, JW, JX, JY, JZ, WA, WB, WC, WD, WE, WF, WG, WH, WI, WJ, WK, WL, WM, WN, true_and, and_true, reduceCtorEq, ↓reduceIte, ↓bifT, ↓bifF, ↓gifT, ↓gifF, eq_self, WO, WP, WQ, Nat.reduceLT, Nat.reduceLeDiff, Nat.reduceAdd, Nat.reduceSub, Nat.reduceMul, Nat.reduceMod, WR, Nat.reduceBEq, Int.reduceBEq, Int.reduceBNe, BEq.rfl, hnt, hT])
    | (refine SX.block ?_)
    | (refine and_mk ?_ ?_; (focus first | decide | omega | rfl | assumption | (simp only [List.length_append, List.length_cons, List.length_nil, B_size]; omega) | (simp; done)))
    | (refine And.intro ?_ ?_))
  all_goals (try refine Done.mk ?_)
  all_goals first | exact hbel | exact ⟨rfl, hbel⟩
theorem text_any (num : Nat) (s : List UInt8) (h1 : 1 ≤ num) (h2 : num < 536870912) (hs : s.length < 1152921504606846976) (w : World) :
    Calls Tryd.prog 104 #[.int .i64 num, .string (B s)] w fun e w' => e = .returned (.string (B (textB num s))) ∧ Below w.heap.size w w' := by
  refine calls_pureK (args := [.int .i64 num, .string (B s)]) w Tryd.func104 rfl Tryd.ntmps104 (by simp) ?_
  intro X K hX hK
  have hnt : X.nt = 13 := by rw [hX]
  have hwi : X.wi = w := by rw [hX]
  have hP : X.P = Tryd.prog := by rw [hX]
  have hown : X.own = [] := by rw [hX]
  have hbl : X.base.length = 0 := by rw [hX]; rfl
  clear hX
  have hT : fieldsOf X.P 143 = some [(0, 1), (1, 1), (2, 1), (3, 1)] ∧ zeroCells X.P 143 = some [(Value.int IntKind.i64 0), (Value.int IntKind.i64 0), (Value.int IntKind.u64 0), (Value.string { data := #[] })] ∧ calleeOk X.P 74 = true := by rw [hP]; exact ⟨Ty.fs143, Ty.ze143, Ty.co74⟩
  repeat' (first
    | (refine SX.seqK ?_; intro N hN)
    | ((first | (refine SX.ops ?_)); simp only [WS, JA, JB, wI64, wU64, Int.reduceAdd, Int.reduceSub, Int.reduceMul, Int.reduceLE, Int.reduceLT, Int.reduceNeg, Int.reduceToNat, Int.cast_ofNat_Int, sx0, sx1, sx2, sx3, sx4, sx5, sx6, sx7, sy0, sy1, List.filterMap_cons, JC, JD, WT, JE, JF, JG, JH, JI, JJ, JK, WU, JL, JM, JN, JO, WV, JP, JQ, WW, JR, JS, JT, JU, JV, JW, JX, JY, JZ, WA, WB, WC, WD, WE, WF, WG, WH, WI, WJ, WK, WL, WM, WN, true_and, and_true, reduceCtorEq, ↓reduceIte, ↓bifT, ↓bifF, ↓gifT, ↓gifF, eq_self, WO, WP, WQ, Nat.reduceLT, Nat.reduceLeDiff, Nat.reduceAdd, Nat.reduceSub, Nat.reduceMul, Nat.reduceMod, WR, Nat.reduceBEq, Int.reduceBEq, Int.reduceBNe, BEq.rfl, hnt, hT])
    | ((first | refine SX.skip ?_ | refine SX.exit ?_ | refine SX.label ?_); try simp only [WS, JA, JB, wI64, wU64, Int.reduceAdd, Int.reduceSub, Int.reduceMul, Int.reduceLE, Int.reduceLT, Int.reduceNeg, Int.reduceToNat, Int.cast_ofNat_Int, sx0, sx1, sx2, sx3, sx4, sx5, sx6, sx7, sy0, sy1, List.filterMap_cons, JC, JD, WT, JE, JF, JG, JH, JI, JJ, JK, WU, JL, JM, JN, JO, WV, JP, JQ, WW, JR, JS, JT, JU, JV, JW, JX, JY, JZ, WA, WB, WC, WD, WE, WF, WG, WH, WI, WJ, WK, WL, WM, WN, true_and, and_true, reduceCtorEq, ↓reduceIte, ↓bifT, ↓bifF, ↓gifT, ↓gifF, eq_self, WO, WP, WQ, Nat.reduceLT, Nat.reduceLeDiff, Nat.reduceAdd, Nat.reduceSub, Nat.reduceMul, Nat.reduceMod, WR, Nat.reduceBEq, Int.reduceBEq, Int.reduceBNe, BEq.rfl])
    | (refine SX.cond rfl (fun hb => ?_) (fun hb => ?_) <;> ((first | cases hb | (simp only [decide_eq_true_eq, decide_eq_false_iff_not, beq_iff_eq, beq_eq_false_iff_ne, bne_iff_ne, Bool.and_eq_true, Bool.or_eq_true, Bool.not_eq_true', Bool.not_eq_false', Bool.and_eq_false_iff, Bool.or_eq_false_iff, Int.not_lt, Int.not_le] at hb) | skip) <;> (first | (exfalso; omega) | skip)))
    | (refine SX.ret ?_; try simp only [WS, JA, JB, wI64, wU64, Int.reduceAdd, Int.reduceSub, Int.reduceMul, Int.reduceLE, Int.reduceLT, Int.reduceNeg, Int.reduceToNat, Int.cast_ofNat_Int, sx0, sx1, sx2, sx3, sx4, sx5, sx6, sx7, sy0, sy1, List.filterMap_cons, JC, JD, WT, JE, JF, JG, JH, JI, JJ, JK, WU, JL, JM, JN, JO, WV, JP, JQ, WW, JR, JS, JT, JU, JV, JW, JX, JY, JZ, WA, WB, WC, WD, WE, WF, WG, WH, WI, WJ, WK, WL, WM, WN, true_and, and_true, reduceCtorEq, ↓reduceIte, ↓bifT, ↓bifF, ↓gifT, ↓gifF, eq_self, WO, WP, WQ, Nat.reduceLT, Nat.reduceLeDiff, Nat.reduceAdd, Nat.reduceSub, Nat.reduceMul, Nat.reduceMod, WR, Nat.reduceBEq, Int.reduceBEq, Int.reduceBNe, BEq.rfl])
    | (refine hN _ ?_; clear hN N)
    | (refine hK _ _ (Fin.res rfl hown ?_); simp only [WS, JA, JB, wI64, wU64, Int.reduceAdd, Int.reduceSub, Int.reduceMul, Int.reduceLE, Int.reduceLT, Int.reduceNeg, Int.reduceToNat, Int.cast_ofNat_Int, sx0, sx1, sx2, sx3, sx4, sx5, sx6, sx7, sy0, sy1, List.filterMap_cons, JC, JD, WT, JE, JF, JG, JH, JI, JJ, JK, WU, JL, JM, JN, JO, WV, JP, JQ, WW, JR, JS, JT, JU, JV, JW, JX, JY, JZ, WA, WB, WC, WD, WE, WF, WG, WH, WI, WJ, WK, WL, WM, WN, true_and, and_true, reduceCtorEq, ↓reduceIte, ↓bifT, ↓bifF, ↓gifT, ↓gifF, eq_self, WO, WP, WQ, Nat.reduceLT, Nat.reduceLeDiff, Nat.reduceAdd, Nat.reduceSub, Nat.reduceMul, Nat.reduceMod, WR, Nat.reduceBEq, Int.reduceBEq, Int.reduceBNe, BEq.rfl, f_a, f_b, f_n, f_c, f_B, f_v, f_g, f_0, f_1, f_2, hT, hwi]; intro w' hbel; refine Done.out ?_)
    | (clear hN N; first | (refine hN _ ?_; clear hN N) | (clear hN N; first | (refine hN _ ?_; clear hN N) | (clear hN N; first | (refine hN _ ?_; clear hN N) | (clear hN N; first | (refine hN _ ?_; clear hN N) | (clear hN N; first | (refine hN _ ?_; clear hN N) | (refine hN _ ?_; clear hN N))))))
    | (refine bif2.mk (fun hb => ?_) (fun hb => ?_) <;> (try simp only [hb, WS, JA, JB, wI64, wU64, Int.reduceAdd, Int.reduceSub, Int.reduceMul, Int.reduceLE, Int.reduceLT, Int.reduceNeg, Int.reduceToNat, Int.cast_ofNat_Int, sx0, sx1, sx2, sx3, sx4, sx5, sx6, sx7, sy0, sy1, List.filterMap_cons, JC, JD, WT, JE, JF, JG, JH, JI, JJ, JK, WU, JL, JM, JN, JO, WV, JP, JQ, WW, JR, JS, JT, JU, JV, JW, JX, JY, JZ, WA, WB, WC, WD, WE, WF, WG, WH, WI, WJ, WK, WL, WM, WN, true_and, and_true, reduceCtorEq, ↓reduceIte, ↓bifT, ↓bifF, ↓gifT, ↓gifF, eq_self, WO, WP, WQ, Nat.reduceLT, Nat.reduceLeDiff, Nat.reduceAdd, Nat.reduceSub, Nat.reduceMul, Nat.reduceMod, WR, Nat.reduceBEq, Int.reduceBEq, Int.reduceBNe, BEq.rfl, hnt, hT]) <;> ((first | cases hb | (simp only [decide_eq_true_eq, decide_eq_false_iff_not, beq_iff_eq, beq_eq_false_iff_ne, bne_iff_ne, Bool.and_eq_true, Bool.or_eq_true, Bool.not_eq_true', Bool.not_eq_false', Bool.and_eq_false_iff, Bool.or_eq_false_iff, Int.not_lt, Int.not_le] at hb) | skip) <;> (first | (exfalso; omega) | skip)))
    | ((first | (refine CallVC.pt (l := [_, _]) hP (put_text num s h1 h2 hs) rfl ?_) | (refine CallQ.pt (l := [_, _]) hP (put_text num s h1 h2 hs) rfl ?_)); simp only [WS, JA, JB, wI64, wU64, Int.reduceAdd, Int.reduceSub, Int.reduceMul, Int.reduceLE, Int.reduceLT, Int.reduceNeg, Int.reduceToNat, Int.cast_ofNat_Int, sx0, sx1, sx2, sx3, sx4, sx5, sx6, sx7, sy0, sy1, List.filterMap_cons, JC, JD, WT, JE, JF, JG, JH, JI, JJ, JK, WU, JL, JM, JN, JO, WV, JP, JQ, WW, JR, JS, JT, JU, JV, JW, JX, JY, JZ, WA, WB, WC, WD, WE, WF, WG, WH, WI, WJ, WK, WL, WM, WN, true_and, and_true, reduceCtorEq, ↓reduceIte, ↓bifT, ↓bifF, ↓gifT, ↓gifF, eq_self, WO, WP, WQ, Nat.reduceLT, Nat.reduceLeDiff, Nat.reduceAdd, Nat.reduceSub, Nat.reduceMul, Nat.reduceMod, WR, Nat.reduceBEq, Int.reduceBEq, Int.reduceBNe, BEq.rfl, hnt, hT])
    | (refine SX.block ?_)
    | (refine and_mk ?_ ?_; (focus first | decide | omega | rfl | assumption | (simp only [List.length_append, List.length_cons, List.length_nil, B_size]; omega) | (simp; done)))
    | (refine And.intro ?_ ?_))
  all_goals (try refine Done.mk ?_)
  all_goals first | exact hbel | exact ⟨rfl, hbel⟩
end Go.Proofs.YtbdacbcpniegiaaDoor
namespace Go.Proofs.YtbdacbcpniegiaaDoor
open Go Go.RowKit Go.Proofs Go.Sx
set_option maxHeartbeats 4000000
set_option maxRecDepth 100000
set_option linter.unusedSimpArgs false
set_option linter.unusedVariables false
abbrev bldr (l : List UInt8) : List LO := [.cells [.loc 0 0, .row 1] 123, .row 5 1 l.length (bcells l)]
abbrev bldr' (l : List UInt8) : List LO := [.cells [.loc 0 0, .row 2] 123, .gone, .row 5 1 l.length (bcells l)]
theorem writeString_ctr (l s : List UInt8) (hn : l.length + s.length ≤ 1152921504606) : Ctr Tryd.prog [] 123 (bldr l) [.one (.c (.loc 0 0)), vv (.string (B s))]
    (fun os r => os = bldr' (l ++ s) ∧ r = .tup [.c (.v (.int .i64 s.length)), .c (.v .nilIface)]) :=
  (writeString_used l s l.length hn).mono (fun os r h => ⟨by rw [h.1]; simp, h.2⟩)
theorem string_ctr (l : List UInt8) (h0 : 0 < l.length) (hn : l.length ≤ 1152921504606) : Ctr Tryd.prog [] 69 (bldr l) [.one (.c (.loc 0 0))]
    (fun os r => os = [.cells [.loc 0 0, .row 1] 123, .gone] ∧ r = vv (.string (B l))) := by
  intro X0 hP0 hG0 N0 hN0
  refine CallVC.inline (f := 69) (by rw [hP0]; exact Tryd.func69) rfl Tryd.ntmps69 rfl (by simp) ?_
  intro X K hU hnt hbl hK
  have hP : X.P = Tryd.prog := by rw [hU.P, hP0]
  have hG := hG0.under hU
  have hT : fieldOff X.P 121 1 = some 1 ∧ aggOf X.P 58 = some false ∧ szOf X.P 58 = some 1 ∧ X.P.underlying 58 = some (TypeDesc.slice 5) := by rw [hP]; exact ⟨Ty.fo121_1, Ty.ag58, Ty.sz58, Tryd.underlying58⟩
  simp only [WS, JA, JB, wI64, wU64, Int.reduceAdd, Int.reduceSub, Int.reduceMul, Int.reduceLE, Int.reduceLT, Int.reduceNeg, Int.reduceToNat, Int.cast_ofNat_Int, sx0, sx1, sx2, sx3, sx4, sx5, sx6, sx7, sy0, sy1, List.filterMap_cons, JC, JD, WT, JE, JF, JG, JH, JI, JJ, JK, WU, JL, JM, JN, JO, WV, JP, JQ, WW, JR, JS, JT, JU, JV, JW, JX, JY, JZ, WA, WB, WC, WD, WE, WF, WG, WH, WI, WJ, WK, WL, WM, WN, true_and, and_true, reduceCtorEq, ↓reduceIte, ↓bifT, ↓bifF, ↓gifT, ↓gifF, eq_self, WO, WP, WQ, Nat.reduceLT, Nat.reduceLeDiff, Nat.reduceAdd, Nat.reduceSub, Nat.reduceMul, Nat.reduceMod, WR, Nat.reduceBEq, Int.reduceBEq, Int.reduceBNe, BEq.rfl] at hbl ⊢
  repeat' (first
    | (refine SX.seqK ?_; intro N hN)
    | ((first | (refine SX.ops ?_) | (refine SX.planT (id := 1) [.q [(0, [0]), (1, [3]), (2, [4]), (3, [5]), (4, [6]), (5, [0]), (6, [8]), (7, [9]), (8, [10]), (9, [11])] none, .s 10, .s 11] ?_ ?_ ?_; (focus first | (rw [hP]; kernel_rfl) | (rw [hU1P, hP]; kernel_rfl)); (focus kernel_rfl))); simp only [WS, JA, JB, wI64, wU64, Int.reduceAdd, Int.reduceSub, Int.reduceMul, Int.reduceLE, Int.reduceLT, Int.reduceNeg, Int.reduceToNat, Int.cast_ofNat_Int, sx0, sx1, sx2, sx3, sx4, sx5, sx6, sx7, sy0, sy1, List.filterMap_cons, JC, JD, WT, JE, JF, JG, JH, JI, JJ, JK, WU, JL, JM, JN, JO, WV, JP, JQ, WW, JR, JS, JT, JU, JV, JW, JX, JY, JZ, WA, WB, WC, WD, WE, WF, WG, WH, WI, WJ, WK, WL, WM, WN, true_and, and_true, reduceCtorEq, ↓reduceIte, ↓bifT, ↓bifF, ↓gifT, ↓gifF, eq_self, WO, WP, WQ, Nat.reduceLT, Nat.reduceLeDiff, Nat.reduceAdd, Nat.reduceSub, Nat.reduceMul, Nat.reduceMod, WR, Nat.reduceBEq, Int.reduceBEq, Int.reduceBNe, BEq.rfl, hnt, hT])
    | ((first | refine SX.skip ?_ | refine SX.exit ?_ | refine SX.label ?_); try simp only [WS, JA, JB, wI64, wU64, Int.reduceAdd, Int.reduceSub, Int.reduceMul, Int.reduceLE, Int.reduceLT, Int.reduceNeg, Int.reduceToNat, Int.cast_ofNat_Int, sx0, sx1, sx2, sx3, sx4, sx5, sx6, sx7, sy0, sy1, List.filterMap_cons, JC, JD, WT, JE, JF, JG, JH, JI, JJ, JK, WU, JL, JM, JN, JO, WV, JP, JQ, WW, JR, JS, JT, JU, JV, JW, JX, JY, JZ, WA, WB, WC, WD, WE, WF, WG, WH, WI, WJ, WK, WL, WM, WN, true_and, and_true, reduceCtorEq, ↓reduceIte, ↓bifT, ↓bifF, ↓gifT, ↓gifF, eq_self, WO, WP, WQ, Nat.reduceLT, Nat.reduceLeDiff, Nat.reduceAdd, Nat.reduceSub, Nat.reduceMul, Nat.reduceMod, WR, Nat.reduceBEq, Int.reduceBEq, Int.reduceBNe, BEq.rfl])
    | (refine SX.cond rfl (fun hb => ?_) (fun hb => ?_) <;> ((first | cases hb | (simp only [decide_eq_true_eq, decide_eq_false_iff_not, beq_iff_eq, beq_eq_false_iff_ne, bne_iff_ne, Bool.and_eq_true, Bool.or_eq_true, Bool.not_eq_true', Bool.not_eq_false', Bool.and_eq_false_iff, Bool.or_eq_false_iff, Int.not_lt, Int.not_le] at hb) | skip) <;> (first | (exfalso; omega) | skip)))
    | (refine SX.ret ?_; try simp only [WS, JA, JB, wI64, wU64, Int.reduceAdd, Int.reduceSub, Int.reduceMul, Int.reduceLE, Int.reduceLT, Int.reduceNeg, Int.reduceToNat, Int.cast_ofNat_Int, sx0, sx1, sx2, sx3, sx4, sx5, sx6, sx7, sy0, sy1, List.filterMap_cons, JC, JD, WT, JE, JF, JG, JH, JI, JJ, JK, WU, JL, JM, JN, JO, WV, JP, JQ, WW, JR, JS, JT, JU, JV, JW, JX, JY, JZ, WA, WB, WC, WD, WE, WF, WG, WH, WI, WJ, WK, WL, WM, WN, true_and, and_true, reduceCtorEq, ↓reduceIte, ↓bifT, ↓bifF, ↓gifT, ↓gifF, eq_self, WO, WP, WQ, Nat.reduceLT, Nat.reduceLeDiff, Nat.reduceAdd, Nat.reduceSub, Nat.reduceMul, Nat.reduceMod, WR, Nat.reduceBEq, Int.reduceBEq, Int.reduceBNe, BEq.rfl])
    | (refine hN _ ?_; clear hN N)
    | ((first | refine hK _ _ (FinI.ret3 ?_) | refine hK _ _ (FinI.nrm3 ?_)); simp only [WS, JA, JB, wI64, wU64, Int.reduceAdd, Int.reduceSub, Int.reduceMul, Int.reduceLE, Int.reduceLT, Int.reduceNeg, Int.reduceToNat, Int.cast_ofNat_Int, sx0, sx1, sx2, sx3, sx4, sx5, sx6, sx7, sy0, sy1, List.filterMap_cons, JC, JD, WT, JE, JF, JG, JH, JI, JJ, JK, WU, JL, JM, JN, JO, WV, JP, JQ, WW, JR, JS, JT, JU, JV, JW, JX, JY, JZ, WA, WB, WC, WD, WE, WF, WG, WH, WI, WJ, WK, WL, WM, WN, true_and, and_true, reduceCtorEq, ↓reduceIte, ↓bifT, ↓bifF, ↓gifT, ↓gifF, eq_self, WO, WP, WQ, Nat.reduceLT, Nat.reduceLeDiff, Nat.reduceAdd, Nat.reduceSub, Nat.reduceMul, Nat.reduceMod, WR, Nat.reduceBEq, Int.reduceBEq, Int.reduceBNe, BEq.rfl, finP_s, hnt, hT]; refine Done.out ?_)
    | (clear hN N; first | (refine hN _ ?_; clear hN N) | (clear hN N; first | (refine hN _ ?_; clear hN N) | (clear hN N; first | (refine hN _ ?_; clear hN N) | (clear hN N; first | (refine hN _ ?_; clear hN N) | (clear hN N; first | (refine hN _ ?_; clear hN N) | (refine hN _ ?_; clear hN N))))))
    | (refine bif2.mk (fun hb => ?_) (fun hb => ?_) <;> (try simp only [hb, WS, JA, JB, wI64, wU64, Int.reduceAdd, Int.reduceSub, Int.reduceMul, Int.reduceLE, Int.reduceLT, Int.reduceNeg, Int.reduceToNat, Int.cast_ofNat_Int, sx0, sx1, sx2, sx3, sx4, sx5, sx6, sx7, sy0, sy1, List.filterMap_cons, JC, JD, WT, JE, JF, JG, JH, JI, JJ, JK, WU, JL, JM, JN, JO, WV, JP, JQ, WW, JR, JS, JT, JU, JV, JW, JX, JY, JZ, WA, WB, WC, WD, WE, WF, WG, WH, WI, WJ, WK, WL, WM, WN, true_and, and_true, reduceCtorEq, ↓reduceIte, ↓bifT, ↓bifF, ↓gifT, ↓gifF, eq_self, WO, WP, WQ, Nat.reduceLT, Nat.reduceLeDiff, Nat.reduceAdd, Nat.reduceSub, Nat.reduceMul, Nat.reduceMod, WR, Nat.reduceBEq, Int.reduceBEq, Int.reduceBNe, BEq.rfl, hnt, hT]) <;> ((first | cases hb | (simp only [decide_eq_true_eq, decide_eq_false_iff_not, beq_iff_eq, beq_eq_false_iff_ne, bne_iff_ne, Bool.and_eq_true, Bool.or_eq_true, Bool.not_eq_true', Bool.not_eq_false', Bool.and_eq_false_iff, Bool.or_eq_false_iff, Int.not_lt, Int.not_le] at hb) | skip) <;> (first | (exfalso; omega) | skip)))
    | (show VO X _ _ _; refine VO.unsafeString (k := .i64) (l := l) (pt := 192) (e := 5) rfl rfl rfl (by rw [hP]; kernel_rfl) (by rw [hP]; kernel_rfl) (by intro e; subst e; simp at h0) (by omega) ?_; simp only [WS, JA, JB, wI64, wU64, Int.reduceAdd, Int.reduceSub, Int.reduceMul, Int.reduceLE, Int.reduceLT, Int.reduceNeg, Int.reduceToNat, Int.cast_ofNat_Int, sx0, sx1, sx2, sx3, sx4, sx5, sx6, sx7, sy0, sy1, List.filterMap_cons, JC, JD, WT, JE, JF, JG, JH, JI, JJ, JK, WU, JL, JM, JN, JO, WV, JP, JQ, WW, JR, JS, JT, JU, JV, JW, JX, JY, JZ, WA, WB, WC, WD, WE, WF, WG, WH, WI, WJ, WK, WL, WM, WN, true_and, and_true, reduceCtorEq, ↓reduceIte, ↓bifT, ↓bifF, ↓gifT, ↓gifF, eq_self, WO, WP, WQ, Nat.reduceLT, Nat.reduceLeDiff, Nat.reduceAdd, Nat.reduceSub, Nat.reduceMul, Nat.reduceMod, WR, Nat.reduceBEq, Int.reduceBEq, Int.reduceBNe, BEq.rfl, hnt, hT])
    | (refine SX.block ?_)
    | (refine and_mk ?_ ?_; (focus first | decide | omega | rfl | assumption | (simp only [List.length_append, List.length_cons, List.length_nil, B_size]; omega) | (simp; done)))
    | (refine And.intro ?_ ?_))
  all_goals (try refine Done.mk ?_)
  exact hN0 _ _ ⟨rfl, rfl⟩
theorem wnumber_ctr (l : List UInt8) (num n : Nat) (h1 : 1 ≤ num) (h2 : num < 536870912) (h0 : 0 < n) (hn : n < 18446744073709551616) (hl : l.length ≤ 1152921504000) :
    Ctr Tryd.prog [] 66 (bldr l) [.one (.c (.loc 0 0)), vv (.int .i64 num), vv (.int .u64 n)]
    (fun os r => os = bldr' (l ++ numB num n) ∧ r = .tup []) := by
  have g0 : decide ((0 : Int) < n) = true := by simp; omega
  have hl1 := NW.varint_len10 (n := num * 8) (by omega)
  have hl2 := NW.varint_len10 (n := n) (by omega)
  have hlen : l.length + (numB num n).length ≤ 1152921504606 := by simp [numB]; omega
  intro X0 hP0 hG0 N0 hN0
  refine CallVC.inline (f := 66) (by rw [hP0]; exact Tryd.func66) rfl Tryd.ntmps66 rfl (by simp) ?_
  intro X K hU hnt hbl hK
  have hP : X.P = Tryd.prog := by rw [hU.P, hP0]
  have hG := hG0.under hU
  have hT : fieldOff X.P 123 0 = some 0 ∧ calleeOk X.P 23 = true ∧ calleeOk X.P 123 = true := by rw [hP]; exact ⟨Ty.fo123_0, Ty.co23, Ty.co123⟩
  simp only [WS, JA, JB, wI64, wU64, Int.reduceAdd, Int.reduceSub, Int.reduceMul, Int.reduceLE, Int.reduceLT, Int.reduceNeg, Int.reduceToNat, Int.cast_ofNat_Int, sx0, sx1, sx2, sx3, sx4, sx5, sx6, sx7, sy0, sy1, List.filterMap_cons, JC, JD, WT, JE, JF, JG, JH, JI, JJ, JK, WU, JL, JM, JN, JO, WV, JP, JQ, WW, JR, JS, JT, JU, JV, JW, JX, JY, JZ, WA, WB, WC, WD, WE, WF, WG, WH, WI, WJ, WK, WL, WM, WN, true_and, and_true, reduceCtorEq, ↓reduceIte, ↓bifT, ↓bifF, ↓gifT, ↓gifF, eq_self, WO, WP, WQ, Nat.reduceLT, Nat.reduceLeDiff, Nat.reduceAdd, Nat.reduceSub, Nat.reduceMul, Nat.reduceMod, WR, Nat.reduceBEq, Int.reduceBEq, Int.reduceBNe, BEq.rfl] at hbl ⊢
  repeat' (first
    | (refine SX.seqK ?_; intro N hN)
    | ((first | (refine SX.ops ?_) | (refine SX.planT (id := 1) [.q [(0, [0]), (1, [8]), (2, [9]), (3, [1]), (4, [2]), (5, [11, 12])] none, .s 6] ?_ ?_ ?_; (focus first | (rw [hP]; kernel_rfl) | (rw [hU1P, hP]; kernel_rfl)); (focus kernel_rfl))); simp only [WS, JA, JB, wI64, wU64, Int.reduceAdd, Int.reduceSub, Int.reduceMul, Int.reduceLE, Int.reduceLT, Int.reduceNeg, Int.reduceToNat, Int.cast_ofNat_Int, sx0, sx1, sx2, sx3, sx4, sx5, sx6, sx7, sy0, sy1, List.filterMap_cons, JC, JD, WT, JE, JF, JG, JH, JI, JJ, JK, WU, JL, JM, JN, JO, WV, JP, JQ, WW, JR, JS, JT, JU, JV, JW, JX, JY, JZ, WA, WB, WC, WD, WE, WF, WG, WH, WI, WJ, WK, WL, WM, WN, true_and, and_true, reduceCtorEq, ↓reduceIte, ↓bifT, ↓bifF, ↓gifT, ↓gifF, eq_self, WO, WP, WQ, Nat.reduceLT, Nat.reduceLeDiff, Nat.reduceAdd, Nat.reduceSub, Nat.reduceMul, Nat.reduceMod, WR, Nat.reduceBEq, Int.reduceBEq, Int.reduceBNe, BEq.rfl, hnt, hT, g0])
    | ((first | refine SX.skip ?_ | refine SX.exit ?_ | refine SX.label ?_); try simp only [WS, JA, JB, wI64, wU64, Int.reduceAdd, Int.reduceSub, Int.reduceMul, Int.reduceLE, Int.reduceLT, Int.reduceNeg, Int.reduceToNat, Int.cast_ofNat_Int, sx0, sx1, sx2, sx3, sx4, sx5, sx6, sx7, sy0, sy1, List.filterMap_cons, JC, JD, WT, JE, JF, JG, JH, JI, JJ, JK, WU, JL, JM, JN, JO, WV, JP, JQ, WW, JR, JS, JT, JU, JV, JW, JX, JY, JZ, WA, WB, WC, WD, WE, WF, WG, WH, WI, WJ, WK, WL, WM, WN, true_and, and_true, reduceCtorEq, ↓reduceIte, ↓bifT, ↓bifF, ↓gifT, ↓gifF, eq_self, WO, WP, WQ, Nat.reduceLT, Nat.reduceLeDiff, Nat.reduceAdd, Nat.reduceSub, Nat.reduceMul, Nat.reduceMod, WR, Nat.reduceBEq, Int.reduceBEq, Int.reduceBNe, BEq.rfl])
    | (refine SX.cond rfl (fun hb => ?_) (fun hb => ?_) <;> ((first | cases hb | (simp only [decide_eq_true_eq, decide_eq_false_iff_not, beq_iff_eq, beq_eq_false_iff_ne, bne_iff_ne, Bool.and_eq_true, Bool.or_eq_true, Bool.not_eq_true', Bool.not_eq_false', Bool.and_eq_false_iff, Bool.or_eq_false_iff, Int.not_lt, Int.not_le] at hb) | skip) <;> (first | (exfalso; omega) | skip)))
    | (refine SX.ret ?_; try simp only [WS, JA, JB, wI64, wU64, Int.reduceAdd, Int.reduceSub, Int.reduceMul, Int.reduceLE, Int.reduceLT, Int.reduceNeg, Int.reduceToNat, Int.cast_ofNat_Int, sx0, sx1, sx2, sx3, sx4, sx5, sx6, sx7, sy0, sy1, List.filterMap_cons, JC, JD, WT, JE, JF, JG, JH, JI, JJ, JK, WU, JL, JM, JN, JO, WV, JP, JQ, WW, JR, JS, JT, JU, JV, JW, JX, JY, JZ, WA, WB, WC, WD, WE, WF, WG, WH, WI, WJ, WK, WL, WM, WN, true_and, and_true, reduceCtorEq, ↓reduceIte, ↓bifT, ↓bifF, ↓gifT, ↓gifF, eq_self, WO, WP, WQ, Nat.reduceLT, Nat.reduceLeDiff, Nat.reduceAdd, Nat.reduceSub, Nat.reduceMul, Nat.reduceMod, WR, Nat.reduceBEq, Int.reduceBEq, Int.reduceBNe, BEq.rfl])
    | (refine hN _ ?_; clear hN N)
    | ((first | refine hK _ _ (FinI.ret3 ?_) | refine hK _ _ (FinI.nrm3 ?_)); simp only [WS, JA, JB, wI64, wU64, Int.reduceAdd, Int.reduceSub, Int.reduceMul, Int.reduceLE, Int.reduceLT, Int.reduceNeg, Int.reduceToNat, Int.cast_ofNat_Int, sx0, sx1, sx2, sx3, sx4, sx5, sx6, sx7, sy0, sy1, List.filterMap_cons, JC, JD, WT, JE, JF, JG, JH, JI, JJ, JK, WU, JL, JM, JN, JO, WV, JP, JQ, WW, JR, JS, JT, JU, JV, JW, JX, JY, JZ, WA, WB, WC, WD, WE, WF, WG, WH, WI, WJ, WK, WL, WM, WN, true_and, and_true, reduceCtorEq, ↓reduceIte, ↓bifT, ↓bifF, ↓gifT, ↓gifF, eq_self, WO, WP, WQ, Nat.reduceLT, Nat.reduceLeDiff, Nat.reduceAdd, Nat.reduceSub, Nat.reduceMul, Nat.reduceMod, WR, Nat.reduceBEq, Int.reduceBEq, Int.reduceBNe, BEq.rfl, finP_s, hnt, hT, g0]; refine Done.out ?_)
    | (clear hN N; first | (refine hN _ ?_; clear hN N) | (clear hN N; first | (refine hN _ ?_; clear hN N) | (clear hN N; first | (refine hN _ ?_; clear hN N) | (clear hN N; first | (refine hN _ ?_; clear hN N) | (clear hN N; first | (refine hN _ ?_; clear hN N) | (refine hN _ ?_; clear hN N))))))
    | (refine bif2.mk (fun hb => ?_) (fun hb => ?_) <;> (try simp only [hb, WS, JA, JB, wI64, wU64, Int.reduceAdd, Int.reduceSub, Int.reduceMul, Int.reduceLE, Int.reduceLT, Int.reduceNeg, Int.reduceToNat, Int.cast_ofNat_Int, sx0, sx1, sx2, sx3, sx4, sx5, sx6, sx7, sy0, sy1, List.filterMap_cons, JC, JD, WT, JE, JF, JG, JH, JI, JJ, JK, WU, JL, JM, JN, JO, WV, JP, JQ, WW, JR, JS, JT, JU, JV, JW, JX, JY, JZ, WA, WB, WC, WD, WE, WF, WG, WH, WI, WJ, WK, WL, WM, WN, true_and, and_true, reduceCtorEq, ↓reduceIte, ↓bifT, ↓bifF, ↓gifT, ↓gifF, eq_self, WO, WP, WQ, Nat.reduceLT, Nat.reduceLeDiff, Nat.reduceAdd, Nat.reduceSub, Nat.reduceMul, Nat.reduceMod, WR, Nat.reduceBEq, Int.reduceBEq, Int.reduceBNe, BEq.rfl, hnt, hT, g0]) <;> ((first | cases hb | (simp only [decide_eq_true_eq, decide_eq_false_iff_not, beq_iff_eq, beq_eq_false_iff_ne, bne_iff_ne, Bool.and_eq_true, Bool.or_eq_true, Bool.not_eq_true', Bool.not_eq_false', Bool.and_eq_false_iff, Bool.or_eq_false_iff, Int.not_lt, Int.not_le] at hb) | skip) <;> (first | (exfalso; omega) | skip)))
    | ((first | (refine CallVC.pv hP (number_any num n h1 h2 hn) rfl ?_) | (refine CallQ.pv hP (number_any num n h1 h2 hn) rfl ?_) | (refine Ctr.use (writeString_ctr l (numB num n) hlen) hP ?_ [0,1] ?_ rfl rfl ?_; (focus (intro p hp; cases hp)); (focus (refine LeR.of rfl trivial ?_ ?_ ?_ ?_ ?_ <;> first | decide | (simp only [WS, JA, JB, wI64, wU64, Int.reduceAdd, Int.reduceSub, Int.reduceMul, Int.reduceLE, Int.reduceLT, Int.reduceNeg, Int.reduceToNat, Int.cast_ofNat_Int, sx0, sx1, sx2, sx3, sx4, sx5, sx6, sx7, sy0, sy1, List.filterMap_cons, JC, JD, WT, JE, JF, JG, JH, JI, JJ, JK, WU, JL, JM, JN, JO, WV, JP, JQ, WW, JR, JS, JT, JU, JV, JW, JX, JY, JZ, WA, WB, WC, WD, WE, WF, WG, WH, WI, WJ, WK, WL, WM, WN, true_and, and_true, reduceCtorEq, ↓reduceIte, ↓bifT, ↓bifF, ↓gifT, ↓gifF, eq_self, WO, WP, WQ, Nat.reduceLT, Nat.reduceLeDiff, Nat.reduceAdd, Nat.reduceSub, Nat.reduceMul, Nat.reduceMod, WR, Nat.reduceBEq, Int.reduceBEq, Int.reduceBNe, BEq.rfl, List.getD_cons_zero, List.getD_cons_succ, or_false, false_or, or_self, or_true, true_or, decide_true]; done))); intro os' s hR; obtain ⟨rfl, rfl⟩ := hR)); simp only [WS, JA, JB, wI64, wU64, Int.reduceAdd, Int.reduceSub, Int.reduceMul, Int.reduceLE, Int.reduceLT, Int.reduceNeg, Int.reduceToNat, Int.cast_ofNat_Int, sx0, sx1, sx2, sx3, sx4, sx5, sx6, sx7, sy0, sy1, List.filterMap_cons, JC, JD, WT, JE, JF, JG, JH, JI, JJ, JK, WU, JL, JM, JN, JO, WV, JP, JQ, WW, JR, JS, JT, JU, JV, JW, JX, JY, JZ, WA, WB, WC, WD, WE, WF, WG, WH, WI, WJ, WK, WL, WM, WN, true_and, and_true, reduceCtorEq, ↓reduceIte, ↓bifT, ↓bifF, ↓gifT, ↓gifF, eq_self, WO, WP, WQ, Nat.reduceLT, Nat.reduceLeDiff, Nat.reduceAdd, Nat.reduceSub, Nat.reduceMul, Nat.reduceMod, WR, Nat.reduceBEq, Int.reduceBEq, Int.reduceBNe, BEq.rfl, hnt, hT, g0])
    | (refine SX.block ?_)
    | (refine and_mk ?_ ?_; (focus first | decide | omega | rfl | assumption | (simp only [List.length_append, List.length_cons, List.length_nil, B_size]; omega) | (simp; done)))
    | (refine And.intro ?_ ?_))
  all_goals (try refine Done.mk ?_)
  all_goals exact hN0 _ _ ⟨rfl, rfl⟩
end Go.Proofs.YtbdacbcpniegiaaDoor
namespace Go.Proofs.YtbdacbcpniegiaaDoor
open Go Go.RowKit Go.Proofs Go.Sx
set_option maxHeartbeats 4000000
set_option maxRecDepth 100000
set_option linter.unusedSimpArgs false
set_option linter.unusedVariables false
theorem writeByte_ctr (b : UInt8) : Ctr Tryd.prog [] 65 [.cells [.v (.pointer none), .v (.slice none 0 0)] 123] [.one (.c (.loc 0 0)), vv (.int .u8 b.toNat)]
    (fun os s => os = [.cells [.loc 0 0, .row 3] 123, .cells [.v (.int .u8 b.toNat)] 5, .gone, .row 5 1 [b].length (bcells [b])] ∧ s = vv .nilIface) :=
  (writeByte_fresh b.toNat).mono (fun os r h => ⟨by rw [h.1]; rfl, h.2⟩)
theorem wlist1_ctr (l s : List UInt8) (num : Nat) (h1 : 1 ≤ num) (h2 : num < 536870912) (hs : s.length < 4294967296) (hl : l.length ≤ 1148000000000) :
    Ctr Tryd.prog [] 67 (bldr l ++ [.cells [.v (.string (B s))] 9]) [.one (.c (.loc 0 0)), vv (.int .i64 num), .one (.c (.sl 2 0 1 1))]
    (fun os r => os = [.cells [.loc 0 0, .row 3] 123, .gone, .cells [.v (.string (B s))] 9, .row 5 1 (l ++ textB num s).length (bcells (l ++ textB num s))] ∧ r = .tup []) := by
  have hl1 := NW.varint_len10 (n := num * 8 + 2) (by omega)
  have hl2 := NW.varint_len10 (n := s.length) (by omega)
  have hlen : l.length + (textB num s).length ≤ 1152921504606 := by simp [textB]; omega
  intro X0 hP0 hG0 N0 hN0
  refine CallVC.inline (f := 67) (by rw [hP0]; exact Tryd.func67) rfl Tryd.ntmps67 rfl (by simp) ?_
  intro X K hU hnt hbl hK
  have hP : X.P = Tryd.prog := by rw [hU.P, hP0]
  have hG := hG0.under hU
  have hT : X.P.underlying 38 = some (TypeDesc.slice 9) ∧ elemSz X.P 38 = some (9, 1) ∧ aggOf X.P 9 = some false ∧ szOf X.P 9 = some 1 ∧ fieldOff X.P 123 0 = some 0 ∧ calleeOk X.P 104 = true ∧ calleeOk X.P 123 = true := by rw [hP]; exact ⟨Tryd.underlying38, Ty.el38, Ty.ag9, Ty.sz9, Ty.fo123_0, Ty.co104, Ty.co123⟩
  simp only [WS, JA, JB, wI64, wU64, Int.reduceAdd, Int.reduceSub, Int.reduceMul, Int.reduceLE, Int.reduceLT, Int.reduceNeg, Int.reduceToNat, Int.cast_ofNat_Int, sx0, sx1, sx2, sx3, sx4, sx5, sx6, sx7, sy0, sy1, List.filterMap_cons, JC, JD, WT, JE, JF, JG, JH, JI, JJ, JK, WU, JL, JM, JN, JO, WV, JP, JQ, WW, JR, JS, JT, JU, JV, JW, JX, JY, JZ, WA, WB, WC, WD, WE, WF, WG, WH, WI, WJ, WK, WL, WM, WN, true_and, and_true, reduceCtorEq, ↓reduceIte, ↓bifT, ↓bifF, ↓gifT, ↓gifF, eq_self, WO, WP, WQ, Nat.reduceLT, Nat.reduceLeDiff, Nat.reduceAdd, Nat.reduceSub, Nat.reduceMul, Nat.reduceMod, WR, Nat.reduceBEq, Int.reduceBEq, Int.reduceBNe, BEq.rfl] at hbl ⊢
  repeat' (first
    | (refine SX.seqK ?_; intro N hN)
    | ((first | (refine SX.ops ?_) | (refine SX.planT (id := 3) [.q [(0, [0]), (1, [14]), (2, [15]), (3, [1]), (4, [7]), (5, [17, 18])] none, .s 6] ?_ ?_ ?_; (focus first | (rw [hP]; kernel_rfl) | (rw [hU1P, hP]; kernel_rfl)); (focus kernel_rfl))); simp only [WS, JA, JB, wI64, wU64, Int.reduceAdd, Int.reduceSub, Int.reduceMul, Int.reduceLE, Int.reduceLT, Int.reduceNeg, Int.reduceToNat, Int.cast_ofNat_Int, sx0, sx1, sx2, sx3, sx4, sx5, sx6, sx7, sy0, sy1, List.filterMap_cons, JC, JD, WT, JE, JF, JG, JH, JI, JJ, JK, WU, JL, JM, JN, JO, WV, JP, JQ, WW, JR, JS, JT, JU, JV, JW, JX, JY, JZ, WA, WB, WC, WD, WE, WF, WG, WH, WI, WJ, WK, WL, WM, WN, true_and, and_true, reduceCtorEq, ↓reduceIte, ↓bifT, ↓bifF, ↓gifT, ↓gifF, eq_self, WO, WP, WQ, Nat.reduceLT, Nat.reduceLeDiff, Nat.reduceAdd, Nat.reduceSub, Nat.reduceMul, Nat.reduceMod, WR, Nat.reduceBEq, Int.reduceBEq, Int.reduceBNe, BEq.rfl, hnt, hT])
    | ((first | refine SX.skip ?_ | refine SX.exit ?_ | refine SX.label ?_); try simp only [WS, JA, JB, wI64, wU64, Int.reduceAdd, Int.reduceSub, Int.reduceMul, Int.reduceLE, Int.reduceLT, Int.reduceNeg, Int.reduceToNat, Int.cast_ofNat_Int, sx0, sx1, sx2, sx3, sx4, sx5, sx6, sx7, sy0, sy1, List.filterMap_cons, JC, JD, WT, JE, JF, JG, JH, JI, JJ, JK, WU, JL, JM, JN, JO, WV, JP, JQ, WW, JR, JS, JT, JU, JV, JW, JX, JY, JZ, WA, WB, WC, WD, WE, WF, WG, WH, WI, WJ, WK, WL, WM, WN, true_and, and_true, reduceCtorEq, ↓reduceIte, ↓bifT, ↓bifF, ↓gifT, ↓gifF, eq_self, WO, WP, WQ, Nat.reduceLT, Nat.reduceLeDiff, Nat.reduceAdd, Nat.reduceSub, Nat.reduceMul, Nat.reduceMod, WR, Nat.reduceBEq, Int.reduceBEq, Int.reduceBNe, BEq.rfl])
    | (refine SX.cond rfl (fun hb => ?_) (fun hb => ?_) <;> ((first | cases hb | (simp only [decide_eq_true_eq, decide_eq_false_iff_not, beq_iff_eq, beq_eq_false_iff_ne, bne_iff_ne, Bool.and_eq_true, Bool.or_eq_true, Bool.not_eq_true', Bool.not_eq_false', Bool.and_eq_false_iff, Bool.or_eq_false_iff, Int.not_lt, Int.not_le] at hb) | skip) <;> (first | (exfalso; omega) | skip)))
    | (refine SX.ret ?_; try simp only [WS, JA, JB, wI64, wU64, Int.reduceAdd, Int.reduceSub, Int.reduceMul, Int.reduceLE, Int.reduceLT, Int.reduceNeg, Int.reduceToNat, Int.cast_ofNat_Int, sx0, sx1, sx2, sx3, sx4, sx5, sx6, sx7, sy0, sy1, List.filterMap_cons, JC, JD, WT, JE, JF, JG, JH, JI, JJ, JK, WU, JL, JM, JN, JO, WV, JP, JQ, WW, JR, JS, JT, JU, JV, JW, JX, JY, JZ, WA, WB, WC, WD, WE, WF, WG, WH, WI, WJ, WK, WL, WM, WN, true_and, and_true, reduceCtorEq, ↓reduceIte, ↓bifT, ↓bifF, ↓gifT, ↓gifF, eq_self, WO, WP, WQ, Nat.reduceLT, Nat.reduceLeDiff, Nat.reduceAdd, Nat.reduceSub, Nat.reduceMul, Nat.reduceMod, WR, Nat.reduceBEq, Int.reduceBEq, Int.reduceBNe, BEq.rfl])
    | (refine hN _ ?_; clear hN N)
    | ((first | refine hK _ _ (FinI.ret3 ?_) | refine hK _ _ (FinI.nrm3 ?_)); simp only [WS, JA, JB, wI64, wU64, Int.reduceAdd, Int.reduceSub, Int.reduceMul, Int.reduceLE, Int.reduceLT, Int.reduceNeg, Int.reduceToNat, Int.cast_ofNat_Int, sx0, sx1, sx2, sx3, sx4, sx5, sx6, sx7, sy0, sy1, List.filterMap_cons, JC, JD, WT, JE, JF, JG, JH, JI, JJ, JK, WU, JL, JM, JN, JO, WV, JP, JQ, WW, JR, JS, JT, JU, JV, JW, JX, JY, JZ, WA, WB, WC, WD, WE, WF, WG, WH, WI, WJ, WK, WL, WM, WN, true_and, and_true, reduceCtorEq, ↓reduceIte, ↓bifT, ↓bifF, ↓gifT, ↓gifF, eq_self, WO, WP, WQ, Nat.reduceLT, Nat.reduceLeDiff, Nat.reduceAdd, Nat.reduceSub, Nat.reduceMul, Nat.reduceMod, WR, Nat.reduceBEq, Int.reduceBEq, Int.reduceBNe, BEq.rfl, finP_s, hnt, hT]; refine Done.out ?_)
    | (clear hN N; first | (refine hN _ ?_; clear hN N) | (clear hN N; first | (refine hN _ ?_; clear hN N) | (clear hN N; first | (refine hN _ ?_; clear hN N) | (clear hN N; first | (refine hN _ ?_; clear hN N) | (clear hN N; first | (refine hN _ ?_; clear hN N) | (refine hN _ ?_; clear hN N))))))
    | (refine bif2.mk (fun hb => ?_) (fun hb => ?_) <;> (try simp only [hb, WS, JA, JB, wI64, wU64, Int.reduceAdd, Int.reduceSub, Int.reduceMul, Int.reduceLE, Int.reduceLT, Int.reduceNeg, Int.reduceToNat, Int.cast_ofNat_Int, sx0, sx1, sx2, sx3, sx4, sx5, sx6, sx7, sy0, sy1, List.filterMap_cons, JC, JD, WT, JE, JF, JG, JH, JI, JJ, JK, WU, JL, JM, JN, JO, WV, JP, JQ, WW, JR, JS, JT, JU, JV, JW, JX, JY, JZ, WA, WB, WC, WD, WE, WF, WG, WH, WI, WJ, WK, WL, WM, WN, true_and, and_true, reduceCtorEq, ↓reduceIte, ↓bifT, ↓bifF, ↓gifT, ↓gifF, eq_self, WO, WP, WQ, Nat.reduceLT, Nat.reduceLeDiff, Nat.reduceAdd, Nat.reduceSub, Nat.reduceMul, Nat.reduceMod, WR, Nat.reduceBEq, Int.reduceBEq, Int.reduceBNe, BEq.rfl, hnt, hT]) <;> ((first | cases hb | (simp only [decide_eq_true_eq, decide_eq_false_iff_not, beq_iff_eq, beq_eq_false_iff_ne, bne_iff_ne, Bool.and_eq_true, Bool.or_eq_true, Bool.not_eq_true', Bool.not_eq_false', Bool.and_eq_false_iff, Bool.or_eq_false_iff, Int.not_lt, Int.not_le] at hb) | skip) <;> (first | (exfalso; omega) | skip)))
    | ((first | (refine CallVC.pv hP (text_any num s h1 h2 (by omega)) rfl ?_) | (refine CallQ.pv hP (text_any num s h1 h2 (by omega)) rfl ?_) | (refine Ctr.use (writeString_ctr l (textB num s) hlen) hP ?_ [0,1] ?_ rfl rfl ?_; (focus (intro p hp; cases hp)); (focus (refine LeR.of rfl trivial ?_ ?_ ?_ ?_ ?_ <;> first | decide | (simp only [WS, JA, JB, wI64, wU64, Int.reduceAdd, Int.reduceSub, Int.reduceMul, Int.reduceLE, Int.reduceLT, Int.reduceNeg, Int.reduceToNat, Int.cast_ofNat_Int, sx0, sx1, sx2, sx3, sx4, sx5, sx6, sx7, sy0, sy1, List.filterMap_cons, JC, JD, WT, JE, JF, JG, JH, JI, JJ, JK, WU, JL, JM, JN, JO, WV, JP, JQ, WW, JR, JS, JT, JU, JV, JW, JX, JY, JZ, WA, WB, WC, WD, WE, WF, WG, WH, WI, WJ, WK, WL, WM, WN, true_and, and_true, reduceCtorEq, ↓reduceIte, ↓bifT, ↓bifF, ↓gifT, ↓gifF, eq_self, WO, WP, WQ, Nat.reduceLT, Nat.reduceLeDiff, Nat.reduceAdd, Nat.reduceSub, Nat.reduceMul, Nat.reduceMod, WR, Nat.reduceBEq, Int.reduceBEq, Int.reduceBNe, BEq.rfl, List.getD_cons_zero, List.getD_cons_succ, or_false, false_or, or_self, or_true, true_or, decide_true]; done))); intro os' s hR; obtain ⟨rfl, rfl⟩ := hR)); simp only [WS, JA, JB, wI64, wU64, Int.reduceAdd, Int.reduceSub, Int.reduceMul, Int.reduceLE, Int.reduceLT, Int.reduceNeg, Int.reduceToNat, Int.cast_ofNat_Int, sx0, sx1, sx2, sx3, sx4, sx5, sx6, sx7, sy0, sy1, List.filterMap_cons, JC, JD, WT, JE, JF, JG, JH, JI, JJ, JK, WU, JL, JM, JN, JO, WV, JP, JQ, WW, JR, JS, JT, JU, JV, JW, JX, JY, JZ, WA, WB, WC, WD, WE, WF, WG, WH, WI, WJ, WK, WL, WM, WN, true_and, and_true, reduceCtorEq, ↓reduceIte, ↓bifT, ↓bifF, ↓gifT, ↓gifF, eq_self, WO, WP, WQ, Nat.reduceLT, Nat.reduceLeDiff, Nat.reduceAdd, Nat.reduceSub, Nat.reduceMul, Nat.reduceMod, WR, Nat.reduceBEq, Int.reduceBEq, Int.reduceBNe, BEq.rfl, hnt, hT])
    | (refine SX.loopN 2 ?_)
    | (refine SXr.stepK ?_; intro N hN)
    | (refine SX.block ?_)
    | (refine and_mk ?_ ?_; (focus first | decide | omega | rfl | assumption | (simp only [List.length_append, List.length_cons, List.length_nil, B_size]; omega) | (simp; done)))
    | (refine And.intro ?_ ?_))
  all_goals (try refine Done.mk ?_)
  all_goals exact hN0 _ _ ⟨rfl, rfl⟩
theorem wflag_yes (l : List UInt8) (num : Nat) (h1 : 1 ≤ num) (h2 : num < 536870912) (hl : l.length ≤ 1152921504000) :
    Ctr Tryd.prog [] 68 (bldr l) [.one (.c (.loc 0 0)), vv (.int .i64 num), vv (.bool true)] (fun os r => os = bldr' (l ++ numB num 1) ∧ r = .tup []) := by
  intro X0 hP0 hG0 N0 hN0
  refine CallVC.inline (f := 68) (by rw [hP0]; exact Tryd.func68) rfl Tryd.ntmps68 rfl (by simp) ?_
  intro X K hU hnt hbl hK
  have hP : X.P = Tryd.prog := by rw [hU.P, hP0]
  have hG := hG0.under hU
  have hT : calleeOk X.P 66 = true := by rw [hP]; exact Ty.co66
  simp only [WS, JA, JB, wI64, wU64, Int.reduceAdd, Int.reduceSub, Int.reduceMul, Int.reduceLE, Int.reduceLT, Int.reduceNeg, Int.reduceToNat, Int.cast_ofNat_Int, sx0, sx1, sx2, sx3, sx4, sx5, sx6, sx7, sy0, sy1, List.filterMap_cons, JC, JD, WT, JE, JF, JG, JH, JI, JJ, JK, WU, JL, JM, JN, JO, WV, JP, JQ, WW, JR, JS, JT, JU, JV, JW, JX, JY, JZ, WA, WB, WC, WD, WE, WF, WG, WH, WI, WJ, WK, WL, WM, WN, true_and, and_true, reduceCtorEq, ↓reduceIte, ↓bifT, ↓bifF, ↓gifT, ↓gifF, eq_self, WO, WP, WQ, Nat.reduceLT, Nat.reduceLeDiff, Nat.reduceAdd, Nat.reduceSub, Nat.reduceMul, Nat.reduceMod, WR, Nat.reduceBEq, Int.reduceBEq, Int.reduceBNe, BEq.rfl] at hbl ⊢
  repeat' (first
    | (refine SX.seqK ?_; intro N hN)
    | ((first | (refine SX.ops ?_)); simp only [WS, JA, JB, wI64, wU64, Int.reduceAdd, Int.reduceSub, Int.reduceMul, Int.reduceLE, Int.reduceLT, Int.reduceNeg, Int.reduceToNat, Int.cast_ofNat_Int, sx0, sx1, sx2, sx3, sx4, sx5, sx6, sx7, sy0, sy1, List.filterMap_cons, JC, JD, WT, JE, JF, JG, JH, JI, JJ, JK, WU, JL, JM, JN, JO, WV, JP, JQ, WW, JR, JS, JT, JU, JV, JW, JX, JY, JZ, WA, WB, WC, WD, WE, WF, WG, WH, WI, WJ, WK, WL, WM, WN, true_and, and_true, reduceCtorEq, ↓reduceIte, ↓bifT, ↓bifF, ↓gifT, ↓gifF, eq_self, WO, WP, WQ, Nat.reduceLT, Nat.reduceLeDiff, Nat.reduceAdd, Nat.reduceSub, Nat.reduceMul, Nat.reduceMod, WR, Nat.reduceBEq, Int.reduceBEq, Int.reduceBNe, BEq.rfl, hnt, hT])
    | ((first | refine SX.skip ?_ | refine SX.exit ?_ | refine SX.label ?_); try simp only [WS, JA, JB, wI64, wU64, Int.reduceAdd, Int.reduceSub, Int.reduceMul, Int.reduceLE, Int.reduceLT, Int.reduceNeg, Int.reduceToNat, Int.cast_ofNat_Int, sx0, sx1, sx2, sx3, sx4, sx5, sx6, sx7, sy0, sy1, List.filterMap_cons, JC, JD, WT, JE, JF, JG, JH, JI, JJ, JK, WU, JL, JM, JN, JO, WV, JP, JQ, WW, JR, JS, JT, JU, JV, JW, JX, JY, JZ, WA, WB, WC, WD, WE, WF, WG, WH, WI, WJ, WK, WL, WM, WN, true_and, and_true, reduceCtorEq, ↓reduceIte, ↓bifT, ↓bifF, ↓gifT, ↓gifF, eq_self, WO, WP, WQ, Nat.reduceLT, Nat.reduceLeDiff, Nat.reduceAdd, Nat.reduceSub, Nat.reduceMul, Nat.reduceMod, WR, Nat.reduceBEq, Int.reduceBEq, Int.reduceBNe, BEq.rfl])
    | (refine SX.cond rfl (fun hb => ?_) (fun hb => ?_) <;> ((first | cases hb | (simp only [decide_eq_true_eq, decide_eq_false_iff_not, beq_iff_eq, beq_eq_false_iff_ne, bne_iff_ne, Bool.and_eq_true, Bool.or_eq_true, Bool.not_eq_true', Bool.not_eq_false', Bool.and_eq_false_iff, Bool.or_eq_false_iff, Int.not_lt, Int.not_le] at hb) | skip) <;> (first | (exfalso; omega) | skip)))
    | (refine SX.ret ?_; try simp only [WS, JA, JB, wI64, wU64, Int.reduceAdd, Int.reduceSub, Int.reduceMul, Int.reduceLE, Int.reduceLT, Int.reduceNeg, Int.reduceToNat, Int.cast_ofNat_Int, sx0, sx1, sx2, sx3, sx4, sx5, sx6, sx7, sy0, sy1, List.filterMap_cons, JC, JD, WT, JE, JF, JG, JH, JI, JJ, JK, WU, JL, JM, JN, JO, WV, JP, JQ, WW, JR, JS, JT, JU, JV, JW, JX, JY, JZ, WA, WB, WC, WD, WE, WF, WG, WH, WI, WJ, WK, WL, WM, WN, true_and, and_true, reduceCtorEq, ↓reduceIte, ↓bifT, ↓bifF, ↓gifT, ↓gifF, eq_self, WO, WP, WQ, Nat.reduceLT, Nat.reduceLeDiff, Nat.reduceAdd, Nat.reduceSub, Nat.reduceMul, Nat.reduceMod, WR, Nat.reduceBEq, Int.reduceBEq, Int.reduceBNe, BEq.rfl])
    | (refine hN _ ?_; clear hN N)
    | ((first | refine hK _ _ (FinI.ret3 ?_) | refine hK _ _ (FinI.nrm3 ?_)); simp only [WS, JA, JB, wI64, wU64, Int.reduceAdd, Int.reduceSub, Int.reduceMul, Int.reduceLE, Int.reduceLT, Int.reduceNeg, Int.reduceToNat, Int.cast_ofNat_Int, sx0, sx1, sx2, sx3, sx4, sx5, sx6, sx7, sy0, sy1, List.filterMap_cons, JC, JD, WT, JE, JF, JG, JH, JI, JJ, JK, WU, JL, JM, JN, JO, WV, JP, JQ, WW, JR, JS, JT, JU, JV, JW, JX, JY, JZ, WA, WB, WC, WD, WE, WF, WG, WH, WI, WJ, WK, WL, WM, WN, true_and, and_true, reduceCtorEq, ↓reduceIte, ↓bifT, ↓bifF, ↓gifT, ↓gifF, eq_self, WO, WP, WQ, Nat.reduceLT, Nat.reduceLeDiff, Nat.reduceAdd, Nat.reduceSub, Nat.reduceMul, Nat.reduceMod, WR, Nat.reduceBEq, Int.reduceBEq, Int.reduceBNe, BEq.rfl, finP_s, hnt, hT]; refine Done.out ?_)
    | (clear hN N; first | (refine hN _ ?_; clear hN N) | (clear hN N; first | (refine hN _ ?_; clear hN N) | (clear hN N; first | (refine hN _ ?_; clear hN N) | (clear hN N; first | (refine hN _ ?_; clear hN N) | (clear hN N; first | (refine hN _ ?_; clear hN N) | (refine hN _ ?_; clear hN N))))))
    | (refine bif2.mk (fun hb => ?_) (fun hb => ?_) <;> (try simp only [hb, WS, JA, JB, wI64, wU64, Int.reduceAdd, Int.reduceSub, Int.reduceMul, Int.reduceLE, Int.reduceLT, Int.reduceNeg, Int.reduceToNat, Int.cast_ofNat_Int, sx0, sx1, sx2, sx3, sx4, sx5, sx6, sx7, sy0, sy1, List.filterMap_cons, JC, JD, WT, JE, JF, JG, JH, JI, JJ, JK, WU, JL, JM, JN, JO, WV, JP, JQ, WW, JR, JS, JT, JU, JV, JW, JX, JY, JZ, WA, WB, WC, WD, WE, WF, WG, WH, WI, WJ, WK, WL, WM, WN, true_and, and_true, reduceCtorEq, ↓reduceIte, ↓bifT, ↓bifF, ↓gifT, ↓gifF, eq_self, WO, WP, WQ, Nat.reduceLT, Nat.reduceLeDiff, Nat.reduceAdd, Nat.reduceSub, Nat.reduceMul, Nat.reduceMod, WR, Nat.reduceBEq, Int.reduceBEq, Int.reduceBNe, BEq.rfl, hnt, hT]) <;> ((first | cases hb | (simp only [decide_eq_true_eq, decide_eq_false_iff_not, beq_iff_eq, beq_eq_false_iff_ne, bne_iff_ne, Bool.and_eq_true, Bool.or_eq_true, Bool.not_eq_true', Bool.not_eq_false', Bool.and_eq_false_iff, Bool.or_eq_false_iff, Int.not_lt, Int.not_le] at hb) | skip) <;> (first | (exfalso; omega) | skip)))
    | ((first | (refine Ctr.use (wnumber_ctr l num 1 h1 h2 (by decide) (by decide) hl) hP ?_ [0,1] ?_ rfl rfl ?_; (focus (intro p hp; cases hp)); (focus (refine LeR.of rfl trivial ?_ ?_ ?_ ?_ ?_ <;> first | decide | (simp only [WS, JA, JB, wI64, wU64, Int.reduceAdd, Int.reduceSub, Int.reduceMul, Int.reduceLE, Int.reduceLT, Int.reduceNeg, Int.reduceToNat, Int.cast_ofNat_Int, sx0, sx1, sx2, sx3, sx4, sx5, sx6, sx7, sy0, sy1, List.filterMap_cons, JC, JD, WT, JE, JF, JG, JH, JI, JJ, JK, WU, JL, JM, JN, JO, WV, JP, JQ, WW, JR, JS, JT, JU, JV, JW, JX, JY, JZ, WA, WB, WC, WD, WE, WF, WG, WH, WI, WJ, WK, WL, WM, WN, true_and, and_true, reduceCtorEq, ↓reduceIte, ↓bifT, ↓bifF, ↓gifT, ↓gifF, eq_self, WO, WP, WQ, Nat.reduceLT, Nat.reduceLeDiff, Nat.reduceAdd, Nat.reduceSub, Nat.reduceMul, Nat.reduceMod, WR, Nat.reduceBEq, Int.reduceBEq, Int.reduceBNe, BEq.rfl, List.getD_cons_zero, List.getD_cons_succ, or_false, false_or, or_self, or_true, true_or, decide_true]; done))); intro os' s hR; obtain ⟨rfl, rfl⟩ := hR)); simp only [WS, JA, JB, wI64, wU64, Int.reduceAdd, Int.reduceSub, Int.reduceMul, Int.reduceLE, Int.reduceLT, Int.reduceNeg, Int.reduceToNat, Int.cast_ofNat_Int, sx0, sx1, sx2, sx3, sx4, sx5, sx6, sx7, sy0, sy1, List.filterMap_cons, JC, JD, WT, JE, JF, JG, JH, JI, JJ, JK, WU, JL, JM, JN, JO, WV, JP, JQ, WW, JR, JS, JT, JU, JV, JW, JX, JY, JZ, WA, WB, WC, WD, WE, WF, WG, WH, WI, WJ, WK, WL, WM, WN, true_and, and_true, reduceCtorEq, ↓reduceIte, ↓bifT, ↓bifF, ↓gifT, ↓gifF, eq_self, WO, WP, WQ, Nat.reduceLT, Nat.reduceLeDiff, Nat.reduceAdd, Nat.reduceSub, Nat.reduceMul, Nat.reduceMod, WR, Nat.reduceBEq, Int.reduceBEq, Int.reduceBNe, BEq.rfl, hnt, hT])
    | (refine SX.block ?_)
    | (refine and_mk ?_ ?_; (focus first | decide | omega | rfl | assumption | (simp only [List.length_append, List.length_cons, List.length_nil, B_size]; omega) | (simp; done)))
    | (refine And.intro ?_ ?_))
  all_goals (try refine Done.mk ?_)
  all_goals exact hN0 _ _ ⟨rfl, rfl⟩
theorem wflag_no (l : List UInt8) (num : Nat) : Ctr Tryd.prog [] 68 (bldr l) [.one (.c (.loc 0 0)), vv (.int .i64 num), vv (.bool false)] (fun os r => os = bldr l ∧ r = .tup []) := by
  intro X0 hP0 hG0 N0 hN0
  refine CallVC.inline (f := 68) (by rw [hP0]; exact Tryd.func68) rfl Tryd.ntmps68 rfl (by simp) ?_
  intro X K hU hnt hbl hK
  have hP : X.P = Tryd.prog := by rw [hU.P, hP0]
  have hG := hG0.under hU
  have hT : calleeOk X.P 66 = true := by rw [hP]; exact Ty.co66
  simp only [WS, JA, JB, wI64, wU64, Int.reduceAdd, Int.reduceSub, Int.reduceMul, Int.reduceLE, Int.reduceLT, Int.reduceNeg, Int.reduceToNat, Int.cast_ofNat_Int, sx0, sx1, sx2, sx3, sx4, sx5, sx6, sx7, sy0, sy1, List.filterMap_cons, JC, JD, WT, JE, JF, JG, JH, JI, JJ, JK, WU, JL, JM, JN, JO, WV, JP, JQ, WW, JR, JS, JT, JU, JV, JW, JX, JY, JZ, WA, WB, WC, WD, WE, WF, WG, WH, WI, WJ, WK, WL, WM, WN, true_and, and_true, reduceCtorEq, ↓reduceIte, ↓bifT, ↓bifF, ↓gifT, ↓gifF, eq_self, WO, WP, WQ, Nat.reduceLT, Nat.reduceLeDiff, Nat.reduceAdd, Nat.reduceSub, Nat.reduceMul, Nat.reduceMod, WR, Nat.reduceBEq, Int.reduceBEq, Int.reduceBNe, BEq.rfl] at hbl ⊢
  repeat' (first
    | (refine SX.seqK ?_; intro N hN)
    | ((first | (refine SX.ops ?_)); simp only [WS, JA, JB, wI64, wU64, Int.reduceAdd, Int.reduceSub, Int.reduceMul, Int.reduceLE, Int.reduceLT, Int.reduceNeg, Int.reduceToNat, Int.cast_ofNat_Int, sx0, sx1, sx2, sx3, sx4, sx5, sx6, sx7, sy0, sy1, List.filterMap_cons, JC, JD, WT, JE, JF, JG, JH, JI, JJ, JK, WU, JL, JM, JN, JO, WV, JP, JQ, WW, JR, JS, JT, JU, JV, JW, JX, JY, JZ, WA, WB, WC, WD, WE, WF, WG, WH, WI, WJ, WK, WL, WM, WN, true_and, and_true, reduceCtorEq, ↓reduceIte, ↓bifT, ↓bifF, ↓gifT, ↓gifF, eq_self, WO, WP, WQ, Nat.reduceLT, Nat.reduceLeDiff, Nat.reduceAdd, Nat.reduceSub, Nat.reduceMul, Nat.reduceMod, WR, Nat.reduceBEq, Int.reduceBEq, Int.reduceBNe, BEq.rfl, hnt, hT])
    | ((first | refine SX.skip ?_ | refine SX.exit ?_ | refine SX.label ?_); try simp only [WS, JA, JB, wI64, wU64, Int.reduceAdd, Int.reduceSub, Int.reduceMul, Int.reduceLE, Int.reduceLT, Int.reduceNeg, Int.reduceToNat, Int.cast_ofNat_Int, sx0, sx1, sx2, sx3, sx4, sx5, sx6, sx7, sy0, sy1, List.filterMap_cons, JC, JD, WT, JE, JF, JG, JH, JI, JJ, JK, WU, JL, JM, JN, JO, WV, JP, JQ, WW, JR, JS, JT, JU, JV, JW, JX, JY, JZ, WA, WB, WC, WD, WE, WF, WG, WH, WI, WJ, WK, WL, WM, WN, true_and, and_true, reduceCtorEq, ↓reduceIte, ↓bifT, ↓bifF, ↓gifT, ↓gifF, eq_self, WO, WP, WQ, Nat.reduceLT, Nat.reduceLeDiff, Nat.reduceAdd, Nat.reduceSub, Nat.reduceMul, Nat.reduceMod, WR, Nat.reduceBEq, Int.reduceBEq, Int.reduceBNe, BEq.rfl])
    | (refine SX.cond rfl (fun hb => ?_) (fun hb => ?_) <;> ((first | cases hb | (simp only [decide_eq_true_eq, decide_eq_false_iff_not, beq_iff_eq, beq_eq_false_iff_ne, bne_iff_ne, Bool.and_eq_true, Bool.or_eq_true, Bool.not_eq_true', Bool.not_eq_false', Bool.and_eq_false_iff, Bool.or_eq_false_iff, Int.not_lt, Int.not_le] at hb) | skip) <;> (first | (exfalso; omega) | skip)))
    | (refine SX.ret ?_; try simp only [WS, JA, JB, wI64, wU64, Int.reduceAdd, Int.reduceSub, Int.reduceMul, Int.reduceLE, Int.reduceLT, Int.reduceNeg, Int.reduceToNat, Int.cast_ofNat_Int, sx0, sx1, sx2, sx3, sx4, sx5, sx6, sx7, sy0, sy1, List.filterMap_cons, JC, JD, WT, JE, JF, JG, JH, JI, JJ, JK, WU, JL, JM, JN, JO, WV, JP, JQ, WW, JR, JS, JT, JU, JV, JW, JX, JY, JZ, WA, WB, WC, WD, WE, WF, WG, WH, WI, WJ, WK, WL, WM, WN, true_and, and_true, reduceCtorEq, ↓reduceIte, ↓bifT, ↓bifF, ↓gifT, ↓gifF, eq_self, WO, WP, WQ, Nat.reduceLT, Nat.reduceLeDiff, Nat.reduceAdd, Nat.reduceSub, Nat.reduceMul, Nat.reduceMod, WR, Nat.reduceBEq, Int.reduceBEq, Int.reduceBNe, BEq.rfl])
    | (refine hN _ ?_; clear hN N)
    | ((first | refine hK _ _ (FinI.ret3 ?_) | refine hK _ _ (FinI.nrm3 ?_)); simp only [WS, JA, JB, wI64, wU64, Int.reduceAdd, Int.reduceSub, Int.reduceMul, Int.reduceLE, Int.reduceLT, Int.reduceNeg, Int.reduceToNat, Int.cast_ofNat_Int, sx0, sx1, sx2, sx3, sx4, sx5, sx6, sx7, sy0, sy1, List.filterMap_cons, JC, JD, WT, JE, JF, JG, JH, JI, JJ, JK, WU, JL, JM, JN, JO, WV, JP, JQ, WW, JR, JS, JT, JU, JV, JW, JX, JY, JZ, WA, WB, WC, WD, WE, WF, WG, WH, WI, WJ, WK, WL, WM, WN, true_and, and_true, reduceCtorEq, ↓reduceIte, ↓bifT, ↓bifF, ↓gifT, ↓gifF, eq_self, WO, WP, WQ, Nat.reduceLT, Nat.reduceLeDiff, Nat.reduceAdd, Nat.reduceSub, Nat.reduceMul, Nat.reduceMod, WR, Nat.reduceBEq, Int.reduceBEq, Int.reduceBNe, BEq.rfl, finP_s, hnt, hT]; refine Done.out ?_)
    | (clear hN N; first | (refine hN _ ?_; clear hN N) | (clear hN N; first | (refine hN _ ?_; clear hN N) | (clear hN N; first | (refine hN _ ?_; clear hN N) | (clear hN N; first | (refine hN _ ?_; clear hN N) | (clear hN N; first | (refine hN _ ?_; clear hN N) | (refine hN _ ?_; clear hN N))))))
    | (refine bif2.mk (fun hb => ?_) (fun hb => ?_) <;> (try simp only [hb, WS, JA, JB, wI64, wU64, Int.reduceAdd, Int.reduceSub, Int.reduceMul, Int.reduceLE, Int.reduceLT, Int.reduceNeg, Int.reduceToNat, Int.cast_ofNat_Int, sx0, sx1, sx2, sx3, sx4, sx5, sx6, sx7, sy0, sy1, List.filterMap_cons, JC, JD, WT, JE, JF, JG, JH, JI, JJ, JK, WU, JL, JM, JN, JO, WV, JP, JQ, WW, JR, JS, JT, JU, JV, JW, JX, JY, JZ, WA, WB, WC, WD, WE, WF, WG, WH, WI, WJ, WK, WL, WM, WN, true_and, and_true, reduceCtorEq, ↓reduceIte, ↓bifT, ↓bifF, ↓gifT, ↓gifF, eq_self, WO, WP, WQ, Nat.reduceLT, Nat.reduceLeDiff, Nat.reduceAdd, Nat.reduceSub, Nat.reduceMul, Nat.reduceMod, WR, Nat.reduceBEq, Int.reduceBEq, Int.reduceBNe, BEq.rfl, hnt, hT]) <;> ((first | cases hb | (simp only [decide_eq_true_eq, decide_eq_false_iff_not, beq_iff_eq, beq_eq_false_iff_ne, bne_iff_ne, Bool.and_eq_true, Bool.or_eq_true, Bool.not_eq_true', Bool.not_eq_false', Bool.and_eq_false_iff, Bool.or_eq_false_iff, Int.not_lt, Int.not_le] at hb) | skip) <;> (first | (exfalso; omega) | skip)))
    | (refine SX.block ?_)
    | (refine and_mk ?_ ?_; (focus first | decide | omega | rfl | assumption | (simp only [List.length_append, List.length_cons, List.length_nil, B_size]; omega) | (simp; done)))
    | (refine And.intro ?_ ?_))
  all_goals (try refine Done.mk ?_)
  all_goals exact hN0 _ _ ⟨rfl, rfl⟩
end Go.Proofs.YtbdacbcpniegiaaDoor
