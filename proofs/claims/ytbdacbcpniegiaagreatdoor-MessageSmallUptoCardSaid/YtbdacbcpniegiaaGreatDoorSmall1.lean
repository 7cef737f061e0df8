/- Own work: a part of the symbolic executor and of the walks of the functions that the claim reaches. -/
import Derived.Test.YtbdacbcpniegiaaGreatDoorBase4
import Derived.WalkKit
import Derived.ProofKit
import Derived.OpenShut
import Derived.ChangeSame
import Derived.Below
import Derived.ChangeSlices
import Derived.Test.YtbdacbcpniegiaaGreatDoorProg
import Derived.Deep.Slices
import Derived.ChangeArms
import Derived.Laws.IdiomStrings
import Derived.Test.YtbdacbcpniegiaaGreatDoorRows
import Derived.LaidLaws
set_option maxRecDepth 100000
set_option maxHeartbeats 64000000
set_option linter.unusedSimpArgs false
set_option linter.unusedVariables false
namespace Go.Proofs.YtbdacbcpniegiaaGreatDoor
open Go Go.RowKit Go.ChangeShapes Go.WideShapes Go.ChangeAt
theorem u8_of {n : Int} (h : (Lit.int .u8 n).wf = true) : 0 ≤ n ∧ n < 256 := by
  simp only [Lit.wf,Bool.and_eq_true,decide_eq_true_eq] at h
  have e1 : IntKind.u8.min = 0 := rfl
  have e2 : IntKind.u8.max = 255 := rfl
  omega
theorem u64_of {n : Int} (h : (Lit.int .u64 n).wf = true) : 0 ≤ n ∧ n < 18446744073709551616 := by
  simp only [Lit.wf,Bool.and_eq_true,decide_eq_true_eq] at h
  have e1 : IntKind.u64.min = 0 := rfl
  have e2 : IntKind.u64.max = 18446744073709551615 := rfl
  omega
theorem i64_of {n : Int} (h : (Lit.int .i64 n).wf = true) : -9223372036854775808 ≤ n ∧ n < 9223372036854775808 := by
  simp only [Lit.wf,Bool.and_eq_true,decide_eq_true_eq] at h
  have e1 : IntKind.i64.min = -9223372036854775808 := rfl
  have e2 : IntKind.i64.max = 9223372036854775807 := rfl
  omega
end Go.Proofs.YtbdacbcpniegiaaGreatDoor
namespace Go.Proofs.YtbdacbcpniegiaaGreatDoor
open Go Go.RowKit Go.ChangeShapes Go.WideShapes Go.ChangeAt Go.Sx
structure Dd where
  kd : Nat
  nm : Nat
  t : Int
  ks : List UInt8
  q : Nat
  ok : Bool
  s : List UInt8
deriving Inhabited
def Dd.cells (d : Dd) : List Value := [.int .u8 (d.kd : Int),.int .u8 (d.nm : Int),.int .i64 d.t,.string (B d.ks),.int .u64 (d.q : Int),.bool d.ok,.string (B d.s)]
structure Dd.Ok (d : Dd) : Prop where
  kd : d.kd < 256
  nm : d.nm < 256
  t0 : -9223372036854775808 ≤ d.t
  t1 : d.t < 9223372036854775808
  ks : d.ks.length ≤ 9223372036854775807
  q : d.q < 18446744073709551616
  s : d.s.length ≤ 9223372036854775807
theorem at1 {cs : List Value} {o : Nat} {v : Value} (h : (cs.drop o).take 1 = [v]) : cs[o]? = some v := by
  have := congrArg (·[0]?) h
  simpa using this
theorem B_data (s : ByteArray) : B s.data.toList = s := by cases s;simp [B]
end Go.Proofs.YtbdacbcpniegiaaGreatDoor
namespace Go.Sx
open Go Go.RowKit
def PA (X : Ctx) (o1 o2 : Oper) (c : Cfg) (N : Cfg → Prop) : Prop :=
  ∀ (ops : Array Oper) (rest : List Oper) (M : Cfg → Prop),(∀ c',N c' → OX X ops rest c' M) → OX X ops (o1 :: o2 :: rest) c M
section
variable {X : Ctx} {c : Cfg} {N : Cfg → Prop} {d : Option Tmp} {ty ty1 : TypeId} {pos pos1 : String} {af af1 : Array Edge} {g : Option (Nat × Bool)}
theorem PA.nil {o1 o2 : Oper} {t : Tmp} (e sz : Nat) (hx : c.ev (.tmp t) = vv (.slice none 0 0)) (hl : ∃ s,c.env.lookup t = some s)
    (h : PA X o1 o2 { env := (t,.one (.c (.row c.loc.length))) :: c.env,loc := c.loc ++ [.row e sz 0 []] } N) : PA X o1 o2 c N := fun ops rest M hM Q hQ ρ σ a w hr => by
  refine h ops rest M hM Q hQ (ρ ++ [[]]) (σ ++ [Value.slice none 0 0]) a w ?_
  have h1 := hr.nilRow e sz
  refine ⟨fun t' s' he => ?_,h1.len,h1.lenS,h1.loc,h1.inj,h1.lt,h1.fresh,h1.low,h1.defers,h1.size,h1.one,h1.pin⟩
  simp only [List.lookup_cons] at he
  by_cases e : t' = t
  · subst e
    simp at he;subst he
    obtain ⟨s,hs⟩ := hl
    obtain ⟨v,hv,hd⟩ := hr.env t' s hs
    simp only [Cfg.ev,Cfg.get,hs,Option.getD_some] at hx
    subst hx
    obtain rfl : v = .slice none 0 0 := hd
    refine ⟨_,hv,?_⟩
    show (σ ++ [_])[c.loc.length]? = _
    rw [← hr.lenS];simp
  · have hb : (t' == t) = false := by simpa using e
    rw [hb] at he
    exact h1.env t' s' he
theorem SX.asRow {code : Code} {K : Exit → Cfg → Prop} {t : Tmp} (e sz : Nat) (hx : c.ev (.tmp t) = vv (.slice none 0 0)) (hl : ∃ s,c.env.lookup t = some s)
    (h : SX X code { env := (t,.one (.c (.row c.loc.length))) :: c.env,loc := c.loc ++ [.row e sz 0 []] } K) : SX X code c K := fun ρ σ a w hr => by
  refine h (ρ ++ [[]]) (σ ++ [Value.slice none 0 0]) a w ?_
  have h1 := hr.nilRow e sz
  refine ⟨fun t' s' he => ?_,h1.len,h1.lenS,h1.loc,h1.inj,h1.lt,h1.fresh,h1.low,h1.defers,h1.size,h1.one,h1.pin⟩
  simp only [List.lookup_cons] at he
  by_cases e : t' = t
  · subst e
    simp at he;subst he
    obtain ⟨s,hs⟩ := hl
    obtain ⟨v,hv,hd⟩ := hr.env t' s hs
    simp only [Cfg.ev,Cfg.get,hs,Option.getD_some] at hx
    subst hx
    obtain rfl : v = .slice none 0 0 := hd
    refine ⟨_,hv,?_⟩
    show (σ ++ [_])[c.loc.length]? = _
    rw [← hr.lenS];simp
  · have hb : (t' == t) = false := by simpa using e
    rw [hb] at he
    exact h1.env t' s' he
theorem PA.part {x0 x : Operand} {lo hi : Option Operand} {t e e' i j m sz n k by_ : Nat} {t1 : Tmp} {xs ys : List Value} {z : Value} {l h : Option Int} (news : List Value)
    (hx : c.ev x = .one (.c (.row j))) (hlo : optI c lo = some l) (hhi : optI c hi = some h) (hx0 : (c.put (some t1) (.one (.c .dead))).ev x0 = .one (.c (.row i)))
    (hi0 : c.loc[i]? = some (.row e sz n xs)) (hj0 : c.loc[j]? = some (.row e' sz m ys)) (ht : elemInf X.P t = some (e,sz,by_,z)) (hes : elemSz X.P t = some (e,sz))
    (h0 : 0 ≤ l.getD 0) (h1 : l.getD 0 ≤ h.getD m) (h2 : h.getD m ≤ m) (hk : k = (h.getD m).toNat - (l.getD 0).toNat) (hnw : news = (ys.drop ((l.getD 0).toNat * sz)).take (k * sz))
    (hone : ∀ u ∈ news,u.oneCell' = true) (h63 : n + k ≤ maxLen) (hby : (n + k) * by_ ≤ 140737488355328) (hd1 : dOk (some t1) X.nt = true)
    (hN : nxt X d N { (c.put (some t1) (.one (.c .dead))) with loc := c.loc.set i .gone ++ [.row e sz (n + k) (xs ++ news)] } (.one (.c (.row c.loc.length)))) :
    PA X ⟨some t1,.slice t x lo hi none,ty1,pos1,af1,none⟩ ⟨d,.call { callee := .builtin .append,args := #[x0,.tmp t1],argTypes := #[t,t] },ty,pos,af,none⟩ c N := fun ops rest M hM Q hQ ρ σ a w hr => by
  have e1 := hr.ev x
  rw [hx] at e1
  have e1 : σ[j]? = some (a.eval x) := e1
  obtain ⟨hu,ti,hti,hz,hsz,hby',hzs,hs0⟩ := elemInf_spec ht
  obtain ⟨fq,hfq⟩ := hr.locAt hj0
  have hdj := hr.loc j _ fq _ hj0 hfq e1
  have hlb : BoundIs (lo.map a.eval) 0 (l.getD 0).toNat := optI_bound (n := 0) hr hlo (by simpa using h0)
  have hhb := optI_bound (n := m) hr hhi (by omega)
  have hsz' : ∀ w,(Go.sizeOf e).run X.P w = .ok sz w := by
    unfold elemSz at hes
    rw [hu] at hes
    cases hz2 : szOf X.P e with
    | none => simp [hz2] at hes
    | some r => simp [hz2] at hes;subst hes;exact sizeOf_run hz2
  have hyl : ys.length = m * sz := hdj.1.1
  obtain ⟨L,hL⟩ : ∃ L,L = (l.getD 0).toNat := ⟨_,rfl⟩
  obtain ⟨H,hH⟩ : ∃ H,H = (h.getD m).toNat := ⟨_,rfl⟩
  rw [← hL] at hlb hk hnw
  rw [← hH] at hhb hk
  have hLH : L ≤ H := by omega
  have hHm : H ≤ m := by omega
  have hnl : news.length = k * sz := by
    rw [hnw,List.length_take,List.length_drop,hyl,← Nat.sub_mul]
    exact Nat.min_eq_left (Nat.mul_le_mul_right _ (by omega))
  have hget : ∀ q u,news[q]? = some u → ys[L * sz + q]? = some u := by
    intro q u hq
    rw [hnw,List.getElem?_take] at hq
    split at hq
    · rwa [List.getElem?_drop] at hq
    · cases hq
  obtain ⟨v1,hrun1,hv1⟩ : ∃ v1,(execOp a.eval ⟨some t1,.slice t x lo hi none,ty1,pos1,af1,none⟩).run X.P w = .ok (.value v1) w ∧
      ((v1 = .slice none 0 0 ∧ k = 0) ∨ ∃ ad cap,v1 = .slice (some ad) k cap ∧ ∀ q u,news[q]? = some u → w.cell? (ad.add q) = some u) := by
    rcases hdj.1.2 with ⟨e3,hm0⟩ | ⟨gg,cap,cur,e3,_,_,hnc,_⟩
    · subst hm0
      obtain rfl : L = 0 := by omega
      obtain rfl : H = 0 := by omega
      have hrun := run_sliceSl (P := X.P) w hu hsz' none 0 0 _ _ _ _ hlb hhb (Nat.le_refl _) (Nat.le_refl _)
      exact ⟨_,by simp only [execOp,e3,Option.map_none,Sem.run_bind];rw [hrun];rfl,.inl ⟨by simp,by omega⟩⟩
    · have hrun := run_sliceSl (P := X.P) w hu hsz' (some ⟨gg,0,none⟩) m cap _ _ _ _ hlb hhb hLH (by omega)
      refine ⟨_,by simp only [execOp,e3,Option.map_none,Sem.run_bind];rw [hrun];rfl,.inr ?_⟩
      by_cases hc : cap = L
      · rw [if_pos hc]
        refine ⟨_,_,by rw [show H - L = k by omega],fun q u hq => ?_⟩
        have : q < news.length := (List.getElem?_eq_some_iff.1 hq).1
        rw [hnl,show k = 0 by omega] at this
        simp at this
      · rw [if_neg hc]
        refine ⟨_,_,by rw [show H - L = k by omega];rfl,fun q u hq => ?_⟩
        have := hr.rowCell hj0 (by rw [e1,e3]) _ _ (hget q u hq)
        simp only [add_add] at this ⊢
        rw [← this]
        congr 2
        omega
  have hr1 := hr.put (d := some t1) (s := .one (.c .dead)) (v := v1) hd1 trivial
  have hr2 := hr.put (d := some t1) (s := vv v1) (v := v1) hd1 rfl
  have ey : (a.put (some t1) v1).eval (.tmp t1) = v1 := by
    have := hr2.ev (.tmp t1)
    rw [show (c.put (some t1) (vv v1)).ev (.tmp t1) = vv v1 by simp [Cfg.put,Cfg.ev,Cfg.get]] at this
    exact this
  have ex := hr1.ev x0
  rw [hx0] at ex
  have ex : σ[i]? = some ((a.put (some t1) v1).eval x0) := ex
  have hi1 : (c.put (some t1) (.one (.c .dead))).loc[i]? = some (.row e sz n xs) := hi0
  obtain ⟨fp,hfp⟩ := hr1.locAt hi1
  have hd := hr1.loc i _ fp _ hi1 hfp ex
  unfold wpList
  rw [if_pos (by simp [Region.wanted])]
  left
  unfold Oper.wp
  rw [hrun1]
  show wpList X.P ops Q (_ :: rest) (a.put (some t1) v1) w
  generalize a.put (some t1) v1 = a1 at hr1 ey ex hd
  have key : ∃ v' w',(Builtin.append_ #[t,t] ty #[a1.eval x0,v1]).run X.P w = .ok v' w' ∧ w'.ownsRow 0 e sz v' (n + k) (xs ++ news) ∧ w.grownBy w' (a1.eval x0).ownBlock ∧ (∀ k,v'.ownBlock = some k → (a1.eval x0).ownBlock = some k ∨ w.heap.size ≤ k) := by
    rcases hv1 with ⟨rfl,hk0⟩ | ⟨ad,cap,rfl,hc⟩
    · subst hk0
      obtain rfl : news = [] := by simpa using hnl
      have := append_cases (P := X.P) w 0 t ty e ti z sz by_ hu hti hz hsz hby' hzs hs0 (a1.eval x0) n xs hd.1 ⟨1,0,none⟩ 0 0 [] (by simp) (by simp) (by simp) h63 hby (Nat.zero_le _)
      have hrun : (Builtin.append_ #[t,t] ty #[a1.eval x0,.slice (some ⟨1,0,none⟩) 0 0]).run X.P w = (Builtin.append_ #[t,t] ty #[a1.eval x0,.slice none 0 0]).run X.P w := by
        have hl : ∀ (ad : Addr),(loadCells ad 0).run X.P w = .ok #[] w := fun ad => by simpa using run_loadCells_list (P := X.P) w ad [] (by simp)
        rcases hd.1.2 with ⟨e4,hn0⟩ | ⟨g4,c4,u4,e4,_,_,hn4,_⟩
        · rw [e4];simp [Builtin.append_,run_underlying hu,Builtin.lenOf,Builtin.firstCells,sizeOf,typeInfo,hti,hl,storeCells]
        · rw [e4];simp [Builtin.append_,run_underlying hu,Builtin.lenOf,Builtin.firstCells,sizeOf,typeInfo,hti,hn4,hl,storeCells]
      rw [hrun] at this
      exact this
    · exact append_cases (P := X.P) w 0 t ty e ti z sz by_ hu hti hz hsz hby' hzs hs0 (a1.eval x0) n xs hd.1 ad k cap news hnl hc hone h63 hby (Nat.zero_le _)
  obtain ⟨v',w',hrun,hown,hgr,hkk⟩ := key
  obtain ⟨ρ',hR⟩ := hr1.reRow hi1 ex hgr hown hkk
  unfold wpList
  rw [if_pos (by simp [Region.wanted])]
  left
  unfold Oper.wp
  have hrun2 : (execOp a1.eval ⟨d,.call { callee := .builtin .append,args := #[x0,.tmp t1],argTypes := #[t,t] },ty,pos,af,none⟩).run X.P w = .ok (.value v') w' := by
    simp only [execOp,resolve,invoke,builtin,Sem.run_bind,Sem.run_pure,Result.andThen_ok,List.map_toArray,List.map_cons,List.map_nil,ey]
    rw [hrun];rfl
  rw [hrun2]
  have hs2 : DV (σ ++ [v']) (.one (.c (.row c.loc.length))) v' := by
    show (σ ++ [v'])[c.loc.length]? = some v'
    have := hr1.lenS
    rw [show c.loc.length = σ.length from this.symm];simp
  exact hM _ hN.2 Q hQ _ _ _ _ (hR.put hN.1 hs2)
end
end Go.Sx
namespace Go.Proofs.YtbdacbcpniegiaaGreatDoor
open Go Go.RowKit Go.Proofs Go.Sx
theorem rv8a (m : Nat) : IntKind.u8.wrap (IntKind.u64.wrap ((m : Int).tmod 128 + 128)) = ((UInt8.ofNat (m % 128 + 128)).toNat : Int) := by
  rw [show ((m : Int).tmod 128) = ((m % 128 : Nat) : Int) from rfl,wU64 (by omega) (by omega),IntKind.wrap_u8]
  simp [UInt8.toNat_ofNat']
theorem rv8b (m : Nat) : IntKind.u8.wrap (m : Int) = ((UInt8.ofNat m).toNat : Int) := by rw [IntKind.wrap_u8];simp [UInt8.toNat_ofNat']
theorem rv8c (m : Nat) (h : m < 18446744073709551616) : IntKind.u64.wrap ((m : Int).tdiv 128) = ((m / 128 : Nat) : Int) := by
  rw [show ((m : Int).tdiv 128) = ((m / 128 : Nat) : Int) from rfl,wU64 (by omega) (by omega)]
theorem rVarint_any (n : Nat) (hn : n < 18446744073709551616) (w : World) :
    Calls Tryz.prog 101 #[.int .u64 n] w fun e w' => e = .returned (.string (B (NW.varint n))) ∧ Below w.heap.size w w' := by
  have hlen := NW.varint_len10 (n := n) (by omega)
  refine calls_pureK (args := [.int .u64 n]) w Tryz.func101 rfl Tryz.ntmps101 (by simp) ?_
  intro X K hX hK
  have hnt : X.nt = 21 := by rw [hX]
  have hwi : X.wi = w := by rw [hX]
  have hP : X.P = Tryz.prog := by rw [hX]
  have hown : X.own = [] := by rw [hX]
  have hbl : X.base.length = 0 := by rw [hX];rfl
  clear hX
  have hT := Ty.T101 hP
  repeat' (first|(refine SX.asRow (t := 3) 5 1 rfl ⟨_,rfl⟩ ?_)|(refine SX.seqK ?_;intro N hN)|((first | (refine SX.ops ?_));simp only [GA,↓GB,GX,simprocAttr,hnt,hT,rv8a,rv8b])|((first | refine SX.skip ?_ | refine SX.exit ?_ | refine SX.label ?_ | refine SX.ret ?_);try simp only [GA,↓GB,GX,simprocAttr])|(refine hN _ ?_;clear hN N)|(refine hK _ _ (Fin.res rfl hown ?_);simp only [GA,↓GB,GX,simprocAttr,f_a,f_b,f_n,f_c,f_B,f_v,f_g,f_0,f_1,f_2,hT,hwi,rv8a,rv8b];intro w' hbel;refine Done.out ?_)|(clear hN N;first | (refine hN _ ?_;clear hN N) | (clear hN N;refine hN _ ?_;clear hN N))|((first | refine SX.cond rfl (fun hb => ?_) (fun hb => ?_) | (refine bif2.mk (fun hb => ?_) (fun hb => ?_) <;> (try simp only [hb,GA,↓GB,GX,simprocAttr,hnt,hT,rv8a,rv8b]))) <;> ((first | cases hb | (simp only [HBs] at hb) | skip) <;> (first | (exfalso;omega) | skip)))|(refine SX.loop (ι := { p : Nat × List UInt8 // p.2 ++ NW.varint p.1 = NW.varint n ∧ p.1 < 18446744073709551616 }) (fun i => ⟨[(0,vv (.int .u64 i.1.1)),(3,.one (.c (.row 0)))],[.row 5 1 i.1.2.length (bcells i.1.2)]⟩) (fun i => i.1.1) ⟨(n,[]),by simp,hn⟩ ⟨[0],(LeR.of (by rw [hbl];decide) (by simp only [GA,↓GB,GX,simprocAttr,GDs];try (rfl)) (by simp only [GA,↓GB,GX,simprocAttr,GDs];try (rfl)) (by decide) (by simp only [GA,↓GB,GX,simprocAttr,GDs]) (by simp only [GA,↓GB,GX,simprocAttr,GDs]) (by simp only [GA,↓GB,GX,simprocAttr,GDs]))⟩ ?_ <;> rintro ⟨⟨m,l⟩,hml,hm⟩ <;> simp only [] at hml hm ⊢)|(refine ⟨l ++ [UInt8.ofNat m],by simp [bcells],?_⟩)|(refine SX.block ?_)|(refine and_mk ?_ ?_;(focus first | decide | omega | rfl | assumption | (simp only [LBs];omega) | (simp;done)))|(refine And.intro ?_ ?_))
  all_goals (try refine Done.mk ?_)
  · have := congrArg List.length hml;simp at this;omega
  · refine ⟨⟨(m / 128,l ++ [UInt8.ofNat (m % 128 + 128)]),?_,by omega⟩,[2],(LeR.of (by rw [hbl];decide) (by simp only [GA,↓GB,GX,simprocAttr,GDs];try (first | (rw [wU64 (by omega) (by omega)];rfl) | (simp [bcells];done) | (have := rv8c m hm;simp_all))) (by simp only [GA,↓GB,GX,simprocAttr,GDs];try (first | (rw [wU64 (by omega) (by omega)];rfl) | (simp [bcells];done) | (have := rv8c m hm;simp_all))) (by decide) (by simp only [GA,↓GB,GX,simprocAttr,GDs]) (by simp only [GA,↓GB,GX,simprocAttr,GDs]) (by simp only [GA,↓GB,GX,simprocAttr,GDs])),by show m / 128 < m;omega⟩
    rw [← hml,NW.varint_ge (by omega : ¬ m < 128)];simp
  · have := congrArg List.length hml;simp at this;omega
  · refine ⟨?_,hbel⟩
    rw [← hml,NW.varint_lt (by omega)]
theorem rPut_num (num n : Nat) (h1 : 1 ≤ num) (h2 : num < 536870912) (hn : n < 18446744073709551616) (w : World) :
    Calls Tryz.prog 85 #[.agg #[.int .i64 num,.int .i64 0,.int .u64 n,.string (B [])]] w fun e w' => e = .returned (.tuple #[.string (B (numB num n)),.bool true]) ∧ Below w.heap.size w w' := by
  have g1 : decide ((num : Int) < 1) = false := by simp;omega
  have g2 : decide ((536870912 : Int) ≤ num) = false := by simp;omega
  have hl1 := NW.varint_len10 (n := num * 8) (by omega)
  have hl2 := NW.varint_len10 (n := n) (by omega)
  have e1 : IntKind.u64.wrap (IntKind.u64.wrap (IntKind.u64.wrap (num : Int) * 8) + 0) = ((num * 8 : Nat) : Int) := by
    rw [wU64 (x := (num : Int)) (by omega) (by omega),wU64 (x := (num : Int) * 8) (by omega) (by omega),wU64 (by omega) (by omega)];omega
  refine calls_pureK (args := [.agg #[.int .i64 num,.int .i64 0,.int .u64 n,.string (B [])]]) w Tryz.func85 rfl Tryz.ntmps85 (by simp) ?_
  intro X K hX hK
  have hnt : X.nt = 83 := by rw [hX]
  have hwi : X.wi = w := by rw [hX]
  have hP : X.P = Tryz.prog := by rw [hX]
  have hown : X.own = [] := by rw [hX]
  have hbl : X.base.length = 0 := by rw [hX];rfl
  clear hX
  have hT := Ty.T85 hP
  repeat' (first|(refine SX.seqK ?_;intro N hN)|((first | (refine SX.ops ?_) | (refine SX.planT (id := 10) [.q [(0,[4]),(1,[1]),(2,[74]),(3,[75]),(4,[76]),(5,[77]),(6,[73,78]),(7,[1]),(8,[80]),(9,[79,81]),(10,[82]),(11,[])] none] ?_ ?_ ?_;(focus first | (rw [hP];kernel_rfl) | (rw [hU1P,hP];kernel_rfl));(focus kernel_rfl)));simp only [GA,↓GB,GX,simprocAttr,hnt,hT,g1,g2,e1])|((first | refine SX.skip ?_ | refine SX.exit ?_ | refine SX.label ?_ | refine SX.ret ?_);try simp only [GA,↓GB,GX,simprocAttr])|(refine hN _ ?_;clear hN N)|(refine hK _ _ (Fin.res rfl hown ?_);simp only [GA,↓GB,GX,simprocAttr,f_a,f_b,f_n,f_c,f_B,f_v,f_g,f_0,f_1,f_2,hT,hwi,g1,g2,e1];intro w' hbel;refine Done.out ?_)|((first | refine SX.cond rfl (fun hb => ?_) (fun hb => ?_) | (refine bif2.mk (fun hb => ?_) (fun hb => ?_) <;> (try simp only [hb,GA,↓GB,GX,simprocAttr,hnt,hT,g1,g2,e1]))) <;> ((first | cases hb | (simp only [HBs] at hb) | skip) <;> (first | (exfalso;omega) | skip)))|((first | (refine CallVC.pv hP (rVarint_any (num * 8) (by omega)) rfl ?_) | (refine CallQ.pv hP (rVarint_any (num * 8) (by omega)) rfl ?_) | (refine CallVC.pv hP (rVarint_any n hn) rfl ?_) | (refine CallQ.pv hP (rVarint_any n hn) rfl ?_));simp only [GA,↓GB,GX,simprocAttr,hnt,hT,g1,g2,e1])|(refine SX.block ?_)|(refine and_mk ?_ ?_;(focus first | decide | omega | rfl | assumption | (simp only [LBs];omega) | (simp;done)))|(refine And.intro ?_ ?_))
  all_goals (try refine Done.mk ?_)
  all_goals first | exact hbel | exact ⟨by simp [numB],hbel⟩ | trace_state
theorem rPut_text (num : Nat) (s : List UInt8) (h1 : 1 ≤ num) (h2 : num < 536870912) (hs : s.length < 1152921504606846976) (w : World) :
    Calls Tryz.prog 85 #[.agg #[.int .i64 num,.int .i64 2,.int .u64 0,.string (B s)]] w fun e w' => e = .returned (.tuple #[.string (B (textB num s)),.bool true]) ∧ Below w.heap.size w w' := by
  have g1 : decide ((num : Int) < 1) = false := by simp;omega
  have g2 : decide ((536870912 : Int) ≤ num) = false := by simp;omega
  have hl1 := NW.varint_len10 (n := num * 8 + 2) (by omega)
  have hl2 := NW.varint_len10 (n := s.length) (by omega)
  have e1 : IntKind.u64.wrap (IntKind.u64.wrap (IntKind.u64.wrap (num : Int) * 8) + 2) = ((num * 8 + 2 : Nat) : Int) := by
    rw [wU64 (x := (num : Int)) (by omega) (by omega),wU64 (x := (num : Int) * 8) (by omega) (by omega),wU64 (by omega) (by omega)];omega
  have e2 : IntKind.u64.wrap (s.length : Int) = (s.length : Int) := wU64 (by omega) (by omega)
  refine calls_pureK (args := [.agg #[.int .i64 num,.int .i64 2,.int .u64 0,.string (B s)]]) w Tryz.func85 rfl Tryz.ntmps85 (by simp) ?_
  intro X K hX hK
  have hnt : X.nt = 83 := by rw [hX]
  have hwi : X.wi = w := by rw [hX]
  have hP : X.P = Tryz.prog := by rw [hX]
  have hown : X.own = [] := by rw [hX]
  have hbl : X.base.length = 0 := by rw [hX];rfl
  clear hX
  have hT := Ty.T85 hP
  repeat' (first|(refine SX.seqK ?_;intro N hN)|((first | (refine SX.ops ?_) | (refine SX.planT (id := 10) [.q [(0,[4]),(1,[1]),(2,[74]),(3,[75]),(4,[76]),(5,[77]),(6,[73,78]),(7,[1]),(8,[80]),(9,[79,81]),(10,[82]),(11,[])] none] ?_ ?_ ?_;(focus first | (rw [hP];kernel_rfl) | (rw [hU1P,hP];kernel_rfl));(focus kernel_rfl)));simp only [GA,↓GB,GX,simprocAttr,hnt,hT,g1,g2,e1,e2])|((first | refine SX.skip ?_ | refine SX.exit ?_ | refine SX.label ?_ | refine SX.ret ?_);try simp only [GA,↓GB,GX,simprocAttr])|(refine hN _ ?_;clear hN N)|(refine hK _ _ (Fin.res rfl hown ?_);simp only [GA,↓GB,GX,simprocAttr,f_a,f_b,f_n,f_c,f_B,f_v,f_g,f_0,f_1,f_2,hT,hwi,g1,g2,e1,e2];intro w' hbel;refine Done.out ?_)|((first | refine SX.cond rfl (fun hb => ?_) (fun hb => ?_) | (refine bif2.mk (fun hb => ?_) (fun hb => ?_) <;> (try simp only [hb,GA,↓GB,GX,simprocAttr,hnt,hT,g1,g2,e1,e2]))) <;> ((first | cases hb | (simp only [HBs] at hb) | skip) <;> (first | (exfalso;omega) | skip)))|((first | (refine CallVC.pv hP (rVarint_any (num * 8 + 2) (by omega)) rfl ?_) | (refine CallQ.pv hP (rVarint_any (num * 8 + 2) (by omega)) rfl ?_) | (refine CallVC.pv hP (rVarint_any s.length (by omega)) rfl ?_) | (refine CallQ.pv hP (rVarint_any s.length (by omega)) rfl ?_));simp only [GA,↓GB,GX,simprocAttr,hnt,hT,g1,g2,e1,e2])|(refine SX.block ?_)|(refine and_mk ?_ ?_;(focus first | decide | omega | rfl | assumption | (simp only [LBs];omega) | (simp;done)))|(refine And.intro ?_ ?_))
  all_goals (try refine Done.mk ?_)
  all_goals first | exact hbel | exact ⟨by simp [textB],hbel⟩ | trace_state
theorem rNumber_any (num n : Nat) (h1 : 1 ≤ num) (h2 : num < 536870912) (hn : n < 18446744073709551616) (w : World) :
    Calls Tryz.prog 84 #[.int .i64 num,.int .u64 n] w fun e w' => e = .returned (.string (B (numB num n))) ∧ Below w.heap.size w w' := by
  refine calls_pureK (args := [.int .i64 num,.int .u64 n]) w Tryz.func84 rfl Tryz.ntmps84 (by simp) ?_
  intro X K hX hK
  have hnt : X.nt = 15 := by rw [hX]
  have hwi : X.wi = w := by rw [hX]
  have hP : X.P = Tryz.prog := by rw [hX]
  have hown : X.own = [] := by rw [hX]
  have hbl : X.base.length = 0 := by rw [hX];rfl
  clear hX
  have hT := Ty.T84 hP
  repeat' (first|(refine SX.seqK ?_;intro N hN)|((first | (refine SX.ops ?_));simp only [GA,↓GB,GX,simprocAttr,hnt,hT])|((first | refine SX.skip ?_ | refine SX.exit ?_ | refine SX.label ?_ | refine SX.ret ?_);try simp only [GA,↓GB,GX,simprocAttr])|(refine hN _ ?_;clear hN N)|(refine hK _ _ (Fin.res rfl hown ?_);simp only [GA,↓GB,GX,simprocAttr,f_a,f_b,f_n,f_c,f_B,f_v,f_g,f_0,f_1,f_2,hT,hwi];intro w' hbel;refine Done.out ?_)|(refine bif2.mk (fun hb => ?_) (fun hb => ?_) <;> (try simp only [hb,GA,↓GB,GX,simprocAttr,hnt,hT]) <;> ((first | cases hb | (simp only [HBs] at hb) | skip) <;> (first | (exfalso;omega) | skip)))|((first | (refine CallVC.pt (l := [_,_]) hP (rPut_num num n h1 h2 hn) rfl ?_) | (refine CallQ.pt (l := [_,_]) hP (rPut_num num n h1 h2 hn) rfl ?_));simp only [GA,↓GB,GX,simprocAttr,hnt,hT])|(refine and_mk ?_ ?_;(focus first | decide | omega | rfl | assumption | (simp only [LBs];omega) | (simp;done)))|(refine And.intro ?_ ?_))
  all_goals (try refine Done.mk ?_)
  all_goals first | exact hbel | exact ⟨rfl,hbel⟩
theorem rText_any (num : Nat) (s : List UInt8) (h1 : 1 ≤ num) (h2 : num < 536870912) (hs : s.length < 1152921504606846976) (w : World) :
    Calls Tryz.prog 50 #[.int .i64 num,.string (B s)] w fun e w' => e = .returned (.string (B (textB num s))) ∧ Below w.heap.size w w' := by
  refine calls_pureK (args := [.int .i64 num,.string (B s)]) w Tryz.func50 rfl Tryz.ntmps50 (by simp) ?_
  intro X K hX hK
  have hnt : X.nt = 15 := by rw [hX]
  have hwi : X.wi = w := by rw [hX]
  have hP : X.P = Tryz.prog := by rw [hX]
  have hown : X.own = [] := by rw [hX]
  have hbl : X.base.length = 0 := by rw [hX];rfl
  clear hX
  have hT := Ty.T50 hP
  repeat' (first|(refine SX.seqK ?_;intro N hN)|((first | (refine SX.ops ?_));simp only [GA,↓GB,GX,simprocAttr,hnt,hT])|((first | refine SX.skip ?_ | refine SX.exit ?_ | refine SX.label ?_ | refine SX.ret ?_);try simp only [GA,↓GB,GX,simprocAttr])|(refine hN _ ?_;clear hN N)|(refine hK _ _ (Fin.res rfl hown ?_);simp only [GA,↓GB,GX,simprocAttr,f_a,f_b,f_n,f_c,f_B,f_v,f_g,f_0,f_1,f_2,hT,hwi];intro w' hbel;refine Done.out ?_)|(refine bif2.mk (fun hb => ?_) (fun hb => ?_) <;> (try simp only [hb,GA,↓GB,GX,simprocAttr,hnt,hT]) <;> ((first | cases hb | (simp only [HBs] at hb) | skip) <;> (first | (exfalso;omega) | skip)))|((first | (refine CallVC.pt (l := [_,_]) hP (rPut_text num s h1 h2 hs) rfl ?_) | (refine CallQ.pt (l := [_,_]) hP (rPut_text num s h1 h2 hs) rfl ?_));simp only [GA,↓GB,GX,simprocAttr,hnt,hT])|(refine and_mk ?_ ?_;(focus first | decide | omega | rfl | assumption | (simp only [LBs];omega) | (simp;done)))|(refine And.intro ?_ ?_))
  all_goals (try refine Done.mk ?_)
  all_goals first | exact hbel | exact ⟨rfl,hbel⟩
end Go.Proofs.YtbdacbcpniegiaaGreatDoor
namespace Go.Proofs.YtbdacbcpniegiaaGreatDoor.Q
open Go Go.RowKit Go.Proofs Go.Sx
theorem orS (acc k x : Nat) (hk : k ≤ 9) (hacc : acc < 2 ^ (7 * k)) (hx : k = 9 → x ≤ 1) :
    bits .or .u64 (acc : Int) (IntKind.u64.wrap (((x % 128 : Nat) : Int) * 2 ^ min (IntKind.i64.wrap (7 * (k : Int))).toNat IntKind.u64.bits)) = ((acc + x % 128 * 2 ^ (7 * k) : Nat) : Int) := by
  have hb : x % 128 * 2 ^ (7 * k) < 18446744073709551616 := by
    by_cases h9 : k = 9
    · subst h9
      have h1 := hx rfl
      have h2 : x % 128 * 2 ^ (7 * 9) ≤ 1 * 2 ^ (7 * 9) := Nat.mul_le_mul_right _ (by omega)
      omega
    · have hp : 2 ^ (7 * k) ≤ 2 ^ 56 := Nat.pow_le_pow_right (by decide) (by omega)
      have h2 : x % 128 * 2 ^ (7 * k) ≤ 127 * 2 ^ 56 := Nat.mul_le_mul (by omega) hp
      omega
  have h := orShift acc k (x % 128) hk hacc hb (by omega)
  rw [show IntKind.u64.wrap (((x % 128 : Nat)) : Int) = ((x % 128 : Nat) : Int) from wU64 (by omega) (by omega)] at h
  exact h
theorem rv_unf {s : List UInt8} {k : Nat} (hk : k < s.length) (h10 : k ≤ 9) : NW.readAt k (s.drop k) =
    if k = 9 ∧ (s.getD k 0).toNat > 1 then none else if (s.getD k 0).toNat < 128 then some ((s.getD k 0).toNat * 2 ^ (7 * k),k + 1) else (NW.readAt (k + 1) (s.drop (k + 1))).map fun r => ((s.getD k 0).toNat % 128 * 2 ^ (7 * k) + r.1,r.2) := by
  have hdrop : s.drop k = s[k]'hk :: s.drop (k + 1) := List.drop_eq_getElem_cons hk
  have hget : s.getD k 0 = s[k]'hk := by simp [List.getD_eq_getElem?_getD,hk]
  rw [hdrop,NW.readAt,if_neg (by omega),hget]
theorem rv_stop {s : List UInt8} {k : Nat} (h : 10 ≤ k ∨ s.length ≤ k) : NW.readAt k (s.drop k) = none := by
  by_cases hk : s.length ≤ k
  · rw [List.drop_of_length_le hk];rfl
  · rw [List.drop_eq_getElem_cons (by omega),NW.readAt,if_pos (by omega)]
theorem rReadVarint_any (s : List UInt8) (hs : s.length ≤ 4611686018427387904) (w : World) :
    Calls Tryz.prog 91 #[.string (B s)] w fun e w' => e = .returned (.tuple #[.int .u64 (rvR s).1,.int .i64 (rvR s).2.1,.bool (rvR s).2.2]) ∧ Below w.heap.size w w' := by
  have hx : ∀ k,IntKind.u64.wrap (((s.getD k 0).toNat : Nat) : Int) = ((s.getD k 0).toNat : Nat) := fun k => by have := (s.getD k 0).toNat_lt;exact wU64 (by omega) (by omega)
  have hm : ∀ k,((((s.getD k 0).toNat : Nat) : Int).tmod 128) = (((s.getD k 0).toNat % 128 : Nat) : Int) := fun k => rfl
  refine calls_pureK (args := [.string (B s)]) w Tryz.func91 rfl Tryz.ntmps91 (by simp) ?_
  intro X K hX hK
  have hnt : X.nt = 40 := by rw [hX]
  have hwi : X.wi = w := by rw [hX]
  have hP : X.P = Tryz.prog := by rw [hX]
  have hown : X.own = [] := by rw [hX]
  have hbl : X.base.length = 0 := by rw [hX];rfl
  clear hX
  have hT := Ty.T91 hP
  repeat' (first|(refine SX.seqK ?_;intro N hN)|((first | (refine SX.ops ?_));simp only [GA,↓GB,GX,simprocAttr,hnt,hT,hx,hm])|((first | refine SX.skip ?_ | refine SX.exit ?_ | refine SX.label ?_ | refine SX.ret ?_);try simp only [GA,↓GB,GX,simprocAttr])|(refine hN _ ?_;clear hN N)|(refine hK _ _ (Fin.res rfl hown ?_);simp only [GA,↓GB,GX,simprocAttr,f_a,f_b,f_n,f_c,f_B,f_v,f_g,f_0,f_1,f_2,hT,hwi,hx,hm];intro w' hbel;refine Done.out ?_)|(clear hN N;first | (refine hN _ ?_;clear hN N) | (clear hN N;refine hN _ ?_;clear hN N))|((first | refine SX.cond rfl (fun hb => ?_) (fun hb => ?_) | (refine bif2.mk (fun hb => ?_) (fun hb => ?_) <;> (try simp only [hb,GA,↓GB,GX,simprocAttr,hnt,hT,hx,hm]))) <;> ((first | cases hb | (simp only [HBs] at hb) | skip) <;> (first | (exfalso;omega) | skip)))|(refine SX.loop (ι := { p : Nat × Nat // p.1 ≤ s.length ∧ p.1 ≤ 10 ∧ p.2 < 2 ^ (7 * p.1) ∧ NW.readVar s = (NW.readAt p.1 (s.drop p.1)).map (fun r => (p.2 + r.1,r.2)) }) (fun i => ⟨[(0,vv (.string (B s))),(5,vv (.int .u64 i.1.2)),(6,vv (.int .i64 i.1.1))],[]⟩) (fun i => 10 - i.1.1) ⟨(0,0),Nat.zero_le _,by omega,by decide,by cases h : NW.readAt 0 s <;> simp [NW.readVar,h]⟩ ⟨[],by (refine LeR.of ?_ ?_ ?_ ?_ ?_ ?_ ?_ <;> first | (rw [hbl];decide) | decide | (simp only [GA,↓GB,GX,simprocAttr,GDs];done) | (simp only [GA,↓GB,GX,simprocAttr,GDs];first | exact ⟨rfl,rfl⟩ | rfl;done))⟩ ?_ <;> rintro ⟨⟨k,acc⟩,hk,hk10,hacc,hrv⟩ <;> simp only [] at hk hk10 hacc hrv ⊢)|(refine SX.block ?_)|(refine and_mk ?_ ?_;(focus first | decide | omega | rfl | assumption | (simp only [LBs];omega) | (simp;done)))|(refine And.intro ?_ ?_))
  all_goals (try refine Done.mk ?_)
  · have hlt : k < s.length := by omega
    rw [rv_unf hlt (by omega),if_pos (by omega)] at hrv
    rw [rvR_none hrv]
    exact ⟨rfl,hbel⟩
  · rw [wI64 (by omega) (by omega)];omega
  · have hlt : k < s.length := by omega
    rw [orS acc k _ (by omega) hacc (by omega),wI64 (by omega) (by omega)]
    rw [rv_unf hlt (by omega),if_neg (by omega),if_pos (by omega)] at hrv
    rw [rvR_some hrv]
    refine ⟨?_,hbel⟩
    rw [Nat.mod_eq_of_lt (show (s.getD k 0).toNat < 128 by omega)]
    rfl
  · rw [wI64 (by omega) (by omega)];omega
  · have hlt : k < s.length := by omega
    rw [orS acc k _ (by omega) hacc (by omega),wI64 (by omega) (by omega)]
    rw [rv_unf hlt (by omega),if_neg (by omega),if_pos (by omega)] at hrv
    rw [rvR_some hrv]
    refine ⟨?_,hbel⟩
    rw [Nat.mod_eq_of_lt (show (s.getD k 0).toNat < 128 by omega)]
    rfl
  · have hlt : k < s.length := by omega
    rw [rv_unf hlt (by omega),if_neg (by omega),if_neg (by omega),Option.map_map] at hrv
    have hp : 2 ^ (7 * (k + 1)) = 128 * 2 ^ (7 * k) := by rw [show 7 * (k + 1) = 7 + 7 * k by omega,Nat.pow_add]
    have hm2 : (s.getD k 0).toNat % 128 * 2 ^ (7 * k) ≤ 127 * 2 ^ (7 * k) := Nat.mul_le_mul_right _ (by omega)
    refine ⟨⟨(k + 1,acc + (s.getD k 0).toNat % 128 * 2 ^ (7 * k)),by omega,by show k + 1 ≤ 10;omega,by show acc + _ < 2 ^ (7 * (k + 1));omega,?_⟩,[],by (refine LeR.of ?_ ?_ ?_ ?_ ?_ ?_ ?_ <;> first | (rw [hbl];decide) | decide | (simp only [GA,↓GB,GX,simprocAttr,GDs];done) | (simp only [GA,↓GB,GX,simprocAttr,GDs];first | (rw [orS acc k _ (by omega) hacc (by omega),wI64 (by omega) (by omega)];exact ⟨rfl,rfl⟩) | (rw [orS acc k _ (by omega) hacc (by omega),wI64 (by omega) (by omega)];rfl);done)),by show 10 - (k + 1) < 10 - k;omega⟩
    rw [hrv]
    congr 1
    funext r
    simp only [Function.comp]
    rw [Nat.add_assoc]
  · rw [rv_stop (.inl (by omega))] at hrv
    rw [rvR_none hrv]
    exact ⟨rfl,hbel⟩
  · rw [rv_stop (.inr (by omega))] at hrv
    rw [rvR_none hrv]
    exact ⟨rfl,hbel⟩
@[reducible] def rfrow (l : List NW.Fld) : LO := .row 126 4 l.length (flds l)
def rparsedO : Option (List NW.Fld) → List LO
  | some l => [rfrow l]
  | none => []
def rparsedV : Option (List NW.Fld) → SV
  | some l => .tup [.c (.row 0),.c (.v (.bool true))]
  | none => .tup [.c (.v (.slice none 0 0)),.c (.v (.bool false))]
theorem rv_z (l : List UInt8) : (rvR l).2.1 ≤ l.length := by
  unfold rvR
  cases h : NW.readVar l with
  | none => exact Nat.zero_le _
  | some r => exact (NW.readVar_bd h).2.1
theorem rv_lt (l : List UInt8) : (rvR l).1 < 18446744073709551616 := by
  unfold rvR
  cases h : NW.readVar l with
  | none => show 0 < _;decide
  | some r => have := NW.readVar_lt h;show r.1 < _;omega
theorem rvR_t {t : List UInt8} {n z : Nat} (h : rvR t = (n,z,true)) : NW.readVar t = some (n,z) := by
  unfold rvR at h
  cases e : NW.readVar t with
  | none => rw [e] at h;simp at h
  | some r => rw [e] at h;obtain ⟨a,b⟩ := r;simp at h;rw [h.1,h.2]
theorem rvR_f {t : List UInt8} {n z : Nat} (h : rvR t = (n,z,false)) : NW.readVar t = none := by
  unfold rvR at h
  cases e : NW.readVar t with
  | none => rfl
  | some r => rw [e] at h;obtain ⟨a,b⟩ := r;simp at h
theorem rvT {t : List UInt8} {n z : Nat} {ok o : Bool} (h : rvR t = (n,z,ok)) (e : ok = o) : rvR t = (n,z,o) := by rw [h,e]
theorem tF_none {t : List UInt8} (h : NW.readVar t = none) : NW.takeF t = none := by unfold NW.takeF;rw [h]
theorem tF_tag {t : List UInt8} {n z : Nat} (h : NW.readVar t = some (n,z)) (hn : n < 8 ∨ 2 ^ 32 ≤ n) : NW.takeF t = none := by unfold NW.takeF;rw [h];exact if_pos hn
theorem tF_body {t : List UInt8} {n z : Nat} (h : NW.readVar t = some (n,z)) (hn : ¬ (n < 8 ∨ 2 ^ 32 ≤ n)) (hb : NW.body (n % 8) (t.drop z) = none) : NW.takeF t = none := by
  unfold NW.takeF;rw [h]
  simp only [if_neg hn,hb]
theorem tF_short {t : List UInt8} {n z m size : Nat} {r : List UInt8} (h : NW.readVar t = some (n,z)) (hn : ¬ (n < 8 ∨ 2 ^ 32 ≤ n)) (hb : NW.body (n % 8) (t.drop z) = some (m,size,r)) (hs : ¬ size ≤ r.length) : NW.takeF t = none := by
  unfold NW.takeF;rw [h]
  simp only [if_neg hn,hb,if_neg hs]
theorem tF_some {t : List UInt8} {n z m size : Nat} {r : List UInt8} (h : NW.readVar t = some (n,z)) (hn : ¬ (n < 8 ∨ 2 ^ 32 ≤ n)) (hb : NW.body (n % 8) (t.drop z) = some (m,size,r)) (hs : size ≤ r.length) : NW.takeF t = some (⟨n / 8,n % 8,m,r.take size⟩,r.drop size) := by
  unfold NW.takeF;rw [h]
  simp only [if_neg hn,hb,if_pos hs]
theorem bd0 {k : Nat} {s : List UInt8} {n z : Nat} (hk : k = 0) (h : NW.readVar s = some (n,z)) : NW.body k s = some (n,0,s.drop z) := by unfold NW.body;rw [if_pos hk,h];rfl
theorem bd0n {k : Nat} {s : List UInt8} (hk : k = 0) (h : NW.readVar s = none) : NW.body k s = none := by unfold NW.body;rw [if_pos hk,h];rfl
theorem bd1 {k : Nat} {s : List UInt8} (hk : k = 1) : NW.body k s = some (0,8,s) := by unfold NW.body;rw [if_neg (by omega),if_pos hk]
theorem bd2 {k : Nat} {s : List UInt8} {n z : Nat} (hk : k = 2) (h : NW.readVar s = some (n,z)) : NW.body k s = some (0,n,s.drop z) := by unfold NW.body;rw [if_neg (by omega),if_neg (by omega),if_pos hk,h];rfl
theorem bd2n {k : Nat} {s : List UInt8} (hk : k = 2) (h : NW.readVar s = none) : NW.body k s = none := by unfold NW.body;rw [if_neg (by omega),if_neg (by omega),if_pos hk,h];rfl
theorem bd5 {k : Nat} {s : List UInt8} (hk : k = 5) : NW.body k s = some (0,4,s) := by unfold NW.body;rw [if_neg (by omega),if_neg (by omega),if_neg (by omega),if_pos hk]
theorem bdn {k : Nat} {s : List UInt8} (h0 : k ≠ 0) (h1 : k ≠ 1) (h2 : k ≠ 2) (h5 : k ≠ 5) : NW.body k s = none := by unfold NW.body;rw [if_neg h0,if_neg h1,if_neg h2,if_neg h5]
theorem rfrow_snoc (fs : List NW.Fld) (f : NW.Fld) : LO.row 126 4 (fs.length + 1) (flds fs ++ [.int .i64 f.num,.int .i64 f.kind,.int .u64 f.n,.string (B f.s)]) = rfrow (fs ++ [f]) := by
  simp only [rfrow,List.length_append,List.length_cons,List.length_nil,flds_append];rfl
theorem par_none {s t : List UInt8} {fs : List NW.Fld} (hp : NW.parse s = (NW.parse t).map (fs ++ ·)) (h0 : 0 < t.length) (h : NW.takeF t = none) : NW.parse s = none := by
  rw [hp,NW.parse_none (by intro e;subst e;simp at h0) h];rfl
theorem par_some {s t r : List UInt8} {fs : List NW.Fld} {f : NW.Fld} (hp : NW.parse s = (NW.parse t).map (fs ++ ·)) (h : NW.takeF t = some (f,r)) : NW.parse s = (NW.parse r).map ((fs ++ [f]) ++ ·) := by
  rw [hp,NW.parse_some h,Option.map_map]
  congr 1
  funext l
  simp
theorem rvC (l : List UInt8) (hl : l.length ≤ 4611686018427387904) : ∃ n z ok,rvR l = (n,z,ok) ∧ z ≤ l.length ∧ n < 18446744073709551616 ∧ ∀ w,Calls Tryz.prog 91 #[.string (B l)] w fun e w' => e = .returned (.tuple #[.int .u64 n,.int .i64 z,.bool ok]) ∧ Below w.heap.size w w' :=
  ⟨(rvR l).1,(rvR l).2.1,(rvR l).2.2,rfl,rv_z l,rv_lt l,rReadVarint_any l hl⟩
theorem rParse_ctr (s : List UInt8) (hs : s.length ≤ 1099511627776) : Ctr Tryz.prog [] 61 [] [vv (.string (B s))] (fun os v => os = rparsedO (NW.parse s) ∧ v = rparsedV (NW.parse s)) := by
  have f1 : ∀ n : Nat,(n : Int).tdiv 8 = ((n / 8 : Nat) : Int) := fun l => rfl
  have f2 : ∀ n : Nat,(n : Int).tmod 8 = ((n % 8 : Nat) : Int) := fun l => rfl
  have f6 : ∀ (l : List UInt8) z,List.take (l.length - z) (List.drop z l) = List.drop z l := fun l z => List.take_of_length_le (by simp)
  have f8 : ∀ (l : List UInt8) z w,List.take (l.length - z - w) (List.drop w (List.drop z l)) = List.drop w (List.drop z l) := fun l z w => List.take_of_length_le (by simp <;> omega)
  refine Ctr.less ?_
  intro X0 hP0 hG0 N0 hN0
  refine CallVC.inline (f := 61) (by rw [hP0];exact Tryz.func61) rfl Tryz.ntmps61 rfl (by simp) ?_
  intro X K hU hnt hbl hK
  have hP : X.P = Tryz.prog := hU.P.trans hP0
  have hG := hG0.under hU
  have hT := Ty.T61 hP
  simp only [GA,↓GB,GX,simprocAttr] at hbl ⊢
  have f3 := True.intro
  have f4 := True.intro
  have f5 := True.intro
  have f7 := True.intro
  have f9 := True.intro
  repeat' (first|(refine SX.asRow (t := 4) 126 4 rfl ⟨_,rfl⟩ ?_)|(refine SX.seqK ?_;intro N hN)|((first | (refine SX.ops ?_));simp only [GA,↓GB,GX,simprocAttr,hnt,hT,f1,f2,f3,f4,f5,f6,f7,f8,f9,Int.toNat_natCast])|((first | refine SX.skip ?_ | refine SX.exit ?_ | refine SX.label ?_ | refine SX.ret ?_);try simp only [GA,↓GB,GX,simprocAttr])|(refine hN _ ?_;clear hN N)|((first | refine hK _ _ (FinI.ret3 ?_) | refine hK _ _ (FinI.nrm3 ?_));simp only [GA,↓GB,GX,simprocAttr,finP_s,hnt,hT,f1,f2,f3,f4,f5,f6,f7,f8,f9,Int.toNat_natCast];refine Done.out ?_)|(clear hN N;first | (refine hN _ ?_;clear hN N) | (clear hN N;refine hN _ ?_;clear hN N))|((first | refine SX.cond rfl (fun hb => ?_) (fun hb => ?_) | (refine bif2.mk (fun hb => ?_) (fun hb => ?_) <;> (try simp only [hb,GA,↓GB,GX,simprocAttr,hnt,hT,f1,f2,f3,f4,f5,f6,f7,f8,f9,Int.toNat_natCast]))) <;> ((first | cases hb | (simp only [HBs] at hb) | skip) <;> (first | (exfalso;omega) | skip)))|(refine CallVC.pt (l := [_,_,_]) hP hc1 rfl ?_;simp only [GA,↓GB,GX,simprocAttr,hnt,hT,f1,f2,f3,f4,f5,f6,f7,f8,f9,Int.toNat_natCast])|(refine CallVC.pt (l := [_,_,_]) hP hc2 rfl ?_;simp only [GA,↓GB,GX,simprocAttr,hnt,hT,f1,f2,f3,f4,f5,f6,f7,f8,f9,Int.toNat_natCast])|(refine SX.loop (ι := { p : List UInt8 × List NW.Fld // p.2.length + p.1.length ≤ s.length ∧ NW.parse s = (NW.parse p.1).map (p.2 ++ ·) }) (fun p => ⟨[(0,vv (.string (B p.1.1))),(4,.one (.c (.row 0)))],[rfrow p.1.2]⟩) (fun p => p.1.1.length) ⟨(s,[]),by simp,by simp⟩ ⟨[0],by (refine LeR.of ?_ ?_ ?_ ?_ ?_ ?_ ?_ <;> first | (rw [hbl];decide) | decide | (simp only [GA,↓GB,GX,simprocAttr,GDs];done) | (simp only [GA,↓GB,GX,simprocAttr,GDs];rfl;done))⟩ ?_ <;> rintro ⟨⟨t,fs⟩,hl,hp⟩ <;> simp only [] at hl hp ⊢ <;> obtain ⟨tag,z,ok,hr1,hz1,ht1,hc1⟩ := rvC t (by omega) <;> obtain ⟨n2,z2,ok2,hr2,hz2,ht2,hc2⟩ := rvC (t.drop z) (by rw [List.length_drop] <;> omega) <;> have hdl : (List.drop z t).length = t.length - z := List.length_drop <;> have hdl2 : (List.drop z2 (List.drop z t)).length = (List.drop z t).length - z2 := List.length_drop <;> have f7 : IntKind.u64.wrap ((List.drop z t).length : Int) = (List.drop z t).length := wU64 (by omega) (by omega) <;> have f9 : IntKind.u64.wrap ((List.drop z2 (List.drop z t)).length : Int) = (List.drop z2 (List.drop z t)).length := wU64 (by omega) (by omega) <;> have f3 : IntKind.u64.wrap ((tag / 8 : Nat) : Int) = ((tag / 8 : Nat) : Int) := wU64 (by omega) (by omega) <;> have f4 : IntKind.i64.wrap ((tag / 8 : Nat) : Int) = ((tag / 8 : Nat) : Int) := wI64 (by omega) (by omega) <;> have f5 : IntKind.i64.wrap ((tag % 8 : Nat) : Int) = ((tag % 8 : Nat) : Int) := wI64 (by omega) (by omega))|(refine SX.block ?_)|(refine and_mk ?_ ?_;(focus first | decide | omega | rfl | assumption | (simp only [LBs];omega) | (simp;done)))|(refine And.intro ?_ ?_))
  all_goals (try refine Done.mk ?_)
  · have hn0 : NW.takeF t = none := tF_none (rvR_f (by rw [hr1,hb]))
    rw [par_none hp (by omega) hn0] at hN0
    simp only [rparsedO,rparsedV] at hN0
    (refine hN0 _ _ ⟨[],_,_,?_,?_,?_,⟨rfl,rfl⟩⟩;(focus exact LeR.of rfl trivial (by simp only [GA,↓GB,GX,simprocAttr,GDs]) (by decide) rfl rfl rfl);rotate_left;(focus rfl))
    rfl
  · have hn0 : NW.takeF t = none := tF_tag (rvR_t (rvT hr1 (by first | assumption | rfl))) (by omega)
    rw [par_none hp (by omega) hn0] at hN0
    simp only [rparsedO,rparsedV] at hN0
    (refine hN0 _ _ ⟨[],_,_,?_,?_,?_,⟨rfl,rfl⟩⟩;(focus exact LeR.of rfl trivial (by simp only [GA,↓GB,GX,simprocAttr,GDs]) (by decide) rfl rfl rfl);rotate_left;(focus rfl))
    rfl
  · have hn0 : NW.takeF t = none := tF_tag (rvR_t (rvT hr1 (by first | assumption | rfl))) (by omega)
    rw [par_none hp (by omega) hn0] at hN0
    simp only [rparsedO,rparsedV] at hN0
    (refine hN0 _ _ ⟨[],_,_,?_,?_,?_,⟨rfl,rfl⟩⟩;(focus exact LeR.of rfl trivial (by simp only [GA,↓GB,GX,simprocAttr,GDs]) (by decide) rfl rfl rfl);rotate_left;(focus rfl))
    rfl
  · have hn0 : NW.takeF t = none := tF_body (rvR_t (rvT hr1 (by first | assumption | rfl))) (by omega) (bd0n (by omega) (rvR_f (rvT hr2 (by first | assumption | rfl))))
    rw [par_none hp (by omega) hn0] at hN0
    simp only [rparsedO,rparsedV] at hN0
    (refine hN0 _ _ ⟨[],_,_,?_,?_,?_,⟨rfl,rfl⟩⟩;(focus exact LeR.of rfl trivial (by simp only [GA,↓GB,GX,simprocAttr,GDs]) (by decide) rfl rfl rfl);rotate_left;(focus rfl))
    rfl
  · have hn0 : NW.takeF t = some (⟨tag / 8,tag % 8,n2,[]⟩,List.drop z2 (List.drop z t)) := tF_some (size := 0) (r := List.drop z2 (List.drop z t)) (rvR_t (rvT hr1 (by first | assumption | rfl))) (by omega) (bd0 (by omega) (rvR_t (rvT hr2 (by first | assumption | rfl)))) (by omega)
    have e := rfrow_snoc fs ⟨tag / 8,tag % 8,n2,[]⟩
    have hz0 : 1 ≤ z := (NW.readVar_bd (rvR_t (rvT hr1 (by first | assumption | rfl)))).1
    have hR : List.take ((List.drop z2 (List.drop z t)).length - 0) (List.drop z2 (List.drop z t)) = List.drop z2 (List.drop z t) := by rw [Nat.sub_zero,List.take_length]
    have hRl := congrArg List.length hR
    exact ⟨⟨(List.take ((List.drop z2 (List.drop z t)).length - 0) (List.drop z2 (List.drop z t)),fs ++ [⟨tag / 8,tag % 8,n2,[]⟩]),by rw [List.length_append,List.length_singleton];show fs.length + 1 + (List.take ((List.drop z2 (List.drop z t)).length - 0) (List.drop z2 (List.drop z t))).length ≤ s.length;omega,by show NW.parse s = (NW.parse (List.take ((List.drop z2 (List.drop z t)).length - 0) (List.drop z2 (List.drop z t)))).map ((fs ++ _) ++ ·);rw [hR];rw [par_some hp hn0]⟩,[3],by (refine LeR.of ?_ ?_ ?_ ?_ ?_ ?_ ?_ <;> first | (rw [hbl];decide) | decide | (simp only [GA,↓GB,GX,simprocAttr,GDs];done) | (simp only [GA,↓GB,GX,simprocAttr,GDs];first | exact e | exact ⟨rfl,e⟩ | exact ⟨e,rfl⟩ | rfl;done)),by show (List.take ((List.drop z2 (List.drop z t)).length - 0) (List.drop z2 (List.drop z t))).length < t.length;omega⟩
  · have hn0 : NW.takeF t = none := tF_short (rvR_t (rvT hr1 (by first | assumption | rfl))) (by omega) (bd1 (by omega)) (by omega)
    rw [par_none hp (by omega) hn0] at hN0
    simp only [rparsedO,rparsedV] at hN0
    (refine hN0 _ _ ⟨[],_,_,?_,?_,?_,⟨rfl,rfl⟩⟩;(focus exact LeR.of rfl trivial (by simp only [GA,↓GB,GX,simprocAttr,GDs]) (by decide) rfl rfl rfl);rotate_left;(focus rfl))
    rfl
  · have hn0 : NW.takeF t = some (⟨tag / 8,tag % 8,0,List.take 8 (List.drop z t)⟩,List.drop 8 (List.drop z t)) := tF_some (size := 8) (r := List.drop z t) (rvR_t (rvT hr1 (by first | assumption | rfl))) (by omega) (bd1 (by omega)) (by omega)
    have e := rfrow_snoc fs ⟨tag / 8,tag % 8,0,List.take 8 (List.drop z t)⟩
    have hRl : (List.drop 8 (List.drop z t)).length = (List.drop z t).length - 8 := List.length_drop
    exact ⟨⟨(List.drop 8 (List.drop z t),fs ++ [⟨tag / 8,tag % 8,0,List.take 8 (List.drop z t)⟩]),by rw [List.length_append,List.length_singleton];show fs.length + 1 + (List.drop 8 (List.drop z t)).length ≤ s.length;omega,by rw [par_some hp hn0]⟩,[3],by (refine LeR.of ?_ ?_ ?_ ?_ ?_ ?_ ?_ <;> first | (rw [hbl];decide) | decide | (simp only [GA,↓GB,GX,simprocAttr,GDs];done) | (simp only [GA,↓GB,GX,simprocAttr,GDs];first | exact e | exact ⟨rfl,e⟩ | exact ⟨e,rfl⟩ | rfl;done)),by show (List.drop 8 (List.drop z t)).length < t.length;omega⟩
  · have hn0 : NW.takeF t = none := tF_body (rvR_t (rvT hr1 (by first | assumption | rfl))) (by omega) (bd2n (by omega) (rvR_f (rvT hr2 (by first | assumption | rfl))))
    rw [par_none hp (by omega) hn0] at hN0
    simp only [rparsedO,rparsedV] at hN0
    (refine hN0 _ _ ⟨[],_,_,?_,?_,?_,⟨rfl,rfl⟩⟩;(focus exact LeR.of rfl trivial (by simp only [GA,↓GB,GX,simprocAttr,GDs]) (by decide) rfl rfl rfl);rotate_left;(focus rfl))
    rfl
  · have hn0 : NW.takeF t = none := tF_short (rvR_t (rvT hr1 (by first | assumption | rfl))) (by omega) (bd2 (by omega) (rvR_t (rvT hr2 (by first | assumption | rfl)))) (by omega)
    rw [par_none hp (by omega) hn0] at hN0
    simp only [rparsedO,rparsedV] at hN0
    (refine hN0 _ _ ⟨[],_,_,?_,?_,?_,⟨rfl,rfl⟩⟩;(focus exact LeR.of rfl trivial (by simp only [GA,↓GB,GX,simprocAttr,GDs]) (by decide) rfl rfl rfl);rotate_left;(focus rfl))
    rfl
  · have hn0 : NW.takeF t = some (⟨tag / 8,tag % 8,0,List.take (n2 - 0) (List.drop z2 (List.drop z t))⟩,List.drop n2 (List.drop z2 (List.drop z t))) := tF_some (size := n2) (r := List.drop z2 (List.drop z t)) (rvR_t (rvT hr1 (by first | assumption | rfl))) (by omega) (bd2 (by omega) (rvR_t (rvT hr2 (by first | assumption | rfl)))) (by omega)
    have e := rfrow_snoc fs ⟨tag / 8,tag % 8,0,List.take (n2 - 0) (List.drop z2 (List.drop z t))⟩
    have hz0 : 1 ≤ z := (NW.readVar_bd (rvR_t (rvT hr1 (by first | assumption | rfl)))).1
    have hRl : (List.drop n2 (List.drop z2 (List.drop z t))).length = (List.drop z2 (List.drop z t)).length - n2 := List.length_drop
    exact ⟨⟨(List.drop n2 (List.drop z2 (List.drop z t)),fs ++ [⟨tag / 8,tag % 8,0,List.take (n2 - 0) (List.drop z2 (List.drop z t))⟩]),by rw [List.length_append,List.length_singleton];show fs.length + 1 + (List.drop n2 (List.drop z2 (List.drop z t))).length ≤ s.length;omega,by rw [par_some hp hn0]⟩,[3],by (refine LeR.of ?_ ?_ ?_ ?_ ?_ ?_ ?_ <;> first | (rw [hbl];decide) | decide | (simp only [GA,↓GB,GX,simprocAttr,GDs];done) | (simp only [GA,↓GB,GX,simprocAttr,GDs];first | exact e | exact ⟨rfl,e⟩ | exact ⟨e,rfl⟩ | rfl;done)),by show (List.drop n2 (List.drop z2 (List.drop z t))).length < t.length;omega⟩
  · have hn0 : NW.takeF t = none := tF_short (rvR_t (rvT hr1 (by first | assumption | rfl))) (by omega) (bd5 (by omega)) (by omega)
    rw [par_none hp (by omega) hn0] at hN0
    simp only [rparsedO,rparsedV] at hN0
    (refine hN0 _ _ ⟨[],_,_,?_,?_,?_,⟨rfl,rfl⟩⟩;(focus exact LeR.of rfl trivial (by simp only [GA,↓GB,GX,simprocAttr,GDs]) (by decide) rfl rfl rfl);rotate_left;(focus rfl))
    rfl
  · have hn0 : NW.takeF t = some (⟨tag / 8,tag % 8,0,List.take 4 (List.drop z t)⟩,List.drop 4 (List.drop z t)) := tF_some (size := 4) (r := List.drop z t) (rvR_t (rvT hr1 (by first | assumption | rfl))) (by omega) (bd5 (by omega)) (by omega)
    have e := rfrow_snoc fs ⟨tag / 8,tag % 8,0,List.take 4 (List.drop z t)⟩
    have hRl : (List.drop 4 (List.drop z t)).length = (List.drop z t).length - 4 := List.length_drop
    exact ⟨⟨(List.drop 4 (List.drop z t),fs ++ [⟨tag / 8,tag % 8,0,List.take 4 (List.drop z t)⟩]),by rw [List.length_append,List.length_singleton];show fs.length + 1 + (List.drop 4 (List.drop z t)).length ≤ s.length;omega,by rw [par_some hp hn0]⟩,[3],by (refine LeR.of ?_ ?_ ?_ ?_ ?_ ?_ ?_ <;> first | (rw [hbl];decide) | decide | (simp only [GA,↓GB,GX,simprocAttr,GDs];done) | (simp only [GA,↓GB,GX,simprocAttr,GDs];first | exact e | exact ⟨rfl,e⟩ | exact ⟨e,rfl⟩ | rfl;done)),by show (List.drop 4 (List.drop z t)).length < t.length;omega⟩
  · have hn0 : NW.takeF t = none := tF_body (rvR_t (rvT hr1 (by first | assumption | rfl))) (by omega) (bdn (by omega) (by omega) (by omega) (by omega))
    rw [par_none hp (by omega) hn0] at hN0
    simp only [rparsedO,rparsedV] at hN0
    (refine hN0 _ _ ⟨[],_,_,?_,?_,?_,⟨rfl,rfl⟩⟩;(focus exact LeR.of rfl trivial (by simp only [GA,↓GB,GX,simprocAttr,GDs]) (by decide) rfl rfl rfl);rotate_left;(focus rfl))
    rfl
  · have ht : t = [] := List.eq_nil_of_length_eq_zero (by omega)
    subst ht
    rw [hp,NW.parse_nil,Option.map_some,List.append_nil] at hN0
    simp only [rparsedO,rparsedV] at hN0
    (refine hN0 _ _ ⟨[0],_,_,?_,?_,?_,⟨rfl,rfl⟩⟩;(focus exact LeR.of rfl trivial (by simp only [GA,↓GB,GX,simprocAttr,GDs]) (by decide) rfl rfl rfl);rotate_left;(focus rfl))
    rfl
def lastP (num kind : Nat) : List NW.Fld → NW.Fld → NW.Fld × Bool
  | [],out => (out,true)
  | f :: l,out => if f.num = num then (if f.kind = kind then lastP num kind l f else (out,false)) else lastP num kind l out
@[reducible] def fldV (f : NW.Fld) : List SC := [.v (.int .i64 f.num),.v (.int .i64 f.kind),.v (.int .u64 f.n),.v (.string (B f.s))]
def zF : NW.Fld := ⟨0,0,0,[]⟩
theorem flds_get (l : List NW.Fld) (i j : Nat) (h : i < l.length) (hj : j < 4) : (flds l)[i * 4 + j]? = (fcells (l.getD i default))[j]? := by
  rw [← flds_cell l i h,List.getElem?_take_of_lt hj,List.getElem?_drop]
theorem flds_num (l : List NW.Fld) (i : Nat) (h : i < l.length) : (flds l)[i * 4]? = some (.int .i64 (l.getD i default).num) := flds_get l i 0 h (by decide)
theorem flds_kind (l : List NW.Fld) (i : Nat) (h : i < l.length) : (flds l)[i * 4 + 1]? = some (.int .i64 (l.getD i default).kind) := flds_get l i 1 h (by decide)
theorem lastP_step (num kind : Nat) (l : List NW.Fld) (i : Nat) (out : NW.Fld) (h : i < l.length) : lastP num kind (l.drop i) out = if (l.getD i default).num = num then (if (l.getD i default).kind = kind then lastP num kind (l.drop (i + 1)) (l.getD i default) else (out,false)) else lastP num kind (l.drop (i + 1)) out := by
  rw [List.drop_eq_getElem_cons h,lastP,List.getD_eq_getElem?_getD,List.getElem?_eq_getElem h,Option.getD_some]
theorem last_ctr (l : List NW.Fld) (hl : l.length ≤ 1099511627776) (num kind : Nat) : Ctr Tryz.prog [] 59 [rfrow l] [.one (.c (.row 0)),vv (.int .i64 num),vv (.int .i64 kind)]
    (fun os v => os = [rfrow l] ∧ v = .tup [.agg (fldV (lastP num kind l zF).1),.c (.v (.bool (lastP num kind l zF).2))]) := by
  refine Ctr.less ?_
  intro X0 hP0 hG0 N0 hN0
  refine CallVC.inline (f := 59) (by rw [hP0];exact Tryz.func59) rfl Tryz.ntmps59 rfl (by simp) ?_
  intro X K hU hnt hbl hK
  have hP : X.P = Tryz.prog := hU.P.trans hP0
  have hG := hG0.under hU
  have hT := Ty.T59 hP
  simp only [GA,↓GB,GX,simprocAttr] at hbl ⊢
  repeat' (first|(refine SX.seqK ?_;intro N hN)|((first | (refine SX.ops ?_));simp only [GA,↓GB,GX,simprocAttr,hnt,hT])|((first | refine SX.skip ?_ | refine SX.exit ?_ | refine SX.label ?_ | refine SX.ret ?_);try simp only [GA,↓GB,GX,simprocAttr])|(refine hN _ ?_;clear hN N)|((first | refine hK _ _ (FinI.ret3 ?_) | refine hK _ _ (FinI.nrm3 ?_));simp only [GA,↓GB,GX,simprocAttr,finP_s,hnt,hT];refine Done.out ?_)|(clear hN N;first | (refine hN _ ?_;clear hN N) | (clear hN N;refine hN _ ?_;clear hN N))|((first | refine SX.cond rfl (fun hb => ?_) (fun hb => ?_) | (refine bif2.mk (fun hb => ?_) (fun hb => ?_) <;> (try simp only [hb,GA,↓GB,GX,simprocAttr,hnt,hT]))) <;> ((first | cases hb | (simp only [HBs] at hb) | skip) <;> (first | (exfalso;omega) | skip)))|(refine ⟨_,flds_num l _ (by omega),?_⟩ <;> simp only [GA,↓GB,GX,simprocAttr,hnt,hT])|(refine ⟨_,flds_kind l _ (by omega),?_⟩ <;> simp only [GA,↓GB,GX,simprocAttr,hnt,hT])|(refine SX.loop (ι := { p : Nat × NW.Fld // p.1 ≤ l.length ∧ lastP num kind l zF = lastP num kind (l.drop p.1) p.2 }) (fun p => ⟨[(0,.one (.c (.row 0))),(1,vv (.int .i64 num)),(2,vv (.int .i64 kind)),(6,.one (.c (.loc 1 0))),(7,vv (.bool false)),(8,.one (.c (.loc 2 0))),(9,vv (.int .i64 p.1.1))],[rfrow l,.cells (fldV zF) 126,.cells (fldV p.1.2) 126]⟩) (fun p => l.length - p.1.1) ⟨(0,zF),Nat.zero_le _,rfl⟩ ⟨[0,1,2],(LeR.of (by rw [hbl];decide) (by simp only [GA,↓GB,GX,simprocAttr,GDs];try (first | rfl | exact ⟨rfl,rfl⟩)) (by simp only [GA,↓GB,GX,simprocAttr,GDs];try (first | rfl | exact ⟨rfl,rfl⟩)) (by decide) (by simp only [GA,↓GB,GX,simprocAttr,GDs]) (by simp only [GA,↓GB,GX,simprocAttr,GDs]) (by simp only [GA,↓GB,GX,simprocAttr,GDs]))⟩ ?_ <;> rintro ⟨⟨i,out⟩,hi,hinv⟩ <;> simp only [] at hi hinv ⊢)|(refine ⟨fcells (l.getD i default),rfl,flds_cell l i (by omega),?_⟩ <;> simp only [fcells,GA,↓GB,GX,simprocAttr,hnt,hT])|(refine SX.block ?_)|(refine and_mk ?_ ?_;(focus first | decide | omega | rfl | assumption | (simp only [LBs];omega) | (simp;done)))|(refine And.intro ?_ ?_))
  all_goals (try refine Done.mk ?_)
  · have e : lastP num kind l zF = (out,false) := by rw [hinv,lastP_step num kind l i out (by omega),if_pos (by omega),if_neg (by omega)]
    rw [e] at hN0
    (refine hN0 _ _ ⟨[0],_,_,?_,?_,?_,⟨rfl,rfl⟩⟩;(focus exact LeR.of rfl trivial (by simp only [GA,↓GB,GX,simprocAttr,GDs]) (by decide) rfl rfl rfl);rotate_left;(focus rfl))
    rfl
  · have hk : (l.getD i default).kind = kind := by have h := of_decide_eq_false (p := ((l.getD i default).kind : Int) ≠ (kind : Int)) (by simpa using hb);simp only [ne_eq,Decidable.not_not] at h;omega
    have e : lastP num kind l zF = lastP num kind (l.drop (i + 1)) (l.getD i default) := by rw [hinv,lastP_step num kind l i out (by omega),if_pos (by omega),if_pos hk]
    refine ⟨⟨(i + 1,l.getD i default),by show i + 1 ≤ l.length;omega,e⟩,[0,1,2],(LeR.of (by rw [hbl];decide) (by simp only [GA,↓GB,GX,simprocAttr,GDs];try (first | rfl | exact ⟨rfl,rfl⟩ | (rw [wI64 (by omega) (by omega)];simp;done))) (by simp only [GA,↓GB,GX,simprocAttr,GDs];try (first | rfl | exact ⟨rfl,rfl⟩ | (rw [wI64 (by omega) (by omega)];simp;done))) (by decide) (by simp only [GA,↓GB,GX,simprocAttr,GDs]) (by simp only [GA,↓GB,GX,simprocAttr,GDs]) (by simp only [GA,↓GB,GX,simprocAttr,GDs])),by show l.length - (i + 1) < l.length - i;omega⟩
  · have e : lastP num kind l zF = lastP num kind (l.drop (i + 1)) out := by rw [hinv,lastP_step num kind l i out (by omega),if_neg (by omega)]
    refine ⟨⟨(i + 1,out),by show i + 1 ≤ l.length;omega,e⟩,[0,1,2],(LeR.of (by rw [hbl];decide) (by simp only [GA,↓GB,GX,simprocAttr,GDs];try (first | rfl | exact ⟨rfl,rfl⟩ | (rw [wI64 (by omega) (by omega)];simp;done))) (by simp only [GA,↓GB,GX,simprocAttr,GDs];try (first | rfl | exact ⟨rfl,rfl⟩ | (rw [wI64 (by omega) (by omega)];simp;done))) (by decide) (by simp only [GA,↓GB,GX,simprocAttr,GDs]) (by simp only [GA,↓GB,GX,simprocAttr,GDs]) (by simp only [GA,↓GB,GX,simprocAttr,GDs])),by show l.length - (i + 1) < l.length - i;omega⟩
  · have e : lastP num kind l zF = (out,true) := by rw [hinv,List.drop_of_length_le (by omega)];rfl
    rw [e] at hN0
    (refine hN0 _ _ ⟨[0],_,_,?_,?_,?_,⟨rfl,rfl⟩⟩;(focus exact LeR.of rfl trivial (by simp only [GA,↓GB,GX,simprocAttr,GDs]) (by decide) rfl rfl rfl);rotate_left;(focus rfl))
    rfl
end Go.Proofs.YtbdacbcpniegiaaGreatDoor.Q
namespace Go.Sx
open Go Go.RowKit Go.MapKept
open Classical in
section
variable {X : Ctx} {c : Cfg} {N : Cfg → Prop} {ty : TypeId} {pos : String} {af : Array Edge} {g : Option (Nat × Bool)}
end
end Go.Sx
namespace Go.Proofs.YtbdacbcpniegiaaGreatDoor
open Go Go.RowKit Go.Proofs Go.Sx
structure Rs where
  t : Int
  s : List UInt8
  q : Nat
  g : Bool
  b : List UInt8
deriving Inhabited,DecidableEq
def Rs.cells (r : Rs) : List Value := [.int .i64 r.t,.string (B r.s),.int .u64 r.q,.bool r.g,.string (B r.b)]
def resB (r : Rs) (t : Nat) : List UInt8 := numB 1 t ++ textB 2 r.s ++ numB 3 r.q ++ (if r.g then numB 4 1 else []) ++ (if r.b = [] then [] else textB 5 r.b)
theorem strEq_to {P P' : Program} {t : TypeId} {x y : Array Value} {r : Bool} (h : P' = P) (k : StrEq P t x y r) : StrEq P' t x y r := h ▸ k
def cmpMark (a : Int) (s : List UInt8) (q : Int) (b : Int) (t : List UInt8) (r : Int) : Int := if cmpKey a s b t ≠ 0 then cmpKey a s b t else cmpI q r
structure Mk where
  t : Int
  s : List UInt8
  q : Int
  st : Int
  d : List UInt8
deriving DecidableEq,Inhabited
def Mk.cells (m : Mk) : List Value := [.int .i64 m.t,.string (B m.s),.int .u64 m.q,.int .i64 m.st,.string (B m.d)]
def cmpM (a b : Mk) : Int := cmpMark a.t a.s a.q b.t b.s b.q
theorem cmpM_eq {a b : Mk} : cmpM a b = 0 ↔ a.t = b.t ∧ a.s = b.s ∧ a.q = b.q := by
  unfold cmpM cmpMark cmpKey
  by_cases h1 : cmpI a.t b.t = 0
  · by_cases h2 : cmpS a.s b.s = 0
    · simp only [h1,h2,ne_eq,not_true_eq_false,if_false,cmpI_eq]
      simp [cmpI_eq.1 h1,cmpS_eq.1 h2]
    · have n2 : a.s ≠ b.s := fun e => h2 (cmpS_eq.2 e)
      simp only [h1,ne_eq,not_true_eq_false,if_false,h2,not_false_eq_true,if_true]
      simp [n2]
  · have n1 : a.t ≠ b.t := fun e => h1 (cmpI_eq.2 e)
    simp only [ne_eq,h1,not_false_eq_true,if_true]
    simp [n1]
theorem cmpM_congr {a b c e : Mk} (h1 : a.t = c.t ∧ a.s = c.s ∧ a.q = c.q) (h2 : b.t = e.t ∧ b.s = e.s ∧ b.q = e.q) : cmpM a b = cmpM c e := by
  simp only [cmpM,h1.1,h1.2.1,h1.2.2,h2.1,h2.2.1,h2.2.2]
def Srt (ms : List Mk) : Prop := ms.Pairwise fun a b => cmpM a b < 0
def kk (t : Int) (s : List UInt8) (q : Int) (x : Mk) : Bool := x.t == t && x.s == s && x.q == q
theorem Srt.uniq {ms : List Mk} (h : Srt ms) {x y : Mk} (hx : x ∈ ms) (hy : y ∈ ms) (e : cmpM x y = 0) : x = y := by
  obtain ⟨i,hi,rfl⟩ := List.mem_iff_getElem.1 hx
  obtain ⟨j,hj,rfl⟩ := List.mem_iff_getElem.1 hy
  have hp := List.pairwise_iff_getElem.1 h
  rcases Nat.lt_trichotomy i j with hij | rfl | hij
  · have := hp i j hi hj hij;omega
  · rfl
  · have h2 := hp j i hj hi hij
    have : cmpM ms[j] ms[i] = 0 := by rw [cmpM_eq] at e ⊢;exact ⟨e.1.symm,e.2.1.symm,e.2.2.symm⟩
    omega
theorem Srt.map {ms : List Mk} (h : Srt ms) {f : Mk → Mk} (hf : ∀ x,(f x).t = x.t ∧ (f x).s = x.s ∧ (f x).q = x.q) : Srt (ms.map f) := by
  rw [Srt,List.pairwise_map]
  exact h.imp fun {a b} hab => by rw [cmpM_congr (hf a) (hf b)];exact hab
theorem Srt.filter {ms : List Mk} (h : Srt ms) (p : Mk → Bool) : Srt (ms.filter p) := List.Pairwise.sublist List.filter_sublist h
structure Inv (ms : List Mk) : Prop where
  srt : Srt ms
  room : ms.length ≤ 1024
theorem Inv.nil : Inv [] := ⟨List.Pairwise.nil,by decide⟩
theorem dropWhile_nil {p : UInt8 → Bool} : ∀ {l : List UInt8},l.dropWhile p = [] ↔ ∀ c ∈ l,p c = true
  | [] => by simp
  | a :: l => by
    rw [List.dropWhile_cons]
    cases h : p a with
    | true => simp [h,dropWhile_nil (l := l)]
    | false => simp [h]
theorem trimS_nil {s cs : List UInt8} : Lib.trimS s cs = [] ↔ ∀ c ∈ s,cs.contains c = true := by
  rw [show Lib.trimS s cs = ((s.reverse.dropWhile (cs.contains ·)).reverse.dropWhile (cs.contains ·)) from rfl,dropWhile_nil]
  constructor
  · intro h
    have hd := List.head?_dropWhile_not (cs.contains ·) s.reverse
    cases e : s.reverse.dropWhile (cs.contains ·) with
    | nil =>
      have := dropWhile_nil.1 e
      intro c hc
      exact this c (List.mem_reverse.2 hc)
    | cons a r =>
      rw [e] at hd h
      have := h a (by simp)
      simp only [List.head?_cons] at hd
      rw [this] at hd;cases hd
  · intro h x hx
    rw [List.mem_reverse] at hx
    exact h x (List.mem_reverse.1 ((List.dropWhile_sublist _).subset hx))
def okC (c : UInt8) : Bool := (decide (97 ≤ (c.toNat : Int)) && decide ((c.toNat : Int) ≤ 122)) || (decide (48 ≤ (c.toNat : Int)) && decide ((c.toNat : Int) ≤ 57)) || decide ((c.toNat : Int) = 45) || decide ((c.toNat : Int) = 46) || decide ((c.toNat : Int) = 47)
theorem okC_eq (c : UInt8) : nameCs.contains c = okC c := by
  have := (by decide : ∀ x : Fin 256,nameCs.contains (UInt8.ofNat x.val) = okC (UInt8.ofNat x.val)) ⟨c.toNat,UInt8.toNat_lt c⟩
  simpa using this
theorem nameB_all {s : List UInt8} (h : ∀ j,j < s.length → okC (s.getD j 0) = true) : nameB s = (!(s == []) && decide ((s.length : Int) ≤ 64)) := by
  have : Lib.trimS s nameCs = [] := trimS_nil.2 fun c hc => by
    obtain ⟨j,hj,rfl⟩ := List.getElem_of_mem hc
    have := h j hj
    rw [okC_eq]
    rwa [List.getD_eq_getElem?_getD,List.getElem?_eq_getElem hj] at this
  unfold nameB
  rw [this];simp
theorem nameB_bad {s : List UInt8} {j : Nat} (hj : j < s.length) (h : okC (s.getD j 0) = false) : nameB s = false := by
  have : ¬ Lib.trimS s nameCs = [] := fun e => by
    have := trimS_nil.1 e (s.getD j 0) (by rw [List.getD_eq_getElem?_getD,List.getElem?_eq_getElem hj];exact List.getElem_mem hj)
    rw [okC_eq,h] at this;cases this
  unfold nameB
  have e : (Lib.trimS s nameCs == []) = false := by
    rw [Bool.eq_false_iff];intro h;exact this (by simpa using h)
  rw [e];simp
theorem rName_any (s : List UInt8) (hs : s.length ≤ 9223372036854775807) (w : World) : Calls Tryz.prog 67 #[.string (B s)] w fun e w' => e = .returned (.bool (nameB s)) ∧ Below w.heap.size w w' := by
  refine calls_pureK (args := [.string (B s)]) w Tryz.func67 rfl Tryz.ntmps67 (by simp) ?_
  intro X K hX hK
  have hnt : X.nt = 49 := by rw [hX]
  have hwi : X.wi = w := by rw [hX]
  have hP : X.P = Tryz.prog := by rw [hX]
  have hown : X.own = [] := by rw [hX]
  have hbl : X.base.length = 0 := by rw [hX];rfl
  clear hX
  have hT := Ty.T67 hP
  repeat' (first|(refine SX.seqK ?_;intro N hN)|((first | (refine SX.ops ?_));simp only [GA,↓GB,GX,simprocAttr,hnt,hT,hnt])|((first | refine SX.skip ?_ | refine SX.exit ?_ | refine SX.label ?_ | refine SX.ret ?_);try simp only [GA,↓GB,GX,simprocAttr])|(refine hN _ ?_;clear hN N)|(refine hK _ _ (Fin.res rfl hown ?_);simp only [GA,↓GB,GX,simprocAttr,f_a,f_b,f_n,f_c,f_B,f_v,f_g,f_0,f_1,f_2,hT,hwi,hnt];intro w' hbel;refine Done.out ?_)|(clear hN N;first | (refine hN _ ?_;clear hN N) | (clear hN N;refine hN _ ?_;clear hN N))|((first | refine SX.cond rfl (fun hb => ?_) (fun hb => ?_) | (refine bif2.mk (fun hb => ?_) (fun hb => ?_) <;> (try simp only [hb,GA,↓GB,GX,simprocAttr,hnt,hT,hnt]))) <;> ((first | cases hb | (simp only [HBs] at hb) | skip) <;> (first | (exfalso;omega) | skip)))|(refine SX.loop (ι := { i : Nat // i ≤ s.length ∧ ∀ j,j < i → okC (s.getD j 0) = true }) (fun i => ⟨[(0,vv (.string (B s))),(3,vv (.int .i64 i.1))],[]⟩) (fun i => s.length - i.1) ⟨0,Nat.zero_le _,fun j hj => absurd hj (Nat.not_lt_zero j)⟩ ⟨[],(LeR.of (by rw [hbl];decide) (by simp only [GA,↓GB,GX,simprocAttr,GDs];try (rfl)) (by simp only [GA,↓GB,GX,simprocAttr,GDs];try (rfl)) (by decide) (by simp only [GA,↓GB,GX,simprocAttr,GDs]) (by simp only [GA,↓GB,GX,simprocAttr,GDs]) (by simp only [GA,↓GB,GX,simprocAttr,GDs]))⟩ ?_ <;> rintro ⟨i,hi,hno⟩ <;> simp only [] at hi hno ⊢)|(refine SX.block ?_)|(refine and_mk ?_ ?_;(focus first | decide | omega | rfl | assumption | (simp only [LBs];omega) | (simp;done)))|(refine And.intro ?_ ?_))
  all_goals (try refine Done.mk ?_)
  all_goals first
    | exact ⟨by rw [nameB_bad (j := i) (by omega) (by unfold okC;simp only [Bool.or_eq_false_iff,Bool.and_eq_false_iff,decide_eq_false_iff_not];omega)],hbel⟩
    | (refine ⟨⟨i + 1,by omega,fun j hj => ?_⟩,[],(LeR.of (by rw [hbl];decide) (by simp only [GA,↓GB,GX,simprocAttr,GDs];try (first | (rw [wI64 (by omega) (by omega)];rfl) | rfl)) (by simp only [GA,↓GB,GX,simprocAttr,GDs];try (first | (rw [wI64 (by omega) (by omega)];rfl) | rfl)) (by decide) (by simp only [GA,↓GB,GX,simprocAttr,GDs]) (by simp only [GA,↓GB,GX,simprocAttr,GDs]) (by simp only [GA,↓GB,GX,simprocAttr,GDs])),by show s.length - (i + 1) < s.length - i;omega⟩
       rcases Nat.lt_or_eq_of_le (Nat.le_of_lt_succ hj) with h | h
       · exact hno j h
       · subst h;unfold okC;simp only [Bool.or_eq_true,Bool.and_eq_true,decide_eq_true_eq];omega)
    | (obtain rfl : i = s.length := by omega
       refine ⟨?_,hbel⟩
       rw [nameB_all hno]
       cases s <;> simp_all <;> omega)
    | trace_state
theorem rKey_any (t : Int) (s : List UInt8) (hs : s.length ≤ 9223372036854775807) (w : World) : Calls Tryz.prog 96 #[.agg #[.int .i64 t,.string (B s)]] w fun e w' => e = .returned (.bool (keyB t s)) ∧ Below w.heap.size w w' := by
  refine calls_pureK (args := [.agg #[.int .i64 t,.string (B s)]]) w Tryz.func96 rfl Tryz.ntmps96 (by simp) ?_
  intro X K hX hK
  have hnt : X.nt = 23 := by rw [hX]
  have hwi : X.wi = w := by rw [hX]
  have hP : X.P = Tryz.prog := by rw [hX]
  have hown : X.own = [] := by rw [hX]
  have hbl : X.base.length = 0 := by rw [hX];rfl
  clear hX
  have hT := Ty.T96 hP
  repeat' (first|(refine SX.seqK ?_;intro N hN)|((first | (refine SX.ops ?_));simp only [GA,↓GB,GX,simprocAttr,hnt,hT])|((first | refine SX.skip ?_ | refine SX.exit ?_ | refine SX.label ?_ | refine SX.ret ?_);try simp only [GA,↓GB,GX,simprocAttr])|(refine hN _ ?_;clear hN N)|(refine hK _ _ (Fin.res rfl hown ?_);simp only [GA,↓GB,GX,simprocAttr,f_a,f_b,f_n,f_c,f_B,f_v,f_g,f_0,f_1,f_2,hT,hwi];intro w' hbel;refine Done.out ?_)|(refine bif2.mk (fun hb => ?_) (fun hb => ?_) <;> (try simp only [hb,GA,↓GB,GX,simprocAttr,hnt,hT]) <;> ((first | cases hb | (simp only [HBs] at hb) | skip) <;> (first | (exfalso;omega) | skip)))|((first | (refine CallVC.pv hP (rName_any _ hs) rfl ?_) | (refine CallQ.pv hP (rName_any _ hs) rfl ?_));simp only [GA,↓GB,GX,simprocAttr,hnt,hT])|(refine and_mk ?_ ?_;(focus first | decide | omega | rfl | assumption | (simp only [LBs];omega) | (simp;done)))|(refine And.intro ?_ ?_))
  all_goals (try refine Done.mk ?_)
  all_goals (refine ⟨?_,hbel⟩;simp_all [keyB] <;> (intros;omega))
theorem rRight_any (t : Int) (s : List UInt8) (q : Int) (ok : Bool) (d : List UInt8) (hs : s.length ≤ 9223372036854775807) (w : World) :
    Calls Tryz.prog 70 #[.agg #[.int .i64 t,.string (B s),.int .u64 q,.bool ok,.string (B d)]] w fun e w' => e = .returned (.bool (statusB t s q ok d)) ∧ Below w.heap.size w w' := by
  refine calls_pureK (args := [.agg #[.int .i64 t,.string (B s),.int .u64 q,.bool ok,.string (B d)]]) w Tryz.func70 rfl Tryz.ntmps70 (by simp) ?_
  intro X K hX hK
  have hnt : X.nt = 35 := by rw [hX]
  have hwi : X.wi = w := by rw [hX]
  have hP : X.P = Tryz.prog := by rw [hX]
  have hown : X.own = [] := by rw [hX]
  have hbl : X.base.length = 0 := by rw [hX];rfl
  clear hX
  have hT := Ty.T70 hP
  repeat' (first|(refine SX.seqK ?_;intro N hN)|((first | (refine SX.ops ?_));simp only [GA,↓GB,GX,simprocAttr,hnt,hT])|((first | refine SX.skip ?_ | refine SX.exit ?_ | refine SX.label ?_ | refine SX.ret ?_);try simp only [GA,↓GB,GX,simprocAttr])|(refine hN _ ?_;clear hN N)|(refine hK _ _ (Fin.res rfl hown ?_);simp only [GA,↓GB,GX,simprocAttr,f_a,f_b,f_n,f_c,f_B,f_v,f_g,f_0,f_1,f_2,hT,hwi];intro w' hbel;refine Done.out ?_)|(refine bif2.mk (fun hb => ?_) (fun hb => ?_) <;> (try simp only [hb,GA,↓GB,GX,simprocAttr,hnt,hT]) <;> ((first | cases hb | (simp only [HBs] at hb) | skip) <;> (first | (exfalso;omega) | skip)))|((first | (refine CallVC.pv hP (rKey_any _ _ hs) rfl ?_) | (refine CallQ.pv hP (rKey_any _ _ hs) rfl ?_));simp only [GA,↓GB,GX,simprocAttr,hnt,hT])|(refine and_mk ?_ ?_;(focus first | decide | omega | rfl | assumption | (simp only [LBs];omega) | (simp;done)))|(refine And.intro ?_ ?_))
  all_goals (try refine Done.mk ?_)
  all_goals (refine ⟨?_,hbel⟩;simp_all [statusB] <;> (intros;omega))
end Go.Proofs.YtbdacbcpniegiaaGreatDoor
namespace Go.Proofs.YtbdacbcpniegiaaGreatDoor.Q
open Go Go.RowKit Go.Proofs Go.Sx
end Go.Proofs.YtbdacbcpniegiaaGreatDoor.Q
namespace Go.Proofs.YtbdacbcpniegiaaGreatDoor
open Go Go.RowKit Go.Proofs Go.Sx
end Go.Proofs.YtbdacbcpniegiaaGreatDoor
namespace Go.Proofs.YtbdacbcpniegiaaGreatDoor.Q
open Go Go.RowKit Go.Proofs Go.Sx
theorem last_nil (num kind : Nat) : Ctr Tryz.prog [] 59 [] [.one (.c (.v (.slice none 0 0))),vv (.int .i64 num),vv (.int .i64 kind)]
    (fun os v => os = [] ∧ v = .tup [.agg (fldV zF),.c (.v (.bool true))]) := by
  refine Ctr.less ?_
  intro X0 hP0 hG0 N0 hN0
  refine CallVC.inline (f := 59) (by rw [hP0];exact Tryz.func59) rfl Tryz.ntmps59 rfl (by simp) ?_
  intro X K hU hnt hbl hK
  have hP : X.P = Tryz.prog := hU.P.trans hP0
  have hG := hG0.under hU
  have hT := Ty.T59 hP
  simp only [GA,↓GB,GX,simprocAttr] at hbl ⊢
  repeat' (first|(refine SX.seqK ?_;intro N hN)|((first | (refine SX.ops ?_));simp only [GA,↓GB,GX,simprocAttr,hnt,hT])|((first | refine SX.skip ?_ | refine SX.exit ?_ | refine SX.label ?_ | refine SX.ret ?_);try simp only [GA,↓GB,GX,simprocAttr])|(refine hN _ ?_;clear hN N)|((first | refine hK _ _ (FinI.ret3 ?_) | refine hK _ _ (FinI.nrm3 ?_));simp only [GA,↓GB,GX,simprocAttr,finP_s,hnt,hT];refine Done.out ?_)|(clear hN N;first | (refine hN _ ?_;clear hN N) | (clear hN N;refine hN _ ?_;clear hN N))|((first | refine SX.cond rfl (fun hb => ?_) (fun hb => ?_) | (refine bif2.mk (fun hb => ?_) (fun hb => ?_) <;> (try simp only [hb,GA,↓GB,GX,simprocAttr,hnt,hT]))) <;> ((first | cases hb | (simp only [HBs] at hb) | skip) <;> (first | (exfalso;omega) | skip)))|(refine SX.loopN 1 ?_)|(refine SXr.stepK ?_;intro N hN)|(refine SX.block ?_)|(refine and_mk ?_ ?_;(focus first | decide | omega | rfl | assumption | (simp only [LBs];omega) | (simp;done)))|(refine And.intro ?_ ?_))
  all_goals (try refine Done.mk ?_)
  all_goals ((refine hN0 _ _ ⟨[],_,_,?_,?_,?_,⟨rfl,rfl⟩⟩;(focus exact LeR.of rfl trivial (by simp only [GA,↓GB,GX,simprocAttr,GDs]) (by decide) rfl rfl rfl);rotate_left;(focus rfl));rfl)
def okP (l : List NW.Fld) : Bool := (lastP 1 0 l zF).2 && (lastP 2 2 l zF).2 && (lastP 3 0 l zF).2 && (lastP 4 0 l zF).2 && (lastP 5 2 l zF).2 && decide ((lastP 4 0 l zF).1.n ≤ 1) && decide ((lastP 1 0 l zF).1.n ≤ 5)
def isK (b : Int) (t : List UInt8) (m : Rs) : Bool := m.t == b && m.s == t
def isO (x m : Rs) : Bool := decide (0 < cmpKey m.t m.s x.t x.s)
def cutL (x : Rs) (ms : List Rs) : List Rs := ms.filter fun m => !isK x.t x.s m
def setL (ms : List Rs) (x : Rs) : List Rs := match (cutL x ms).findIdx? (isO x) with
  | some k => (cutL x ms).take k ++ x :: (cutL x ms).drop k
  | none => cutL x ms ++ [x]
def lastF (k : Nat) (l : List NW.Fld) (out : NW.Fld) : NW.Fld := l.foldl (fun o f => if f.num = k then f else o) out
def okK (k kd : Nat) (f : NW.Fld) : Bool := !(f.num == k) || f.kind == kd
theorem lastP_ok (k kd : Nat) : ∀ (l : List NW.Fld) (out : NW.Fld),(lastP k kd l out).2 = l.all (okK k kd)
  | [],out => rfl
  | f :: l,out => by
    unfold lastP
    by_cases h : f.num = k
    · rw [if_pos h]
      by_cases h2 : f.kind = kd
      · rw [if_pos h2,lastP_ok k kd l f];simp [okK,h,h2]
      · rw [if_neg h2];simp [okK,h,h2]
    · rw [if_neg h,lastP_ok k kd l out];simp [okK,h]
theorem lastP_val (k kd : Nat) : ∀ (l : List NW.Fld) (out : NW.Fld),l.all (okK k kd) = true → (lastP k kd l out).1 = lastF k l out
  | [],out,_ => rfl
  | f :: l,out,ha => by
    simp only [List.all_cons,Bool.and_eq_true] at ha
    unfold lastP
    show _ = lastF k l (if f.num = k then f else out)
    by_cases h : f.num = k
    · have h2 : f.kind = kd := by have := ha.1;simpa [okK,h] using this
      rw [if_pos h,if_pos h2,if_pos h];exact lastP_val k kd l f ha.2
    · rw [if_neg h,if_neg h];exact lastP_val k kd l out ha.2
def ok5 (f : NW.Fld) : Bool := okK 1 0 f && okK 2 2 f && okK 3 0 f && okK 4 0 f && okK 5 2 f
theorem all5 (l : List NW.Fld) : l.all ok5 = (l.all (okK 1 0) && l.all (okK 2 2) && l.all (okK 3 0) && l.all (okK 4 0) && l.all (okK 5 2)) := by
  induction l with
  | nil => rfl
  | cons f l ih =>
    simp only [List.all_cons,ih,ok5]
    cases okK 1 0 f <;> cases okK 2 2 f <;> cases okK 3 0 f <;> cases okK 4 0 f <;> cases okK 5 2 f <;> simp
end Go.Proofs.YtbdacbcpniegiaaGreatDoor.Q
namespace Go.Proofs.YtbdacbcpniegiaaGreatDoor
open Go Go.RowKit Go.Proofs Go.Sx
theorem pingB_len {n : Nat} (hn : n < 18446744073709551616) : (pingB n).length ≤ 21 := by
  have hL := numB_len 1 n (by decide) hn
  unfold pingB
  split <;> simp <;> omega
theorem nameL_len : ∀ n : Fin 256,(nameL n.val).length ≤ 4 := by decide +kernel
end Go.Proofs.YtbdacbcpniegiaaGreatDoor
namespace Go.Proofs.YtbdacbcpniegiaaGreatDoor.Q
open Go Go.RowKit Go.Proofs Go.Sx
def stOf (g : Nat → NW.Fld) : StS := ⟨(g 1).n,(g 2).s,(g 3).n,(g 4).n,(g 5).s⟩
def g1 (f : NW.Fld) (g : Nat → NW.Fld) : Nat → NW.Fld := fun k => if f.num = k then f else g k
theorem stepS_st (f : NW.Fld) (g : Nat → NW.Fld) : stepS f (stOf g) = if ok5 f = true then some (stOf (g1 f g)) else none := by
  by_cases h1 : f.num = 1
  · have e : stOf (g1 f g) = { stOf g with kind := f.n } := by simp [stOf,g1,h1]
    rw [e,stepS,if_pos h1]
    by_cases hk : f.kind = 0 <;> simp [ok5,okK,h1,hk]
  by_cases h2 : f.num = 2
  · have e : stOf (g1 f g) = { stOf g with name := f.s } := by simp [stOf,g1,h2]
    rw [e,stepS,if_neg h1,if_pos h2]
    by_cases hk : f.kind = 2 <;> simp [ok5,okK,h2,hk]
  by_cases h3 : f.num = 3
  · have e : stOf (g1 f g) = { stOf g with seq := f.n } := by simp [stOf,g1,h3]
    rw [e,stepS,if_neg h1,if_neg h2,if_pos h3]
    by_cases hk : f.kind = 0 <;> simp [ok5,okK,h3,hk]
  by_cases h4 : f.num = 4
  · have e : stOf (g1 f g) = { stOf g with fine := f.n } := by simp [stOf,g1,h4]
    rw [e,stepS,if_neg h1,if_neg h2,if_neg h3,if_pos h4]
    by_cases hk : f.kind = 0 <;> simp [ok5,okK,h4,hk]
  by_cases h5 : f.num = 5
  · have e : stOf (g1 f g) = { stOf g with det := f.s } := by simp [stOf,g1,h5]
    rw [e,stepS,if_neg h1,if_neg h2,if_neg h3,if_neg h4,if_pos h5]
    by_cases hk : f.kind = 2 <;> simp [ok5,okK,h5,hk]
  have e : stOf (g1 f g) = stOf g := by simp [stOf,g1,h1,h2,h3,h4,h5]
  have e2 : ok5 f = true := by simp [ok5,okK,h1,h2,h3,h4,h5]
  rw [e,stepS,if_neg h1,if_neg h2,if_neg h3,if_neg h4,if_neg h5,if_pos e2]
theorem takeS_yes : ∀ (l : List NW.Fld) (g : Nat → NW.Fld),l.all ok5 = true → takeG stepS l (stOf g) = (stOf (fun k => lastF k l (g k)),true)
  | [],g,_ => rfl
  | f :: l,g,h => by
    simp only [List.all_cons,Bool.and_eq_true] at h
    rw [takeG,stepS_st,if_pos h.1]
    exact takeS_yes l (g1 f g) h.2
theorem takeS_no : ∀ (l : List NW.Fld) (g : Nat → NW.Fld),¬ l.all ok5 = true → (takeG stepS l (stOf g)).2 = false
  | [],g,h => absurd rfl h
  | f :: l,g,h => by
    rw [takeG,stepS_st]
    by_cases hf : ok5 f = true
    · rw [if_pos hf]
      exact takeS_no l (g1 f g) (fun h2 => h (by rw [List.all_cons,hf,h2];rfl))
    · rw [if_neg hf]
def stP (l : List NW.Fld) : StS := ⟨(lastP 1 0 l zF).1.n,(lastP 2 2 l zF).1.s,(lastP 3 0 l zF).1.n,(lastP 4 0 l zF).1.n,(lastP 5 2 l zF).1.s⟩
def statP (s : List UInt8) : Option StS := if kindL s = 4 then (match NW.parse (s.drop 1) with
  | none => none
  | some l => if okP l = true ∧ statusB ((stP l).kind : Int) (stP l).name (stP l).seq (((stP l).fine : Int) == 1) (stP l).det = true then some (stP l) else none) else none
theorem statusB_type {t : Int} {s : List UInt8} {q : Int} {ok : Bool} {d : List UInt8} (h : statusB t s q ok d = true) : 1 ≤ t ∧ t ≤ 5 := by
  obtain ⟨h1,h2,_⟩ := statusB_spec h;exact ⟨h1,h2⟩
theorem statR_statP (s : List UInt8) : statR s = statP s := by
  unfold statR statP
  by_cases hk : kindL s = 4
  · rw [if_pos hk,if_pos hk]
    unfold takeB
    cases NW.parse (s.drop 1) with
    | none => simp
    | some l =>
      show (if (takeG stepS l ⟨0,[],0,0,[]⟩).2 = true ∧ (takeG stepS l ⟨0,[],0,0,[]⟩).1.fine ≤ 1 ∧ statusB ((min (takeG stepS l ⟨0,[],0,0,[]⟩).1.kind 6 : Nat) : Int) (takeG stepS l ⟨0,[],0,0,[]⟩).1.name (takeG stepS l ⟨0,[],0,0,[]⟩).1.seq (((takeG stepS l ⟨0,[],0,0,[]⟩).1.fine : Int) == 1) (takeG stepS l ⟨0,[],0,0,[]⟩).1.det = true then some (takeG stepS l ⟨0,[],0,0,[]⟩).1 else none) = _
      have e0 : (⟨0,[],0,0,[]⟩ : StS) = stOf fun _ => zF := rfl
      rw [e0]
      by_cases ha : l.all ok5 = true
      · rw [takeS_yes l _ ha]
        have hb := ha
        rw [all5] at hb
        simp only [Bool.and_eq_true] at hb
        obtain ⟨⟨⟨⟨a1,a2⟩,a3⟩,a4⟩,a5⟩ := hb
        have em : stOf (fun k => lastF k l zF) = stP l := by
          unfold stOf stP
          rw [lastP_val 1 0 l zF a1,lastP_val 2 2 l zF a2,lastP_val 3 0 l zF a3,lastP_val 4 0 l zF a4,lastP_val 5 2 l zF a5]
        have eo : okP l = (decide ((stP l).fine ≤ 1) && decide ((stP l).kind ≤ 5)) := by unfold okP stP;rw [lastP_ok,lastP_ok,lastP_ok,lastP_ok,lastP_ok,a1,a2,a3,a4,a5];rfl
        simp only [em,eo,Bool.and_eq_true,decide_eq_true_eq,true_and]
        by_cases h5 : (stP l).kind ≤ 5
        · have e6 : ((min (stP l).kind 6 : Nat) : Int) = ((stP l).kind : Int) := by omega
          rw [e6]
          by_cases hf : (stP l).fine ≤ 1 <;> simp [hf,h5]
        · have e6 : ((min (stP l).kind 6 : Nat) : Int) = 6 := by omega
          rw [e6,if_neg (fun h => by have := (statusB_type h.2).2;omega),if_neg (fun h => h5 h.1.2)]
      · have hn := takeS_no l (fun _ => zF) ha
        have eo : okP l = false := by
          unfold okP
          rw [lastP_ok,lastP_ok,lastP_ok,lastP_ok,lastP_ok,← all5]
          simp only [Bool.not_eq_true] at ha
          rw [ha];rfl
        rw [if_neg (fun h => by rw [hn] at h;cases h.1)]
        dsimp only
        rw [if_neg (fun h => by rw [eo] at h;cases h.1)]
  · rw [if_neg hk,if_neg hk]
end Go.Proofs.YtbdacbcpniegiaaGreatDoor.Q
namespace Go.Proofs.YtbdacbcpniegiaaGreatDoor
open Go Go.RowKit Go.Proofs Go.Sx
def upd (a : Nat) (ok : Bool) (d : List UInt8) (f : Nat → Int × List UInt8) (j : Nat) : Int × List UInt8 :=
  if (f j).1 = 1 then (if ok then (if j ≤ a then (2,(f j).2) else f j) else if j = a then (3,d) else f j) else f j
structure Keys (ms : List Mk) (q : Nat → Nat) : Prop where
  inv : Inv ms
  all : ∀ x ∈ ms,∃ k,k < 3 ∧ x.t = ((1 + k : Nat) : Int) ∧ x.s = [107] ∧ x.st = 1 ∧ 1 ≤ x.q ∧ x.q ≤ (q k : Int)
  last : ∀ k,k < 3 → 0 < q k → ∃ x ∈ ms,x.t = ((1 + k : Nat) : Int) ∧ x.s = [107] ∧ x.q = (q k : Int)
theorem Keys.nil : Keys [] (fun _ => 0) := ⟨Inv.nil,fun x hx => (by cases hx),fun k _ h => absurd h (by decide)⟩
def put (q : Nat → Nat) (k n : Nat) (j : Nat) : Nat := if j = k then n else q j
structure Room (ms : List Mk) (i : Nat) : Prop where
  inv : Inv ms
  len : ms.length = min i 1024
  le : ∀ x ∈ ms,((i - 1024 : Nat) : Int) < x.q ∧ x.q ≤ (i : Int)
  uniq : ∀ x ∈ ms,∀ y ∈ ms,x.q = y.q → x = y
  has : ∀ k : Nat,i - 1024 < k → k ≤ i → ∃ x ∈ ms,x.q = (k : Int)
theorem Room.nil : Room [] 0 := ⟨Inv.nil,rfl,fun x hx => (by cases hx),fun x hx => (by cases hx),fun k h1 h2 => by omega⟩
theorem rnumber_any (num n : Nat) (h1 : 1 ≤ num) (h2 : num < 536870912) (h0 : 0 < n) (hn : n < 18446744073709551616) (w : World) :
    Calls Tryz.prog 47 #[.int .i64 num,.int .u64 n] w fun e w' => e = .returned (.string (B (numB num n))) ∧ Below w.heap.size w w' := by
  refine calls_pureK (args := [.int .i64 num,.int .u64 n]) w Tryz.func47 rfl Tryz.ntmps47 (by simp) ?_
  intro X K hX hK
  have hnt : X.nt = 10 := by rw [hX]
  have hwi : X.wi = w := by rw [hX]
  have hP : X.P = Tryz.prog := by rw [hX]
  have hown : X.own = [] := by rw [hX]
  have hbl : X.base.length = 0 := by rw [hX];rfl
  clear hX
  have hT := Ty.T47 hP
  repeat' (first|(refine SX.seqK ?_;intro N hN)|((first | (refine SX.ops ?_));simp only [GA,↓GB,GX,simprocAttr,hnt,hT])|((first | refine SX.skip ?_ | refine SX.exit ?_ | refine SX.label ?_ | refine SX.ret ?_);try simp only [GA,↓GB,GX,simprocAttr])|(refine hN _ ?_;clear hN N)|(refine hK _ _ (Fin.res rfl hown ?_);simp only [GA,↓GB,GX,simprocAttr,f_a,f_b,f_n,f_c,f_B,f_v,f_g,f_0,f_1,f_2,hT,hwi];intro w' hbel;refine Done.out ?_)|((first | refine SX.cond rfl (fun hb => ?_) (fun hb => ?_) | (refine bif2.mk (fun hb => ?_) (fun hb => ?_) <;> (try simp only [hb,GA,↓GB,GX,simprocAttr,hnt,hT]))) <;> ((first | cases hb | (simp only [HBs] at hb) | skip) <;> (first | (exfalso;omega) | skip)))|((first | (refine CallVC.pv hP (rNumber_any num n h1 h2 hn) rfl ?_) | (refine CallQ.pv hP (rNumber_any num n h1 h2 hn) rfl ?_));simp only [GA,↓GB,GX,simprocAttr,hnt,hT])|(refine and_mk ?_ ?_;(focus first | decide | omega | rfl | assumption | (simp only [LBs];omega) | (simp;done)))|(refine And.intro ?_ ?_))
  all_goals (try refine Done.mk ?_)
  all_goals first | exact hbel | exact ⟨rfl,hbel⟩ | (exfalso;omega)
theorem rflag_any (num : Nat) (ok : Bool) (h1 : 1 ≤ num) (h2 : num < 536870912) (w : World) :
    Calls Tryz.prog 48 #[.int .i64 num,.bool ok] w fun e w' => e = .returned (.string (B (if ok then numB num 1 else []))) ∧ Below w.heap.size w w' := by
  cases ok
  · refine calls_pureK (args := [.int .i64 num,.bool false]) w Tryz.func48 rfl Tryz.ntmps48 (by simp) ?_
    intro X K hX hK
    have hnt : X.nt = 8 := by rw [hX]
    have hwi : X.wi = w := by rw [hX]
    have hP : X.P = Tryz.prog := by rw [hX]
    have hown : X.own = [] := by rw [hX]
    have hbl : X.base.length = 0 := by rw [hX];rfl
    clear hX
    have hT := Ty.T48 hP
    repeat' (first|(refine SX.seqK ?_;intro N hN)|((first | (refine SX.ops ?_));simp only [GA,↓GB,GX,simprocAttr,hnt,hT])|((first | refine SX.skip ?_ | refine SX.exit ?_ | refine SX.label ?_ | refine SX.ret ?_);try simp only [GA,↓GB,GX,simprocAttr])|(refine hN _ ?_;clear hN N)|(refine hK _ _ (Fin.res rfl hown ?_);simp only [GA,↓GB,GX,simprocAttr,f_a,f_b,f_n,f_c,f_B,f_v,f_g,f_0,f_1,f_2,hT,hwi];intro w' hbel;refine Done.out ?_)|((first | refine SX.cond rfl (fun hb => ?_) (fun hb => ?_) | (refine bif2.mk (fun hb => ?_) (fun hb => ?_) <;> (try simp only [hb,GA,↓GB,GX,simprocAttr,hnt,hT]))) <;> ((first | cases hb | (simp only [HBs] at hb) | skip) <;> (first | (exfalso;omega) | skip)))|((first | (refine CallVC.pv hP (rNumber_any num 1 h1 h2 (by decide)) rfl ?_) | (refine CallQ.pv hP (rNumber_any num 1 h1 h2 (by decide)) rfl ?_));simp only [GA,↓GB,GX,simprocAttr,hnt,hT])|(refine and_mk ?_ ?_;(focus first | decide | omega | rfl | assumption | (simp only [LBs];omega) | (simp;done)))|(refine And.intro ?_ ?_))
    all_goals (try refine Done.mk ?_)
    all_goals first | exact hbel | exact ⟨rfl,hbel⟩
  · refine calls_pureK (args := [.int .i64 num,.bool true]) w Tryz.func48 rfl Tryz.ntmps48 (by simp) ?_
    intro X K hX hK
    have hnt : X.nt = 8 := by rw [hX]
    have hwi : X.wi = w := by rw [hX]
    have hP : X.P = Tryz.prog := by rw [hX]
    have hown : X.own = [] := by rw [hX]
    have hbl : X.base.length = 0 := by rw [hX];rfl
    clear hX
    have hT := Ty.T48 hP
    repeat' (first|(refine SX.seqK ?_;intro N hN)|((first | (refine SX.ops ?_));simp only [GA,↓GB,GX,simprocAttr,hnt,hT])|((first | refine SX.skip ?_ | refine SX.exit ?_ | refine SX.label ?_ | refine SX.ret ?_);try simp only [GA,↓GB,GX,simprocAttr])|(refine hN _ ?_;clear hN N)|(refine hK _ _ (Fin.res rfl hown ?_);simp only [GA,↓GB,GX,simprocAttr,f_a,f_b,f_n,f_c,f_B,f_v,f_g,f_0,f_1,f_2,hT,hwi];intro w' hbel;refine Done.out ?_)|((first | refine SX.cond rfl (fun hb => ?_) (fun hb => ?_) | (refine bif2.mk (fun hb => ?_) (fun hb => ?_) <;> (try simp only [hb,GA,↓GB,GX,simprocAttr,hnt,hT]))) <;> ((first | cases hb | (simp only [HBs] at hb) | skip) <;> (first | (exfalso;omega) | skip)))|((first | (refine CallVC.pv hP (rNumber_any num 1 h1 h2 (by decide)) rfl ?_) | (refine CallQ.pv hP (rNumber_any num 1 h1 h2 (by decide)) rfl ?_));simp only [GA,↓GB,GX,simprocAttr,hnt,hT])|(refine and_mk ?_ ?_;(focus first | decide | omega | rfl | assumption | (simp only [LBs];omega) | (simp;done)))|(refine And.intro ?_ ?_))
    all_goals (try refine Done.mk ?_)
    all_goals first | exact hbel | exact ⟨rfl,hbel⟩
theorem rPutStatus_no (t : Int) (s : List UInt8) (q : Int) (ok : Bool) (d : List UInt8) (hs : s.length ≤ 9223372036854775807) (h : statusB t s q ok d = false) (w : World) :
    Calls Tryz.prog 23 #[.agg #[.int .i64 t,.string (B s),.int .u64 q,.bool ok,.string (B d)]] w fun e w' => e = .returned (.tuple #[.string (B []),.bool false]) ∧ Below w.heap.size w w' := by
  refine calls_pureK (args := [.agg #[.int .i64 t,.string (B s),.int .u64 q,.bool ok,.string (B d)]]) w Tryz.func23 rfl Tryz.ntmps23 (by simp) ?_
  intro X K hX hK
  have hnt : X.nt = 38 := by rw [hX]
  have hwi : X.wi = w := by rw [hX]
  have hP : X.P = Tryz.prog := by rw [hX]
  have hown : X.own = [] := by rw [hX]
  have hbl : X.base.length = 0 := by rw [hX];rfl
  clear hX
  have hT := Ty.T23 hP
  repeat' (first|(refine SX.seqK ?_;intro N hN)|((first | (refine SX.ops ?_));simp only [GA,↓GB,GX,simprocAttr,hnt,hT,h])|((first | refine SX.skip ?_ | refine SX.exit ?_ | refine SX.label ?_ | refine SX.ret ?_);try simp only [GA,↓GB,GX,simprocAttr])|(refine hN _ ?_;clear hN N)|(refine hK _ _ (Fin.res rfl hown ?_);simp only [GA,↓GB,GX,simprocAttr,f_a,f_b,f_n,f_c,f_B,f_v,f_g,f_0,f_1,f_2,hT,hwi,h];intro w' hbel;refine Done.out ?_)|((first | refine SX.cond rfl (fun hb => ?_) (fun hb => ?_) | (refine bif2.mk (fun hb => ?_) (fun hb => ?_) <;> (try simp only [hb,GA,↓GB,GX,simprocAttr,hnt,hT,h]))) <;> ((first | cases hb | (simp only [HBs] at hb) | skip) <;> (first | (exfalso;omega) | skip)))|((first | (refine CallVC.pv hP (rRight_any _ _ _ _ _ hs) rfl ?_) | (refine CallQ.pv hP (rRight_any _ _ _ _ _ hs) rfl ?_));simp only [GA,↓GB,GX,simprocAttr,hnt,hT,h])|(refine and_mk ?_ ?_;(focus first | decide | omega | rfl | assumption | (simp only [LBs];omega) | (simp;done)))|(refine And.intro ?_ ?_))
  all_goals (try refine Done.mk ?_)
  all_goals exact hbel
theorem rPutStatus_yes (t : Nat) (s : List UInt8) (q : Nat) (ok : Bool) (d : List UInt8) (hs : s.length < 4294967296) (hq : q < 18446744073709551616) (ht : t ≤ 5) (ht1 : 1 ≤ t) (hq1 : 0 < q) (hd : d.length < 4294967296) (h : statusB t s q ok d = true) (w : World) :
    Calls Tryz.prog 23 #[.agg #[.int .i64 t,.string (B s),.int .u64 q,.bool ok,.string (B d)]] w fun e w' => e = .returned (.tuple #[.string (B (statusBytes t s q ok d)),.bool true]) ∧ Below w.heap.size w w' := by
  have e1 : IntKind.u64.wrap (t : Int) = (t : Int) := wU64 (by omega) (by omega)
  have n1 := numB_len 1 t (by decide) (by omega)
  have n2 := textB_len 2 s (by decide) hs
  have n3 := numB_len 3 q (by decide) hq
  have n4 : (if ok then numB 4 1 else []).length ≤ 20 := by
    cases ok
    · simp
    · exact numB_len 4 1 (by decide) (by decide)
  have n5 := textB_len 5 d (by decide) hd
  refine calls_pureK (args := [.agg #[.int .i64 t,.string (B s),.int .u64 q,.bool ok,.string (B d)]]) w Tryz.func23 rfl Tryz.ntmps23 (by simp) ?_
  intro X K hX hK
  have hnt : X.nt = 38 := by rw [hX]
  have hwi : X.wi = w := by rw [hX]
  have hP : X.P = Tryz.prog := by rw [hX]
  have hown : X.own = [] := by rw [hX]
  have hbl : X.base.length = 0 := by rw [hX];rfl
  clear hX
  have hT := Ty.T23 hP
  repeat' (first|(refine SX.seqK ?_;intro N hN)|((first | (refine SX.ops ?_) | (refine SX.planT (id := 4) [.q [(0,[1]),(1,[10]),(2,[11]),(3,[12]),(4,[13]),(5,[14]),(6,[1]),(7,[16]),(8,[17]),(9,[18]),(10,[15,19]),(11,[1]),(12,[21]),(13,[22]),(14,[20,23]),(15,[1]),(16,[25]),(17,[26]),(18,[24,27]),(19,[28])] none] ?_ ?_ ?_;(focus first | (rw [hP];kernel_rfl) | (rw [hU1P,hP];kernel_rfl));(focus kernel_rfl)));simp only [GA,↓GB,GX,simprocAttr,hnt,hT,h,e1])|((first | refine SX.skip ?_ | refine SX.exit ?_ | refine SX.label ?_ | refine SX.ret ?_);try simp only [GA,↓GB,GX,simprocAttr])|(refine hN _ ?_;clear hN N)|(refine hK _ _ (Fin.res rfl hown ?_);simp only [GA,↓GB,GX,simprocAttr,f_a,f_b,f_n,f_c,f_B,f_v,f_g,f_0,f_1,f_2,hT,hwi,h,e1];intro w' hbel;refine Done.out ?_)|((first | refine SX.cond rfl (fun hb => ?_) (fun hb => ?_) | (refine bif2.mk (fun hb => ?_) (fun hb => ?_) <;> (try simp only [hb,GA,↓GB,GX,simprocAttr,hnt,hT,h,e1]))) <;> ((first | cases hb | (simp only [HBs] at hb) | skip) <;> (first | (exfalso;omega) | skip)))|((first | (refine CallVC.pv hP (rRight_any _ _ _ _ _ (by omega)) rfl ?_) | (refine CallQ.pv hP (rRight_any _ _ _ _ _ (by omega)) rfl ?_) | (refine CallVC.pv hP (rnumber_any 1 t (by decide) (by decide) (by omega) (by omega)) rfl ?_) | (refine CallQ.pv hP (rnumber_any 1 t (by decide) (by decide) (by omega) (by omega)) rfl ?_) | (refine CallVC.pv hP (rText_any 2 s (by decide) (by decide) (by omega)) rfl ?_) | (refine CallQ.pv hP (rText_any 2 s (by decide) (by decide) (by omega)) rfl ?_) | (refine CallVC.pv hP (rnumber_any 3 q (by decide) (by decide) hq1 hq) rfl ?_) | (refine CallQ.pv hP (rnumber_any 3 q (by decide) (by decide) hq1 hq) rfl ?_) | (refine CallVC.pv hP (rflag_any 4 ok (by decide) (by decide)) rfl ?_) | (refine CallQ.pv hP (rflag_any 4 ok (by decide) (by decide)) rfl ?_) | (refine CallVC.pv hP (rText_any 5 d (by decide) (by decide) (by omega)) rfl ?_) | (refine CallQ.pv hP (rText_any 5 d (by decide) (by decide) (by omega)) rfl ?_));simp only [GA,↓GB,GX,simprocAttr,hnt,hT,h,e1])|(refine and_mk ?_ ?_;(focus first | decide | omega | rfl | assumption | (simp only [LBs];omega) | (simp;done)))|(refine And.intro ?_ ?_))
  all_goals (try refine Done.mk ?_)
  all_goals first | exact hbel | (refine ⟨?_,hbel⟩;simp_all [statusBytes];done) | trace_state
theorem rPutStatus_any (t : Int) (s : List UInt8) (q : Nat) (ok : Bool) (d : List UInt8) (hs : s.length ≤ 9223372036854775807) (hq : q < 18446744073709551616) (w : World) :
    Calls Tryz.prog 23 #[.agg #[.int .i64 t,.string (B s),.int .u64 q,.bool ok,.string (B d)]] w fun e w' => e = .returned (.tuple #[.string (B (if statusB t s q ok d then statusBytes t.toNat s q ok d else [])),.bool (statusB t s q ok d)]) ∧ Below w.heap.size w w' := by
  cases h : statusB t s q ok d with
  | false => simpa using rPutStatus_no t s q ok d hs h w
  | true =>
    obtain ⟨h1,h2,h3,h4,h5,h6⟩ := statusB_spec h
    obtain ⟨n,rfl⟩ : ∃ n : Nat,t = n := ⟨t.toNat,by omega⟩
    simp only [if_true,Int.toNat_natCast]
    exact rPutStatus_yes n s q ok d (by omega) hq (by omega) (by omega) (by omega) (by omega) h w
end Go.Proofs.YtbdacbcpniegiaaGreatDoor
namespace Go.Proofs.YtbdacbcpniegiaaGreatDoor.Q
open Go Go.RowKit Go.Proofs Go.Sx
theorem rKind_any (s : List UInt8) (w : World) : Calls Tryz.prog 20 #[.string (B s)] w fun e w' => e = .returned (.int .i64 (kindL s)) ∧ Below w.heap.size w w' := by
  cases s with
  | nil =>
    refine calls_pureK (args := [.string (B [])]) w Tryz.func20 rfl Tryz.ntmps20 (by simp) ?_
    intro X K hX hK
    have hnt : X.nt = 18 := by rw [hX]
    have hwi : X.wi = w := by rw [hX]
    have hP : X.P = Tryz.prog := by rw [hX]
    have hown : X.own = [] := by rw [hX]
    have hbl : X.base.length = 0 := by rw [hX];rfl
    clear hX
    have hT := Ty.T20 hP
    repeat' (first|(refine SX.seqK ?_;intro N hN)|((first | (refine SX.ops ?_));simp only [GA,↓GB,GX,simprocAttr,hnt,hT])|((first | refine SX.skip ?_ | refine SX.exit ?_ | refine SX.label ?_ | refine SX.ret ?_);try simp only [GA,↓GB,GX,simprocAttr])|(refine hN _ ?_;clear hN N)|(refine hK _ _ (Fin.res rfl hown ?_);simp only [GA,↓GB,GX,simprocAttr,f_a,f_b,f_n,f_c,f_B,f_v,f_g,f_0,f_1,f_2,hT,hwi];intro w' hbel;refine Done.out ?_)|((first | refine SX.cond rfl (fun hb => ?_) (fun hb => ?_) | (refine bif2.mk (fun hb => ?_) (fun hb => ?_) <;> (try simp only [hb,GA,↓GB,GX,simprocAttr,hnt,hT]))) <;> ((first | cases hb | (simp only [HBs] at hb) | skip) <;> (first | (exfalso;omega) | skip)))|(refine and_mk ?_ ?_;(focus first | decide | omega | rfl | assumption | (simp only [LBs];omega) | (simp;done)))|(refine And.intro ?_ ?_))
    all_goals (try refine Done.mk ?_)
    all_goals exact ⟨rfl,hbel⟩
  | cons b r =>
    refine calls_pureK (args := [.string (B (b :: r))]) w Tryz.func20 rfl Tryz.ntmps20 (by simp) ?_
    intro X K hX hK
    have hnt : X.nt = 18 := by rw [hX]
    have hwi : X.wi = w := by rw [hX]
    have hP : X.P = Tryz.prog := by rw [hX]
    have hown : X.own = [] := by rw [hX]
    have hbl : X.base.length = 0 := by rw [hX];rfl
    clear hX
    have hT := Ty.T20 hP
    repeat' (first|(refine SX.seqK ?_;intro N hN)|((first | (refine SX.ops ?_));simp only [GA,↓GB,GX,simprocAttr,hnt,hT])|((first | refine SX.skip ?_ | refine SX.exit ?_ | refine SX.label ?_ | refine SX.ret ?_);try simp only [GA,↓GB,GX,simprocAttr])|(refine hN _ ?_;clear hN N)|(refine hK _ _ (Fin.res rfl hown ?_);simp only [GA,↓GB,GX,simprocAttr,f_a,f_b,f_n,f_c,f_B,f_v,f_g,f_0,f_1,f_2,hT,hwi];intro w' hbel;refine Done.out ?_)|((first | refine SX.cond rfl (fun hb => ?_) (fun hb => ?_) | (refine bif2.mk (fun hb => ?_) (fun hb => ?_) <;> (try simp only [hb,GA,↓GB,GX,simprocAttr,hnt,hT]))) <;> ((first | cases hb | (simp only [HBs] at hb) | skip) <;> (first | (exfalso;omega) | skip)))|(refine and_mk ?_ ?_;(focus first | decide | omega | rfl | assumption | (simp only [LBs];omega) | (simp;done)))|(refine And.intro ?_ ?_))
    all_goals (try refine Done.mk ?_)
    · exact ⟨by rw [kindL,if_pos (by omega)],hbel⟩
    · exact ⟨by rw [kindL,if_pos (by omega)],hbel⟩
    · exact ⟨by have := b.toNat_lt;rw [kindL,if_neg (by omega),wI64 (by omega) (by omega)],hbel⟩
theorem rnumber0_any (num : Nat) (w : World) : Calls Tryz.prog 47 #[.int .i64 num,.int .u64 0] w fun e w' => e = .returned (.string (B [])) ∧ Below w.heap.size w w' := by
  refine calls_pureK (args := [.int .i64 num,.int .u64 0]) w Tryz.func47 rfl Tryz.ntmps47 (by simp) ?_
  intro X K hX hK
  have hnt : X.nt = 10 := by rw [hX]
  have hwi : X.wi = w := by rw [hX]
  have hP : X.P = Tryz.prog := by rw [hX]
  have hown : X.own = [] := by rw [hX]
  have hbl : X.base.length = 0 := by rw [hX];rfl
  clear hX
  have hT := Ty.T47 hP
  repeat' (first|(refine SX.seqK ?_;intro N hN)|((first | (refine SX.ops ?_));simp only [GA,↓GB,GX,simprocAttr,hnt,hT])|((first | refine SX.skip ?_ | refine SX.exit ?_ | refine SX.label ?_ | refine SX.ret ?_);try simp only [GA,↓GB,GX,simprocAttr])|(refine hN _ ?_;clear hN N)|(refine hK _ _ (Fin.res rfl hown ?_);simp only [GA,↓GB,GX,simprocAttr,f_a,f_b,f_n,f_c,f_B,f_v,f_g,f_0,f_1,f_2,hT,hwi];intro w' hbel;refine Done.out ?_)|((first | refine SX.cond rfl (fun hb => ?_) (fun hb => ?_) | (refine bif2.mk (fun hb => ?_) (fun hb => ?_) <;> (try simp only [hb,GA,↓GB,GX,simprocAttr,hnt,hT]))) <;> ((first | cases hb | (simp only [HBs] at hb) | skip) <;> (first | (exfalso;omega) | skip)))|(refine and_mk ?_ ?_;(focus first | decide | omega | rfl | assumption | (simp only [LBs];omega) | (simp;done)))|(refine And.intro ?_ ?_))
  all_goals (try refine Done.mk ?_)
  all_goals first | exact hbel | exact ⟨rfl,hbel⟩
theorem rPing_any (n : Nat) (hn : n < 18446744073709551616) (w : World) : Calls Tryz.prog 24 #[.int .u64 n] w fun e w' => e = .returned (.string (B (pingB n))) ∧ Below w.heap.size w w' := by
  by_cases h0 : n = 0
  · subst h0
    rw [show pingB 0 = [3] from rfl]
    refine calls_pureK (args := [.int .u64 0]) w Tryz.func24 rfl Tryz.ntmps24 (by simp) ?_
    intro X K hX hK
    have hnt : X.nt = 6 := by rw [hX]
    have hwi : X.wi = w := by rw [hX]
    have hP : X.P = Tryz.prog := by rw [hX]
    have hown : X.own = [] := by rw [hX]
    have hbl : X.base.length = 0 := by rw [hX];rfl
    clear hX
    have hT := Ty.T24 hP
    repeat' (first|(refine SX.seqK ?_;intro N hN)|((first | (refine SX.ops ?_));simp only [GA,↓GB,GX,simprocAttr,hnt,hT])|((first | refine SX.skip ?_ | refine SX.exit ?_ | refine SX.label ?_ | refine SX.ret ?_);try simp only [GA,↓GB,GX,simprocAttr])|(refine hN _ ?_;clear hN N)|(refine hK _ _ (Fin.res rfl hown ?_);simp only [GA,↓GB,GX,simprocAttr,f_a,f_b,f_n,f_c,f_B,f_v,f_g,f_0,f_1,f_2,hT,hwi];intro w' hbel;refine Done.out ?_)|(refine bif2.mk (fun hb => ?_) (fun hb => ?_) <;> (try simp only [hb,GA,↓GB,GX,simprocAttr,hnt,hT]) <;> ((first | cases hb | (simp only [HBs] at hb) | skip) <;> (first | (exfalso;omega) | skip)))|((first | (refine CallVC.pv hP (rnumber0_any 1) rfl ?_) | (refine CallQ.pv hP (rnumber0_any 1) rfl ?_));simp only [GA,↓GB,GX,simprocAttr,hnt,hT])|(refine and_mk ?_ ?_;(focus first | decide | omega | rfl | assumption | (simp only [LBs];omega) | (simp;done)))|(refine And.intro ?_ ?_))
    all_goals (try refine Done.mk ?_)
    all_goals first | exact hbel | exact ⟨rfl,hbel⟩
  · have hL := numB_len 1 n (by decide) hn
    rw [show pingB n = 3 :: numB 1 n by rw [pingB,if_neg h0]]
    refine calls_pureK (args := [.int .u64 n]) w Tryz.func24 rfl Tryz.ntmps24 (by simp) ?_
    intro X K hX hK
    have hnt : X.nt = 6 := by rw [hX]
    have hwi : X.wi = w := by rw [hX]
    have hP : X.P = Tryz.prog := by rw [hX]
    have hown : X.own = [] := by rw [hX]
    have hbl : X.base.length = 0 := by rw [hX];rfl
    clear hX
    have hT := Ty.T24 hP
    repeat' (first|(refine SX.seqK ?_;intro N hN)|((first | (refine SX.ops ?_));simp only [GA,↓GB,GX,simprocAttr,hnt,hT])|((first | refine SX.skip ?_ | refine SX.exit ?_ | refine SX.label ?_ | refine SX.ret ?_);try simp only [GA,↓GB,GX,simprocAttr])|(refine hN _ ?_;clear hN N)|(refine hK _ _ (Fin.res rfl hown ?_);simp only [GA,↓GB,GX,simprocAttr,f_a,f_b,f_n,f_c,f_B,f_v,f_g,f_0,f_1,f_2,hT,hwi];intro w' hbel;refine Done.out ?_)|(refine bif2.mk (fun hb => ?_) (fun hb => ?_) <;> (try simp only [hb,GA,↓GB,GX,simprocAttr,hnt,hT]) <;> ((first | cases hb | (simp only [HBs] at hb) | skip) <;> (first | (exfalso;omega) | skip)))|((first | (refine CallVC.pv hP (rnumber_any 1 n (by decide) (by decide) (by omega) hn) rfl ?_) | (refine CallQ.pv hP (rnumber_any 1 n (by decide) (by decide) (by omega) hn) rfl ?_));simp only [GA,↓GB,GX,simprocAttr,hnt,hT])|(refine and_mk ?_ ?_;(focus first | decide | omega | rfl | assumption | (simp only [LBs];omega) | (simp;done)))|(refine And.intro ?_ ?_))
    all_goals (try refine Done.mk ?_)
    all_goals first | exact hbel | exact ⟨rfl,hbel⟩
def fldR (s : List UInt8) (k : Int) : Option (List NW.Fld) := if kindL s = k then NW.parse (s.drop 1) else none
theorem rFields_ctr (s : List UInt8) (hs : s.length ≤ 1099511627776) (k : Int) (hk0 : 1 ≤ k) : Ctr Tryz.prog [] 58 [] [vv (.string (B s)),vv (.int .i64 k)] (fun os v => os = rparsedO (fldR s k) ∧ v = rparsedV (fldR s k)) := by
  have hd := drop1 s
  have hkd := rKind_any s
  have hp := rParse_ctr (s.drop 1) (by rw [List.length_drop];omega)
  unfold fldR
  by_cases hk : kindL s = k
  · rw [if_pos hk]
    have h1 : 1 ≤ s.length := by
      cases s with
      | nil => have : (0 : Int) = k := hk;omega
      | cons b r => simp
    have hk1 : (kindL s != k) = false := by simp [hk]
    refine Ctr.less ?_
    cases hl : NW.parse (s.drop 1) with
    | none =>
      rw [hl] at hp
      simp only [rparsedO,rparsedV] at hp ⊢
      intro X0 hP0 hG0 N0 hN0
      refine CallVC.inline (f := 58) (by rw [hP0];exact Tryz.func58) rfl Tryz.ntmps58 rfl (by simp) ?_
      intro X K hU hnt hbl hK
      have hP : X.P = Tryz.prog := hU.P.trans hP0
      have hG := hG0.under hU
      have hT := Ty.T58 hP
      simp only [GA,↓GB,GX,simprocAttr] at hbl ⊢
      repeat' (first|(refine SX.seqK ?_;intro N hN)|((first | (refine SX.ops ?_));simp only [GA,↓GB,GX,simprocAttr,hnt,hT,hd,hk1])|((first | refine SX.skip ?_ | refine SX.exit ?_ | refine SX.label ?_ | refine SX.ret ?_);try simp only [GA,↓GB,GX,simprocAttr])|(refine hN _ ?_;clear hN N)|((first | refine hK _ _ (FinI.ret3 ?_) | refine hK _ _ (FinI.nrm3 ?_));simp only [GA,↓GB,GX,simprocAttr,finP_s,hnt,hT,hd,hk1];refine Done.out ?_)|((first | refine SX.cond rfl (fun hb => ?_) (fun hb => ?_) | (refine bif2.mk (fun hb => ?_) (fun hb => ?_) <;> (try simp only [hb,GA,↓GB,GX,simprocAttr,hnt,hT,hd,hk1]))) <;> ((first | cases hb | (simp only [HBs] at hb) | skip) <;> (first | (exfalso;omega) | skip)))|((first | (refine CallVC.pv hP (hkd) rfl ?_) | (refine CallQ.pv hP (hkd) rfl ?_) | (refine Ctr.use (hp) hP hG [] ?_ rfl rfl ?_;(focus (refine LeR.of rfl trivial ?_ ?_ ?_ ?_ ?_ <;> first | decide | (simp only [GA,↓GB,GX,simprocAttr,GDs];done)));intro os' s hR;obtain ⟨rfl,rfl⟩ := hR));simp only [GA,↓GB,GX,simprocAttr,hnt,hT,hd,hk1])|(refine and_mk ?_ ?_;(focus first | decide | omega | rfl | assumption | (simp only [LBs];omega) | (simp;done)))|(refine And.intro ?_ ?_))
      all_goals (try refine Done.mk ?_)
      all_goals ((refine hN0 _ _ ⟨[],_,_,?_,?_,?_,⟨rfl,rfl⟩⟩;(focus exact LeR.of rfl trivial (by simp only [GA,↓GB,GX,simprocAttr,GDs]) (by decide) rfl rfl rfl);rotate_left;(focus rfl));rfl)
    | some l =>
      rw [hl] at hp
      simp only [rparsedO,rparsedV] at hp ⊢
      intro X0 hP0 hG0 N0 hN0
      refine CallVC.inline (f := 58) (by rw [hP0];exact Tryz.func58) rfl Tryz.ntmps58 rfl (by simp) ?_
      intro X K hU hnt hbl hK
      have hP : X.P = Tryz.prog := hU.P.trans hP0
      have hG := hG0.under hU
      have hT := Ty.T58 hP
      simp only [GA,↓GB,GX,simprocAttr] at hbl ⊢
      repeat' (first|(refine SX.seqK ?_;intro N hN)|((first | (refine SX.ops ?_));simp only [GA,↓GB,GX,simprocAttr,hnt,hT,hd,hk1])|((first | refine SX.skip ?_ | refine SX.exit ?_ | refine SX.label ?_ | refine SX.ret ?_);try simp only [GA,↓GB,GX,simprocAttr])|(refine hN _ ?_;clear hN N)|((first | refine hK _ _ (FinI.ret3 ?_) | refine hK _ _ (FinI.nrm3 ?_));simp only [GA,↓GB,GX,simprocAttr,finP_s,hnt,hT,hd,hk1];refine Done.out ?_)|((first | refine SX.cond rfl (fun hb => ?_) (fun hb => ?_) | (refine bif2.mk (fun hb => ?_) (fun hb => ?_) <;> (try simp only [hb,GA,↓GB,GX,simprocAttr,hnt,hT,hd,hk1]))) <;> ((first | cases hb | (simp only [HBs] at hb) | skip) <;> (first | (exfalso;omega) | skip)))|((first | (refine CallVC.pv hP (hkd) rfl ?_) | (refine CallQ.pv hP (hkd) rfl ?_) | (refine Ctr.use (hp) hP hG [] ?_ rfl rfl ?_;(focus (refine LeR.of rfl trivial ?_ ?_ ?_ ?_ ?_ <;> first | decide | (simp only [GA,↓GB,GX,simprocAttr,GDs];done)));intro os' s hR;obtain ⟨rfl,rfl⟩ := hR));simp only [GA,↓GB,GX,simprocAttr,hnt,hT,hd,hk1])|(refine and_mk ?_ ?_;(focus first | decide | omega | rfl | assumption | (simp only [LBs];omega) | (simp;done)))|(refine And.intro ?_ ?_))
      all_goals (try refine Done.mk ?_)
      all_goals ((refine hN0 _ _ ⟨[0],_,_,?_,?_,?_,⟨rfl,rfl⟩⟩;(focus exact LeR.of rfl trivial (by simp only [GA,↓GB,GX,simprocAttr,GDs]) (by decide) rfl rfl rfl);rotate_left;(focus rfl));rfl)
  · rw [if_neg hk]
    have hk1 : (kindL s != k) = true := by simpa using hk
    refine Ctr.less ?_
    simp only [rparsedO,rparsedV]
    intro X0 hP0 hG0 N0 hN0
    refine CallVC.inline (f := 58) (by rw [hP0];exact Tryz.func58) rfl Tryz.ntmps58 rfl (by simp) ?_
    intro X K hU hnt hbl hK
    have hP : X.P = Tryz.prog := hU.P.trans hP0
    have hG := hG0.under hU
    have hT := Ty.T58 hP
    simp only [GA,↓GB,GX,simprocAttr] at hbl ⊢
    repeat' (first|(refine SX.seqK ?_;intro N hN)|((first | (refine SX.ops ?_));simp only [GA,↓GB,GX,simprocAttr,hnt,hT,hk1])|((first | refine SX.skip ?_ | refine SX.exit ?_ | refine SX.label ?_ | refine SX.ret ?_);try simp only [GA,↓GB,GX,simprocAttr])|(refine hN _ ?_;clear hN N)|((first | refine hK _ _ (FinI.ret3 ?_) | refine hK _ _ (FinI.nrm3 ?_));simp only [GA,↓GB,GX,simprocAttr,finP_s,hnt,hT,hk1];refine Done.out ?_)|((first | refine SX.cond rfl (fun hb => ?_) (fun hb => ?_) | (refine bif2.mk (fun hb => ?_) (fun hb => ?_) <;> (try simp only [hb,GA,↓GB,GX,simprocAttr,hnt,hT,hk1]))) <;> ((first | cases hb | (simp only [HBs] at hb) | skip) <;> (first | (exfalso;omega) | skip)))|((first | (refine CallVC.pv hP (hkd) rfl ?_) | (refine CallQ.pv hP (hkd) rfl ?_));simp only [GA,↓GB,GX,simprocAttr,hnt,hT,hk1])|(refine and_mk ?_ ?_;(focus first | decide | omega | rfl | assumption | (simp only [LBs];omega) | (simp;done)))|(refine And.intro ?_ ?_))
    all_goals (try refine Done.mk ?_)
    all_goals ((refine hN0 _ _ ⟨[],_,_,?_,?_,?_,⟨rfl,rfl⟩⟩;(focus exact LeR.of rfl trivial (by simp only [GA,↓GB,GX,simprocAttr,GDs]) (by decide) rfl rfl rfl);rotate_left;(focus rfl));rfl)
theorem lastP_out (P : NW.Fld → Prop) (num kind : Nat) : ∀ (l : List NW.Fld) (out : NW.Fld),P out → (∀ f ∈ l,P f) → P (lastP num kind l out).1
  | [],out,h,_ => h
  | f :: l,out,h,hl => by
    unfold lastP
    split
    · split
      · exact lastP_out P num kind l f (hl f (by simp)) fun g hg => hl g (by simp [hg])
      · exact h
    · exact lastP_out P num kind l out h fun g hg => hl g (by simp [hg])
def pingP (s : List UInt8) : Option Nat := match fldR s 3 with
  | none => none
  | some l => if (lastP 1 0 l zF).2 = true then some (lastP 1 0 l zF).1.n else none
theorem takeP_lastP : ∀ (l : List NW.Fld) (out : NW.Fld),takeP l out.n = ((lastP 1 0 l out).1.n,(lastP 1 0 l out).2)
  | [],out => rfl
  | f :: l,out => by
    unfold takeP lastP
    by_cases h1 : f.num = 1
    · rw [if_pos h1,if_pos h1]
      by_cases h2 : f.kind = 0
      · rw [if_pos h2,if_pos h2];exact takeP_lastP l f
      · rw [if_neg h2,if_neg h2]
    · rw [if_neg h1,if_neg h1];exact takeP_lastP l out
theorem pingR_pingP (s : List UInt8) : pingR s = pingP s := by
  unfold pingR pingP fldR
  by_cases hk : kindL s = 3
  · rw [if_pos hk,if_pos hk]
    unfold takeR
    cases NW.parse (s.drop 1) with
    | none => simp
    | some l =>
      have h := takeP_lastP l zF
      have h : takeP l 0 = _ := h
      simp only [h]
  · rw [if_neg hk,if_neg hk]
theorem rGetPing_ctr (s : List UInt8) (hs : s.length ≤ 1099511627776) : Ctr Tryz.prog [] 28 [] [vv (.string (B s))] (fun os v => os = [] ∧ v = .tup [.c (.v (.int .u64 ((pingR s).getD 0 : Nat))),.c (.v (.bool (pingR s).isSome))]) := by
  have hf := rFields_ctr s hs 3 (by decide)
  rw [pingR_pingP]
  unfold pingP
  cases hl : fldR s 3 with
  | none =>
    rw [hl] at hf
    simp only [rparsedO,rparsedV] at hf
    have l1 := last_nil 1 0
    refine Ctr.less ?_
    intro X0 hP0 hG0 N0 hN0
    refine CallVC.inline (f := 28) (by rw [hP0];exact Tryz.func28) rfl Tryz.ntmps28 rfl (by simp) ?_
    intro X K hU hnt hbl hK
    have hP : X.P = Tryz.prog := hU.P.trans hP0
    have hG := hG0.under hU
    have hT := Ty.T28 hP
    simp only [GA,↓GB,GX,simprocAttr] at hbl ⊢
    repeat' (first|(refine SX.seqK ?_;intro N hN)|((first | (refine SX.ops ?_));simp only [GA,↓GB,GX,simprocAttr,hnt,hT])|((first | refine SX.skip ?_ | refine SX.exit ?_ | refine SX.label ?_ | refine SX.ret ?_);try simp only [GA,↓GB,GX,simprocAttr])|(refine hN _ ?_;clear hN N)|((first | refine hK _ _ (FinI.ret3 ?_) | refine hK _ _ (FinI.nrm3 ?_));simp only [GA,↓GB,GX,simprocAttr,finP_s,hnt,hT];refine Done.out ?_)|((first | refine SX.cond rfl (fun hb => ?_) (fun hb => ?_) | (refine bif2.mk (fun hb => ?_) (fun hb => ?_) <;> (try simp only [hb,GA,↓GB,GX,simprocAttr,hnt,hT]))) <;> ((first | cases hb | (simp only [HBs] at hb) | skip) <;> (first | (exfalso;omega) | skip)))|((first | (refine Ctr.use (hf) hP hG [] ?_ rfl rfl ?_;(focus (refine LeR.of rfl trivial ?_ ?_ ?_ ?_ ?_ <;> first | decide | (simp only [GA,↓GB,GX,simprocAttr,GDs];done)));intro os' s hR;obtain ⟨rfl,rfl⟩ := hR) | (refine Ctr.use (l1) hP hG [] ?_ rfl rfl ?_;(focus (refine LeR.of rfl trivial ?_ ?_ ?_ ?_ ?_ <;> first | decide | (simp only [GA,↓GB,GX,simprocAttr,GDs];done)));intro os' s hR;obtain ⟨rfl,rfl⟩ := hR));simp only [GA,↓GB,GX,simprocAttr,hnt,hT])|(refine and_mk ?_ ?_;(focus first | decide | omega | rfl | assumption | (simp only [LBs];omega) | (simp;done)))|(refine And.intro ?_ ?_))
    all_goals (try refine Done.mk ?_)
    all_goals ((refine hN0 _ _ ⟨[],_,_,?_,?_,?_,⟨rfl,rfl⟩⟩;(focus exact LeR.of rfl trivial (by simp only [GA,↓GB,GX,simprocAttr,GDs]) (by decide) rfl rfl rfl);rotate_left;(focus rfl));rfl)
  | some l =>
    rw [hl] at hf
    simp only [rparsedO,rparsedV] at hf
    have hll : l.length ≤ 1099511627776 := by
      unfold fldR at hl
      split at hl
      · have := parse_len hl;rw [List.length_drop] at this;omega
      · cases hl
    have l1 := last_ctr l hll 1 0
    dsimp only
    generalize lastP 1 0 l zF = p1 at *
    obtain ⟨⟨m1,k1,a1,b1⟩,o1⟩ := p1
    simp only [fldV] at l1 ⊢
    refine Ctr.less ?_
    cases o1 with
    | true =>
      intro X0 hP0 hG0 N0 hN0
      refine CallVC.inline (f := 28) (by rw [hP0];exact Tryz.func28) rfl Tryz.ntmps28 rfl (by simp) ?_
      intro X K hU hnt hbl hK
      have hP : X.P = Tryz.prog := hU.P.trans hP0
      have hG := hG0.under hU
      have hT := Ty.T28 hP
      simp only [GA,↓GB,GX,simprocAttr] at hbl ⊢
      repeat' (first|(refine SX.seqK ?_;intro N hN)|((first | (refine SX.ops ?_));simp only [GA,↓GB,GX,simprocAttr,hnt,hT])|((first | refine SX.skip ?_ | refine SX.exit ?_ | refine SX.label ?_ | refine SX.ret ?_);try simp only [GA,↓GB,GX,simprocAttr])|(refine hN _ ?_;clear hN N)|((first | refine hK _ _ (FinI.ret3 ?_) | refine hK _ _ (FinI.nrm3 ?_));simp only [GA,↓GB,GX,simprocAttr,finP_s,hnt,hT];refine Done.out ?_)|((first | refine SX.cond rfl (fun hb => ?_) (fun hb => ?_) | (refine bif2.mk (fun hb => ?_) (fun hb => ?_) <;> (try simp only [hb,GA,↓GB,GX,simprocAttr,hnt,hT]))) <;> ((first | cases hb | (simp only [HBs] at hb) | skip) <;> (first | (exfalso;omega) | skip)))|((first | (refine Ctr.use (hf) hP hG [] ?_ rfl rfl ?_;(focus (refine LeR.of rfl trivial ?_ ?_ ?_ ?_ ?_ <;> first | decide | (simp only [GA,↓GB,GX,simprocAttr,GDs];done)));intro os' s hR;obtain ⟨rfl,rfl⟩ := hR) | (refine Ctr.use (l1) hP ?_ [0] ?_ rfl rfl ?_;(focus (intro p hp;cases hp));(focus (refine LeR.of rfl trivial ?_ ?_ ?_ ?_ ?_ <;> first | decide | (simp only [GA,↓GB,GX,simprocAttr,GDs];done)));intro os' s hR;obtain ⟨rfl,rfl⟩ := hR));simp only [GA,↓GB,GX,simprocAttr,hnt,hT])|(refine and_mk ?_ ?_;(focus first | decide | omega | rfl | assumption | (simp only [LBs];omega) | (simp;done)))|(refine And.intro ?_ ?_))
      all_goals (try refine Done.mk ?_)
      all_goals ((refine hN0 _ _ ⟨[],_,_,?_,?_,?_,⟨rfl,rfl⟩⟩;(focus exact LeR.of rfl trivial (by simp only [GA,↓GB,GX,simprocAttr,GDs]) (by decide) rfl rfl rfl);rotate_left;(focus rfl));rfl)
    | false =>
      intro X0 hP0 hG0 N0 hN0
      refine CallVC.inline (f := 28) (by rw [hP0];exact Tryz.func28) rfl Tryz.ntmps28 rfl (by simp) ?_
      intro X K hU hnt hbl hK
      have hP : X.P = Tryz.prog := hU.P.trans hP0
      have hG := hG0.under hU
      have hT := Ty.T28 hP
      simp only [GA,↓GB,GX,simprocAttr] at hbl ⊢
      repeat' (first|(refine SX.seqK ?_;intro N hN)|((first | (refine SX.ops ?_));simp only [GA,↓GB,GX,simprocAttr,hnt,hT])|((first | refine SX.skip ?_ | refine SX.exit ?_ | refine SX.label ?_ | refine SX.ret ?_);try simp only [GA,↓GB,GX,simprocAttr])|(refine hN _ ?_;clear hN N)|((first | refine hK _ _ (FinI.ret3 ?_) | refine hK _ _ (FinI.nrm3 ?_));simp only [GA,↓GB,GX,simprocAttr,finP_s,hnt,hT];refine Done.out ?_)|((first | refine SX.cond rfl (fun hb => ?_) (fun hb => ?_) | (refine bif2.mk (fun hb => ?_) (fun hb => ?_) <;> (try simp only [hb,GA,↓GB,GX,simprocAttr,hnt,hT]))) <;> ((first | cases hb | (simp only [HBs] at hb) | skip) <;> (first | (exfalso;omega) | skip)))|((first | (refine Ctr.use (hf) hP hG [] ?_ rfl rfl ?_;(focus (refine LeR.of rfl trivial ?_ ?_ ?_ ?_ ?_ <;> first | decide | (simp only [GA,↓GB,GX,simprocAttr,GDs];done)));intro os' s hR;obtain ⟨rfl,rfl⟩ := hR) | (refine Ctr.use (l1) hP ?_ [0] ?_ rfl rfl ?_;(focus (intro p hp;cases hp));(focus (refine LeR.of rfl trivial ?_ ?_ ?_ ?_ ?_ <;> first | decide | (simp only [GA,↓GB,GX,simprocAttr,GDs];done)));intro os' s hR;obtain ⟨rfl,rfl⟩ := hR));simp only [GA,↓GB,GX,simprocAttr,hnt,hT])|(refine and_mk ?_ ?_;(focus first | decide | omega | rfl | assumption | (simp only [LBs];omega) | (simp;done)))|(refine And.intro ?_ ?_))
      all_goals (try refine Done.mk ?_)
      all_goals ((refine hN0 _ _ ⟨[],_,_,?_,?_,?_,⟨rfl,rfl⟩⟩;(focus exact LeR.of rfl trivial (by simp only [GA,↓GB,GX,simprocAttr,GDs]) (by decide) rfl rfl rfl);rotate_left;(focus rfl));rfl)
theorem rRightS_any (t : Int) (s : List UInt8) (q : Nat) (ok : Bool) (d : List UInt8) (hs : s.length ≤ 9223372036854775807) (w : World) : Calls Tryz.prog 70 #[.agg #[.int .i64 t,.string (B s),.int .u64 q,.bool ok,.string (B d)]] w fun e w' => e = .returned (.bool (statusB t s q ok d)) ∧ Below w.heap.size w w' := rRight_any t s q ok d hs w
theorem fldR_bd {s : List UInt8} {k : Nat} {l : List NW.Fld} (hl : fldR s k = some l) : l.length ≤ s.length ∧ ∀ f ∈ l,f.s.length ≤ s.length := by
  unfold fldR at hl
  split at hl
  · have h1 := parse_len hl
    have h2 := parse_slen hl
    rw [List.length_drop] at h1 h2
    exact ⟨by omega,fun f hf => by have := h2 f hf;omega⟩
  · cases hl
theorem rGetStatus_ctr (s : List UInt8) (hs : s.length ≤ 1099511627776) : Ctr Tryz.prog [] 26 [] [vv (.string (B s))] (fun os v => os = [] ∧ v = statV (statR s)) := by
  have hf := rFields_ctr s hs 4 (by decide)
  have hst : statR s = match fldR s 4 with
      | none => none
      | some l => if okP l = true ∧ statusB ((stP l).kind : Int) (stP l).name (stP l).seq (((stP l).fine : Int) == 1) (stP l).det = true then some (stP l) else none := by
    rw [statR_statP];unfold statP fldR
    by_cases hk : kindL s = 4
    · rw [if_pos hk,if_pos hk] <;> cases NW.parse (s.drop 1) <;> rfl
    · rw [if_neg hk,if_neg hk]
  rw [hst]
  cases hl : fldR s 4 with
  | none =>
    rw [hl] at hf
    simp only [rparsedO,rparsedV] at hf
    have l1 := last_nil 1 0
    have l2 := last_nil 2 2
    have l3 := last_nil 3 0
    have l4 := last_nil 4 0
    have l5 := last_nil 5 2
    refine Ctr.less ?_
    intro X0 hP0 hG0 N0 hN0
    refine CallVC.inline (f := 26) (by rw [hP0];exact Tryz.func26) rfl Tryz.ntmps26 rfl (by simp) ?_
    intro X K hU hnt hbl hK
    have hP : X.P = Tryz.prog := hU.P.trans hP0
    have hG := hG0.under hU
    have hT := Ty.T26 hP
    simp only [GA,↓GB,GX,simprocAttr] at hbl ⊢
    repeat' (first|(refine SX.seqK ?_;intro N hN)|((first | (refine SX.ops ?_));simp only [GA,↓GB,GX,simprocAttr,hnt,hT])|((first | refine SX.skip ?_ | refine SX.exit ?_ | refine SX.label ?_ | refine SX.ret ?_);try simp only [GA,↓GB,GX,simprocAttr])|(refine hN _ ?_;clear hN N)|((first | refine hK _ _ (FinI.ret3 ?_) | refine hK _ _ (FinI.nrm3 ?_));simp only [GA,↓GB,GX,simprocAttr,finP_s,hnt,hT];refine Done.out ?_)|((first | refine SX.cond rfl (fun hb => ?_) (fun hb => ?_) | (refine bif2.mk (fun hb => ?_) (fun hb => ?_) <;> (try simp only [hb,GA,↓GB,GX,simprocAttr,hnt,hT]))) <;> ((first | cases hb | (simp only [HBs] at hb) | skip) <;> (first | (exfalso;omega) | skip)))|((first | (refine Ctr.use (hf) hP hG [] ?_ rfl rfl ?_;(focus (refine LeR.of rfl trivial ?_ ?_ ?_ ?_ ?_ <;> first | decide | (simp only [GA,↓GB,GX,simprocAttr,GDs];done)));intro os' s hR;obtain ⟨rfl,rfl⟩ := hR) | (refine Ctr.use (l1) hP hG [] ?_ rfl rfl ?_;(focus (refine LeR.of rfl trivial ?_ ?_ ?_ ?_ ?_ <;> first | decide | (simp only [GA,↓GB,GX,simprocAttr,GDs];done)));intro os' s hR;obtain ⟨rfl,rfl⟩ := hR) | (refine Ctr.use (l2) hP hG [] ?_ rfl rfl ?_;(focus (refine LeR.of rfl trivial ?_ ?_ ?_ ?_ ?_ <;> first | decide | (simp only [GA,↓GB,GX,simprocAttr,GDs];done)));intro os' s hR;obtain ⟨rfl,rfl⟩ := hR) | (refine Ctr.use (l3) hP hG [] ?_ rfl rfl ?_;(focus (refine LeR.of rfl trivial ?_ ?_ ?_ ?_ ?_ <;> first | decide | (simp only [GA,↓GB,GX,simprocAttr,GDs];done)));intro os' s hR;obtain ⟨rfl,rfl⟩ := hR) | (refine Ctr.use (l4) hP hG [] ?_ rfl rfl ?_;(focus (refine LeR.of rfl trivial ?_ ?_ ?_ ?_ ?_ <;> first | decide | (simp only [GA,↓GB,GX,simprocAttr,GDs];done)));intro os' s hR;obtain ⟨rfl,rfl⟩ := hR) | (refine Ctr.use (l5) hP hG [] ?_ rfl rfl ?_;(focus (refine LeR.of rfl trivial ?_ ?_ ?_ ?_ ?_ <;> first | decide | (simp only [GA,↓GB,GX,simprocAttr,GDs];done)));intro os' s hR;obtain ⟨rfl,rfl⟩ := hR));simp only [GA,↓GB,GX,simprocAttr,hnt,hT])|(refine and_mk ?_ ?_;(focus first | decide | omega | rfl | assumption | (simp only [LBs];omega) | (simp;done)))|(refine And.intro ?_ ?_))
    all_goals (try refine Done.mk ?_)
    all_goals ((refine hN0 _ _ ⟨[],_,_,?_,?_,?_,⟨rfl,rfl⟩⟩;(focus exact LeR.of rfl trivial (by simp only [GA,↓GB,GX,simprocAttr,GDs]) (by decide) rfl rfl rfl);rotate_left;(focus rfl));rfl)
  | some l =>
    rw [hl] at hf
    simp only [rparsedO,rparsedV] at hf
    obtain ⟨g1,g2⟩ := fldR_bd hl
    have hll : l.length ≤ 1099511627776 := Nat.le_trans g1 hs
    have l1 := last_ctr l hll 1 0
    have l2 := last_ctr l hll 2 2
    have l3 := last_ctr l hll 3 0
    have l4 := last_ctr l hll 4 0
    have l5 := last_ctr l hll 5 2
    have hn2 : (lastP 2 2 l zF).1.s.length ≤ s.length := lastP_out (fun f => f.s.length ≤ s.length) 2 2 l zF (Nat.zero_le _) g2
    have hr := rRightS_any ((stP l).kind : Int) (stP l).name (stP l).seq (((stP l).fine : Int) == 1) (stP l).det (by show (lastP 2 2 l zF).1.s.length ≤ _;omega)
    dsimp only
    unfold stP at hr ⊢
    unfold okP
    generalize lastP 1 0 l zF = p1 at *
    generalize lastP 2 2 l zF = p2 at *
    generalize lastP 3 0 l zF = p3 at *
    generalize lastP 4 0 l zF = p4 at *
    generalize lastP 5 2 l zF = p5 at *
    obtain ⟨⟨m1,k1,a1,b1⟩,o1⟩ := p1
    obtain ⟨⟨m2,k2,a2,b2⟩,o2⟩ := p2
    obtain ⟨⟨m3,k3,a3,b3⟩,o3⟩ := p3
    obtain ⟨⟨m4,k4,a4,b4⟩,o4⟩ := p4
    obtain ⟨⟨m5,k5,a5,b5⟩,o5⟩ := p5
    simp only [fldV] at l1 l2 l3 l4 l5 hr hn2 ⊢
    refine Ctr.less ?_
    by_cases ho : (o1 && o2 && o3 && o4 && o5 && decide (a4 ≤ 1) && decide (a1 ≤ 5)) = true
    · simp only [Bool.and_eq_true,decide_eq_true_eq] at ho
      obtain ⟨⟨⟨⟨⟨⟨rfl,rfl⟩,rfl⟩,rfl⟩,rfl⟩,h4⟩,h1⟩ := ho
      have d4 : decide ((1 : Int) < (a4 : Int)) = false := by simp;omega
      have d1 : decide ((5 : Int) < (a1 : Int)) = false := by simp;omega
      have hw : IntKind.i64.wrap (a1 : Int) = (a1 : Int) := wI64 (by omega) (by omega)
      have hm6 : ((min a1 6 : Nat) : Int) = (a1 : Int) := by omega
      by_cases hR : statusB (a1 : Int) b2 a3 ((a4 : Int) == 1) b5 = true
      · rw [if_pos ⟨by simp [h4,h1],hR⟩]
        simp only [hR] at hr
        simp only [statV,hm6]
        intro X0 hP0 hG0 N0 hN0
        refine CallVC.inline (f := 26) (by rw [hP0];exact Tryz.func26) rfl Tryz.ntmps26 rfl (by simp) ?_
        intro X K hU hnt hbl hK
        have hP : X.P = Tryz.prog := hU.P.trans hP0
        have hG := hG0.under hU
        have hT := Ty.T26 hP
        simp only [GA,↓GB,GX,simprocAttr] at hbl ⊢
        repeat' (first|(refine SX.seqK ?_;intro N hN)|((first | (refine SX.ops ?_));simp only [GA,↓GB,GX,simprocAttr,hnt,hT,d4,d1,hw])|((first | refine SX.skip ?_ | refine SX.exit ?_ | refine SX.label ?_ | refine SX.ret ?_);try simp only [GA,↓GB,GX,simprocAttr])|(refine hN _ ?_;clear hN N)|((first | refine hK _ _ (FinI.ret3 ?_) | refine hK _ _ (FinI.nrm3 ?_));simp only [GA,↓GB,GX,simprocAttr,finP_s,hnt,hT,d4,d1,hw];refine Done.out ?_)|((first | refine SX.cond rfl (fun hb => ?_) (fun hb => ?_) | (refine bif2.mk (fun hb => ?_) (fun hb => ?_) <;> (try simp only [hb,GA,↓GB,GX,simprocAttr,hnt,hT,d4,d1,hw]))) <;> ((first | cases hb | (simp only [HBs] at hb) | skip) <;> (first | (exfalso;omega) | skip)))|((first | (refine Ctr.use (hf) hP hG [] ?_ rfl rfl ?_;(focus (refine LeR.of rfl trivial ?_ ?_ ?_ ?_ ?_ <;> first | decide | (simp only [GA,↓GB,GX,simprocAttr,GDs];done)));intro os' s hR;obtain ⟨rfl,rfl⟩ := hR) | (refine Ctr.use (l1) hP ?_ [1] ?_ rfl rfl ?_;(focus (intro p hp;cases hp));(focus (refine LeR.of rfl trivial ?_ ?_ ?_ ?_ ?_ <;> first | decide | (simp only [GA,↓GB,GX,simprocAttr,GDs];done)));intro os' s hR;obtain ⟨rfl,rfl⟩ := hR) | (refine Ctr.use (l2) hP ?_ [1] ?_ rfl rfl ?_;(focus (intro p hp;cases hp));(focus (refine LeR.of rfl trivial ?_ ?_ ?_ ?_ ?_ <;> first | decide | (simp only [GA,↓GB,GX,simprocAttr,GDs];done)));intro os' s hR;obtain ⟨rfl,rfl⟩ := hR) | (refine Ctr.use (l3) hP ?_ [1] ?_ rfl rfl ?_;(focus (intro p hp;cases hp));(focus (refine LeR.of rfl trivial ?_ ?_ ?_ ?_ ?_ <;> first | decide | (simp only [GA,↓GB,GX,simprocAttr,GDs];done)));intro os' s hR;obtain ⟨rfl,rfl⟩ := hR) | (refine Ctr.use (l4) hP ?_ [1] ?_ rfl rfl ?_;(focus (intro p hp;cases hp));(focus (refine LeR.of rfl trivial ?_ ?_ ?_ ?_ ?_ <;> first | decide | (simp only [GA,↓GB,GX,simprocAttr,GDs];done)));intro os' s hR;obtain ⟨rfl,rfl⟩ := hR) | (refine Ctr.use (l5) hP ?_ [1] ?_ rfl rfl ?_;(focus (intro p hp;cases hp));(focus (refine LeR.of rfl trivial ?_ ?_ ?_ ?_ ?_ <;> first | decide | (simp only [GA,↓GB,GX,simprocAttr,GDs];done)));intro os' s hR;obtain ⟨rfl,rfl⟩ := hR) | (refine CallVC.pv hP (hr) rfl ?_) | (refine CallQ.pv hP (hr) rfl ?_));simp only [GA,↓GB,GX,simprocAttr,hnt,hT,d4,d1,hw])|(refine and_mk ?_ ?_;(focus first | decide | omega | rfl | assumption | (simp only [LBs];omega) | (simp;done)))|(refine And.intro ?_ ?_))
        all_goals (try refine Done.mk ?_)
        all_goals ((refine hN0 _ _ ⟨[],_,_,?_,?_,?_,⟨rfl,rfl⟩⟩;(focus exact LeR.of rfl trivial (by simp only [GA,↓GB,GX,simprocAttr,GDs]) (by decide) rfl rfl rfl);rotate_left;(focus rfl));rfl)
      · have hR : statusB (a1 : Int) b2 a3 ((a4 : Int) == 1) b5 = false := by simpa using hR
        rw [if_neg (fun h => by have := h.2.symm.trans hR;cases this)]
        simp only [hR] at hr
        intro X0 hP0 hG0 N0 hN0
        refine CallVC.inline (f := 26) (by rw [hP0];exact Tryz.func26) rfl Tryz.ntmps26 rfl (by simp) ?_
        intro X K hU hnt hbl hK
        have hP : X.P = Tryz.prog := hU.P.trans hP0
        have hG := hG0.under hU
        have hT := Ty.T26 hP
        simp only [GA,↓GB,GX,simprocAttr] at hbl ⊢
        repeat' (first|(refine SX.seqK ?_;intro N hN)|((first | (refine SX.ops ?_));simp only [GA,↓GB,GX,simprocAttr,hnt,hT,d4,d1,hw])|((first | refine SX.skip ?_ | refine SX.exit ?_ | refine SX.label ?_ | refine SX.ret ?_);try simp only [GA,↓GB,GX,simprocAttr])|(refine hN _ ?_;clear hN N)|((first | refine hK _ _ (FinI.ret3 ?_) | refine hK _ _ (FinI.nrm3 ?_));simp only [GA,↓GB,GX,simprocAttr,finP_s,hnt,hT,d4,d1,hw];refine Done.out ?_)|((first | refine SX.cond rfl (fun hb => ?_) (fun hb => ?_) | (refine bif2.mk (fun hb => ?_) (fun hb => ?_) <;> (try simp only [hb,GA,↓GB,GX,simprocAttr,hnt,hT,d4,d1,hw]))) <;> ((first | cases hb | (simp only [HBs] at hb) | skip) <;> (first | (exfalso;omega) | skip)))|((first | (refine Ctr.use (hf) hP hG [] ?_ rfl rfl ?_;(focus (refine LeR.of rfl trivial ?_ ?_ ?_ ?_ ?_ <;> first | decide | (simp only [GA,↓GB,GX,simprocAttr,GDs];done)));intro os' s hR;obtain ⟨rfl,rfl⟩ := hR) | (refine Ctr.use (l1) hP ?_ [1] ?_ rfl rfl ?_;(focus (intro p hp;cases hp));(focus (refine LeR.of rfl trivial ?_ ?_ ?_ ?_ ?_ <;> first | decide | (simp only [GA,↓GB,GX,simprocAttr,GDs];done)));intro os' s hR;obtain ⟨rfl,rfl⟩ := hR) | (refine Ctr.use (l2) hP ?_ [1] ?_ rfl rfl ?_;(focus (intro p hp;cases hp));(focus (refine LeR.of rfl trivial ?_ ?_ ?_ ?_ ?_ <;> first | decide | (simp only [GA,↓GB,GX,simprocAttr,GDs];done)));intro os' s hR;obtain ⟨rfl,rfl⟩ := hR) | (refine Ctr.use (l3) hP ?_ [1] ?_ rfl rfl ?_;(focus (intro p hp;cases hp));(focus (refine LeR.of rfl trivial ?_ ?_ ?_ ?_ ?_ <;> first | decide | (simp only [GA,↓GB,GX,simprocAttr,GDs];done)));intro os' s hR;obtain ⟨rfl,rfl⟩ := hR) | (refine Ctr.use (l4) hP ?_ [1] ?_ rfl rfl ?_;(focus (intro p hp;cases hp));(focus (refine LeR.of rfl trivial ?_ ?_ ?_ ?_ ?_ <;> first | decide | (simp only [GA,↓GB,GX,simprocAttr,GDs];done)));intro os' s hR;obtain ⟨rfl,rfl⟩ := hR) | (refine Ctr.use (l5) hP ?_ [1] ?_ rfl rfl ?_;(focus (intro p hp;cases hp));(focus (refine LeR.of rfl trivial ?_ ?_ ?_ ?_ ?_ <;> first | decide | (simp only [GA,↓GB,GX,simprocAttr,GDs];done)));intro os' s hR;obtain ⟨rfl,rfl⟩ := hR) | (refine CallVC.pv hP (hr) rfl ?_) | (refine CallQ.pv hP (hr) rfl ?_));simp only [GA,↓GB,GX,simprocAttr,hnt,hT,d4,d1,hw])|(refine and_mk ?_ ?_;(focus first | decide | omega | rfl | assumption | (simp only [LBs];omega) | (simp;done)))|(refine And.intro ?_ ?_))
        all_goals (try refine Done.mk ?_)
        all_goals ((refine hN0 _ _ ⟨[],_,_,?_,?_,?_,⟨rfl,rfl⟩⟩;(focus exact LeR.of rfl trivial (by simp only [GA,↓GB,GX,simprocAttr,GDs]) (by decide) rfl rfl rfl);rotate_left;(focus rfl));rfl)
    · rw [if_neg (fun h => ho h.1)]
      intro X0 hP0 hG0 N0 hN0
      refine CallVC.inline (f := 26) (by rw [hP0];exact Tryz.func26) rfl Tryz.ntmps26 rfl (by simp) ?_
      intro X K hU hnt hbl hK
      have hP : X.P = Tryz.prog := hU.P.trans hP0
      have hG := hG0.under hU
      have hT := Ty.T26 hP
      simp only [GA,↓GB,GX,simprocAttr] at hbl ⊢
      repeat' (first|(refine SX.seqK ?_;intro N hN)|((first | (refine SX.ops ?_));simp only [GA,↓GB,GX,simprocAttr,hnt,hT])|((first | refine SX.skip ?_ | refine SX.exit ?_ | refine SX.label ?_ | refine SX.ret ?_);try simp only [GA,↓GB,GX,simprocAttr])|(refine hN _ ?_;clear hN N)|((first | refine hK _ _ (FinI.ret3 ?_) | refine hK _ _ (FinI.nrm3 ?_));simp only [GA,↓GB,GX,simprocAttr,finP_s,hnt,hT];refine Done.out ?_)|((first | refine SX.cond rfl (fun hb => ?_) (fun hb => ?_) | (refine bif2.mk (fun hb => ?_) (fun hb => ?_) <;> (try simp only [hb,GA,↓GB,GX,simprocAttr,hnt,hT]))) <;> ((first | cases hb | (simp only [HBs] at hb) | skip) <;> (first | (exfalso;omega) | skip)))|((first | (refine Ctr.use (hf) hP hG [] ?_ rfl rfl ?_;(focus (refine LeR.of rfl trivial ?_ ?_ ?_ ?_ ?_ <;> first | decide | (simp only [GA,↓GB,GX,simprocAttr,GDs];done)));intro os' s hR;obtain ⟨rfl,rfl⟩ := hR) | (refine Ctr.use (l1) hP ?_ [1] ?_ rfl rfl ?_;(focus (intro p hp;cases hp));(focus (refine LeR.of rfl trivial ?_ ?_ ?_ ?_ ?_ <;> first | decide | (simp only [GA,↓GB,GX,simprocAttr,GDs];done)));intro os' s hR;obtain ⟨rfl,rfl⟩ := hR) | (refine Ctr.use (l2) hP ?_ [1] ?_ rfl rfl ?_;(focus (intro p hp;cases hp));(focus (refine LeR.of rfl trivial ?_ ?_ ?_ ?_ ?_ <;> first | decide | (simp only [GA,↓GB,GX,simprocAttr,GDs];done)));intro os' s hR;obtain ⟨rfl,rfl⟩ := hR) | (refine Ctr.use (l3) hP ?_ [1] ?_ rfl rfl ?_;(focus (intro p hp;cases hp));(focus (refine LeR.of rfl trivial ?_ ?_ ?_ ?_ ?_ <;> first | decide | (simp only [GA,↓GB,GX,simprocAttr,GDs];done)));intro os' s hR;obtain ⟨rfl,rfl⟩ := hR) | (refine Ctr.use (l4) hP ?_ [1] ?_ rfl rfl ?_;(focus (intro p hp;cases hp));(focus (refine LeR.of rfl trivial ?_ ?_ ?_ ?_ ?_ <;> first | decide | (simp only [GA,↓GB,GX,simprocAttr,GDs];done)));intro os' s hR;obtain ⟨rfl,rfl⟩ := hR) | (refine Ctr.use (l5) hP ?_ [1] ?_ rfl rfl ?_;(focus (intro p hp;cases hp));(focus (refine LeR.of rfl trivial ?_ ?_ ?_ ?_ ?_ <;> first | decide | (simp only [GA,↓GB,GX,simprocAttr,GDs];done)));intro os' s hR;obtain ⟨rfl,rfl⟩ := hR));simp only [GA,↓GB,GX,simprocAttr,hnt,hT])|(refine and_mk ?_ ?_;(focus first | decide | omega | rfl | assumption | (simp only [LBs];omega) | (simp;done)))|(refine And.intro ?_ ?_))
      all_goals (try refine Done.mk ?_)
      all_goals first | ((refine hN0 _ _ ⟨[],_,_,?_,?_,?_,⟨rfl,rfl⟩⟩;(focus exact LeR.of rfl trivial (by simp only [GA,↓GB,GX,simprocAttr,GDs]) (by decide) rfl rfl rfl);rotate_left;(focus rfl));rfl) | skip
      · exfalso
        apply ho
        simp_all
        omega
end Go.Proofs.YtbdacbcpniegiaaGreatDoor.Q
namespace Go.Sx
open Go Go.RowKit
def MarkH (e : TypeId) (l : List UInt8) (v : Value) (fp : List Nat) (w : World) : Prop :=
  ∃ g cap cur,v = .slice (some ⟨g,0,none⟩) l.length cap ∧ fp = [g] ∧ w.heap[g]? = some (.cells cur e (cur.size,cur.size + 1)) ∧ l.length ≤ cur.size ∧ cur.toList.take l.length = bcells l
theorem MarkH.local {e : TypeId} {l : List UInt8} : Local (MarkH e l) := fun v fp w w' _ hk ⟨g,cap,cur,h1,h2,h3,h4⟩ => ⟨g,cap,cur,h1,h2,by rw [hk g (by simp [h2])];exact h3,h4⟩
@[reducible] def markB (e : TypeId) (l : List UInt8) : LO := .ext (MarkH e l)
section
variable {X : Ctx} {c : Cfg} {N : Cfg → Prop} {d : Option Tmp} {ty : TypeId} {pos : String} {af : Array Edge} {g : Option (Nat × Bool)}
theorem VO.bytesOf {src dst e : TypeId} {x : Operand} (s : List UInt8) (hx : c.ev x = vv (.string (B s))) (hs : X.P.underlying src = some .string) (hd : X.P.underlying dst = some (.slice e)) (he : X.P.underlying e = some (.int .u8))
    (h : nxt X d N { c with loc := c.loc ++ [markB e s] } (.one (.c (.row c.loc.length)))) : VO X ⟨d,.convert src dst x,ty,pos,af,g⟩ c N :=
  .of_value fun ρ σ a w hr => by
    have e1 := hr.ev x
    rw [hx] at e1
    have e1 : a.eval x = .string (B s) := e1
    have hrun := run_bytes_of_string (P := X.P) w src dst e (B s) hs hd he
    have hge := grownCap_ge w (B s).size 0 e
    have hbs : (B s).size = s.length := rfl
    generalize hk : grownCap w (B s).size 0 e = cap at hrun hge
    have hc : (bytesRow (B s) cap).toList = bcells s ++ List.replicate (cap - s.length) (.int .u8 0) := by simp [bytesRow,bcells,B,ByteArray.size]
    have hR := hr.push (w' := w.drew.alloc (.cells (bytesRow (B s) cap) e ((bytesRow (B s) cap).size,(bytesRow (B s) cap).size + 1))) (o := markB e s) (fp := [w.heap.size]) (v := .slice (some ⟨w.heap.size,0,none⟩) s.length cap)
      ⟨rfl,rfl,rfl,by simp,fun q hq => Below.heap_alloc w.drew _ q hq⟩ (fun q hq => by simp at hq;subst hq;simp) (by simp)
      ⟨⟨w.heap.size,cap,bytesRow (B s) cap,rfl,rfl,by simp [World.alloc,World.drew,-World.alloc_eq,-World.drew_eq],by rw [← Array.length_toList,hc];simp [bcells],by rw [hc,List.take_left' (by simp [bcells])]⟩,MarkH.local⟩ rfl
    refine ⟨.slice (some ⟨w.heap.size,0,none⟩) s.length cap,_,_,_,_,.one (.c (.row c.loc.length)),?_,hR,?_,h.1,h.2⟩
    · simp only [execOp,e1,Sem.run_bind,hrun,Result.andThen,Sem.run_pure];rfl
    · show (σ ++ [_])[c.loc.length]? = _
      rw [← hr.lenS];simp
theorem Rel.mark {ρ : List (List Nat)} {σ : List Value} {a : Act} {w : World} (h : Rel X c ρ σ a w) {i : Nat} {e : TypeId} {l : List UInt8} {v : Value} (hi : c.loc[i]? = some (markB e l)) (hv : σ[i]? = some v) : ∃ fp,ρ[i]? = some fp ∧ MarkH e l v fp w := by
  obtain ⟨fp,hfp⟩ := h.locAt hi
  exact ⟨fp,hfp,(h.loc i _ fp _ hi hfp hv).1⟩
theorem PO.lenMark {t e e' : TypeId} {x : Operand} {i : Nat} {l : List UInt8} (hx : c.ev x = .one (.c (.row i))) (hi : c.loc[i]? = some (markB e l)) (ht : X.P.underlying t = some (.slice e')) :
    PO X ⟨d,.call { callee := .builtin .len,args := #[x],argTypes := #[t] },ty,pos,af,g⟩ c (vv (.int .i64 l.length)) := fun ρ σ a w hr => by
  have ex := hr.ev x
  rw [hx] at ex
  have ex : σ[i]? = some (a.eval x) := ex
  obtain ⟨fp,-,gg,cap,cur,e1,-⟩ := hr.mark hi ex
  exact ⟨.int .i64 l.length,by simp [execOp,e1,resolve,invoke,builtin,Builtin.len_,run_underlying ht,goInt],rfl⟩
theorem PO.indexMark {t e e' : TypeId} {x i : Operand} {r : Nat} {l : List UInt8} {k : IntKind} {j : Int} (hx : c.ev x = .one (.c (.row r))) (hr0 : c.loc[r]? = some (markB e' l)) (hi : c.ev i = vv (.int k j)) (ht : elemSz X.P t = some (e,1)) (h0 : 0 ≤ j) (h1 : j < l.length) :
    PO X ⟨d,.indexAddr t x i,ty,pos,af,g⟩ c (.one (.c (.ri r j.toNat))) := fun ρ σ a w hr => by
  have e1 := hr.ev x
  rw [hx] at e1
  have e1 : σ[r]? = some (a.eval x) := e1
  have e2 := hr.ev i
  rw [hi] at e2
  have e2 : a.eval i = .int k j := e2
  obtain ⟨fp,-,gg,cap,cur,e3,-⟩ := hr.mark hr0 e1
  unfold elemSz at ht
  split at ht
  · rename_i e' hu
    cases hz : szOf X.P e' with
    | none => simp [hz] at ht
    | some q =>
      simp [hz] at ht
      obtain ⟨rfl,rfl⟩ := ht
      refine ⟨.pointer (some ((⟨gg,0,none⟩ : Addr).add (j.toNat * 1))),by simp [execOp,e3,e2,Instr.indexAt,asIntOf,run_underlying hu,sizeOf_run hz,h0,h1,Result.andThen],⟨gg,0,none⟩,l.length,cap,?_,by rw [Nat.mul_one]⟩
      rw [e1,e3]
  · simp at ht
theorem PO.loadMark {t e : TypeId} {x : Operand} {r k : Nat} {l : List UInt8} (hx : c.ev x = .one (.c (.ri r k))) (hr0 : c.loc[r]? = some (markB e l)) (ht : aggOf X.P t = some false) (hk : k < l.length) :
    PO X ⟨d,.load t x,ty,pos,af,g⟩ c (vv (.int .u8 (l[k]).toNat)) := fun ρ σ a w hr => by
  have e1 := hr.ev x
  rw [hx] at e1
  obtain ⟨ad,n',m,hs,e1⟩ := e1
  obtain ⟨fp,-,gg,cap,cur,e3,-,hw,hl,htk⟩ := hr.mark hr0 hs
  cases e3
  have hcell : w.cell? ((⟨gg,0,none⟩ : Addr).add k) = some (.int .u8 (l[k]).toNat) := by
    rw [add_add]
    have h2 : (cur.toList.take l.length)[k]? = some (.int .u8 (l[k]).toNat) := by rw [htk];simp [bcells,hk]
    rw [List.getElem?_take_of_lt hk,Array.getElem?_toList] at h2
    simp [World.cell?,hw,h2]
  exact ⟨.int .u8 (l[k]).toNat,by simp [execOp,e1,Instr.loadAt,Instr.sureAddr,loadVar,isAgg_run ht,hcell],rfl⟩
theorem PO.markString {src dst e e' : TypeId} {x : Operand} {i : Nat} {l : List UInt8} (hx : c.ev x = .one (.c (.row i))) (hi : c.loc[i]? = some (markB e' l)) (hs : X.P.underlying src = some (.slice e)) (he : X.P.underlying e = some (.int .u8)) (hd : X.P.underlying dst = some .string) :
    PO X ⟨d,.convert src dst x,ty,pos,af,g⟩ c (vv (.string (B l))) := fun ρ σ a w hr => by
  have ex := hr.ev x
  rw [hx] at ex
  have ex : σ[i]? = some (a.eval x) := ex
  obtain ⟨fp,-,gg,cap,cur,e1,-,hw,hl,htk⟩ := hr.mark hi ex
  refine ⟨_,?_,rfl⟩
  simp only [execOp,e1,Sem.run_bind]
  rw [run_convert_bytes_back w src dst e ⟨gg,0,none⟩ cap l hs he hd (fun j hj => by
    rw [add_add]
    have h2 : (cur.toList.take l.length)[j]? = some (.int .u8 (l[j]).toNat) := by rw [htk];simp [bcells,hj]
    rw [List.getElem?_take_of_lt hj,Array.getElem?_toList] at h2
    simp [World.cell?,hw,h2])]
  rfl
theorem VO.storeMark {t e : TypeId} {x y : Operand} {i k : Nat} {l : List UInt8} {u : UInt8} (hx : c.ev x = .one (.c (.ri i k))) (hy : c.ev y = vv (.int .u8 u.toNat)) (hz : szOf X.P t = some 1) (hi : c.loc[i]? = some (markB e l)) (hk : k < l.length)
    (h : N { c with loc := c.loc.set i (markB e (l.set k u)) }) : VO X ⟨none,.store t x y,ty,pos,af,g⟩ c N :=
  .of_skip rfl fun ρ σ a w hr => by
    have e1 := hr.ev x
    rw [hx] at e1
    obtain ⟨ad,n',cap',hs,e1⟩ := e1
    have hv2 := hr.ev y
    rw [hy] at hv2
    have hv2 : a.eval y = .int .u8 u.toNat := hv2
    obtain ⟨fp,hfp,gg,cap,cur,e3,hfg,hw,hl,htk⟩ := hr.mark hi hs
    cases e3
    have hkc : k < cur.size := by omega
    have hadd : (⟨gg,0,none⟩ : Addr).add k = ⟨gg,k,none⟩ := by rw [add_add];simp
    have hcell : w.cell? ⟨gg,k,none⟩ = some cur[k] := by simp [World.cell?,hw,hkc]
    have hfro : w.frozen? ⟨gg,k,none⟩ = false := by simp [World.frozen?,hw];omega
    have hst : (Go.store ⟨gg,k,none⟩ (.int .u8 u.toNat)).run X.P w = .ok () (w.setRow gg (cur.setIfInBounds k (.int .u8 u.toNat))) := by
      rw [run_store X.P w _ _ _ rfl,hcell]
      simp [hfro,setCell_eq_setRow w gg k cur e (cur.size,cur.size + 1) (.int .u8 u.toNat) hw]
    have heq : w.setRow gg (cur.setIfInBounds k (.int .u8 u.toNat)) = { w with heap := w.heap.setIfInBounds gg (.cells (cur.setIfInBounds k (.int .u8 u.toNat)) e (cur.size,cur.size + 1)) } := by
      simp only [World.setRow]
      congr 1
      apply Array.ext'
      apply List.ext_getElem?
      intro j
      simp only [Array.getElem?_toList,Array.getElem?_modify]
      by_cases ej : gg = j
      · subst ej
        rw [if_pos rfl,hw,Array.getElem?_setIfInBounds_self_of_lt (Array.getElem?_eq_some_iff.1 hw).1]
        rfl
      · rw [if_neg ej,Array.getElem?_setIfInBounds_ne (by omega)]
    have hset := setRow_heap w gg cur (cur.setIfInBounds k (.int .u8 u.toNat)) _ _ hw
    rw [heq] at hst hset
    have hR := hr.setObj (b := gg) (o := markB e (l.set k u)) (.cells (cur.setIfInBounds k (.int .u8 u.toNat)) e (cur.size,cur.size + 1)) (List.getElem?_eq_some_iff.1 hi).1 hfp (by rw [hfg];simp) hs
      ⟨⟨gg,cap',cur.setIfInBounds k (.int .u8 u.toNat),by simp,hfg,by simpa using hset,by simpa using hl,by
        simp only [List.length_set,Array.toList_setIfInBounds,List.take_set,htk,bcells,List.map_set]⟩,MarkH.local⟩
    refine ⟨_,_,_,_,?_,hR,h⟩
    simp only [execOp,Instr.storeAt,Instr.sureAddr,e1,storeVar,Sem.run_bind,Sem.run_pure,Result.andThen,sizeOf_run hz,hv2,hadd]
    simp [storeCells,hadd,hst,Value.cells,Addr.add]
end
section
variable {X : Ctx}
theorem q_sound {ops : Array Oper} {A : Act → World → Prop} {is : List Nat} {r : List Pl} {c c1 : Cfg} {ss : List SV} {L : Array Bool} {f : Nat} (hQF : QF X ops is c ss c1) (hp : planOK ops (.q is none :: r) L = true) (hL : L.size = ops.size)
    (hnext : ∀ ρ' σ' a' w',Rel X c1 ρ' σ' a' w' → planOK ops r (setL L (is ++ alL none)) = true → wpAny X.P .any ops (QN A) (cntP r + f) (setL L (is ++ alL none)) a' w') :
    ∀ ρ σ a w,Rel X c ρ σ a w → wpAny X.P .any ops (QN A) (cntP (.q is none :: r) + f) L a w := fun ρ σ a w hr => by
  simp only [planOK,Bool.and_eq_true] at hp
  have hq := hp.1
  simp only [qOK,Bool.and_eq_true] at hq
  obtain ⟨⟨⟨hlo,hin⟩,hq1⟩,hq2⟩ := hq
  have hq0 : (inOK ops L [] (is ++ alL none) && dataOK ops (is ++ alL none) && outOK ops L (is ++ alL none)) = true := by rw [hin,hq1,hq2];rfl
  have hLun : ∀ i ∈ is ++ alL none,L.getD i true = false := fun i hi => by
    obtain ⟨k,hk⟩ := List.mem_iff_getElem?.1 hi
    exact (inOK_spec hin hk).1
  have hcl : ∀ j oj,ops[j]? = some oj → L.getD j false = true → ∀ e ∈ oj.after,Region.binds .any e = true → L.getD e.on false = true := fun j oj hj hl e he hbd => by
    have h1 := List.all_eq_true.1 hlo j (List.mem_range.2 (Array.getElem?_eq_some_iff.1 hj).1)
    simp only [hl,Bool.not_true,Bool.false_or,hj] at h1
    have h2 := Array.all_eq_true_iff_forall_mem.1 h1 e he
    simpa [hbd] using h2
  rw [show cntP (.q is none :: r) + f = (is ++ alL none).length + (cntP r + f) by simp only [cntP];omega]
  have hR0 : Rel X ⟨[],c.loc⟩ ρ σ a w := ⟨fun t s he => by simp at he,hr.len,hr.lenS,hr.loc,hr.inj,hr.lt,hr.fresh,hr.low,hr.defers,hr.size,hr.one,hr.pin⟩
  exact set_sound (al := none) (l := []) (t := 0) (s := vv undef) hQF ⟨fun k hk => by cases hk⟩ hL hq0 (fun ρ' σ' a' w' hr' => hnext ρ' σ' a' w' hr' hp.2) _ L a w (cntU_all (fun i hi => getD_both (hLun i hi))) hL (fun _ _ _ => rfl) hcl (fun _ h => h) hR0
    (fun k i u h1 _ h3 => by rw [getD_both (hLun i (List.mem_append_left _ (List.mem_of_getElem? h1)))] at h3;cases h3)
    (fun t' u _ hu => hr.env t' u hu)
    (fun k e h3 => by rw [getD_both (hLun k (List.mem_append_right _ (by rw [e];simp [alL])))] at h3;cases h3)
theorem SX.quiet2 {c c1 c2 : Cfg} {id : Nat} {l : List Oper} {K : Exit → Cfg → Prop} {is js : List Nat} {ss ss2 : List SV} {i : Nat} {o : Oper} (hm : X.P.follows .mixedOrders = true) (hB : planAll l [.q is none,.q js none,.s i] = true)
    (h1 : QF X l.toArray is c ss c1) (h2 : QF X l.toArray js c1 ss2 c2) (ho : l.toArray[i]? = some o) (hg : o.guard = none) (h : VO X o c2 (K .normal)) : SX X (.region id l.toArray true) c K := fun ρ σ a w hr => by
  simp only [planAll,Bool.and_eq_true,decide_eq_true_eq] at hB
  have hr' : Rel X c ρ σ a { w with drawn := w.drawn + 1 } := hr.below ⟨rfl,rfl,rfl,Nat.le_refl _,fun _ _ => rfl⟩
  have h3 : wpAny X.P .any l.toArray (QN fun a w => Post X K .normal a w) (cntP [.q is none,.q js none,.s i] + 0) (Array.replicate l.length false) a { w with drawn := w.drawn + 1 } := by
    refine q_sound h1 hB.2 (by simp) (fun ρ1 σ1 a1 w1 hr1 hp1 => ?_) ρ σ a _ hr'
    refine q_sound h2 hp1 (by rw [setL_size];simp) (fun ρ2 σ2 a2 w2 hr2 hp2 => ?_) ρ1 σ1 a1 w1 hr1
    simp only [planOK,Bool.and_eq_true,decide_eq_true_eq] at hp2
    rw [show cntP [Pl.s i] + 0 = (cntP [] + 0) + 1 from rfl]
    refine wpAny_all hp2.1 (by simp) (fun j hj => ?_)
    have : j = i := by simpa using hj
    subst this
    refine wpOp_list ho ?_
    exact OX.cons hg h (fun c' hc => .nil hc) _ (fun c3 ρ3 σ3 a3 w3 hr3 hk => ⟨rfl,wpAny_done (by simpa [planOK,List.isEmpty_iff] using hp2.2) ⟨rfl,⟨c3,ρ3,σ3,hr3,hk⟩⟩ _⟩) ρ2 σ2 a2 w2 hr2
  have h4 : (Code.region id l.toArray true).wp X.P (QN fun a w => Post X K .normal a w) a w := wp_region_any hm (by rw [hB.1.2] at h3;simpa using h3)
  exact Go.wp_mono h4 (fun e a w h => by obtain ⟨rfl,h⟩ := h;exact h)
theorem bits_xor8 (a b : UInt8) : bits .xor .u8 (a.toNat : Int) (b.toNat : Int) = ((a ^^^ b).toNat : Int) := by
  have h8 : IntKind.u8.bits = 8 := rfl
  have ha := a.toNat_lt
  have hb := b.toNat_lt
  have hc := (a ^^^ b).toNat_lt
  simp [bits,Op.intBits]
  rw [h8,Nat.mod_eq_of_lt ha,Nat.mod_eq_of_lt hb,← UInt8.toNat_xor,IntKind.wrap_u8]
  omega
theorem PO.xor8 {c : Cfg} {d : Option Tmp} {ty : TypeId} {pos : String} {af : Array Edge} {g : Option (Nat × Bool)} {t t2 : TypeId} {x y : Operand} {a b : UInt8} (hx : c.ev x = vv (.int .u8 a.toNat)) (hy : c.ev y = vv (.int .u8 b.toNat)) : PO X ⟨d,.binOp .xor t x y t2,ty,pos,af,g⟩ c (vv (.int .u8 (a ^^^ b).toNat)) := by
  obtain ⟨r,h,e⟩ := PO.binOp (X := X) (c := c) (d := d) (ty := ty) (pos := pos) (af := af) (g := g) (op := .xor) (t := t) (t2 := t2) (x := x) (y := y) (u := .int .u8 a.toNat) (v := .int .u8 b.toNat) (N := fun r => r = .int .u8 (a ^^^ b).toNat) (by rw [hx];rfl) (by rw [hy];rfl) (show IntKind.u8 = IntKind.u8 ∧ Value.int .u8 (bits .xor .u8 a.toNat b.toNat) = Value.int .u8 (a ^^^ b).toNat from ⟨rfl,by rw [bits_xor8]⟩)
  rw [← e];exact h
theorem PO.remI {c : Cfg} {d : Option Tmp} {ty : TypeId} {pos : String} {af : Array Edge} {g : Option (Nat × Bool)} {t t2 : TypeId} {x y : Operand} {q n : Nat} (hx : c.ev x = vv (.int .i64 q)) (hy : c.ev y = vv (.int .i64 n)) (hn : 0 < n) : PO X ⟨d,.binOp .rem t x y t2,ty,pos,af,g⟩ c (vv (.int .i64 ((q % n : Nat) : Int))) := by
  obtain ⟨r,h,e⟩ := PO.binOp (X := X) (c := c) (d := d) (ty := ty) (pos := pos) (af := af) (g := g) (op := .rem) (t := t) (t2 := t2) (x := x) (y := y) (u := .int .i64 q) (v := .int .i64 n) (N := fun r => r = .int .i64 ((q % n : Nat) : Int)) (by rw [hx];rfl) (by rw [hy];rfl) (show IntKind.i64 = IntKind.i64 ∧ (n : Int) ≠ 0 ∧ Value.int .i64 ((q : Int).tmod (n : Int)) = Value.int .i64 ((q % n : Nat) : Int) from ⟨rfl,by omega,rfl⟩)
  rw [← e];exact h
end
end Go.Sx
namespace Go.Proofs.YtbdacbcpniegiaaGreatDoor.Q
open Go Go.RowKit Go.Proofs Go.Sx
def bendAt (at_ : Int) (n : Nat) : Nat := ((if at_ < 0 then -(at_ + 1) else at_).toNat) % n
def bendL (s : List UInt8) (at_ : Int) (by_ : UInt8) : List UInt8 := if s = [] then [] else s.set (bendAt at_ s.length) (s.getD (bendAt at_ s.length) 0 ^^^ by_)
theorem moveE {X : Ctx} {c : Cfg} {d : Option Tmp} {ty : TypeId} {pos : String} {af : Array Edge} {g : Option (Nat × Bool)} {x : Operand} {s : SV} (h : c.ev x = s) : Go.Sx.PO X ⟨d,.move x,ty,pos,af,g⟩ c s := h ▸ .move
theorem qfCons {X : Ctx} {ops : Array Oper} {i : Nat} {is : List Nat} {o : Oper} {e e' : Cfg} {s : SV} {ss : List SV} (ho : ops[i]? = some o) (hd : dOk o.dst X.nt = true) (hg : o.guard = none) (h : Go.Sx.PO X o (e.only (o.looksAt ops)) s) (hq : QF X ops is (e.put o.dst s) ss e') : QF X ops (i :: is) e (s :: ss) e' := .cons i is o e s ss e' ho hd (.of_po hg h) hq
theorem bend6 {X : Ctx} (hP : X.P = Tryz.prog) (hnt : X.nt = 35) (hbl : X.base.length = 0) (s : List UInt8) (q : Nat) (by_ : UInt8) (hp : 0 < s.length) (K : Exit → Cfg → Prop)
    (h : SX X (sub [true,true,true,true,true] (Tryz.f13.body.getD .skip)) ⟨[(7,.one (.c (.row 0)))],[markB 5 (s.set (q % s.length) (s[q % s.length]'(Nat.mod_lt q hp) ^^^ by_))]⟩ K) :
    SX X (sub [true,true,true,true] (Tryz.f13.body.getD .skip)) ⟨[(7,.one (.c (.row 0))),(1,vv (.int .i64 q)),(2,vv (.int .u8 by_.toNat))],[markB 5 s]⟩ K := by
  have hm : X.P.follows .mixedOrders = true := by rw [hP];kernel_rfl
  have u58 : X.P.underlying 27 = some (.slice 5) := by rw [hP];kernel_rfl
  have u3 : elemSz X.P 27 = some (5,1) := by rw [hP];kernel_rfl
  have a5 : aggOf X.P 5 = some false := by rw [hP];kernel_rfl
  have z5 : szOf X.P 5 = some 1 := by rw [hP];kernel_rfl
  have hd : ∀ d : Nat,d < 35 → dOk (some d) X.nt = true := fun d hd => by rw [hnt];simpa [dOk] using hd
  have hlt := Nat.mod_lt q hp
  simp only [sub,Tryz.f13,Option.getD_some] at h ⊢
  refine SX.seq ?_
  apply SX.quiet2 (is := [0,1,2,3,4,5,6,7,8,9,10,11,12,13]) (js := [14]) (i := 15) hm (by kernel_rfl)
  case h1 =>
    apply qfCons rfl (hd _ (by decide)) rfl (moveE (s := .one (.c (.row 0))) rfl)
    apply qfCons rfl (hd _ (by decide)) rfl (moveE (s := vv (.int .i64 q)) rfl)
    apply qfCons rfl (hd _ (by decide)) rfl (moveE (s := .one (.c (.row 0))) rfl)
    apply qfCons rfl (hd _ (by decide)) rfl (PO.lenMark (i := 0) (l := s) (e := 5) rfl rfl u58)
    apply qfCons rfl (hd _ (by decide)) rfl (PO.remI (q := q) (n := s.length) rfl rfl hp)
    apply qfCons rfl (hd _ (by decide)) rfl (moveE (s := .one (.c (.row 0))) rfl)
    apply qfCons rfl (hd _ (by decide)) rfl (moveE (s := vv (.int .i64 q)) rfl)
    apply qfCons rfl (hd _ (by decide)) rfl (moveE (s := .one (.c (.row 0))) rfl)
    apply qfCons rfl (hd _ (by decide)) rfl (PO.lenMark (i := 0) (l := s) (e := 5) rfl rfl u58)
    apply qfCons rfl (hd _ (by decide)) rfl (PO.remI (q := q) (n := s.length) rfl rfl hp)
    apply qfCons rfl (hd _ (by decide)) rfl (show Go.Sx.PO X _ _ (.one (.c (.ri 0 (q % s.length)))) from PO.indexMark (r := 0) (l := s) (e' := 5) (j := ((q % s.length : Nat) : Int)) rfl rfl rfl u3 (by omega) (by omega))
    apply qfCons rfl (hd _ (by decide)) rfl (PO.loadMark (r := 0) (l := s) (e := 5) (k := q % s.length) rfl rfl a5 hlt)
    apply qfCons rfl (hd _ (by decide)) rfl (moveE (s := vv (.int .u8 by_.toNat)) rfl)
    apply qfCons rfl (hd _ (by decide)) rfl (PO.xor8 (a := s[q % s.length]) (b := by_) rfl rfl)
    exact QF.nil _
  case h2 =>
    apply qfCons rfl (hd _ (by decide)) rfl (show Go.Sx.PO X _ _ (.one (.c (.ri 0 (q % s.length)))) from PO.indexMark (r := 0) (l := s) (e' := 5) (j := ((q % s.length : Nat) : Int)) rfl rfl rfl u3 (by omega) (by omega))
    exact QF.nil _
  case ho => rfl
  case hg => rfl
  case h =>
    refine VO.storeMark (i := 0) (k := q % s.length) (l := s) (u := s[q % s.length] ^^^ by_) rfl rfl z5 rfl hlt ?_
    exact SX.select (d := ⟨[(7,.one (.c (.row 0)))],[markB 5 (s.set (q % s.length) (s[q % s.length]'(Nat.mod_lt q hp) ^^^ by_))]⟩) [0] (LeR.of (by rw [hbl];decide) (by simp only [GA,↓GB,GX,simprocAttr,GDs]) (by simp only [GA,↓GB,GX,simprocAttr,GDs]) (by decide) (by simp only [GA,↓GB,GX,simprocAttr,GDs]) (by simp only [GA,↓GB,GX,simprocAttr,GDs]) (by simp only [GA,↓GB,GX,simprocAttr,GDs])) h
theorem oxCons {X : Ctx} {ops : Array Oper} {o : Oper} {rest : List Oper} {c : Cfg} {s : SV} {N : Cfg → Prop} (hg : o.guard = none) (hd : dOk o.dst X.nt = true) (h : Go.Sx.PO X o c s) (hn : OX X ops rest (c.put o.dst s) N) : OX X ops (o :: rest) c N :=
  OX.cons (N' := fun c' => c' = c.put o.dst s) hg (VO.of_po h ⟨hd,rfl⟩) (fun c' e => e ▸ hn)
theorem assignE {X : Ctx} {c : Cfg} {d : Option Tmp} {ty : TypeId} {pos : String} {af : Array Edge} {g : Option (Nat × Bool)} {x : Operand} {s : SV} (h : c.ev x = s) : Go.Sx.PO X ⟨d,.assign x,ty,pos,af,g⟩ c s := h ▸ .assign
theorem bend7 {X : Ctx} (hP : X.P = Tryz.prog) (hnt : X.nt = 35) (hbl : X.base.length = 0) (l : List UInt8) (K : Exit → Cfg → Prop) (h : SX X .ret ⟨[(6,vv (.string (B l)))],[markB 5 l]⟩ K) :
    SX X (sub [true,true,true,true,true] (Tryz.f13.body.getD .skip)) ⟨[(7,.one (.c (.row 0)))],[markB 5 l]⟩ K := by
  have u9 : X.P.underlying 9 = some .string := by rw [hP];kernel_rfl
  have u58 : X.P.underlying 27 = some (.slice 5) := by rw [hP];kernel_rfl
  have u5 : X.P.underlying 5 = some (.int .u8) := by rw [hP];kernel_rfl
  have hd : ∀ d : Nat,d < 35 → dOk (some d) X.nt = true := fun d hd => by rw [hnt];simpa [dOk] using hd
  simp only [sub,Tryz.f13,Option.getD_some]
  refine SX.seq (SX.region ?_)
  apply oxCons rfl (hd _ (by decide)) (moveE (s := .one (.c (.row 0))) rfl)
  apply oxCons rfl (hd _ (by decide)) (PO.markString (i := 0) (l := l) (e := 5) (e' := 5) rfl rfl u58 u5 u9)
  apply oxCons rfl (hd _ (by decide)) (assignE (s := vv (.string (B l))) rfl)
  exact OX.nil (SX.select (d := ⟨[(6,vv (.string (B l)))],[markB 5 l]⟩) [0] (LeR.of (by rw [hbl];decide) (by simp only [GA,↓GB,GX,simprocAttr,GDs]) (by simp only [GA,↓GB,GX,simprocAttr,GDs]) (by decide) (by simp only [GA,↓GB,GX,simprocAttr,GDs]) (by simp only [GA,↓GB,GX,simprocAttr,GDs]) (by simp only [GA,↓GB,GX,simprocAttr,GDs])) h)
theorem bend_ctr (s : List UInt8) (hs : s.length ≤ 1099511627776) (at_ : Int) (h0 : -9223372036854775808 ≤ at_) (h1 : at_ ≤ 9223372036854775807) (by_ : UInt8) : Ctr Tryz.prog [] 13 [] [vv (.string (B s)),vv (.int .i64 at_),vv (.int .u8 by_.toNat)] (fun os v => os = [] ∧ v = vv (.string (B (bendL s at_ by_)))) := by
  refine Ctr.less ?_
  unfold bendL
  by_cases he : s = []
  · subst he
    rw [if_pos rfl]
    intro X0 hP0 hG0 N0 hN0
    refine CallVC.inline (f := 13) (by rw [hP0];exact Tryz.func13) rfl Tryz.ntmps13 rfl (by simp) ?_
    intro X K hU hnt hbl hK
    have hP : X.P = Tryz.prog := hU.P.trans hP0
    have hG := hG0.under hU
    have hT := Ty.T13 hP
    simp only [GA,↓GB,GX,simprocAttr] at hbl ⊢
    repeat' (first|(refine SX.seqK ?_;intro N hN)|((first | (refine SX.ops ?_) | (refine SX.planT (id := 6) [.q [(0,[7]),(1,[1]),(2,[7]),(3,[20]),(4,[19,21]),(5,[7]),(6,[1]),(7,[7]),(8,[25]),(9,[24,26]),(10,[23,27]),(11,[28]),(12,[2]),(13,[29,30]),(14,[18,22])] none,.s 15] ?_ ?_ ?_;(focus first | (rw [hP];kernel_rfl) | (rw [hU1P,hP];kernel_rfl));(focus kernel_rfl)));simp only [GA,↓GB,GX,simprocAttr,hnt,hT])|((first | refine SX.skip ?_ | refine SX.exit ?_ | refine SX.label ?_ | refine SX.ret ?_);try simp only [GA,↓GB,GX,simprocAttr])|(refine hN _ ?_;clear hN N)|((first | refine hK _ _ (FinI.ret3 ?_) | refine hK _ _ (FinI.nrm3 ?_));simp only [GA,↓GB,GX,simprocAttr,finP_s,hnt,hT];refine Done.out ?_)|((first | refine SX.cond rfl (fun hb => ?_) (fun hb => ?_) | (refine bif2.mk (fun hb => ?_) (fun hb => ?_) <;> (try simp only [hb,GA,↓GB,GX,simprocAttr,hnt,hT]))) <;> ((first | cases hb | (simp only [HBs] at hb) | skip) <;> (first | (exfalso;omega) | skip)))|(refine and_mk ?_ ?_;(focus first | decide | omega | rfl | assumption | (simp only [LBs];omega) | (simp;done)))|(refine And.intro ?_ ?_))
    all_goals (try refine Done.mk ?_)
    all_goals ((refine hN0 _ _ ⟨[],_,_,?_,?_,?_,⟨rfl,rfl⟩⟩;(focus exact LeR.of rfl trivial (by simp only [GA,↓GB,GX,simprocAttr,GDs]) (by decide) rfl rfl rfl);rotate_left;(focus rfl));rfl)
  · rw [if_neg he]
    have hp : 0 < s.length := List.length_pos_iff.2 he
    by_cases hn : at_ < 0
    · obtain ⟨q,hq⟩ : ∃ q : Nat,-(at_ + 1) = q := ⟨(-(at_ + 1)).toNat,by omega⟩
      have hb0 : bendAt at_ s.length = q % s.length := by unfold bendAt;rw [if_pos hn,hq];rfl
      have hlt := Nat.mod_lt q hp
      rw [hb0,List.getD_eq_getElem?_getD,List.getElem?_eq_getElem hlt,Option.getD_some]
      have g1 : IntKind.i64.wrap (at_ + 1) = at_ + 1 := wI64 (by omega) (by omega)
      have g2 : IntKind.i64.wrap (0 - (at_ + 1)) = (q : Int) := by rw [wI64 (by omega) (by omega)];omega
      intro X0 hP0 hG0 N0 hN0
      refine CallVC.inline (f := 13) (by rw [hP0];exact Tryz.func13) rfl Tryz.ntmps13 rfl (by simp) ?_
      intro X K hU hnt hbl hK
      have hP : X.P = Tryz.prog := hU.P.trans hP0
      have hG := hG0.under hU
      have hT := Ty.T13 hP
      simp only [GA,↓GB,GX,simprocAttr] at hbl ⊢
      have u9 : X.P.underlying 9 = some .string := by rw [hP];kernel_rfl
      have u58 : X.P.underlying 27 = some (.slice 5) := by rw [hP];kernel_rfl
      have u5 : X.P.underlying 5 = some (.int .u8) := by rw [hP];kernel_rfl
      have hb6 := fun K h => bend6 hP hnt hbl s q by_ hp K (bend7 hP hnt hbl _ K h)
      simp only [sub,Tryz.f13,Option.getD_some] at hb6
      repeat' (first|(refine SX.select (d := ⟨[(7,.one (.c (.row 0))),(1,vv (.int .i64 q)),(2,vv (.int .u8 by_.toNat))],[markB 5 s]⟩) [0] (LeR.of (by rw [hbl];decide) (by simp only [GA,↓GB,GX,simprocAttr,GDs]) (by simp only [GA,↓GB,GX,simprocAttr,GDs]) (by decide) (by simp only [GA,↓GB,GX,simprocAttr,GDs]) (by simp only [GA,↓GB,GX,simprocAttr,GDs]) (by simp only [GA,↓GB,GX,simprocAttr,GDs])) (hb6 _ ?_))|(refine SX.seqK ?_;intro N hN)|((first | (refine SX.ops ?_) | (refine SX.planT (id := 6) [.q [(0,[7]),(1,[1]),(2,[7]),(3,[20]),(4,[19,21]),(5,[7]),(6,[1]),(7,[7]),(8,[25]),(9,[24,26]),(10,[23,27]),(11,[28]),(12,[2]),(13,[29,30]),(14,[18,22])] none,.s 15] ?_ ?_ ?_;(focus first | (rw [hP];kernel_rfl) | (rw [hU1P,hP];kernel_rfl));(focus kernel_rfl)));simp only [GA,↓GB,GX,simprocAttr,hnt,hT,g1,g2])|((first | refine SX.skip ?_ | refine SX.exit ?_ | refine SX.label ?_ | refine SX.ret ?_);try simp only [GA,↓GB,GX,simprocAttr])|(refine hN _ ?_;clear hN N)|((first | refine hK _ _ (FinI.ret3 ?_) | refine hK _ _ (FinI.nrm3 ?_));simp only [GA,↓GB,GX,simprocAttr,finP_s,hnt,hT,g1,g2];refine Done.out ?_)|((first | refine SX.cond rfl (fun hb => ?_) (fun hb => ?_) | (refine bif2.mk (fun hb => ?_) (fun hb => ?_) <;> (try simp only [hb,GA,↓GB,GX,simprocAttr,hnt,hT,g1,g2]))) <;> ((first | cases hb | (simp only [HBs] at hb) | skip) <;> (first | (exfalso;omega) | skip)))|(refine VO.bytesOf (e := 5) s rfl u9 u58 u5 ?_;simp only [GA,↓GB,GX,simprocAttr,hnt,hT,g1,g2])|(refine and_mk ?_ ?_;(focus first | decide | omega | rfl | assumption | (simp only [LBs];omega) | (simp;done)))|(refine And.intro ?_ ?_))
      all_goals (try refine Done.mk ?_)
      · exact absurd hb he
      · (refine hN0 _ _ ⟨[],_,_,?_,?_,?_,⟨rfl,rfl⟩⟩;(focus exact LeR.of rfl trivial (by simp only [GA,↓GB,GX,simprocAttr,GDs]) (by decide) rfl rfl rfl);rotate_left;(focus rfl))
        rfl
    · obtain ⟨q,rfl⟩ : ∃ q : Nat,at_ = q := ⟨at_.toNat,by omega⟩
      have hb0 : bendAt (q : Int) s.length = q % s.length := by unfold bendAt;rw [if_neg hn];rfl
      have hlt := Nat.mod_lt q hp
      rw [hb0,List.getD_eq_getElem?_getD,List.getElem?_eq_getElem hlt,Option.getD_some]
      intro X0 hP0 hG0 N0 hN0
      refine CallVC.inline (f := 13) (by rw [hP0];exact Tryz.func13) rfl Tryz.ntmps13 rfl (by simp) ?_
      intro X K hU hnt hbl hK
      have hP : X.P = Tryz.prog := hU.P.trans hP0
      have hG := hG0.under hU
      have hT := Ty.T13 hP
      simp only [GA,↓GB,GX,simprocAttr] at hbl ⊢
      have u9 : X.P.underlying 9 = some .string := by rw [hP];kernel_rfl
      have u58 : X.P.underlying 27 = some (.slice 5) := by rw [hP];kernel_rfl
      have u5 : X.P.underlying 5 = some (.int .u8) := by rw [hP];kernel_rfl
      have hb6 := fun K h => bend6 hP hnt hbl s q by_ hp K (bend7 hP hnt hbl _ K h)
      simp only [sub,Tryz.f13,Option.getD_some] at hb6
      repeat' (first|(refine SX.select (d := ⟨[(7,.one (.c (.row 0))),(1,vv (.int .i64 q)),(2,vv (.int .u8 by_.toNat))],[markB 5 s]⟩) [0] (LeR.of (by rw [hbl];decide) (by simp only [GA,↓GB,GX,simprocAttr,GDs]) (by simp only [GA,↓GB,GX,simprocAttr,GDs]) (by decide) (by simp only [GA,↓GB,GX,simprocAttr,GDs]) (by simp only [GA,↓GB,GX,simprocAttr,GDs]) (by simp only [GA,↓GB,GX,simprocAttr,GDs])) (hb6 _ ?_))|(refine SX.seqK ?_;intro N hN)|((first | (refine SX.ops ?_) | (refine SX.planT (id := 6) [.q [(0,[7]),(1,[1]),(2,[7]),(3,[20]),(4,[19,21]),(5,[7]),(6,[1]),(7,[7]),(8,[25]),(9,[24,26]),(10,[23,27]),(11,[28]),(12,[2]),(13,[29,30]),(14,[18,22])] none,.s 15] ?_ ?_ ?_;(focus first | (rw [hP];kernel_rfl) | (rw [hU1P,hP];kernel_rfl));(focus kernel_rfl)));simp only [GA,↓GB,GX,simprocAttr,hnt,hT])|((first | refine SX.skip ?_ | refine SX.exit ?_ | refine SX.label ?_ | refine SX.ret ?_);try simp only [GA,↓GB,GX,simprocAttr])|(refine hN _ ?_;clear hN N)|((first | refine hK _ _ (FinI.ret3 ?_) | refine hK _ _ (FinI.nrm3 ?_));simp only [GA,↓GB,GX,simprocAttr,finP_s,hnt,hT];refine Done.out ?_)|((first | refine SX.cond rfl (fun hb => ?_) (fun hb => ?_) | (refine bif2.mk (fun hb => ?_) (fun hb => ?_) <;> (try simp only [hb,GA,↓GB,GX,simprocAttr,hnt,hT]))) <;> ((first | cases hb | (simp only [HBs] at hb) | skip) <;> (first | (exfalso;omega) | skip)))|(refine VO.bytesOf (e := 5) s rfl u9 u58 u5 ?_;simp only [GA,↓GB,GX,simprocAttr,hnt,hT])|(refine and_mk ?_ ?_;(focus first | decide | omega | rfl | assumption | (simp only [LBs];omega) | (simp;done)))|(refine And.intro ?_ ?_))
      all_goals (try refine Done.mk ?_)
      · first | exact absurd hb he | (exfalso;omega)
      · (refine hN0 _ _ ⟨[],_,_,?_,?_,?_,⟨rfl,rfl⟩⟩;(focus exact LeR.of rfl trivial (by simp only [GA,↓GB,GX,simprocAttr,GDs]) (by decide) rfl rfl rfl);rotate_left;(focus rfl))
        rfl
end Go.Proofs.YtbdacbcpniegiaaGreatDoor.Q
namespace Go.Sx
open Go Go.RowKit
end Go.Sx
namespace Go.Proofs.YtbdacbcpniegiaaGreatDoor
open Go Go.RowKit Go.Proofs Go.Sx
end Go.Proofs.YtbdacbcpniegiaaGreatDoor
namespace Go.Sx
open Go Go.RowKit
end Go.Sx
namespace Go.Proofs.YtbdacbcpniegiaaGreatDoor
open Go Go.RowKit Go.Proofs Go.Sx
def numZ (num n : Nat) : List UInt8 := if n = 0 then [] else numB num n
def haveB (h : HvS) : List UInt8 := textB 1 h.1 ++ numZ 2 h.2
def hF (hv : List HvS) : List NW.Fld := hv.map fun h => ⟨6,2,0,haveB h⟩
end Go.Proofs.YtbdacbcpniegiaaGreatDoor
namespace Go.Proofs.YtbdacbcpniegiaaGreatDoor.Q
open Go Go.RowKit Go.Proofs Go.Sx
end Go.Proofs.YtbdacbcpniegiaaGreatDoor.Q
namespace Go.Proofs.YtbdacbcpniegiaaGreatDoor
open Go Go.RowKit Go.Proofs Go.Sx
end Go.Proofs.YtbdacbcpniegiaaGreatDoor
namespace Go.Proofs.YtbdacbcpniegiaaGreatDoor.Q
open Go Go.RowKit Go.Proofs Go.Sx
@[reducible] def r0 : Rs := ⟨2,[97],3,false,[120]⟩
structure Th where
  r : Rs
  own : Bool
  nm : Nat
deriving Inhabited
def tN (t : Int) : Nat := 1 + ((t % 18446744073709551616) % 5).toNat
end Go.Proofs.YtbdacbcpniegiaaGreatDoor.Q
namespace Go.Proofs.YtbdacbcpniegiaaGreatDoor.Q
open Go Go.RowKit Go.Proofs Go.Sx Go.ChangeShapes
theorem star : "*" ++ "errors.errorString" = "*errors.errorString" := by decide
theorem row253 (u : TypeId) (h : Tryz.prog.typeName? 3 u = some "*errors.errorString") : u = 211 :=
  typeName_ptr_named (nm := "errors.errorString") (by rw [star];kernel_rfl) (by kernel_rfl) (by decide) u (by rw [star];exact h)
theorem nShort : Tryz.prog.globalNamed "noria/wire.errShort" = some 2 := by kernel_rfl
theorem nWrong : Tryz.prog.globalNamed "noria/wire.errWrong" = some 3 := by kernel_rfl
theorem tShort : (Tryz.prog.globals[2]?).map (·.type) = some 98 := by kernel_rfl
theorem tWrong : (Tryz.prog.globals[3]?).map (·.type) = some 98 := by kernel_rfl
theorem c277 : Tryz.prog.cellsOf 235 = 1 := by kernel_rfl
theorem c9 : Tryz.prog.cellsOf 9 = 1 := by kernel_rfl
theorem ctr_calls {P : Program} {G : List (Addr × Value)} {f : FuncId} {args : List SV} {R : List LO → SV → Prop} (h : Ctr P G f [] args R) (w : World) (hG : ∀ p ∈ G,w.cell? p.1 = some p.2 ∧ loneStr w p) {vals : List Value} (ha : All2 (DV []) args vals) :
    Calls P f vals.toArray w fun e w' => ∃ v os' s σ',e = .returned v ∧ R os' s ∧ DV σ' s v ∧ Below w.heap.size w w' := by
  have hr : Rel ⟨P,w,[],0,[]⟩ ⟨[],[]⟩ [] [] { tmps := #[],defers := [] } w :=
    ⟨fun t s h => by simp at h,rfl,rfl,fun i o fp v h => by simp at h,by simp,fun b h => by simp at h,fun b h => by simp at h,Fr.refl _ _,rfl,rfl,fun v h => by simp at h,fun i v h => by simp at h⟩
  refine (h ⟨P,w,[],0,[]⟩ rfl (fun p hp => ⟨(hG p hp).1,by simp,(hG p hp).2⟩) (fun c s => ∃ os',c = ⟨[],os'⟩ ∧ R os' s) (fun os' s hR => ⟨os',rfl,hR⟩) _ _ _ _ hr vals ha).mono ?_
  rintro e w' ⟨v,c',ρ',σ',s,rfl,hr',hd,os',rfl,hR⟩
  exact ⟨v,os',s,σ',rfl,hR,hd,hr'.low.below (by simp)⟩
end Go.Proofs.YtbdacbcpniegiaaGreatDoor.Q
namespace Go.Proofs.YtbdacbcpniegiaaGreatDoor.Q
open Go Go.RowKit Go.ChangeShapes Go.WideShapes Go.ChangeAt Go.Sx Go.Proofs.YtbdacbcpniegiaaGreatDoor
structure RsOk (r : Rs) : Prop where
  t0 : -9223372036854775808 ≤ r.t
  t1 : r.t < 9223372036854775808
  s : r.s.length ≤ 9223372036854775807
  q : r.q < 18446744073709551616
  b : r.b.length ≤ 9223372036854775807
def Th.cells (x : Th) : List Value := x.r.cells ++ [.bool x.own,.int .u8 (x.nm : Int)]
structure Th.Ok (x : Th) : Prop where
  r : RsOk x.r
  nm : x.nm < 256
theorem key_cells {H : Type} {enc : TypeId × Value → H} {W : World} {sp : Nat → Bool} {held : Bool} {n base : Nat} {cs : List Value} {x : DataW H × List MemPlace}
    (h : DataW.trod enc Tryz.prog W base sp held n 50 cs = some x) : ∃ (t : Int) (s : List UInt8),-9223372036854775808 ≤ t ∧ t < 9223372036854775808 ∧ s.length ≤ 9223372036854775807 ∧ cs = [.int .i64 t,.string (B s)] := by
  obtain ⟨zs,m2,rfl,_,hl2,hzs,hf2⟩ := DataW.trod_struct Tryz.underlying50 h
  have c26 : Tryz.prog.cellsOf 50 = 2 := by kernel_rfl
  have c3 : Tryz.prog.cellsOf 3 = 1 := by kernel_rfl
  have c9 : Tryz.prog.cellsOf 9 = 1 := by kernel_rfl
  rw [c26] at hl2
  have k0 : DataW.trod enc Tryz.prog W base sp held m2 3 ((cs.drop 0).take (Tryz.prog.cellsOf 3)) = zs[0]? := hf2 0 _ rfl
  have k1 : DataW.trod enc Tryz.prog W base sp held m2 9 ((cs.drop 1).take (Tryz.prog.cellsOf 9)) = zs[1]? := hf2 1 _ rfl
  have hz2 : zs.length = 2 := hzs
  rw [c3,List.getElem?_eq_getElem (by omega)] at k0
  rw [c9,List.getElem?_eq_getElem (by omega)] at k1
  obtain ⟨a2,e2,_,w2⟩ := DataW.trod_int Tryz.underlying3 k0
  obtain ⟨a3,e3,_,w3⟩ := DataW.trod_string Tryz.underlying9 k1
  have f2 := at1 e2
  have f3 := at1 e3
  have b2 := i64_of w2
  refine ⟨a2,a3.data.toList,b2.1,b2.2,by simpa [maxLen] using w3,?_⟩
  match cs,hl2 with
  | [x0,x1],_ =>
    simp only [List.getElem?_cons_zero,List.getElem?_cons_succ,Option.some.injEq] at f2 f3
    subst f2 f3
    simp only [B_data]
end Go.Proofs.YtbdacbcpniegiaaGreatDoor.Q
namespace Go.Sx
open Go Go.RowKit
def CtrF (P : Program) (F : Ctx → Prop) (f : FuncId) (os : List LO) (args : List SV) (R : List LO → SV → Prop) : Prop :=
  ∀ X : Ctx,X.P = P → F X → ∀ N : Cfg → SV → Prop,(∀ os' s,R os' s → N ⟨[],os'⟩ s) → CallVC X ⟨[],os⟩ f args N
theorem CtrF.use {X : Ctx} {c : Cfg} {P : Program} {F : Ctx → Prop} {f : FuncId} {os : List LO} {args args' : List SV} {R : List LO → SV → Prop} {N : Cfg → SV → Prop} (h : CtrF P F f os args R) (hP : X.P = P) (hF : ∀ X',Under X X' → F X') (sel : List Nat)
    (hle : LeR 0 sel ⟨[],os⟩ c) (ha' : args' = args.map (SV.ren sel)) (hok : (args.all fun s => s.okB sel.length) = true)
    (hN : ∀ os' s,R os' s → N { env := c.env,loc := patchL c.loc sel (selN c.loc.length sel os') os' } (s.ren (selN c.loc.length sel os'))) : CallVC X c f args' N := by
  refine CallVC.frame sel (Q := fun c' s => R c'.loc s) (fun X' hU => h X' (by rw [hU.P,hP]) (hF X' hU) _ (fun os s hr => hr)) hle ha' hok (fun c' s hq => ?_)
  have := hN c'.loc s hq
  rw [selN_eq] at this
  exact this
theorem CtrF.less {P : Program} {F : Ctx → Prop} {f : FuncId} {os : List LO} {args : List SV} {R : List LO → SV → Prop}
    (h : CtrF P F f os args (fun os' r => ∃ sel os2 s2,LeR os.length sel ⟨[],os2⟩ ⟨[],os'⟩ ∧ r = s2.ren sel ∧ s2.okB sel.length = true ∧ R os2 s2)) : CtrF P F f os args R := by
  intro X hP hF N hN ρ σ a w hr vals ha
  have hb : X.base.length ≤ os.length := by
    have hl : σ.length = os.length := hr.lenS
    rcases Nat.lt_or_ge os.length X.base.length with h0 | h0
    · have := hr.pin os.length X.base[os.length] (by simp [h0])
      rw [List.getElem?_eq_none (by omega)] at this;cases this
    · exact h0
  refine (h X hP hF (fun c s => ∃ sel os2 s2,LeR os.length sel ⟨[],os2⟩ c ∧ s = s2.ren sel ∧ s2.okB sel.length = true ∧ R os2 s2) (fun os' s hR => hR) ρ σ a w hr vals ha).mono ?_
  rintro e w' ⟨v,c',ρ',σ',s,rfl,hr',hd,sel,os2,s2,hl,rfl,hok,hR⟩
  exact ⟨v,⟨[],os2⟩,_,_,s2,rfl,Rel.leR ⟨fun i hi => hl.pin i (by omega),hl.env,hl.len,hl.loc,hl.nd,hl.lt,hl.okE,hl.okL⟩ hr',DV.ren hok hd,hN _ _ hR⟩
end Go.Sx
namespace Go.Proofs.YtbdacbcpniegiaaGreatDoor.Q
open Go Go.RowKit Go.Proofs Go.Sx
theorem add_block (ad : Addr) (i : Nat) : (ad.add i).block = ad.block := by unfold Addr.add;split <;> rfl
def FarT (X : Ctx) (q : Option Addr) (xs : List Th) : Prop := ∀ i,i < xs.length → ∃ ad : Addr,q = some ad ∧ ad.block ∉ X.own ∧ ∀ j v,(xs.getD i default).cells[j]? = some v → X.wi.cell? ((ad.add (i * 7)).add j) = some v
theorem FarT.under {X X' : Ctx} {q : Option Addr} {xs : List Th} (h : FarT X q xs) (hU : Under X X') : FarT X' q xs := fun i hi => by
  obtain ⟨ad,e,ho,hc⟩ := h i hi
  have hb : ∀ j,((ad.add (i * 7)).add j).block = ad.block := fun j => by rw [add_block,add_block]
  have h0 : ∃ v,(xs.getD i default).cells[0]? = some v := ⟨_,rfl⟩
  obtain ⟨v,hv⟩ := h0
  refine ⟨ad,e,?_,fun j v hj => (hU.cell (hc j v hj) (by rw [hb];exact ho)).1⟩
  have := (hU.cell (hc 0 v hv) (by rw [hb];exact ho)).2
  rwa [hb] at this
def FarU (X : Ctx) (q : Option Addr) (xs : List UInt8) : Prop := ∀ i,i < xs.length → ∃ ad : Addr,q = some ad ∧ ad.block ∉ X.own ∧ X.wi.cell? (ad.add (i * 1)) = some (.int .u8 (xs.getD i 0).toNat)
theorem FarU.under {X X' : Ctx} {q : Option Addr} {xs : List UInt8} (h : FarU X q xs) (hU : Under X X') : FarU X' q xs := fun i hi => by
  obtain ⟨ad,e,ho,hc⟩ := h i hi
  have := hU.cell hc (by rw [add_block];exact ho)
  exact ⟨ad,e,by have h2 := this.2;rwa [add_block] at h2,this.1⟩
theorem name_any (n : Nat) (hn : n < 256) (w : World) : Calls Tryz.prog 21 #[.int .u8 n] w fun x w' => x = .returned (.string (B (nameL n))) ∧ Below w.heap.size w w' := by
  refine (ctr_calls (name_ctr n hn) w (fun p hp => by cases hp) (vals := [.int .u8 n]) ⟨rfl,trivial⟩).mono ?_
  rintro x w' ⟨v,os',s,σ',rfl,⟨rfl,rfl⟩,hd,hb⟩
  have hd : v = .string (B (nameL n)) := hd
  subst hd
  exact ⟨rfl,hb⟩
structure FarLM (X : Ctx) (qL : Option Addr) (L : List UInt8) (qM : Option Addr) (M : List UInt8) : Prop where
  l : FarU X qL L
  m : FarU X qM M
theorem FarLM.under {X X' : Ctx} {qL qM : Option Addr} {L M : List UInt8} (h : FarLM X qL L qM M) (hU : Under X X') : FarLM X' qL L qM M := ⟨h.l.under hU,h.m.under hU⟩
theorem bendL_len (s : List UInt8) (a : Int) (b : UInt8) : (bendL s a b).length = s.length := by
  unfold bendL;split
  · rename_i h;simp [h]
  · simp
theorem ping_any (n : Nat) (hn : n < 18446744073709551616) (w : World) : Calls Tryz.prog 29 #[.int .u64 n] w fun e w' => e = .returned (.string (B (pingB n))) ∧ Below w.heap.size w w' := by
  refine (ctr_calls (ping_ctr n hn) w (fun p hp => by cases hp) (vals := [.int .u64 n]) ⟨rfl,trivial⟩).mono ?_
  rintro x w' ⟨v,os',s,σ',rfl,⟨rfl,rfl⟩,hd,hb⟩
  have hd : v = .string (B (pingB n)) := hd
  subst hd
  exact ⟨rfl,hb⟩
def sg (s : List UInt8) : StS := (statR s).getD ⟨0,[],0,0,[]⟩
theorem statV_sg (s : List UInt8) : statV (statR s) = .tup [.agg [.v (.int .i64 ((min (sg s).kind 6 : Nat) : Int)),.v (.string (B (sg s).name)),.v (.int .u64 (sg s).seq),.v (.bool (((sg s).fine : Int) == 1)),.v (.string (B (sg s).det))],.c (.v (.bool (statR s).isSome))] := by
  unfold sg
  cases statR s <;> rfl
theorem status_len (t : Int) (s : List UInt8) (q : Nat) (hq : q < 18446744073709551616) (ok : Bool) (d : List UInt8) : (if statusB t s q ok d = true then statusBytes t.toNat s q ok d else []).length ≤ 1000000 := by
  split
  · rename_i h
    obtain ⟨h1,h2,h3,h4,h5,h6⟩ := statusB_spec h
    have n1 := numB_len 1 t.toNat (by decide) (by omega)
    have n2 := textB_len 2 s (by decide) (by omega)
    have n3 := numB_len 3 q (by decide) hq
    have n4 : (if ok then numB 4 1 else []).length ≤ 20 := by
      cases ok
      · simp
      · exact numB_len 4 1 (by decide) (by decide)
    have n5 := textB_len 5 d (by decide) (by omega)
    have n6 : (if d = [] then [] else textB 5 d).length ≤ 300 := by
      split
      · simp
      · omega
    unfold statusBytes
    simp only [List.length_append,List.length_cons,List.length_nil]
    omega
  · simp
theorem small_tail {X : Ctx} {e : EA} (he : e.Ok) (hP : X.P = Tryz.prog) (hnt : X.nt = 169) (hbl : X.base.length = 0) (hG : Known X (GE e)) (t : Int) (s : List UInt8) (hs : s.length ≤ 9223372036854775807) (q : Nat) (hq : q < 18446744073709551616) (ok : Bool) (d : List UInt8)
    (n : Nat) (hn : n < 18446744073709551616) (z : List UInt8) (hz : z.length ≤ 1048576) (own : Nat) (at_ : Int) (h0 : -9223372036854775808 ≤ at_) (h1 : at_ ≤ 9223372036854775807) (by_ : UInt8) (K : Exit → Cfg → Prop)
    (h : ∀ env loc,env.lookup 14 = some (vv (.bool true)) → K .ret ⟨env,loc⟩) : SX X (sub [true,true,true,true] (Tryz.f4.body.getD .skip)) ⟨[(2,vv (.int .u64 n)),(3,vv (.string (B z))),(4,vv (.int .u8 own)),(5,vv (.int .i64 at_)),(6,vv (.int .u8 by_.toNat)),(7,.one (.c (.loc 0 0))),(14,vv (.bool false)),(15,vv (.bool true))],
      [.cells [.v (.int .i64 t),.v (.string (B s)),.v (.int .u64 q),.v (.bool ok),.v (.string (B d))] 52]⟩ K := by
  have hp := putStatus_any t s q ok d hs hq
  have hrp := rPutStatus_any t s q ok d hs hq
  have hbx := status_len t s q hq ok d
  generalize (if statusB t s q ok d = true then statusBytes t.toNat s q ok d else []) = bx at *
  generalize statusB t s q ok d = so at *
  have hpi := ping_any n hn
  have hrpi := rPing_any n hn
  have hpl := pingB_len hn
  have hb0 := bend_ctr bx (by omega) at_ h0 h1 by_
  have hb1 := bend_ctr (pingB n) (by omega) at_ h0 h1 by_
  have gz := getStatus_ctr he z (by omega)
  have rz := rGetStatus_ctr z (by omega)
  have pz := getPing_ctr he z (by omega)
  have qz := rGetPing_ctr z (by omega)
  have g0 := getStatus_ctr he (bendL bx at_ by_) (by rw [bendL_len];omega)
  have r0 := rGetStatus_ctr (bendL bx at_ by_) (by rw [bendL_len];omega)
  have p0 := getPing_ctr he (bendL bx at_ by_) (by rw [bendL_len];omega)
  have q0 := rGetPing_ctr (bendL bx at_ by_) (by rw [bendL_len];omega)
  have g1 := getStatus_ctr he (bendL (pingB n) at_ by_) (by rw [bendL_len];omega)
  have r1 := rGetStatus_ctr (bendL (pingB n) at_ by_) (by rw [bendL_len];omega)
  have p1 := getPing_ctr he (bendL (pingB n) at_ by_) (by rw [bendL_len];omega)
  have q1 := rGetPing_ctr (bendL (pingB n) at_ by_) (by rw [bendL_len];omega)
  rw [statV_sg] at gz rz g0 r0 g1 r1
  generalize bendL bx at_ by_ = z0 at *
  generalize bendL (pingB n) at_ by_ = z1 at *
  generalize pingB n = pn at *
  have hT := Ty.T4 hP
  simp only [sub,Tryz.f4,Option.getD_some]
  repeat' (first|(refine SX.seqK ?_;intro N hN)|((first | (refine SX.ops ?_));simp only [GA,↓GB,GX,simprocAttr,hnt,hT])|((first | refine SX.skip ?_ | refine SX.exit ?_ | refine SX.label ?_ | refine SX.ret ?_);try simp only [GA,↓GB,GX,simprocAttr])|(refine hN _ ?_;clear hN N)|((first | refine SX.cond rfl (fun hb => ?_) (fun hb => ?_) | (refine bif2.mk (fun hb => ?_) (fun hb => ?_) <;> (try simp only [hb,GA,↓GB,GX,simprocAttr,hnt,hT]))) <;> ((first | cases hb | (simp only [HBs] at hb) | skip) <;> (first | (exfalso;omega) | skip)))|((first | (refine CallVC.pt (l := [_,_]) hP (hp) rfl ?_) | (refine CallQ.pt (l := [_,_]) hP (hp) rfl ?_) | (refine CallVC.pt (l := [_,_]) hP (hrp) rfl ?_) | (refine CallQ.pt (l := [_,_]) hP (hrp) rfl ?_) | (refine CallVC.pv hP (hpi) rfl ?_) | (refine CallQ.pv hP (hpi) rfl ?_) | (refine CallVC.pv hP (hrpi) rfl ?_) | (refine CallQ.pv hP (hrpi) rfl ?_) | (refine Ctr.use (hb0) hP ?_ [] ?_ rfl rfl ?_;(focus (intro p hp;cases hp));(focus (refine LeR.of rfl trivial ?_ ?_ ?_ ?_ ?_ <;> first | decide | (simp only [GA,↓GB,GX,simprocAttr,GDs];done)));intro os' s hR;obtain ⟨rfl,rfl⟩ := hR) | (refine Ctr.use (hb1) hP ?_ [] ?_ rfl rfl ?_;(focus (intro p hp;cases hp));(focus (refine LeR.of rfl trivial ?_ ?_ ?_ ?_ ?_ <;> first | decide | (simp only [GA,↓GB,GX,simprocAttr,GDs];done)));intro os' s hR;obtain ⟨rfl,rfl⟩ := hR) | (refine Ctr.use (gz) hP hG [] ?_ rfl rfl ?_;(focus (refine LeR.of rfl trivial ?_ ?_ ?_ ?_ ?_ <;> first | decide | (simp only [GA,↓GB,GX,simprocAttr,GDs];done)));intro os' s hR;obtain ⟨rfl,rfl⟩ := hR) | (refine Ctr.use (pz) hP hG [] ?_ rfl rfl ?_;(focus (refine LeR.of rfl trivial ?_ ?_ ?_ ?_ ?_ <;> first | decide | (simp only [GA,↓GB,GX,simprocAttr,GDs];done)));intro os' s hR;obtain ⟨rfl,rfl⟩ := hR) | (refine Ctr.use (rz) hP ?_ [] ?_ rfl rfl ?_;(focus (intro p hp;cases hp));(focus (refine LeR.of rfl trivial ?_ ?_ ?_ ?_ ?_ <;> first | decide | (simp only [GA,↓GB,GX,simprocAttr,GDs];done)));intro os' s hR;obtain ⟨rfl,rfl⟩ := hR) | (refine Ctr.use (qz) hP ?_ [] ?_ rfl rfl ?_;(focus (intro p hp;cases hp));(focus (refine LeR.of rfl trivial ?_ ?_ ?_ ?_ ?_ <;> first | decide | (simp only [GA,↓GB,GX,simprocAttr,GDs];done)));intro os' s hR;obtain ⟨rfl,rfl⟩ := hR) | (refine Ctr.use (g0) hP hG [] ?_ rfl rfl ?_;(focus (refine LeR.of rfl trivial ?_ ?_ ?_ ?_ ?_ <;> first | decide | (simp only [GA,↓GB,GX,simprocAttr,GDs];done)));intro os' s hR;obtain ⟨rfl,rfl⟩ := hR) | (refine Ctr.use (p0) hP hG [] ?_ rfl rfl ?_;(focus (refine LeR.of rfl trivial ?_ ?_ ?_ ?_ ?_ <;> first | decide | (simp only [GA,↓GB,GX,simprocAttr,GDs];done)));intro os' s hR;obtain ⟨rfl,rfl⟩ := hR) | (refine Ctr.use (r0) hP ?_ [] ?_ rfl rfl ?_;(focus (intro p hp;cases hp));(focus (refine LeR.of rfl trivial ?_ ?_ ?_ ?_ ?_ <;> first | decide | (simp only [GA,↓GB,GX,simprocAttr,GDs];done)));intro os' s hR;obtain ⟨rfl,rfl⟩ := hR) | (refine Ctr.use (q0) hP ?_ [] ?_ rfl rfl ?_;(focus (intro p hp;cases hp));(focus (refine LeR.of rfl trivial ?_ ?_ ?_ ?_ ?_ <;> first | decide | (simp only [GA,↓GB,GX,simprocAttr,GDs];done)));intro os' s hR;obtain ⟨rfl,rfl⟩ := hR) | (refine Ctr.use (g1) hP hG [] ?_ rfl rfl ?_;(focus (refine LeR.of rfl trivial ?_ ?_ ?_ ?_ ?_ <;> first | decide | (simp only [GA,↓GB,GX,simprocAttr,GDs];done)));intro os' s hR;obtain ⟨rfl,rfl⟩ := hR) | (refine Ctr.use (p1) hP hG [] ?_ rfl rfl ?_;(focus (refine LeR.of rfl trivial ?_ ?_ ?_ ?_ ?_ <;> first | decide | (simp only [GA,↓GB,GX,simprocAttr,GDs];done)));intro os' s hR;obtain ⟨rfl,rfl⟩ := hR) | (refine Ctr.use (r1) hP ?_ [] ?_ rfl rfl ?_;(focus (intro p hp;cases hp));(focus (refine LeR.of rfl trivial ?_ ?_ ?_ ?_ ?_ <;> first | decide | (simp only [GA,↓GB,GX,simprocAttr,GDs];done)));intro os' s hR;obtain ⟨rfl,rfl⟩ := hR) | (refine Ctr.use (q1) hP ?_ [] ?_ rfl rfl ?_;(focus (intro p hp;cases hp));(focus (refine LeR.of rfl trivial ?_ ?_ ?_ ?_ ?_ <;> first | decide | (simp only [GA,↓GB,GX,simprocAttr,GDs];done)));intro os' s hR;obtain ⟨rfl,rfl⟩ := hR));simp only [GA,↓GB,GX,simprocAttr,hnt,hT])|(refine ⟨_,strEq_to hP (Ty.eqS50 _ _ _ _),?_⟩ <;> (try simp only [GA,↓GB,GX,simprocAttr,hnt,hT]))|(refine SX.block ?_)|(refine and_mk ?_ ?_;(focus first | decide | omega | rfl | assumption | (simp only [LBs];omega) | (simp;done)))|(refine And.intro ?_ ?_))
  all_goals (try refine Done.mk ?_)
  all_goals exact h _ _ rfl
theorem tN_wrap (t : Int) (h1 : -9223372036854775808 ≤ t) (h2 : t ≤ 9223372036854775807) : IntKind.i64.wrap (1 + IntKind.i64.wrap ((IntKind.u64.wrap t).tmod 5)) = (tN t : Int) := by
  obtain ⟨u,hu⟩ : ∃ u : Int,IntKind.u64.wrap t = u := ⟨_,rfl⟩
  have hu2 : u = t % 18446744073709551616 := by rw [← hu,IntKind.wrap_u64]
  have m0 : 0 ≤ u := by omega
  rw [hu,Int.tmod_eq_emod_of_nonneg m0,wI64 (x := u % 5) (by omega) (by omega),wI64 (by omega) (by omega),tN,hu2]
  omega
theorem small_ctr {e : EA} (he : e.Ok) (t : Int) (ht1 : -9223372036854775808 ≤ t) (ht2 : t ≤ 9223372036854775807) (s : List UInt8) (hs : s.length ≤ 9223372036854775807) (q : Nat) (hq : q < 18446744073709551616) (ok : Bool) (d : List UInt8) (near : Bool)
    (n : Nat) (hn : n < 18446744073709551616) (z : List UInt8) (hz : z.length ≤ 1048576) (own : Nat) (at_ : Int) (h0 : -9223372036854775808 ≤ at_) (h1 : at_ ≤ 9223372036854775807) (by_ : UInt8) :
    Ctr Tryz.prog (GE e) 4 [] [.one (.agg [.v (.int .i64 t),.v (.string (B s)),.v (.int .u64 q),.v (.bool ok),.v (.string (B d))]),vv (.bool near),vv (.int .u64 n),vv (.string (B z)),vv (.int .u8 own),vv (.int .i64 at_),vv (.int .u8 by_.toNat)] (fun os v => os = [] ∧ v = vv (.bool true)) := by
  have hex := ex05_ctr he
  have hwt := tN_wrap t ht1 ht2
  have hw8 : IntKind.u8.wrap (q : Int) = ((q % 256 : Nat) : Int) := by rw [IntKind.wrap_u8];omega
  have hnm := fun w => name_any (q % 256) (Nat.mod_lt _ (by decide)) w
  have hnl := nameL_len ⟨q % 256,Nat.mod_lt _ (by decide)⟩
  simp only at hnl
  generalize nameL (q % 256) = ns at *
  have hn5 : ns.length ≤ 9223372036854775807 := by omega
  refine Ctr.less ?_
  intro X0 hP0 hG0 N0 hN0
  refine CallVC.inline (f := 4) (by rw [hP0];exact Tryz.func4) rfl Tryz.ntmps4 rfl (by simp) ?_
  intro X K hU hnt hbl hK
  have hP : X.P = Tryz.prog := hU.P.trans hP0
  have hG := hG0.under hU
  have hT := Ty.T4 hP
  simp only [GA,↓GB,GX,simprocAttr] at hbl ⊢
  have hend : ∀ env loc,env.lookup 14 = some (vv (.bool true)) → K .ret ⟨env,loc⟩ := fun env loc hl => by
    refine hK _ _ (FinI.ret3 ?_)
    simp only [GA,↓GB,GX,simprocAttr,finP_s,hnt,hT,hl,Option.getD_some]
    (refine hN0 _ _ ⟨[],_,_,?_,?_,?_,⟨rfl,rfl⟩⟩;(focus exact LeR.of rfl trivial (by simp only [GA,↓GB,GX,simprocAttr,GDs]) (by decide) rfl rfl rfl);rotate_left;(focus rfl))
    rfl
  have tl := fun t s hs ok d => small_tail he hP hnt hbl hG t s hs q hq ok d n hn z hz own at_ h0 h1 by_ K hend
  simp only [sub,Tryz.f4,Option.getD_some] at tl
  repeat' (first|(refine SX.select (d := ⟨[(2,vv (.int .u64 n)),(3,vv (.string (B z))),(4,vv (.int .u8 own)),(5,vv (.int .i64 at_)),(6,vv (.int .u8 by_.toNat)),(7,.one (.c (.loc 0 0))),(14,vv (.bool false)),(15,vv (.bool true))],_⟩) [0] ?_ (tl t s hs ok d);(refine LeR.of ?_ ?_ ?_ ?_ ?_ ?_ ?_ <;> first | (rw [hbl];decide) | decide | (simp only [GA,↓GB,GX,simprocAttr,GDs];done)))|(refine SX.select (d := ⟨[(2,vv (.int .u64 n)),(3,vv (.string (B z))),(4,vv (.int .u8 own)),(5,vv (.int .i64 at_)),(6,vv (.int .u8 by_.toNat)),(7,.one (.c (.loc 0 0))),(14,vv (.bool false)),(15,vv (.bool true))],_⟩) [0] ?_ (tl (tN t) ns hn5 true []);(refine LeR.of ?_ ?_ ?_ ?_ ?_ ?_ ?_ <;> first | (rw [hbl];decide) | decide | (simp only [GA,↓GB,GX,simprocAttr,GDs];done)))|(refine SX.select (d := ⟨[(2,vv (.int .u64 n)),(3,vv (.string (B z))),(4,vv (.int .u8 own)),(5,vv (.int .i64 at_)),(6,vv (.int .u8 by_.toNat)),(7,.one (.c (.loc 0 0))),(14,vv (.bool false)),(15,vv (.bool true))],_⟩) [0] ?_ (tl (tN t) ns hn5 true d);(refine LeR.of ?_ ?_ ?_ ?_ ?_ ?_ ?_ <;> first | (rw [hbl];decide) | decide | (simp only [GA,↓GB,GX,simprocAttr,GDs];done)))|(refine SX.select (d := ⟨[(2,vv (.int .u64 n)),(3,vv (.string (B z))),(4,vv (.int .u8 own)),(5,vv (.int .i64 at_)),(6,vv (.int .u8 by_.toNat)),(7,.one (.c (.loc 0 0))),(14,vv (.bool false)),(15,vv (.bool true))],_⟩) [0] ?_ (tl (tN t) ns hn5 false d);(refine LeR.of ?_ ?_ ?_ ?_ ?_ ?_ ?_ <;> first | (rw [hbl];decide) | decide | (simp only [GA,↓GB,GX,simprocAttr,GDs];done)))|(refine SX.seqK ?_;intro N hN)|((first | (refine SX.ops ?_) | (refine SX.planT (id := 5) [.q [(0,[7]),(1,[33]),(2,[34]),(3,[35]),(4,[36]),(5,[37]),(6,[38]),(7,[7]),(8,[40]),(9,[41]),(10,[42]),(11,[39,43]),(12,[7])] none,.s 13] ?_ ?_ ?_;(focus first | (rw [hP];kernel_rfl) | (rw [hU1P,hP];kernel_rfl));(focus kernel_rfl)));simp only [GA,↓GB,GX,simprocAttr,hnt,hT,hwt,hw8])|((first | refine SX.skip ?_ | refine SX.exit ?_ | refine SX.label ?_ | refine SX.ret ?_);try simp only [GA,↓GB,GX,simprocAttr])|(refine hN _ ?_;clear hN N)|((first | refine hK _ _ (FinI.ret3 ?_) | refine hK _ _ (FinI.nrm3 ?_));simp only [GA,↓GB,GX,simprocAttr,finP_s,hnt,hT,hwt,hw8];refine Done.out ?_)|((first | refine SX.cond rfl (fun hb => ?_) (fun hb => ?_) | (refine bif2.mk (fun hb => ?_) (fun hb => ?_) <;> (try simp only [hb,GA,↓GB,GX,simprocAttr,hnt,hT,hwt,hw8]))) <;> ((first | cases hb | (simp only [HBs] at hb) | skip) <;> (first | (exfalso;omega) | skip)))|((first | (refine Ctr.use (hex) hP hG [] ?_ rfl rfl ?_;(focus (refine LeR.of rfl trivial ?_ ?_ ?_ ?_ ?_ <;> first | decide | (simp only [GA,↓GB,GX,simprocAttr,GDs];done)));intro os' s hR;obtain ⟨rfl,rfl⟩ := hR) | (refine CallVC.pv hP (hnm) rfl ?_) | (refine CallQ.pv hP (hnm) rfl ?_));simp only [GA,↓GB,GX,simprocAttr,hnt,hT,hwt,hw8])|(refine SX.block ?_)|(refine and_mk ?_ ?_;(focus first | decide | omega | rfl | assumption | (simp only [LBs];omega) | (simp;done)))|(refine And.intro ?_ ?_))
  all_goals (try refine Done.mk ?_)
  all_goals trace_state
end Go.Proofs.YtbdacbcpniegiaaGreatDoor.Q
namespace Go.Proofs.YtbdacbcpniegiaaGreatDoor.Q
open Go Go.RowKit Go.Proofs Go.Sx Go.ChangeShapes
theorem nKind : Tryz.prog.globalNamed "noria/message.errKind" = some 1 := by kernel_rfl
theorem nForm : Tryz.prog.globalNamed "noria/message.errForm" = some 0 := by kernel_rfl
theorem tKind : (Tryz.prog.globals[1]?).map (·.type) = some 98 := by kernel_rfl
theorem tForm : (Tryz.prog.globals[0]?).map (·.type) = some 98 := by kernel_rfl
theorem ge_of_laid {W : World} {n0 n3 : String} {d0 d3 : DataW Unit} (h : laidMet Tryz.prog [(n0,d0),("noria/wire.errShort",Rows.laid_noria_wire_errShort),("noria/wire.errWrong",Rows.laid_noria_wire_errWrong),("noria/message.errKind",Rows.laid_noria_message_errKind),("noria/message.errForm",Rows.laid_noria_message_errForm),(n3,d3)] W) :
    ∃ e : EA,e.Ok ∧ ∀ p ∈ GE e,W.cell? p.1 = some p.2 ∧ loneStr W p := by
  obtain ⟨ps,⟨gx,tx,csx,fx,px,qx,hgx,htx,hvx,hdx,⟨gz,tz,csz,fz,pz,qz,hgz,htz,hvz,hdz,⟨gw,tw,csw,fw,pw,qw,hgw,htw,hvw,hdw,⟨gk,tk,csk,fk,pk,qk,hgk,htk,hvk,hdk,⟨gf,tf,csf,ff,pf,qf,hgf,htf,hvf,hdf,hq9,ef⟩,ek⟩,ew⟩,ez⟩,ex⟩,hnd,hrows⟩ := h
  obtain rfl := Option.some.inj (nShort.symm.trans hgz)
  obtain rfl := Option.some.inj (tShort.symm.trans htz)
  obtain rfl := Option.some.inj (nWrong.symm.trans hgw)
  obtain rfl := Option.some.inj (tWrong.symm.trans htw)
  obtain rfl := Option.some.inj (nKind.symm.trans hgk)
  obtain rfl := Option.some.inj (tKind.symm.trans htk)
  obtain rfl := Option.some.inj (nForm.symm.trans hgf)
  obtain rfl := Option.some.inj (tForm.symm.trans htf)
  subst ef
  subst ek
  subst ew
  subst ez
  subst ex
  obtain ⟨lz⟩ := csz
  obtain ⟨lw⟩ := csw
  obtain ⟨lk⟩ := csk
  obtain ⟨lf⟩ := csf
  have okz : ∀ u v,lz = [.iface u v] → Value.okWide Tryz.prog W .any 0 u v := fun u v e => by
    subst e
    exact (hrows 2 0 (by simp [MemPlace.row])).2 u v (by simpa using World.var?_cell hgz hvz 0)
  have okw : ∀ u v,lw = [.iface u v] → Value.okWide Tryz.prog W .any 0 u v := fun u v e => by
    subst e
    exact (hrows 3 0 (by simp [MemPlace.row])).2 u v (by simpa using World.var?_cell hgw hvw 0)
  have okk : ∀ u v,lk = [.iface u v] → Value.okWide Tryz.prog W .any 0 u v := fun u v e => by
    subst e
    exact (hrows 1 0 (by simp [MemPlace.row])).2 u v (by simpa using World.var?_cell hgk hvk 0)
  have okf : ∀ u v,lf = [.iface u v] → Value.okWide Tryz.prog W .any 0 u v := fun u v e => by
    subst e
    exact (hrows 0 0 (by simp [MemPlace.row])).2 u v (by simpa using World.var?_cell hgf hvf 0)
  obtain ⟨az,sz,rfl,hcz,hsz,hzz,rfl⟩ := errorString_of_trod Tryz.underlying98 row253 Tryz.underlying211 Tryz.underlying235 rfl rfl Tryz.underlying9 c277 c9 hdz okz
  obtain ⟨aw,sw,rfl,hcw,hsw,hzw,rfl⟩ := errorString_of_trod Tryz.underlying98 row253 Tryz.underlying211 Tryz.underlying235 rfl rfl Tryz.underlying9 c277 c9 hdw okw
  obtain ⟨ak,sk,rfl,hck,hsk,hzk,rfl⟩ := errorString_of_trod Tryz.underlying98 row253 Tryz.underlying211 Tryz.underlying235 rfl rfl Tryz.underlying9 c277 c9 hdk okk
  obtain ⟨af,sf,rfl,hcf,hsf,hzf,rfl⟩ := errorString_of_trod Tryz.underlying98 row253 Tryz.underlying211 Tryz.underlying235 rfl rfl Tryz.underlying9 c277 c9 hdf okf
  obtain ⟨bz,uz,hbz⟩ := (hrows az.block az.off (by simp [MemPlace.row])).1
  have hxz : W.cell? ⟨2,0,none⟩ = some (errV az) := by simpa using World.var?_cell hgz hvz 0
  obtain ⟨bw,uw,hbw⟩ := (hrows aw.block aw.off (by simp [MemPlace.row])).1
  have hxw : W.cell? ⟨3,0,none⟩ = some (errV aw) := by simpa using World.var?_cell hgw hvw 0
  obtain ⟨bk,uk,hbk⟩ := (hrows ak.block ak.off (by simp [MemPlace.row])).1
  have hxk : W.cell? ⟨1,0,none⟩ = some (errV ak) := by simpa using World.var?_cell hgk hvk 0
  obtain ⟨bf,uf,hbf⟩ := (hrows af.block af.off (by simp [MemPlace.row])).1
  have hxf : W.cell? ⟨0,0,none⟩ = some (errV af) := by simpa using World.var?_cell hgf hvf 0
  have key : ∀ (s : ByteArray) (l : List UInt8),s.data.toList = l → s = B l := fun s l h => by
    obtain ⟨⟨x⟩⟩ := s
    have h : x = l := h
    rw [h];rfl
  have esz : sz = B tS := key _ _ hsz
  rw [esz] at hcz
  have esw : sw = B tW := key _ _ hsw
  rw [esw] at hcw
  have esk : sk = B tK := key _ _ hsk
  rw [esk] at hck
  have esf : sf = B tF := key _ _ hsf
  rw [esf] at hcf
  refine ⟨⟨ak,af,az,aw⟩,?_,?_⟩
  · have h2 := hnd
    simp [MemPlace.row,List.nodup_append] at h2
    constructor <;> simp only [ne_eq] <;> rintro rfl <;> simp at h2
  · intro p hp
    simp only [GE,List.mem_cons,List.not_mem_nil,or_false] at hp
    rcases hp with rfl | rfl | rfl | rfl | rfl | rfl | rfl | rfl
    · exact ⟨hxk,trivial⟩
    · exact ⟨hxf,trivial⟩
    · exact ⟨hxz,trivial⟩
    · exact ⟨hxw,trivial⟩
    · exact ⟨hck,_,_,hbk⟩
    · exact ⟨hcf,_,_,hbf⟩
    · exact ⟨hcz,_,_,hbz⟩
    · exact ⟨hcw,_,_,hbw⟩
end Go.Proofs.YtbdacbcpniegiaaGreatDoor.Q
namespace Go.Proofs.YtbdacbcpniegiaaGreatDoor.Q
open Go Go.RowKit Go.ChangeShapes Go.WideShapes Go.ChangeAt Go.Sx Go.Proofs Go.Proofs.YtbdacbcpniegiaaGreatDoor
theorem k3 : Tryz.prog.cellsOf 3 = 1 := by kernel_rfl
theorem k4 : Tryz.prog.cellsOf 4 = 1 := by kernel_rfl
structure Ak where
  t : Int
  dl : Bool
  q : Nat
  a0 : Option Addr
  n0 : Nat
  c0 : Nat
  a1 : Option Addr
  n1 : Nat
  c1 : Nat
  a2 : Option Addr
  n2 : Nat
  c2 : Nat
  d : List UInt8
  o : Bool
  qL : Option Addr
  L : List UInt8
  cL : Nat
  qM : Option Addr
  M : List UInt8
  cM : Nat
def Ak.cells (x : Ak) : List Value := [.int .i64 x.t,.bool x.dl,.int .u64 x.q,.slice x.a0 x.n0 x.c0,.slice x.a1 x.n1 x.c1,.slice x.a2 x.n2 x.c2,.string (B x.d),.bool x.o,.slice x.qL x.L.length x.cL,.slice x.qM x.M.length x.cM]
def FarW (W : World) (q : Option Addr) (L : List UInt8) : Prop := ∀ i,i < L.length → ∃ ad,q = some ad ∧ W.cell? (ad.add (i * 1)) = some (.int .u8 ((L.getD i 0).toNat : Nat))
structure Ak.Ok (x : Ak) (W : World) : Prop where
  q : x.q < 18446744073709551616
  d : x.d.length ≤ 9223372036854775807
  l : FarW W x.qL x.L
  m : FarW W x.qM x.M
structure Tk where
  t : Int
  dl : Bool
  mo : Bool
  q : Nat
  v : Nat
  a0 : Option Addr
  n0 : Nat
  c0 : Nat
  a1 : Option Addr
  n1 : Nat
  c1 : Nat
  o : Bool
  qL : Option Addr
  L : List UInt8
  cL : Nat
  qM : Option Addr
  M : List UInt8
  cM : Nat
def Tk.cells (x : Tk) : List Value := [.int .i64 x.t,.bool x.dl,.bool x.mo,.int .u64 x.q,.int .u64 x.v,.slice x.a0 x.n0 x.c0,.slice x.a1 x.n1 x.c1,.bool x.o,.slice x.qL x.L.length x.cL,.slice x.qM x.M.length x.cM]
structure Tk.Ok (x : Tk) (W : World) : Prop where
  q : x.q < 18446744073709551616
  v : x.v < 18446744073709551616
  l : FarW W x.qL x.L
  m : FarW W x.qM x.M
end Go.Proofs.YtbdacbcpniegiaaGreatDoor.Q
namespace Go.Proofs.YtbdacbcpniegiaaGreatDoor.Q
open Go Go.RowKit Go.ChangeShapes Go.WideShapes Go.ChangeAt Go.Sx Go.Proofs Go.Proofs.YtbdacbcpniegiaaGreatDoor
theorem stat_cells {H : Type} {enc : TypeId × Value → H} {W : World} {sp : Nat → Bool} {held : Bool} {n base : Nat} {cs : List Value} {x : DataW H × List MemPlace}
    (h : DataW.trod enc Tryz.prog W base sp held n 52 cs = some x) : ∃ r : Rs,RsOk r ∧ cs = r.cells := by
  obtain ⟨ys,m,rfl,_,hl,hys,hf⟩ := DataW.trod_struct Tryz.underlying52 h
  have cSt : Tryz.prog.cellsOf 52 = 5 := by kernel_rfl
  have c26 : Tryz.prog.cellsOf 50 = 2 := by kernel_rfl
  have c9 : Tryz.prog.cellsOf 9 = 1 := by kernel_rfl
  have c22 : Tryz.prog.cellsOf 22 = 1 := by kernel_rfl
  have c4 : Tryz.prog.cellsOf 4 = 1 := by kernel_rfl
  rw [cSt] at hl
  have g2 : DataW.trod enc Tryz.prog W base sp held m 50 ((cs.drop 0).take (Tryz.prog.cellsOf 50)) = ys[0]? := hf 0 _ rfl
  have g3 : DataW.trod enc Tryz.prog W base sp held m 22 ((cs.drop 2).take (Tryz.prog.cellsOf 22)) = ys[1]? := hf 1 _ rfl
  have g4 : DataW.trod enc Tryz.prog W base sp held m 4 ((cs.drop 3).take (Tryz.prog.cellsOf 4)) = ys[2]? := hf 2 _ rfl
  have g5 : DataW.trod enc Tryz.prog W base sp held m 9 ((cs.drop 4).take (Tryz.prog.cellsOf 9)) = ys[3]? := hf 3 _ rfl
  have hy4 : ys.length = 4 := hys
  rw [c26,List.getElem?_eq_getElem (by omega)] at g2
  rw [c22,List.getElem?_eq_getElem (by omega)] at g3
  rw [c4,List.getElem?_eq_getElem (by omega)] at g4
  rw [c9,List.getElem?_eq_getElem (by omega)] at g5
  obtain ⟨a2,a3,t0,t1,w3,ek⟩ := key_cells g2
  obtain ⟨a4,e4,_,w4⟩ := DataW.trod_int Tryz.underlying22 g3
  obtain ⟨a5,e5,_⟩ := DataW.trod_bool Tryz.underlying4 g4
  obtain ⟨a6,e6,_,w6⟩ := DataW.trod_string Tryz.underlying9 g5
  have f4 := at1 e4
  have f5 := at1 e5
  have f6 := at1 e6
  have b4 := u64_of w4
  have r4 : ((a4.toNat : Nat) : Int) = a4 := by omega
  refine ⟨⟨a2,a3,a4.toNat,a5,a6.data.toList⟩,⟨t0,t1,w3,by show a4.toNat < 18446744073709551616;omega,by simpa [maxLen] using w6⟩,?_⟩
  match cs,hl with
  | [x0,x1,x2,x3,x4],_ =>
    simp only [List.getElem?_cons_zero,List.getElem?_cons_succ,Option.some.injEq] at f4 f5 f6
    have ek : [x0,x1] = [.int .i64 a2,.string (B a3)] := ek
    injection ek with e0 ek
    injection ek with e1 _
    subst f4 f5 f6 e0 e1
    simp only [Rs.cells,B_data,r4]
theorem stat_in {H : Type} {enc : TypeId × Value → H} {W : World} {cs : Array Value} {d : DataW H} {p : List MemPlace} (h : DataW.Trod enc Tryz.prog W 0 (fun _ => true) true 52 (.agg cs) d p) : ∃ y : Rs,RsOk y ∧ cs = y.cells.toArray := by
  obtain ⟨m,hm⟩ := h
  obtain ⟨y,hy,e⟩ := stat_cells hm
  have e : cs.toList = y.cells := e
  exact ⟨y,hy,by rw [← e]⟩
theorem small_any (y : Rs) (hy : RsOk y) (near : Bool) (n : Nat) (hn : n < 18446744073709551616) (z : List UInt8) (hz : z.length ≤ 1048576) (own : Nat) (at_ : Int) (h0 : -9223372036854775808 ≤ at_) (h1 : at_ ≤ 9223372036854775807) (by_ : UInt8) (w : World) {e : EA} (he : e.Ok) (hG : ∀ p ∈ GE e,w.cell? p.1 = some p.2 ∧ loneStr w p) :
    Calls Tryz.prog 4 #[.agg y.cells.toArray,.bool near,.int .u64 n,.string (B z),.int .u8 own,.int .i64 at_,.int .u8 by_.toNat] w fun x w' => x = .returned (.bool true) ∧ Below w.heap.size w w' := by
  obtain ⟨t,s,q,ok,d⟩ := y
  refine (ctr_calls (small_ctr he t hy.t0 (by have := hy.t1;simp only at this;omega) s hy.s q hy.q ok d near n hn z hz own at_ h0 h1 by_) w hG (vals := [.agg #[.int .i64 t,.string (B s),.int .u64 q,.bool ok,.string (B d)],.bool near,.int .u64 n,.string (B z),.int .u8 own,.int .i64 at_,.int .u8 by_.toNat]) ⟨⟨_,rfl,rfl,rfl,rfl,rfl,rfl,trivial⟩,rfl,rfl,rfl,rfl,rfl,rfl,trivial⟩).mono ?_
  rintro x w' ⟨v,os',s,σ',rfl,⟨rfl,rfl⟩,hd,hb⟩
  have hd : v = .bool true := hd
  subst hd
  exact ⟨rfl,hb⟩
end Go.Proofs.YtbdacbcpniegiaaGreatDoor.Q
